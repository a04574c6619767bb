/- The reference's comparisons. -/
import Derived.Test.YteeckncfllbokaaXZb
set_option linter.unusedSimpArgs false
set_option linter.unusedVariables false
namespace Go.Proofs.Yteeckncfllbokaa.X
open Go Go.AL
variable {ext : Nat → Option (List Value → AH → Option (Value × AH))}
/-- Cmp of the reference -/
theorem rcmp_any (hx : Ext0 ext) {H : AH} {va vb : Value} {la lb : List Bool} (fa : IsB H va la) (fb : IsB H vb lb) (hla : la.length < 2 ^ 34) (hlb : lb.length < 2 ^ 34) :
    Run (Cx ext) 41 [va, vb] H fun r H' => AL.Ext H H' ∧ r = .int .i64 (cmpN (val la) (val lb)) := by
  refine Run.intro (fi := IR.fi41) (hx 41 (by decide)) (by kernel_rfl) ?_
  unfold IR.fi41
  simp only [envOf_cons, envOf_nil]
  refine Cw.seq ?_
  refine Cw.region ?_
  (refine Ow.popM rfl ?_; simp only [S0, Nat.reduceEqDiff, Nat.reduceAdd, reduceIte, reduceCtorEq, S1])
  refine Ow.nilM ⟨nofun, ?_⟩
  show Cw _ _ _ _ _
  refine Cw.seq ?_
  refine Cw.region ?_
  (refine Ow.popM rfl ?_; simp only [S0, Nat.reduceEqDiff, Nat.reduceAdd, reduceIte, reduceCtorEq, S1])
  refine Ow.callA (k := 53) (fs := []) (cs := []) (vs := [va]) rfl rfl (by simp only [S0, Nat.reduceEqDiff, Nat.reduceAdd, reduceIte, reduceCtorEq, S1]) (trim_L hx fa.wl (by first | omega | (simp only [SL]; omega))) (fun _ _ _ h => h) ?_
  rintro v1 H1 hx1 ⟨t1, f1, tv1, tl1, th1⟩
  (refine Ow.popM rfl ?_; simp only [S0, Nat.reduceEqDiff, Nat.reduceAdd, reduceIte, reduceCtorEq, S1])
  have fb_3 := fb.ext hx1
  refine Ow.callA (k := 53) (fs := []) (cs := []) (vs := [vb]) rfl rfl (by simp only [S0, Nat.reduceEqDiff, Nat.reduceAdd, reduceIte, reduceCtorEq, S1]) (trim_L hx fb_3.wl (by first | omega | (simp only [SL]; omega))) (fun _ _ _ h => h) ?_
  rintro v2 H2 hx2 ⟨t2, f2, tv2, tl2, th2⟩
  iterate 2 (refine Ow.popM rfl ?_; simp only [S0, Nat.reduceEqDiff, Nat.reduceAdd, reduceIte, reduceCtorEq, S1])
  refine Ow.nilM ⟨nofun, ?_⟩
  show Cw _ _ _ _ _
  refine Cw.seq ?_
  refine Cw.seq ?_
  refine Cw.region ?_
  (refine Ow.popM rfl ?_; simp only [S0, Nat.reduceEqDiff, Nat.reduceAdd, reduceIte, reduceCtorEq, S1])
  have f1_4 := f1.ext hx2
  refine Ow.lenA rfl (by simp only [S0, Nat.reduceEqDiff, Nat.reduceAdd, reduceIte, reduceCtorEq, S1]) f1_4.isB ?_
  (refine Ow.popM rfl ?_; simp only [S0, Nat.reduceEqDiff, Nat.reduceAdd, reduceIte, reduceCtorEq, S1])
  refine Ow.lenA rfl (by simp only [S0, Nat.reduceEqDiff, Nat.reduceAdd, reduceIte, reduceCtorEq, S1]) f2.isB ?_
  (refine Ow.popM rfl ?_; simp only [S0, Nat.reduceEqDiff, Nat.reduceAdd, reduceIte, reduceCtorEq, S1, show ((((t1.length : Nat) : Int) : Int) != (((t2.length : Nat) : Int) : Int)) = !decide (t1.length = t2.length) from ne_dec (t1.length) (t2.length)])
  refine Ow.nilM ⟨nofun, ?_⟩
  show Cw _ _ _ _ _
  by_cases hq5 : t1.length = t2.length
  · have hd5 : decide (t1.length = t2.length) = true := decide_eq_true hq5
    refine Cw.cond (t := false) (by simp only [S0, Nat.reduceEqDiff, Nat.reduceAdd, reduceIte, reduceCtorEq, S1, hd5]) ?_
    refine Cw.skip ?_
    show Cw _ _ _ _ _
    refine Cw.seq ?_
    refine Cw.seq ?_
    refine Cw.region ?_
    (refine Ow.popM rfl ?_; simp only [S0, Nat.reduceEqDiff, Nat.reduceAdd, reduceIte, reduceCtorEq, S1, hd5])
    refine Ow.lenA rfl (by simp only [S0, Nat.reduceEqDiff, Nat.reduceAdd, reduceIte, reduceCtorEq, S1, hd5]) f1_4.isB ?_
    iterate 2 (refine Ow.popM rfl ?_; simp only [S0, Nat.reduceEqDiff, Nat.reduceAdd, reduceIte, reduceCtorEq, S1, show fwrap .i64 (((t1.length : Nat) : Int) - (1 : Int)) = (t1.length : Int) - 1 - ((0 : Nat) : Int) from (fw_int (by omega) (by omega)).trans (by omega), hd5])
    refine Ow.nilM ⟨nofun, ?_⟩
    show Cw _ _ _ _ _
    refine Cw.block ?_
    refine Cw.loopI (t1.length) (fun k E Hq => (E.get 0 = some (v1) ∧ E.get 1 = some (v2) ∧ E.get 5 = some (.int .i64 ((t1.length : Int) - 1 - ((k : Nat) : Int)))) ∧ AL.Ext H2 Hq ∧ val t1 / 2 ^ (t1.length - k) = val t2 / 2 ^ (t1.length - k)) ⟨⟨(by simp only [S0, Nat.reduceEqDiff, Nat.reduceAdd, reduceIte, reduceCtorEq, S1, and_self, hd5]), (by simp only [S0, Nat.reduceEqDiff, Nat.reduceAdd, reduceIte, reduceCtorEq, S1, and_self, hd5]), (by simp only [S0, Nat.reduceEqDiff, Nat.reduceAdd, reduceIte, reduceCtorEq, S1, and_self, hd5])⟩, (AL.Ext.refl _), (by rw [Nat.sub_zero, Nat.div_eq_of_lt (val_lt t1), hq5, Nat.div_eq_of_lt (val_lt t2)])⟩ ?_
    rintro k6 E6 H6 hk6 ⟨⟨g6_0, g6_1, g6_5⟩, hx6, hdv⟩
    by_cases hlt6 : k6 < t1.length
    · skip
      rw [show (t1.length : Int) - 1 - ((k6 : Nat) : Int) = ((t1.length - (k6 + 1) : Nat) : Int) by omega] at g6_5
      refine Cw.seq ?_
      refine Cw.seq ?_
      refine Cw.region ?_
      iterate 2 (refine Ow.popM rfl ?_; simp only [S0, Nat.reduceEqDiff, Nat.reduceAdd, reduceIte, reduceCtorEq, S1, show decide (((t1.length - (k6 + 1) : Nat) : Int) ≥ 0) = true from decide_eq_true (by omega), g6_0, g6_1, g6_5, hd5])
      refine Ow.nilM ⟨nofun, ?_⟩
      show Cw _ _ _ _ _
      refine Cw.cond (t := true) (by simp only [S0, Nat.reduceEqDiff, Nat.reduceAdd, reduceIte, reduceCtorEq, S1, g6_0, g6_1, g6_5, hd5]) ?_
      refine Cw.skip ?_
      show Cw _ _ _ _ _
      refine Cw.seq ?_
      refine Cw.block ?_
      refine Cw.seq ?_
      refine Cw.region ?_
      iterate 2 (refine Ow.popM rfl ?_; simp only [S0, Nat.reduceEqDiff, Nat.reduceAdd, reduceIte, reduceCtorEq, S1, g6_0, g6_1, g6_5, hd5])
      have f1_7 := f1_4.ext hx6
      refine Ow.rdA (k := .i64) (b := bx t1 (t1.length - (k6 + 1))) (n := t1.length - (k6 + 1)) rfl (fun p => rfl) (by simp only [S0, Nat.reduceEqDiff, Nat.reduceAdd, reduceIte, reduceCtorEq, S1, g6_0, g6_1, g6_5, hd5]) (by simp only [S0, Nat.reduceEqDiff, Nat.reduceAdd, reduceIte, reduceCtorEq, S1, g6_0, g6_1, g6_5, hd5]) f1_7.isB (bx_lt (by omega)) ?_
      intro p8
      iterate 2 (refine Ow.popM rfl ?_; simp only [S0, Nat.reduceEqDiff, Nat.reduceAdd, reduceIte, reduceCtorEq, S1, g6_0, g6_1, g6_5, hd5])
      have f2_9 := f2.ext hx6
      refine Ow.rdA (k := .i64) (b := bx t2 (t1.length - (k6 + 1))) (n := t1.length - (k6 + 1)) rfl (fun p => rfl) (by simp only [S0, Nat.reduceEqDiff, Nat.reduceAdd, reduceIte, reduceCtorEq, S1, g6_0, g6_1, g6_5, hd5]) (by simp only [S0, Nat.reduceEqDiff, Nat.reduceAdd, reduceIte, reduceCtorEq, S1, g6_0, g6_1, g6_5, hd5]) f2_9.isB (bx_lt (by omega)) ?_
      intro p10
      (refine Ow.popM rfl ?_; simp only [S0, Nat.reduceEqDiff, Nat.reduceAdd, reduceIte, reduceCtorEq, S1, g6_0, g6_1, g6_5, hd5])
      refine Ow.nilM ⟨fun _ => by rfl, ?_⟩
      show Cw _ _ _ _ _
      cases hd11 : ((bx t1 (t1.length - (k6 + 1)) != bx t2 (t1.length - (k6 + 1))))
      · skip
        refine Cw.cond (t := false) (by simp only [S0, Nat.reduceEqDiff, Nat.reduceAdd, reduceIte, reduceCtorEq, S1, g6_0, g6_1, g6_5, hd5, hd11]) ?_
        refine Cw.skip ?_
        show Cw _ _ _ _ _
        refine Cw.region ?_
        iterate 3 (refine Ow.popM rfl ?_; simp only [S0, Nat.reduceEqDiff, Nat.reduceAdd, reduceIte, reduceCtorEq, S1, show fwrap .i64 (((t1.length - (k6 + 1) : Nat) : Int) - (1 : Int)) = (t1.length : Int) - 1 - ((k6 + 1 : Nat) : Int) from (fw_int (by omega) (by omega)).trans (by omega), g6_0, g6_1, g6_5, hd5, hd11])
        refine Ow.nilM ⟨nofun, ?_⟩
        have hdv := div_same (X := val t1) (Y := val t2) (j := t1.length - (k6 + 1)) (by rw [show t1.length - (k6 + 1) + 1 = t1.length - k6 by omega]; exact hdv) (by rw [val_bit, val_bit]; exact hd11)
        exact ⟨hlt6, ⟨(by simp only [S0, Nat.reduceEqDiff, Nat.reduceAdd, reduceIte, reduceCtorEq, S1, and_self, g6_0, g6_1, g6_5, hd5, hd11]), (by simp only [S0, Nat.reduceEqDiff, Nat.reduceAdd, reduceIte, reduceCtorEq, S1, and_self, g6_0, g6_1, g6_5, hd5, hd11]), (by simp only [S0, Nat.reduceEqDiff, Nat.reduceAdd, reduceIte, reduceCtorEq, S1, and_self, g6_0, g6_1, g6_5, hd5, hd11] <;> rfl)⟩, hx6, hdv⟩
      · skip
        refine Cw.cond (t := true) (by simp only [S0, Nat.reduceEqDiff, Nat.reduceAdd, reduceIte, reduceCtorEq, S1, g6_0, g6_1, g6_5, hd5, hd11]) ?_
        refine Cw.seq ?_
        refine Cw.seq ?_
        refine Cw.region ?_
        iterate 2 (refine Ow.popM rfl ?_; simp only [S0, Nat.reduceEqDiff, Nat.reduceAdd, reduceIte, reduceCtorEq, S1, g6_0, g6_1, g6_5, hd5, hd11])
        refine Ow.rdA (k := .i64) (b := bx t2 (t1.length - (k6 + 1))) (n := t1.length - (k6 + 1)) rfl (fun p => rfl) (by simp only [S0, Nat.reduceEqDiff, Nat.reduceAdd, reduceIte, reduceCtorEq, S1, g6_0, g6_1, g6_5, hd5, hd11]) (by simp only [S0, Nat.reduceEqDiff, Nat.reduceAdd, reduceIte, reduceCtorEq, S1, g6_0, g6_1, g6_5, hd5, hd11]) f2_9.isB (bx_lt (by omega)) ?_
        intro p12
        refine Ow.nilM ⟨nofun, ?_⟩
        show Cw _ _ _ _ _
        cases hd13 : (bx t2 (t1.length - (k6 + 1)))
        · skip
          refine Cw.cond (t := false) (by simp only [S0, Nat.reduceEqDiff, Nat.reduceAdd, reduceIte, reduceCtorEq, S1, g6_0, g6_1, g6_5, hd5, hd11, hd13]) ?_
          refine Cw.skip ?_
          show Cw _ _ _ _ _
          refine Cw.seq ?_
          refine Cw.region ?_
          (refine Ow.popM rfl ?_; simp only [S0, Nat.reduceEqDiff, Nat.reduceAdd, reduceIte, reduceCtorEq, S1, g6_0, g6_1, g6_5, hd5, hd11, hd13])
          refine Ow.nilM ⟨nofun, ?_⟩
          show Cw _ _ _ _ _
          refine Cw.ret ?_
          simp only [Then, InBlock, Rnd, FnPost, resOf, tupled, S0, Nat.reduceEqDiff, Nat.reduceAdd, reduceIte, reduceCtorEq, g6_0, g6_1, g6_5, hd5, hd11, hd13]
          refine ⟨((hx1.trans hx2).trans hx6), ?_⟩
          rw [← tv1, ← tv2]
          rw [cmp_gt (div_more (j := t1.length - (k6 + 1)) (by rw [show t1.length - (k6 + 1) + 1 = t1.length - k6 by omega]; exact hdv) (by rw [val_bit, val_bit]; exact hd11) (by rw [val_bit]; exact hd13))]
        · skip
          refine Cw.cond (t := true) (by simp only [S0, Nat.reduceEqDiff, Nat.reduceAdd, reduceIte, reduceCtorEq, S1, g6_0, g6_1, g6_5, hd5, hd11, hd13]) ?_
          refine Cw.seq ?_
          refine Cw.region ?_
          (refine Ow.popM rfl ?_; simp only [S0, Nat.reduceEqDiff, Nat.reduceAdd, reduceIte, reduceCtorEq, S1, g6_0, g6_1, g6_5, hd5, hd11, hd13])
          refine Ow.nilM ⟨nofun, ?_⟩
          show Cw _ _ _ _ _
          refine Cw.ret ?_
          simp only [Then, InBlock, Rnd, FnPost, resOf, tupled, S0, Nat.reduceEqDiff, Nat.reduceAdd, reduceIte, reduceCtorEq, g6_0, g6_1, g6_5, hd5, hd11, hd13]
          refine ⟨((hx1.trans hx2).trans hx6), ?_⟩
          rw [← tv1, ← tv2]
          rw [cmp_lt (div_less (j := t1.length - (k6 + 1)) (by rw [show t1.length - (k6 + 1) + 1 = t1.length - k6 by omega]; exact hdv) (by rw [val_bit, val_bit]; exact hd11) (by rw [val_bit]; exact hd13))]
    · obtain rfl : t1.length = k6 := by omega
      refine Cw.seq ?_
      refine Cw.seq ?_
      refine Cw.region ?_
      iterate 2 (refine Ow.popM rfl ?_; simp only [S0, Nat.reduceEqDiff, Nat.reduceAdd, reduceIte, reduceCtorEq, S1, show decide ((t1.length : Int) - 1 - ((t1.length : Nat) : Int) ≥ 0) = false from decide_eq_false (by omega), g6_0, g6_1, g6_5, hd5])
      refine Ow.nilM ⟨nofun, ?_⟩
      show Cw _ _ _ _ _
      refine Cw.cond (t := false) (by simp only [S0, Nat.reduceEqDiff, Nat.reduceAdd, reduceIte, reduceCtorEq, S1, g6_0, g6_1, g6_5, hd5]) ?_
      refine Cw.exit ?_
      show Cw _ _ _ _ _
      refine Cw.seq ?_
      refine Cw.region ?_
      (refine Ow.popM rfl ?_; simp only [S0, Nat.reduceEqDiff, Nat.reduceAdd, reduceIte, reduceCtorEq, S1, g6_0, g6_1, g6_5, hd5])
      refine Ow.nilM ⟨nofun, ?_⟩
      show Cw _ _ _ _ _
      refine Cw.ret ?_
      simp only [Then, InBlock, Rnd, FnPost, resOf, tupled, S0, Nat.reduceEqDiff, Nat.reduceAdd, reduceIte, reduceCtorEq, g6_0, g6_1, g6_5, hd5]
      refine ⟨((hx1.trans hx2).trans hx6), ?_⟩
      rw [← tv1, ← tv2]
      rw [cmp_same (by rw [Nat.sub_self, Nat.pow_zero, Nat.div_one, Nat.div_one] at hdv; exact hdv)]
  · have hd5 : decide (t1.length = t2.length) = false := decide_eq_false hq5
    refine Cw.cond (t := true) (by simp only [S0, Nat.reduceEqDiff, Nat.reduceAdd, reduceIte, reduceCtorEq, S1, hd5]) ?_
    refine Cw.seq ?_
    refine Cw.seq ?_
    refine Cw.region ?_
    (refine Ow.popM rfl ?_; simp only [S0, Nat.reduceEqDiff, Nat.reduceAdd, reduceIte, reduceCtorEq, S1, hd5])
    refine Ow.lenA rfl (by simp only [S0, Nat.reduceEqDiff, Nat.reduceAdd, reduceIte, reduceCtorEq, S1, hd5]) f1_4.isB ?_
    (refine Ow.popM rfl ?_; simp only [S0, Nat.reduceEqDiff, Nat.reduceAdd, reduceIte, reduceCtorEq, S1, hd5])
    refine Ow.lenA rfl (by simp only [S0, Nat.reduceEqDiff, Nat.reduceAdd, reduceIte, reduceCtorEq, S1, hd5]) f2.isB ?_
    (refine Ow.popM rfl ?_; simp only [S0, Nat.reduceEqDiff, Nat.reduceAdd, reduceIte, reduceCtorEq, S1, show decide ((((t1.length : Nat) : Int) : Int) < (((t2.length : Nat) : Int) : Int)) = decide (t1.length < t2.length) from lt_dec (t1.length) (t2.length), hd5])
    refine Ow.nilM ⟨nofun, ?_⟩
    show Cw _ _ _ _ _
    by_cases hq17 : t1.length < t2.length
    · have hd17 : decide (t1.length < t2.length) = true := decide_eq_true hq17
      refine Cw.cond (t := true) (by simp only [S0, Nat.reduceEqDiff, Nat.reduceAdd, reduceIte, reduceCtorEq, S1, hd5, hd17]) ?_
      refine Cw.seq ?_
      refine Cw.region ?_
      (refine Ow.popM rfl ?_; simp only [S0, Nat.reduceEqDiff, Nat.reduceAdd, reduceIte, reduceCtorEq, S1, hd5, hd17])
      refine Ow.nilM ⟨nofun, ?_⟩
      show Cw _ _ _ _ _
      refine Cw.ret ?_
      simp only [Then, InBlock, Rnd, FnPost, resOf, tupled, S0, Nat.reduceEqDiff, Nat.reduceAdd, reduceIte, reduceCtorEq, hd5, hd17]
      refine ⟨(hx1.trans hx2), ?_⟩
      rw [← tv1, ← tv2]
      rw [cmp_lt (shorter_lt hq17 th2)]
    · have hd17 : decide (t1.length < t2.length) = false := decide_eq_false hq17
      refine Cw.cond (t := false) (by simp only [S0, Nat.reduceEqDiff, Nat.reduceAdd, reduceIte, reduceCtorEq, S1, hd5, hd17]) ?_
      refine Cw.skip ?_
      show Cw _ _ _ _ _
      refine Cw.seq ?_
      refine Cw.region ?_
      (refine Ow.popM rfl ?_; simp only [S0, Nat.reduceEqDiff, Nat.reduceAdd, reduceIte, reduceCtorEq, S1, hd5, hd17])
      refine Ow.nilM ⟨nofun, ?_⟩
      show Cw _ _ _ _ _
      refine Cw.ret ?_
      simp only [Then, InBlock, Rnd, FnPost, resOf, tupled, S0, Nat.reduceEqDiff, Nat.reduceAdd, reduceIte, reduceCtorEq, hd5, hd17]
      refine ⟨(hx1.trans hx2), ?_⟩
      rw [← tv1, ← tv2]
      rw [cmp_gt (shorter_lt (by omega) th1)]
theorem scmp_cases (la lb : List Bool) : scmpN la lb = if (ng la != ng lb) = true then (if ng la = true then -1 else 1) else if ng la = true then cmpN (absN lb) (absN la) else cmpN (val la) (val lb) := by
  unfold scmpN
  cases ng la <;> cases ng lb <;> rfl
theorem abs_pos {l : List Bool} (h : ng l = false) : absN l = val l := by unfold absN; rw [h, if_neg (by decide)]
/-- SCmp of the reference -/
theorem rscmp_any (hx : Ext0 ext) {H : AH} {va vb : Value} {la lb : List Bool} (fa : IsB H va la) (fb : IsB H vb lb) (hla : la.length < 2 ^ 33) (hlb : lb.length < 2 ^ 33) :
    Run (Cx ext) 43 [va, vb] H fun r H' => AL.Ext H H' ∧ r = .int .i64 (scmpN la lb) := by
  refine Run.intro (fi := IR.fi43) (hx 43 (by decide)) (by kernel_rfl) ?_
  unfold IR.fi43
  simp only [envOf_cons, envOf_nil]
  refine Cw.seq ?_
  refine Cw.region ?_
  (refine Ow.popM rfl ?_; simp only [S0, Nat.reduceEqDiff, Nat.reduceAdd, reduceIte, reduceCtorEq, S1])
  refine Ow.nilM ⟨nofun, ?_⟩
  show Cw _ _ _ _ _
  refine Cw.seq ?_
  refine Cw.seq ?_
  refine Cw.region ?_
  (refine Ow.popM rfl ?_; simp only [S0, Nat.reduceEqDiff, Nat.reduceAdd, reduceIte, reduceCtorEq, S1])
  refine Ow.callPA (k := 32) (fs := []) (cs := []) (vs := [va]) rfl rfl (by simp only [S0, Nat.reduceEqDiff, Nat.reduceAdd, reduceIte, reduceCtorEq, S1]) (Negative_any hx fa.wl (by first | omega | (simp only [SL]; omega))) ?_
  intro H1 hx1
  (refine Ow.popM rfl ?_; simp only [S0, Nat.reduceEqDiff, Nat.reduceAdd, reduceIte, reduceCtorEq, S1])
  have fb_3 := fb.ext hx1
  refine Ow.callPA (k := 32) (fs := []) (cs := []) (vs := [vb]) rfl rfl (by simp only [S0, Nat.reduceEqDiff, Nat.reduceAdd, reduceIte, reduceCtorEq, S1]) (Negative_any hx fb_3.wl (by first | omega | (simp only [SL]; omega))) ?_
  intro H2 hx2
  (refine Ow.popM rfl ?_; simp only [S0, Nat.reduceEqDiff, Nat.reduceAdd, reduceIte, reduceCtorEq, S1])
  refine Ow.nilM ⟨nofun, ?_⟩
  show Cw _ _ _ _ _
  cases hd4 : ((bx la (la.length - 1) != bx lb (lb.length - 1)))
  · skip
    refine Cw.cond (t := false) (by simp only [S0, Nat.reduceEqDiff, Nat.reduceAdd, reduceIte, reduceCtorEq, S1, hd4]) ?_
    refine Cw.skip ?_
    show Cw _ _ _ _ _
    refine Cw.seq ?_
    refine Cw.seq ?_
    refine Cw.region ?_
    (refine Ow.popM rfl ?_; simp only [S0, Nat.reduceEqDiff, Nat.reduceAdd, reduceIte, reduceCtorEq, S1, hd4])
    have fa_6 := fa.ext hx1
    have fa_7 := fa_6.ext hx2
    refine Ow.callPA (k := 32) (fs := []) (cs := []) (vs := [va]) rfl rfl (by simp only [S0, Nat.reduceEqDiff, Nat.reduceAdd, reduceIte, reduceCtorEq, S1, hd4]) (Negative_any hx fa_7.wl (by first | omega | (simp only [SL]; omega))) ?_
    intro H5 hx5
    refine Ow.nilM ⟨nofun, ?_⟩
    show Cw _ _ _ _ _
    cases hd8 : (bx la (la.length - 1))
    · skip
      refine Cw.cond (t := false) (by simp only [S0, Nat.reduceEqDiff, Nat.reduceAdd, reduceIte, reduceCtorEq, S1, hd4, hd8]) ?_
      refine Cw.skip ?_
      show Cw _ _ _ _ _
      refine Cw.seq ?_
      refine Cw.region ?_
      (refine Ow.popM rfl ?_; simp only [S0, Nat.reduceEqDiff, Nat.reduceAdd, reduceIte, reduceCtorEq, S1, hd4, hd8])
      have fa_10 := fa_7.ext hx5
      refine Ow.callA (k := 33) (fs := []) (cs := []) (vs := [va]) rfl rfl (by simp only [S0, Nat.reduceEqDiff, Nat.reduceAdd, reduceIte, reduceCtorEq, S1, hd4, hd8]) (Size_any hx fa_10.wl (by first | omega | (simp only [SL]; omega))) (fun _ _ _ h => h) ?_
      rintro v9 H9 hx9 ⟨l9, f9, hv9, hl9⟩
      (refine Ow.popM rfl ?_; simp only [S0, Nat.reduceEqDiff, Nat.reduceAdd, reduceIte, reduceCtorEq, S1, hd4, hd8])
      have fb_12 := fb_3.ext hx2
      have fb_13 := fb_12.ext hx5
      have fb_14 := fb_13.ext hx9
      refine Ow.callA (k := 33) (fs := []) (cs := []) (vs := [vb]) rfl rfl (by simp only [S0, Nat.reduceEqDiff, Nat.reduceAdd, reduceIte, reduceCtorEq, S1, hd4, hd8]) (Size_any hx fb_14.wl (by first | omega | (simp only [SL]; omega))) (fun _ _ _ h => h) ?_
      rintro v11 H11 hx11 ⟨l11, f11, hv11, hl11⟩
      have f9_16 := f9.ext hx11
      refine Ow.callA (k := 41) (fs := []) (cs := []) (vs := [v9, v11]) rfl rfl (by simp only [S0, Nat.reduceEqDiff, Nat.reduceAdd, reduceIte, reduceCtorEq, S1, hd4, hd8]) (rcmp_any hx f9_16.wl f11.wl (by first | omega | (simp only [SL]; omega)) (by first | omega | (simp only [SL]; omega))) (fun _ _ _ h => h) ?_
      rintro _ H15 hx15 rfl
      (refine Ow.popM rfl ?_; simp only [S0, Nat.reduceEqDiff, Nat.reduceAdd, reduceIte, reduceCtorEq, S1, hd4, hd8])
      refine Ow.nilM ⟨nofun, ?_⟩
      show Cw _ _ _ _ _
      refine Cw.ret ?_
      simp only [Then, InBlock, Rnd, FnPost, resOf, tupled, S0, Nat.reduceEqDiff, Nat.reduceAdd, reduceIte, reduceCtorEq, hd4, hd8]
      refine ⟨(((((hx1.trans hx2).trans hx5).trans hx9).trans hx11).trans hx15), ?_⟩
      rw [scmp_cases]
      have e1 : (ng la != ng lb) = false := hd4
      have e2 : ng la = false := hd8
      rw [e1, e2]
      simp only [if_true, if_false, Bool.false_eq_true]
      have e3 : ng lb = false := by rw [e2] at e1; simpa using e1
      rw [hv9, hv11, abs_pos e2, abs_pos e3]
    · skip
      refine Cw.cond (t := true) (by simp only [S0, Nat.reduceEqDiff, Nat.reduceAdd, reduceIte, reduceCtorEq, S1, hd4, hd8]) ?_
      refine Cw.seq ?_
      refine Cw.region ?_
      (refine Ow.popM rfl ?_; simp only [S0, Nat.reduceEqDiff, Nat.reduceAdd, reduceIte, reduceCtorEq, S1, hd4, hd8])
      have fb_18 := fb_3.ext hx2
      have fb_19 := fb_18.ext hx5
      refine Ow.callA (k := 33) (fs := []) (cs := []) (vs := [vb]) rfl rfl (by simp only [S0, Nat.reduceEqDiff, Nat.reduceAdd, reduceIte, reduceCtorEq, S1, hd4, hd8]) (Size_any hx fb_19.wl (by first | omega | (simp only [SL]; omega))) (fun _ _ _ h => h) ?_
      rintro v17 H17 hx17 ⟨l17, f17, hv17, hl17⟩
      (refine Ow.popM rfl ?_; simp only [S0, Nat.reduceEqDiff, Nat.reduceAdd, reduceIte, reduceCtorEq, S1, hd4, hd8])
      have fa_21 := fa_7.ext hx5
      have fa_22 := fa_21.ext hx17
      refine Ow.callA (k := 33) (fs := []) (cs := []) (vs := [va]) rfl rfl (by simp only [S0, Nat.reduceEqDiff, Nat.reduceAdd, reduceIte, reduceCtorEq, S1, hd4, hd8]) (Size_any hx fa_22.wl (by first | omega | (simp only [SL]; omega))) (fun _ _ _ h => h) ?_
      rintro v20 H20 hx20 ⟨l20, f20, hv20, hl20⟩
      have f17_24 := f17.ext hx20
      refine Ow.callA (k := 41) (fs := []) (cs := []) (vs := [v17, v20]) rfl rfl (by simp only [S0, Nat.reduceEqDiff, Nat.reduceAdd, reduceIte, reduceCtorEq, S1, hd4, hd8]) (rcmp_any hx f17_24.wl f20.wl (by first | omega | (simp only [SL]; omega)) (by first | omega | (simp only [SL]; omega))) (fun _ _ _ h => h) ?_
      rintro _ H23 hx23 rfl
      (refine Ow.popM rfl ?_; simp only [S0, Nat.reduceEqDiff, Nat.reduceAdd, reduceIte, reduceCtorEq, S1, hd4, hd8])
      refine Ow.nilM ⟨nofun, ?_⟩
      show Cw _ _ _ _ _
      refine Cw.ret ?_
      simp only [Then, InBlock, Rnd, FnPost, resOf, tupled, S0, Nat.reduceEqDiff, Nat.reduceAdd, reduceIte, reduceCtorEq, hd4, hd8]
      refine ⟨(((((hx1.trans hx2).trans hx5).trans hx17).trans hx20).trans hx23), ?_⟩
      rw [scmp_cases]
      have e1 : (ng la != ng lb) = false := hd4
      have e2 : ng la = true := hd8
      rw [e1, e2]
      simp only [if_true, if_false, Bool.false_eq_true]
      rw [hv17, hv20]
  · skip
    refine Cw.cond (t := true) (by simp only [S0, Nat.reduceEqDiff, Nat.reduceAdd, reduceIte, reduceCtorEq, S1, hd4]) ?_
    refine Cw.seq ?_
    refine Cw.seq ?_
    refine Cw.region ?_
    (refine Ow.popM rfl ?_; simp only [S0, Nat.reduceEqDiff, Nat.reduceAdd, reduceIte, reduceCtorEq, S1, hd4])
    have fa_26 := fa.ext hx1
    have fa_27 := fa_26.ext hx2
    refine Ow.callPA (k := 32) (fs := []) (cs := []) (vs := [va]) rfl rfl (by simp only [S0, Nat.reduceEqDiff, Nat.reduceAdd, reduceIte, reduceCtorEq, S1, hd4]) (Negative_any hx fa_27.wl (by first | omega | (simp only [SL]; omega))) ?_
    intro H25 hx25
    refine Ow.nilM ⟨nofun, ?_⟩
    show Cw _ _ _ _ _
    cases hd28 : (bx la (la.length - 1))
    · skip
      refine Cw.cond (t := false) (by simp only [S0, Nat.reduceEqDiff, Nat.reduceAdd, reduceIte, reduceCtorEq, S1, hd4, hd28]) ?_
      refine Cw.skip ?_
      show Cw _ _ _ _ _
      refine Cw.seq ?_
      refine Cw.region ?_
      (refine Ow.popM rfl ?_; simp only [S0, Nat.reduceEqDiff, Nat.reduceAdd, reduceIte, reduceCtorEq, S1, hd4, hd28])
      refine Ow.nilM ⟨nofun, ?_⟩
      show Cw _ _ _ _ _
      refine Cw.ret ?_
      simp only [Then, InBlock, Rnd, FnPost, resOf, tupled, S0, Nat.reduceEqDiff, Nat.reduceAdd, reduceIte, reduceCtorEq, hd4, hd28]
      refine ⟨((hx1.trans hx2).trans hx25), ?_⟩
      rw [scmp_cases]
      have e1 : (ng la != ng lb) = true := hd4
      have e2 : ng la = false := hd28
      rw [e1, e2]
      simp only [if_true, if_false, Bool.false_eq_true]
    · skip
      refine Cw.cond (t := true) (by simp only [S0, Nat.reduceEqDiff, Nat.reduceAdd, reduceIte, reduceCtorEq, S1, hd4, hd28]) ?_
      refine Cw.seq ?_
      refine Cw.region ?_
      (refine Ow.popM rfl ?_; simp only [S0, Nat.reduceEqDiff, Nat.reduceAdd, reduceIte, reduceCtorEq, S1, hd4, hd28])
      refine Ow.nilM ⟨nofun, ?_⟩
      show Cw _ _ _ _ _
      refine Cw.ret ?_
      simp only [Then, InBlock, Rnd, FnPost, resOf, tupled, S0, Nat.reduceEqDiff, Nat.reduceAdd, reduceIte, reduceCtorEq, hd4, hd28]
      refine ⟨((hx1.trans hx2).trans hx25), ?_⟩
      rw [scmp_cases]
      have e1 : (ng la != ng lb) = true := hd4
      have e2 : ng la = true := hd28
      rw [e1, e2]
      simp only [if_true, if_false, Bool.false_eq_true]
theorem cmp_lss (A B : Nat) : decide (cmpN A B < 0) = decide (A < B) := by
  unfold cmpN
  by_cases h : A < B
  · rw [if_pos h, decide_eq_true h]; rfl
  · rw [if_neg h, decide_eq_false h]
    by_cases h2 : A = B
    · rw [if_pos h2]; rfl
    · rw [if_neg h2]; rfl
/-- less -/
theorem less_any (hx : Ext0 ext) {H : AH} {va vb : Value} {la lb : List Bool} (fa : IsB H va la) (fb : IsB H vb lb) (hla : la.length < 2 ^ 34) (hlb : lb.length < 2 ^ 34) :
    Run (Cx ext) 67 [va, vb] H fun r H' => AL.Ext H H' ∧ r = .bool (decide (val la < val lb)) := by
  refine Run.intro (fi := IR.fi67) (hx 67 (by decide)) (by kernel_rfl) ?_
  unfold IR.fi67
  simp only [envOf_cons, envOf_nil]
  refine Cw.seq ?_
  refine Cw.region ?_
  (refine Ow.popM rfl ?_; simp only [S0, Nat.reduceEqDiff, Nat.reduceAdd, reduceIte, reduceCtorEq, S1])
  refine Ow.nilM ⟨nofun, ?_⟩
  show Cw _ _ _ _ _
  refine Cw.seq ?_
  refine Cw.region ?_
  iterate 2 (refine Ow.popM rfl ?_; simp only [S0, Nat.reduceEqDiff, Nat.reduceAdd, reduceIte, reduceCtorEq, S1])
  refine Ow.callA (k := 41) (fs := []) (cs := []) (vs := [va, vb]) rfl rfl (by simp only [S0, Nat.reduceEqDiff, Nat.reduceAdd, reduceIte, reduceCtorEq, S1]) (rcmp_any hx fa.wl fb.wl (by first | omega | (simp only [SL]; omega)) (by first | omega | (simp only [SL]; omega))) (fun _ _ _ h => h) ?_
  rintro _ H1 hx1 rfl
  iterate 2 (refine Ow.popM rfl ?_; simp only [S0, Nat.reduceEqDiff, Nat.reduceAdd, reduceIte, reduceCtorEq, S1, cmp_lss])
  refine Ow.nilM ⟨nofun, ?_⟩
  show Cw _ _ _ _ _
  refine Cw.ret ?_
  simp only [Then, InBlock, Rnd, FnPost, resOf, tupled, S0, Nat.reduceEqDiff, Nat.reduceAdd, reduceIte, reduceCtorEq]
  exact ⟨hx1, trivial⟩
end Go.Proofs.Yteeckncfllbokaa.X
