/- The reference's shifts. -/
import Derived.Test.YteeckncfllbokaaXZd
set_option linter.unusedSimpArgs false
set_option linter.unusedVariables false
namespace Go.Proofs.Yteeckncfllbokaa.X
open Go Go.AL
variable {ext : Nat → Option (List Value → AH → Option (Value × AH))}
theorem rshl_list (l : List Bool) (s : Nat) : ofN l.length (val (List.replicate (min s l.length) false ++ l)) = ofN l.length (val l * 2 ^ s) := by
  rw [val_append]
  by_cases h : s ≤ l.length
  · rw [Nat.min_eq_left h, Nat.mul_comm]
  · rw [Nat.min_eq_right (by omega), Nat.mul_comm, ← big_zero _ _ _ (Nat.le_refl _), ← big_zero _ _ _ (by omega)]
theorem take_bx {l : List Bool} {k : Nat} (h : k < l.length) : l.take (k + 1) = l.take k ++ [bx l k] := by
  rw [List.take_add_one, bx_lt h]; rfl
theorem shr_more {la : List Bool} {s k : Nat} {f : Bool} (h : k < la.length) (hb : la.length - k ≤ s) : (shrF la s f).take k ++ [f] = (shrF la s f).take (k + 1) := by
  rw [take_bx (by rw [shrF_length]; exact h), bx_shrF h, if_neg (by omega)]
theorem shr_less {la : List Bool} {s k : Nat} {f : Bool} (h : k < la.length) (hb : ¬ la.length - k ≤ s) : (shrF la s f).take k ++ [bx la (k + s)] = (shrF la s f).take (k + 1) := by
  rw [take_bx (by rw [shrF_length]; exact h), bx_shrF h, if_pos (by omega)]
/-- Shl of the reference -/
theorem rshl_any (hx : Ext0 ext) {H : AH} {va : Value} {la : List Bool} {n : Int} (fa : IsB H va la) (hla : la.length < 2 ^ 33) :
    Run (Cx ext) 46 [va, .int .i64 (n)] H fun r H' => AL.Ext H H' ∧ IsB H' r (ofN la.length (val la * 2 ^ n.toNat)) := by
  refine Run.intro (fi := IR.fi46) (hx 46 (by decide)) (by kernel_rfl) ?_
  unfold IR.fi46
  simp only [envOf_cons, envOf_nil]
  refine Cw.seq ?_
  refine Cw.region ?_
  (refine Ow.popM rfl ?_; simp only [S0, Nat.reduceEqDiff, Nat.reduceAdd, reduceIte, reduceCtorEq, S1])
  refine Ow.nilM ⟨nofun, ?_⟩
  show Cw _ _ _ _ _
  refine Cw.seq ?_
  refine Cw.region ?_
  iterate 2 (refine Ow.popM rfl ?_; simp only [S0, Nat.reduceEqDiff, Nat.reduceAdd, reduceIte, reduceCtorEq, S1, AL.foldV, amax2, max0])
  (refine Ow.popM rfl ?_; simp only [S0, Nat.reduceEqDiff, Nat.reduceAdd, reduceIte, reduceCtorEq, S1])
  refine Ow.lenA rfl (by simp only [S0, Nat.reduceEqDiff, Nat.reduceAdd, reduceIte, reduceCtorEq, S1]) fa ?_
  (refine Ow.popM rfl ?_; simp only [S0, Nat.reduceEqDiff, Nat.reduceAdd, reduceIte, reduceCtorEq, S1, AL.foldV, amin2, min_nat])
  (refine Ow.popM rfl ?_; simp only [S0, Nat.reduceEqDiff, Nat.reduceAdd, reduceIte, reduceCtorEq, S1])
  refine Ow.nilM ⟨nofun, ?_⟩
  show Cw _ _ _ _ _
  refine Cw.seq ?_
  refine Cw.region ?_
  (refine Ow.popM rfl ?_; simp only [S0, Nat.reduceEqDiff, Nat.reduceAdd, reduceIte, reduceCtorEq, S1])
  refine Ow.makeA (k := .i64) (n := min (n.toNat) (la.length)) rfl (by simp only [S0, Nat.reduceEqDiff, Nat.reduceAdd, reduceIte, reduceCtorEq, S1]) (by omega) ?_
  intro H1 id1 hx1 hi1 m1
  (refine Ow.popM rfl ?_; simp only [S0, Nat.reduceEqDiff, Nat.reduceAdd, reduceIte, reduceCtorEq, S1])
  have fa_3 := fa.ext hx1
  refine Ow.appXA rfl (by simp only [S0, Nat.reduceEqDiff, Nat.reduceAdd, reduceIte, reduceCtorEq, S1]) (by simp only [S0, Nat.reduceEqDiff, Nat.reduceAdd, reduceIte, reduceCtorEq, S1]) m1 hi1 fa_3 (by simp only [List.length_append, List.length_replicate, List.length_cons, List.length_nil, ofN_length, shrF_length, List.length_take]; omega) ?_
  intro v2 H2 hx2 r2
  (refine Ow.popM rfl ?_; simp only [S0, Nat.reduceEqDiff, Nat.reduceAdd, reduceIte, reduceCtorEq, S1])
  have fa_4 := fa_3.ext hx2
  refine Ow.lenA rfl (by simp only [S0, Nat.reduceEqDiff, Nat.reduceAdd, reduceIte, reduceCtorEq, S1]) fa_4 ?_
  refine Ow.callA (k := 31) (fs := []) (cs := []) (vs := [v2, .int .i64 ((la.length : Nat) : Int)]) rfl rfl (by simp only [S0, Nat.reduceEqDiff, Nat.reduceAdd, reduceIte, reduceCtorEq, S1]) (Fit_any hx r2.isB.wl (by omega)) (fun _ _ _ h => h) ?_
  rintro v5 H5 hx5 m5
  (refine Ow.popM rfl ?_; simp only [S0, Nat.reduceEqDiff, Nat.reduceAdd, reduceIte, reduceCtorEq, S1])
  refine Ow.nilM ⟨nofun, ?_⟩
  show Cw _ _ _ _ _
  refine Cw.ret ?_
  simp only [Then, InBlock, Rnd, FnPost, resOf, tupled, S0, Nat.reduceEqDiff, Nat.reduceAdd, reduceIte, reduceCtorEq]
  have e := m5.isR.isB
  rw [rshl_list] at e
  exact ⟨((hx1.trans hx2).trans hx5), e⟩
/-- shifted -/
theorem shifted_any (hx : Ext0 ext) {H : AH} {va : Value} {la : List Bool} {n : Nat} {fill : Bool} (fa : IsB H va la) (hla : la.length < 2 ^ 33) (hn : n < 2 ^ 63) :
    Run (Cx ext) 66 [va, .int .i64 ((n : Nat) : Int), .bool (fill)] H fun r H' => AL.Ext H H' ∧ IsG H H' r (shrF la n fill) := by
  refine Run.intro (fi := IR.fi66) (hx 66 (by decide)) (by kernel_rfl) ?_
  unfold IR.fi66
  simp only [envOf_cons, envOf_nil]
  refine Cw.seq ?_
  refine Cw.region ?_
  (refine Ow.popM rfl ?_; simp only [S0, Nat.reduceEqDiff, Nat.reduceAdd, reduceIte, reduceCtorEq, S1])
  refine Ow.nilM ⟨nofun, ?_⟩
  show Cw _ _ _ _ _
  refine Cw.seq ?_
  refine Cw.region ?_
  (refine Ow.popM rfl ?_; simp only [S0, Nat.reduceEqDiff, Nat.reduceAdd, reduceIte, reduceCtorEq, S1])
  refine Ow.nilM ⟨nofun, ?_⟩
  show Cw _ _ _ _ _
  refine Cw.seq ?_
  refine Cw.seq ?_
  refine Cw.region ?_
  (refine Ow.popM rfl ?_; simp only [S0, Nat.reduceEqDiff, Nat.reduceAdd, reduceIte, reduceCtorEq, S1])
  refine Ow.nilM ⟨nofun, ?_⟩
  show Cw _ _ _ _ _
  refine Cw.block ?_
  refine Cw.loopI (la.length) (fun k E Hq => (E.get 0 = some (va) ∧ E.get 1 = some (.int .i64 ((n : Nat) : Int)) ∧ E.get 2 = some (.bool (fill)) ∧ E.get 8 = some (.int .i64 ((k : Nat) : Int))) ∧ AL.Ext H Hq ∧ (∃ u, E.get 7 = some u ∧ IsG H Hq u ((shrF la n fill).take k))) ⟨⟨(by simp only [S0, Nat.reduceEqDiff, Nat.reduceAdd, reduceIte, reduceCtorEq, S1, and_self]), (by simp only [S0, Nat.reduceEqDiff, Nat.reduceAdd, reduceIte, reduceCtorEq, S1, and_self]), (by simp only [S0, Nat.reduceEqDiff, Nat.reduceAdd, reduceIte, reduceCtorEq, S1, and_self]), (by simp only [S0, Nat.reduceEqDiff, Nat.reduceAdd, reduceIte, reduceCtorEq, eq_self] <;> first | rfl | simp [Nat.mod_one])⟩, (AL.Ext.refl _), ⟨.slice none 0 0, (by simp only [S0, Nat.reduceEqDiff, Nat.reduceAdd, reduceIte, reduceCtorEq, S1]), .inl ⟨rfl, rfl⟩⟩⟩ ?_
  rintro k1 E1 H1 hk1 ⟨⟨g1_0, g1_1, g1_2, g1_8⟩, hx1, ⟨u, g1_7, gu⟩⟩
  by_cases hlt1 : k1 < la.length
  · skip
    refine Cw.seq ?_
    refine Cw.seq ?_
    refine Cw.region ?_
    iterate 2 (refine Ow.popM rfl ?_; simp only [S0, Nat.reduceEqDiff, Nat.reduceAdd, reduceIte, reduceCtorEq, S1, g1_0, g1_1, g1_2, g1_8, g1_7])
    have fa_2 := fa.ext hx1
    refine Ow.lenA rfl (by simp only [S0, Nat.reduceEqDiff, Nat.reduceAdd, reduceIte, reduceCtorEq, S1, g1_0, g1_1, g1_2, g1_8, g1_7]) fa_2 ?_
    (refine Ow.popM rfl ?_; simp only [S0, Nat.reduceEqDiff, Nat.reduceAdd, reduceIte, reduceCtorEq, S1, show decide ((((k1 : Nat) : Int) : Int) < (((la.length : Nat) : Int) : Int)) = decide (k1 < la.length) from lt_dec (k1) (la.length), show decide (k1 < la.length) = true from decide_eq_true (hlt1), g1_0, g1_1, g1_2, g1_8, g1_7])
    refine Ow.nilM ⟨nofun, ?_⟩
    show Cw _ _ _ _ _
    refine Cw.cond (t := true) (by simp only [S0, Nat.reduceEqDiff, Nat.reduceAdd, reduceIte, reduceCtorEq, S1, g1_0, g1_1, g1_2, g1_8, g1_7]) ?_
    refine Cw.skip ?_
    show Cw _ _ _ _ _
    refine Cw.seq ?_
    refine Cw.block ?_
    refine Cw.seq ?_
    refine Cw.region ?_
    iterate 2 (refine Ow.popM rfl ?_; simp only [S0, Nat.reduceEqDiff, Nat.reduceAdd, reduceIte, reduceCtorEq, S1, g1_0, g1_1, g1_2, g1_8, g1_7])
    refine Ow.lenA rfl (by simp only [S0, Nat.reduceEqDiff, Nat.reduceAdd, reduceIte, reduceCtorEq, S1, g1_0, g1_1, g1_2, g1_8, g1_7]) fa_2 ?_
    iterate 3 (refine Ow.popM rfl ?_; simp only [S0, Nat.reduceEqDiff, Nat.reduceAdd, reduceIte, reduceCtorEq, S1, sub_nat (show la.length < 2 ^ 63 by omega) (show k1 ≤ la.length by omega), show decide ((((n : Nat) : Int) : Int) ≥ (((la.length - k1 : Nat) : Int) : Int)) = decide (la.length - k1 ≤ n) from ge_dec (n) (la.length - k1), g1_0, g1_1, g1_2, g1_8, g1_7])
    refine Ow.nilM ⟨nofun, ?_⟩
    show Cw _ _ _ _ _
    by_cases hq3 : la.length - k1 ≤ n
    · have hd3 : decide (la.length - k1 ≤ n) = true := decide_eq_true hq3
      refine Cw.cond (t := true) (by simp only [S0, Nat.reduceEqDiff, Nat.reduceAdd, reduceIte, reduceCtorEq, S1, g1_0, g1_1, g1_2, g1_8, g1_7, hd3]) ?_
      refine Cw.region ?_
      iterate 2 (refine Ow.popM rfl ?_; simp only [S0, Nat.reduceEqDiff, Nat.reduceAdd, reduceIte, reduceCtorEq, S1, g1_0, g1_1, g1_2, g1_8, g1_7, hd3])
      refine Ow.lit1A (b := fill) rfl (by simp only [S0, Nat.reduceEqDiff, Nat.reduceAdd, reduceIte, reduceCtorEq, S1, g1_0, g1_1, g1_2, g1_8, g1_7, hd3]) ?_
      intro H4 id4 hx4 hi4 m4
      have gu_6 := gu.ext hx4
      refine Ow.appB (H0 := H) rfl (by simp only [S0, Nat.reduceEqDiff, Nat.reduceAdd, reduceIte, reduceCtorEq, S1, g1_0, g1_1, g1_2, g1_8, g1_7, hd3]) (by simp only [S0, Nat.reduceEqDiff, Nat.reduceAdd, reduceIte, reduceCtorEq, S1, g1_0, g1_1, g1_2, g1_8, g1_7, hd3]) gu_6 m4.isB (hx1.trans hx4) (by simp only [List.length_append, List.length_replicate, List.length_cons, List.length_nil, ofN_length, shrF_length, List.length_take]; omega) ?_
      intro v5 H5 b5 hx5 g5
      (refine Ow.popM rfl ?_; simp only [S0, Nat.reduceEqDiff, Nat.reduceAdd, reduceIte, reduceCtorEq, S1, g1_0, g1_1, g1_2, g1_8, g1_7, hd3])
      refine Ow.nilM ⟨nofun, ?_⟩
      show Cw _ _ _ _ _
      refine Cw.region ?_
      iterate 3 (refine Ow.popM rfl ?_; simp only [S0, Nat.reduceEqDiff, Nat.reduceAdd, reduceIte, reduceCtorEq, S1, show fwrap .i64 ((((k1 : Nat) : Int) : Int) + (1 : Int)) = ((k1 + 1 : Nat) : Int) from add_nat (a := k1) (b := 1) (by omega), g1_0, g1_1, g1_2, g1_8, g1_7, hd3])
      refine Ow.nilM ⟨nofun, ?_⟩
      exact ⟨hlt1, ⟨(by simp only [S0, Nat.reduceEqDiff, Nat.reduceAdd, reduceIte, reduceCtorEq, S1, and_self, g1_0, g1_1, g1_2, g1_8, g1_7, hd3]), (by simp only [S0, Nat.reduceEqDiff, Nat.reduceAdd, reduceIte, reduceCtorEq, S1, and_self, g1_0, g1_1, g1_2, g1_8, g1_7, hd3]), (by simp only [S0, Nat.reduceEqDiff, Nat.reduceAdd, reduceIte, reduceCtorEq, S1, and_self, g1_0, g1_1, g1_2, g1_8, g1_7, hd3]), (by simp only [S0, Nat.reduceEqDiff, Nat.reduceAdd, reduceIte, reduceCtorEq, S1, and_self, g1_0, g1_1, g1_2, g1_8, g1_7, hd3] <;> rfl)⟩, hx5, ⟨v5, (by simp only [S0, Nat.reduceEqDiff, Nat.reduceAdd, reduceIte, reduceCtorEq, S1, g1_0, g1_1, g1_2, g1_8, g1_7, hd3]), (shr_more hlt1 hq3) ▸ g5⟩⟩
    · have hd3 : decide (la.length - k1 ≤ n) = false := decide_eq_false hq3
      refine Cw.cond (t := false) (by simp only [S0, Nat.reduceEqDiff, Nat.reduceAdd, reduceIte, reduceCtorEq, S1, g1_0, g1_1, g1_2, g1_8, g1_7, hd3]) ?_
      refine Cw.region ?_
      iterate 5 (refine Ow.popM rfl ?_; simp only [S0, Nat.reduceEqDiff, Nat.reduceAdd, reduceIte, reduceCtorEq, S1, add_nat (show k1 + n < 2 ^ 63 by omega) , g1_0, g1_1, g1_2, g1_8, g1_7, hd3])
      refine Ow.callPA (k := 60) (fs := []) (cs := []) (vs := [va, .int .i64 ((k1 + n : Nat) : Int)]) rfl rfl (by simp only [S0, Nat.reduceEqDiff, Nat.reduceAdd, reduceIte, reduceCtorEq, S1, g1_0, g1_1, g1_2, g1_8, g1_7, hd3]) (At_any hx fa_2.wl) ?_
      intro H7 hx7
      refine Ow.lit1A (b := bx la (k1 + n)) rfl (by simp only [S0, Nat.reduceEqDiff, Nat.reduceAdd, reduceIte, reduceCtorEq, S1, g1_0, g1_1, g1_2, g1_8, g1_7, hd3]) ?_
      intro H8 id8 hx8 hi8 m8
      have gu_10 := gu.ext hx7
      have gu_11 := gu_10.ext hx8
      refine Ow.appB (H0 := H) rfl (by simp only [S0, Nat.reduceEqDiff, Nat.reduceAdd, reduceIte, reduceCtorEq, S1, g1_0, g1_1, g1_2, g1_8, g1_7, hd3]) (by simp only [S0, Nat.reduceEqDiff, Nat.reduceAdd, reduceIte, reduceCtorEq, S1, g1_0, g1_1, g1_2, g1_8, g1_7, hd3]) gu_11 m8.isB ((hx1.trans hx7).trans hx8) (by simp only [List.length_append, List.length_replicate, List.length_cons, List.length_nil, ofN_length, shrF_length, List.length_take]; omega) ?_
      intro v9 H9 b9 hx9 g9
      (refine Ow.popM rfl ?_; simp only [S0, Nat.reduceEqDiff, Nat.reduceAdd, reduceIte, reduceCtorEq, S1, g1_0, g1_1, g1_2, g1_8, g1_7, hd3])
      refine Ow.nilM ⟨nofun, ?_⟩
      show Cw _ _ _ _ _
      refine Cw.region ?_
      iterate 3 (refine Ow.popM rfl ?_; simp only [S0, Nat.reduceEqDiff, Nat.reduceAdd, reduceIte, reduceCtorEq, S1, show fwrap .i64 ((((k1 : Nat) : Int) : Int) + (1 : Int)) = ((k1 + 1 : Nat) : Int) from add_nat (a := k1) (b := 1) (by omega), g1_0, g1_1, g1_2, g1_8, g1_7, hd3])
      refine Ow.nilM ⟨nofun, ?_⟩
      exact ⟨hlt1, ⟨(by simp only [S0, Nat.reduceEqDiff, Nat.reduceAdd, reduceIte, reduceCtorEq, S1, and_self, g1_0, g1_1, g1_2, g1_8, g1_7, hd3]), (by simp only [S0, Nat.reduceEqDiff, Nat.reduceAdd, reduceIte, reduceCtorEq, S1, and_self, g1_0, g1_1, g1_2, g1_8, g1_7, hd3]), (by simp only [S0, Nat.reduceEqDiff, Nat.reduceAdd, reduceIte, reduceCtorEq, S1, and_self, g1_0, g1_1, g1_2, g1_8, g1_7, hd3]), (by simp only [S0, Nat.reduceEqDiff, Nat.reduceAdd, reduceIte, reduceCtorEq, S1, and_self, g1_0, g1_1, g1_2, g1_8, g1_7, hd3] <;> rfl)⟩, hx9, ⟨v9, (by simp only [S0, Nat.reduceEqDiff, Nat.reduceAdd, reduceIte, reduceCtorEq, S1, g1_0, g1_1, g1_2, g1_8, g1_7, hd3]), (shr_less hlt1 hq3) ▸ g9⟩⟩
  · obtain rfl : la.length = k1 := by omega
    refine Cw.seq ?_
    refine Cw.seq ?_
    refine Cw.region ?_
    iterate 2 (refine Ow.popM rfl ?_; simp only [S0, Nat.reduceEqDiff, Nat.reduceAdd, reduceIte, reduceCtorEq, S1, g1_0, g1_1, g1_2, g1_8, g1_7])
    have fa_12 := fa.ext hx1
    refine Ow.lenA rfl (by simp only [S0, Nat.reduceEqDiff, Nat.reduceAdd, reduceIte, reduceCtorEq, S1, g1_0, g1_1, g1_2, g1_8, g1_7]) fa_12 ?_
    (refine Ow.popM rfl ?_; simp only [S0, Nat.reduceEqDiff, Nat.reduceAdd, reduceIte, reduceCtorEq, S1, show decide ((((la.length : Nat) : Int) : Int) < (((la.length : Nat) : Int) : Int)) = decide (la.length < la.length) from lt_dec (la.length) (la.length), show decide (la.length < la.length) = false from decide_eq_false (Nat.lt_irrefl _), g1_0, g1_1, g1_2, g1_8, g1_7])
    refine Ow.nilM ⟨nofun, ?_⟩
    show Cw _ _ _ _ _
    refine Cw.cond (t := false) (by simp only [S0, Nat.reduceEqDiff, Nat.reduceAdd, reduceIte, reduceCtorEq, S1, g1_0, g1_1, g1_2, g1_8, g1_7]) ?_
    refine Cw.exit ?_
    show Cw _ _ _ _ _
    refine Cw.seq ?_
    refine Cw.region ?_
    iterate 2 (refine Ow.popM rfl ?_; simp only [S0, Nat.reduceEqDiff, Nat.reduceAdd, reduceIte, reduceCtorEq, S1, g1_0, g1_1, g1_2, g1_8, g1_7])
    refine Ow.nilM ⟨nofun, ?_⟩
    show Cw _ _ _ _ _
    refine Cw.ret ?_
    simp only [Then, InBlock, Rnd, FnPost, resOf, tupled, S0, Nat.reduceEqDiff, Nat.reduceAdd, reduceIte, reduceCtorEq, g1_0, g1_1, g1_2, g1_8, g1_7]
    have e := gu
    rw [List.take_of_length_le (by rw [shrF_length]; exact Nat.le_refl _)] at e
    exact ⟨hx1, e⟩
/-- Shr of the reference -/
theorem rshr_any (hx : Ext0 ext) {H : AH} {va : Value} {la : List Bool} {n : Int} (fa : IsB H va la) (hla : la.length < 2 ^ 33) (hn : n < 2 ^ 63) :
    Run (Cx ext) 47 [va, .int .i64 (n)] H fun r H' => AL.Ext H H' ∧ IsB H' r (shrF la n.toNat false) := by
  refine Run.intro (fi := IR.fi47) (hx 47 (by decide)) (by kernel_rfl) ?_
  unfold IR.fi47
  simp only [envOf_cons, envOf_nil]
  refine Cw.seq ?_
  refine Cw.region ?_
  (refine Ow.popM rfl ?_; simp only [S0, Nat.reduceEqDiff, Nat.reduceAdd, reduceIte, reduceCtorEq, S1])
  refine Ow.nilM ⟨nofun, ?_⟩
  show Cw _ _ _ _ _
  refine Cw.seq ?_
  refine Cw.region ?_
  iterate 3 (refine Ow.popM rfl ?_; simp only [S0, Nat.reduceEqDiff, Nat.reduceAdd, reduceIte, reduceCtorEq, S1, AL.foldV, amax2, max0])
  refine Ow.callA (k := 66) (fs := []) (cs := []) (vs := [va, .int .i64 ((n.toNat : Nat) : Int), .bool false]) rfl rfl (by simp only [S0, Nat.reduceEqDiff, Nat.reduceAdd, reduceIte, reduceCtorEq, S1]) (shifted_any hx fa.wl (by omega) (by omega)) (fun _ _ _ h => h) ?_
  rintro v1 H1 hx1 g1
  (refine Ow.popM rfl ?_; simp only [S0, Nat.reduceEqDiff, Nat.reduceAdd, reduceIte, reduceCtorEq, S1])
  refine Ow.nilM ⟨nofun, ?_⟩
  show Cw _ _ _ _ _
  refine Cw.ret ?_
  simp only [Then, InBlock, Rnd, FnPost, resOf, tupled, S0, Nat.reduceEqDiff, Nat.reduceAdd, reduceIte, reduceCtorEq]
  exact ⟨hx1, g1.isR.isB⟩
/-- Sar of the reference -/
theorem rsar_any (hx : Ext0 ext) {H : AH} {va : Value} {la : List Bool} {n : Int} (fa : IsB H va la) (hla : la.length < 2 ^ 33) (hn : n < 2 ^ 63) :
    Run (Cx ext) 48 [va, .int .i64 (n)] H fun r H' => AL.Ext H H' ∧ IsB H' r (shrF la n.toNat (bx la (la.length - 1))) := by
  refine Run.intro (fi := IR.fi48) (hx 48 (by decide)) (by kernel_rfl) ?_
  unfold IR.fi48
  simp only [envOf_cons, envOf_nil]
  refine Cw.seq ?_
  refine Cw.region ?_
  (refine Ow.popM rfl ?_; simp only [S0, Nat.reduceEqDiff, Nat.reduceAdd, reduceIte, reduceCtorEq, S1])
  refine Ow.nilM ⟨nofun, ?_⟩
  show Cw _ _ _ _ _
  refine Cw.seq ?_
  refine Cw.region ?_
  iterate 3 (refine Ow.popM rfl ?_; simp only [S0, Nat.reduceEqDiff, Nat.reduceAdd, reduceIte, reduceCtorEq, S1, AL.foldV, amax2, max0])
  (refine Ow.popM rfl ?_; simp only [S0, Nat.reduceEqDiff, Nat.reduceAdd, reduceIte, reduceCtorEq, S1])
  refine Ow.callPA (k := 32) (fs := []) (cs := []) (vs := [va]) rfl rfl (by simp only [S0, Nat.reduceEqDiff, Nat.reduceAdd, reduceIte, reduceCtorEq, S1]) (Negative_any hx fa.wl (by first | omega | (simp only [SL]; omega))) ?_
  intro H1 hx1
  have fa_3 := fa.ext hx1
  refine Ow.callA (k := 66) (fs := []) (cs := []) (vs := [va, .int .i64 ((n.toNat : Nat) : Int), .bool (bx la (la.length - 1))]) rfl rfl (by simp only [S0, Nat.reduceEqDiff, Nat.reduceAdd, reduceIte, reduceCtorEq, S1]) (shifted_any hx fa_3.wl (by omega) (by omega)) (fun _ _ _ h => h) ?_
  rintro v2 H2 hx2 g2
  (refine Ow.popM rfl ?_; simp only [S0, Nat.reduceEqDiff, Nat.reduceAdd, reduceIte, reduceCtorEq, S1])
  refine Ow.nilM ⟨nofun, ?_⟩
  show Cw _ _ _ _ _
  refine Cw.ret ?_
  simp only [Then, InBlock, Rnd, FnPost, resOf, tupled, S0, Nat.reduceEqDiff, Nat.reduceAdd, reduceIte, reduceCtorEq]
  exact ⟨(hx1.trans hx2), g2.isR.isB⟩
end Go.Proofs.Yteeckncfllbokaa.X
