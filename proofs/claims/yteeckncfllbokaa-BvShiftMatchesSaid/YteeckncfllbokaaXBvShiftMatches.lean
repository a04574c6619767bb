/- BvShiftMatches: the interpreter answers true. -/
import Derived.Test.YteeckncfllbokaaXW
import Derived.Test.YteeckncfllbokaaXZh
set_option linter.unusedSimpArgs false
set_option linter.unusedVariables false
namespace Go.Proofs.Yteeckncfllbokaa.X
open Go Go.AL
set_option maxHeartbeats 1600000 in
theorem BvShiftMatches_run {H : AH} {va : Value} {la : List Bool} (fa : IsB H va la) {n1 : Int} (hn1 : -9223372036854775808 ≤ n1 ∧ n1 ≤ 9223372036854775807) {n2 : Int} (hn2 : -9223372036854775808 ≤ n2 ∧ n2 ≤ 9223372036854775807) {n3 : Int} (hn3 : -9223372036854775808 ≤ n3 ∧ n3 ≤ 9223372036854775807) : Run (Cx ext0) 10 [va, .int .i64 n1, .int .i64 n2, .int .i64 n3] H fun r _ => r = .bool true := by
  refine Run.intro (fi := IR.fi10) (ext0_ok 10 (by decide)) (by kernel_rfl) ?_
  unfold IR.fi10
  simp only [envOf_cons, envOf_nil]
  obtain ⟨aa, ca, ea⟩ := fa.shape
  subst ea
  refine Cw.seq ?_
  refine Cw.region ?_
  (refine Ow.popM rfl ?_; simp only [S0, Nat.reduceEqDiff, Nat.reduceAdd, reduceIte, reduceCtorEq, S1])
  refine Ow.nilM ⟨nofun, ?_⟩
  show Cw _ _ _ _ _
  refine Cw.seq ?_
  refine Cw.seq ?_
  refine Cw.region ?_
  (refine Ow.popM rfl ?_; simp only [S0, Nat.reduceEqDiff, Nat.reduceAdd, reduceIte, reduceCtorEq, S1])
  refine Ow.newA (b := ⟨[.slice aa la.length ca], 0⟩) (v := .slice (some ⟨H.n, 0, none⟩) 1 1) rfl rfl rfl (by simp only [S0, Nat.reduceEqDiff, Nat.reduceAdd, reduceIte, reduceCtorEq, AL.fillParts, putCells, AL.cellsOf, junk, List.length_cons, List.length_nil, Nat.beq_refl, Nat.ble_self_eq_true, show Nat.ble 1 1 = true from rfl, Bool.and_self, Bool.and_true, Bool.true_and, List.take_zero, List.take_succ_cons, List.cons_append, List.nil_append, List.drop_succ_cons, List.drop_zero, List.drop_nil, List.append_nil, Nat.sub_zero, Nat.reduceAdd, List.take_nil]) ?_
  intro H1 hx1 hl1 hg1
  refine Ow.callPA (k := 13) (fs := []) (cs := []) (vs := [.slice (some ⟨H.n, 0, none⟩) 1 1]) rfl rfl (by simp only [S0, Nat.reduceEqDiff, Nat.reduceAdd, reduceIte, reduceCtorEq, S1]) (Long1 ext0_ok hg1) ?_
  intro H2 hx2
  refine Ow.nilM ⟨nofun, ?_⟩
  show Cw _ _ _ _ _
  by_cases hq3 : 140 < la.length
  · have hd3 : decide (140 < la.length) = true := decide_eq_true hq3
    refine Cw.cond (t := true) (by simp only [S0, Nat.reduceEqDiff, Nat.reduceAdd, reduceIte, reduceCtorEq, S1, hd3]) ?_
    refine Cw.seq ?_
    refine Cw.region ?_
    refine Ow.callPA (k := 14) (fs := []) (cs := []) (vs := []) rfl rfl rfl (awake_any) ?_
    intro H4 hx4
    (refine Ow.popM rfl ?_; simp only [S0, Nat.reduceEqDiff, Nat.reduceAdd, reduceIte, reduceCtorEq, S1, hd3])
    refine Ow.nilM ⟨nofun, ?_⟩
    show Cw _ _ _ _ _
    refine Cw.ret ?_
    simp only [Then, InBlock, Rnd, FnPost, resOf, tupled, S0, Nat.reduceEqDiff, Nat.reduceAdd, reduceIte, reduceCtorEq, hd3]
  · have hd3 : decide (140 < la.length) = false := decide_eq_false hq3
    refine Cw.cond (t := false) (by simp only [S0, Nat.reduceEqDiff, Nat.reduceAdd, reduceIte, reduceCtorEq, S1, hd3]) ?_
    refine Cw.skip ?_
    show Cw _ _ _ _ _
    refine Cw.seq ?_
    refine Cw.region ?_
    (refine Ow.popM rfl ?_; simp only [S0, Nat.reduceEqDiff, Nat.reduceAdd, reduceIte, reduceCtorEq, S1, hd3])
    have fa_6 := fa.ext hx1
    have fa_7 := fa_6.ext hx2
    refine Ow.callA (k := 15) (fs := []) (cs := []) (vs := [.slice aa la.length ca]) rfl rfl (by simp only [S0, Nat.reduceEqDiff, Nat.reduceAdd, reduceIte, reduceCtorEq, S1, hd3]) (own_any ext0_ok fa_7.wl (by first | omega | (simp only [SL]; omega))) (fun _ _ _ h => h) ?_
    rintro v5 H5 hx5 r5
    (refine Ow.popM rfl ?_; simp only [S0, Nat.reduceEqDiff, Nat.reduceAdd, reduceIte, reduceCtorEq, S1, hd3])
    refine Ow.nilM ⟨nofun, ?_⟩
    show Cw _ _ _ _ _
    refine Cw.seq ?_
    by_cases hw : n3 < 0 ∨ n3 > 128
    · have hd8 : decide (n3 < 0 ∨ n3 > 128) = true := decide_eq_true hw
      refine Cw.region ?_
      iterate 2 (refine Ow.popM rfl ?_; simp only [S0, Nat.reduceEqDiff, Nat.reduceAdd, reduceIte, reduceCtorEq, S1, hd3, hd8])
      refine Ow.callA (k := 44) (fs := []) (cs := []) (vs := [.int .i64 (n2), .int .i64 (n3)]) rfl rfl (by simp only [S0, Nat.reduceEqDiff, Nat.reduceAdd, reduceIte, reduceCtorEq, S1, hd3, hd8]) (rFromInt_any ext0_ok) (fun _ _ _ h => h) ?_
      rintro v9 H9 hx9 r9
      rw [if_pos hw] at r9
      subst r9
      iterate 5 (refine Ow.popM rfl ?_; simp only [S0, Nat.reduceEqDiff, Nat.reduceAdd, reduceIte, reduceCtorEq, S1, hd3, hd8])
      refine Ow.nilM ⟨nofun, ?_⟩
      show Cw _ _ _ _ _
      refine Cw.seq ?_
      refine Cw.seq ?_
      refine Cw.region ?_
      (refine Ow.popM rfl ?_; simp only [S0, Nat.reduceEqDiff, Nat.reduceAdd, reduceIte, reduceCtorEq, S1, hd3, hd8])
      refine Ow.nilM ⟨nofun, ?_⟩
      show Cw _ _ _ _ _
      refine Cw.block ?_
      refine Cw.loopI (2) (fun k E Hq => (E.get 0 = some (.slice aa la.length ca) ∧ E.get 1 = some (.int .i64 (n1)) ∧ E.get 2 = some (.int .i64 (n2)) ∧ E.get 3 = some (.int .i64 (n3)) ∧ E.get 9 = some (v5) ∧ E.get 10 = some (.slice none 0 0) ∧ E.get 11 = some (.int .i64 (1)) ∧ E.get 12 = some (.int .i64 ((k : Nat) : Int))) ∧ AL.Ext H9 Hq) ⟨⟨(by simp only [S0, Nat.reduceEqDiff, Nat.reduceAdd, reduceIte, reduceCtorEq, S1, and_self, hd3, hd8]), (by simp only [S0, Nat.reduceEqDiff, Nat.reduceAdd, reduceIte, reduceCtorEq, S1, and_self, hd3, hd8]), (by simp only [S0, Nat.reduceEqDiff, Nat.reduceAdd, reduceIte, reduceCtorEq, S1, and_self, hd3, hd8]), (by simp only [S0, Nat.reduceEqDiff, Nat.reduceAdd, reduceIte, reduceCtorEq, S1, and_self, hd3, hd8]), (by simp only [S0, Nat.reduceEqDiff, Nat.reduceAdd, reduceIte, reduceCtorEq, S1, and_self, hd3, hd8]), (by simp only [S0, Nat.reduceEqDiff, Nat.reduceAdd, reduceIte, reduceCtorEq, S1, and_self, hd3, hd8]), (by simp only [S0, Nat.reduceEqDiff, Nat.reduceAdd, reduceIte, reduceCtorEq, S1, and_self, hd3, hd8]), (by simp only [S0, Nat.reduceEqDiff, Nat.reduceAdd, reduceIte, reduceCtorEq, eq_self, hd3, hd8] <;> first | rfl | simp [Nat.mod_one])⟩, (AL.Ext.refl _)⟩ ?_
      rintro k10 E10 H10 hk10 ⟨⟨g10_0, g10_1, g10_2, g10_3, g10_9, g10_10, g10_11, g10_12⟩, hx10⟩
      by_cases hlt10 : k10 < 2
      · skip
        refine Cw.seq ?_
        refine Cw.seq ?_
        refine Cw.region ?_
        iterate 2 (refine Ow.popM rfl ?_; simp only [S0, Nat.reduceEqDiff, Nat.reduceAdd, reduceIte, reduceCtorEq, S1, show decide ((((k10 : Nat) : Int) : Int) < (2 : Int)) = decide (k10 < 2) from lt_dec (k10) (2), show decide (k10 < 2) = true from decide_eq_true (hlt10), g10_0, g10_1, g10_2, g10_3, g10_9, g10_10, g10_11, g10_12, hd3, hd8])
        refine Ow.nilM ⟨nofun, ?_⟩
        show Cw _ _ _ _ _
        refine Cw.cond (t := true) (by simp only [S0, Nat.reduceEqDiff, Nat.reduceAdd, reduceIte, reduceCtorEq, S1, g10_0, g10_1, g10_2, g10_3, g10_9, g10_10, g10_11, g10_12, hd3, hd8]) ?_
        refine Cw.skip ?_
        show Cw _ _ _ _ _
        refine Cw.seq ?_
        refine Cw.block ?_
        refine Cw.seq ?_
        refine Cw.region ?_
        iterate 2 (refine Ow.popM rfl ?_; simp only [S0, Nat.reduceEqDiff, Nat.reduceAdd, reduceIte, reduceCtorEq, S1, g10_0, g10_1, g10_2, g10_3, g10_9, g10_10, g10_11, g10_12, hd3, hd8])
        have r5_12 := r5.ext hx9
        have r5_13 := r5_12.ext hx10
        refine Ow.callA (k := 34) (fs := []) (cs := []) (vs := [v5, .int .i64 (n1)]) rfl rfl (by simp only [S0, Nat.reduceEqDiff, Nat.reduceAdd, reduceIte, reduceCtorEq, S1, g10_0, g10_1, g10_2, g10_3, g10_9, g10_10, g10_11, g10_12, hd3, hd8]) (shl_any ext0_ok r5_13.isB.wl (by first | omega | (simp only [SL]; omega))) (fun _ _ _ h => h) ?_
        rintro v11 H11 hx11 ⟨i11, hi11, m11⟩
        iterate 2 (refine Ow.popM rfl ?_; simp only [S0, Nat.reduceEqDiff, Nat.reduceAdd, reduceIte, reduceCtorEq, S1, g10_0, g10_1, g10_2, g10_3, g10_9, g10_10, g10_11, g10_12, hd3, hd8])
        have r5_15 := r5_13.ext hx11
        refine Ow.callA (k := 35) (fs := []) (cs := []) (vs := [v5, .int .i64 (n1)]) rfl rfl (by simp only [S0, Nat.reduceEqDiff, Nat.reduceAdd, reduceIte, reduceCtorEq, S1, g10_0, g10_1, g10_2, g10_3, g10_9, g10_10, g10_11, g10_12, hd3, hd8]) (shr_any ext0_ok r5_15.isB.wl (by first | omega | (simp only [SL]; omega))) (fun _ _ _ h => h) ?_
        rintro v14 H14 hx14 ⟨i14, hi14, m14⟩
        iterate 2 (refine Ow.popM rfl ?_; simp only [S0, Nat.reduceEqDiff, Nat.reduceAdd, reduceIte, reduceCtorEq, S1, g10_0, g10_1, g10_2, g10_3, g10_9, g10_10, g10_11, g10_12, hd3, hd8])
        have r5_17 := r5_15.ext hx14
        refine Ow.callA (k := 36) (fs := []) (cs := []) (vs := [v5, .int .i64 (n1)]) rfl rfl (by simp only [S0, Nat.reduceEqDiff, Nat.reduceAdd, reduceIte, reduceCtorEq, S1, g10_0, g10_1, g10_2, g10_3, g10_9, g10_10, g10_11, g10_12, hd3, hd8]) (sar_any ext0_ok r5_17.isB.wl (by first | omega | (simp only [SL]; omega))) (fun _ _ _ h => h) ?_
        rintro v16 H16 hx16 ⟨i16, hi16, m16⟩
        iterate 3 (refine Ow.popM rfl ?_; simp only [S0, Nat.reduceEqDiff, Nat.reduceAdd, reduceIte, reduceCtorEq, S1, g10_0, g10_1, g10_2, g10_3, g10_9, g10_10, g10_11, g10_12, hd3, hd8])
        refine Ow.nilM ⟨nofun, ?_⟩
        show Cw _ _ _ _ _
        refine Cw.seq ?_
        refine Cw.region ?_
        iterate 2 (refine Ow.popM rfl ?_; simp only [S0, Nat.reduceEqDiff, Nat.reduceAdd, reduceIte, reduceCtorEq, S1, g10_0, g10_1, g10_2, g10_3, g10_9, g10_10, g10_11, g10_12, hd3, hd8])
        refine Ow.callA (k := 45) (fs := []) (cs := []) (vs := [.int .i64 (n2), .int .i64 (n3)]) rfl rfl (by simp only [S0, Nat.reduceEqDiff, Nat.reduceAdd, reduceIte, reduceCtorEq, S1, g10_0, g10_1, g10_2, g10_3, g10_9, g10_10, g10_11, g10_12, hd3, hd8]) (bFromInt_any ext0_ok hn2.1 hn2.2) (fun _ _ _ h => h) ?_
        rintro v18 H18 hx18 r18
        rw [if_pos hw] at r18
        subst r18
        iterate 5 (refine Ow.popM rfl ?_; simp only [S0, Nat.reduceEqDiff, Nat.reduceAdd, reduceIte, reduceCtorEq, S1, g10_0, g10_1, g10_2, g10_3, g10_9, g10_10, g10_11, g10_12, hd3, hd8])
        refine Ow.nilM ⟨nofun, ?_⟩
        show Cw _ _ _ _ _
        refine Cw.seq ?_
        refine Cw.seq ?_
        refine Cw.region ?_
        iterate 3 (refine Ow.popM rfl ?_; simp only [S0, Nat.reduceEqDiff, Nat.reduceAdd, reduceIte, reduceCtorEq, S1, show ((1 : Int) != 1) = false from rfl, g10_0, g10_1, g10_2, g10_3, g10_9, g10_10, g10_11, g10_12, hd3, hd8])
        refine Ow.gen (fun E => E.get 0 = some (.slice aa la.length ca) ∧ E.get 1 = some (.int .i64 (n1)) ∧ E.get 2 = some (.int .i64 (n2)) ∧ E.get 3 = some (.int .i64 (n3)) ∧ E.get 9 = some (v5) ∧ E.get 10 = some (.slice none 0 0) ∧ E.get 11 = some (.int .i64 (1)) ∧ E.get 12 = some (.int .i64 ((k10 : Nat) : Int)) ∧ E.get 13 = some (v11) ∧ E.get 14 = some (v14) ∧ E.get 15 = some (v16) ∧ E.get 16 = some (.slice none 0 0) ∧ E.get 59 = some (.bool false)) ⟨(by simp only [S0, Nat.reduceEqDiff, Nat.reduceAdd, reduceIte, reduceCtorEq, S1, and_self, g10_0, g10_1, g10_2, g10_3, g10_9, g10_10, g10_11, g10_12, hd3, hd8]), (by simp only [S0, Nat.reduceEqDiff, Nat.reduceAdd, reduceIte, reduceCtorEq, S1, and_self, g10_0, g10_1, g10_2, g10_3, g10_9, g10_10, g10_11, g10_12, hd3, hd8]), (by simp only [S0, Nat.reduceEqDiff, Nat.reduceAdd, reduceIte, reduceCtorEq, S1, and_self, g10_0, g10_1, g10_2, g10_3, g10_9, g10_10, g10_11, g10_12, hd3, hd8]), (by simp only [S0, Nat.reduceEqDiff, Nat.reduceAdd, reduceIte, reduceCtorEq, S1, and_self, g10_0, g10_1, g10_2, g10_3, g10_9, g10_10, g10_11, g10_12, hd3, hd8]), (by simp only [S0, Nat.reduceEqDiff, Nat.reduceAdd, reduceIte, reduceCtorEq, S1, and_self, g10_0, g10_1, g10_2, g10_3, g10_9, g10_10, g10_11, g10_12, hd3, hd8]), (by simp only [S0, Nat.reduceEqDiff, Nat.reduceAdd, reduceIte, reduceCtorEq, S1, and_self, g10_0, g10_1, g10_2, g10_3, g10_9, g10_10, g10_11, g10_12, hd3, hd8]), (by simp only [S0, Nat.reduceEqDiff, Nat.reduceAdd, reduceIte, reduceCtorEq, S1, and_self, g10_0, g10_1, g10_2, g10_3, g10_9, g10_10, g10_11, g10_12, hd3, hd8]), (by simp only [S0, Nat.reduceEqDiff, Nat.reduceAdd, reduceIte, reduceCtorEq, S1, and_self, g10_0, g10_1, g10_2, g10_3, g10_9, g10_10, g10_11, g10_12, hd3, hd8]), (by simp only [S0, Nat.reduceEqDiff, Nat.reduceAdd, reduceIte, reduceCtorEq, S1, and_self, g10_0, g10_1, g10_2, g10_3, g10_9, g10_10, g10_11, g10_12, hd3, hd8]), (by simp only [S0, Nat.reduceEqDiff, Nat.reduceAdd, reduceIte, reduceCtorEq, S1, and_self, g10_0, g10_1, g10_2, g10_3, g10_9, g10_10, g10_11, g10_12, hd3, hd8]), (by simp only [S0, Nat.reduceEqDiff, Nat.reduceAdd, reduceIte, reduceCtorEq, S1, and_self, g10_0, g10_1, g10_2, g10_3, g10_9, g10_10, g10_11, g10_12, hd3, hd8]), (by simp only [S0, Nat.reduceEqDiff, Nat.reduceAdd, reduceIte, reduceCtorEq, S1, and_self, g10_0, g10_1, g10_2, g10_3, g10_9, g10_10, g10_11, g10_12, hd3, hd8]), (by simp only [S0, Nat.reduceEqDiff, Nat.reduceAdd, reduceIte, reduceCtorEq, S1, and_self, g10_0, g10_1, g10_2, g10_3, g10_9, g10_10, g10_11, g10_12, hd3, hd8])⟩ ?_
        rintro E19 ⟨g19_0, g19_1, g19_2, g19_3, g19_9, g19_10, g19_11, g19_12, g19_13, g19_14, g19_15, g19_16, g19_59⟩
        iterate 3 (refine Ow.popM rfl ?_; simp only [S0, Nat.reduceEqDiff, Nat.reduceAdd, reduceIte, reduceCtorEq, S1, g19_0, g19_1, g19_2, g19_3, g19_9, g19_10, g19_11, g19_12, g19_13, g19_14, g19_15, g19_16, g19_59, hd3, hd8])
        refine Ow.callPA (k := 20) (fs := []) (cs := []) (vs := [.slice none 0 0, .slice none 0 0]) (by simp only [S0, Nat.reduceEqDiff, Nat.reduceAdd, reduceIte, reduceCtorEq, S1, g19_0, g19_1, g19_2, g19_3, g19_9, g19_10, g19_11, g19_12, g19_13, g19_14, g19_15, g19_16, g19_59, hd3, hd8]) rfl (by simp only [S0, Nat.reduceEqDiff, Nat.reduceAdd, reduceIte, reduceCtorEq, S1, g19_0, g19_1, g19_2, g19_3, g19_9, g19_10, g19_11, g19_12, g19_13, g19_14, g19_15, g19_16, g19_59, hd3, hd8]) (same_T ext0_ok (IsB.nil _).wl (IsB.nil _).wl (by first | omega | (simp only [SL]; omega)) (rfl)) ?_
        intro H20 hx20
        iterate 6 (refine Ow.popM rfl ?_; simp only [S0, Nat.reduceEqDiff, Nat.reduceAdd, reduceIte, reduceCtorEq, S1, g19_0, g19_1, g19_2, g19_3, g19_9, g19_10, g19_11, g19_12, g19_13, g19_14, g19_15, g19_16, g19_59, hd3, hd8])
        have fa_22 := fa_7.ext hx5
        have fa_23 := fa_22.ext hx9
        have fa_24 := fa_23.ext hx10
        have fa_25 := fa_24.ext hx11
        have fa_26 := fa_25.ext hx14
        have fa_27 := fa_26.ext hx16
        have fa_28 := fa_27.ext hx18
        have fa_29 := fa_28.ext hx20
        refine Ow.callA (k := 46) (fs := []) (cs := []) (vs := [.slice aa la.length ca, .int .i64 (n1)]) (by simp only [S0, Nat.reduceEqDiff, Nat.reduceAdd, reduceIte, reduceCtorEq, S1, g19_0, g19_1, g19_2, g19_3, g19_9, g19_10, g19_11, g19_12, g19_13, g19_14, g19_15, g19_16, g19_59, hd3, hd8]) rfl (by simp only [S0, Nat.reduceEqDiff, Nat.reduceAdd, reduceIte, reduceCtorEq, S1, g19_0, g19_1, g19_2, g19_3, g19_9, g19_10, g19_11, g19_12, g19_13, g19_14, g19_15, g19_16, g19_59, hd3, hd8]) (rshl_any ext0_ok fa_29.wl (by omega)) (fun _ _ _ h => h) ?_
        rintro v21 H21 hx21 f21
        have m11_31 := m11.ext hx14
        have m11_32 := m11_31.ext hx16
        have m11_33 := m11_32.ext hx18
        have m11_34 := m11_33.ext hx20
        have m11_35 := m11_34.ext hx21
        refine Ow.callPA (k := 20) (fs := []) (cs := []) (vs := [v11, v21]) (by simp only [S0, Nat.reduceEqDiff, Nat.reduceAdd, reduceIte, reduceCtorEq, S1, g19_0, g19_1, g19_2, g19_3, g19_9, g19_10, g19_11, g19_12, g19_13, g19_14, g19_15, g19_16, g19_59, hd3, hd8]) rfl (by simp only [S0, Nat.reduceEqDiff, Nat.reduceAdd, reduceIte, reduceCtorEq, S1, g19_0, g19_1, g19_2, g19_3, g19_9, g19_10, g19_11, g19_12, g19_13, g19_14, g19_15, g19_16, g19_59, hd3, hd8]) (same_T ext0_ok m11_35.isB.wl f21.wl (by first | omega | (simp only [SL]; omega)) (rfl)) ?_
        intro H30 hx30
        iterate 6 (refine Ow.popM rfl ?_; simp only [S0, Nat.reduceEqDiff, Nat.reduceAdd, reduceIte, reduceCtorEq, S1, g19_0, g19_1, g19_2, g19_3, g19_9, g19_10, g19_11, g19_12, g19_13, g19_14, g19_15, g19_16, g19_59, hd3, hd8])
        have fa_37 := fa_29.ext hx21
        have fa_38 := fa_37.ext hx30
        refine Ow.callA (k := 47) (fs := []) (cs := []) (vs := [.slice aa la.length ca, .int .i64 (n1)]) (by simp only [S0, Nat.reduceEqDiff, Nat.reduceAdd, reduceIte, reduceCtorEq, S1, g19_0, g19_1, g19_2, g19_3, g19_9, g19_10, g19_11, g19_12, g19_13, g19_14, g19_15, g19_16, g19_59, hd3, hd8]) rfl (by simp only [S0, Nat.reduceEqDiff, Nat.reduceAdd, reduceIte, reduceCtorEq, S1, g19_0, g19_1, g19_2, g19_3, g19_9, g19_10, g19_11, g19_12, g19_13, g19_14, g19_15, g19_16, g19_59, hd3, hd8]) (rshr_any ext0_ok fa_38.wl (by omega) (by omega)) (fun _ _ _ h => h) ?_
        rintro v36 H36 hx36 f36
        have m14_40 := m14.ext hx16
        have m14_41 := m14_40.ext hx18
        have m14_42 := m14_41.ext hx20
        have m14_43 := m14_42.ext hx21
        have m14_44 := m14_43.ext hx30
        have m14_45 := m14_44.ext hx36
        refine Ow.callPA (k := 20) (fs := []) (cs := []) (vs := [v14, v36]) (by simp only [S0, Nat.reduceEqDiff, Nat.reduceAdd, reduceIte, reduceCtorEq, S1, g19_0, g19_1, g19_2, g19_3, g19_9, g19_10, g19_11, g19_12, g19_13, g19_14, g19_15, g19_16, g19_59, hd3, hd8]) rfl (by simp only [S0, Nat.reduceEqDiff, Nat.reduceAdd, reduceIte, reduceCtorEq, S1, g19_0, g19_1, g19_2, g19_3, g19_9, g19_10, g19_11, g19_12, g19_13, g19_14, g19_15, g19_16, g19_59, hd3, hd8]) (same_T ext0_ok m14_45.isB.wl f36.wl (by first | omega | (simp only [SL]; omega)) (rfl)) ?_
        intro H39 hx39
        iterate 5 (refine Ow.popM rfl ?_; simp only [S0, Nat.reduceEqDiff, Nat.reduceAdd, reduceIte, reduceCtorEq, S1, g19_0, g19_1, g19_2, g19_3, g19_9, g19_10, g19_11, g19_12, g19_13, g19_14, g19_15, g19_16, g19_59, hd3, hd8])
        refine Ow.gen (fun E => E.get 0 = some (.slice aa la.length ca) ∧ E.get 1 = some (.int .i64 (n1)) ∧ E.get 2 = some (.int .i64 (n2)) ∧ E.get 3 = some (.int .i64 (n3)) ∧ E.get 9 = some (v5) ∧ E.get 10 = some (.slice none 0 0) ∧ E.get 11 = some (.int .i64 (1)) ∧ E.get 12 = some (.int .i64 ((k10 : Nat) : Int)) ∧ E.get 13 = some (v11) ∧ E.get 14 = some (v14) ∧ E.get 15 = some (v16) ∧ E.get 16 = some (.slice none 0 0) ∧ E.get 82 = some (.bool false) ∧ E.get 83 = some (v16) ∧ E.get 84 = some (.slice aa la.length ca)) ⟨(by simp only [S0, Nat.reduceEqDiff, Nat.reduceAdd, reduceIte, reduceCtorEq, S1, and_self, g19_0, g19_1, g19_2, g19_3, g19_9, g19_10, g19_11, g19_12, g19_13, g19_14, g19_15, g19_16, g19_59, hd3, hd8]), (by simp only [S0, Nat.reduceEqDiff, Nat.reduceAdd, reduceIte, reduceCtorEq, S1, and_self, g19_0, g19_1, g19_2, g19_3, g19_9, g19_10, g19_11, g19_12, g19_13, g19_14, g19_15, g19_16, g19_59, hd3, hd8]), (by simp only [S0, Nat.reduceEqDiff, Nat.reduceAdd, reduceIte, reduceCtorEq, S1, and_self, g19_0, g19_1, g19_2, g19_3, g19_9, g19_10, g19_11, g19_12, g19_13, g19_14, g19_15, g19_16, g19_59, hd3, hd8]), (by simp only [S0, Nat.reduceEqDiff, Nat.reduceAdd, reduceIte, reduceCtorEq, S1, and_self, g19_0, g19_1, g19_2, g19_3, g19_9, g19_10, g19_11, g19_12, g19_13, g19_14, g19_15, g19_16, g19_59, hd3, hd8]), (by simp only [S0, Nat.reduceEqDiff, Nat.reduceAdd, reduceIte, reduceCtorEq, S1, and_self, g19_0, g19_1, g19_2, g19_3, g19_9, g19_10, g19_11, g19_12, g19_13, g19_14, g19_15, g19_16, g19_59, hd3, hd8]), (by simp only [S0, Nat.reduceEqDiff, Nat.reduceAdd, reduceIte, reduceCtorEq, S1, and_self, g19_0, g19_1, g19_2, g19_3, g19_9, g19_10, g19_11, g19_12, g19_13, g19_14, g19_15, g19_16, g19_59, hd3, hd8]), (by simp only [S0, Nat.reduceEqDiff, Nat.reduceAdd, reduceIte, reduceCtorEq, S1, and_self, g19_0, g19_1, g19_2, g19_3, g19_9, g19_10, g19_11, g19_12, g19_13, g19_14, g19_15, g19_16, g19_59, hd3, hd8]), (by simp only [S0, Nat.reduceEqDiff, Nat.reduceAdd, reduceIte, reduceCtorEq, S1, and_self, g19_0, g19_1, g19_2, g19_3, g19_9, g19_10, g19_11, g19_12, g19_13, g19_14, g19_15, g19_16, g19_59, hd3, hd8]), (by simp only [S0, Nat.reduceEqDiff, Nat.reduceAdd, reduceIte, reduceCtorEq, S1, and_self, g19_0, g19_1, g19_2, g19_3, g19_9, g19_10, g19_11, g19_12, g19_13, g19_14, g19_15, g19_16, g19_59, hd3, hd8]), (by simp only [S0, Nat.reduceEqDiff, Nat.reduceAdd, reduceIte, reduceCtorEq, S1, and_self, g19_0, g19_1, g19_2, g19_3, g19_9, g19_10, g19_11, g19_12, g19_13, g19_14, g19_15, g19_16, g19_59, hd3, hd8]), (by simp only [S0, Nat.reduceEqDiff, Nat.reduceAdd, reduceIte, reduceCtorEq, S1, and_self, g19_0, g19_1, g19_2, g19_3, g19_9, g19_10, g19_11, g19_12, g19_13, g19_14, g19_15, g19_16, g19_59, hd3, hd8]), (by simp only [S0, Nat.reduceEqDiff, Nat.reduceAdd, reduceIte, reduceCtorEq, S1, and_self, g19_0, g19_1, g19_2, g19_3, g19_9, g19_10, g19_11, g19_12, g19_13, g19_14, g19_15, g19_16, g19_59, hd3, hd8]), (by simp only [S0, Nat.reduceEqDiff, Nat.reduceAdd, reduceIte, reduceCtorEq, S1, and_self, g19_0, g19_1, g19_2, g19_3, g19_9, g19_10, g19_11, g19_12, g19_13, g19_14, g19_15, g19_16, g19_59, hd3, hd8]), (by simp only [S0, Nat.reduceEqDiff, Nat.reduceAdd, reduceIte, reduceCtorEq, S1, and_self, g19_0, g19_1, g19_2, g19_3, g19_9, g19_10, g19_11, g19_12, g19_13, g19_14, g19_15, g19_16, g19_59, hd3, hd8]), (by simp only [S0, Nat.reduceEqDiff, Nat.reduceAdd, reduceIte, reduceCtorEq, S1, and_self, g19_0, g19_1, g19_2, g19_3, g19_9, g19_10, g19_11, g19_12, g19_13, g19_14, g19_15, g19_16, g19_59, hd3, hd8])⟩ ?_
        rintro E46 ⟨g46_0, g46_1, g46_2, g46_3, g46_9, g46_10, g46_11, g46_12, g46_13, g46_14, g46_15, g46_16, g46_82, g46_83, g46_84⟩
        (refine Ow.popM rfl ?_; simp only [S0, Nat.reduceEqDiff, Nat.reduceAdd, reduceIte, reduceCtorEq, S1, g46_0, g46_1, g46_2, g46_3, g46_9, g46_10, g46_11, g46_12, g46_13, g46_14, g46_15, g46_16, g46_82, g46_83, g46_84, hd3, hd8])
        have fa_48 := fa_38.ext hx36
        have fa_49 := fa_48.ext hx39
        refine Ow.callA (k := 48) (fs := []) (cs := []) (vs := [.slice aa la.length ca, .int .i64 (n1)]) (by simp only [S0, Nat.reduceEqDiff, Nat.reduceAdd, reduceIte, reduceCtorEq, S1, g46_0, g46_1, g46_2, g46_3, g46_9, g46_10, g46_11, g46_12, g46_13, g46_14, g46_15, g46_16, g46_82, g46_83, g46_84, hd3, hd8]) rfl (by simp only [S0, Nat.reduceEqDiff, Nat.reduceAdd, reduceIte, reduceCtorEq, S1, g46_0, g46_1, g46_2, g46_3, g46_9, g46_10, g46_11, g46_12, g46_13, g46_14, g46_15, g46_16, g46_82, g46_83, g46_84, hd3, hd8]) (rsar_any ext0_ok fa_49.wl (by omega) (by omega)) (fun _ _ _ h => h) ?_
        rintro v47 H47 hx47 f47
        have m16_51 := m16.ext hx18
        have m16_52 := m16_51.ext hx20
        have m16_53 := m16_52.ext hx21
        have m16_54 := m16_53.ext hx30
        have m16_55 := m16_54.ext hx36
        have m16_56 := m16_55.ext hx39
        have m16_57 := m16_56.ext hx47
        refine Ow.callPA (k := 20) (fs := []) (cs := []) (vs := [v16, v47]) (by simp only [S0, Nat.reduceEqDiff, Nat.reduceAdd, reduceIte, reduceCtorEq, S1, g46_0, g46_1, g46_2, g46_3, g46_9, g46_10, g46_11, g46_12, g46_13, g46_14, g46_15, g46_16, g46_82, g46_83, g46_84, hd3, hd8]) rfl (by simp only [S0, Nat.reduceEqDiff, Nat.reduceAdd, reduceIte, reduceCtorEq, S1, g46_0, g46_1, g46_2, g46_3, g46_9, g46_10, g46_11, g46_12, g46_13, g46_14, g46_15, g46_16, g46_82, g46_83, g46_84, hd3, hd8]) (same_T ext0_ok m16_57.isB.wl f47.wl (by first | omega | (simp only [SL]; omega)) (rfl)) ?_
        intro H50 hx50
        iterate 2 (refine Ow.popM rfl ?_; simp only [S0, Nat.reduceEqDiff, Nat.reduceAdd, reduceIte, reduceCtorEq, S1, g46_0, g46_1, g46_2, g46_3, g46_9, g46_10, g46_11, g46_12, g46_13, g46_14, g46_15, g46_16, g46_82, g46_83, g46_84, hd3, hd8])
        refine Ow.nilM ⟨nofun, ?_⟩
        show Cw _ _ _ _ _
        refine Cw.cond (t := false) (by simp only [S0, Nat.reduceEqDiff, Nat.reduceAdd, reduceIte, reduceCtorEq, S1, g46_0, g46_1, g46_2, g46_3, g46_9, g46_10, g46_11, g46_12, g46_13, g46_14, g46_15, g46_16, g46_82, g46_83, g46_84, hd3, hd8]) ?_
        refine Cw.skip ?_
        show Cw _ _ _ _ _
        refine Cw.region ?_
        iterate 4 (refine Ow.popM rfl ?_; simp only [S0, Nat.reduceEqDiff, Nat.reduceAdd, reduceIte, reduceCtorEq, S1, g46_0, g46_1, g46_2, g46_3, g46_9, g46_10, g46_11, g46_12, g46_13, g46_14, g46_15, g46_16, g46_82, g46_83, g46_84, hd3, hd8])
        have m11_59 := m11_35.ext hx30
        have m11_60 := m11_59.ext hx36
        have m11_61 := m11_60.ext hx39
        have m11_62 := m11_61.ext hx47
        have m11_63 := m11_62.ext hx50
        obtain rfl : v11 = _ := m11_63.1
        have m14_64 := m14_45.ext hx39
        have m14_65 := m14_64.ext hx47
        have m14_66 := m14_65.ext hx50
        obtain rfl : v14 = _ := m14_66.1
        have m16_67 := m16_57.ext hx50
        obtain rfl : v16 = _ := m16_67.1
        refine Ow.newA (b := ⟨[.slice (some ⟨i11, 0, none⟩) (ofN la.length (val la * 2 ^ n1.toNat)).length (ofN la.length (val la * 2 ^ n1.toNat)).length, .slice (some ⟨i14, 0, none⟩) (shrF la n1.toNat false).length (shrF la n1.toNat false).length, .slice (some ⟨i16, 0, none⟩) (shrF la n1.toNat (bx la (la.length - 1))).length (shrF la n1.toNat (bx la (la.length - 1))).length, .slice none 0 0], 0⟩) (v := .slice (some ⟨H50.n, 0, none⟩) 4 4) rfl rfl rfl (by simp only [S0, Nat.reduceEqDiff, Nat.reduceAdd, reduceIte, reduceCtorEq, AL.fillParts, putCells, AL.cellsOf, junk, List.length_cons, List.length_nil, Nat.beq_refl, Nat.ble_self_eq_true, show Nat.ble 1 4 = true from rfl, show Nat.ble 2 4 = true from rfl, show Nat.ble 3 4 = true from rfl, show Nat.ble 4 4 = true from rfl, Bool.and_self, Bool.and_true, Bool.true_and, List.take_zero, List.take_succ_cons, List.cons_append, List.nil_append, List.drop_succ_cons, List.drop_zero, List.drop_nil, List.append_nil, Nat.sub_zero, Nat.reduceAdd, List.take_nil, g46_0, g46_1, g46_2, g46_3, g46_9, g46_10, g46_11, g46_12, g46_13, g46_14, g46_15, g46_16, g46_82, g46_83, g46_84, hd3, hd8]) ?_
        intro H58 hx58 hl58 hg58
        refine Ow.callW (H0 := H10) (k := 21) (fs := []) (cs := []) (vs := [.slice (some ⟨H50.n, 0, none⟩) 4 4]) rfl rfl (by simp only [S0, Nat.reduceEqDiff, Nat.reduceAdd, reduceIte, reduceCtorEq, S1, g46_0, g46_1, g46_2, g46_3, g46_9, g46_10, g46_11, g46_12, g46_13, g46_14, g46_15, g46_16, g46_82, g46_83, g46_84, hd3, hd8]) (((((((((((hx11.trans hx14).trans hx16).trans hx18).trans hx20).trans hx21).trans hx30).trans hx36).trans hx39).trans hx47).trans hx50).trans hx58) (spoil_L ext0_ok (vs := [.slice (some ⟨i11, 0, none⟩) (ofN la.length (val la * 2 ^ n1.toNat)).length (ofN la.length (val la * 2 ^ n1.toNat)).length, .slice (some ⟨i14, 0, none⟩) (shrF la n1.toNat false).length (shrF la n1.toNat false).length, .slice (some ⟨i16, 0, none⟩) (shrF la n1.toNat (bx la (la.length - 1))).length (shrF la n1.toNat (bx la (la.length - 1))).length, .slice none 0 0]) ((((((((((hx11.trans hx14).trans hx16).trans hx18).trans hx20).trans hx21).trans hx30).trans hx36).trans hx39).trans hx47).trans hx50) hx58 hg58 (by simp) (Spo.cons (H0 := H10) (m11_63.isR (Nat.le_trans (Nat.le_refl _) hi11)) (by first | omega | (simp only [SL]; omega)) (Spo.cons (H0 := H10) (m14_66.isR (Nat.le_trans (hx11).n hi14)) (by first | omega | (simp only [SL]; omega)) (Spo.cons (H0 := H10) (m16_67.isR (Nat.le_trans ((hx11.trans hx14)).n hi16)) (by first | omega | (simp only [SL]; omega)) (Spo.cons (.inl ⟨rfl, rfl⟩ : IsR H10 H50 _ []) (by decide) (Spo.nil _ _)))))) ?_
        intro v68 H68 b68 hx68
        refine Ow.nilM ⟨nofun, ?_⟩
        show Cw _ _ _ _ _
        refine Cw.region ?_
        iterate 3 (refine Ow.popM rfl ?_; simp only [S0, Nat.reduceEqDiff, Nat.reduceAdd, reduceIte, reduceCtorEq, S1, show fwrap .i64 ((((k10 : Nat) : Int) : Int) + (1 : Int)) = ((k10 + 1 : Nat) : Int) from add_nat (a := k10) (b := 1) (by omega), g46_0, g46_1, g46_2, g46_3, g46_9, g46_10, g46_11, g46_12, g46_13, g46_14, g46_15, g46_16, g46_82, g46_83, g46_84, hd3, hd8])
        refine Ow.nilM ⟨nofun, ?_⟩
        exact ⟨hlt10, ⟨(by simp only [S0, Nat.reduceEqDiff, Nat.reduceAdd, reduceIte, reduceCtorEq, S1, and_self, g46_0, g46_1, g46_2, g46_3, g46_9, g46_10, g46_11, g46_12, g46_13, g46_14, g46_15, g46_16, g46_82, g46_83, g46_84, hd3, hd8]), (by simp only [S0, Nat.reduceEqDiff, Nat.reduceAdd, reduceIte, reduceCtorEq, S1, and_self, g46_0, g46_1, g46_2, g46_3, g46_9, g46_10, g46_11, g46_12, g46_13, g46_14, g46_15, g46_16, g46_82, g46_83, g46_84, hd3, hd8]), (by simp only [S0, Nat.reduceEqDiff, Nat.reduceAdd, reduceIte, reduceCtorEq, S1, and_self, g46_0, g46_1, g46_2, g46_3, g46_9, g46_10, g46_11, g46_12, g46_13, g46_14, g46_15, g46_16, g46_82, g46_83, g46_84, hd3, hd8]), (by simp only [S0, Nat.reduceEqDiff, Nat.reduceAdd, reduceIte, reduceCtorEq, S1, and_self, g46_0, g46_1, g46_2, g46_3, g46_9, g46_10, g46_11, g46_12, g46_13, g46_14, g46_15, g46_16, g46_82, g46_83, g46_84, hd3, hd8]), (by simp only [S0, Nat.reduceEqDiff, Nat.reduceAdd, reduceIte, reduceCtorEq, S1, and_self, g46_0, g46_1, g46_2, g46_3, g46_9, g46_10, g46_11, g46_12, g46_13, g46_14, g46_15, g46_16, g46_82, g46_83, g46_84, hd3, hd8]), (by simp only [S0, Nat.reduceEqDiff, Nat.reduceAdd, reduceIte, reduceCtorEq, S1, and_self, g46_0, g46_1, g46_2, g46_3, g46_9, g46_10, g46_11, g46_12, g46_13, g46_14, g46_15, g46_16, g46_82, g46_83, g46_84, hd3, hd8]), (by simp only [S0, Nat.reduceEqDiff, Nat.reduceAdd, reduceIte, reduceCtorEq, S1, and_self, g46_0, g46_1, g46_2, g46_3, g46_9, g46_10, g46_11, g46_12, g46_13, g46_14, g46_15, g46_16, g46_82, g46_83, g46_84, hd3, hd8]), (by simp only [S0, Nat.reduceEqDiff, Nat.reduceAdd, reduceIte, reduceCtorEq, S1, and_self, g46_0, g46_1, g46_2, g46_3, g46_9, g46_10, g46_11, g46_12, g46_13, g46_14, g46_15, g46_16, g46_82, g46_83, g46_84, hd3, hd8] <;> rfl)⟩, (hx10.trans hx68)⟩
      · obtain rfl : 2 = k10 := by omega
        refine Cw.seq ?_
        refine Cw.seq ?_
        refine Cw.region ?_
        iterate 2 (refine Ow.popM rfl ?_; simp only [S0, Nat.reduceEqDiff, Nat.reduceAdd, reduceIte, reduceCtorEq, S1, show decide ((((2 : Nat) : Int) : Int) < (2 : Int)) = decide (2 < 2) from lt_dec (2) (2), show decide (2 < 2) = false from decide_eq_false (by decide), g10_0, g10_1, g10_2, g10_3, g10_9, g10_10, g10_11, g10_12, hd3, hd8])
        refine Ow.nilM ⟨nofun, ?_⟩
        show Cw _ _ _ _ _
        refine Cw.cond (t := false) (by simp only [S0, Nat.reduceEqDiff, Nat.reduceAdd, reduceIte, reduceCtorEq, S1, g10_0, g10_1, g10_2, g10_3, g10_9, g10_10, g10_11, g10_12, hd3, hd8]) ?_
        refine Cw.exit ?_
        show Cw _ _ _ _ _
        refine Cw.seq ?_
        by_cases hu : val la < 2 ^ 64
        · have hd69 : decide (val la < 2 ^ 64) = true := decide_eq_true hu
          refine Cw.region ?_
          (refine Ow.popM rfl ?_; simp only [S0, Nat.reduceEqDiff, Nat.reduceAdd, reduceIte, reduceCtorEq, S1, g10_0, g10_1, g10_2, g10_3, g10_9, g10_10, g10_11, g10_12, hd3, hd8, hd69])
          have fa_71 := fa_7.ext hx5
          have fa_72 := fa_71.ext hx9
          have fa_73 := fa_72.ext hx10
          refine Ow.callA (k := 49) (fs := []) (cs := []) (vs := [.slice aa la.length ca]) rfl rfl (by simp only [S0, Nat.reduceEqDiff, Nat.reduceAdd, reduceIte, reduceCtorEq, S1, g10_0, g10_1, g10_2, g10_3, g10_9, g10_10, g10_11, g10_12, hd3, hd8, hd69]) (bUint_any ext0_ok fa_73.wl (by omega)) (fun _ _ _ h => h) ?_
          rintro v70 H70 hx70 r70
          unfold uintV at r70
          rw [if_pos hu] at r70
          subst r70
          iterate 5 (refine Ow.popM rfl ?_; simp only [S0, Nat.reduceEqDiff, Nat.reduceAdd, reduceIte, reduceCtorEq, S1, g10_0, g10_1, g10_2, g10_3, g10_9, g10_10, g10_11, g10_12, hd3, hd8, hd69])
          refine Ow.nilM ⟨nofun, ?_⟩
          show Cw _ _ _ _ _
          refine Cw.seq ?_
          refine Cw.region ?_
          (refine Ow.popM rfl ?_; simp only [S0, Nat.reduceEqDiff, Nat.reduceAdd, reduceIte, reduceCtorEq, S1, g10_0, g10_1, g10_2, g10_3, g10_9, g10_10, g10_11, g10_12, hd3, hd8, hd69])
          have fa_75 := fa_73.ext hx70
          refine Ow.callA (k := 50) (fs := []) (cs := []) (vs := [.slice aa la.length ca]) rfl rfl (by simp only [S0, Nat.reduceEqDiff, Nat.reduceAdd, reduceIte, reduceCtorEq, S1, g10_0, g10_1, g10_2, g10_3, g10_9, g10_10, g10_11, g10_12, hd3, hd8, hd69]) (rUint_any ext0_ok fa_75.wl (by omega)) (fun _ _ _ h => h) ?_
          rintro v74 H74 hx74 r74
          unfold uintV at r74
          rw [if_pos hu] at r74
          subst r74
          iterate 5 (refine Ow.popM rfl ?_; simp only [S0, Nat.reduceEqDiff, Nat.reduceAdd, reduceIte, reduceCtorEq, S1, g10_0, g10_1, g10_2, g10_3, g10_9, g10_10, g10_11, g10_12, hd3, hd8, hd69])
          refine Ow.nilM ⟨nofun, ?_⟩
          show Cw _ _ _ _ _
          refine Cw.seq ?_
          by_cases hf : -(2 : Int) ^ 63 ≤ sval la ∧ sval la < (2 : Int) ^ 63
          · have hd76 : decide (-(2 : Int) ^ 63 ≤ sval la ∧ sval la < (2 : Int) ^ 63) = true := decide_eq_true hf
            refine Cw.region ?_
            (refine Ow.popM rfl ?_; simp only [S0, Nat.reduceEqDiff, Nat.reduceAdd, reduceIte, reduceCtorEq, S1, g10_0, g10_1, g10_2, g10_3, g10_9, g10_10, g10_11, g10_12, hd3, hd8, hd69, hd76])
            have fa_78 := fa_75.ext hx74
            refine Ow.callA (k := 51) (fs := []) (cs := []) (vs := [.slice aa la.length ca]) rfl rfl (by simp only [S0, Nat.reduceEqDiff, Nat.reduceAdd, reduceIte, reduceCtorEq, S1, g10_0, g10_1, g10_2, g10_3, g10_9, g10_10, g10_11, g10_12, hd3, hd8, hd69, hd76]) (bInt_any ext0_ok fa_78.wl (by omega)) (fun _ _ _ h => h) ?_
            rintro v77 H77 hx77 r77
            unfold intV at r77
            rw [if_pos hf] at r77
            subst r77
            iterate 5 (refine Ow.popM rfl ?_; simp only [S0, Nat.reduceEqDiff, Nat.reduceAdd, reduceIte, reduceCtorEq, S1, g10_0, g10_1, g10_2, g10_3, g10_9, g10_10, g10_11, g10_12, hd3, hd8, hd69, hd76])
            refine Ow.nilM ⟨nofun, ?_⟩
            show Cw _ _ _ _ _
            refine Cw.seq ?_
            refine Cw.region ?_
            (refine Ow.popM rfl ?_; simp only [S0, Nat.reduceEqDiff, Nat.reduceAdd, reduceIte, reduceCtorEq, S1, g10_0, g10_1, g10_2, g10_3, g10_9, g10_10, g10_11, g10_12, hd3, hd8, hd69, hd76])
            have fa_80 := fa_78.ext hx77
            refine Ow.callA (k := 52) (fs := []) (cs := []) (vs := [.slice aa la.length ca]) rfl rfl (by simp only [S0, Nat.reduceEqDiff, Nat.reduceAdd, reduceIte, reduceCtorEq, S1, g10_0, g10_1, g10_2, g10_3, g10_9, g10_10, g10_11, g10_12, hd3, hd8, hd69, hd76]) (rInt_any ext0_ok fa_80.wl (by omega)) (fun _ _ _ h => h) ?_
            rintro v79 H79 hx79 r79
            unfold intV at r79
            rw [if_pos hf] at r79
            subst r79
            refine Ow.gen (fun E => E.get 0 = some (.slice aa la.length ca) ∧ E.get 9 = some (v5) ∧ E.get 18 = some (.int .u64 (((val la : Nat) : Int))) ∧ E.get 19 = some (.bool true) ∧ E.get 20 = some (.int .u64 (((val la : Nat) : Int))) ∧ E.get 21 = some (.bool true) ∧ E.get 22 = some (.int .i64 (sval la)) ∧ E.get 23 = some (.bool true) ∧ E.get 113 = some (.tuple ⟨[.int .i64 (sval la), .bool true]⟩)) ⟨(by simp only [S0, Nat.reduceEqDiff, Nat.reduceAdd, reduceIte, reduceCtorEq, S1, and_self, g10_0, g10_1, g10_2, g10_3, g10_9, g10_10, g10_11, g10_12, hd3, hd8, hd69, hd76]), (by simp only [S0, Nat.reduceEqDiff, Nat.reduceAdd, reduceIte, reduceCtorEq, S1, and_self, g10_0, g10_1, g10_2, g10_3, g10_9, g10_10, g10_11, g10_12, hd3, hd8, hd69, hd76]), (by simp only [S0, Nat.reduceEqDiff, Nat.reduceAdd, reduceIte, reduceCtorEq, S1, and_self, g10_0, g10_1, g10_2, g10_3, g10_9, g10_10, g10_11, g10_12, hd3, hd8, hd69, hd76]), (by simp only [S0, Nat.reduceEqDiff, Nat.reduceAdd, reduceIte, reduceCtorEq, S1, and_self, g10_0, g10_1, g10_2, g10_3, g10_9, g10_10, g10_11, g10_12, hd3, hd8, hd69, hd76]), (by simp only [S0, Nat.reduceEqDiff, Nat.reduceAdd, reduceIte, reduceCtorEq, S1, and_self, g10_0, g10_1, g10_2, g10_3, g10_9, g10_10, g10_11, g10_12, hd3, hd8, hd69, hd76]), (by simp only [S0, Nat.reduceEqDiff, Nat.reduceAdd, reduceIte, reduceCtorEq, S1, and_self, g10_0, g10_1, g10_2, g10_3, g10_9, g10_10, g10_11, g10_12, hd3, hd8, hd69, hd76]), (by simp only [S0, Nat.reduceEqDiff, Nat.reduceAdd, reduceIte, reduceCtorEq, S1, and_self, g10_0, g10_1, g10_2, g10_3, g10_9, g10_10, g10_11, g10_12, hd3, hd8, hd69, hd76]), (by simp only [S0, Nat.reduceEqDiff, Nat.reduceAdd, reduceIte, reduceCtorEq, S1, and_self, g10_0, g10_1, g10_2, g10_3, g10_9, g10_10, g10_11, g10_12, hd3, hd8, hd69, hd76]), (by simp only [S0, Nat.reduceEqDiff, Nat.reduceAdd, reduceIte, reduceCtorEq, S1, and_self, g10_0, g10_1, g10_2, g10_3, g10_9, g10_10, g10_11, g10_12, hd3, hd8, hd69, hd76])⟩ ?_
            rintro E81 ⟨g81_0, g81_9, g81_18, g81_19, g81_20, g81_21, g81_22, g81_23, g81_113⟩
            iterate 5 (refine Ow.popM rfl ?_; simp only [S0, Nat.reduceEqDiff, Nat.reduceAdd, reduceIte, reduceCtorEq, S1, g81_0, g81_9, g81_18, g81_19, g81_20, g81_21, g81_22, g81_23, g81_113, hd3, hd8, hd69, hd76])
            refine Ow.nilM ⟨nofun, ?_⟩
            show Cw _ _ _ _ _
            refine Cw.seq ?_
            refine Cw.region ?_
            iterate 20 (refine Ow.popM rfl ?_; simp only [S0, Nat.reduceEqDiff, Nat.reduceAdd, reduceIte, reduceCtorEq, S1, bne_self_eq_false, show (true == true) = true from rfl, g81_0, g81_9, g81_18, g81_19, g81_20, g81_21, g81_22, g81_23, g81_113, hd3, hd8, hd69, hd76])
            refine Ow.gen (fun E => E.get 0 = some (.slice aa la.length ca) ∧ E.get 134 = some (.bool true) ∧ E.get 135 = some (v5)) ⟨(by simp only [S0, Nat.reduceEqDiff, Nat.reduceAdd, reduceIte, reduceCtorEq, S1, and_self, g81_0, g81_9, g81_18, g81_19, g81_20, g81_21, g81_22, g81_23, g81_113, hd3, hd8, hd69, hd76]), (by simp only [S0, Nat.reduceEqDiff, Nat.reduceAdd, reduceIte, reduceCtorEq, S1, and_self, g81_0, g81_9, g81_18, g81_19, g81_20, g81_21, g81_22, g81_23, g81_113, hd3, hd8, hd69, hd76]), (by simp only [S0, Nat.reduceEqDiff, Nat.reduceAdd, reduceIte, reduceCtorEq, S1, and_self, g81_0, g81_9, g81_18, g81_19, g81_20, g81_21, g81_22, g81_23, g81_113, hd3, hd8, hd69, hd76])⟩ ?_
            rintro E82 ⟨g82_0, g82_134, g82_135⟩
            (refine Ow.popM rfl ?_; simp only [S0, Nat.reduceEqDiff, Nat.reduceAdd, reduceIte, reduceCtorEq, S1, g82_0, g82_134, g82_135, hd3, hd8, hd69, hd76])
            have r5_84 := r5.ext hx9
            have r5_85 := r5_84.ext hx10
            have r5_86 := r5_85.ext hx70
            have r5_87 := r5_86.ext hx74
            have r5_88 := r5_87.ext hx77
            have r5_89 := r5_88.ext hx79
            have fa_90 := fa_80.ext hx79
            refine Ow.callPA (k := 20) (fs := []) (cs := []) (vs := [v5, .slice aa la.length ca]) (by simp only [S0, Nat.reduceEqDiff, Nat.reduceAdd, reduceIte, reduceCtorEq, S1, g82_0, g82_134, g82_135, hd3, hd8, hd69, hd76]) rfl (by simp only [S0, Nat.reduceEqDiff, Nat.reduceAdd, reduceIte, reduceCtorEq, S1, g82_0, g82_134, g82_135, hd3, hd8, hd69, hd76]) (same_T ext0_ok r5_89.isB.wl fa_90.wl (by first | omega | (simp only [SL]; omega)) (rfl)) ?_
            intro H83 hx83
            iterate 2 (refine Ow.popM rfl ?_; simp only [S0, Nat.reduceEqDiff, Nat.reduceAdd, reduceIte, reduceCtorEq, S1, g82_0, g82_134, g82_135, hd3, hd8, hd69, hd76])
            refine Ow.callPA (k := 14) (fs := []) (cs := []) (vs := []) (by simp only [S0, Nat.reduceEqDiff, Nat.reduceAdd, reduceIte, reduceCtorEq, S1, g82_0, g82_134, g82_135, hd3, hd8, hd69, hd76]) rfl rfl (awake_any) ?_
            intro H91 hx91
            iterate 2 (refine Ow.popM rfl ?_; simp only [S0, Nat.reduceEqDiff, Nat.reduceAdd, reduceIte, reduceCtorEq, S1, g82_0, g82_134, g82_135, hd3, hd8, hd69, hd76])
            refine Ow.nilM ⟨nofun, ?_⟩
            show Cw _ _ _ _ _
            refine Cw.ret ?_
            simp only [Then, InBlock, Rnd, FnPost, resOf, tupled, S0, Nat.reduceEqDiff, Nat.reduceAdd, reduceIte, reduceCtorEq, g82_0, g82_134, g82_135, hd3, hd8, hd69, hd76]
          · have hd92 : decide (-(2 : Int) ^ 63 ≤ sval la ∧ sval la < (2 : Int) ^ 63) = false := decide_eq_false hf
            refine Cw.region ?_
            (refine Ow.popM rfl ?_; simp only [S0, Nat.reduceEqDiff, Nat.reduceAdd, reduceIte, reduceCtorEq, S1, g10_0, g10_1, g10_2, g10_3, g10_9, g10_10, g10_11, g10_12, hd3, hd8, hd69, hd92])
            have fa_94 := fa_75.ext hx74
            refine Ow.callA (k := 51) (fs := []) (cs := []) (vs := [.slice aa la.length ca]) rfl rfl (by simp only [S0, Nat.reduceEqDiff, Nat.reduceAdd, reduceIte, reduceCtorEq, S1, g10_0, g10_1, g10_2, g10_3, g10_9, g10_10, g10_11, g10_12, hd3, hd8, hd69, hd92]) (bInt_any ext0_ok fa_94.wl (by omega)) (fun _ _ _ h => h) ?_
            rintro v93 H93 hx93 r93
            unfold intV at r93
            rw [if_neg hf] at r93
            subst r93
            iterate 5 (refine Ow.popM rfl ?_; simp only [S0, Nat.reduceEqDiff, Nat.reduceAdd, reduceIte, reduceCtorEq, S1, g10_0, g10_1, g10_2, g10_3, g10_9, g10_10, g10_11, g10_12, hd3, hd8, hd69, hd92])
            refine Ow.nilM ⟨nofun, ?_⟩
            show Cw _ _ _ _ _
            refine Cw.seq ?_
            refine Cw.region ?_
            (refine Ow.popM rfl ?_; simp only [S0, Nat.reduceEqDiff, Nat.reduceAdd, reduceIte, reduceCtorEq, S1, g10_0, g10_1, g10_2, g10_3, g10_9, g10_10, g10_11, g10_12, hd3, hd8, hd69, hd92])
            have fa_96 := fa_94.ext hx93
            refine Ow.callA (k := 52) (fs := []) (cs := []) (vs := [.slice aa la.length ca]) rfl rfl (by simp only [S0, Nat.reduceEqDiff, Nat.reduceAdd, reduceIte, reduceCtorEq, S1, g10_0, g10_1, g10_2, g10_3, g10_9, g10_10, g10_11, g10_12, hd3, hd8, hd69, hd92]) (rInt_any ext0_ok fa_96.wl (by omega)) (fun _ _ _ h => h) ?_
            rintro v95 H95 hx95 r95
            unfold intV at r95
            rw [if_neg hf] at r95
            subst r95
            refine Ow.gen (fun E => E.get 0 = some (.slice aa la.length ca) ∧ E.get 9 = some (v5) ∧ E.get 18 = some (.int .u64 (((val la : Nat) : Int))) ∧ E.get 19 = some (.bool true) ∧ E.get 20 = some (.int .u64 (((val la : Nat) : Int))) ∧ E.get 21 = some (.bool true) ∧ E.get 22 = some (.int .i64 (0)) ∧ E.get 23 = some (.bool false) ∧ E.get 113 = some (.tuple ⟨[.int .i64 (0), .bool false]⟩)) ⟨(by simp only [S0, Nat.reduceEqDiff, Nat.reduceAdd, reduceIte, reduceCtorEq, S1, and_self, g10_0, g10_1, g10_2, g10_3, g10_9, g10_10, g10_11, g10_12, hd3, hd8, hd69, hd92]), (by simp only [S0, Nat.reduceEqDiff, Nat.reduceAdd, reduceIte, reduceCtorEq, S1, and_self, g10_0, g10_1, g10_2, g10_3, g10_9, g10_10, g10_11, g10_12, hd3, hd8, hd69, hd92]), (by simp only [S0, Nat.reduceEqDiff, Nat.reduceAdd, reduceIte, reduceCtorEq, S1, and_self, g10_0, g10_1, g10_2, g10_3, g10_9, g10_10, g10_11, g10_12, hd3, hd8, hd69, hd92]), (by simp only [S0, Nat.reduceEqDiff, Nat.reduceAdd, reduceIte, reduceCtorEq, S1, and_self, g10_0, g10_1, g10_2, g10_3, g10_9, g10_10, g10_11, g10_12, hd3, hd8, hd69, hd92]), (by simp only [S0, Nat.reduceEqDiff, Nat.reduceAdd, reduceIte, reduceCtorEq, S1, and_self, g10_0, g10_1, g10_2, g10_3, g10_9, g10_10, g10_11, g10_12, hd3, hd8, hd69, hd92]), (by simp only [S0, Nat.reduceEqDiff, Nat.reduceAdd, reduceIte, reduceCtorEq, S1, and_self, g10_0, g10_1, g10_2, g10_3, g10_9, g10_10, g10_11, g10_12, hd3, hd8, hd69, hd92]), (by simp only [S0, Nat.reduceEqDiff, Nat.reduceAdd, reduceIte, reduceCtorEq, S1, and_self, g10_0, g10_1, g10_2, g10_3, g10_9, g10_10, g10_11, g10_12, hd3, hd8, hd69, hd92]), (by simp only [S0, Nat.reduceEqDiff, Nat.reduceAdd, reduceIte, reduceCtorEq, S1, and_self, g10_0, g10_1, g10_2, g10_3, g10_9, g10_10, g10_11, g10_12, hd3, hd8, hd69, hd92]), (by simp only [S0, Nat.reduceEqDiff, Nat.reduceAdd, reduceIte, reduceCtorEq, S1, and_self, g10_0, g10_1, g10_2, g10_3, g10_9, g10_10, g10_11, g10_12, hd3, hd8, hd69, hd92])⟩ ?_
            rintro E97 ⟨g97_0, g97_9, g97_18, g97_19, g97_20, g97_21, g97_22, g97_23, g97_113⟩
            iterate 5 (refine Ow.popM rfl ?_; simp only [S0, Nat.reduceEqDiff, Nat.reduceAdd, reduceIte, reduceCtorEq, S1, g97_0, g97_9, g97_18, g97_19, g97_20, g97_21, g97_22, g97_23, g97_113, hd3, hd8, hd69, hd92])
            refine Ow.nilM ⟨nofun, ?_⟩
            show Cw _ _ _ _ _
            refine Cw.seq ?_
            refine Cw.region ?_
            iterate 20 (refine Ow.popM rfl ?_; simp only [S0, Nat.reduceEqDiff, Nat.reduceAdd, reduceIte, reduceCtorEq, S1, bne_self_eq_false, show (true == true) = true from rfl, show ((0 : Int) == 0) = true from rfl, show (false == false) = true from rfl, g97_0, g97_9, g97_18, g97_19, g97_20, g97_21, g97_22, g97_23, g97_113, hd3, hd8, hd69, hd92])
            refine Ow.gen (fun E => E.get 0 = some (.slice aa la.length ca) ∧ E.get 134 = some (.bool true) ∧ E.get 135 = some (v5)) ⟨(by simp only [S0, Nat.reduceEqDiff, Nat.reduceAdd, reduceIte, reduceCtorEq, S1, and_self, g97_0, g97_9, g97_18, g97_19, g97_20, g97_21, g97_22, g97_23, g97_113, hd3, hd8, hd69, hd92]), (by simp only [S0, Nat.reduceEqDiff, Nat.reduceAdd, reduceIte, reduceCtorEq, S1, and_self, g97_0, g97_9, g97_18, g97_19, g97_20, g97_21, g97_22, g97_23, g97_113, hd3, hd8, hd69, hd92]), (by simp only [S0, Nat.reduceEqDiff, Nat.reduceAdd, reduceIte, reduceCtorEq, S1, and_self, g97_0, g97_9, g97_18, g97_19, g97_20, g97_21, g97_22, g97_23, g97_113, hd3, hd8, hd69, hd92])⟩ ?_
            rintro E98 ⟨g98_0, g98_134, g98_135⟩
            (refine Ow.popM rfl ?_; simp only [S0, Nat.reduceEqDiff, Nat.reduceAdd, reduceIte, reduceCtorEq, S1, g98_0, g98_134, g98_135, hd3, hd8, hd69, hd92])
            have r5_100 := r5.ext hx9
            have r5_101 := r5_100.ext hx10
            have r5_102 := r5_101.ext hx70
            have r5_103 := r5_102.ext hx74
            have r5_104 := r5_103.ext hx93
            have r5_105 := r5_104.ext hx95
            have fa_106 := fa_96.ext hx95
            refine Ow.callPA (k := 20) (fs := []) (cs := []) (vs := [v5, .slice aa la.length ca]) (by simp only [S0, Nat.reduceEqDiff, Nat.reduceAdd, reduceIte, reduceCtorEq, S1, g98_0, g98_134, g98_135, hd3, hd8, hd69, hd92]) rfl (by simp only [S0, Nat.reduceEqDiff, Nat.reduceAdd, reduceIte, reduceCtorEq, S1, g98_0, g98_134, g98_135, hd3, hd8, hd69, hd92]) (same_T ext0_ok r5_105.isB.wl fa_106.wl (by first | omega | (simp only [SL]; omega)) (rfl)) ?_
            intro H99 hx99
            iterate 2 (refine Ow.popM rfl ?_; simp only [S0, Nat.reduceEqDiff, Nat.reduceAdd, reduceIte, reduceCtorEq, S1, g98_0, g98_134, g98_135, hd3, hd8, hd69, hd92])
            refine Ow.callPA (k := 14) (fs := []) (cs := []) (vs := []) (by simp only [S0, Nat.reduceEqDiff, Nat.reduceAdd, reduceIte, reduceCtorEq, S1, g98_0, g98_134, g98_135, hd3, hd8, hd69, hd92]) rfl rfl (awake_any) ?_
            intro H107 hx107
            iterate 2 (refine Ow.popM rfl ?_; simp only [S0, Nat.reduceEqDiff, Nat.reduceAdd, reduceIte, reduceCtorEq, S1, g98_0, g98_134, g98_135, hd3, hd8, hd69, hd92])
            refine Ow.nilM ⟨nofun, ?_⟩
            show Cw _ _ _ _ _
            refine Cw.ret ?_
            simp only [Then, InBlock, Rnd, FnPost, resOf, tupled, S0, Nat.reduceEqDiff, Nat.reduceAdd, reduceIte, reduceCtorEq, g98_0, g98_134, g98_135, hd3, hd8, hd69, hd92]
        · have hd108 : decide (val la < 2 ^ 64) = false := decide_eq_false hu
          refine Cw.region ?_
          (refine Ow.popM rfl ?_; simp only [S0, Nat.reduceEqDiff, Nat.reduceAdd, reduceIte, reduceCtorEq, S1, g10_0, g10_1, g10_2, g10_3, g10_9, g10_10, g10_11, g10_12, hd3, hd8, hd108])
          have fa_110 := fa_7.ext hx5
          have fa_111 := fa_110.ext hx9
          have fa_112 := fa_111.ext hx10
          refine Ow.callA (k := 49) (fs := []) (cs := []) (vs := [.slice aa la.length ca]) rfl rfl (by simp only [S0, Nat.reduceEqDiff, Nat.reduceAdd, reduceIte, reduceCtorEq, S1, g10_0, g10_1, g10_2, g10_3, g10_9, g10_10, g10_11, g10_12, hd3, hd8, hd108]) (bUint_any ext0_ok fa_112.wl (by omega)) (fun _ _ _ h => h) ?_
          rintro v109 H109 hx109 r109
          unfold uintV at r109
          rw [if_neg hu] at r109
          subst r109
          iterate 5 (refine Ow.popM rfl ?_; simp only [S0, Nat.reduceEqDiff, Nat.reduceAdd, reduceIte, reduceCtorEq, S1, g10_0, g10_1, g10_2, g10_3, g10_9, g10_10, g10_11, g10_12, hd3, hd8, hd108])
          refine Ow.nilM ⟨nofun, ?_⟩
          show Cw _ _ _ _ _
          refine Cw.seq ?_
          refine Cw.region ?_
          (refine Ow.popM rfl ?_; simp only [S0, Nat.reduceEqDiff, Nat.reduceAdd, reduceIte, reduceCtorEq, S1, g10_0, g10_1, g10_2, g10_3, g10_9, g10_10, g10_11, g10_12, hd3, hd8, hd108])
          have fa_114 := fa_112.ext hx109
          refine Ow.callA (k := 50) (fs := []) (cs := []) (vs := [.slice aa la.length ca]) rfl rfl (by simp only [S0, Nat.reduceEqDiff, Nat.reduceAdd, reduceIte, reduceCtorEq, S1, g10_0, g10_1, g10_2, g10_3, g10_9, g10_10, g10_11, g10_12, hd3, hd8, hd108]) (rUint_any ext0_ok fa_114.wl (by omega)) (fun _ _ _ h => h) ?_
          rintro v113 H113 hx113 r113
          unfold uintV at r113
          rw [if_neg hu] at r113
          subst r113
          iterate 5 (refine Ow.popM rfl ?_; simp only [S0, Nat.reduceEqDiff, Nat.reduceAdd, reduceIte, reduceCtorEq, S1, g10_0, g10_1, g10_2, g10_3, g10_9, g10_10, g10_11, g10_12, hd3, hd8, hd108])
          refine Ow.nilM ⟨nofun, ?_⟩
          show Cw _ _ _ _ _
          refine Cw.seq ?_
          by_cases hf : -(2 : Int) ^ 63 ≤ sval la ∧ sval la < (2 : Int) ^ 63
          · have hd115 : decide (-(2 : Int) ^ 63 ≤ sval la ∧ sval la < (2 : Int) ^ 63) = true := decide_eq_true hf
            refine Cw.region ?_
            (refine Ow.popM rfl ?_; simp only [S0, Nat.reduceEqDiff, Nat.reduceAdd, reduceIte, reduceCtorEq, S1, g10_0, g10_1, g10_2, g10_3, g10_9, g10_10, g10_11, g10_12, hd3, hd8, hd108, hd115])
            have fa_117 := fa_114.ext hx113
            refine Ow.callA (k := 51) (fs := []) (cs := []) (vs := [.slice aa la.length ca]) rfl rfl (by simp only [S0, Nat.reduceEqDiff, Nat.reduceAdd, reduceIte, reduceCtorEq, S1, g10_0, g10_1, g10_2, g10_3, g10_9, g10_10, g10_11, g10_12, hd3, hd8, hd108, hd115]) (bInt_any ext0_ok fa_117.wl (by omega)) (fun _ _ _ h => h) ?_
            rintro v116 H116 hx116 r116
            unfold intV at r116
            rw [if_pos hf] at r116
            subst r116
            iterate 5 (refine Ow.popM rfl ?_; simp only [S0, Nat.reduceEqDiff, Nat.reduceAdd, reduceIte, reduceCtorEq, S1, g10_0, g10_1, g10_2, g10_3, g10_9, g10_10, g10_11, g10_12, hd3, hd8, hd108, hd115])
            refine Ow.nilM ⟨nofun, ?_⟩
            show Cw _ _ _ _ _
            refine Cw.seq ?_
            refine Cw.region ?_
            (refine Ow.popM rfl ?_; simp only [S0, Nat.reduceEqDiff, Nat.reduceAdd, reduceIte, reduceCtorEq, S1, g10_0, g10_1, g10_2, g10_3, g10_9, g10_10, g10_11, g10_12, hd3, hd8, hd108, hd115])
            have fa_119 := fa_117.ext hx116
            refine Ow.callA (k := 52) (fs := []) (cs := []) (vs := [.slice aa la.length ca]) rfl rfl (by simp only [S0, Nat.reduceEqDiff, Nat.reduceAdd, reduceIte, reduceCtorEq, S1, g10_0, g10_1, g10_2, g10_3, g10_9, g10_10, g10_11, g10_12, hd3, hd8, hd108, hd115]) (rInt_any ext0_ok fa_119.wl (by omega)) (fun _ _ _ h => h) ?_
            rintro v118 H118 hx118 r118
            unfold intV at r118
            rw [if_pos hf] at r118
            subst r118
            refine Ow.gen (fun E => E.get 0 = some (.slice aa la.length ca) ∧ E.get 9 = some (v5) ∧ E.get 18 = some (.int .u64 (0)) ∧ E.get 19 = some (.bool false) ∧ E.get 20 = some (.int .u64 (0)) ∧ E.get 21 = some (.bool false) ∧ E.get 22 = some (.int .i64 (sval la)) ∧ E.get 23 = some (.bool true) ∧ E.get 113 = some (.tuple ⟨[.int .i64 (sval la), .bool true]⟩)) ⟨(by simp only [S0, Nat.reduceEqDiff, Nat.reduceAdd, reduceIte, reduceCtorEq, S1, and_self, g10_0, g10_1, g10_2, g10_3, g10_9, g10_10, g10_11, g10_12, hd3, hd8, hd108, hd115]), (by simp only [S0, Nat.reduceEqDiff, Nat.reduceAdd, reduceIte, reduceCtorEq, S1, and_self, g10_0, g10_1, g10_2, g10_3, g10_9, g10_10, g10_11, g10_12, hd3, hd8, hd108, hd115]), (by simp only [S0, Nat.reduceEqDiff, Nat.reduceAdd, reduceIte, reduceCtorEq, S1, and_self, g10_0, g10_1, g10_2, g10_3, g10_9, g10_10, g10_11, g10_12, hd3, hd8, hd108, hd115]), (by simp only [S0, Nat.reduceEqDiff, Nat.reduceAdd, reduceIte, reduceCtorEq, S1, and_self, g10_0, g10_1, g10_2, g10_3, g10_9, g10_10, g10_11, g10_12, hd3, hd8, hd108, hd115]), (by simp only [S0, Nat.reduceEqDiff, Nat.reduceAdd, reduceIte, reduceCtorEq, S1, and_self, g10_0, g10_1, g10_2, g10_3, g10_9, g10_10, g10_11, g10_12, hd3, hd8, hd108, hd115]), (by simp only [S0, Nat.reduceEqDiff, Nat.reduceAdd, reduceIte, reduceCtorEq, S1, and_self, g10_0, g10_1, g10_2, g10_3, g10_9, g10_10, g10_11, g10_12, hd3, hd8, hd108, hd115]), (by simp only [S0, Nat.reduceEqDiff, Nat.reduceAdd, reduceIte, reduceCtorEq, S1, and_self, g10_0, g10_1, g10_2, g10_3, g10_9, g10_10, g10_11, g10_12, hd3, hd8, hd108, hd115]), (by simp only [S0, Nat.reduceEqDiff, Nat.reduceAdd, reduceIte, reduceCtorEq, S1, and_self, g10_0, g10_1, g10_2, g10_3, g10_9, g10_10, g10_11, g10_12, hd3, hd8, hd108, hd115]), (by simp only [S0, Nat.reduceEqDiff, Nat.reduceAdd, reduceIte, reduceCtorEq, S1, and_self, g10_0, g10_1, g10_2, g10_3, g10_9, g10_10, g10_11, g10_12, hd3, hd8, hd108, hd115])⟩ ?_
            rintro E120 ⟨g120_0, g120_9, g120_18, g120_19, g120_20, g120_21, g120_22, g120_23, g120_113⟩
            iterate 5 (refine Ow.popM rfl ?_; simp only [S0, Nat.reduceEqDiff, Nat.reduceAdd, reduceIte, reduceCtorEq, S1, g120_0, g120_9, g120_18, g120_19, g120_20, g120_21, g120_22, g120_23, g120_113, hd3, hd8, hd108, hd115])
            refine Ow.nilM ⟨nofun, ?_⟩
            show Cw _ _ _ _ _
            refine Cw.seq ?_
            refine Cw.region ?_
            iterate 20 (refine Ow.popM rfl ?_; simp only [S0, Nat.reduceEqDiff, Nat.reduceAdd, reduceIte, reduceCtorEq, S1, show ((0 : Int) == 0) = true from rfl, show (false == false) = true from rfl, bne_self_eq_false, show (true == true) = true from rfl, g120_0, g120_9, g120_18, g120_19, g120_20, g120_21, g120_22, g120_23, g120_113, hd3, hd8, hd108, hd115])
            refine Ow.gen (fun E => E.get 0 = some (.slice aa la.length ca) ∧ E.get 134 = some (.bool true) ∧ E.get 135 = some (v5)) ⟨(by simp only [S0, Nat.reduceEqDiff, Nat.reduceAdd, reduceIte, reduceCtorEq, S1, and_self, g120_0, g120_9, g120_18, g120_19, g120_20, g120_21, g120_22, g120_23, g120_113, hd3, hd8, hd108, hd115]), (by simp only [S0, Nat.reduceEqDiff, Nat.reduceAdd, reduceIte, reduceCtorEq, S1, and_self, g120_0, g120_9, g120_18, g120_19, g120_20, g120_21, g120_22, g120_23, g120_113, hd3, hd8, hd108, hd115]), (by simp only [S0, Nat.reduceEqDiff, Nat.reduceAdd, reduceIte, reduceCtorEq, S1, and_self, g120_0, g120_9, g120_18, g120_19, g120_20, g120_21, g120_22, g120_23, g120_113, hd3, hd8, hd108, hd115])⟩ ?_
            rintro E121 ⟨g121_0, g121_134, g121_135⟩
            (refine Ow.popM rfl ?_; simp only [S0, Nat.reduceEqDiff, Nat.reduceAdd, reduceIte, reduceCtorEq, S1, g121_0, g121_134, g121_135, hd3, hd8, hd108, hd115])
            have r5_123 := r5.ext hx9
            have r5_124 := r5_123.ext hx10
            have r5_125 := r5_124.ext hx109
            have r5_126 := r5_125.ext hx113
            have r5_127 := r5_126.ext hx116
            have r5_128 := r5_127.ext hx118
            have fa_129 := fa_119.ext hx118
            refine Ow.callPA (k := 20) (fs := []) (cs := []) (vs := [v5, .slice aa la.length ca]) (by simp only [S0, Nat.reduceEqDiff, Nat.reduceAdd, reduceIte, reduceCtorEq, S1, g121_0, g121_134, g121_135, hd3, hd8, hd108, hd115]) rfl (by simp only [S0, Nat.reduceEqDiff, Nat.reduceAdd, reduceIte, reduceCtorEq, S1, g121_0, g121_134, g121_135, hd3, hd8, hd108, hd115]) (same_T ext0_ok r5_128.isB.wl fa_129.wl (by first | omega | (simp only [SL]; omega)) (rfl)) ?_
            intro H122 hx122
            iterate 2 (refine Ow.popM rfl ?_; simp only [S0, Nat.reduceEqDiff, Nat.reduceAdd, reduceIte, reduceCtorEq, S1, g121_0, g121_134, g121_135, hd3, hd8, hd108, hd115])
            refine Ow.callPA (k := 14) (fs := []) (cs := []) (vs := []) (by simp only [S0, Nat.reduceEqDiff, Nat.reduceAdd, reduceIte, reduceCtorEq, S1, g121_0, g121_134, g121_135, hd3, hd8, hd108, hd115]) rfl rfl (awake_any) ?_
            intro H130 hx130
            iterate 2 (refine Ow.popM rfl ?_; simp only [S0, Nat.reduceEqDiff, Nat.reduceAdd, reduceIte, reduceCtorEq, S1, g121_0, g121_134, g121_135, hd3, hd8, hd108, hd115])
            refine Ow.nilM ⟨nofun, ?_⟩
            show Cw _ _ _ _ _
            refine Cw.ret ?_
            simp only [Then, InBlock, Rnd, FnPost, resOf, tupled, S0, Nat.reduceEqDiff, Nat.reduceAdd, reduceIte, reduceCtorEq, g121_0, g121_134, g121_135, hd3, hd8, hd108, hd115]
          · have hd131 : decide (-(2 : Int) ^ 63 ≤ sval la ∧ sval la < (2 : Int) ^ 63) = false := decide_eq_false hf
            refine Cw.region ?_
            (refine Ow.popM rfl ?_; simp only [S0, Nat.reduceEqDiff, Nat.reduceAdd, reduceIte, reduceCtorEq, S1, g10_0, g10_1, g10_2, g10_3, g10_9, g10_10, g10_11, g10_12, hd3, hd8, hd108, hd131])
            have fa_133 := fa_114.ext hx113
            refine Ow.callA (k := 51) (fs := []) (cs := []) (vs := [.slice aa la.length ca]) rfl rfl (by simp only [S0, Nat.reduceEqDiff, Nat.reduceAdd, reduceIte, reduceCtorEq, S1, g10_0, g10_1, g10_2, g10_3, g10_9, g10_10, g10_11, g10_12, hd3, hd8, hd108, hd131]) (bInt_any ext0_ok fa_133.wl (by omega)) (fun _ _ _ h => h) ?_
            rintro v132 H132 hx132 r132
            unfold intV at r132
            rw [if_neg hf] at r132
            subst r132
            iterate 5 (refine Ow.popM rfl ?_; simp only [S0, Nat.reduceEqDiff, Nat.reduceAdd, reduceIte, reduceCtorEq, S1, g10_0, g10_1, g10_2, g10_3, g10_9, g10_10, g10_11, g10_12, hd3, hd8, hd108, hd131])
            refine Ow.nilM ⟨nofun, ?_⟩
            show Cw _ _ _ _ _
            refine Cw.seq ?_
            refine Cw.region ?_
            (refine Ow.popM rfl ?_; simp only [S0, Nat.reduceEqDiff, Nat.reduceAdd, reduceIte, reduceCtorEq, S1, g10_0, g10_1, g10_2, g10_3, g10_9, g10_10, g10_11, g10_12, hd3, hd8, hd108, hd131])
            have fa_135 := fa_133.ext hx132
            refine Ow.callA (k := 52) (fs := []) (cs := []) (vs := [.slice aa la.length ca]) rfl rfl (by simp only [S0, Nat.reduceEqDiff, Nat.reduceAdd, reduceIte, reduceCtorEq, S1, g10_0, g10_1, g10_2, g10_3, g10_9, g10_10, g10_11, g10_12, hd3, hd8, hd108, hd131]) (rInt_any ext0_ok fa_135.wl (by omega)) (fun _ _ _ h => h) ?_
            rintro v134 H134 hx134 r134
            unfold intV at r134
            rw [if_neg hf] at r134
            subst r134
            refine Ow.gen (fun E => E.get 0 = some (.slice aa la.length ca) ∧ E.get 9 = some (v5) ∧ E.get 18 = some (.int .u64 (0)) ∧ E.get 19 = some (.bool false) ∧ E.get 20 = some (.int .u64 (0)) ∧ E.get 21 = some (.bool false) ∧ E.get 22 = some (.int .i64 (0)) ∧ E.get 23 = some (.bool false) ∧ E.get 113 = some (.tuple ⟨[.int .i64 (0), .bool false]⟩)) ⟨(by simp only [S0, Nat.reduceEqDiff, Nat.reduceAdd, reduceIte, reduceCtorEq, S1, and_self, g10_0, g10_1, g10_2, g10_3, g10_9, g10_10, g10_11, g10_12, hd3, hd8, hd108, hd131]), (by simp only [S0, Nat.reduceEqDiff, Nat.reduceAdd, reduceIte, reduceCtorEq, S1, and_self, g10_0, g10_1, g10_2, g10_3, g10_9, g10_10, g10_11, g10_12, hd3, hd8, hd108, hd131]), (by simp only [S0, Nat.reduceEqDiff, Nat.reduceAdd, reduceIte, reduceCtorEq, S1, and_self, g10_0, g10_1, g10_2, g10_3, g10_9, g10_10, g10_11, g10_12, hd3, hd8, hd108, hd131]), (by simp only [S0, Nat.reduceEqDiff, Nat.reduceAdd, reduceIte, reduceCtorEq, S1, and_self, g10_0, g10_1, g10_2, g10_3, g10_9, g10_10, g10_11, g10_12, hd3, hd8, hd108, hd131]), (by simp only [S0, Nat.reduceEqDiff, Nat.reduceAdd, reduceIte, reduceCtorEq, S1, and_self, g10_0, g10_1, g10_2, g10_3, g10_9, g10_10, g10_11, g10_12, hd3, hd8, hd108, hd131]), (by simp only [S0, Nat.reduceEqDiff, Nat.reduceAdd, reduceIte, reduceCtorEq, S1, and_self, g10_0, g10_1, g10_2, g10_3, g10_9, g10_10, g10_11, g10_12, hd3, hd8, hd108, hd131]), (by simp only [S0, Nat.reduceEqDiff, Nat.reduceAdd, reduceIte, reduceCtorEq, S1, and_self, g10_0, g10_1, g10_2, g10_3, g10_9, g10_10, g10_11, g10_12, hd3, hd8, hd108, hd131]), (by simp only [S0, Nat.reduceEqDiff, Nat.reduceAdd, reduceIte, reduceCtorEq, S1, and_self, g10_0, g10_1, g10_2, g10_3, g10_9, g10_10, g10_11, g10_12, hd3, hd8, hd108, hd131]), (by simp only [S0, Nat.reduceEqDiff, Nat.reduceAdd, reduceIte, reduceCtorEq, S1, and_self, g10_0, g10_1, g10_2, g10_3, g10_9, g10_10, g10_11, g10_12, hd3, hd8, hd108, hd131])⟩ ?_
            rintro E136 ⟨g136_0, g136_9, g136_18, g136_19, g136_20, g136_21, g136_22, g136_23, g136_113⟩
            iterate 5 (refine Ow.popM rfl ?_; simp only [S0, Nat.reduceEqDiff, Nat.reduceAdd, reduceIte, reduceCtorEq, S1, g136_0, g136_9, g136_18, g136_19, g136_20, g136_21, g136_22, g136_23, g136_113, hd3, hd8, hd108, hd131])
            refine Ow.nilM ⟨nofun, ?_⟩
            show Cw _ _ _ _ _
            refine Cw.seq ?_
            refine Cw.region ?_
            iterate 20 (refine Ow.popM rfl ?_; simp only [S0, Nat.reduceEqDiff, Nat.reduceAdd, reduceIte, reduceCtorEq, S1, show ((0 : Int) == 0) = true from rfl, show (false == false) = true from rfl, g136_0, g136_9, g136_18, g136_19, g136_20, g136_21, g136_22, g136_23, g136_113, hd3, hd8, hd108, hd131])
            refine Ow.gen (fun E => E.get 0 = some (.slice aa la.length ca) ∧ E.get 134 = some (.bool true) ∧ E.get 135 = some (v5)) ⟨(by simp only [S0, Nat.reduceEqDiff, Nat.reduceAdd, reduceIte, reduceCtorEq, S1, and_self, g136_0, g136_9, g136_18, g136_19, g136_20, g136_21, g136_22, g136_23, g136_113, hd3, hd8, hd108, hd131]), (by simp only [S0, Nat.reduceEqDiff, Nat.reduceAdd, reduceIte, reduceCtorEq, S1, and_self, g136_0, g136_9, g136_18, g136_19, g136_20, g136_21, g136_22, g136_23, g136_113, hd3, hd8, hd108, hd131]), (by simp only [S0, Nat.reduceEqDiff, Nat.reduceAdd, reduceIte, reduceCtorEq, S1, and_self, g136_0, g136_9, g136_18, g136_19, g136_20, g136_21, g136_22, g136_23, g136_113, hd3, hd8, hd108, hd131])⟩ ?_
            rintro E137 ⟨g137_0, g137_134, g137_135⟩
            (refine Ow.popM rfl ?_; simp only [S0, Nat.reduceEqDiff, Nat.reduceAdd, reduceIte, reduceCtorEq, S1, g137_0, g137_134, g137_135, hd3, hd8, hd108, hd131])
            have r5_139 := r5.ext hx9
            have r5_140 := r5_139.ext hx10
            have r5_141 := r5_140.ext hx109
            have r5_142 := r5_141.ext hx113
            have r5_143 := r5_142.ext hx132
            have r5_144 := r5_143.ext hx134
            have fa_145 := fa_135.ext hx134
            refine Ow.callPA (k := 20) (fs := []) (cs := []) (vs := [v5, .slice aa la.length ca]) (by simp only [S0, Nat.reduceEqDiff, Nat.reduceAdd, reduceIte, reduceCtorEq, S1, g137_0, g137_134, g137_135, hd3, hd8, hd108, hd131]) rfl (by simp only [S0, Nat.reduceEqDiff, Nat.reduceAdd, reduceIte, reduceCtorEq, S1, g137_0, g137_134, g137_135, hd3, hd8, hd108, hd131]) (same_T ext0_ok r5_144.isB.wl fa_145.wl (by first | omega | (simp only [SL]; omega)) (rfl)) ?_
            intro H138 hx138
            iterate 2 (refine Ow.popM rfl ?_; simp only [S0, Nat.reduceEqDiff, Nat.reduceAdd, reduceIte, reduceCtorEq, S1, g137_0, g137_134, g137_135, hd3, hd8, hd108, hd131])
            refine Ow.callPA (k := 14) (fs := []) (cs := []) (vs := []) (by simp only [S0, Nat.reduceEqDiff, Nat.reduceAdd, reduceIte, reduceCtorEq, S1, g137_0, g137_134, g137_135, hd3, hd8, hd108, hd131]) rfl rfl (awake_any) ?_
            intro H146 hx146
            iterate 2 (refine Ow.popM rfl ?_; simp only [S0, Nat.reduceEqDiff, Nat.reduceAdd, reduceIte, reduceCtorEq, S1, g137_0, g137_134, g137_135, hd3, hd8, hd108, hd131])
            refine Ow.nilM ⟨nofun, ?_⟩
            show Cw _ _ _ _ _
            refine Cw.ret ?_
            simp only [Then, InBlock, Rnd, FnPost, resOf, tupled, S0, Nat.reduceEqDiff, Nat.reduceAdd, reduceIte, reduceCtorEq, g137_0, g137_134, g137_135, hd3, hd8, hd108, hd131]
    · have hd147 : decide (n3 < 0 ∨ n3 > 128) = false := decide_eq_false hw
      refine Cw.region ?_
      iterate 2 (refine Ow.popM rfl ?_; simp only [S0, Nat.reduceEqDiff, Nat.reduceAdd, reduceIte, reduceCtorEq, S1, hd3, hd147])
      refine Ow.callA (k := 44) (fs := []) (cs := []) (vs := [.int .i64 (n2), .int .i64 (n3)]) rfl rfl (by simp only [S0, Nat.reduceEqDiff, Nat.reduceAdd, reduceIte, reduceCtorEq, S1, hd3, hd147]) (rFromInt_any ext0_ok) (fun _ _ _ h => h) ?_
      rintro v148 H148 hx148 r148
      rw [if_neg hw] at r148
      obtain ⟨u148, rfl, mu148⟩ := r148
      iterate 5 (refine Ow.popM rfl ?_; simp only [S0, Nat.reduceEqDiff, Nat.reduceAdd, reduceIte, reduceCtorEq, S1, hd3, hd147])
      refine Ow.nilM ⟨nofun, ?_⟩
      show Cw _ _ _ _ _
      refine Cw.seq ?_
      refine Cw.seq ?_
      refine Cw.region ?_
      (refine Ow.popM rfl ?_; simp only [S0, Nat.reduceEqDiff, Nat.reduceAdd, reduceIte, reduceCtorEq, S1, hd3, hd147])
      refine Ow.nilM ⟨nofun, ?_⟩
      show Cw _ _ _ _ _
      refine Cw.block ?_
      refine Cw.loopI (2) (fun k E Hq => (E.get 0 = some (.slice aa la.length ca) ∧ E.get 1 = some (.int .i64 (n1)) ∧ E.get 2 = some (.int .i64 (n2)) ∧ E.get 3 = some (.int .i64 (n3)) ∧ E.get 9 = some (v5) ∧ E.get 10 = some (u148) ∧ E.get 11 = some (.int .i64 (0)) ∧ E.get 12 = some (.int .i64 ((k : Nat) : Int))) ∧ AL.Ext H148 Hq) ⟨⟨(by simp only [S0, Nat.reduceEqDiff, Nat.reduceAdd, reduceIte, reduceCtorEq, S1, and_self, hd3, hd147]), (by simp only [S0, Nat.reduceEqDiff, Nat.reduceAdd, reduceIte, reduceCtorEq, S1, and_self, hd3, hd147]), (by simp only [S0, Nat.reduceEqDiff, Nat.reduceAdd, reduceIte, reduceCtorEq, S1, and_self, hd3, hd147]), (by simp only [S0, Nat.reduceEqDiff, Nat.reduceAdd, reduceIte, reduceCtorEq, S1, and_self, hd3, hd147]), (by simp only [S0, Nat.reduceEqDiff, Nat.reduceAdd, reduceIte, reduceCtorEq, S1, and_self, hd3, hd147]), (by simp only [S0, Nat.reduceEqDiff, Nat.reduceAdd, reduceIte, reduceCtorEq, S1, and_self, hd3, hd147]), (by simp only [S0, Nat.reduceEqDiff, Nat.reduceAdd, reduceIte, reduceCtorEq, S1, and_self, hd3, hd147]), (by simp only [S0, Nat.reduceEqDiff, Nat.reduceAdd, reduceIte, reduceCtorEq, eq_self, hd3, hd147] <;> first | rfl | simp [Nat.mod_one])⟩, (AL.Ext.refl _)⟩ ?_
      rintro k149 E149 H149 hk149 ⟨⟨g149_0, g149_1, g149_2, g149_3, g149_9, g149_10, g149_11, g149_12⟩, hx149⟩
      by_cases hlt149 : k149 < 2
      · skip
        refine Cw.seq ?_
        refine Cw.seq ?_
        refine Cw.region ?_
        iterate 2 (refine Ow.popM rfl ?_; simp only [S0, Nat.reduceEqDiff, Nat.reduceAdd, reduceIte, reduceCtorEq, S1, show decide ((((k149 : Nat) : Int) : Int) < (2 : Int)) = decide (k149 < 2) from lt_dec (k149) (2), show decide (k149 < 2) = true from decide_eq_true (hlt149), g149_0, g149_1, g149_2, g149_3, g149_9, g149_10, g149_11, g149_12, hd3, hd147])
        refine Ow.nilM ⟨nofun, ?_⟩
        show Cw _ _ _ _ _
        refine Cw.cond (t := true) (by simp only [S0, Nat.reduceEqDiff, Nat.reduceAdd, reduceIte, reduceCtorEq, S1, g149_0, g149_1, g149_2, g149_3, g149_9, g149_10, g149_11, g149_12, hd3, hd147]) ?_
        refine Cw.skip ?_
        show Cw _ _ _ _ _
        refine Cw.seq ?_
        refine Cw.block ?_
        refine Cw.seq ?_
        refine Cw.region ?_
        iterate 2 (refine Ow.popM rfl ?_; simp only [S0, Nat.reduceEqDiff, Nat.reduceAdd, reduceIte, reduceCtorEq, S1, g149_0, g149_1, g149_2, g149_3, g149_9, g149_10, g149_11, g149_12, hd3, hd147])
        have r5_151 := r5.ext hx148
        have r5_152 := r5_151.ext hx149
        refine Ow.callA (k := 34) (fs := []) (cs := []) (vs := [v5, .int .i64 (n1)]) rfl rfl (by simp only [S0, Nat.reduceEqDiff, Nat.reduceAdd, reduceIte, reduceCtorEq, S1, g149_0, g149_1, g149_2, g149_3, g149_9, g149_10, g149_11, g149_12, hd3, hd147]) (shl_any ext0_ok r5_152.isB.wl (by first | omega | (simp only [SL]; omega))) (fun _ _ _ h => h) ?_
        rintro v150 H150 hx150 ⟨i150, hi150, m150⟩
        iterate 2 (refine Ow.popM rfl ?_; simp only [S0, Nat.reduceEqDiff, Nat.reduceAdd, reduceIte, reduceCtorEq, S1, g149_0, g149_1, g149_2, g149_3, g149_9, g149_10, g149_11, g149_12, hd3, hd147])
        have r5_154 := r5_152.ext hx150
        refine Ow.callA (k := 35) (fs := []) (cs := []) (vs := [v5, .int .i64 (n1)]) rfl rfl (by simp only [S0, Nat.reduceEqDiff, Nat.reduceAdd, reduceIte, reduceCtorEq, S1, g149_0, g149_1, g149_2, g149_3, g149_9, g149_10, g149_11, g149_12, hd3, hd147]) (shr_any ext0_ok r5_154.isB.wl (by first | omega | (simp only [SL]; omega))) (fun _ _ _ h => h) ?_
        rintro v153 H153 hx153 ⟨i153, hi153, m153⟩
        iterate 2 (refine Ow.popM rfl ?_; simp only [S0, Nat.reduceEqDiff, Nat.reduceAdd, reduceIte, reduceCtorEq, S1, g149_0, g149_1, g149_2, g149_3, g149_9, g149_10, g149_11, g149_12, hd3, hd147])
        have r5_156 := r5_154.ext hx153
        refine Ow.callA (k := 36) (fs := []) (cs := []) (vs := [v5, .int .i64 (n1)]) rfl rfl (by simp only [S0, Nat.reduceEqDiff, Nat.reduceAdd, reduceIte, reduceCtorEq, S1, g149_0, g149_1, g149_2, g149_3, g149_9, g149_10, g149_11, g149_12, hd3, hd147]) (sar_any ext0_ok r5_156.isB.wl (by first | omega | (simp only [SL]; omega))) (fun _ _ _ h => h) ?_
        rintro v155 H155 hx155 ⟨i155, hi155, m155⟩
        iterate 3 (refine Ow.popM rfl ?_; simp only [S0, Nat.reduceEqDiff, Nat.reduceAdd, reduceIte, reduceCtorEq, S1, g149_0, g149_1, g149_2, g149_3, g149_9, g149_10, g149_11, g149_12, hd3, hd147])
        refine Ow.nilM ⟨nofun, ?_⟩
        show Cw _ _ _ _ _
        refine Cw.seq ?_
        refine Cw.region ?_
        iterate 2 (refine Ow.popM rfl ?_; simp only [S0, Nat.reduceEqDiff, Nat.reduceAdd, reduceIte, reduceCtorEq, S1, g149_0, g149_1, g149_2, g149_3, g149_9, g149_10, g149_11, g149_12, hd3, hd147])
        refine Ow.callA (k := 45) (fs := []) (cs := []) (vs := [.int .i64 (n2), .int .i64 (n3)]) rfl rfl (by simp only [S0, Nat.reduceEqDiff, Nat.reduceAdd, reduceIte, reduceCtorEq, S1, g149_0, g149_1, g149_2, g149_3, g149_9, g149_10, g149_11, g149_12, hd3, hd147]) (bFromInt_any ext0_ok hn2.1 hn2.2) (fun _ _ _ h => h) ?_
        rintro v157 H157 hx157 r157
        rw [if_neg hw] at r157
        obtain ⟨u157, rfl, mu157⟩ := r157
        iterate 5 (refine Ow.popM rfl ?_; simp only [S0, Nat.reduceEqDiff, Nat.reduceAdd, reduceIte, reduceCtorEq, S1, g149_0, g149_1, g149_2, g149_3, g149_9, g149_10, g149_11, g149_12, hd3, hd147])
        refine Ow.nilM ⟨nofun, ?_⟩
        show Cw _ _ _ _ _
        refine Cw.seq ?_
        refine Cw.seq ?_
        refine Cw.region ?_
        iterate 3 (refine Ow.popM rfl ?_; simp only [S0, Nat.reduceEqDiff, Nat.reduceAdd, reduceIte, reduceCtorEq, S1, show ((0 : Int) != 0) = false from rfl, g149_0, g149_1, g149_2, g149_3, g149_9, g149_10, g149_11, g149_12, hd3, hd147])
        refine Ow.gen (fun E => E.get 0 = some (.slice aa la.length ca) ∧ E.get 1 = some (.int .i64 (n1)) ∧ E.get 2 = some (.int .i64 (n2)) ∧ E.get 3 = some (.int .i64 (n3)) ∧ E.get 9 = some (v5) ∧ E.get 10 = some (u148) ∧ E.get 11 = some (.int .i64 (0)) ∧ E.get 12 = some (.int .i64 ((k149 : Nat) : Int)) ∧ E.get 13 = some (v150) ∧ E.get 14 = some (v153) ∧ E.get 15 = some (v155) ∧ E.get 16 = some (u157) ∧ E.get 59 = some (.bool false)) ⟨(by simp only [S0, Nat.reduceEqDiff, Nat.reduceAdd, reduceIte, reduceCtorEq, S1, and_self, g149_0, g149_1, g149_2, g149_3, g149_9, g149_10, g149_11, g149_12, hd3, hd147]), (by simp only [S0, Nat.reduceEqDiff, Nat.reduceAdd, reduceIte, reduceCtorEq, S1, and_self, g149_0, g149_1, g149_2, g149_3, g149_9, g149_10, g149_11, g149_12, hd3, hd147]), (by simp only [S0, Nat.reduceEqDiff, Nat.reduceAdd, reduceIte, reduceCtorEq, S1, and_self, g149_0, g149_1, g149_2, g149_3, g149_9, g149_10, g149_11, g149_12, hd3, hd147]), (by simp only [S0, Nat.reduceEqDiff, Nat.reduceAdd, reduceIte, reduceCtorEq, S1, and_self, g149_0, g149_1, g149_2, g149_3, g149_9, g149_10, g149_11, g149_12, hd3, hd147]), (by simp only [S0, Nat.reduceEqDiff, Nat.reduceAdd, reduceIte, reduceCtorEq, S1, and_self, g149_0, g149_1, g149_2, g149_3, g149_9, g149_10, g149_11, g149_12, hd3, hd147]), (by simp only [S0, Nat.reduceEqDiff, Nat.reduceAdd, reduceIte, reduceCtorEq, S1, and_self, g149_0, g149_1, g149_2, g149_3, g149_9, g149_10, g149_11, g149_12, hd3, hd147]), (by simp only [S0, Nat.reduceEqDiff, Nat.reduceAdd, reduceIte, reduceCtorEq, S1, and_self, g149_0, g149_1, g149_2, g149_3, g149_9, g149_10, g149_11, g149_12, hd3, hd147]), (by simp only [S0, Nat.reduceEqDiff, Nat.reduceAdd, reduceIte, reduceCtorEq, S1, and_self, g149_0, g149_1, g149_2, g149_3, g149_9, g149_10, g149_11, g149_12, hd3, hd147]), (by simp only [S0, Nat.reduceEqDiff, Nat.reduceAdd, reduceIte, reduceCtorEq, S1, and_self, g149_0, g149_1, g149_2, g149_3, g149_9, g149_10, g149_11, g149_12, hd3, hd147]), (by simp only [S0, Nat.reduceEqDiff, Nat.reduceAdd, reduceIte, reduceCtorEq, S1, and_self, g149_0, g149_1, g149_2, g149_3, g149_9, g149_10, g149_11, g149_12, hd3, hd147]), (by simp only [S0, Nat.reduceEqDiff, Nat.reduceAdd, reduceIte, reduceCtorEq, S1, and_self, g149_0, g149_1, g149_2, g149_3, g149_9, g149_10, g149_11, g149_12, hd3, hd147]), (by simp only [S0, Nat.reduceEqDiff, Nat.reduceAdd, reduceIte, reduceCtorEq, S1, and_self, g149_0, g149_1, g149_2, g149_3, g149_9, g149_10, g149_11, g149_12, hd3, hd147]), (by simp only [S0, Nat.reduceEqDiff, Nat.reduceAdd, reduceIte, reduceCtorEq, S1, and_self, g149_0, g149_1, g149_2, g149_3, g149_9, g149_10, g149_11, g149_12, hd3, hd147])⟩ ?_
        rintro E158 ⟨g158_0, g158_1, g158_2, g158_3, g158_9, g158_10, g158_11, g158_12, g158_13, g158_14, g158_15, g158_16, g158_59⟩
        iterate 3 (refine Ow.popM rfl ?_; simp only [S0, Nat.reduceEqDiff, Nat.reduceAdd, reduceIte, reduceCtorEq, S1, g158_0, g158_1, g158_2, g158_3, g158_9, g158_10, g158_11, g158_12, g158_13, g158_14, g158_15, g158_16, g158_59, hd3, hd147])
        have mu148_160 := mu148.ext hx149
        have mu148_161 := mu148_160.ext hx150
        have mu148_162 := mu148_161.ext hx153
        have mu148_163 := mu148_162.ext hx155
        have mu148_164 := mu148_163.ext hx157
        refine Ow.callPA (k := 20) (fs := []) (cs := []) (vs := [u157, u148]) (by simp only [S0, Nat.reduceEqDiff, Nat.reduceAdd, reduceIte, reduceCtorEq, S1, g158_0, g158_1, g158_2, g158_3, g158_9, g158_10, g158_11, g158_12, g158_13, g158_14, g158_15, g158_16, g158_59, hd3, hd147]) rfl (by simp only [S0, Nat.reduceEqDiff, Nat.reduceAdd, reduceIte, reduceCtorEq, S1, g158_0, g158_1, g158_2, g158_3, g158_9, g158_10, g158_11, g158_12, g158_13, g158_14, g158_15, g158_16, g158_59, hd3, hd147]) (same_T ext0_ok mu157.isB.wl mu148_164.wl (by first | omega | (simp only [SL]; omega)) (rfl)) ?_
        intro H159 hx159
        iterate 6 (refine Ow.popM rfl ?_; simp only [S0, Nat.reduceEqDiff, Nat.reduceAdd, reduceIte, reduceCtorEq, S1, g158_0, g158_1, g158_2, g158_3, g158_9, g158_10, g158_11, g158_12, g158_13, g158_14, g158_15, g158_16, g158_59, hd3, hd147])
        have fa_166 := fa_7.ext hx5
        have fa_167 := fa_166.ext hx148
        have fa_168 := fa_167.ext hx149
        have fa_169 := fa_168.ext hx150
        have fa_170 := fa_169.ext hx153
        have fa_171 := fa_170.ext hx155
        have fa_172 := fa_171.ext hx157
        have fa_173 := fa_172.ext hx159
        refine Ow.callA (k := 46) (fs := []) (cs := []) (vs := [.slice aa la.length ca, .int .i64 (n1)]) (by simp only [S0, Nat.reduceEqDiff, Nat.reduceAdd, reduceIte, reduceCtorEq, S1, g158_0, g158_1, g158_2, g158_3, g158_9, g158_10, g158_11, g158_12, g158_13, g158_14, g158_15, g158_16, g158_59, hd3, hd147]) rfl (by simp only [S0, Nat.reduceEqDiff, Nat.reduceAdd, reduceIte, reduceCtorEq, S1, g158_0, g158_1, g158_2, g158_3, g158_9, g158_10, g158_11, g158_12, g158_13, g158_14, g158_15, g158_16, g158_59, hd3, hd147]) (rshl_any ext0_ok fa_173.wl (by omega)) (fun _ _ _ h => h) ?_
        rintro v165 H165 hx165 f165
        have m150_175 := m150.ext hx153
        have m150_176 := m150_175.ext hx155
        have m150_177 := m150_176.ext hx157
        have m150_178 := m150_177.ext hx159
        have m150_179 := m150_178.ext hx165
        refine Ow.callPA (k := 20) (fs := []) (cs := []) (vs := [v150, v165]) (by simp only [S0, Nat.reduceEqDiff, Nat.reduceAdd, reduceIte, reduceCtorEq, S1, g158_0, g158_1, g158_2, g158_3, g158_9, g158_10, g158_11, g158_12, g158_13, g158_14, g158_15, g158_16, g158_59, hd3, hd147]) rfl (by simp only [S0, Nat.reduceEqDiff, Nat.reduceAdd, reduceIte, reduceCtorEq, S1, g158_0, g158_1, g158_2, g158_3, g158_9, g158_10, g158_11, g158_12, g158_13, g158_14, g158_15, g158_16, g158_59, hd3, hd147]) (same_T ext0_ok m150_179.isB.wl f165.wl (by first | omega | (simp only [SL]; omega)) (rfl)) ?_
        intro H174 hx174
        iterate 6 (refine Ow.popM rfl ?_; simp only [S0, Nat.reduceEqDiff, Nat.reduceAdd, reduceIte, reduceCtorEq, S1, g158_0, g158_1, g158_2, g158_3, g158_9, g158_10, g158_11, g158_12, g158_13, g158_14, g158_15, g158_16, g158_59, hd3, hd147])
        have fa_181 := fa_173.ext hx165
        have fa_182 := fa_181.ext hx174
        refine Ow.callA (k := 47) (fs := []) (cs := []) (vs := [.slice aa la.length ca, .int .i64 (n1)]) (by simp only [S0, Nat.reduceEqDiff, Nat.reduceAdd, reduceIte, reduceCtorEq, S1, g158_0, g158_1, g158_2, g158_3, g158_9, g158_10, g158_11, g158_12, g158_13, g158_14, g158_15, g158_16, g158_59, hd3, hd147]) rfl (by simp only [S0, Nat.reduceEqDiff, Nat.reduceAdd, reduceIte, reduceCtorEq, S1, g158_0, g158_1, g158_2, g158_3, g158_9, g158_10, g158_11, g158_12, g158_13, g158_14, g158_15, g158_16, g158_59, hd3, hd147]) (rshr_any ext0_ok fa_182.wl (by omega) (by omega)) (fun _ _ _ h => h) ?_
        rintro v180 H180 hx180 f180
        have m153_184 := m153.ext hx155
        have m153_185 := m153_184.ext hx157
        have m153_186 := m153_185.ext hx159
        have m153_187 := m153_186.ext hx165
        have m153_188 := m153_187.ext hx174
        have m153_189 := m153_188.ext hx180
        refine Ow.callPA (k := 20) (fs := []) (cs := []) (vs := [v153, v180]) (by simp only [S0, Nat.reduceEqDiff, Nat.reduceAdd, reduceIte, reduceCtorEq, S1, g158_0, g158_1, g158_2, g158_3, g158_9, g158_10, g158_11, g158_12, g158_13, g158_14, g158_15, g158_16, g158_59, hd3, hd147]) rfl (by simp only [S0, Nat.reduceEqDiff, Nat.reduceAdd, reduceIte, reduceCtorEq, S1, g158_0, g158_1, g158_2, g158_3, g158_9, g158_10, g158_11, g158_12, g158_13, g158_14, g158_15, g158_16, g158_59, hd3, hd147]) (same_T ext0_ok m153_189.isB.wl f180.wl (by first | omega | (simp only [SL]; omega)) (rfl)) ?_
        intro H183 hx183
        iterate 5 (refine Ow.popM rfl ?_; simp only [S0, Nat.reduceEqDiff, Nat.reduceAdd, reduceIte, reduceCtorEq, S1, g158_0, g158_1, g158_2, g158_3, g158_9, g158_10, g158_11, g158_12, g158_13, g158_14, g158_15, g158_16, g158_59, hd3, hd147])
        refine Ow.gen (fun E => E.get 0 = some (.slice aa la.length ca) ∧ E.get 1 = some (.int .i64 (n1)) ∧ E.get 2 = some (.int .i64 (n2)) ∧ E.get 3 = some (.int .i64 (n3)) ∧ E.get 9 = some (v5) ∧ E.get 10 = some (u148) ∧ E.get 11 = some (.int .i64 (0)) ∧ E.get 12 = some (.int .i64 ((k149 : Nat) : Int)) ∧ E.get 13 = some (v150) ∧ E.get 14 = some (v153) ∧ E.get 15 = some (v155) ∧ E.get 16 = some (u157) ∧ E.get 82 = some (.bool false) ∧ E.get 83 = some (v155) ∧ E.get 84 = some (.slice aa la.length ca)) ⟨(by simp only [S0, Nat.reduceEqDiff, Nat.reduceAdd, reduceIte, reduceCtorEq, S1, and_self, g158_0, g158_1, g158_2, g158_3, g158_9, g158_10, g158_11, g158_12, g158_13, g158_14, g158_15, g158_16, g158_59, hd3, hd147]), (by simp only [S0, Nat.reduceEqDiff, Nat.reduceAdd, reduceIte, reduceCtorEq, S1, and_self, g158_0, g158_1, g158_2, g158_3, g158_9, g158_10, g158_11, g158_12, g158_13, g158_14, g158_15, g158_16, g158_59, hd3, hd147]), (by simp only [S0, Nat.reduceEqDiff, Nat.reduceAdd, reduceIte, reduceCtorEq, S1, and_self, g158_0, g158_1, g158_2, g158_3, g158_9, g158_10, g158_11, g158_12, g158_13, g158_14, g158_15, g158_16, g158_59, hd3, hd147]), (by simp only [S0, Nat.reduceEqDiff, Nat.reduceAdd, reduceIte, reduceCtorEq, S1, and_self, g158_0, g158_1, g158_2, g158_3, g158_9, g158_10, g158_11, g158_12, g158_13, g158_14, g158_15, g158_16, g158_59, hd3, hd147]), (by simp only [S0, Nat.reduceEqDiff, Nat.reduceAdd, reduceIte, reduceCtorEq, S1, and_self, g158_0, g158_1, g158_2, g158_3, g158_9, g158_10, g158_11, g158_12, g158_13, g158_14, g158_15, g158_16, g158_59, hd3, hd147]), (by simp only [S0, Nat.reduceEqDiff, Nat.reduceAdd, reduceIte, reduceCtorEq, S1, and_self, g158_0, g158_1, g158_2, g158_3, g158_9, g158_10, g158_11, g158_12, g158_13, g158_14, g158_15, g158_16, g158_59, hd3, hd147]), (by simp only [S0, Nat.reduceEqDiff, Nat.reduceAdd, reduceIte, reduceCtorEq, S1, and_self, g158_0, g158_1, g158_2, g158_3, g158_9, g158_10, g158_11, g158_12, g158_13, g158_14, g158_15, g158_16, g158_59, hd3, hd147]), (by simp only [S0, Nat.reduceEqDiff, Nat.reduceAdd, reduceIte, reduceCtorEq, S1, and_self, g158_0, g158_1, g158_2, g158_3, g158_9, g158_10, g158_11, g158_12, g158_13, g158_14, g158_15, g158_16, g158_59, hd3, hd147]), (by simp only [S0, Nat.reduceEqDiff, Nat.reduceAdd, reduceIte, reduceCtorEq, S1, and_self, g158_0, g158_1, g158_2, g158_3, g158_9, g158_10, g158_11, g158_12, g158_13, g158_14, g158_15, g158_16, g158_59, hd3, hd147]), (by simp only [S0, Nat.reduceEqDiff, Nat.reduceAdd, reduceIte, reduceCtorEq, S1, and_self, g158_0, g158_1, g158_2, g158_3, g158_9, g158_10, g158_11, g158_12, g158_13, g158_14, g158_15, g158_16, g158_59, hd3, hd147]), (by simp only [S0, Nat.reduceEqDiff, Nat.reduceAdd, reduceIte, reduceCtorEq, S1, and_self, g158_0, g158_1, g158_2, g158_3, g158_9, g158_10, g158_11, g158_12, g158_13, g158_14, g158_15, g158_16, g158_59, hd3, hd147]), (by simp only [S0, Nat.reduceEqDiff, Nat.reduceAdd, reduceIte, reduceCtorEq, S1, and_self, g158_0, g158_1, g158_2, g158_3, g158_9, g158_10, g158_11, g158_12, g158_13, g158_14, g158_15, g158_16, g158_59, hd3, hd147]), (by simp only [S0, Nat.reduceEqDiff, Nat.reduceAdd, reduceIte, reduceCtorEq, S1, and_self, g158_0, g158_1, g158_2, g158_3, g158_9, g158_10, g158_11, g158_12, g158_13, g158_14, g158_15, g158_16, g158_59, hd3, hd147]), (by simp only [S0, Nat.reduceEqDiff, Nat.reduceAdd, reduceIte, reduceCtorEq, S1, and_self, g158_0, g158_1, g158_2, g158_3, g158_9, g158_10, g158_11, g158_12, g158_13, g158_14, g158_15, g158_16, g158_59, hd3, hd147]), (by simp only [S0, Nat.reduceEqDiff, Nat.reduceAdd, reduceIte, reduceCtorEq, S1, and_self, g158_0, g158_1, g158_2, g158_3, g158_9, g158_10, g158_11, g158_12, g158_13, g158_14, g158_15, g158_16, g158_59, hd3, hd147])⟩ ?_
        rintro E190 ⟨g190_0, g190_1, g190_2, g190_3, g190_9, g190_10, g190_11, g190_12, g190_13, g190_14, g190_15, g190_16, g190_82, g190_83, g190_84⟩
        (refine Ow.popM rfl ?_; simp only [S0, Nat.reduceEqDiff, Nat.reduceAdd, reduceIte, reduceCtorEq, S1, g190_0, g190_1, g190_2, g190_3, g190_9, g190_10, g190_11, g190_12, g190_13, g190_14, g190_15, g190_16, g190_82, g190_83, g190_84, hd3, hd147])
        have fa_192 := fa_182.ext hx180
        have fa_193 := fa_192.ext hx183
        refine Ow.callA (k := 48) (fs := []) (cs := []) (vs := [.slice aa la.length ca, .int .i64 (n1)]) (by simp only [S0, Nat.reduceEqDiff, Nat.reduceAdd, reduceIte, reduceCtorEq, S1, g190_0, g190_1, g190_2, g190_3, g190_9, g190_10, g190_11, g190_12, g190_13, g190_14, g190_15, g190_16, g190_82, g190_83, g190_84, hd3, hd147]) rfl (by simp only [S0, Nat.reduceEqDiff, Nat.reduceAdd, reduceIte, reduceCtorEq, S1, g190_0, g190_1, g190_2, g190_3, g190_9, g190_10, g190_11, g190_12, g190_13, g190_14, g190_15, g190_16, g190_82, g190_83, g190_84, hd3, hd147]) (rsar_any ext0_ok fa_193.wl (by omega) (by omega)) (fun _ _ _ h => h) ?_
        rintro v191 H191 hx191 f191
        have m155_195 := m155.ext hx157
        have m155_196 := m155_195.ext hx159
        have m155_197 := m155_196.ext hx165
        have m155_198 := m155_197.ext hx174
        have m155_199 := m155_198.ext hx180
        have m155_200 := m155_199.ext hx183
        have m155_201 := m155_200.ext hx191
        refine Ow.callPA (k := 20) (fs := []) (cs := []) (vs := [v155, v191]) (by simp only [S0, Nat.reduceEqDiff, Nat.reduceAdd, reduceIte, reduceCtorEq, S1, g190_0, g190_1, g190_2, g190_3, g190_9, g190_10, g190_11, g190_12, g190_13, g190_14, g190_15, g190_16, g190_82, g190_83, g190_84, hd3, hd147]) rfl (by simp only [S0, Nat.reduceEqDiff, Nat.reduceAdd, reduceIte, reduceCtorEq, S1, g190_0, g190_1, g190_2, g190_3, g190_9, g190_10, g190_11, g190_12, g190_13, g190_14, g190_15, g190_16, g190_82, g190_83, g190_84, hd3, hd147]) (same_T ext0_ok m155_201.isB.wl f191.wl (by first | omega | (simp only [SL]; omega)) (rfl)) ?_
        intro H194 hx194
        iterate 2 (refine Ow.popM rfl ?_; simp only [S0, Nat.reduceEqDiff, Nat.reduceAdd, reduceIte, reduceCtorEq, S1, g190_0, g190_1, g190_2, g190_3, g190_9, g190_10, g190_11, g190_12, g190_13, g190_14, g190_15, g190_16, g190_82, g190_83, g190_84, hd3, hd147])
        refine Ow.nilM ⟨nofun, ?_⟩
        show Cw _ _ _ _ _
        refine Cw.cond (t := false) (by simp only [S0, Nat.reduceEqDiff, Nat.reduceAdd, reduceIte, reduceCtorEq, S1, g190_0, g190_1, g190_2, g190_3, g190_9, g190_10, g190_11, g190_12, g190_13, g190_14, g190_15, g190_16, g190_82, g190_83, g190_84, hd3, hd147]) ?_
        refine Cw.skip ?_
        show Cw _ _ _ _ _
        refine Cw.region ?_
        iterate 4 (refine Ow.popM rfl ?_; simp only [S0, Nat.reduceEqDiff, Nat.reduceAdd, reduceIte, reduceCtorEq, S1, g190_0, g190_1, g190_2, g190_3, g190_9, g190_10, g190_11, g190_12, g190_13, g190_14, g190_15, g190_16, g190_82, g190_83, g190_84, hd3, hd147])
        have m150_203 := m150_179.ext hx174
        have m150_204 := m150_203.ext hx180
        have m150_205 := m150_204.ext hx183
        have m150_206 := m150_205.ext hx191
        have m150_207 := m150_206.ext hx194
        obtain rfl : v150 = _ := m150_207.1
        have m153_208 := m153_189.ext hx183
        have m153_209 := m153_208.ext hx191
        have m153_210 := m153_209.ext hx194
        obtain rfl : v153 = _ := m153_210.1
        have m155_211 := m155_201.ext hx194
        obtain rfl : v155 = _ := m155_211.1
        have mu157_213 := mu157.ext hx159
        have mu157_214 := mu157_213.ext hx165
        have mu157_215 := mu157_214.ext hx174
        have mu157_216 := mu157_215.ext hx180
        have mu157_217 := mu157_216.ext hx183
        have mu157_218 := mu157_217.ext hx191
        have mu157_219 := mu157_218.ext hx194
        obtain ⟨sa212, sc212, rfl⟩ := (mu157_219.isB).shape
        refine Ow.newA (b := ⟨[.slice (some ⟨i150, 0, none⟩) (ofN la.length (val la * 2 ^ n1.toNat)).length (ofN la.length (val la * 2 ^ n1.toNat)).length, .slice (some ⟨i153, 0, none⟩) (shrF la n1.toNat false).length (shrF la n1.toNat false).length, .slice (some ⟨i155, 0, none⟩) (shrF la n1.toNat (bx la (la.length - 1))).length (shrF la n1.toNat (bx la (la.length - 1))).length, .slice sa212 (ofI n3.toNat n2).length sc212], 0⟩) (v := .slice (some ⟨H194.n, 0, none⟩) 4 4) rfl rfl rfl (by simp only [S0, Nat.reduceEqDiff, Nat.reduceAdd, reduceIte, reduceCtorEq, AL.fillParts, putCells, AL.cellsOf, junk, List.length_cons, List.length_nil, Nat.beq_refl, Nat.ble_self_eq_true, show Nat.ble 1 4 = true from rfl, show Nat.ble 2 4 = true from rfl, show Nat.ble 3 4 = true from rfl, show Nat.ble 4 4 = true from rfl, Bool.and_self, Bool.and_true, Bool.true_and, List.take_zero, List.take_succ_cons, List.cons_append, List.nil_append, List.drop_succ_cons, List.drop_zero, List.drop_nil, List.append_nil, Nat.sub_zero, Nat.reduceAdd, List.take_nil, g190_0, g190_1, g190_2, g190_3, g190_9, g190_10, g190_11, g190_12, g190_13, g190_14, g190_15, g190_16, g190_82, g190_83, g190_84, hd3, hd147]) ?_
        intro H202 hx202 hl202 hg202
        refine Ow.callW (H0 := H149) (k := 21) (fs := []) (cs := []) (vs := [.slice (some ⟨H194.n, 0, none⟩) 4 4]) rfl rfl (by simp only [S0, Nat.reduceEqDiff, Nat.reduceAdd, reduceIte, reduceCtorEq, S1, g190_0, g190_1, g190_2, g190_3, g190_9, g190_10, g190_11, g190_12, g190_13, g190_14, g190_15, g190_16, g190_82, g190_83, g190_84, hd3, hd147]) (((((((((((hx150.trans hx153).trans hx155).trans hx157).trans hx159).trans hx165).trans hx174).trans hx180).trans hx183).trans hx191).trans hx194).trans hx202) (spoil_L ext0_ok (vs := [.slice (some ⟨i150, 0, none⟩) (ofN la.length (val la * 2 ^ n1.toNat)).length (ofN la.length (val la * 2 ^ n1.toNat)).length, .slice (some ⟨i153, 0, none⟩) (shrF la n1.toNat false).length (shrF la n1.toNat false).length, .slice (some ⟨i155, 0, none⟩) (shrF la n1.toNat (bx la (la.length - 1))).length (shrF la n1.toNat (bx la (la.length - 1))).length, .slice sa212 (ofI n3.toNat n2).length sc212]) ((((((((((hx150.trans hx153).trans hx155).trans hx157).trans hx159).trans hx165).trans hx174).trans hx180).trans hx183).trans hx191).trans hx194) hx202 hg202 (by simp) (Spo.cons (H0 := H149) (m150_207.isR (Nat.le_trans (Nat.le_refl _) hi150)) (by first | omega | (simp only [SL]; omega)) (Spo.cons (H0 := H149) (m153_210.isR (Nat.le_trans (hx150).n hi153)) (by first | omega | (simp only [SL]; omega)) (Spo.cons (H0 := H149) (m155_211.isR (Nat.le_trans ((hx150.trans hx153)).n hi155)) (by first | omega | (simp only [SL]; omega)) (Spo.cons (H0 := H149) (IsR_base mu157_219 (((hx150.trans hx153).trans hx155)).n) (by first | omega | (simp only [SL]; omega)) (Spo.nil _ _)))))) ?_
        intro v220 H220 b220 hx220
        refine Ow.nilM ⟨nofun, ?_⟩
        show Cw _ _ _ _ _
        refine Cw.region ?_
        iterate 3 (refine Ow.popM rfl ?_; simp only [S0, Nat.reduceEqDiff, Nat.reduceAdd, reduceIte, reduceCtorEq, S1, show fwrap .i64 ((((k149 : Nat) : Int) : Int) + (1 : Int)) = ((k149 + 1 : Nat) : Int) from add_nat (a := k149) (b := 1) (by omega), g190_0, g190_1, g190_2, g190_3, g190_9, g190_10, g190_11, g190_12, g190_13, g190_14, g190_15, g190_16, g190_82, g190_83, g190_84, hd3, hd147])
        refine Ow.nilM ⟨nofun, ?_⟩
        exact ⟨hlt149, ⟨(by simp only [S0, Nat.reduceEqDiff, Nat.reduceAdd, reduceIte, reduceCtorEq, S1, and_self, g190_0, g190_1, g190_2, g190_3, g190_9, g190_10, g190_11, g190_12, g190_13, g190_14, g190_15, g190_16, g190_82, g190_83, g190_84, hd3, hd147]), (by simp only [S0, Nat.reduceEqDiff, Nat.reduceAdd, reduceIte, reduceCtorEq, S1, and_self, g190_0, g190_1, g190_2, g190_3, g190_9, g190_10, g190_11, g190_12, g190_13, g190_14, g190_15, g190_16, g190_82, g190_83, g190_84, hd3, hd147]), (by simp only [S0, Nat.reduceEqDiff, Nat.reduceAdd, reduceIte, reduceCtorEq, S1, and_self, g190_0, g190_1, g190_2, g190_3, g190_9, g190_10, g190_11, g190_12, g190_13, g190_14, g190_15, g190_16, g190_82, g190_83, g190_84, hd3, hd147]), (by simp only [S0, Nat.reduceEqDiff, Nat.reduceAdd, reduceIte, reduceCtorEq, S1, and_self, g190_0, g190_1, g190_2, g190_3, g190_9, g190_10, g190_11, g190_12, g190_13, g190_14, g190_15, g190_16, g190_82, g190_83, g190_84, hd3, hd147]), (by simp only [S0, Nat.reduceEqDiff, Nat.reduceAdd, reduceIte, reduceCtorEq, S1, and_self, g190_0, g190_1, g190_2, g190_3, g190_9, g190_10, g190_11, g190_12, g190_13, g190_14, g190_15, g190_16, g190_82, g190_83, g190_84, hd3, hd147]), (by simp only [S0, Nat.reduceEqDiff, Nat.reduceAdd, reduceIte, reduceCtorEq, S1, and_self, g190_0, g190_1, g190_2, g190_3, g190_9, g190_10, g190_11, g190_12, g190_13, g190_14, g190_15, g190_16, g190_82, g190_83, g190_84, hd3, hd147]), (by simp only [S0, Nat.reduceEqDiff, Nat.reduceAdd, reduceIte, reduceCtorEq, S1, and_self, g190_0, g190_1, g190_2, g190_3, g190_9, g190_10, g190_11, g190_12, g190_13, g190_14, g190_15, g190_16, g190_82, g190_83, g190_84, hd3, hd147]), (by simp only [S0, Nat.reduceEqDiff, Nat.reduceAdd, reduceIte, reduceCtorEq, S1, and_self, g190_0, g190_1, g190_2, g190_3, g190_9, g190_10, g190_11, g190_12, g190_13, g190_14, g190_15, g190_16, g190_82, g190_83, g190_84, hd3, hd147] <;> rfl)⟩, (hx149.trans hx220)⟩
      · obtain rfl : 2 = k149 := by omega
        refine Cw.seq ?_
        refine Cw.seq ?_
        refine Cw.region ?_
        iterate 2 (refine Ow.popM rfl ?_; simp only [S0, Nat.reduceEqDiff, Nat.reduceAdd, reduceIte, reduceCtorEq, S1, show decide ((((2 : Nat) : Int) : Int) < (2 : Int)) = decide (2 < 2) from lt_dec (2) (2), show decide (2 < 2) = false from decide_eq_false (by decide), g149_0, g149_1, g149_2, g149_3, g149_9, g149_10, g149_11, g149_12, hd3, hd147])
        refine Ow.nilM ⟨nofun, ?_⟩
        show Cw _ _ _ _ _
        refine Cw.cond (t := false) (by simp only [S0, Nat.reduceEqDiff, Nat.reduceAdd, reduceIte, reduceCtorEq, S1, g149_0, g149_1, g149_2, g149_3, g149_9, g149_10, g149_11, g149_12, hd3, hd147]) ?_
        refine Cw.exit ?_
        show Cw _ _ _ _ _
        refine Cw.seq ?_
        by_cases hu : val la < 2 ^ 64
        · have hd221 : decide (val la < 2 ^ 64) = true := decide_eq_true hu
          refine Cw.region ?_
          (refine Ow.popM rfl ?_; simp only [S0, Nat.reduceEqDiff, Nat.reduceAdd, reduceIte, reduceCtorEq, S1, g149_0, g149_1, g149_2, g149_3, g149_9, g149_10, g149_11, g149_12, hd3, hd147, hd221])
          have fa_223 := fa_7.ext hx5
          have fa_224 := fa_223.ext hx148
          have fa_225 := fa_224.ext hx149
          refine Ow.callA (k := 49) (fs := []) (cs := []) (vs := [.slice aa la.length ca]) rfl rfl (by simp only [S0, Nat.reduceEqDiff, Nat.reduceAdd, reduceIte, reduceCtorEq, S1, g149_0, g149_1, g149_2, g149_3, g149_9, g149_10, g149_11, g149_12, hd3, hd147, hd221]) (bUint_any ext0_ok fa_225.wl (by omega)) (fun _ _ _ h => h) ?_
          rintro v222 H222 hx222 r222
          unfold uintV at r222
          rw [if_pos hu] at r222
          subst r222
          iterate 5 (refine Ow.popM rfl ?_; simp only [S0, Nat.reduceEqDiff, Nat.reduceAdd, reduceIte, reduceCtorEq, S1, g149_0, g149_1, g149_2, g149_3, g149_9, g149_10, g149_11, g149_12, hd3, hd147, hd221])
          refine Ow.nilM ⟨nofun, ?_⟩
          show Cw _ _ _ _ _
          refine Cw.seq ?_
          refine Cw.region ?_
          (refine Ow.popM rfl ?_; simp only [S0, Nat.reduceEqDiff, Nat.reduceAdd, reduceIte, reduceCtorEq, S1, g149_0, g149_1, g149_2, g149_3, g149_9, g149_10, g149_11, g149_12, hd3, hd147, hd221])
          have fa_227 := fa_225.ext hx222
          refine Ow.callA (k := 50) (fs := []) (cs := []) (vs := [.slice aa la.length ca]) rfl rfl (by simp only [S0, Nat.reduceEqDiff, Nat.reduceAdd, reduceIte, reduceCtorEq, S1, g149_0, g149_1, g149_2, g149_3, g149_9, g149_10, g149_11, g149_12, hd3, hd147, hd221]) (rUint_any ext0_ok fa_227.wl (by omega)) (fun _ _ _ h => h) ?_
          rintro v226 H226 hx226 r226
          unfold uintV at r226
          rw [if_pos hu] at r226
          subst r226
          iterate 5 (refine Ow.popM rfl ?_; simp only [S0, Nat.reduceEqDiff, Nat.reduceAdd, reduceIte, reduceCtorEq, S1, g149_0, g149_1, g149_2, g149_3, g149_9, g149_10, g149_11, g149_12, hd3, hd147, hd221])
          refine Ow.nilM ⟨nofun, ?_⟩
          show Cw _ _ _ _ _
          refine Cw.seq ?_
          by_cases hf : -(2 : Int) ^ 63 ≤ sval la ∧ sval la < (2 : Int) ^ 63
          · have hd228 : decide (-(2 : Int) ^ 63 ≤ sval la ∧ sval la < (2 : Int) ^ 63) = true := decide_eq_true hf
            refine Cw.region ?_
            (refine Ow.popM rfl ?_; simp only [S0, Nat.reduceEqDiff, Nat.reduceAdd, reduceIte, reduceCtorEq, S1, g149_0, g149_1, g149_2, g149_3, g149_9, g149_10, g149_11, g149_12, hd3, hd147, hd221, hd228])
            have fa_230 := fa_227.ext hx226
            refine Ow.callA (k := 51) (fs := []) (cs := []) (vs := [.slice aa la.length ca]) rfl rfl (by simp only [S0, Nat.reduceEqDiff, Nat.reduceAdd, reduceIte, reduceCtorEq, S1, g149_0, g149_1, g149_2, g149_3, g149_9, g149_10, g149_11, g149_12, hd3, hd147, hd221, hd228]) (bInt_any ext0_ok fa_230.wl (by omega)) (fun _ _ _ h => h) ?_
            rintro v229 H229 hx229 r229
            unfold intV at r229
            rw [if_pos hf] at r229
            subst r229
            iterate 5 (refine Ow.popM rfl ?_; simp only [S0, Nat.reduceEqDiff, Nat.reduceAdd, reduceIte, reduceCtorEq, S1, g149_0, g149_1, g149_2, g149_3, g149_9, g149_10, g149_11, g149_12, hd3, hd147, hd221, hd228])
            refine Ow.nilM ⟨nofun, ?_⟩
            show Cw _ _ _ _ _
            refine Cw.seq ?_
            refine Cw.region ?_
            (refine Ow.popM rfl ?_; simp only [S0, Nat.reduceEqDiff, Nat.reduceAdd, reduceIte, reduceCtorEq, S1, g149_0, g149_1, g149_2, g149_3, g149_9, g149_10, g149_11, g149_12, hd3, hd147, hd221, hd228])
            have fa_232 := fa_230.ext hx229
            refine Ow.callA (k := 52) (fs := []) (cs := []) (vs := [.slice aa la.length ca]) rfl rfl (by simp only [S0, Nat.reduceEqDiff, Nat.reduceAdd, reduceIte, reduceCtorEq, S1, g149_0, g149_1, g149_2, g149_3, g149_9, g149_10, g149_11, g149_12, hd3, hd147, hd221, hd228]) (rInt_any ext0_ok fa_232.wl (by omega)) (fun _ _ _ h => h) ?_
            rintro v231 H231 hx231 r231
            unfold intV at r231
            rw [if_pos hf] at r231
            subst r231
            refine Ow.gen (fun E => E.get 0 = some (.slice aa la.length ca) ∧ E.get 9 = some (v5) ∧ E.get 18 = some (.int .u64 (((val la : Nat) : Int))) ∧ E.get 19 = some (.bool true) ∧ E.get 20 = some (.int .u64 (((val la : Nat) : Int))) ∧ E.get 21 = some (.bool true) ∧ E.get 22 = some (.int .i64 (sval la)) ∧ E.get 23 = some (.bool true) ∧ E.get 113 = some (.tuple ⟨[.int .i64 (sval la), .bool true]⟩)) ⟨(by simp only [S0, Nat.reduceEqDiff, Nat.reduceAdd, reduceIte, reduceCtorEq, S1, and_self, g149_0, g149_1, g149_2, g149_3, g149_9, g149_10, g149_11, g149_12, hd3, hd147, hd221, hd228]), (by simp only [S0, Nat.reduceEqDiff, Nat.reduceAdd, reduceIte, reduceCtorEq, S1, and_self, g149_0, g149_1, g149_2, g149_3, g149_9, g149_10, g149_11, g149_12, hd3, hd147, hd221, hd228]), (by simp only [S0, Nat.reduceEqDiff, Nat.reduceAdd, reduceIte, reduceCtorEq, S1, and_self, g149_0, g149_1, g149_2, g149_3, g149_9, g149_10, g149_11, g149_12, hd3, hd147, hd221, hd228]), (by simp only [S0, Nat.reduceEqDiff, Nat.reduceAdd, reduceIte, reduceCtorEq, S1, and_self, g149_0, g149_1, g149_2, g149_3, g149_9, g149_10, g149_11, g149_12, hd3, hd147, hd221, hd228]), (by simp only [S0, Nat.reduceEqDiff, Nat.reduceAdd, reduceIte, reduceCtorEq, S1, and_self, g149_0, g149_1, g149_2, g149_3, g149_9, g149_10, g149_11, g149_12, hd3, hd147, hd221, hd228]), (by simp only [S0, Nat.reduceEqDiff, Nat.reduceAdd, reduceIte, reduceCtorEq, S1, and_self, g149_0, g149_1, g149_2, g149_3, g149_9, g149_10, g149_11, g149_12, hd3, hd147, hd221, hd228]), (by simp only [S0, Nat.reduceEqDiff, Nat.reduceAdd, reduceIte, reduceCtorEq, S1, and_self, g149_0, g149_1, g149_2, g149_3, g149_9, g149_10, g149_11, g149_12, hd3, hd147, hd221, hd228]), (by simp only [S0, Nat.reduceEqDiff, Nat.reduceAdd, reduceIte, reduceCtorEq, S1, and_self, g149_0, g149_1, g149_2, g149_3, g149_9, g149_10, g149_11, g149_12, hd3, hd147, hd221, hd228]), (by simp only [S0, Nat.reduceEqDiff, Nat.reduceAdd, reduceIte, reduceCtorEq, S1, and_self, g149_0, g149_1, g149_2, g149_3, g149_9, g149_10, g149_11, g149_12, hd3, hd147, hd221, hd228])⟩ ?_
            rintro E233 ⟨g233_0, g233_9, g233_18, g233_19, g233_20, g233_21, g233_22, g233_23, g233_113⟩
            iterate 5 (refine Ow.popM rfl ?_; simp only [S0, Nat.reduceEqDiff, Nat.reduceAdd, reduceIte, reduceCtorEq, S1, g233_0, g233_9, g233_18, g233_19, g233_20, g233_21, g233_22, g233_23, g233_113, hd3, hd147, hd221, hd228])
            refine Ow.nilM ⟨nofun, ?_⟩
            show Cw _ _ _ _ _
            refine Cw.seq ?_
            refine Cw.region ?_
            iterate 20 (refine Ow.popM rfl ?_; simp only [S0, Nat.reduceEqDiff, Nat.reduceAdd, reduceIte, reduceCtorEq, S1, bne_self_eq_false, show (true == true) = true from rfl, g233_0, g233_9, g233_18, g233_19, g233_20, g233_21, g233_22, g233_23, g233_113, hd3, hd147, hd221, hd228])
            refine Ow.gen (fun E => E.get 0 = some (.slice aa la.length ca) ∧ E.get 134 = some (.bool true) ∧ E.get 135 = some (v5)) ⟨(by simp only [S0, Nat.reduceEqDiff, Nat.reduceAdd, reduceIte, reduceCtorEq, S1, and_self, g233_0, g233_9, g233_18, g233_19, g233_20, g233_21, g233_22, g233_23, g233_113, hd3, hd147, hd221, hd228]), (by simp only [S0, Nat.reduceEqDiff, Nat.reduceAdd, reduceIte, reduceCtorEq, S1, and_self, g233_0, g233_9, g233_18, g233_19, g233_20, g233_21, g233_22, g233_23, g233_113, hd3, hd147, hd221, hd228]), (by simp only [S0, Nat.reduceEqDiff, Nat.reduceAdd, reduceIte, reduceCtorEq, S1, and_self, g233_0, g233_9, g233_18, g233_19, g233_20, g233_21, g233_22, g233_23, g233_113, hd3, hd147, hd221, hd228])⟩ ?_
            rintro E234 ⟨g234_0, g234_134, g234_135⟩
            (refine Ow.popM rfl ?_; simp only [S0, Nat.reduceEqDiff, Nat.reduceAdd, reduceIte, reduceCtorEq, S1, g234_0, g234_134, g234_135, hd3, hd147, hd221, hd228])
            have r5_236 := r5.ext hx148
            have r5_237 := r5_236.ext hx149
            have r5_238 := r5_237.ext hx222
            have r5_239 := r5_238.ext hx226
            have r5_240 := r5_239.ext hx229
            have r5_241 := r5_240.ext hx231
            have fa_242 := fa_232.ext hx231
            refine Ow.callPA (k := 20) (fs := []) (cs := []) (vs := [v5, .slice aa la.length ca]) (by simp only [S0, Nat.reduceEqDiff, Nat.reduceAdd, reduceIte, reduceCtorEq, S1, g234_0, g234_134, g234_135, hd3, hd147, hd221, hd228]) rfl (by simp only [S0, Nat.reduceEqDiff, Nat.reduceAdd, reduceIte, reduceCtorEq, S1, g234_0, g234_134, g234_135, hd3, hd147, hd221, hd228]) (same_T ext0_ok r5_241.isB.wl fa_242.wl (by first | omega | (simp only [SL]; omega)) (rfl)) ?_
            intro H235 hx235
            iterate 2 (refine Ow.popM rfl ?_; simp only [S0, Nat.reduceEqDiff, Nat.reduceAdd, reduceIte, reduceCtorEq, S1, g234_0, g234_134, g234_135, hd3, hd147, hd221, hd228])
            refine Ow.callPA (k := 14) (fs := []) (cs := []) (vs := []) (by simp only [S0, Nat.reduceEqDiff, Nat.reduceAdd, reduceIte, reduceCtorEq, S1, g234_0, g234_134, g234_135, hd3, hd147, hd221, hd228]) rfl rfl (awake_any) ?_
            intro H243 hx243
            iterate 2 (refine Ow.popM rfl ?_; simp only [S0, Nat.reduceEqDiff, Nat.reduceAdd, reduceIte, reduceCtorEq, S1, g234_0, g234_134, g234_135, hd3, hd147, hd221, hd228])
            refine Ow.nilM ⟨nofun, ?_⟩
            show Cw _ _ _ _ _
            refine Cw.ret ?_
            simp only [Then, InBlock, Rnd, FnPost, resOf, tupled, S0, Nat.reduceEqDiff, Nat.reduceAdd, reduceIte, reduceCtorEq, g234_0, g234_134, g234_135, hd3, hd147, hd221, hd228]
          · have hd244 : decide (-(2 : Int) ^ 63 ≤ sval la ∧ sval la < (2 : Int) ^ 63) = false := decide_eq_false hf
            refine Cw.region ?_
            (refine Ow.popM rfl ?_; simp only [S0, Nat.reduceEqDiff, Nat.reduceAdd, reduceIte, reduceCtorEq, S1, g149_0, g149_1, g149_2, g149_3, g149_9, g149_10, g149_11, g149_12, hd3, hd147, hd221, hd244])
            have fa_246 := fa_227.ext hx226
            refine Ow.callA (k := 51) (fs := []) (cs := []) (vs := [.slice aa la.length ca]) rfl rfl (by simp only [S0, Nat.reduceEqDiff, Nat.reduceAdd, reduceIte, reduceCtorEq, S1, g149_0, g149_1, g149_2, g149_3, g149_9, g149_10, g149_11, g149_12, hd3, hd147, hd221, hd244]) (bInt_any ext0_ok fa_246.wl (by omega)) (fun _ _ _ h => h) ?_
            rintro v245 H245 hx245 r245
            unfold intV at r245
            rw [if_neg hf] at r245
            subst r245
            iterate 5 (refine Ow.popM rfl ?_; simp only [S0, Nat.reduceEqDiff, Nat.reduceAdd, reduceIte, reduceCtorEq, S1, g149_0, g149_1, g149_2, g149_3, g149_9, g149_10, g149_11, g149_12, hd3, hd147, hd221, hd244])
            refine Ow.nilM ⟨nofun, ?_⟩
            show Cw _ _ _ _ _
            refine Cw.seq ?_
            refine Cw.region ?_
            (refine Ow.popM rfl ?_; simp only [S0, Nat.reduceEqDiff, Nat.reduceAdd, reduceIte, reduceCtorEq, S1, g149_0, g149_1, g149_2, g149_3, g149_9, g149_10, g149_11, g149_12, hd3, hd147, hd221, hd244])
            have fa_248 := fa_246.ext hx245
            refine Ow.callA (k := 52) (fs := []) (cs := []) (vs := [.slice aa la.length ca]) rfl rfl (by simp only [S0, Nat.reduceEqDiff, Nat.reduceAdd, reduceIte, reduceCtorEq, S1, g149_0, g149_1, g149_2, g149_3, g149_9, g149_10, g149_11, g149_12, hd3, hd147, hd221, hd244]) (rInt_any ext0_ok fa_248.wl (by omega)) (fun _ _ _ h => h) ?_
            rintro v247 H247 hx247 r247
            unfold intV at r247
            rw [if_neg hf] at r247
            subst r247
            refine Ow.gen (fun E => E.get 0 = some (.slice aa la.length ca) ∧ E.get 9 = some (v5) ∧ E.get 18 = some (.int .u64 (((val la : Nat) : Int))) ∧ E.get 19 = some (.bool true) ∧ E.get 20 = some (.int .u64 (((val la : Nat) : Int))) ∧ E.get 21 = some (.bool true) ∧ E.get 22 = some (.int .i64 (0)) ∧ E.get 23 = some (.bool false) ∧ E.get 113 = some (.tuple ⟨[.int .i64 (0), .bool false]⟩)) ⟨(by simp only [S0, Nat.reduceEqDiff, Nat.reduceAdd, reduceIte, reduceCtorEq, S1, and_self, g149_0, g149_1, g149_2, g149_3, g149_9, g149_10, g149_11, g149_12, hd3, hd147, hd221, hd244]), (by simp only [S0, Nat.reduceEqDiff, Nat.reduceAdd, reduceIte, reduceCtorEq, S1, and_self, g149_0, g149_1, g149_2, g149_3, g149_9, g149_10, g149_11, g149_12, hd3, hd147, hd221, hd244]), (by simp only [S0, Nat.reduceEqDiff, Nat.reduceAdd, reduceIte, reduceCtorEq, S1, and_self, g149_0, g149_1, g149_2, g149_3, g149_9, g149_10, g149_11, g149_12, hd3, hd147, hd221, hd244]), (by simp only [S0, Nat.reduceEqDiff, Nat.reduceAdd, reduceIte, reduceCtorEq, S1, and_self, g149_0, g149_1, g149_2, g149_3, g149_9, g149_10, g149_11, g149_12, hd3, hd147, hd221, hd244]), (by simp only [S0, Nat.reduceEqDiff, Nat.reduceAdd, reduceIte, reduceCtorEq, S1, and_self, g149_0, g149_1, g149_2, g149_3, g149_9, g149_10, g149_11, g149_12, hd3, hd147, hd221, hd244]), (by simp only [S0, Nat.reduceEqDiff, Nat.reduceAdd, reduceIte, reduceCtorEq, S1, and_self, g149_0, g149_1, g149_2, g149_3, g149_9, g149_10, g149_11, g149_12, hd3, hd147, hd221, hd244]), (by simp only [S0, Nat.reduceEqDiff, Nat.reduceAdd, reduceIte, reduceCtorEq, S1, and_self, g149_0, g149_1, g149_2, g149_3, g149_9, g149_10, g149_11, g149_12, hd3, hd147, hd221, hd244]), (by simp only [S0, Nat.reduceEqDiff, Nat.reduceAdd, reduceIte, reduceCtorEq, S1, and_self, g149_0, g149_1, g149_2, g149_3, g149_9, g149_10, g149_11, g149_12, hd3, hd147, hd221, hd244]), (by simp only [S0, Nat.reduceEqDiff, Nat.reduceAdd, reduceIte, reduceCtorEq, S1, and_self, g149_0, g149_1, g149_2, g149_3, g149_9, g149_10, g149_11, g149_12, hd3, hd147, hd221, hd244])⟩ ?_
            rintro E249 ⟨g249_0, g249_9, g249_18, g249_19, g249_20, g249_21, g249_22, g249_23, g249_113⟩
            iterate 5 (refine Ow.popM rfl ?_; simp only [S0, Nat.reduceEqDiff, Nat.reduceAdd, reduceIte, reduceCtorEq, S1, g249_0, g249_9, g249_18, g249_19, g249_20, g249_21, g249_22, g249_23, g249_113, hd3, hd147, hd221, hd244])
            refine Ow.nilM ⟨nofun, ?_⟩
            show Cw _ _ _ _ _
            refine Cw.seq ?_
            refine Cw.region ?_
            iterate 20 (refine Ow.popM rfl ?_; simp only [S0, Nat.reduceEqDiff, Nat.reduceAdd, reduceIte, reduceCtorEq, S1, bne_self_eq_false, show (true == true) = true from rfl, show ((0 : Int) == 0) = true from rfl, show (false == false) = true from rfl, g249_0, g249_9, g249_18, g249_19, g249_20, g249_21, g249_22, g249_23, g249_113, hd3, hd147, hd221, hd244])
            refine Ow.gen (fun E => E.get 0 = some (.slice aa la.length ca) ∧ E.get 134 = some (.bool true) ∧ E.get 135 = some (v5)) ⟨(by simp only [S0, Nat.reduceEqDiff, Nat.reduceAdd, reduceIte, reduceCtorEq, S1, and_self, g249_0, g249_9, g249_18, g249_19, g249_20, g249_21, g249_22, g249_23, g249_113, hd3, hd147, hd221, hd244]), (by simp only [S0, Nat.reduceEqDiff, Nat.reduceAdd, reduceIte, reduceCtorEq, S1, and_self, g249_0, g249_9, g249_18, g249_19, g249_20, g249_21, g249_22, g249_23, g249_113, hd3, hd147, hd221, hd244]), (by simp only [S0, Nat.reduceEqDiff, Nat.reduceAdd, reduceIte, reduceCtorEq, S1, and_self, g249_0, g249_9, g249_18, g249_19, g249_20, g249_21, g249_22, g249_23, g249_113, hd3, hd147, hd221, hd244])⟩ ?_
            rintro E250 ⟨g250_0, g250_134, g250_135⟩
            (refine Ow.popM rfl ?_; simp only [S0, Nat.reduceEqDiff, Nat.reduceAdd, reduceIte, reduceCtorEq, S1, g250_0, g250_134, g250_135, hd3, hd147, hd221, hd244])
            have r5_252 := r5.ext hx148
            have r5_253 := r5_252.ext hx149
            have r5_254 := r5_253.ext hx222
            have r5_255 := r5_254.ext hx226
            have r5_256 := r5_255.ext hx245
            have r5_257 := r5_256.ext hx247
            have fa_258 := fa_248.ext hx247
            refine Ow.callPA (k := 20) (fs := []) (cs := []) (vs := [v5, .slice aa la.length ca]) (by simp only [S0, Nat.reduceEqDiff, Nat.reduceAdd, reduceIte, reduceCtorEq, S1, g250_0, g250_134, g250_135, hd3, hd147, hd221, hd244]) rfl (by simp only [S0, Nat.reduceEqDiff, Nat.reduceAdd, reduceIte, reduceCtorEq, S1, g250_0, g250_134, g250_135, hd3, hd147, hd221, hd244]) (same_T ext0_ok r5_257.isB.wl fa_258.wl (by first | omega | (simp only [SL]; omega)) (rfl)) ?_
            intro H251 hx251
            iterate 2 (refine Ow.popM rfl ?_; simp only [S0, Nat.reduceEqDiff, Nat.reduceAdd, reduceIte, reduceCtorEq, S1, g250_0, g250_134, g250_135, hd3, hd147, hd221, hd244])
            refine Ow.callPA (k := 14) (fs := []) (cs := []) (vs := []) (by simp only [S0, Nat.reduceEqDiff, Nat.reduceAdd, reduceIte, reduceCtorEq, S1, g250_0, g250_134, g250_135, hd3, hd147, hd221, hd244]) rfl rfl (awake_any) ?_
            intro H259 hx259
            iterate 2 (refine Ow.popM rfl ?_; simp only [S0, Nat.reduceEqDiff, Nat.reduceAdd, reduceIte, reduceCtorEq, S1, g250_0, g250_134, g250_135, hd3, hd147, hd221, hd244])
            refine Ow.nilM ⟨nofun, ?_⟩
            show Cw _ _ _ _ _
            refine Cw.ret ?_
            simp only [Then, InBlock, Rnd, FnPost, resOf, tupled, S0, Nat.reduceEqDiff, Nat.reduceAdd, reduceIte, reduceCtorEq, g250_0, g250_134, g250_135, hd3, hd147, hd221, hd244]
        · have hd260 : decide (val la < 2 ^ 64) = false := decide_eq_false hu
          refine Cw.region ?_
          (refine Ow.popM rfl ?_; simp only [S0, Nat.reduceEqDiff, Nat.reduceAdd, reduceIte, reduceCtorEq, S1, g149_0, g149_1, g149_2, g149_3, g149_9, g149_10, g149_11, g149_12, hd3, hd147, hd260])
          have fa_262 := fa_7.ext hx5
          have fa_263 := fa_262.ext hx148
          have fa_264 := fa_263.ext hx149
          refine Ow.callA (k := 49) (fs := []) (cs := []) (vs := [.slice aa la.length ca]) rfl rfl (by simp only [S0, Nat.reduceEqDiff, Nat.reduceAdd, reduceIte, reduceCtorEq, S1, g149_0, g149_1, g149_2, g149_3, g149_9, g149_10, g149_11, g149_12, hd3, hd147, hd260]) (bUint_any ext0_ok fa_264.wl (by omega)) (fun _ _ _ h => h) ?_
          rintro v261 H261 hx261 r261
          unfold uintV at r261
          rw [if_neg hu] at r261
          subst r261
          iterate 5 (refine Ow.popM rfl ?_; simp only [S0, Nat.reduceEqDiff, Nat.reduceAdd, reduceIte, reduceCtorEq, S1, g149_0, g149_1, g149_2, g149_3, g149_9, g149_10, g149_11, g149_12, hd3, hd147, hd260])
          refine Ow.nilM ⟨nofun, ?_⟩
          show Cw _ _ _ _ _
          refine Cw.seq ?_
          refine Cw.region ?_
          (refine Ow.popM rfl ?_; simp only [S0, Nat.reduceEqDiff, Nat.reduceAdd, reduceIte, reduceCtorEq, S1, g149_0, g149_1, g149_2, g149_3, g149_9, g149_10, g149_11, g149_12, hd3, hd147, hd260])
          have fa_266 := fa_264.ext hx261
          refine Ow.callA (k := 50) (fs := []) (cs := []) (vs := [.slice aa la.length ca]) rfl rfl (by simp only [S0, Nat.reduceEqDiff, Nat.reduceAdd, reduceIte, reduceCtorEq, S1, g149_0, g149_1, g149_2, g149_3, g149_9, g149_10, g149_11, g149_12, hd3, hd147, hd260]) (rUint_any ext0_ok fa_266.wl (by omega)) (fun _ _ _ h => h) ?_
          rintro v265 H265 hx265 r265
          unfold uintV at r265
          rw [if_neg hu] at r265
          subst r265
          iterate 5 (refine Ow.popM rfl ?_; simp only [S0, Nat.reduceEqDiff, Nat.reduceAdd, reduceIte, reduceCtorEq, S1, g149_0, g149_1, g149_2, g149_3, g149_9, g149_10, g149_11, g149_12, hd3, hd147, hd260])
          refine Ow.nilM ⟨nofun, ?_⟩
          show Cw _ _ _ _ _
          refine Cw.seq ?_
          by_cases hf : -(2 : Int) ^ 63 ≤ sval la ∧ sval la < (2 : Int) ^ 63
          · have hd267 : decide (-(2 : Int) ^ 63 ≤ sval la ∧ sval la < (2 : Int) ^ 63) = true := decide_eq_true hf
            refine Cw.region ?_
            (refine Ow.popM rfl ?_; simp only [S0, Nat.reduceEqDiff, Nat.reduceAdd, reduceIte, reduceCtorEq, S1, g149_0, g149_1, g149_2, g149_3, g149_9, g149_10, g149_11, g149_12, hd3, hd147, hd260, hd267])
            have fa_269 := fa_266.ext hx265
            refine Ow.callA (k := 51) (fs := []) (cs := []) (vs := [.slice aa la.length ca]) rfl rfl (by simp only [S0, Nat.reduceEqDiff, Nat.reduceAdd, reduceIte, reduceCtorEq, S1, g149_0, g149_1, g149_2, g149_3, g149_9, g149_10, g149_11, g149_12, hd3, hd147, hd260, hd267]) (bInt_any ext0_ok fa_269.wl (by omega)) (fun _ _ _ h => h) ?_
            rintro v268 H268 hx268 r268
            unfold intV at r268
            rw [if_pos hf] at r268
            subst r268
            iterate 5 (refine Ow.popM rfl ?_; simp only [S0, Nat.reduceEqDiff, Nat.reduceAdd, reduceIte, reduceCtorEq, S1, g149_0, g149_1, g149_2, g149_3, g149_9, g149_10, g149_11, g149_12, hd3, hd147, hd260, hd267])
            refine Ow.nilM ⟨nofun, ?_⟩
            show Cw _ _ _ _ _
            refine Cw.seq ?_
            refine Cw.region ?_
            (refine Ow.popM rfl ?_; simp only [S0, Nat.reduceEqDiff, Nat.reduceAdd, reduceIte, reduceCtorEq, S1, g149_0, g149_1, g149_2, g149_3, g149_9, g149_10, g149_11, g149_12, hd3, hd147, hd260, hd267])
            have fa_271 := fa_269.ext hx268
            refine Ow.callA (k := 52) (fs := []) (cs := []) (vs := [.slice aa la.length ca]) rfl rfl (by simp only [S0, Nat.reduceEqDiff, Nat.reduceAdd, reduceIte, reduceCtorEq, S1, g149_0, g149_1, g149_2, g149_3, g149_9, g149_10, g149_11, g149_12, hd3, hd147, hd260, hd267]) (rInt_any ext0_ok fa_271.wl (by omega)) (fun _ _ _ h => h) ?_
            rintro v270 H270 hx270 r270
            unfold intV at r270
            rw [if_pos hf] at r270
            subst r270
            refine Ow.gen (fun E => E.get 0 = some (.slice aa la.length ca) ∧ E.get 9 = some (v5) ∧ E.get 18 = some (.int .u64 (0)) ∧ E.get 19 = some (.bool false) ∧ E.get 20 = some (.int .u64 (0)) ∧ E.get 21 = some (.bool false) ∧ E.get 22 = some (.int .i64 (sval la)) ∧ E.get 23 = some (.bool true) ∧ E.get 113 = some (.tuple ⟨[.int .i64 (sval la), .bool true]⟩)) ⟨(by simp only [S0, Nat.reduceEqDiff, Nat.reduceAdd, reduceIte, reduceCtorEq, S1, and_self, g149_0, g149_1, g149_2, g149_3, g149_9, g149_10, g149_11, g149_12, hd3, hd147, hd260, hd267]), (by simp only [S0, Nat.reduceEqDiff, Nat.reduceAdd, reduceIte, reduceCtorEq, S1, and_self, g149_0, g149_1, g149_2, g149_3, g149_9, g149_10, g149_11, g149_12, hd3, hd147, hd260, hd267]), (by simp only [S0, Nat.reduceEqDiff, Nat.reduceAdd, reduceIte, reduceCtorEq, S1, and_self, g149_0, g149_1, g149_2, g149_3, g149_9, g149_10, g149_11, g149_12, hd3, hd147, hd260, hd267]), (by simp only [S0, Nat.reduceEqDiff, Nat.reduceAdd, reduceIte, reduceCtorEq, S1, and_self, g149_0, g149_1, g149_2, g149_3, g149_9, g149_10, g149_11, g149_12, hd3, hd147, hd260, hd267]), (by simp only [S0, Nat.reduceEqDiff, Nat.reduceAdd, reduceIte, reduceCtorEq, S1, and_self, g149_0, g149_1, g149_2, g149_3, g149_9, g149_10, g149_11, g149_12, hd3, hd147, hd260, hd267]), (by simp only [S0, Nat.reduceEqDiff, Nat.reduceAdd, reduceIte, reduceCtorEq, S1, and_self, g149_0, g149_1, g149_2, g149_3, g149_9, g149_10, g149_11, g149_12, hd3, hd147, hd260, hd267]), (by simp only [S0, Nat.reduceEqDiff, Nat.reduceAdd, reduceIte, reduceCtorEq, S1, and_self, g149_0, g149_1, g149_2, g149_3, g149_9, g149_10, g149_11, g149_12, hd3, hd147, hd260, hd267]), (by simp only [S0, Nat.reduceEqDiff, Nat.reduceAdd, reduceIte, reduceCtorEq, S1, and_self, g149_0, g149_1, g149_2, g149_3, g149_9, g149_10, g149_11, g149_12, hd3, hd147, hd260, hd267]), (by simp only [S0, Nat.reduceEqDiff, Nat.reduceAdd, reduceIte, reduceCtorEq, S1, and_self, g149_0, g149_1, g149_2, g149_3, g149_9, g149_10, g149_11, g149_12, hd3, hd147, hd260, hd267])⟩ ?_
            rintro E272 ⟨g272_0, g272_9, g272_18, g272_19, g272_20, g272_21, g272_22, g272_23, g272_113⟩
            iterate 5 (refine Ow.popM rfl ?_; simp only [S0, Nat.reduceEqDiff, Nat.reduceAdd, reduceIte, reduceCtorEq, S1, g272_0, g272_9, g272_18, g272_19, g272_20, g272_21, g272_22, g272_23, g272_113, hd3, hd147, hd260, hd267])
            refine Ow.nilM ⟨nofun, ?_⟩
            show Cw _ _ _ _ _
            refine Cw.seq ?_
            refine Cw.region ?_
            iterate 20 (refine Ow.popM rfl ?_; simp only [S0, Nat.reduceEqDiff, Nat.reduceAdd, reduceIte, reduceCtorEq, S1, show ((0 : Int) == 0) = true from rfl, show (false == false) = true from rfl, bne_self_eq_false, show (true == true) = true from rfl, g272_0, g272_9, g272_18, g272_19, g272_20, g272_21, g272_22, g272_23, g272_113, hd3, hd147, hd260, hd267])
            refine Ow.gen (fun E => E.get 0 = some (.slice aa la.length ca) ∧ E.get 134 = some (.bool true) ∧ E.get 135 = some (v5)) ⟨(by simp only [S0, Nat.reduceEqDiff, Nat.reduceAdd, reduceIte, reduceCtorEq, S1, and_self, g272_0, g272_9, g272_18, g272_19, g272_20, g272_21, g272_22, g272_23, g272_113, hd3, hd147, hd260, hd267]), (by simp only [S0, Nat.reduceEqDiff, Nat.reduceAdd, reduceIte, reduceCtorEq, S1, and_self, g272_0, g272_9, g272_18, g272_19, g272_20, g272_21, g272_22, g272_23, g272_113, hd3, hd147, hd260, hd267]), (by simp only [S0, Nat.reduceEqDiff, Nat.reduceAdd, reduceIte, reduceCtorEq, S1, and_self, g272_0, g272_9, g272_18, g272_19, g272_20, g272_21, g272_22, g272_23, g272_113, hd3, hd147, hd260, hd267])⟩ ?_
            rintro E273 ⟨g273_0, g273_134, g273_135⟩
            (refine Ow.popM rfl ?_; simp only [S0, Nat.reduceEqDiff, Nat.reduceAdd, reduceIte, reduceCtorEq, S1, g273_0, g273_134, g273_135, hd3, hd147, hd260, hd267])
            have r5_275 := r5.ext hx148
            have r5_276 := r5_275.ext hx149
            have r5_277 := r5_276.ext hx261
            have r5_278 := r5_277.ext hx265
            have r5_279 := r5_278.ext hx268
            have r5_280 := r5_279.ext hx270
            have fa_281 := fa_271.ext hx270
            refine Ow.callPA (k := 20) (fs := []) (cs := []) (vs := [v5, .slice aa la.length ca]) (by simp only [S0, Nat.reduceEqDiff, Nat.reduceAdd, reduceIte, reduceCtorEq, S1, g273_0, g273_134, g273_135, hd3, hd147, hd260, hd267]) rfl (by simp only [S0, Nat.reduceEqDiff, Nat.reduceAdd, reduceIte, reduceCtorEq, S1, g273_0, g273_134, g273_135, hd3, hd147, hd260, hd267]) (same_T ext0_ok r5_280.isB.wl fa_281.wl (by first | omega | (simp only [SL]; omega)) (rfl)) ?_
            intro H274 hx274
            iterate 2 (refine Ow.popM rfl ?_; simp only [S0, Nat.reduceEqDiff, Nat.reduceAdd, reduceIte, reduceCtorEq, S1, g273_0, g273_134, g273_135, hd3, hd147, hd260, hd267])
            refine Ow.callPA (k := 14) (fs := []) (cs := []) (vs := []) (by simp only [S0, Nat.reduceEqDiff, Nat.reduceAdd, reduceIte, reduceCtorEq, S1, g273_0, g273_134, g273_135, hd3, hd147, hd260, hd267]) rfl rfl (awake_any) ?_
            intro H282 hx282
            iterate 2 (refine Ow.popM rfl ?_; simp only [S0, Nat.reduceEqDiff, Nat.reduceAdd, reduceIte, reduceCtorEq, S1, g273_0, g273_134, g273_135, hd3, hd147, hd260, hd267])
            refine Ow.nilM ⟨nofun, ?_⟩
            show Cw _ _ _ _ _
            refine Cw.ret ?_
            simp only [Then, InBlock, Rnd, FnPost, resOf, tupled, S0, Nat.reduceEqDiff, Nat.reduceAdd, reduceIte, reduceCtorEq, g273_0, g273_134, g273_135, hd3, hd147, hd260, hd267]
          · have hd283 : decide (-(2 : Int) ^ 63 ≤ sval la ∧ sval la < (2 : Int) ^ 63) = false := decide_eq_false hf
            refine Cw.region ?_
            (refine Ow.popM rfl ?_; simp only [S0, Nat.reduceEqDiff, Nat.reduceAdd, reduceIte, reduceCtorEq, S1, g149_0, g149_1, g149_2, g149_3, g149_9, g149_10, g149_11, g149_12, hd3, hd147, hd260, hd283])
            have fa_285 := fa_266.ext hx265
            refine Ow.callA (k := 51) (fs := []) (cs := []) (vs := [.slice aa la.length ca]) rfl rfl (by simp only [S0, Nat.reduceEqDiff, Nat.reduceAdd, reduceIte, reduceCtorEq, S1, g149_0, g149_1, g149_2, g149_3, g149_9, g149_10, g149_11, g149_12, hd3, hd147, hd260, hd283]) (bInt_any ext0_ok fa_285.wl (by omega)) (fun _ _ _ h => h) ?_
            rintro v284 H284 hx284 r284
            unfold intV at r284
            rw [if_neg hf] at r284
            subst r284
            iterate 5 (refine Ow.popM rfl ?_; simp only [S0, Nat.reduceEqDiff, Nat.reduceAdd, reduceIte, reduceCtorEq, S1, g149_0, g149_1, g149_2, g149_3, g149_9, g149_10, g149_11, g149_12, hd3, hd147, hd260, hd283])
            refine Ow.nilM ⟨nofun, ?_⟩
            show Cw _ _ _ _ _
            refine Cw.seq ?_
            refine Cw.region ?_
            (refine Ow.popM rfl ?_; simp only [S0, Nat.reduceEqDiff, Nat.reduceAdd, reduceIte, reduceCtorEq, S1, g149_0, g149_1, g149_2, g149_3, g149_9, g149_10, g149_11, g149_12, hd3, hd147, hd260, hd283])
            have fa_287 := fa_285.ext hx284
            refine Ow.callA (k := 52) (fs := []) (cs := []) (vs := [.slice aa la.length ca]) rfl rfl (by simp only [S0, Nat.reduceEqDiff, Nat.reduceAdd, reduceIte, reduceCtorEq, S1, g149_0, g149_1, g149_2, g149_3, g149_9, g149_10, g149_11, g149_12, hd3, hd147, hd260, hd283]) (rInt_any ext0_ok fa_287.wl (by omega)) (fun _ _ _ h => h) ?_
            rintro v286 H286 hx286 r286
            unfold intV at r286
            rw [if_neg hf] at r286
            subst r286
            refine Ow.gen (fun E => E.get 0 = some (.slice aa la.length ca) ∧ E.get 9 = some (v5) ∧ E.get 18 = some (.int .u64 (0)) ∧ E.get 19 = some (.bool false) ∧ E.get 20 = some (.int .u64 (0)) ∧ E.get 21 = some (.bool false) ∧ E.get 22 = some (.int .i64 (0)) ∧ E.get 23 = some (.bool false) ∧ E.get 113 = some (.tuple ⟨[.int .i64 (0), .bool false]⟩)) ⟨(by simp only [S0, Nat.reduceEqDiff, Nat.reduceAdd, reduceIte, reduceCtorEq, S1, and_self, g149_0, g149_1, g149_2, g149_3, g149_9, g149_10, g149_11, g149_12, hd3, hd147, hd260, hd283]), (by simp only [S0, Nat.reduceEqDiff, Nat.reduceAdd, reduceIte, reduceCtorEq, S1, and_self, g149_0, g149_1, g149_2, g149_3, g149_9, g149_10, g149_11, g149_12, hd3, hd147, hd260, hd283]), (by simp only [S0, Nat.reduceEqDiff, Nat.reduceAdd, reduceIte, reduceCtorEq, S1, and_self, g149_0, g149_1, g149_2, g149_3, g149_9, g149_10, g149_11, g149_12, hd3, hd147, hd260, hd283]), (by simp only [S0, Nat.reduceEqDiff, Nat.reduceAdd, reduceIte, reduceCtorEq, S1, and_self, g149_0, g149_1, g149_2, g149_3, g149_9, g149_10, g149_11, g149_12, hd3, hd147, hd260, hd283]), (by simp only [S0, Nat.reduceEqDiff, Nat.reduceAdd, reduceIte, reduceCtorEq, S1, and_self, g149_0, g149_1, g149_2, g149_3, g149_9, g149_10, g149_11, g149_12, hd3, hd147, hd260, hd283]), (by simp only [S0, Nat.reduceEqDiff, Nat.reduceAdd, reduceIte, reduceCtorEq, S1, and_self, g149_0, g149_1, g149_2, g149_3, g149_9, g149_10, g149_11, g149_12, hd3, hd147, hd260, hd283]), (by simp only [S0, Nat.reduceEqDiff, Nat.reduceAdd, reduceIte, reduceCtorEq, S1, and_self, g149_0, g149_1, g149_2, g149_3, g149_9, g149_10, g149_11, g149_12, hd3, hd147, hd260, hd283]), (by simp only [S0, Nat.reduceEqDiff, Nat.reduceAdd, reduceIte, reduceCtorEq, S1, and_self, g149_0, g149_1, g149_2, g149_3, g149_9, g149_10, g149_11, g149_12, hd3, hd147, hd260, hd283]), (by simp only [S0, Nat.reduceEqDiff, Nat.reduceAdd, reduceIte, reduceCtorEq, S1, and_self, g149_0, g149_1, g149_2, g149_3, g149_9, g149_10, g149_11, g149_12, hd3, hd147, hd260, hd283])⟩ ?_
            rintro E288 ⟨g288_0, g288_9, g288_18, g288_19, g288_20, g288_21, g288_22, g288_23, g288_113⟩
            iterate 5 (refine Ow.popM rfl ?_; simp only [S0, Nat.reduceEqDiff, Nat.reduceAdd, reduceIte, reduceCtorEq, S1, g288_0, g288_9, g288_18, g288_19, g288_20, g288_21, g288_22, g288_23, g288_113, hd3, hd147, hd260, hd283])
            refine Ow.nilM ⟨nofun, ?_⟩
            show Cw _ _ _ _ _
            refine Cw.seq ?_
            refine Cw.region ?_
            iterate 20 (refine Ow.popM rfl ?_; simp only [S0, Nat.reduceEqDiff, Nat.reduceAdd, reduceIte, reduceCtorEq, S1, show ((0 : Int) == 0) = true from rfl, show (false == false) = true from rfl, g288_0, g288_9, g288_18, g288_19, g288_20, g288_21, g288_22, g288_23, g288_113, hd3, hd147, hd260, hd283])
            refine Ow.gen (fun E => E.get 0 = some (.slice aa la.length ca) ∧ E.get 134 = some (.bool true) ∧ E.get 135 = some (v5)) ⟨(by simp only [S0, Nat.reduceEqDiff, Nat.reduceAdd, reduceIte, reduceCtorEq, S1, and_self, g288_0, g288_9, g288_18, g288_19, g288_20, g288_21, g288_22, g288_23, g288_113, hd3, hd147, hd260, hd283]), (by simp only [S0, Nat.reduceEqDiff, Nat.reduceAdd, reduceIte, reduceCtorEq, S1, and_self, g288_0, g288_9, g288_18, g288_19, g288_20, g288_21, g288_22, g288_23, g288_113, hd3, hd147, hd260, hd283]), (by simp only [S0, Nat.reduceEqDiff, Nat.reduceAdd, reduceIte, reduceCtorEq, S1, and_self, g288_0, g288_9, g288_18, g288_19, g288_20, g288_21, g288_22, g288_23, g288_113, hd3, hd147, hd260, hd283])⟩ ?_
            rintro E289 ⟨g289_0, g289_134, g289_135⟩
            (refine Ow.popM rfl ?_; simp only [S0, Nat.reduceEqDiff, Nat.reduceAdd, reduceIte, reduceCtorEq, S1, g289_0, g289_134, g289_135, hd3, hd147, hd260, hd283])
            have r5_291 := r5.ext hx148
            have r5_292 := r5_291.ext hx149
            have r5_293 := r5_292.ext hx261
            have r5_294 := r5_293.ext hx265
            have r5_295 := r5_294.ext hx284
            have r5_296 := r5_295.ext hx286
            have fa_297 := fa_287.ext hx286
            refine Ow.callPA (k := 20) (fs := []) (cs := []) (vs := [v5, .slice aa la.length ca]) (by simp only [S0, Nat.reduceEqDiff, Nat.reduceAdd, reduceIte, reduceCtorEq, S1, g289_0, g289_134, g289_135, hd3, hd147, hd260, hd283]) rfl (by simp only [S0, Nat.reduceEqDiff, Nat.reduceAdd, reduceIte, reduceCtorEq, S1, g289_0, g289_134, g289_135, hd3, hd147, hd260, hd283]) (same_T ext0_ok r5_296.isB.wl fa_297.wl (by first | omega | (simp only [SL]; omega)) (rfl)) ?_
            intro H290 hx290
            iterate 2 (refine Ow.popM rfl ?_; simp only [S0, Nat.reduceEqDiff, Nat.reduceAdd, reduceIte, reduceCtorEq, S1, g289_0, g289_134, g289_135, hd3, hd147, hd260, hd283])
            refine Ow.callPA (k := 14) (fs := []) (cs := []) (vs := []) (by simp only [S0, Nat.reduceEqDiff, Nat.reduceAdd, reduceIte, reduceCtorEq, S1, g289_0, g289_134, g289_135, hd3, hd147, hd260, hd283]) rfl rfl (awake_any) ?_
            intro H298 hx298
            iterate 2 (refine Ow.popM rfl ?_; simp only [S0, Nat.reduceEqDiff, Nat.reduceAdd, reduceIte, reduceCtorEq, S1, g289_0, g289_134, g289_135, hd3, hd147, hd260, hd283])
            refine Ow.nilM ⟨nofun, ?_⟩
            show Cw _ _ _ _ _
            refine Cw.ret ?_
            simp only [Then, InBlock, Rnd, FnPost, resOf, tupled, S0, Nat.reduceEqDiff, Nat.reduceAdd, reduceIte, reduceCtorEq, g289_0, g289_134, g289_135, hd3, hd147, hd260, hd283]
theorem BvShiftMatches_calls (W : World) (A0 : Option Addr) (c0 : Nat) (l0 : List Bool) (a1 : Int) (a2 : Int) (a3 : Int) (h0 : RowAt W A0 l0.length c0 (l0.map .bool)) (w1 : (Lit.int .i64 a1).wf = true) (w2 : (Lit.int .i64 a2).wf = true) (w3 : (Lit.int .i64 a3).wf = true) :
    Calls Try.prog 10 #[.slice A0 l0.length c0, .int .i64 a1, .int .i64 a2, .int .i64 a3] W fun e W' => e = .returned (.bool true) ∧ Go.RowKit.Below W.heap.size W W' := by
  have hrows : RowsAt W [⟨A0, l0.length, c0, l0.map .bool⟩] := fun i r hr => by
    match i, hr with
    | 0, hr => obtain rfl := Option.some.inj hr; exact h0
  refine law_calls (C := Cx ext0) IR.mixed IR.ft_ok ext0_sim no_glob hrows (args := [Row.val 0 ⟨A0, l0.length, c0, l0.map .bool⟩, .int .i64 a1, .int .i64 a2, .int .i64 a3]) ?_ ?_
  · exact .cons (row_val hrows (i := 0) rfl) (.cons (.int _ _) (.cons (.int _ _) (.cons (.int _ _) .nil)))
  · exact BvShiftMatches_run (row_isB hrows (i := 0) rfl rfl rfl) (by simpa [Lit.wf, IntKind.min, IntKind.max, IntKind.signed, IntKind.bits] using w1) (by simpa [Lit.wf, IntKind.min, IntKind.max, IntKind.signed, IntKind.bits] using w2) (by simpa [Lit.wf, IntKind.min, IntKind.max, IntKind.signed, IntKind.bits] using w3)
end Go.Proofs.Yteeckncfllbokaa.X
