/- BvWords: the interpreter answers true. -/
import Derived.Test.YteeckncfllbokaaALc
import Derived.Test.YteeckncfllbokaaXW
import Derived.Test.YteeckncfllbokaaXWa
set_option linter.unusedSimpArgs false
set_option linter.unusedVariables false
namespace Go.Proofs.Yteeckncfllbokaa.X
open Go Go.AL
set_option maxHeartbeats 3200000 in
theorem BvWords_run {H : AH} {n0 : Int} (hn0 : -9223372036854775808 ≤ n0 ∧ n0 ≤ 9223372036854775807) {n1 : Int} (hn1 : -9223372036854775808 ≤ n1 ∧ n1 ≤ 9223372036854775807) {n2 : Int} (hn2 : 0 ≤ n2 ∧ n2 ≤ 255) {n3 : Int} (hn3 : 0 ≤ n3 ∧ n3 ≤ 255) : Run (Cx ext0) 12 [.int .i64 n0, .int .i64 n1, .int .u8 n2, .int .u8 n3] H fun r _ => r = .bool true := by
  refine Run.intro (fi := IR.fi12) (ext0_ok 12 (by decide)) (by kernel_rfl) ?_
  unfold IR.fi12
  simp only [envOf_cons, envOf_nil]
  obtain ⟨q, rfl⟩ : ∃ q : Nat, n2 = (q : Int) := Int.eq_ofNat_of_zero_le hn2.1
  obtain ⟨sh, rfl⟩ : ∃ q : Nat, n3 = (q : Int) := Int.eq_ofNat_of_zero_le hn3.1
  have hs : sh ≤ 255 := by omega
  refine Cw.seq ?_
  refine Cw.region ?_
  (refine Ow.popM rfl ?_; simp only [S0, Nat.reduceEqDiff, Nat.reduceAdd, reduceIte, reduceCtorEq, S1])
  refine Ow.nilM ⟨nofun, ?_⟩
  show Cw _ _ _ _ _
  refine Cw.seq ?_
  refine Cw.region ?_
  iterate 2 (refine Ow.popM rfl ?_; simp only [S0, Nat.reduceEqDiff, Nat.reduceAdd, reduceIte, reduceCtorEq, S1, show ((q : Nat) : Int).tmod (64 : Int) = ((q % 64 : Nat) : Int) from (Int.ofNat_tmod q 64).symm, show ((64 : Int) = 0) = False from eq_false (by decide)])
  iterate 2 (refine Ow.popM rfl ?_; simp only [S0, Nat.reduceEqDiff, Nat.reduceAdd, reduceIte, reduceCtorEq, S1, fw_nat (show q % 64 < 2 ^ 63 by omega), show fwrap .i64 ((1 : Int) + (((q % 64 : Nat) : Int) : Int)) = ((1 + q % 64 : Nat) : Int) from add_nat (a := 1) (b := q % 64) (by omega)])
  obtain ⟨w, hw⟩ : ∃ w, 1 + q % 64 = w := ⟨_, rfl⟩
  rw [hw]
  have h1w : 1 ≤ w := by omega
  have h2w : w ≤ 64 := by omega
  (refine Ow.popM rfl ?_; simp only [S0, Nat.reduceEqDiff, Nat.reduceAdd, reduceIte, reduceCtorEq, S1])
  refine Ow.nilM ⟨nofun, ?_⟩
  show Cw _ _ _ _ _
  refine Cw.seq ?_
  refine Cw.seq ?_
  refine Cw.region ?_
  refine Ow.callPA (k := 14) (fs := []) (cs := []) (vs := []) rfl rfl rfl (awake_any) ?_
  intro H1 hx1
  (refine Ow.popM rfl ?_; simp only [S0, Nat.reduceEqDiff, Nat.reduceAdd, reduceIte, reduceCtorEq, S1])
  refine Ow.nilM ⟨nofun, ?_⟩
  show Cw _ _ _ _ _
  refine Cw.cond (t := false) (by simp only [S0, Nat.reduceEqDiff, Nat.reduceAdd, reduceIte, reduceCtorEq, S1]) ?_
  refine Cw.skip ?_
  show Cw _ _ _ _ _
  refine Cw.seq ?_
  refine Cw.region ?_
  iterate 4 (refine Ow.popM rfl ?_; simp only [S0, Nat.reduceEqDiff, Nat.reduceAdd, reduceIte, reduceCtorEq, S1, show fwrap .i64 ((64 : Int) - (((w : Nat) : Int) : Int)) = ((64 - w : Nat) : Int) from sub_nat (a := 64) (b := w) (by omega) (by omega), shl_sx (m := n0) h2w])
  iterate 3 (refine Ow.popM rfl ?_; simp only [S0, Nat.reduceEqDiff, Nat.reduceAdd, reduceIte, reduceCtorEq, S1, show fwrap .i64 ((64 : Int) - (((w : Nat) : Int) : Int)) = ((64 - w : Nat) : Int) from sub_nat (a := 64) (b := w) (by omega) (by omega), shr_sx (m := n0) h2w])
  iterate 4 (refine Ow.popM rfl ?_; simp only [S0, Nat.reduceEqDiff, Nat.reduceAdd, reduceIte, reduceCtorEq, S1, show fwrap .i64 ((64 : Int) - (((w : Nat) : Int) : Int)) = ((64 - w : Nat) : Int) from sub_nat (a := 64) (b := w) (by omega) (by omega), shl_sx (m := n1) h2w])
  iterate 3 (refine Ow.popM rfl ?_; simp only [S0, Nat.reduceEqDiff, Nat.reduceAdd, reduceIte, reduceCtorEq, S1, show fwrap .i64 ((64 : Int) - (((w : Nat) : Int) : Int)) = ((64 - w : Nat) : Int) from sub_nat (a := 64) (b := w) (by omega) (by omega), shr_sx (m := n1) h2w])
  iterate 2 (refine Ow.popM rfl ?_; simp only [S0, Nat.reduceEqDiff, Nat.reduceAdd, reduceIte, reduceCtorEq, S1])
  refine Ow.nilM ⟨fun _ => by rfl, ?_⟩
  show Cw _ _ _ _ _
  refine Cw.seq ?_
  refine Cw.region ?_
  have sm := sx_sg h1w h2w n0
  generalize sx w n0 = m at *
  have sn := sx_sg h1w h2w n1
  generalize sx w n1 = n at *
  (refine Ow.popM rfl ?_; simp only [S0, Nat.reduceEqDiff, Nat.reduceAdd, reduceIte, reduceCtorEq, S1])
  refine Ow.gen (fun E => E.get 0 = some (.int .i64 (m)) ∧ E.get 1 = some (.int .i64 (n)) ∧ E.get 3 = some (.int .u8 (((sh : Nat) : Int))) ∧ E.get 9 = some (.int .i64 ((w : Nat) : Int)) ∧ E.get 50 = some (.int .i64 (m))) ⟨(by simp only [S0, Nat.reduceEqDiff, Nat.reduceAdd, reduceIte, reduceCtorEq, S1, and_self]), (by simp only [S0, Nat.reduceEqDiff, Nat.reduceAdd, reduceIte, reduceCtorEq, S1, and_self]), (by simp only [S0, Nat.reduceEqDiff, Nat.reduceAdd, reduceIte, reduceCtorEq, S1, and_self]), (by simp only [S0, Nat.reduceEqDiff, Nat.reduceAdd, reduceIte, reduceCtorEq, S1, and_self]), (by simp only [S0, Nat.reduceEqDiff, Nat.reduceAdd, reduceIte, reduceCtorEq, S1, and_self])⟩ ?_
  rintro E2 ⟨g2_0, g2_1, g2_3, g2_9, g2_50⟩
  (refine Ow.popM rfl ?_; simp only [S0, Nat.reduceEqDiff, Nat.reduceAdd, reduceIte, reduceCtorEq, S1, g2_0, g2_1, g2_3, g2_9, g2_50])
  refine Ow.callA (k := 45) (fs := []) (cs := []) (vs := [.int .i64 (m), .int .i64 ((w : Nat) : Int)]) rfl rfl (by simp only [S0, Nat.reduceEqDiff, Nat.reduceAdd, reduceIte, reduceCtorEq, S1, g2_0, g2_1, g2_3, g2_9, g2_50]) (bFromInt_any ext0_ok (sg_lo sm) (sg_hi sm)) (fun _ _ _ h => h) ?_
  rintro v3 H3 hx3 r3
  rw [if_neg (by omega)] at r3
  obtain ⟨u3, rfl, mu3⟩ := r3
  rw [Int.toNat_natCast] at mu3
  iterate 5 (refine Ow.popM rfl ?_; simp only [S0, Nat.reduceEqDiff, Nat.reduceAdd, reduceIte, reduceCtorEq, S1, g2_0, g2_1, g2_3, g2_9, g2_50])
  refine Ow.nilM ⟨nofun, ?_⟩
  show Cw _ _ _ _ _
  refine Cw.seq ?_
  refine Cw.region ?_
  iterate 2 (refine Ow.popM rfl ?_; simp only [S0, Nat.reduceEqDiff, Nat.reduceAdd, reduceIte, reduceCtorEq, S1, g2_0, g2_1, g2_3, g2_9, g2_50])
  refine Ow.callA (k := 45) (fs := []) (cs := []) (vs := [.int .i64 (n), .int .i64 ((w : Nat) : Int)]) rfl rfl (by simp only [S0, Nat.reduceEqDiff, Nat.reduceAdd, reduceIte, reduceCtorEq, S1, g2_0, g2_1, g2_3, g2_9, g2_50]) (bFromInt_any ext0_ok (sg_lo sn) (sg_hi sn)) (fun _ _ _ h => h) ?_
  rintro v4 H4 hx4 r4
  rw [if_neg (by omega)] at r4
  obtain ⟨u4, rfl, mu4⟩ := r4
  rw [Int.toNat_natCast] at mu4
  iterate 5 (refine Ow.popM rfl ?_; simp only [S0, Nat.reduceEqDiff, Nat.reduceAdd, reduceIte, reduceCtorEq, S1, g2_0, g2_1, g2_3, g2_9, g2_50])
  refine Ow.nilM ⟨nofun, ?_⟩
  show Cw _ _ _ _ _
  refine Cw.seq ?_
  refine Cw.region ?_
  (refine Ow.popM rfl ?_; simp only [S0, Nat.reduceEqDiff, Nat.reduceAdd, reduceIte, reduceCtorEq, S1, g2_0, g2_1, g2_3, g2_9, g2_50])
  have mu3_6 := mu3.ext hx4
  refine Ow.callA (k := 51) (fs := []) (cs := []) (vs := [u3]) rfl rfl (by simp only [S0, Nat.reduceEqDiff, Nat.reduceAdd, reduceIte, reduceCtorEq, S1, g2_0, g2_1, g2_3, g2_9, g2_50]) (bInt_any ext0_ok mu3_6.isB.wl (by simp only [ofI_length]; omega)) (fun _ _ _ h => h) ?_
  rintro v5 H5 hx5 r5
  rw [w_intV sm] at r5
  subst r5
  iterate 5 (refine Ow.popM rfl ?_; simp only [S0, Nat.reduceEqDiff, Nat.reduceAdd, reduceIte, reduceCtorEq, S1, g2_0, g2_1, g2_3, g2_9, g2_50])
  refine Ow.nilM ⟨nofun, ?_⟩
  show Cw _ _ _ _ _
  refine Cw.seq ?_
  refine Cw.seq ?_
  refine Cw.region ?_
  iterate 3 (refine Ow.popM rfl ?_; simp only [S0, Nat.reduceEqDiff, Nat.reduceAdd, reduceIte, reduceCtorEq, S1, show ((0 : Int) != 0) = false from rfl, g2_0, g2_1, g2_3, g2_9, g2_50])
  refine Ow.gen (fun E => E.get 0 = some (.int .i64 (m)) ∧ E.get 1 = some (.int .i64 (n)) ∧ E.get 3 = some (.int .u8 (((sh : Nat) : Int))) ∧ E.get 9 = some (.int .i64 ((w : Nat) : Int)) ∧ E.get 10 = some (u3) ∧ E.get 12 = some (u4) ∧ E.get 13 = some (.int .i64 (0)) ∧ E.get 14 = some (.int .i64 (m)) ∧ E.get 15 = some (.bool true) ∧ E.get 68 = some (.bool false)) ⟨(by simp only [S0, Nat.reduceEqDiff, Nat.reduceAdd, reduceIte, reduceCtorEq, S1, and_self, g2_0, g2_1, g2_3, g2_9, g2_50]), (by simp only [S0, Nat.reduceEqDiff, Nat.reduceAdd, reduceIte, reduceCtorEq, S1, and_self, g2_0, g2_1, g2_3, g2_9, g2_50]), (by simp only [S0, Nat.reduceEqDiff, Nat.reduceAdd, reduceIte, reduceCtorEq, S1, and_self, g2_0, g2_1, g2_3, g2_9, g2_50]), (by simp only [S0, Nat.reduceEqDiff, Nat.reduceAdd, reduceIte, reduceCtorEq, S1, and_self, g2_0, g2_1, g2_3, g2_9, g2_50]), (by simp only [S0, Nat.reduceEqDiff, Nat.reduceAdd, reduceIte, reduceCtorEq, S1, and_self, g2_0, g2_1, g2_3, g2_9, g2_50]), (by simp only [S0, Nat.reduceEqDiff, Nat.reduceAdd, reduceIte, reduceCtorEq, S1, and_self, g2_0, g2_1, g2_3, g2_9, g2_50]), (by simp only [S0, Nat.reduceEqDiff, Nat.reduceAdd, reduceIte, reduceCtorEq, S1, and_self, g2_0, g2_1, g2_3, g2_9, g2_50]), (by simp only [S0, Nat.reduceEqDiff, Nat.reduceAdd, reduceIte, reduceCtorEq, S1, and_self, g2_0, g2_1, g2_3, g2_9, g2_50]), (by simp only [S0, Nat.reduceEqDiff, Nat.reduceAdd, reduceIte, reduceCtorEq, S1, and_self, g2_0, g2_1, g2_3, g2_9, g2_50]), (by simp only [S0, Nat.reduceEqDiff, Nat.reduceAdd, reduceIte, reduceCtorEq, S1, and_self, g2_0, g2_1, g2_3, g2_9, g2_50])⟩ ?_
  rintro E7 ⟨g7_0, g7_1, g7_3, g7_9, g7_10, g7_12, g7_13, g7_14, g7_15, g7_68⟩
  iterate 12 (refine Ow.popM rfl ?_; simp only [S0, Nat.reduceEqDiff, Nat.reduceAdd, reduceIte, reduceCtorEq, S1, show ((0 : Int) != 0) = false from rfl, bne_self_eq_false, g7_0, g7_1, g7_3, g7_9, g7_10, g7_12, g7_13, g7_14, g7_15, g7_68])
  refine Ow.nilM ⟨nofun, ?_⟩
  show Cw _ _ _ _ _
  refine Cw.cond (t := false) (by simp only [S0, Nat.reduceEqDiff, Nat.reduceAdd, reduceIte, reduceCtorEq, S1, g7_0, g7_1, g7_3, g7_9, g7_10, g7_12, g7_13, g7_14, g7_15, g7_68]) ?_
  refine Cw.skip ?_
  show Cw _ _ _ _ _
  refine Cw.seq ?_
  refine Cw.region ?_
  iterate 3 (refine Ow.popM rfl ?_; simp only [S0, Nat.reduceEqDiff, Nat.reduceAdd, reduceIte, reduceCtorEq, S1, show fwrap .i64 ((64 : Int) - (((w : Nat) : Int) : Int)) = ((64 - w : Nat) : Int) from sub_nat (a := 64) (b := w) (by omega) (by omega), mask_sx h1w h2w, g7_0, g7_1, g7_3, g7_9, g7_10, g7_12, g7_13, g7_14, g7_15, g7_68])
  (refine Ow.popM rfl ?_; simp only [S0, Nat.reduceEqDiff, Nat.reduceAdd, reduceIte, reduceCtorEq, S1, g7_0, g7_1, g7_3, g7_9, g7_10, g7_12, g7_13, g7_14, g7_15, g7_68])
  refine Ow.nilM ⟨nofun, ?_⟩
  show Cw _ _ _ _ _
  refine Cw.seq ?_
  refine Cw.region ?_
  (refine Ow.popM rfl ?_; simp only [S0, Nat.reduceEqDiff, Nat.reduceAdd, reduceIte, reduceCtorEq, S1, g7_0, g7_1, g7_3, g7_9, g7_10, g7_12, g7_13, g7_14, g7_15, g7_68])
  have mu3_9 := mu3_6.ext hx5
  refine Ow.callA (k := 49) (fs := []) (cs := []) (vs := [u3]) rfl rfl (by simp only [S0, Nat.reduceEqDiff, Nat.reduceAdd, reduceIte, reduceCtorEq, S1, g7_0, g7_1, g7_3, g7_9, g7_10, g7_12, g7_13, g7_14, g7_15, g7_68]) (bUint_any ext0_ok mu3_9.isB.wl (by simp only [ofI_length]; omega)) (fun _ _ _ h => h) ?_
  rintro v8 H8 hx8 r8
  rw [w_uintV h2w] at r8
  subst r8
  iterate 5 (refine Ow.popM rfl ?_; simp only [S0, Nat.reduceEqDiff, Nat.reduceAdd, reduceIte, reduceCtorEq, S1, g7_0, g7_1, g7_3, g7_9, g7_10, g7_12, g7_13, g7_14, g7_15, g7_68])
  refine Ow.nilM ⟨nofun, ?_⟩
  show Cw _ _ _ _ _
  refine Cw.seq ?_
  refine Cw.seq ?_
  refine Cw.region ?_
  iterate 2 (refine Ow.popM rfl ?_; simp only [S0, Nat.reduceEqDiff, Nat.reduceAdd, reduceIte, reduceCtorEq, S1, g7_0, g7_1, g7_3, g7_9, g7_10, g7_12, g7_13, g7_14, g7_15, g7_68])
  refine Ow.gen (fun E => E.get 0 = some (.int .i64 (m)) ∧ E.get 1 = some (.int .i64 (n)) ∧ E.get 3 = some (.int .u8 (((sh : Nat) : Int))) ∧ E.get 9 = some (.int .i64 ((w : Nat) : Int)) ∧ E.get 10 = some (u3) ∧ E.get 12 = some (u4) ∧ E.get 16 = some (.int .u64 (((2 ^ w - 1 : Nat) : Int))) ∧ E.get 17 = some (.int .u64 (((val (ofI w m) : Nat) : Int))) ∧ E.get 90 = some (.bool false)) ⟨(by simp only [S0, Nat.reduceEqDiff, Nat.reduceAdd, reduceIte, reduceCtorEq, S1, and_self, g7_0, g7_1, g7_3, g7_9, g7_10, g7_12, g7_13, g7_14, g7_15, g7_68]), (by simp only [S0, Nat.reduceEqDiff, Nat.reduceAdd, reduceIte, reduceCtorEq, S1, and_self, g7_0, g7_1, g7_3, g7_9, g7_10, g7_12, g7_13, g7_14, g7_15, g7_68]), (by simp only [S0, Nat.reduceEqDiff, Nat.reduceAdd, reduceIte, reduceCtorEq, S1, and_self, g7_0, g7_1, g7_3, g7_9, g7_10, g7_12, g7_13, g7_14, g7_15, g7_68]), (by simp only [S0, Nat.reduceEqDiff, Nat.reduceAdd, reduceIte, reduceCtorEq, S1, and_self, g7_0, g7_1, g7_3, g7_9, g7_10, g7_12, g7_13, g7_14, g7_15, g7_68]), (by simp only [S0, Nat.reduceEqDiff, Nat.reduceAdd, reduceIte, reduceCtorEq, S1, and_self, g7_0, g7_1, g7_3, g7_9, g7_10, g7_12, g7_13, g7_14, g7_15, g7_68]), (by simp only [S0, Nat.reduceEqDiff, Nat.reduceAdd, reduceIte, reduceCtorEq, S1, and_self, g7_0, g7_1, g7_3, g7_9, g7_10, g7_12, g7_13, g7_14, g7_15, g7_68]), (by simp only [S0, Nat.reduceEqDiff, Nat.reduceAdd, reduceIte, reduceCtorEq, S1, and_self, g7_0, g7_1, g7_3, g7_9, g7_10, g7_12, g7_13, g7_14, g7_15, g7_68]), (by simp only [S0, Nat.reduceEqDiff, Nat.reduceAdd, reduceIte, reduceCtorEq, S1, and_self, g7_0, g7_1, g7_3, g7_9, g7_10, g7_12, g7_13, g7_14, g7_15, g7_68]), (by simp only [S0, Nat.reduceEqDiff, Nat.reduceAdd, reduceIte, reduceCtorEq, S1, and_self, g7_0, g7_1, g7_3, g7_9, g7_10, g7_12, g7_13, g7_14, g7_15, g7_68])⟩ ?_
  rintro E10 ⟨g10_0, g10_1, g10_3, g10_9, g10_10, g10_12, g10_16, g10_17, g10_90⟩
  iterate 4 (refine Ow.popM rfl ?_; simp only [S0, Nat.reduceEqDiff, Nat.reduceAdd, reduceIte, reduceCtorEq, S1, conv_u64 m, g10_0, g10_1, g10_3, g10_9, g10_10, g10_12, g10_16, g10_17, g10_90])
  iterate 2 (refine Ow.popM rfl ?_; simp only [S0, Nat.reduceEqDiff, Nat.reduceAdd, reduceIte, reduceCtorEq, S1, and_mask h2w m, g10_0, g10_1, g10_3, g10_9, g10_10, g10_12, g10_16, g10_17, g10_90])
  iterate 2 (refine Ow.popM rfl ?_; simp only [S0, Nat.reduceEqDiff, Nat.reduceAdd, reduceIte, reduceCtorEq, S1, bne_self_eq_false, g10_0, g10_1, g10_3, g10_9, g10_10, g10_12, g10_16, g10_17, g10_90])
  refine Ow.nilM ⟨nofun, ?_⟩
  show Cw _ _ _ _ _
  refine Cw.cond (t := false) (by simp only [S0, Nat.reduceEqDiff, Nat.reduceAdd, reduceIte, reduceCtorEq, S1, g10_0, g10_1, g10_3, g10_9, g10_10, g10_12, g10_16, g10_17, g10_90]) ?_
  refine Cw.skip ?_
  show Cw _ _ _ _ _
  refine Cw.seq ?_
  refine Cw.seq ?_
  refine Cw.region ?_
  iterate 2 (refine Ow.popM rfl ?_; simp only [S0, Nat.reduceEqDiff, Nat.reduceAdd, reduceIte, reduceCtorEq, S1, g10_0, g10_1, g10_3, g10_9, g10_10, g10_12, g10_16, g10_17, g10_90])
  have mu3_12 := mu3_9.ext hx8
  have mu4_13 := mu4.ext hx5
  have mu4_14 := mu4_13.ext hx8
  refine Ow.callA (k := 25) (fs := []) (cs := []) (vs := [u3, u4]) rfl rfl (by simp only [S0, Nat.reduceEqDiff, Nat.reduceAdd, reduceIte, reduceCtorEq, S1, g10_0, g10_1, g10_3, g10_9, g10_10, g10_12, g10_16, g10_17, g10_90]) (add_any ext0_ok mu3_12.isB.wl mu4_14.isB.wl (by first | omega | (simp only [SL]; omega))) (fun _ _ _ h => h) ?_
  rintro v11 H11 hx11 ⟨i11, hi11, m11⟩
  iterate 3 (refine Ow.popM rfl ?_; simp only [S0, Nat.reduceEqDiff, Nat.reduceAdd, reduceIte, reduceCtorEq, S1, g10_0, g10_1, g10_3, g10_9, g10_10, g10_12, g10_16, g10_17, g10_90])
  obtain rfl : v11 = _ := m11.1
  (refine Ow.popM rfl ?_; simp only [S0, Nat.reduceEqDiff, Nat.reduceAdd, reduceIte, reduceCtorEq, S1, S2, show Nat.ble 1 2 = true from rfl, show Nat.ble 2 2 = true from rfl, g10_0, g10_1, g10_3, g10_9, g10_10, g10_12, g10_16, g10_17, g10_90])
  iterate 2 (refine Ow.popM rfl ?_; simp only [S0, Nat.reduceEqDiff, Nat.reduceAdd, reduceIte, reduceCtorEq, S1, g10_0, g10_1, g10_3, g10_9, g10_10, g10_12, g10_16, g10_17, g10_90])
  have mu3_16 := mu3_12.ext hx11
  have mu4_17 := mu4_14.ext hx11
  refine Ow.callA (k := 27) (fs := []) (cs := []) (vs := [u3, u4]) rfl rfl (by simp only [S0, Nat.reduceEqDiff, Nat.reduceAdd, reduceIte, reduceCtorEq, S1, g10_0, g10_1, g10_3, g10_9, g10_10, g10_12, g10_16, g10_17, g10_90]) (sub_any ext0_ok mu3_16.isB.wl mu4_17.isB.wl (by first | omega | (simp only [SL]; omega))) (fun _ _ _ h => h) ?_
  rintro v15 H15 hx15 ⟨i15, hi15, m15⟩
  iterate 3 (refine Ow.popM rfl ?_; simp only [S0, Nat.reduceEqDiff, Nat.reduceAdd, reduceIte, reduceCtorEq, S1, g10_0, g10_1, g10_3, g10_9, g10_10, g10_12, g10_16, g10_17, g10_90])
  obtain rfl : v15 = _ := m15.1
  (refine Ow.popM rfl ?_; simp only [S0, Nat.reduceEqDiff, Nat.reduceAdd, reduceIte, reduceCtorEq, S1, S2, show Nat.ble 1 2 = true from rfl, show Nat.ble 2 2 = true from rfl, g10_0, g10_1, g10_3, g10_9, g10_10, g10_12, g10_16, g10_17, g10_90])
  iterate 2 (refine Ow.popM rfl ?_; simp only [S0, Nat.reduceEqDiff, Nat.reduceAdd, reduceIte, reduceCtorEq, S1, g10_0, g10_1, g10_3, g10_9, g10_10, g10_12, g10_16, g10_17, g10_90])
  have mu3_19 := mu3_16.ext hx15
  have mu4_20 := mu4_17.ext hx15
  refine Ow.callA (k := 26) (fs := []) (cs := []) (vs := [u3, u4]) rfl rfl (by simp only [S0, Nat.reduceEqDiff, Nat.reduceAdd, reduceIte, reduceCtorEq, S1, g10_0, g10_1, g10_3, g10_9, g10_10, g10_12, g10_16, g10_17, g10_90]) (mul_any ext0_ok mu3_19.isB.wl mu4_20.isB.wl (by first | omega | (simp only [SL]; omega))) (fun _ _ _ h => h) ?_
  rintro v18 H18 hx18 ⟨i18, hi18, m18⟩
  refine Ow.gen (fun E => E.get 0 = some (.int .i64 (m)) ∧ E.get 1 = some (.int .i64 (n)) ∧ E.get 3 = some (.int .u8 (((sh : Nat) : Int))) ∧ E.get 9 = some (.int .i64 ((w : Nat) : Int)) ∧ E.get 10 = some (u3) ∧ E.get 12 = some (u4) ∧ E.get 16 = some (.int .u64 (((2 ^ w - 1 : Nat) : Int))) ∧ E.get 105 = some (.agg ⟨[.slice (some ⟨i11, 0, none⟩) (ofN (ofI w m).length (val (ofI w m) + val (ofI w n))).length (ofN (ofI w m).length (val (ofI w m) + val (ofI w n))).length, .int .i64 (fwrap .i64 (m + n))]⟩) ∧ E.get 112 = some (.agg ⟨[.slice (some ⟨i15, 0, none⟩) (ofN (ofI w m).length (val (ofI w m) + (2 ^ (ofI w m).length - val (ofI w n) % 2 ^ (ofI w m).length))).length (ofN (ofI w m).length (val (ofI w m) + (2 ^ (ofI w m).length - val (ofI w n) % 2 ^ (ofI w m).length))).length, .int .i64 (fwrap .i64 (m - n))]⟩) ∧ E.get 115 = some (v18)) ⟨(by simp only [S0, Nat.reduceEqDiff, Nat.reduceAdd, reduceIte, reduceCtorEq, S1, and_self, g10_0, g10_1, g10_3, g10_9, g10_10, g10_12, g10_16, g10_17, g10_90]), (by simp only [S0, Nat.reduceEqDiff, Nat.reduceAdd, reduceIte, reduceCtorEq, S1, and_self, g10_0, g10_1, g10_3, g10_9, g10_10, g10_12, g10_16, g10_17, g10_90]), (by simp only [S0, Nat.reduceEqDiff, Nat.reduceAdd, reduceIte, reduceCtorEq, S1, and_self, g10_0, g10_1, g10_3, g10_9, g10_10, g10_12, g10_16, g10_17, g10_90]), (by simp only [S0, Nat.reduceEqDiff, Nat.reduceAdd, reduceIte, reduceCtorEq, S1, and_self, g10_0, g10_1, g10_3, g10_9, g10_10, g10_12, g10_16, g10_17, g10_90]), (by simp only [S0, Nat.reduceEqDiff, Nat.reduceAdd, reduceIte, reduceCtorEq, S1, and_self, g10_0, g10_1, g10_3, g10_9, g10_10, g10_12, g10_16, g10_17, g10_90]), (by simp only [S0, Nat.reduceEqDiff, Nat.reduceAdd, reduceIte, reduceCtorEq, S1, and_self, g10_0, g10_1, g10_3, g10_9, g10_10, g10_12, g10_16, g10_17, g10_90]), (by simp only [S0, Nat.reduceEqDiff, Nat.reduceAdd, reduceIte, reduceCtorEq, S1, and_self, g10_0, g10_1, g10_3, g10_9, g10_10, g10_12, g10_16, g10_17, g10_90]), (by simp only [S0, Nat.reduceEqDiff, Nat.reduceAdd, reduceIte, reduceCtorEq, S1, and_self, g10_0, g10_1, g10_3, g10_9, g10_10, g10_12, g10_16, g10_17, g10_90]), (by simp only [S0, Nat.reduceEqDiff, Nat.reduceAdd, reduceIte, reduceCtorEq, S1, and_self, g10_0, g10_1, g10_3, g10_9, g10_10, g10_12, g10_16, g10_17, g10_90]), (by simp only [S0, Nat.reduceEqDiff, Nat.reduceAdd, reduceIte, reduceCtorEq, S1, and_self, g10_0, g10_1, g10_3, g10_9, g10_10, g10_12, g10_16, g10_17, g10_90])⟩ ?_
  rintro E21 ⟨g21_0, g21_1, g21_3, g21_9, g21_10, g21_12, g21_16, g21_105, g21_112, g21_115⟩
  iterate 3 (refine Ow.popM rfl ?_; simp only [S0, Nat.reduceEqDiff, Nat.reduceAdd, reduceIte, reduceCtorEq, S1, g21_0, g21_1, g21_3, g21_9, g21_10, g21_12, g21_16, g21_105, g21_112, g21_115])
  obtain rfl : v18 = _ := m18.1
  (refine Ow.popM rfl ?_; simp only [S0, Nat.reduceEqDiff, Nat.reduceAdd, reduceIte, reduceCtorEq, S1, S2, show Nat.ble 1 2 = true from rfl, show Nat.ble 2 2 = true from rfl, g21_0, g21_1, g21_3, g21_9, g21_10, g21_12, g21_16, g21_105, g21_112, g21_115])
  (refine Ow.popM rfl ?_; simp only [S0, Nat.reduceEqDiff, Nat.reduceAdd, reduceIte, reduceCtorEq, S1, g21_0, g21_1, g21_3, g21_9, g21_10, g21_12, g21_16, g21_105, g21_112, g21_115])
  have mu3_23 := mu3_19.ext hx18
  refine Ow.callA (k := 28) (fs := []) (cs := []) (vs := [u3]) rfl rfl (by simp only [S0, Nat.reduceEqDiff, Nat.reduceAdd, reduceIte, reduceCtorEq, S1, g21_0, g21_1, g21_3, g21_9, g21_10, g21_12, g21_16, g21_105, g21_112, g21_115]) (neg_any ext0_ok mu3_23.isB.wl (by first | omega | (simp only [SL]; omega))) (fun _ _ _ h => h) ?_
  rintro v22 H22 hx22 ⟨i22, hi22, m22⟩
  iterate 2 (refine Ow.popM rfl ?_; simp only [S0, Nat.reduceEqDiff, Nat.reduceAdd, reduceIte, reduceCtorEq, S1, g21_0, g21_1, g21_3, g21_9, g21_10, g21_12, g21_16, g21_105, g21_112, g21_115])
  obtain rfl : v22 = _ := m22.1
  (refine Ow.popM rfl ?_; simp only [S0, Nat.reduceEqDiff, Nat.reduceAdd, reduceIte, reduceCtorEq, S1, S2, show Nat.ble 1 2 = true from rfl, show Nat.ble 2 2 = true from rfl, g21_0, g21_1, g21_3, g21_9, g21_10, g21_12, g21_16, g21_105, g21_112, g21_115])
  iterate 3 (refine Ow.popM rfl ?_; simp only [S0, Nat.reduceEqDiff, Nat.reduceAdd, reduceIte, reduceCtorEq, S1, fw_nat (show sh < 2 ^ 63 by omega), g21_0, g21_1, g21_3, g21_9, g21_10, g21_12, g21_16, g21_105, g21_112, g21_115])
  have mu3_25 := mu3_23.ext hx22
  refine Ow.callA (k := 34) (fs := []) (cs := []) (vs := [u3, .int .i64 ((sh : Nat) : Int)]) rfl rfl (by simp only [S0, Nat.reduceEqDiff, Nat.reduceAdd, reduceIte, reduceCtorEq, S1, g21_0, g21_1, g21_3, g21_9, g21_10, g21_12, g21_16, g21_105, g21_112, g21_115]) (shl_any ext0_ok mu3_25.isB.wl (by first | omega | (simp only [SL]; omega))) (fun _ _ _ h => h) ?_
  rintro v24 H24 hx24 ⟨i24, hi24, m24⟩
  iterate 3 (refine Ow.popM rfl ?_; simp only [S0, Nat.reduceEqDiff, Nat.reduceAdd, reduceIte, reduceCtorEq, S1, sh_l m sh, g21_0, g21_1, g21_3, g21_9, g21_10, g21_12, g21_16, g21_105, g21_112, g21_115])
  obtain rfl : v24 = _ := m24.1
  (refine Ow.popM rfl ?_; simp only [S0, Nat.reduceEqDiff, Nat.reduceAdd, reduceIte, reduceCtorEq, S1, S2, show Nat.ble 1 2 = true from rfl, show Nat.ble 2 2 = true from rfl, g21_0, g21_1, g21_3, g21_9, g21_10, g21_12, g21_16, g21_105, g21_112, g21_115])
  iterate 3 (refine Ow.popM rfl ?_; simp only [S0, Nat.reduceEqDiff, Nat.reduceAdd, reduceIte, reduceCtorEq, S1, fw_nat (show sh < 2 ^ 63 by omega), g21_0, g21_1, g21_3, g21_9, g21_10, g21_12, g21_16, g21_105, g21_112, g21_115])
  have mu3_27 := mu3_25.ext hx24
  refine Ow.callA (k := 36) (fs := []) (cs := []) (vs := [u3, .int .i64 ((sh : Nat) : Int)]) rfl rfl (by simp only [S0, Nat.reduceEqDiff, Nat.reduceAdd, reduceIte, reduceCtorEq, S1, g21_0, g21_1, g21_3, g21_9, g21_10, g21_12, g21_16, g21_105, g21_112, g21_115]) (sar_any ext0_ok mu3_27.isB.wl (by first | omega | (simp only [SL]; omega))) (fun _ _ _ h => h) ?_
  rintro v26 H26 hx26 ⟨i26, hi26, m26⟩
  iterate 3 (refine Ow.popM rfl ?_; simp only [S0, Nat.reduceEqDiff, Nat.reduceAdd, reduceIte, reduceCtorEq, S1, sh_r (k := .i64) rfl m sh, g21_0, g21_1, g21_3, g21_9, g21_10, g21_12, g21_16, g21_105, g21_112, g21_115])
  obtain rfl : v26 = _ := m26.1
  (refine Ow.popM rfl ?_; simp only [S0, Nat.reduceEqDiff, Nat.reduceAdd, reduceIte, reduceCtorEq, S1, S2, show Nat.ble 1 2 = true from rfl, show Nat.ble 2 2 = true from rfl, g21_0, g21_1, g21_3, g21_9, g21_10, g21_12, g21_16, g21_105, g21_112, g21_115])
  refine Ow.gen (fun E => E.get 0 = some (.int .i64 (m)) ∧ E.get 1 = some (.int .i64 (n)) ∧ E.get 3 = some (.int .u8 (((sh : Nat) : Int))) ∧ E.get 9 = some (.int .i64 ((w : Nat) : Int)) ∧ E.get 10 = some (u3) ∧ E.get 12 = some (u4) ∧ E.get 16 = some (.int .u64 (((2 ^ w - 1 : Nat) : Int))) ∧ E.get 105 = some (.agg ⟨[.slice (some ⟨i11, 0, none⟩) (ofN (ofI w m).length (val (ofI w m) + val (ofI w n))).length (ofN (ofI w m).length (val (ofI w m) + val (ofI w n))).length, .int .i64 (fwrap .i64 (m + n))]⟩) ∧ E.get 112 = some (.agg ⟨[.slice (some ⟨i15, 0, none⟩) (ofN (ofI w m).length (val (ofI w m) + (2 ^ (ofI w m).length - val (ofI w n) % 2 ^ (ofI w m).length))).length (ofN (ofI w m).length (val (ofI w m) + (2 ^ (ofI w m).length - val (ofI w n) % 2 ^ (ofI w m).length))).length, .int .i64 (fwrap .i64 (m - n))]⟩) ∧ E.get 119 = some (.agg ⟨[.slice (some ⟨i18, 0, none⟩) (ofN (ofI w m).length (val (ofI w m) * val (ofI w n))).length (ofN (ofI w m).length (val (ofI w m) * val (ofI w n))).length, .int .i64 (fwrap .i64 (m * n))]⟩) ∧ E.get 124 = some (.agg ⟨[.slice (some ⟨i22, 0, none⟩) (ofN (ofI w m).length (2 ^ (ofI w m).length - val (ofI w m) % 2 ^ (ofI w m).length)).length (ofN (ofI w m).length (2 ^ (ofI w m).length - val (ofI w m) % 2 ^ (ofI w m).length)).length, .int .i64 (fwrap .i64 (0 - m))]⟩) ∧ E.get 132 = some (.agg ⟨[.slice (some ⟨i24, 0, none⟩) (ofN (ofI w m).length (val (ofI w m) * 2 ^ ((sh : Nat) : Int).toNat)).length (ofN (ofI w m).length (val (ofI w m) * 2 ^ ((sh : Nat) : Int).toNat)).length, .int .i64 (IntKind.wrap .i64 (m * 2 ^ min sh 64))]⟩) ∧ E.get 140 = some (.agg ⟨[.slice (some ⟨i26, 0, none⟩) (shrF (ofI w m) ((sh : Nat) : Int).toNat (bx (ofI w m) ((ofI w m).length - 1))).length (shrF (ofI w m) ((sh : Nat) : Int).toNat (bx (ofI w m) ((ofI w m).length - 1))).length, .int .i64 (m.fdiv (2 ^ min sh 64))]⟩)) ⟨(by simp only [S0, Nat.reduceEqDiff, Nat.reduceAdd, reduceIte, reduceCtorEq, S1, and_self, g21_0, g21_1, g21_3, g21_9, g21_10, g21_12, g21_16, g21_105, g21_112, g21_115]), (by simp only [S0, Nat.reduceEqDiff, Nat.reduceAdd, reduceIte, reduceCtorEq, S1, and_self, g21_0, g21_1, g21_3, g21_9, g21_10, g21_12, g21_16, g21_105, g21_112, g21_115]), (by simp only [S0, Nat.reduceEqDiff, Nat.reduceAdd, reduceIte, reduceCtorEq, S1, and_self, g21_0, g21_1, g21_3, g21_9, g21_10, g21_12, g21_16, g21_105, g21_112, g21_115]), (by simp only [S0, Nat.reduceEqDiff, Nat.reduceAdd, reduceIte, reduceCtorEq, S1, and_self, g21_0, g21_1, g21_3, g21_9, g21_10, g21_12, g21_16, g21_105, g21_112, g21_115]), (by simp only [S0, Nat.reduceEqDiff, Nat.reduceAdd, reduceIte, reduceCtorEq, S1, and_self, g21_0, g21_1, g21_3, g21_9, g21_10, g21_12, g21_16, g21_105, g21_112, g21_115]), (by simp only [S0, Nat.reduceEqDiff, Nat.reduceAdd, reduceIte, reduceCtorEq, S1, and_self, g21_0, g21_1, g21_3, g21_9, g21_10, g21_12, g21_16, g21_105, g21_112, g21_115]), (by simp only [S0, Nat.reduceEqDiff, Nat.reduceAdd, reduceIte, reduceCtorEq, S1, and_self, g21_0, g21_1, g21_3, g21_9, g21_10, g21_12, g21_16, g21_105, g21_112, g21_115]), (by simp only [S0, Nat.reduceEqDiff, Nat.reduceAdd, reduceIte, reduceCtorEq, S1, and_self, g21_0, g21_1, g21_3, g21_9, g21_10, g21_12, g21_16, g21_105, g21_112, g21_115]), (by simp only [S0, Nat.reduceEqDiff, Nat.reduceAdd, reduceIte, reduceCtorEq, S1, and_self, g21_0, g21_1, g21_3, g21_9, g21_10, g21_12, g21_16, g21_105, g21_112, g21_115]), (by simp only [S0, Nat.reduceEqDiff, Nat.reduceAdd, reduceIte, reduceCtorEq, S1, and_self, g21_0, g21_1, g21_3, g21_9, g21_10, g21_12, g21_16, g21_105, g21_112, g21_115]), (by simp only [S0, Nat.reduceEqDiff, Nat.reduceAdd, reduceIte, reduceCtorEq, S1, and_self, g21_0, g21_1, g21_3, g21_9, g21_10, g21_12, g21_16, g21_105, g21_112, g21_115]), (by simp only [S0, Nat.reduceEqDiff, Nat.reduceAdd, reduceIte, reduceCtorEq, S1, and_self, g21_0, g21_1, g21_3, g21_9, g21_10, g21_12, g21_16, g21_105, g21_112, g21_115]), (by simp only [S0, Nat.reduceEqDiff, Nat.reduceAdd, reduceIte, reduceCtorEq, S1, and_self, g21_0, g21_1, g21_3, g21_9, g21_10, g21_12, g21_16, g21_105, g21_112, g21_115])⟩ ?_
  rintro E28 ⟨g28_0, g28_1, g28_3, g28_9, g28_10, g28_12, g28_16, g28_105, g28_112, g28_119, g28_124, g28_132, g28_140⟩
  iterate 3 (refine Ow.popM rfl ?_; simp only [S0, Nat.reduceEqDiff, Nat.reduceAdd, reduceIte, reduceCtorEq, S1, fw_nat (show sh < 2 ^ 63 by omega), g28_0, g28_1, g28_3, g28_9, g28_10, g28_12, g28_16, g28_105, g28_112, g28_119, g28_124, g28_132, g28_140])
  have mu3_30 := mu3_27.ext hx26
  refine Ow.callA (k := 35) (fs := []) (cs := []) (vs := [u3, .int .i64 ((sh : Nat) : Int)]) rfl rfl (by simp only [S0, Nat.reduceEqDiff, Nat.reduceAdd, reduceIte, reduceCtorEq, S1, g28_0, g28_1, g28_3, g28_9, g28_10, g28_12, g28_16, g28_105, g28_112, g28_119, g28_124, g28_132, g28_140]) (shr_any ext0_ok mu3_30.isB.wl (by first | omega | (simp only [SL]; omega))) (fun _ _ _ h => h) ?_
  rintro v29 H29 hx29 ⟨i29, hi29, m29⟩
  iterate 2 (refine Ow.popM rfl ?_; simp only [S0, Nat.reduceEqDiff, Nat.reduceAdd, reduceIte, reduceCtorEq, S1, conv_u64 m, g28_0, g28_1, g28_3, g28_9, g28_10, g28_12, g28_16, g28_105, g28_112, g28_119, g28_124, g28_132, g28_140])
  iterate 2 (refine Ow.popM rfl ?_; simp only [S0, Nat.reduceEqDiff, Nat.reduceAdd, reduceIte, reduceCtorEq, S1, and_mask h2w m, g28_0, g28_1, g28_3, g28_9, g28_10, g28_12, g28_16, g28_105, g28_112, g28_119, g28_124, g28_132, g28_140])
  iterate 2 (refine Ow.popM rfl ?_; simp only [S0, Nat.reduceEqDiff, Nat.reduceAdd, reduceIte, reduceCtorEq, S1, sh_r (k := .u64) rfl ((val (ofI w m) : Nat) : Int) sh, g28_0, g28_1, g28_3, g28_9, g28_10, g28_12, g28_16, g28_105, g28_112, g28_119, g28_124, g28_132, g28_140])
  (refine Ow.popM rfl ?_; simp only [S0, Nat.reduceEqDiff, Nat.reduceAdd, reduceIte, reduceCtorEq, S1, g28_0, g28_1, g28_3, g28_9, g28_10, g28_12, g28_16, g28_105, g28_112, g28_119, g28_124, g28_132, g28_140])
  obtain rfl : v29 = _ := m29.1
  (refine Ow.popM rfl ?_; simp only [S0, Nat.reduceEqDiff, Nat.reduceAdd, reduceIte, reduceCtorEq, S1, S2, show Nat.ble 1 2 = true from rfl, show Nat.ble 2 2 = true from rfl, g28_0, g28_1, g28_3, g28_9, g28_10, g28_12, g28_16, g28_105, g28_112, g28_119, g28_124, g28_132, g28_140])
  refine Ow.newA (b := ⟨[.slice (some ⟨i11, 0, none⟩) (ofN (ofI w m).length (val (ofI w m) + val (ofI w n))).length (ofN (ofI w m).length (val (ofI w m) + val (ofI w n))).length, .int .i64 (fwrap .i64 (m + n)), .slice (some ⟨i15, 0, none⟩) (ofN (ofI w m).length (val (ofI w m) + (2 ^ (ofI w m).length - val (ofI w n) % 2 ^ (ofI w m).length))).length (ofN (ofI w m).length (val (ofI w m) + (2 ^ (ofI w m).length - val (ofI w n) % 2 ^ (ofI w m).length))).length, .int .i64 (fwrap .i64 (m - n)), .slice (some ⟨i18, 0, none⟩) (ofN (ofI w m).length (val (ofI w m) * val (ofI w n))).length (ofN (ofI w m).length (val (ofI w m) * val (ofI w n))).length, .int .i64 (fwrap .i64 (m * n)), .slice (some ⟨i22, 0, none⟩) (ofN (ofI w m).length (2 ^ (ofI w m).length - val (ofI w m) % 2 ^ (ofI w m).length)).length (ofN (ofI w m).length (2 ^ (ofI w m).length - val (ofI w m) % 2 ^ (ofI w m).length)).length, .int .i64 (fwrap .i64 (0 - m)), .slice (some ⟨i24, 0, none⟩) (ofN (ofI w m).length (val (ofI w m) * 2 ^ ((sh : Nat) : Int).toNat)).length (ofN (ofI w m).length (val (ofI w m) * 2 ^ ((sh : Nat) : Int).toNat)).length, .int .i64 (IntKind.wrap .i64 (m * 2 ^ min sh 64)), .slice (some ⟨i26, 0, none⟩) (shrF (ofI w m) ((sh : Nat) : Int).toNat (bx (ofI w m) ((ofI w m).length - 1))).length (shrF (ofI w m) ((sh : Nat) : Int).toNat (bx (ofI w m) ((ofI w m).length - 1))).length, .int .i64 (m.fdiv (2 ^ min sh 64)), .slice (some ⟨i29, 0, none⟩) (shrF (ofI w m) ((sh : Nat) : Int).toNat false).length (shrF (ofI w m) ((sh : Nat) : Int).toNat false).length, .int .i64 (fwrap .i64 ((((val (ofI w m) : Nat) : Int)).fdiv (2 ^ min sh 64)))], 0⟩) (v := .slice (some ⟨H29.n, 0, none⟩) 7 7) rfl rfl rfl (by simp only [S0, Nat.reduceEqDiff, Nat.reduceAdd, reduceIte, reduceCtorEq, S2, show Nat.ble 2 14 = true from rfl, show Nat.ble 4 14 = true from rfl, show Nat.ble 6 14 = true from rfl, show Nat.ble 8 14 = true from rfl, show Nat.ble 10 14 = true from rfl, show Nat.ble 12 14 = true from rfl, show Nat.ble 14 14 = true from rfl, show Nat.beq 2 2 = true from rfl, Nat.reduceAdd, Nat.reduceMul, g28_0, g28_1, g28_3, g28_9, g28_10, g28_12, g28_16, g28_105, g28_112, g28_119, g28_124, g28_132, g28_140]) ?_
  intro H31 hx31 hl31 hg31
  have hb31 : Bx H31 H29.n [.slice (some ⟨i11, 0, none⟩) (ofN (ofI w m).length (val (ofI w m) + val (ofI w n))).length (ofN (ofI w m).length (val (ofI w m) + val (ofI w n))).length, .int .i64 (fwrap .i64 (m + n)), .slice (some ⟨i15, 0, none⟩) (ofN (ofI w m).length (val (ofI w m) + (2 ^ (ofI w m).length - val (ofI w n) % 2 ^ (ofI w m).length))).length (ofN (ofI w m).length (val (ofI w m) + (2 ^ (ofI w m).length - val (ofI w n) % 2 ^ (ofI w m).length))).length, .int .i64 (fwrap .i64 (m - n)), .slice (some ⟨i18, 0, none⟩) (ofN (ofI w m).length (val (ofI w m) * val (ofI w n))).length (ofN (ofI w m).length (val (ofI w m) * val (ofI w n))).length, .int .i64 (fwrap .i64 (m * n)), .slice (some ⟨i22, 0, none⟩) (ofN (ofI w m).length (2 ^ (ofI w m).length - val (ofI w m) % 2 ^ (ofI w m).length)).length (ofN (ofI w m).length (2 ^ (ofI w m).length - val (ofI w m) % 2 ^ (ofI w m).length)).length, .int .i64 (fwrap .i64 (0 - m)), .slice (some ⟨i24, 0, none⟩) (ofN (ofI w m).length (val (ofI w m) * 2 ^ ((sh : Nat) : Int).toNat)).length (ofN (ofI w m).length (val (ofI w m) * 2 ^ ((sh : Nat) : Int).toNat)).length, .int .i64 (IntKind.wrap .i64 (m * 2 ^ min sh 64)), .slice (some ⟨i26, 0, none⟩) (shrF (ofI w m) ((sh : Nat) : Int).toNat (bx (ofI w m) ((ofI w m).length - 1))).length (shrF (ofI w m) ((sh : Nat) : Int).toNat (bx (ofI w m) ((ofI w m).length - 1))).length, .int .i64 (m.fdiv (2 ^ min sh 64)), .slice (some ⟨i29, 0, none⟩) (shrF (ofI w m) ((sh : Nat) : Int).toNat false).length (shrF (ofI w m) ((sh : Nat) : Int).toNat false).length, .int .i64 (fwrap .i64 ((((val (ofI w m) : Nat) : Int)).fdiv (2 ^ min sh 64)))] := ⟨hl31, hg31⟩
  iterate 2 (refine Ow.popM rfl ?_; simp only [S0, Nat.reduceEqDiff, Nat.reduceAdd, reduceIte, reduceCtorEq, S1, g28_0, g28_1, g28_3, g28_9, g28_10, g28_12, g28_16, g28_105, g28_112, g28_119, g28_124, g28_132, g28_140])
  refine Ow.nilM ⟨nofun, ?_⟩
  show Cw _ _ _ _ _
  refine Cw.block ?_
  refine Cw.gen2 (fun E => E.get 0 = some (.int .i64 (m)) ∧ E.get 1 = some (.int .i64 (n)) ∧ E.get 9 = some (.int .i64 ((w : Nat) : Int)) ∧ E.get 10 = some (u3) ∧ E.get 12 = some (u4) ∧ E.get 16 = some (.int .u64 (((2 ^ w - 1 : Nat) : Int))) ∧ E.get 153 = some (.slice (some ⟨H29.n, 0, none⟩) 7 7) ∧ E.get 154 = some (.int .i64 ((7 : Nat) : Int)) ∧ E.get 155 = some (.int .i64 (0))) ⟨(by simp only [S0, Nat.reduceEqDiff, Nat.reduceAdd, reduceIte, reduceCtorEq, S1, and_self, g28_0, g28_1, g28_3, g28_9, g28_10, g28_12, g28_16, g28_105, g28_112, g28_119, g28_124, g28_132, g28_140]), (by simp only [S0, Nat.reduceEqDiff, Nat.reduceAdd, reduceIte, reduceCtorEq, S1, and_self, g28_0, g28_1, g28_3, g28_9, g28_10, g28_12, g28_16, g28_105, g28_112, g28_119, g28_124, g28_132, g28_140]), (by simp only [S0, Nat.reduceEqDiff, Nat.reduceAdd, reduceIte, reduceCtorEq, S1, and_self, g28_0, g28_1, g28_3, g28_9, g28_10, g28_12, g28_16, g28_105, g28_112, g28_119, g28_124, g28_132, g28_140]), (by simp only [S0, Nat.reduceEqDiff, Nat.reduceAdd, reduceIte, reduceCtorEq, S1, and_self, g28_0, g28_1, g28_3, g28_9, g28_10, g28_12, g28_16, g28_105, g28_112, g28_119, g28_124, g28_132, g28_140]), (by simp only [S0, Nat.reduceEqDiff, Nat.reduceAdd, reduceIte, reduceCtorEq, S1, and_self, g28_0, g28_1, g28_3, g28_9, g28_10, g28_12, g28_16, g28_105, g28_112, g28_119, g28_124, g28_132, g28_140]), (by simp only [S0, Nat.reduceEqDiff, Nat.reduceAdd, reduceIte, reduceCtorEq, S1, and_self, g28_0, g28_1, g28_3, g28_9, g28_10, g28_12, g28_16, g28_105, g28_112, g28_119, g28_124, g28_132, g28_140]), (by simp only [S0, Nat.reduceEqDiff, Nat.reduceAdd, reduceIte, reduceCtorEq, S1, and_self, g28_0, g28_1, g28_3, g28_9, g28_10, g28_12, g28_16, g28_105, g28_112, g28_119, g28_124, g28_132, g28_140]), (by simp only [S0, Nat.reduceEqDiff, Nat.reduceAdd, reduceIte, reduceCtorEq, S1, and_self, g28_0, g28_1, g28_3, g28_9, g28_10, g28_12, g28_16, g28_105, g28_112, g28_119, g28_124, g28_132, g28_140]), (by simp only [S0, Nat.reduceEqDiff, Nat.reduceAdd, reduceIte, reduceCtorEq, S1, and_self, g28_0, g28_1, g28_3, g28_9, g28_10, g28_12, g28_16, g28_105, g28_112, g28_119, g28_124, g28_132, g28_140])⟩ ?_
  rintro E32 ⟨g32_0, g32_1, g32_9, g32_10, g32_12, g32_16, g32_153, g32_154, g32_155⟩
  refine Cw.loop ?_
  refine Cw.seq ?_
  refine Cw.region ?_
  (refine Ow.popM rfl ?_; simp only [S0, Nat.reduceEqDiff, Nat.reduceAdd, reduceIte, reduceCtorEq, S1, show decide ((0 : Int) < (((7 : Nat) : Int) : Int)) = decide (0 < 7) from lt_dec (0) (7), show decide (0 < 7) = true from decide_eq_true (by decide), g32_0, g32_1, g32_9, g32_10, g32_12, g32_16, g32_153, g32_154, g32_155])
  refine Ow.nilM ⟨nofun, ?_⟩
  show Cw _ _ _ _ _
  refine Cw.seq ?_
  refine Cw.cond (t := true) (by simp only [S0, Nat.reduceEqDiff, Nat.reduceAdd, reduceIte, reduceCtorEq, S1, g32_0, g32_1, g32_9, g32_10, g32_12, g32_16, g32_153, g32_154, g32_155]) ?_
  refine Cw.skip ?_
  show Cw _ _ _ _ _
  refine Cw.seq ?_
  refine Cw.block ?_
  refine Cw.seq ?_
  refine Cw.region ?_
  (refine Ow.popM rfl ?_; simp only [S0, Nat.reduceEqDiff, Nat.reduceAdd, reduceIte, reduceCtorEq, S1, show ((0 : Int) ≤ (0 : Int) ∧ (0 : Int) < ((7 : Nat) : Int)) = True from eq_true (by decide), Nat.reduceMul, show Int.toNat (0 : Int) = 0 from rfl, g32_0, g32_1, g32_9, g32_10, g32_12, g32_16, g32_153, g32_154, g32_155])
  refine Ow.ldB (off := 0) (v := .agg ⟨[.slice (some ⟨i11, 0, none⟩) (ofN (ofI w m).length (val (ofI w m) + val (ofI w n))).length (ofN (ofI w m).length (val (ofI w m) + val (ofI w n))).length, .int .i64 (fwrap .i64 (m + n))]⟩) rfl (by simp only [S0, Nat.reduceEqDiff, Nat.reduceAdd, reduceIte, reduceCtorEq, S1, g32_0, g32_1, g32_9, g32_10, g32_12, g32_16, g32_153, g32_154, g32_155]) hb31 rfl ?_
  refine Ow.newB rfl ?_
  have ne34 : H31.n ≠ H29.n := Nat.ne_of_gt hb31.1
  intro H33 hx33 hl33 bx33
  refine Ow.stB (H0 := H31) (off := 0) (v := .agg ⟨[.slice (some ⟨i11, 0, none⟩) (ofN (ofI w m).length (val (ofI w m) + val (ofI w n))).length (ofN (ofI w m).length (val (ofI w m) + val (ofI w n))).length, .int .i64 (fwrap .i64 (m + n))]⟩) (vs' := [.slice (some ⟨i11, 0, none⟩) (ofN (ofI w m).length (val (ofI w m) + val (ofI w n))).length (ofN (ofI w m).length (val (ofI w m) + val (ofI w n))).length, .int .i64 (fwrap .i64 (m + n))]) rfl (by simp only [S0, Nat.reduceEqDiff, Nat.reduceAdd, reduceIte, reduceCtorEq, S1, g32_0, g32_1, g32_9, g32_10, g32_12, g32_16, g32_153, g32_154, g32_155]) (by simp only [S0, Nat.reduceEqDiff, Nat.reduceAdd, reduceIte, reduceCtorEq, S1, g32_0, g32_1, g32_9, g32_10, g32_12, g32_16, g32_153, g32_154, g32_155]) bx33 rfl rfl hx33 (Nat.le_refl _) ?_
  intro H35 hx35 hn35 hk35 bx33_35
  refine Ow.nilM ⟨nofun, ?_⟩
  show Cw _ _ _ _ _
  refine Cw.seq ?_
  refine Cw.region ?_
  (refine Ow.popM rfl ?_; simp only [S0, Nat.reduceEqDiff, Nat.reduceAdd, reduceIte, reduceCtorEq, S1, g32_0, g32_1, g32_9, g32_10, g32_12, g32_16, g32_153, g32_154, g32_155])
  refine Ow.ldB (off := 0) (v := .slice (some ⟨i11, 0, none⟩) (ofN (ofI w m).length (val (ofI w m) + val (ofI w n))).length (ofN (ofI w m).length (val (ofI w m) + val (ofI w n))).length) rfl (by simp only [S0, Nat.reduceEqDiff, Nat.reduceAdd, reduceIte, reduceCtorEq, S1, g32_0, g32_1, g32_9, g32_10, g32_12, g32_16, g32_153, g32_154, g32_155]) bx33_35 rfl ?_
  (refine Ow.popM rfl ?_; simp only [S0, Nat.reduceEqDiff, Nat.reduceAdd, reduceIte, reduceCtorEq, S1, g32_0, g32_1, g32_9, g32_10, g32_12, g32_16, g32_153, g32_154, g32_155])
  refine Ow.ldB (off := 1) (v := .int .i64 (fwrap .i64 (m + n))) rfl (by simp only [S0, Nat.reduceEqDiff, Nat.reduceAdd, reduceIte, reduceCtorEq, S1, g32_0, g32_1, g32_9, g32_10, g32_12, g32_16, g32_153, g32_154, g32_155]) bx33_35 rfl ?_
  (refine Ow.popM rfl ?_; simp only [S0, Nat.reduceEqDiff, Nat.reduceAdd, reduceIte, reduceCtorEq, S1, g32_0, g32_1, g32_9, g32_10, g32_12, g32_16, g32_153, g32_154, g32_155])
  refine Ow.callA (k := 29) (fs := []) (cs := []) (vs := [.int .i64 (fwrap .i64 (m + n)), .int .i64 ((w : Nat) : Int)]) rfl rfl (by simp only [S0, Nat.reduceEqDiff, Nat.reduceAdd, reduceIte, reduceCtorEq, S1, g32_0, g32_1, g32_9, g32_10, g32_12, g32_16, g32_153, g32_154, g32_155]) (of_any ext0_ok (by omega)) (fun _ _ _ h => h) ?_
  rintro v36 H36 hx36 m36
  have m11_38 := m11.ext hx15
  have m11_39 := m11_38.ext hx18
  have m11_40 := m11_39.ext hx22
  have m11_41 := m11_40.ext hx24
  have m11_42 := m11_41.ext hx26
  have m11_43 := m11_42.ext hx29
  have m11_44 := m11_43.ext hx31
  have m11_45 := m11_44.ext hx35
  have m11_46 := m11_45.ext hx36
  refine Ow.callPA (k := 20) (fs := []) (cs := []) (vs := [.slice (some ⟨i11, 0, none⟩) (ofN (ofI w m).length (val (ofI w m) + val (ofI w n))).length (ofN (ofI w m).length (val (ofI w m) + val (ofI w n))).length, v36]) rfl rfl (by simp only [S0, Nat.reduceEqDiff, Nat.reduceAdd, reduceIte, reduceCtorEq, S1, g32_0, g32_1, g32_9, g32_10, g32_12, g32_16, g32_153, g32_154, g32_155]) (same_T ext0_ok m11_46.isB.wl m36.isR.isB.wl (by first | omega | (simp only [SL]; omega)) (by rw [ofI_length]; exact w_add h2w)) ?_
  intro H37 hx37
  (refine Ow.popM rfl ?_; simp only [S0, Nat.reduceEqDiff, Nat.reduceAdd, reduceIte, reduceCtorEq, S1, g32_0, g32_1, g32_9, g32_10, g32_12, g32_16, g32_153, g32_154, g32_155])
  refine Ow.nilM ⟨fun _ => by rfl, ?_⟩
  show Cw _ _ _ _ _
  refine Cw.cond (t := false) (by simp only [S0, Nat.reduceEqDiff, Nat.reduceAdd, reduceIte, reduceCtorEq, S1, g32_0, g32_1, g32_9, g32_10, g32_12, g32_16, g32_153, g32_154, g32_155]) ?_
  refine Cw.skip ?_
  show Cw _ _ _ _ _
  refine Cw.region ?_
  iterate 2 (refine Ow.popM rfl ?_; simp only [S0, Nat.reduceEqDiff, Nat.reduceAdd, reduceIte, reduceCtorEq, S1, show fwrap .i64 ((0 : Int) + (1 : Int)) = ((1 : Nat) : Int) from rfl, g32_0, g32_1, g32_9, g32_10, g32_12, g32_16, g32_153, g32_154, g32_155])
  refine Ow.nilM ⟨nofun, ?_⟩
  show Cw _ _ _ _ _
  refine Cw.gen2 (fun E => E.get 0 = some (.int .i64 (m)) ∧ E.get 1 = some (.int .i64 (n)) ∧ E.get 9 = some (.int .i64 ((w : Nat) : Int)) ∧ E.get 10 = some (u3) ∧ E.get 12 = some (u4) ∧ E.get 16 = some (.int .u64 (((2 ^ w - 1 : Nat) : Int))) ∧ E.get 20 = some (.pointer (some ⟨H31.n, 0, none⟩)) ∧ E.get 153 = some (.slice (some ⟨H29.n, 0, none⟩) 7 7) ∧ E.get 154 = some (.int .i64 ((7 : Nat) : Int)) ∧ E.get 155 = some (.int .i64 ((1 : Nat) : Int)) ∧ E.get 156 = some (.bool true) ∧ E.get 157 = some (.pointer (some ⟨H29.n, 0, none⟩)) ∧ E.get 158 = some (.agg ⟨[.slice (some ⟨i11, 0, none⟩) (ofN (ofI w m).length (val (ofI w m) + val (ofI w n))).length (ofN (ofI w m).length (val (ofI w m) + val (ofI w n))).length, .int .i64 (fwrap .i64 (m + n))]⟩) ∧ E.get 159 = some (.pointer (some ⟨H31.n, 0, none⟩)) ∧ E.get 160 = some (.slice (some ⟨i11, 0, none⟩) (ofN (ofI w m).length (val (ofI w m) + val (ofI w n))).length (ofN (ofI w m).length (val (ofI w m) + val (ofI w n))).length) ∧ E.get 161 = some (.pointer (some ⟨H31.n, 1, none⟩)) ∧ E.get 162 = some (.int .i64 (fwrap .i64 (m + n))) ∧ E.get 163 = some (.int .i64 ((w : Nat) : Int)) ∧ E.get 164 = some (v36) ∧ E.get 165 = some (.bool true) ∧ E.get 166 = some (.bool false) ∧ E.get 167 = some (.int .i64 ((1 : Nat) : Int))) ⟨(by simp only [S0, Nat.reduceEqDiff, Nat.reduceAdd, reduceIte, reduceCtorEq, S1, and_self, g32_0, g32_1, g32_9, g32_10, g32_12, g32_16, g32_153, g32_154, g32_155]), (by simp only [S0, Nat.reduceEqDiff, Nat.reduceAdd, reduceIte, reduceCtorEq, S1, and_self, g32_0, g32_1, g32_9, g32_10, g32_12, g32_16, g32_153, g32_154, g32_155]), (by simp only [S0, Nat.reduceEqDiff, Nat.reduceAdd, reduceIte, reduceCtorEq, S1, and_self, g32_0, g32_1, g32_9, g32_10, g32_12, g32_16, g32_153, g32_154, g32_155]), (by simp only [S0, Nat.reduceEqDiff, Nat.reduceAdd, reduceIte, reduceCtorEq, S1, and_self, g32_0, g32_1, g32_9, g32_10, g32_12, g32_16, g32_153, g32_154, g32_155]), (by simp only [S0, Nat.reduceEqDiff, Nat.reduceAdd, reduceIte, reduceCtorEq, S1, and_self, g32_0, g32_1, g32_9, g32_10, g32_12, g32_16, g32_153, g32_154, g32_155]), (by simp only [S0, Nat.reduceEqDiff, Nat.reduceAdd, reduceIte, reduceCtorEq, S1, and_self, g32_0, g32_1, g32_9, g32_10, g32_12, g32_16, g32_153, g32_154, g32_155]), (by simp only [S0, Nat.reduceEqDiff, Nat.reduceAdd, reduceIte, reduceCtorEq, S1, and_self, g32_0, g32_1, g32_9, g32_10, g32_12, g32_16, g32_153, g32_154, g32_155]), (by simp only [S0, Nat.reduceEqDiff, Nat.reduceAdd, reduceIte, reduceCtorEq, S1, and_self, g32_0, g32_1, g32_9, g32_10, g32_12, g32_16, g32_153, g32_154, g32_155]), (by simp only [S0, Nat.reduceEqDiff, Nat.reduceAdd, reduceIte, reduceCtorEq, S1, and_self, g32_0, g32_1, g32_9, g32_10, g32_12, g32_16, g32_153, g32_154, g32_155]), (by simp only [S0, Nat.reduceEqDiff, Nat.reduceAdd, reduceIte, reduceCtorEq, S1, and_self, g32_0, g32_1, g32_9, g32_10, g32_12, g32_16, g32_153, g32_154, g32_155]), (by simp only [S0, Nat.reduceEqDiff, Nat.reduceAdd, reduceIte, reduceCtorEq, S1, and_self, g32_0, g32_1, g32_9, g32_10, g32_12, g32_16, g32_153, g32_154, g32_155]), (by simp only [S0, Nat.reduceEqDiff, Nat.reduceAdd, reduceIte, reduceCtorEq, S1, and_self, g32_0, g32_1, g32_9, g32_10, g32_12, g32_16, g32_153, g32_154, g32_155]), (by simp only [S0, Nat.reduceEqDiff, Nat.reduceAdd, reduceIte, reduceCtorEq, S1, and_self, g32_0, g32_1, g32_9, g32_10, g32_12, g32_16, g32_153, g32_154, g32_155]), (by simp only [S0, Nat.reduceEqDiff, Nat.reduceAdd, reduceIte, reduceCtorEq, S1, and_self, g32_0, g32_1, g32_9, g32_10, g32_12, g32_16, g32_153, g32_154, g32_155]), (by simp only [S0, Nat.reduceEqDiff, Nat.reduceAdd, reduceIte, reduceCtorEq, S1, and_self, g32_0, g32_1, g32_9, g32_10, g32_12, g32_16, g32_153, g32_154, g32_155]), (by simp only [S0, Nat.reduceEqDiff, Nat.reduceAdd, reduceIte, reduceCtorEq, S1, and_self, g32_0, g32_1, g32_9, g32_10, g32_12, g32_16, g32_153, g32_154, g32_155]), (by simp only [S0, Nat.reduceEqDiff, Nat.reduceAdd, reduceIte, reduceCtorEq, S1, and_self, g32_0, g32_1, g32_9, g32_10, g32_12, g32_16, g32_153, g32_154, g32_155]), (by simp only [S0, Nat.reduceEqDiff, Nat.reduceAdd, reduceIte, reduceCtorEq, S1, and_self, g32_0, g32_1, g32_9, g32_10, g32_12, g32_16, g32_153, g32_154, g32_155]), (by simp only [S0, Nat.reduceEqDiff, Nat.reduceAdd, reduceIte, reduceCtorEq, S1, and_self, g32_0, g32_1, g32_9, g32_10, g32_12, g32_16, g32_153, g32_154, g32_155]), (by simp only [S0, Nat.reduceEqDiff, Nat.reduceAdd, reduceIte, reduceCtorEq, S1, and_self, g32_0, g32_1, g32_9, g32_10, g32_12, g32_16, g32_153, g32_154, g32_155]), (by simp only [S0, Nat.reduceEqDiff, Nat.reduceAdd, reduceIte, reduceCtorEq, S1, and_self, g32_0, g32_1, g32_9, g32_10, g32_12, g32_16, g32_153, g32_154, g32_155]), (by simp only [S0, Nat.reduceEqDiff, Nat.reduceAdd, reduceIte, reduceCtorEq, S1, and_self, g32_0, g32_1, g32_9, g32_10, g32_12, g32_16, g32_153, g32_154, g32_155])⟩ ?_
  rintro E47 ⟨g47_0, g47_1, g47_9, g47_10, g47_12, g47_16, g47_20, g47_153, g47_154, g47_155, g47_156, g47_157, g47_158, g47_159, g47_160, g47_161, g47_162, g47_163, g47_164, g47_165, g47_166, g47_167⟩
  refine Cw.loop ?_
  refine Cw.seq ?_
  refine Cw.region ?_
  (refine Ow.popM rfl ?_; simp only [S0, Nat.reduceEqDiff, Nat.reduceAdd, reduceIte, reduceCtorEq, S1, show decide ((((1 : Nat) : Int) : Int) < (((7 : Nat) : Int) : Int)) = decide (1 < 7) from lt_dec (1) (7), show decide (1 < 7) = true from decide_eq_true (by decide), g47_0, g47_1, g47_9, g47_10, g47_12, g47_16, g47_20, g47_153, g47_154, g47_155, g47_156, g47_157, g47_158, g47_159, g47_160, g47_161, g47_162, g47_163, g47_164, g47_165, g47_166, g47_167])
  refine Ow.nilM ⟨nofun, ?_⟩
  show Cw _ _ _ _ _
  refine Cw.seq ?_
  refine Cw.cond (t := true) (by simp only [S0, Nat.reduceEqDiff, Nat.reduceAdd, reduceIte, reduceCtorEq, S1, g47_0, g47_1, g47_9, g47_10, g47_12, g47_16, g47_20, g47_153, g47_154, g47_155, g47_156, g47_157, g47_158, g47_159, g47_160, g47_161, g47_162, g47_163, g47_164, g47_165, g47_166, g47_167]) ?_
  refine Cw.skip ?_
  show Cw _ _ _ _ _
  refine Cw.seq ?_
  refine Cw.block ?_
  refine Cw.seq ?_
  refine Cw.region ?_
  (refine Ow.popM rfl ?_; simp only [S0, Nat.reduceEqDiff, Nat.reduceAdd, reduceIte, reduceCtorEq, S1, show ((0 : Int) ≤ ((1 : Nat) : Int) ∧ ((1 : Nat) : Int) < ((7 : Nat) : Int)) = True from eq_true (by decide), Nat.reduceMul, show Int.toNat ((1 : Nat) : Int) = 1 from rfl, g47_0, g47_1, g47_9, g47_10, g47_12, g47_16, g47_20, g47_153, g47_154, g47_155, g47_156, g47_157, g47_158, g47_159, g47_160, g47_161, g47_162, g47_163, g47_164, g47_165, g47_166, g47_167])
  have hb31_48 := hb31.ext hx35
  have hb31_49 := hb31_48.ext hx36
  have hb31_50 := hb31_49.ext hx37
  refine Ow.ldB (off := 2) (v := .agg ⟨[.slice (some ⟨i15, 0, none⟩) (ofN (ofI w m).length (val (ofI w m) + (2 ^ (ofI w m).length - val (ofI w n) % 2 ^ (ofI w m).length))).length (ofN (ofI w m).length (val (ofI w m) + (2 ^ (ofI w m).length - val (ofI w n) % 2 ^ (ofI w m).length))).length, .int .i64 (fwrap .i64 (m - n))]⟩) rfl (by simp only [S0, Nat.reduceEqDiff, Nat.reduceAdd, reduceIte, reduceCtorEq, S1, g47_0, g47_1, g47_9, g47_10, g47_12, g47_16, g47_20, g47_153, g47_154, g47_155, g47_156, g47_157, g47_158, g47_159, g47_160, g47_161, g47_162, g47_163, g47_164, g47_165, g47_166, g47_167]) hb31_50 rfl ?_
  refine Ow.newB rfl ?_
  have ne52 : H37.n ≠ H29.n := Nat.ne_of_gt hb31_50.1
  intro H51 hx51 hl51 bx51
  refine Ow.stB (H0 := H37) (off := 0) (v := .agg ⟨[.slice (some ⟨i15, 0, none⟩) (ofN (ofI w m).length (val (ofI w m) + (2 ^ (ofI w m).length - val (ofI w n) % 2 ^ (ofI w m).length))).length (ofN (ofI w m).length (val (ofI w m) + (2 ^ (ofI w m).length - val (ofI w n) % 2 ^ (ofI w m).length))).length, .int .i64 (fwrap .i64 (m - n))]⟩) (vs' := [.slice (some ⟨i15, 0, none⟩) (ofN (ofI w m).length (val (ofI w m) + (2 ^ (ofI w m).length - val (ofI w n) % 2 ^ (ofI w m).length))).length (ofN (ofI w m).length (val (ofI w m) + (2 ^ (ofI w m).length - val (ofI w n) % 2 ^ (ofI w m).length))).length, .int .i64 (fwrap .i64 (m - n))]) rfl (by simp only [S0, Nat.reduceEqDiff, Nat.reduceAdd, reduceIte, reduceCtorEq, S1, g47_0, g47_1, g47_9, g47_10, g47_12, g47_16, g47_20, g47_153, g47_154, g47_155, g47_156, g47_157, g47_158, g47_159, g47_160, g47_161, g47_162, g47_163, g47_164, g47_165, g47_166, g47_167]) (by simp only [S0, Nat.reduceEqDiff, Nat.reduceAdd, reduceIte, reduceCtorEq, S1, g47_0, g47_1, g47_9, g47_10, g47_12, g47_16, g47_20, g47_153, g47_154, g47_155, g47_156, g47_157, g47_158, g47_159, g47_160, g47_161, g47_162, g47_163, g47_164, g47_165, g47_166, g47_167]) bx51 rfl rfl hx51 (Nat.le_refl _) ?_
  intro H53 hx53 hn53 hk53 bx51_53
  refine Ow.nilM ⟨nofun, ?_⟩
  show Cw _ _ _ _ _
  refine Cw.seq ?_
  refine Cw.region ?_
  (refine Ow.popM rfl ?_; simp only [S0, Nat.reduceEqDiff, Nat.reduceAdd, reduceIte, reduceCtorEq, S1, g47_0, g47_1, g47_9, g47_10, g47_12, g47_16, g47_20, g47_153, g47_154, g47_155, g47_156, g47_157, g47_158, g47_159, g47_160, g47_161, g47_162, g47_163, g47_164, g47_165, g47_166, g47_167])
  refine Ow.ldB (off := 0) (v := .slice (some ⟨i15, 0, none⟩) (ofN (ofI w m).length (val (ofI w m) + (2 ^ (ofI w m).length - val (ofI w n) % 2 ^ (ofI w m).length))).length (ofN (ofI w m).length (val (ofI w m) + (2 ^ (ofI w m).length - val (ofI w n) % 2 ^ (ofI w m).length))).length) rfl (by simp only [S0, Nat.reduceEqDiff, Nat.reduceAdd, reduceIte, reduceCtorEq, S1, g47_0, g47_1, g47_9, g47_10, g47_12, g47_16, g47_20, g47_153, g47_154, g47_155, g47_156, g47_157, g47_158, g47_159, g47_160, g47_161, g47_162, g47_163, g47_164, g47_165, g47_166, g47_167]) bx51_53 rfl ?_
  (refine Ow.popM rfl ?_; simp only [S0, Nat.reduceEqDiff, Nat.reduceAdd, reduceIte, reduceCtorEq, S1, g47_0, g47_1, g47_9, g47_10, g47_12, g47_16, g47_20, g47_153, g47_154, g47_155, g47_156, g47_157, g47_158, g47_159, g47_160, g47_161, g47_162, g47_163, g47_164, g47_165, g47_166, g47_167])
  refine Ow.ldB (off := 1) (v := .int .i64 (fwrap .i64 (m - n))) rfl (by simp only [S0, Nat.reduceEqDiff, Nat.reduceAdd, reduceIte, reduceCtorEq, S1, g47_0, g47_1, g47_9, g47_10, g47_12, g47_16, g47_20, g47_153, g47_154, g47_155, g47_156, g47_157, g47_158, g47_159, g47_160, g47_161, g47_162, g47_163, g47_164, g47_165, g47_166, g47_167]) bx51_53 rfl ?_
  (refine Ow.popM rfl ?_; simp only [S0, Nat.reduceEqDiff, Nat.reduceAdd, reduceIte, reduceCtorEq, S1, g47_0, g47_1, g47_9, g47_10, g47_12, g47_16, g47_20, g47_153, g47_154, g47_155, g47_156, g47_157, g47_158, g47_159, g47_160, g47_161, g47_162, g47_163, g47_164, g47_165, g47_166, g47_167])
  refine Ow.callA (k := 29) (fs := []) (cs := []) (vs := [.int .i64 (fwrap .i64 (m - n)), .int .i64 ((w : Nat) : Int)]) rfl rfl (by simp only [S0, Nat.reduceEqDiff, Nat.reduceAdd, reduceIte, reduceCtorEq, S1, g47_0, g47_1, g47_9, g47_10, g47_12, g47_16, g47_20, g47_153, g47_154, g47_155, g47_156, g47_157, g47_158, g47_159, g47_160, g47_161, g47_162, g47_163, g47_164, g47_165, g47_166, g47_167]) (of_any ext0_ok (by omega)) (fun _ _ _ h => h) ?_
  rintro v54 H54 hx54 m54
  have m15_56 := m15.ext hx18
  have m15_57 := m15_56.ext hx22
  have m15_58 := m15_57.ext hx24
  have m15_59 := m15_58.ext hx26
  have m15_60 := m15_59.ext hx29
  have m15_61 := m15_60.ext hx31
  have m15_62 := m15_61.ext hx35
  have m15_63 := m15_62.ext hx36
  have m15_64 := m15_63.ext hx37
  have m15_65 := m15_64.ext hx53
  have m15_66 := m15_65.ext hx54
  refine Ow.callPA (k := 20) (fs := []) (cs := []) (vs := [.slice (some ⟨i15, 0, none⟩) (ofN (ofI w m).length (val (ofI w m) + (2 ^ (ofI w m).length - val (ofI w n) % 2 ^ (ofI w m).length))).length (ofN (ofI w m).length (val (ofI w m) + (2 ^ (ofI w m).length - val (ofI w n) % 2 ^ (ofI w m).length))).length, v54]) rfl rfl (by simp only [S0, Nat.reduceEqDiff, Nat.reduceAdd, reduceIte, reduceCtorEq, S1, g47_0, g47_1, g47_9, g47_10, g47_12, g47_16, g47_20, g47_153, g47_154, g47_155, g47_156, g47_157, g47_158, g47_159, g47_160, g47_161, g47_162, g47_163, g47_164, g47_165, g47_166, g47_167]) (same_T ext0_ok m15_66.isB.wl m54.isR.isB.wl (by first | omega | (simp only [SL]; omega)) (by rw [ofI_length]; exact w_sub h2w)) ?_
  intro H55 hx55
  (refine Ow.popM rfl ?_; simp only [S0, Nat.reduceEqDiff, Nat.reduceAdd, reduceIte, reduceCtorEq, S1, g47_0, g47_1, g47_9, g47_10, g47_12, g47_16, g47_20, g47_153, g47_154, g47_155, g47_156, g47_157, g47_158, g47_159, g47_160, g47_161, g47_162, g47_163, g47_164, g47_165, g47_166, g47_167])
  refine Ow.nilM ⟨fun _ => by rfl, ?_⟩
  show Cw _ _ _ _ _
  refine Cw.cond (t := false) (by simp only [S0, Nat.reduceEqDiff, Nat.reduceAdd, reduceIte, reduceCtorEq, S1, g47_0, g47_1, g47_9, g47_10, g47_12, g47_16, g47_20, g47_153, g47_154, g47_155, g47_156, g47_157, g47_158, g47_159, g47_160, g47_161, g47_162, g47_163, g47_164, g47_165, g47_166, g47_167]) ?_
  refine Cw.skip ?_
  show Cw _ _ _ _ _
  refine Cw.region ?_
  iterate 2 (refine Ow.popM rfl ?_; simp only [S0, Nat.reduceEqDiff, Nat.reduceAdd, reduceIte, reduceCtorEq, S1, show fwrap .i64 ((((1 : Nat) : Int) : Int) + (1 : Int)) = ((2 : Nat) : Int) from rfl, g47_0, g47_1, g47_9, g47_10, g47_12, g47_16, g47_20, g47_153, g47_154, g47_155, g47_156, g47_157, g47_158, g47_159, g47_160, g47_161, g47_162, g47_163, g47_164, g47_165, g47_166, g47_167])
  refine Ow.nilM ⟨nofun, ?_⟩
  show Cw _ _ _ _ _
  refine Cw.gen2 (fun E => E.get 0 = some (.int .i64 (m)) ∧ E.get 1 = some (.int .i64 (n)) ∧ E.get 9 = some (.int .i64 ((w : Nat) : Int)) ∧ E.get 10 = some (u3) ∧ E.get 12 = some (u4) ∧ E.get 16 = some (.int .u64 (((2 ^ w - 1 : Nat) : Int))) ∧ E.get 20 = some (.pointer (some ⟨H37.n, 0, none⟩)) ∧ E.get 153 = some (.slice (some ⟨H29.n, 0, none⟩) 7 7) ∧ E.get 154 = some (.int .i64 ((7 : Nat) : Int)) ∧ E.get 155 = some (.int .i64 ((2 : Nat) : Int)) ∧ E.get 156 = some (.bool true) ∧ E.get 157 = some (.pointer (some ⟨H29.n, 2, none⟩)) ∧ E.get 158 = some (.agg ⟨[.slice (some ⟨i15, 0, none⟩) (ofN (ofI w m).length (val (ofI w m) + (2 ^ (ofI w m).length - val (ofI w n) % 2 ^ (ofI w m).length))).length (ofN (ofI w m).length (val (ofI w m) + (2 ^ (ofI w m).length - val (ofI w n) % 2 ^ (ofI w m).length))).length, .int .i64 (fwrap .i64 (m - n))]⟩) ∧ E.get 159 = some (.pointer (some ⟨H37.n, 0, none⟩)) ∧ E.get 160 = some (.slice (some ⟨i15, 0, none⟩) (ofN (ofI w m).length (val (ofI w m) + (2 ^ (ofI w m).length - val (ofI w n) % 2 ^ (ofI w m).length))).length (ofN (ofI w m).length (val (ofI w m) + (2 ^ (ofI w m).length - val (ofI w n) % 2 ^ (ofI w m).length))).length) ∧ E.get 161 = some (.pointer (some ⟨H37.n, 1, none⟩)) ∧ E.get 162 = some (.int .i64 (fwrap .i64 (m - n))) ∧ E.get 163 = some (.int .i64 ((w : Nat) : Int)) ∧ E.get 164 = some (v54) ∧ E.get 165 = some (.bool true) ∧ E.get 166 = some (.bool false) ∧ E.get 167 = some (.int .i64 ((2 : Nat) : Int))) ⟨(by simp only [S0, Nat.reduceEqDiff, Nat.reduceAdd, reduceIte, reduceCtorEq, S1, and_self, g47_0, g47_1, g47_9, g47_10, g47_12, g47_16, g47_20, g47_153, g47_154, g47_155, g47_156, g47_157, g47_158, g47_159, g47_160, g47_161, g47_162, g47_163, g47_164, g47_165, g47_166, g47_167]), (by simp only [S0, Nat.reduceEqDiff, Nat.reduceAdd, reduceIte, reduceCtorEq, S1, and_self, g47_0, g47_1, g47_9, g47_10, g47_12, g47_16, g47_20, g47_153, g47_154, g47_155, g47_156, g47_157, g47_158, g47_159, g47_160, g47_161, g47_162, g47_163, g47_164, g47_165, g47_166, g47_167]), (by simp only [S0, Nat.reduceEqDiff, Nat.reduceAdd, reduceIte, reduceCtorEq, S1, and_self, g47_0, g47_1, g47_9, g47_10, g47_12, g47_16, g47_20, g47_153, g47_154, g47_155, g47_156, g47_157, g47_158, g47_159, g47_160, g47_161, g47_162, g47_163, g47_164, g47_165, g47_166, g47_167]), (by simp only [S0, Nat.reduceEqDiff, Nat.reduceAdd, reduceIte, reduceCtorEq, S1, and_self, g47_0, g47_1, g47_9, g47_10, g47_12, g47_16, g47_20, g47_153, g47_154, g47_155, g47_156, g47_157, g47_158, g47_159, g47_160, g47_161, g47_162, g47_163, g47_164, g47_165, g47_166, g47_167]), (by simp only [S0, Nat.reduceEqDiff, Nat.reduceAdd, reduceIte, reduceCtorEq, S1, and_self, g47_0, g47_1, g47_9, g47_10, g47_12, g47_16, g47_20, g47_153, g47_154, g47_155, g47_156, g47_157, g47_158, g47_159, g47_160, g47_161, g47_162, g47_163, g47_164, g47_165, g47_166, g47_167]), (by simp only [S0, Nat.reduceEqDiff, Nat.reduceAdd, reduceIte, reduceCtorEq, S1, and_self, g47_0, g47_1, g47_9, g47_10, g47_12, g47_16, g47_20, g47_153, g47_154, g47_155, g47_156, g47_157, g47_158, g47_159, g47_160, g47_161, g47_162, g47_163, g47_164, g47_165, g47_166, g47_167]), (by simp only [S0, Nat.reduceEqDiff, Nat.reduceAdd, reduceIte, reduceCtorEq, S1, and_self, g47_0, g47_1, g47_9, g47_10, g47_12, g47_16, g47_20, g47_153, g47_154, g47_155, g47_156, g47_157, g47_158, g47_159, g47_160, g47_161, g47_162, g47_163, g47_164, g47_165, g47_166, g47_167]), (by simp only [S0, Nat.reduceEqDiff, Nat.reduceAdd, reduceIte, reduceCtorEq, S1, and_self, g47_0, g47_1, g47_9, g47_10, g47_12, g47_16, g47_20, g47_153, g47_154, g47_155, g47_156, g47_157, g47_158, g47_159, g47_160, g47_161, g47_162, g47_163, g47_164, g47_165, g47_166, g47_167]), (by simp only [S0, Nat.reduceEqDiff, Nat.reduceAdd, reduceIte, reduceCtorEq, S1, and_self, g47_0, g47_1, g47_9, g47_10, g47_12, g47_16, g47_20, g47_153, g47_154, g47_155, g47_156, g47_157, g47_158, g47_159, g47_160, g47_161, g47_162, g47_163, g47_164, g47_165, g47_166, g47_167]), (by simp only [S0, Nat.reduceEqDiff, Nat.reduceAdd, reduceIte, reduceCtorEq, S1, and_self, g47_0, g47_1, g47_9, g47_10, g47_12, g47_16, g47_20, g47_153, g47_154, g47_155, g47_156, g47_157, g47_158, g47_159, g47_160, g47_161, g47_162, g47_163, g47_164, g47_165, g47_166, g47_167]), (by simp only [S0, Nat.reduceEqDiff, Nat.reduceAdd, reduceIte, reduceCtorEq, S1, and_self, g47_0, g47_1, g47_9, g47_10, g47_12, g47_16, g47_20, g47_153, g47_154, g47_155, g47_156, g47_157, g47_158, g47_159, g47_160, g47_161, g47_162, g47_163, g47_164, g47_165, g47_166, g47_167]), (by simp only [S0, Nat.reduceEqDiff, Nat.reduceAdd, reduceIte, reduceCtorEq, S1, and_self, g47_0, g47_1, g47_9, g47_10, g47_12, g47_16, g47_20, g47_153, g47_154, g47_155, g47_156, g47_157, g47_158, g47_159, g47_160, g47_161, g47_162, g47_163, g47_164, g47_165, g47_166, g47_167]), (by simp only [S0, Nat.reduceEqDiff, Nat.reduceAdd, reduceIte, reduceCtorEq, S1, and_self, g47_0, g47_1, g47_9, g47_10, g47_12, g47_16, g47_20, g47_153, g47_154, g47_155, g47_156, g47_157, g47_158, g47_159, g47_160, g47_161, g47_162, g47_163, g47_164, g47_165, g47_166, g47_167]), (by simp only [S0, Nat.reduceEqDiff, Nat.reduceAdd, reduceIte, reduceCtorEq, S1, and_self, g47_0, g47_1, g47_9, g47_10, g47_12, g47_16, g47_20, g47_153, g47_154, g47_155, g47_156, g47_157, g47_158, g47_159, g47_160, g47_161, g47_162, g47_163, g47_164, g47_165, g47_166, g47_167]), (by simp only [S0, Nat.reduceEqDiff, Nat.reduceAdd, reduceIte, reduceCtorEq, S1, and_self, g47_0, g47_1, g47_9, g47_10, g47_12, g47_16, g47_20, g47_153, g47_154, g47_155, g47_156, g47_157, g47_158, g47_159, g47_160, g47_161, g47_162, g47_163, g47_164, g47_165, g47_166, g47_167]), (by simp only [S0, Nat.reduceEqDiff, Nat.reduceAdd, reduceIte, reduceCtorEq, S1, and_self, g47_0, g47_1, g47_9, g47_10, g47_12, g47_16, g47_20, g47_153, g47_154, g47_155, g47_156, g47_157, g47_158, g47_159, g47_160, g47_161, g47_162, g47_163, g47_164, g47_165, g47_166, g47_167]), (by simp only [S0, Nat.reduceEqDiff, Nat.reduceAdd, reduceIte, reduceCtorEq, S1, and_self, g47_0, g47_1, g47_9, g47_10, g47_12, g47_16, g47_20, g47_153, g47_154, g47_155, g47_156, g47_157, g47_158, g47_159, g47_160, g47_161, g47_162, g47_163, g47_164, g47_165, g47_166, g47_167]), (by simp only [S0, Nat.reduceEqDiff, Nat.reduceAdd, reduceIte, reduceCtorEq, S1, and_self, g47_0, g47_1, g47_9, g47_10, g47_12, g47_16, g47_20, g47_153, g47_154, g47_155, g47_156, g47_157, g47_158, g47_159, g47_160, g47_161, g47_162, g47_163, g47_164, g47_165, g47_166, g47_167]), (by simp only [S0, Nat.reduceEqDiff, Nat.reduceAdd, reduceIte, reduceCtorEq, S1, and_self, g47_0, g47_1, g47_9, g47_10, g47_12, g47_16, g47_20, g47_153, g47_154, g47_155, g47_156, g47_157, g47_158, g47_159, g47_160, g47_161, g47_162, g47_163, g47_164, g47_165, g47_166, g47_167]), (by simp only [S0, Nat.reduceEqDiff, Nat.reduceAdd, reduceIte, reduceCtorEq, S1, and_self, g47_0, g47_1, g47_9, g47_10, g47_12, g47_16, g47_20, g47_153, g47_154, g47_155, g47_156, g47_157, g47_158, g47_159, g47_160, g47_161, g47_162, g47_163, g47_164, g47_165, g47_166, g47_167]), (by simp only [S0, Nat.reduceEqDiff, Nat.reduceAdd, reduceIte, reduceCtorEq, S1, and_self, g47_0, g47_1, g47_9, g47_10, g47_12, g47_16, g47_20, g47_153, g47_154, g47_155, g47_156, g47_157, g47_158, g47_159, g47_160, g47_161, g47_162, g47_163, g47_164, g47_165, g47_166, g47_167]), (by simp only [S0, Nat.reduceEqDiff, Nat.reduceAdd, reduceIte, reduceCtorEq, S1, and_self, g47_0, g47_1, g47_9, g47_10, g47_12, g47_16, g47_20, g47_153, g47_154, g47_155, g47_156, g47_157, g47_158, g47_159, g47_160, g47_161, g47_162, g47_163, g47_164, g47_165, g47_166, g47_167])⟩ ?_
  rintro E67 ⟨g67_0, g67_1, g67_9, g67_10, g67_12, g67_16, g67_20, g67_153, g67_154, g67_155, g67_156, g67_157, g67_158, g67_159, g67_160, g67_161, g67_162, g67_163, g67_164, g67_165, g67_166, g67_167⟩
  refine Cw.loop ?_
  refine Cw.seq ?_
  refine Cw.region ?_
  (refine Ow.popM rfl ?_; simp only [S0, Nat.reduceEqDiff, Nat.reduceAdd, reduceIte, reduceCtorEq, S1, show decide ((((2 : Nat) : Int) : Int) < (((7 : Nat) : Int) : Int)) = decide (2 < 7) from lt_dec (2) (7), show decide (2 < 7) = true from decide_eq_true (by decide), g67_0, g67_1, g67_9, g67_10, g67_12, g67_16, g67_20, g67_153, g67_154, g67_155, g67_156, g67_157, g67_158, g67_159, g67_160, g67_161, g67_162, g67_163, g67_164, g67_165, g67_166, g67_167])
  refine Ow.nilM ⟨nofun, ?_⟩
  show Cw _ _ _ _ _
  refine Cw.seq ?_
  refine Cw.cond (t := true) (by simp only [S0, Nat.reduceEqDiff, Nat.reduceAdd, reduceIte, reduceCtorEq, S1, g67_0, g67_1, g67_9, g67_10, g67_12, g67_16, g67_20, g67_153, g67_154, g67_155, g67_156, g67_157, g67_158, g67_159, g67_160, g67_161, g67_162, g67_163, g67_164, g67_165, g67_166, g67_167]) ?_
  refine Cw.skip ?_
  show Cw _ _ _ _ _
  refine Cw.seq ?_
  refine Cw.block ?_
  refine Cw.seq ?_
  refine Cw.region ?_
  (refine Ow.popM rfl ?_; simp only [S0, Nat.reduceEqDiff, Nat.reduceAdd, reduceIte, reduceCtorEq, S1, show ((0 : Int) ≤ ((2 : Nat) : Int) ∧ ((2 : Nat) : Int) < ((7 : Nat) : Int)) = True from eq_true (by decide), Nat.reduceMul, show Int.toNat ((2 : Nat) : Int) = 2 from rfl, g67_0, g67_1, g67_9, g67_10, g67_12, g67_16, g67_20, g67_153, g67_154, g67_155, g67_156, g67_157, g67_158, g67_159, g67_160, g67_161, g67_162, g67_163, g67_164, g67_165, g67_166, g67_167])
  have hb31_68 := hb31_50.ext hx53
  have hb31_69 := hb31_68.ext hx54
  have hb31_70 := hb31_69.ext hx55
  refine Ow.ldB (off := 4) (v := .agg ⟨[.slice (some ⟨i18, 0, none⟩) (ofN (ofI w m).length (val (ofI w m) * val (ofI w n))).length (ofN (ofI w m).length (val (ofI w m) * val (ofI w n))).length, .int .i64 (fwrap .i64 (m * n))]⟩) rfl (by simp only [S0, Nat.reduceEqDiff, Nat.reduceAdd, reduceIte, reduceCtorEq, S1, g67_0, g67_1, g67_9, g67_10, g67_12, g67_16, g67_20, g67_153, g67_154, g67_155, g67_156, g67_157, g67_158, g67_159, g67_160, g67_161, g67_162, g67_163, g67_164, g67_165, g67_166, g67_167]) hb31_70 rfl ?_
  refine Ow.newB rfl ?_
  have ne72 : H55.n ≠ H29.n := Nat.ne_of_gt hb31_70.1
  intro H71 hx71 hl71 bx71
  refine Ow.stB (H0 := H55) (off := 0) (v := .agg ⟨[.slice (some ⟨i18, 0, none⟩) (ofN (ofI w m).length (val (ofI w m) * val (ofI w n))).length (ofN (ofI w m).length (val (ofI w m) * val (ofI w n))).length, .int .i64 (fwrap .i64 (m * n))]⟩) (vs' := [.slice (some ⟨i18, 0, none⟩) (ofN (ofI w m).length (val (ofI w m) * val (ofI w n))).length (ofN (ofI w m).length (val (ofI w m) * val (ofI w n))).length, .int .i64 (fwrap .i64 (m * n))]) rfl (by simp only [S0, Nat.reduceEqDiff, Nat.reduceAdd, reduceIte, reduceCtorEq, S1, g67_0, g67_1, g67_9, g67_10, g67_12, g67_16, g67_20, g67_153, g67_154, g67_155, g67_156, g67_157, g67_158, g67_159, g67_160, g67_161, g67_162, g67_163, g67_164, g67_165, g67_166, g67_167]) (by simp only [S0, Nat.reduceEqDiff, Nat.reduceAdd, reduceIte, reduceCtorEq, S1, g67_0, g67_1, g67_9, g67_10, g67_12, g67_16, g67_20, g67_153, g67_154, g67_155, g67_156, g67_157, g67_158, g67_159, g67_160, g67_161, g67_162, g67_163, g67_164, g67_165, g67_166, g67_167]) bx71 rfl rfl hx71 (Nat.le_refl _) ?_
  intro H73 hx73 hn73 hk73 bx71_73
  refine Ow.nilM ⟨nofun, ?_⟩
  show Cw _ _ _ _ _
  refine Cw.seq ?_
  refine Cw.region ?_
  (refine Ow.popM rfl ?_; simp only [S0, Nat.reduceEqDiff, Nat.reduceAdd, reduceIte, reduceCtorEq, S1, g67_0, g67_1, g67_9, g67_10, g67_12, g67_16, g67_20, g67_153, g67_154, g67_155, g67_156, g67_157, g67_158, g67_159, g67_160, g67_161, g67_162, g67_163, g67_164, g67_165, g67_166, g67_167])
  refine Ow.ldB (off := 0) (v := .slice (some ⟨i18, 0, none⟩) (ofN (ofI w m).length (val (ofI w m) * val (ofI w n))).length (ofN (ofI w m).length (val (ofI w m) * val (ofI w n))).length) rfl (by simp only [S0, Nat.reduceEqDiff, Nat.reduceAdd, reduceIte, reduceCtorEq, S1, g67_0, g67_1, g67_9, g67_10, g67_12, g67_16, g67_20, g67_153, g67_154, g67_155, g67_156, g67_157, g67_158, g67_159, g67_160, g67_161, g67_162, g67_163, g67_164, g67_165, g67_166, g67_167]) bx71_73 rfl ?_
  (refine Ow.popM rfl ?_; simp only [S0, Nat.reduceEqDiff, Nat.reduceAdd, reduceIte, reduceCtorEq, S1, g67_0, g67_1, g67_9, g67_10, g67_12, g67_16, g67_20, g67_153, g67_154, g67_155, g67_156, g67_157, g67_158, g67_159, g67_160, g67_161, g67_162, g67_163, g67_164, g67_165, g67_166, g67_167])
  refine Ow.ldB (off := 1) (v := .int .i64 (fwrap .i64 (m * n))) rfl (by simp only [S0, Nat.reduceEqDiff, Nat.reduceAdd, reduceIte, reduceCtorEq, S1, g67_0, g67_1, g67_9, g67_10, g67_12, g67_16, g67_20, g67_153, g67_154, g67_155, g67_156, g67_157, g67_158, g67_159, g67_160, g67_161, g67_162, g67_163, g67_164, g67_165, g67_166, g67_167]) bx71_73 rfl ?_
  (refine Ow.popM rfl ?_; simp only [S0, Nat.reduceEqDiff, Nat.reduceAdd, reduceIte, reduceCtorEq, S1, g67_0, g67_1, g67_9, g67_10, g67_12, g67_16, g67_20, g67_153, g67_154, g67_155, g67_156, g67_157, g67_158, g67_159, g67_160, g67_161, g67_162, g67_163, g67_164, g67_165, g67_166, g67_167])
  refine Ow.callA (k := 29) (fs := []) (cs := []) (vs := [.int .i64 (fwrap .i64 (m * n)), .int .i64 ((w : Nat) : Int)]) rfl rfl (by simp only [S0, Nat.reduceEqDiff, Nat.reduceAdd, reduceIte, reduceCtorEq, S1, g67_0, g67_1, g67_9, g67_10, g67_12, g67_16, g67_20, g67_153, g67_154, g67_155, g67_156, g67_157, g67_158, g67_159, g67_160, g67_161, g67_162, g67_163, g67_164, g67_165, g67_166, g67_167]) (of_any ext0_ok (by omega)) (fun _ _ _ h => h) ?_
  rintro v74 H74 hx74 m74
  have m18_76 := m18.ext hx22
  have m18_77 := m18_76.ext hx24
  have m18_78 := m18_77.ext hx26
  have m18_79 := m18_78.ext hx29
  have m18_80 := m18_79.ext hx31
  have m18_81 := m18_80.ext hx35
  have m18_82 := m18_81.ext hx36
  have m18_83 := m18_82.ext hx37
  have m18_84 := m18_83.ext hx53
  have m18_85 := m18_84.ext hx54
  have m18_86 := m18_85.ext hx55
  have m18_87 := m18_86.ext hx73
  have m18_88 := m18_87.ext hx74
  refine Ow.callPA (k := 20) (fs := []) (cs := []) (vs := [.slice (some ⟨i18, 0, none⟩) (ofN (ofI w m).length (val (ofI w m) * val (ofI w n))).length (ofN (ofI w m).length (val (ofI w m) * val (ofI w n))).length, v74]) rfl rfl (by simp only [S0, Nat.reduceEqDiff, Nat.reduceAdd, reduceIte, reduceCtorEq, S1, g67_0, g67_1, g67_9, g67_10, g67_12, g67_16, g67_20, g67_153, g67_154, g67_155, g67_156, g67_157, g67_158, g67_159, g67_160, g67_161, g67_162, g67_163, g67_164, g67_165, g67_166, g67_167]) (same_T ext0_ok m18_88.isB.wl m74.isR.isB.wl (by first | omega | (simp only [SL]; omega)) (by rw [ofI_length]; exact w_mul h2w)) ?_
  intro H75 hx75
  (refine Ow.popM rfl ?_; simp only [S0, Nat.reduceEqDiff, Nat.reduceAdd, reduceIte, reduceCtorEq, S1, g67_0, g67_1, g67_9, g67_10, g67_12, g67_16, g67_20, g67_153, g67_154, g67_155, g67_156, g67_157, g67_158, g67_159, g67_160, g67_161, g67_162, g67_163, g67_164, g67_165, g67_166, g67_167])
  refine Ow.nilM ⟨fun _ => by rfl, ?_⟩
  show Cw _ _ _ _ _
  refine Cw.cond (t := false) (by simp only [S0, Nat.reduceEqDiff, Nat.reduceAdd, reduceIte, reduceCtorEq, S1, g67_0, g67_1, g67_9, g67_10, g67_12, g67_16, g67_20, g67_153, g67_154, g67_155, g67_156, g67_157, g67_158, g67_159, g67_160, g67_161, g67_162, g67_163, g67_164, g67_165, g67_166, g67_167]) ?_
  refine Cw.skip ?_
  show Cw _ _ _ _ _
  refine Cw.region ?_
  iterate 2 (refine Ow.popM rfl ?_; simp only [S0, Nat.reduceEqDiff, Nat.reduceAdd, reduceIte, reduceCtorEq, S1, show fwrap .i64 ((((2 : Nat) : Int) : Int) + (1 : Int)) = ((3 : Nat) : Int) from rfl, g67_0, g67_1, g67_9, g67_10, g67_12, g67_16, g67_20, g67_153, g67_154, g67_155, g67_156, g67_157, g67_158, g67_159, g67_160, g67_161, g67_162, g67_163, g67_164, g67_165, g67_166, g67_167])
  refine Ow.nilM ⟨nofun, ?_⟩
  show Cw _ _ _ _ _
  refine Cw.gen2 (fun E => E.get 0 = some (.int .i64 (m)) ∧ E.get 1 = some (.int .i64 (n)) ∧ E.get 9 = some (.int .i64 ((w : Nat) : Int)) ∧ E.get 10 = some (u3) ∧ E.get 12 = some (u4) ∧ E.get 16 = some (.int .u64 (((2 ^ w - 1 : Nat) : Int))) ∧ E.get 20 = some (.pointer (some ⟨H55.n, 0, none⟩)) ∧ E.get 153 = some (.slice (some ⟨H29.n, 0, none⟩) 7 7) ∧ E.get 154 = some (.int .i64 ((7 : Nat) : Int)) ∧ E.get 155 = some (.int .i64 ((3 : Nat) : Int)) ∧ E.get 156 = some (.bool true) ∧ E.get 157 = some (.pointer (some ⟨H29.n, 4, none⟩)) ∧ E.get 158 = some (.agg ⟨[.slice (some ⟨i18, 0, none⟩) (ofN (ofI w m).length (val (ofI w m) * val (ofI w n))).length (ofN (ofI w m).length (val (ofI w m) * val (ofI w n))).length, .int .i64 (fwrap .i64 (m * n))]⟩) ∧ E.get 159 = some (.pointer (some ⟨H55.n, 0, none⟩)) ∧ E.get 160 = some (.slice (some ⟨i18, 0, none⟩) (ofN (ofI w m).length (val (ofI w m) * val (ofI w n))).length (ofN (ofI w m).length (val (ofI w m) * val (ofI w n))).length) ∧ E.get 161 = some (.pointer (some ⟨H55.n, 1, none⟩)) ∧ E.get 162 = some (.int .i64 (fwrap .i64 (m * n))) ∧ E.get 163 = some (.int .i64 ((w : Nat) : Int)) ∧ E.get 164 = some (v74) ∧ E.get 165 = some (.bool true) ∧ E.get 166 = some (.bool false) ∧ E.get 167 = some (.int .i64 ((3 : Nat) : Int))) ⟨(by simp only [S0, Nat.reduceEqDiff, Nat.reduceAdd, reduceIte, reduceCtorEq, S1, and_self, g67_0, g67_1, g67_9, g67_10, g67_12, g67_16, g67_20, g67_153, g67_154, g67_155, g67_156, g67_157, g67_158, g67_159, g67_160, g67_161, g67_162, g67_163, g67_164, g67_165, g67_166, g67_167]), (by simp only [S0, Nat.reduceEqDiff, Nat.reduceAdd, reduceIte, reduceCtorEq, S1, and_self, g67_0, g67_1, g67_9, g67_10, g67_12, g67_16, g67_20, g67_153, g67_154, g67_155, g67_156, g67_157, g67_158, g67_159, g67_160, g67_161, g67_162, g67_163, g67_164, g67_165, g67_166, g67_167]), (by simp only [S0, Nat.reduceEqDiff, Nat.reduceAdd, reduceIte, reduceCtorEq, S1, and_self, g67_0, g67_1, g67_9, g67_10, g67_12, g67_16, g67_20, g67_153, g67_154, g67_155, g67_156, g67_157, g67_158, g67_159, g67_160, g67_161, g67_162, g67_163, g67_164, g67_165, g67_166, g67_167]), (by simp only [S0, Nat.reduceEqDiff, Nat.reduceAdd, reduceIte, reduceCtorEq, S1, and_self, g67_0, g67_1, g67_9, g67_10, g67_12, g67_16, g67_20, g67_153, g67_154, g67_155, g67_156, g67_157, g67_158, g67_159, g67_160, g67_161, g67_162, g67_163, g67_164, g67_165, g67_166, g67_167]), (by simp only [S0, Nat.reduceEqDiff, Nat.reduceAdd, reduceIte, reduceCtorEq, S1, and_self, g67_0, g67_1, g67_9, g67_10, g67_12, g67_16, g67_20, g67_153, g67_154, g67_155, g67_156, g67_157, g67_158, g67_159, g67_160, g67_161, g67_162, g67_163, g67_164, g67_165, g67_166, g67_167]), (by simp only [S0, Nat.reduceEqDiff, Nat.reduceAdd, reduceIte, reduceCtorEq, S1, and_self, g67_0, g67_1, g67_9, g67_10, g67_12, g67_16, g67_20, g67_153, g67_154, g67_155, g67_156, g67_157, g67_158, g67_159, g67_160, g67_161, g67_162, g67_163, g67_164, g67_165, g67_166, g67_167]), (by simp only [S0, Nat.reduceEqDiff, Nat.reduceAdd, reduceIte, reduceCtorEq, S1, and_self, g67_0, g67_1, g67_9, g67_10, g67_12, g67_16, g67_20, g67_153, g67_154, g67_155, g67_156, g67_157, g67_158, g67_159, g67_160, g67_161, g67_162, g67_163, g67_164, g67_165, g67_166, g67_167]), (by simp only [S0, Nat.reduceEqDiff, Nat.reduceAdd, reduceIte, reduceCtorEq, S1, and_self, g67_0, g67_1, g67_9, g67_10, g67_12, g67_16, g67_20, g67_153, g67_154, g67_155, g67_156, g67_157, g67_158, g67_159, g67_160, g67_161, g67_162, g67_163, g67_164, g67_165, g67_166, g67_167]), (by simp only [S0, Nat.reduceEqDiff, Nat.reduceAdd, reduceIte, reduceCtorEq, S1, and_self, g67_0, g67_1, g67_9, g67_10, g67_12, g67_16, g67_20, g67_153, g67_154, g67_155, g67_156, g67_157, g67_158, g67_159, g67_160, g67_161, g67_162, g67_163, g67_164, g67_165, g67_166, g67_167]), (by simp only [S0, Nat.reduceEqDiff, Nat.reduceAdd, reduceIte, reduceCtorEq, S1, and_self, g67_0, g67_1, g67_9, g67_10, g67_12, g67_16, g67_20, g67_153, g67_154, g67_155, g67_156, g67_157, g67_158, g67_159, g67_160, g67_161, g67_162, g67_163, g67_164, g67_165, g67_166, g67_167]), (by simp only [S0, Nat.reduceEqDiff, Nat.reduceAdd, reduceIte, reduceCtorEq, S1, and_self, g67_0, g67_1, g67_9, g67_10, g67_12, g67_16, g67_20, g67_153, g67_154, g67_155, g67_156, g67_157, g67_158, g67_159, g67_160, g67_161, g67_162, g67_163, g67_164, g67_165, g67_166, g67_167]), (by simp only [S0, Nat.reduceEqDiff, Nat.reduceAdd, reduceIte, reduceCtorEq, S1, and_self, g67_0, g67_1, g67_9, g67_10, g67_12, g67_16, g67_20, g67_153, g67_154, g67_155, g67_156, g67_157, g67_158, g67_159, g67_160, g67_161, g67_162, g67_163, g67_164, g67_165, g67_166, g67_167]), (by simp only [S0, Nat.reduceEqDiff, Nat.reduceAdd, reduceIte, reduceCtorEq, S1, and_self, g67_0, g67_1, g67_9, g67_10, g67_12, g67_16, g67_20, g67_153, g67_154, g67_155, g67_156, g67_157, g67_158, g67_159, g67_160, g67_161, g67_162, g67_163, g67_164, g67_165, g67_166, g67_167]), (by simp only [S0, Nat.reduceEqDiff, Nat.reduceAdd, reduceIte, reduceCtorEq, S1, and_self, g67_0, g67_1, g67_9, g67_10, g67_12, g67_16, g67_20, g67_153, g67_154, g67_155, g67_156, g67_157, g67_158, g67_159, g67_160, g67_161, g67_162, g67_163, g67_164, g67_165, g67_166, g67_167]), (by simp only [S0, Nat.reduceEqDiff, Nat.reduceAdd, reduceIte, reduceCtorEq, S1, and_self, g67_0, g67_1, g67_9, g67_10, g67_12, g67_16, g67_20, g67_153, g67_154, g67_155, g67_156, g67_157, g67_158, g67_159, g67_160, g67_161, g67_162, g67_163, g67_164, g67_165, g67_166, g67_167]), (by simp only [S0, Nat.reduceEqDiff, Nat.reduceAdd, reduceIte, reduceCtorEq, S1, and_self, g67_0, g67_1, g67_9, g67_10, g67_12, g67_16, g67_20, g67_153, g67_154, g67_155, g67_156, g67_157, g67_158, g67_159, g67_160, g67_161, g67_162, g67_163, g67_164, g67_165, g67_166, g67_167]), (by simp only [S0, Nat.reduceEqDiff, Nat.reduceAdd, reduceIte, reduceCtorEq, S1, and_self, g67_0, g67_1, g67_9, g67_10, g67_12, g67_16, g67_20, g67_153, g67_154, g67_155, g67_156, g67_157, g67_158, g67_159, g67_160, g67_161, g67_162, g67_163, g67_164, g67_165, g67_166, g67_167]), (by simp only [S0, Nat.reduceEqDiff, Nat.reduceAdd, reduceIte, reduceCtorEq, S1, and_self, g67_0, g67_1, g67_9, g67_10, g67_12, g67_16, g67_20, g67_153, g67_154, g67_155, g67_156, g67_157, g67_158, g67_159, g67_160, g67_161, g67_162, g67_163, g67_164, g67_165, g67_166, g67_167]), (by simp only [S0, Nat.reduceEqDiff, Nat.reduceAdd, reduceIte, reduceCtorEq, S1, and_self, g67_0, g67_1, g67_9, g67_10, g67_12, g67_16, g67_20, g67_153, g67_154, g67_155, g67_156, g67_157, g67_158, g67_159, g67_160, g67_161, g67_162, g67_163, g67_164, g67_165, g67_166, g67_167]), (by simp only [S0, Nat.reduceEqDiff, Nat.reduceAdd, reduceIte, reduceCtorEq, S1, and_self, g67_0, g67_1, g67_9, g67_10, g67_12, g67_16, g67_20, g67_153, g67_154, g67_155, g67_156, g67_157, g67_158, g67_159, g67_160, g67_161, g67_162, g67_163, g67_164, g67_165, g67_166, g67_167]), (by simp only [S0, Nat.reduceEqDiff, Nat.reduceAdd, reduceIte, reduceCtorEq, S1, and_self, g67_0, g67_1, g67_9, g67_10, g67_12, g67_16, g67_20, g67_153, g67_154, g67_155, g67_156, g67_157, g67_158, g67_159, g67_160, g67_161, g67_162, g67_163, g67_164, g67_165, g67_166, g67_167]), (by simp only [S0, Nat.reduceEqDiff, Nat.reduceAdd, reduceIte, reduceCtorEq, S1, and_self, g67_0, g67_1, g67_9, g67_10, g67_12, g67_16, g67_20, g67_153, g67_154, g67_155, g67_156, g67_157, g67_158, g67_159, g67_160, g67_161, g67_162, g67_163, g67_164, g67_165, g67_166, g67_167])⟩ ?_
  rintro E89 ⟨g89_0, g89_1, g89_9, g89_10, g89_12, g89_16, g89_20, g89_153, g89_154, g89_155, g89_156, g89_157, g89_158, g89_159, g89_160, g89_161, g89_162, g89_163, g89_164, g89_165, g89_166, g89_167⟩
  refine Cw.loop ?_
  refine Cw.seq ?_
  refine Cw.region ?_
  (refine Ow.popM rfl ?_; simp only [S0, Nat.reduceEqDiff, Nat.reduceAdd, reduceIte, reduceCtorEq, S1, show decide ((((3 : Nat) : Int) : Int) < (((7 : Nat) : Int) : Int)) = decide (3 < 7) from lt_dec (3) (7), show decide (3 < 7) = true from decide_eq_true (by decide), g89_0, g89_1, g89_9, g89_10, g89_12, g89_16, g89_20, g89_153, g89_154, g89_155, g89_156, g89_157, g89_158, g89_159, g89_160, g89_161, g89_162, g89_163, g89_164, g89_165, g89_166, g89_167])
  refine Ow.nilM ⟨nofun, ?_⟩
  show Cw _ _ _ _ _
  refine Cw.seq ?_
  refine Cw.cond (t := true) (by simp only [S0, Nat.reduceEqDiff, Nat.reduceAdd, reduceIte, reduceCtorEq, S1, g89_0, g89_1, g89_9, g89_10, g89_12, g89_16, g89_20, g89_153, g89_154, g89_155, g89_156, g89_157, g89_158, g89_159, g89_160, g89_161, g89_162, g89_163, g89_164, g89_165, g89_166, g89_167]) ?_
  refine Cw.skip ?_
  show Cw _ _ _ _ _
  refine Cw.seq ?_
  refine Cw.block ?_
  refine Cw.seq ?_
  refine Cw.region ?_
  (refine Ow.popM rfl ?_; simp only [S0, Nat.reduceEqDiff, Nat.reduceAdd, reduceIte, reduceCtorEq, S1, show ((0 : Int) ≤ ((3 : Nat) : Int) ∧ ((3 : Nat) : Int) < ((7 : Nat) : Int)) = True from eq_true (by decide), Nat.reduceMul, show Int.toNat ((3 : Nat) : Int) = 3 from rfl, g89_0, g89_1, g89_9, g89_10, g89_12, g89_16, g89_20, g89_153, g89_154, g89_155, g89_156, g89_157, g89_158, g89_159, g89_160, g89_161, g89_162, g89_163, g89_164, g89_165, g89_166, g89_167])
  have hb31_90 := hb31_70.ext hx73
  have hb31_91 := hb31_90.ext hx74
  have hb31_92 := hb31_91.ext hx75
  refine Ow.ldB (off := 6) (v := .agg ⟨[.slice (some ⟨i22, 0, none⟩) (ofN (ofI w m).length (2 ^ (ofI w m).length - val (ofI w m) % 2 ^ (ofI w m).length)).length (ofN (ofI w m).length (2 ^ (ofI w m).length - val (ofI w m) % 2 ^ (ofI w m).length)).length, .int .i64 (fwrap .i64 (0 - m))]⟩) rfl (by simp only [S0, Nat.reduceEqDiff, Nat.reduceAdd, reduceIte, reduceCtorEq, S1, g89_0, g89_1, g89_9, g89_10, g89_12, g89_16, g89_20, g89_153, g89_154, g89_155, g89_156, g89_157, g89_158, g89_159, g89_160, g89_161, g89_162, g89_163, g89_164, g89_165, g89_166, g89_167]) hb31_92 rfl ?_
  refine Ow.newB rfl ?_
  have ne94 : H75.n ≠ H29.n := Nat.ne_of_gt hb31_92.1
  intro H93 hx93 hl93 bx93
  refine Ow.stB (H0 := H75) (off := 0) (v := .agg ⟨[.slice (some ⟨i22, 0, none⟩) (ofN (ofI w m).length (2 ^ (ofI w m).length - val (ofI w m) % 2 ^ (ofI w m).length)).length (ofN (ofI w m).length (2 ^ (ofI w m).length - val (ofI w m) % 2 ^ (ofI w m).length)).length, .int .i64 (fwrap .i64 (0 - m))]⟩) (vs' := [.slice (some ⟨i22, 0, none⟩) (ofN (ofI w m).length (2 ^ (ofI w m).length - val (ofI w m) % 2 ^ (ofI w m).length)).length (ofN (ofI w m).length (2 ^ (ofI w m).length - val (ofI w m) % 2 ^ (ofI w m).length)).length, .int .i64 (fwrap .i64 (0 - m))]) rfl (by simp only [S0, Nat.reduceEqDiff, Nat.reduceAdd, reduceIte, reduceCtorEq, S1, g89_0, g89_1, g89_9, g89_10, g89_12, g89_16, g89_20, g89_153, g89_154, g89_155, g89_156, g89_157, g89_158, g89_159, g89_160, g89_161, g89_162, g89_163, g89_164, g89_165, g89_166, g89_167]) (by simp only [S0, Nat.reduceEqDiff, Nat.reduceAdd, reduceIte, reduceCtorEq, S1, g89_0, g89_1, g89_9, g89_10, g89_12, g89_16, g89_20, g89_153, g89_154, g89_155, g89_156, g89_157, g89_158, g89_159, g89_160, g89_161, g89_162, g89_163, g89_164, g89_165, g89_166, g89_167]) bx93 rfl rfl hx93 (Nat.le_refl _) ?_
  intro H95 hx95 hn95 hk95 bx93_95
  refine Ow.nilM ⟨nofun, ?_⟩
  show Cw _ _ _ _ _
  refine Cw.seq ?_
  refine Cw.region ?_
  (refine Ow.popM rfl ?_; simp only [S0, Nat.reduceEqDiff, Nat.reduceAdd, reduceIte, reduceCtorEq, S1, g89_0, g89_1, g89_9, g89_10, g89_12, g89_16, g89_20, g89_153, g89_154, g89_155, g89_156, g89_157, g89_158, g89_159, g89_160, g89_161, g89_162, g89_163, g89_164, g89_165, g89_166, g89_167])
  refine Ow.ldB (off := 0) (v := .slice (some ⟨i22, 0, none⟩) (ofN (ofI w m).length (2 ^ (ofI w m).length - val (ofI w m) % 2 ^ (ofI w m).length)).length (ofN (ofI w m).length (2 ^ (ofI w m).length - val (ofI w m) % 2 ^ (ofI w m).length)).length) rfl (by simp only [S0, Nat.reduceEqDiff, Nat.reduceAdd, reduceIte, reduceCtorEq, S1, g89_0, g89_1, g89_9, g89_10, g89_12, g89_16, g89_20, g89_153, g89_154, g89_155, g89_156, g89_157, g89_158, g89_159, g89_160, g89_161, g89_162, g89_163, g89_164, g89_165, g89_166, g89_167]) bx93_95 rfl ?_
  (refine Ow.popM rfl ?_; simp only [S0, Nat.reduceEqDiff, Nat.reduceAdd, reduceIte, reduceCtorEq, S1, g89_0, g89_1, g89_9, g89_10, g89_12, g89_16, g89_20, g89_153, g89_154, g89_155, g89_156, g89_157, g89_158, g89_159, g89_160, g89_161, g89_162, g89_163, g89_164, g89_165, g89_166, g89_167])
  refine Ow.ldB (off := 1) (v := .int .i64 (fwrap .i64 (0 - m))) rfl (by simp only [S0, Nat.reduceEqDiff, Nat.reduceAdd, reduceIte, reduceCtorEq, S1, g89_0, g89_1, g89_9, g89_10, g89_12, g89_16, g89_20, g89_153, g89_154, g89_155, g89_156, g89_157, g89_158, g89_159, g89_160, g89_161, g89_162, g89_163, g89_164, g89_165, g89_166, g89_167]) bx93_95 rfl ?_
  (refine Ow.popM rfl ?_; simp only [S0, Nat.reduceEqDiff, Nat.reduceAdd, reduceIte, reduceCtorEq, S1, g89_0, g89_1, g89_9, g89_10, g89_12, g89_16, g89_20, g89_153, g89_154, g89_155, g89_156, g89_157, g89_158, g89_159, g89_160, g89_161, g89_162, g89_163, g89_164, g89_165, g89_166, g89_167])
  refine Ow.callA (k := 29) (fs := []) (cs := []) (vs := [.int .i64 (fwrap .i64 (0 - m)), .int .i64 ((w : Nat) : Int)]) rfl rfl (by simp only [S0, Nat.reduceEqDiff, Nat.reduceAdd, reduceIte, reduceCtorEq, S1, g89_0, g89_1, g89_9, g89_10, g89_12, g89_16, g89_20, g89_153, g89_154, g89_155, g89_156, g89_157, g89_158, g89_159, g89_160, g89_161, g89_162, g89_163, g89_164, g89_165, g89_166, g89_167]) (of_any ext0_ok (by omega)) (fun _ _ _ h => h) ?_
  rintro v96 H96 hx96 m96
  have m22_98 := m22.ext hx24
  have m22_99 := m22_98.ext hx26
  have m22_100 := m22_99.ext hx29
  have m22_101 := m22_100.ext hx31
  have m22_102 := m22_101.ext hx35
  have m22_103 := m22_102.ext hx36
  have m22_104 := m22_103.ext hx37
  have m22_105 := m22_104.ext hx53
  have m22_106 := m22_105.ext hx54
  have m22_107 := m22_106.ext hx55
  have m22_108 := m22_107.ext hx73
  have m22_109 := m22_108.ext hx74
  have m22_110 := m22_109.ext hx75
  have m22_111 := m22_110.ext hx95
  have m22_112 := m22_111.ext hx96
  refine Ow.callPA (k := 20) (fs := []) (cs := []) (vs := [.slice (some ⟨i22, 0, none⟩) (ofN (ofI w m).length (2 ^ (ofI w m).length - val (ofI w m) % 2 ^ (ofI w m).length)).length (ofN (ofI w m).length (2 ^ (ofI w m).length - val (ofI w m) % 2 ^ (ofI w m).length)).length, v96]) rfl rfl (by simp only [S0, Nat.reduceEqDiff, Nat.reduceAdd, reduceIte, reduceCtorEq, S1, g89_0, g89_1, g89_9, g89_10, g89_12, g89_16, g89_20, g89_153, g89_154, g89_155, g89_156, g89_157, g89_158, g89_159, g89_160, g89_161, g89_162, g89_163, g89_164, g89_165, g89_166, g89_167]) (same_T ext0_ok m22_112.isB.wl m96.isR.isB.wl (by first | omega | (simp only [SL]; omega)) (by rw [ofI_length]; exact w_neg h2w)) ?_
  intro H97 hx97
  (refine Ow.popM rfl ?_; simp only [S0, Nat.reduceEqDiff, Nat.reduceAdd, reduceIte, reduceCtorEq, S1, g89_0, g89_1, g89_9, g89_10, g89_12, g89_16, g89_20, g89_153, g89_154, g89_155, g89_156, g89_157, g89_158, g89_159, g89_160, g89_161, g89_162, g89_163, g89_164, g89_165, g89_166, g89_167])
  refine Ow.nilM ⟨fun _ => by rfl, ?_⟩
  show Cw _ _ _ _ _
  refine Cw.cond (t := false) (by simp only [S0, Nat.reduceEqDiff, Nat.reduceAdd, reduceIte, reduceCtorEq, S1, g89_0, g89_1, g89_9, g89_10, g89_12, g89_16, g89_20, g89_153, g89_154, g89_155, g89_156, g89_157, g89_158, g89_159, g89_160, g89_161, g89_162, g89_163, g89_164, g89_165, g89_166, g89_167]) ?_
  refine Cw.skip ?_
  show Cw _ _ _ _ _
  refine Cw.region ?_
  iterate 2 (refine Ow.popM rfl ?_; simp only [S0, Nat.reduceEqDiff, Nat.reduceAdd, reduceIte, reduceCtorEq, S1, show fwrap .i64 ((((3 : Nat) : Int) : Int) + (1 : Int)) = ((4 : Nat) : Int) from rfl, g89_0, g89_1, g89_9, g89_10, g89_12, g89_16, g89_20, g89_153, g89_154, g89_155, g89_156, g89_157, g89_158, g89_159, g89_160, g89_161, g89_162, g89_163, g89_164, g89_165, g89_166, g89_167])
  refine Ow.nilM ⟨nofun, ?_⟩
  show Cw _ _ _ _ _
  refine Cw.gen2 (fun E => E.get 0 = some (.int .i64 (m)) ∧ E.get 1 = some (.int .i64 (n)) ∧ E.get 9 = some (.int .i64 ((w : Nat) : Int)) ∧ E.get 10 = some (u3) ∧ E.get 12 = some (u4) ∧ E.get 16 = some (.int .u64 (((2 ^ w - 1 : Nat) : Int))) ∧ E.get 20 = some (.pointer (some ⟨H75.n, 0, none⟩)) ∧ E.get 153 = some (.slice (some ⟨H29.n, 0, none⟩) 7 7) ∧ E.get 154 = some (.int .i64 ((7 : Nat) : Int)) ∧ E.get 155 = some (.int .i64 ((4 : Nat) : Int)) ∧ E.get 156 = some (.bool true) ∧ E.get 157 = some (.pointer (some ⟨H29.n, 6, none⟩)) ∧ E.get 158 = some (.agg ⟨[.slice (some ⟨i22, 0, none⟩) (ofN (ofI w m).length (2 ^ (ofI w m).length - val (ofI w m) % 2 ^ (ofI w m).length)).length (ofN (ofI w m).length (2 ^ (ofI w m).length - val (ofI w m) % 2 ^ (ofI w m).length)).length, .int .i64 (fwrap .i64 (0 - m))]⟩) ∧ E.get 159 = some (.pointer (some ⟨H75.n, 0, none⟩)) ∧ E.get 160 = some (.slice (some ⟨i22, 0, none⟩) (ofN (ofI w m).length (2 ^ (ofI w m).length - val (ofI w m) % 2 ^ (ofI w m).length)).length (ofN (ofI w m).length (2 ^ (ofI w m).length - val (ofI w m) % 2 ^ (ofI w m).length)).length) ∧ E.get 161 = some (.pointer (some ⟨H75.n, 1, none⟩)) ∧ E.get 162 = some (.int .i64 (fwrap .i64 (0 - m))) ∧ E.get 163 = some (.int .i64 ((w : Nat) : Int)) ∧ E.get 164 = some (v96) ∧ E.get 165 = some (.bool true) ∧ E.get 166 = some (.bool false) ∧ E.get 167 = some (.int .i64 ((4 : Nat) : Int))) ⟨(by simp only [S0, Nat.reduceEqDiff, Nat.reduceAdd, reduceIte, reduceCtorEq, S1, and_self, g89_0, g89_1, g89_9, g89_10, g89_12, g89_16, g89_20, g89_153, g89_154, g89_155, g89_156, g89_157, g89_158, g89_159, g89_160, g89_161, g89_162, g89_163, g89_164, g89_165, g89_166, g89_167]), (by simp only [S0, Nat.reduceEqDiff, Nat.reduceAdd, reduceIte, reduceCtorEq, S1, and_self, g89_0, g89_1, g89_9, g89_10, g89_12, g89_16, g89_20, g89_153, g89_154, g89_155, g89_156, g89_157, g89_158, g89_159, g89_160, g89_161, g89_162, g89_163, g89_164, g89_165, g89_166, g89_167]), (by simp only [S0, Nat.reduceEqDiff, Nat.reduceAdd, reduceIte, reduceCtorEq, S1, and_self, g89_0, g89_1, g89_9, g89_10, g89_12, g89_16, g89_20, g89_153, g89_154, g89_155, g89_156, g89_157, g89_158, g89_159, g89_160, g89_161, g89_162, g89_163, g89_164, g89_165, g89_166, g89_167]), (by simp only [S0, Nat.reduceEqDiff, Nat.reduceAdd, reduceIte, reduceCtorEq, S1, and_self, g89_0, g89_1, g89_9, g89_10, g89_12, g89_16, g89_20, g89_153, g89_154, g89_155, g89_156, g89_157, g89_158, g89_159, g89_160, g89_161, g89_162, g89_163, g89_164, g89_165, g89_166, g89_167]), (by simp only [S0, Nat.reduceEqDiff, Nat.reduceAdd, reduceIte, reduceCtorEq, S1, and_self, g89_0, g89_1, g89_9, g89_10, g89_12, g89_16, g89_20, g89_153, g89_154, g89_155, g89_156, g89_157, g89_158, g89_159, g89_160, g89_161, g89_162, g89_163, g89_164, g89_165, g89_166, g89_167]), (by simp only [S0, Nat.reduceEqDiff, Nat.reduceAdd, reduceIte, reduceCtorEq, S1, and_self, g89_0, g89_1, g89_9, g89_10, g89_12, g89_16, g89_20, g89_153, g89_154, g89_155, g89_156, g89_157, g89_158, g89_159, g89_160, g89_161, g89_162, g89_163, g89_164, g89_165, g89_166, g89_167]), (by simp only [S0, Nat.reduceEqDiff, Nat.reduceAdd, reduceIte, reduceCtorEq, S1, and_self, g89_0, g89_1, g89_9, g89_10, g89_12, g89_16, g89_20, g89_153, g89_154, g89_155, g89_156, g89_157, g89_158, g89_159, g89_160, g89_161, g89_162, g89_163, g89_164, g89_165, g89_166, g89_167]), (by simp only [S0, Nat.reduceEqDiff, Nat.reduceAdd, reduceIte, reduceCtorEq, S1, and_self, g89_0, g89_1, g89_9, g89_10, g89_12, g89_16, g89_20, g89_153, g89_154, g89_155, g89_156, g89_157, g89_158, g89_159, g89_160, g89_161, g89_162, g89_163, g89_164, g89_165, g89_166, g89_167]), (by simp only [S0, Nat.reduceEqDiff, Nat.reduceAdd, reduceIte, reduceCtorEq, S1, and_self, g89_0, g89_1, g89_9, g89_10, g89_12, g89_16, g89_20, g89_153, g89_154, g89_155, g89_156, g89_157, g89_158, g89_159, g89_160, g89_161, g89_162, g89_163, g89_164, g89_165, g89_166, g89_167]), (by simp only [S0, Nat.reduceEqDiff, Nat.reduceAdd, reduceIte, reduceCtorEq, S1, and_self, g89_0, g89_1, g89_9, g89_10, g89_12, g89_16, g89_20, g89_153, g89_154, g89_155, g89_156, g89_157, g89_158, g89_159, g89_160, g89_161, g89_162, g89_163, g89_164, g89_165, g89_166, g89_167]), (by simp only [S0, Nat.reduceEqDiff, Nat.reduceAdd, reduceIte, reduceCtorEq, S1, and_self, g89_0, g89_1, g89_9, g89_10, g89_12, g89_16, g89_20, g89_153, g89_154, g89_155, g89_156, g89_157, g89_158, g89_159, g89_160, g89_161, g89_162, g89_163, g89_164, g89_165, g89_166, g89_167]), (by simp only [S0, Nat.reduceEqDiff, Nat.reduceAdd, reduceIte, reduceCtorEq, S1, and_self, g89_0, g89_1, g89_9, g89_10, g89_12, g89_16, g89_20, g89_153, g89_154, g89_155, g89_156, g89_157, g89_158, g89_159, g89_160, g89_161, g89_162, g89_163, g89_164, g89_165, g89_166, g89_167]), (by simp only [S0, Nat.reduceEqDiff, Nat.reduceAdd, reduceIte, reduceCtorEq, S1, and_self, g89_0, g89_1, g89_9, g89_10, g89_12, g89_16, g89_20, g89_153, g89_154, g89_155, g89_156, g89_157, g89_158, g89_159, g89_160, g89_161, g89_162, g89_163, g89_164, g89_165, g89_166, g89_167]), (by simp only [S0, Nat.reduceEqDiff, Nat.reduceAdd, reduceIte, reduceCtorEq, S1, and_self, g89_0, g89_1, g89_9, g89_10, g89_12, g89_16, g89_20, g89_153, g89_154, g89_155, g89_156, g89_157, g89_158, g89_159, g89_160, g89_161, g89_162, g89_163, g89_164, g89_165, g89_166, g89_167]), (by simp only [S0, Nat.reduceEqDiff, Nat.reduceAdd, reduceIte, reduceCtorEq, S1, and_self, g89_0, g89_1, g89_9, g89_10, g89_12, g89_16, g89_20, g89_153, g89_154, g89_155, g89_156, g89_157, g89_158, g89_159, g89_160, g89_161, g89_162, g89_163, g89_164, g89_165, g89_166, g89_167]), (by simp only [S0, Nat.reduceEqDiff, Nat.reduceAdd, reduceIte, reduceCtorEq, S1, and_self, g89_0, g89_1, g89_9, g89_10, g89_12, g89_16, g89_20, g89_153, g89_154, g89_155, g89_156, g89_157, g89_158, g89_159, g89_160, g89_161, g89_162, g89_163, g89_164, g89_165, g89_166, g89_167]), (by simp only [S0, Nat.reduceEqDiff, Nat.reduceAdd, reduceIte, reduceCtorEq, S1, and_self, g89_0, g89_1, g89_9, g89_10, g89_12, g89_16, g89_20, g89_153, g89_154, g89_155, g89_156, g89_157, g89_158, g89_159, g89_160, g89_161, g89_162, g89_163, g89_164, g89_165, g89_166, g89_167]), (by simp only [S0, Nat.reduceEqDiff, Nat.reduceAdd, reduceIte, reduceCtorEq, S1, and_self, g89_0, g89_1, g89_9, g89_10, g89_12, g89_16, g89_20, g89_153, g89_154, g89_155, g89_156, g89_157, g89_158, g89_159, g89_160, g89_161, g89_162, g89_163, g89_164, g89_165, g89_166, g89_167]), (by simp only [S0, Nat.reduceEqDiff, Nat.reduceAdd, reduceIte, reduceCtorEq, S1, and_self, g89_0, g89_1, g89_9, g89_10, g89_12, g89_16, g89_20, g89_153, g89_154, g89_155, g89_156, g89_157, g89_158, g89_159, g89_160, g89_161, g89_162, g89_163, g89_164, g89_165, g89_166, g89_167]), (by simp only [S0, Nat.reduceEqDiff, Nat.reduceAdd, reduceIte, reduceCtorEq, S1, and_self, g89_0, g89_1, g89_9, g89_10, g89_12, g89_16, g89_20, g89_153, g89_154, g89_155, g89_156, g89_157, g89_158, g89_159, g89_160, g89_161, g89_162, g89_163, g89_164, g89_165, g89_166, g89_167]), (by simp only [S0, Nat.reduceEqDiff, Nat.reduceAdd, reduceIte, reduceCtorEq, S1, and_self, g89_0, g89_1, g89_9, g89_10, g89_12, g89_16, g89_20, g89_153, g89_154, g89_155, g89_156, g89_157, g89_158, g89_159, g89_160, g89_161, g89_162, g89_163, g89_164, g89_165, g89_166, g89_167]), (by simp only [S0, Nat.reduceEqDiff, Nat.reduceAdd, reduceIte, reduceCtorEq, S1, and_self, g89_0, g89_1, g89_9, g89_10, g89_12, g89_16, g89_20, g89_153, g89_154, g89_155, g89_156, g89_157, g89_158, g89_159, g89_160, g89_161, g89_162, g89_163, g89_164, g89_165, g89_166, g89_167])⟩ ?_
  rintro E113 ⟨g113_0, g113_1, g113_9, g113_10, g113_12, g113_16, g113_20, g113_153, g113_154, g113_155, g113_156, g113_157, g113_158, g113_159, g113_160, g113_161, g113_162, g113_163, g113_164, g113_165, g113_166, g113_167⟩
  refine Cw.loop ?_
  refine Cw.seq ?_
  refine Cw.region ?_
  (refine Ow.popM rfl ?_; simp only [S0, Nat.reduceEqDiff, Nat.reduceAdd, reduceIte, reduceCtorEq, S1, show decide ((((4 : Nat) : Int) : Int) < (((7 : Nat) : Int) : Int)) = decide (4 < 7) from lt_dec (4) (7), show decide (4 < 7) = true from decide_eq_true (by decide), g113_0, g113_1, g113_9, g113_10, g113_12, g113_16, g113_20, g113_153, g113_154, g113_155, g113_156, g113_157, g113_158, g113_159, g113_160, g113_161, g113_162, g113_163, g113_164, g113_165, g113_166, g113_167])
  refine Ow.nilM ⟨nofun, ?_⟩
  show Cw _ _ _ _ _
  refine Cw.seq ?_
  refine Cw.cond (t := true) (by simp only [S0, Nat.reduceEqDiff, Nat.reduceAdd, reduceIte, reduceCtorEq, S1, g113_0, g113_1, g113_9, g113_10, g113_12, g113_16, g113_20, g113_153, g113_154, g113_155, g113_156, g113_157, g113_158, g113_159, g113_160, g113_161, g113_162, g113_163, g113_164, g113_165, g113_166, g113_167]) ?_
  refine Cw.skip ?_
  show Cw _ _ _ _ _
  refine Cw.seq ?_
  refine Cw.block ?_
  refine Cw.seq ?_
  refine Cw.region ?_
  (refine Ow.popM rfl ?_; simp only [S0, Nat.reduceEqDiff, Nat.reduceAdd, reduceIte, reduceCtorEq, S1, show ((0 : Int) ≤ ((4 : Nat) : Int) ∧ ((4 : Nat) : Int) < ((7 : Nat) : Int)) = True from eq_true (by decide), Nat.reduceMul, show Int.toNat ((4 : Nat) : Int) = 4 from rfl, g113_0, g113_1, g113_9, g113_10, g113_12, g113_16, g113_20, g113_153, g113_154, g113_155, g113_156, g113_157, g113_158, g113_159, g113_160, g113_161, g113_162, g113_163, g113_164, g113_165, g113_166, g113_167])
  have hb31_114 := hb31_92.ext hx95
  have hb31_115 := hb31_114.ext hx96
  have hb31_116 := hb31_115.ext hx97
  refine Ow.ldB (off := 8) (v := .agg ⟨[.slice (some ⟨i24, 0, none⟩) (ofN (ofI w m).length (val (ofI w m) * 2 ^ ((sh : Nat) : Int).toNat)).length (ofN (ofI w m).length (val (ofI w m) * 2 ^ ((sh : Nat) : Int).toNat)).length, .int .i64 (IntKind.wrap .i64 (m * 2 ^ min sh 64))]⟩) rfl (by simp only [S0, Nat.reduceEqDiff, Nat.reduceAdd, reduceIte, reduceCtorEq, S1, g113_0, g113_1, g113_9, g113_10, g113_12, g113_16, g113_20, g113_153, g113_154, g113_155, g113_156, g113_157, g113_158, g113_159, g113_160, g113_161, g113_162, g113_163, g113_164, g113_165, g113_166, g113_167]) hb31_116 rfl ?_
  refine Ow.newB rfl ?_
  have ne118 : H97.n ≠ H29.n := Nat.ne_of_gt hb31_116.1
  intro H117 hx117 hl117 bx117
  refine Ow.stB (H0 := H97) (off := 0) (v := .agg ⟨[.slice (some ⟨i24, 0, none⟩) (ofN (ofI w m).length (val (ofI w m) * 2 ^ ((sh : Nat) : Int).toNat)).length (ofN (ofI w m).length (val (ofI w m) * 2 ^ ((sh : Nat) : Int).toNat)).length, .int .i64 (IntKind.wrap .i64 (m * 2 ^ min sh 64))]⟩) (vs' := [.slice (some ⟨i24, 0, none⟩) (ofN (ofI w m).length (val (ofI w m) * 2 ^ ((sh : Nat) : Int).toNat)).length (ofN (ofI w m).length (val (ofI w m) * 2 ^ ((sh : Nat) : Int).toNat)).length, .int .i64 (IntKind.wrap .i64 (m * 2 ^ min sh 64))]) rfl (by simp only [S0, Nat.reduceEqDiff, Nat.reduceAdd, reduceIte, reduceCtorEq, S1, g113_0, g113_1, g113_9, g113_10, g113_12, g113_16, g113_20, g113_153, g113_154, g113_155, g113_156, g113_157, g113_158, g113_159, g113_160, g113_161, g113_162, g113_163, g113_164, g113_165, g113_166, g113_167]) (by simp only [S0, Nat.reduceEqDiff, Nat.reduceAdd, reduceIte, reduceCtorEq, S1, g113_0, g113_1, g113_9, g113_10, g113_12, g113_16, g113_20, g113_153, g113_154, g113_155, g113_156, g113_157, g113_158, g113_159, g113_160, g113_161, g113_162, g113_163, g113_164, g113_165, g113_166, g113_167]) bx117 rfl rfl hx117 (Nat.le_refl _) ?_
  intro H119 hx119 hn119 hk119 bx117_119
  refine Ow.nilM ⟨nofun, ?_⟩
  show Cw _ _ _ _ _
  refine Cw.seq ?_
  refine Cw.region ?_
  (refine Ow.popM rfl ?_; simp only [S0, Nat.reduceEqDiff, Nat.reduceAdd, reduceIte, reduceCtorEq, S1, g113_0, g113_1, g113_9, g113_10, g113_12, g113_16, g113_20, g113_153, g113_154, g113_155, g113_156, g113_157, g113_158, g113_159, g113_160, g113_161, g113_162, g113_163, g113_164, g113_165, g113_166, g113_167])
  refine Ow.ldB (off := 0) (v := .slice (some ⟨i24, 0, none⟩) (ofN (ofI w m).length (val (ofI w m) * 2 ^ ((sh : Nat) : Int).toNat)).length (ofN (ofI w m).length (val (ofI w m) * 2 ^ ((sh : Nat) : Int).toNat)).length) rfl (by simp only [S0, Nat.reduceEqDiff, Nat.reduceAdd, reduceIte, reduceCtorEq, S1, g113_0, g113_1, g113_9, g113_10, g113_12, g113_16, g113_20, g113_153, g113_154, g113_155, g113_156, g113_157, g113_158, g113_159, g113_160, g113_161, g113_162, g113_163, g113_164, g113_165, g113_166, g113_167]) bx117_119 rfl ?_
  (refine Ow.popM rfl ?_; simp only [S0, Nat.reduceEqDiff, Nat.reduceAdd, reduceIte, reduceCtorEq, S1, g113_0, g113_1, g113_9, g113_10, g113_12, g113_16, g113_20, g113_153, g113_154, g113_155, g113_156, g113_157, g113_158, g113_159, g113_160, g113_161, g113_162, g113_163, g113_164, g113_165, g113_166, g113_167])
  refine Ow.ldB (off := 1) (v := .int .i64 (IntKind.wrap .i64 (m * 2 ^ min sh 64))) rfl (by simp only [S0, Nat.reduceEqDiff, Nat.reduceAdd, reduceIte, reduceCtorEq, S1, g113_0, g113_1, g113_9, g113_10, g113_12, g113_16, g113_20, g113_153, g113_154, g113_155, g113_156, g113_157, g113_158, g113_159, g113_160, g113_161, g113_162, g113_163, g113_164, g113_165, g113_166, g113_167]) bx117_119 rfl ?_
  (refine Ow.popM rfl ?_; simp only [S0, Nat.reduceEqDiff, Nat.reduceAdd, reduceIte, reduceCtorEq, S1, g113_0, g113_1, g113_9, g113_10, g113_12, g113_16, g113_20, g113_153, g113_154, g113_155, g113_156, g113_157, g113_158, g113_159, g113_160, g113_161, g113_162, g113_163, g113_164, g113_165, g113_166, g113_167])
  refine Ow.callA (k := 29) (fs := []) (cs := []) (vs := [.int .i64 (IntKind.wrap .i64 (m * 2 ^ min sh 64)), .int .i64 ((w : Nat) : Int)]) rfl rfl (by simp only [S0, Nat.reduceEqDiff, Nat.reduceAdd, reduceIte, reduceCtorEq, S1, g113_0, g113_1, g113_9, g113_10, g113_12, g113_16, g113_20, g113_153, g113_154, g113_155, g113_156, g113_157, g113_158, g113_159, g113_160, g113_161, g113_162, g113_163, g113_164, g113_165, g113_166, g113_167]) (of_any ext0_ok (by omega)) (fun _ _ _ h => h) ?_
  rintro v120 H120 hx120 m120
  have m24_122 := m24.ext hx26
  have m24_123 := m24_122.ext hx29
  have m24_124 := m24_123.ext hx31
  have m24_125 := m24_124.ext hx35
  have m24_126 := m24_125.ext hx36
  have m24_127 := m24_126.ext hx37
  have m24_128 := m24_127.ext hx53
  have m24_129 := m24_128.ext hx54
  have m24_130 := m24_129.ext hx55
  have m24_131 := m24_130.ext hx73
  have m24_132 := m24_131.ext hx74
  have m24_133 := m24_132.ext hx75
  have m24_134 := m24_133.ext hx95
  have m24_135 := m24_134.ext hx96
  have m24_136 := m24_135.ext hx97
  have m24_137 := m24_136.ext hx119
  have m24_138 := m24_137.ext hx120
  refine Ow.callPA (k := 20) (fs := []) (cs := []) (vs := [.slice (some ⟨i24, 0, none⟩) (ofN (ofI w m).length (val (ofI w m) * 2 ^ ((sh : Nat) : Int).toNat)).length (ofN (ofI w m).length (val (ofI w m) * 2 ^ ((sh : Nat) : Int).toNat)).length, v120]) rfl rfl (by simp only [S0, Nat.reduceEqDiff, Nat.reduceAdd, reduceIte, reduceCtorEq, S1, g113_0, g113_1, g113_9, g113_10, g113_12, g113_16, g113_20, g113_153, g113_154, g113_155, g113_156, g113_157, g113_158, g113_159, g113_160, g113_161, g113_162, g113_163, g113_164, g113_165, g113_166, g113_167]) (same_T ext0_ok m24_138.isB.wl m120.isR.isB.wl (by first | omega | (simp only [SL]; omega)) (by rw [ofI_length, Int.toNat_natCast]; exact w_shl h2w sh)) ?_
  intro H121 hx121
  (refine Ow.popM rfl ?_; simp only [S0, Nat.reduceEqDiff, Nat.reduceAdd, reduceIte, reduceCtorEq, S1, g113_0, g113_1, g113_9, g113_10, g113_12, g113_16, g113_20, g113_153, g113_154, g113_155, g113_156, g113_157, g113_158, g113_159, g113_160, g113_161, g113_162, g113_163, g113_164, g113_165, g113_166, g113_167])
  refine Ow.nilM ⟨fun _ => by rfl, ?_⟩
  show Cw _ _ _ _ _
  refine Cw.cond (t := false) (by simp only [S0, Nat.reduceEqDiff, Nat.reduceAdd, reduceIte, reduceCtorEq, S1, g113_0, g113_1, g113_9, g113_10, g113_12, g113_16, g113_20, g113_153, g113_154, g113_155, g113_156, g113_157, g113_158, g113_159, g113_160, g113_161, g113_162, g113_163, g113_164, g113_165, g113_166, g113_167]) ?_
  refine Cw.skip ?_
  show Cw _ _ _ _ _
  refine Cw.region ?_
  iterate 2 (refine Ow.popM rfl ?_; simp only [S0, Nat.reduceEqDiff, Nat.reduceAdd, reduceIte, reduceCtorEq, S1, show fwrap .i64 ((((4 : Nat) : Int) : Int) + (1 : Int)) = ((5 : Nat) : Int) from rfl, g113_0, g113_1, g113_9, g113_10, g113_12, g113_16, g113_20, g113_153, g113_154, g113_155, g113_156, g113_157, g113_158, g113_159, g113_160, g113_161, g113_162, g113_163, g113_164, g113_165, g113_166, g113_167])
  refine Ow.nilM ⟨nofun, ?_⟩
  show Cw _ _ _ _ _
  refine Cw.gen2 (fun E => E.get 0 = some (.int .i64 (m)) ∧ E.get 1 = some (.int .i64 (n)) ∧ E.get 9 = some (.int .i64 ((w : Nat) : Int)) ∧ E.get 10 = some (u3) ∧ E.get 12 = some (u4) ∧ E.get 16 = some (.int .u64 (((2 ^ w - 1 : Nat) : Int))) ∧ E.get 20 = some (.pointer (some ⟨H97.n, 0, none⟩)) ∧ E.get 153 = some (.slice (some ⟨H29.n, 0, none⟩) 7 7) ∧ E.get 154 = some (.int .i64 ((7 : Nat) : Int)) ∧ E.get 155 = some (.int .i64 ((5 : Nat) : Int)) ∧ E.get 156 = some (.bool true) ∧ E.get 157 = some (.pointer (some ⟨H29.n, 8, none⟩)) ∧ E.get 158 = some (.agg ⟨[.slice (some ⟨i24, 0, none⟩) (ofN (ofI w m).length (val (ofI w m) * 2 ^ ((sh : Nat) : Int).toNat)).length (ofN (ofI w m).length (val (ofI w m) * 2 ^ ((sh : Nat) : Int).toNat)).length, .int .i64 (IntKind.wrap .i64 (m * 2 ^ min sh 64))]⟩) ∧ E.get 159 = some (.pointer (some ⟨H97.n, 0, none⟩)) ∧ E.get 160 = some (.slice (some ⟨i24, 0, none⟩) (ofN (ofI w m).length (val (ofI w m) * 2 ^ ((sh : Nat) : Int).toNat)).length (ofN (ofI w m).length (val (ofI w m) * 2 ^ ((sh : Nat) : Int).toNat)).length) ∧ E.get 161 = some (.pointer (some ⟨H97.n, 1, none⟩)) ∧ E.get 162 = some (.int .i64 (IntKind.wrap .i64 (m * 2 ^ min sh 64))) ∧ E.get 163 = some (.int .i64 ((w : Nat) : Int)) ∧ E.get 164 = some (v120) ∧ E.get 165 = some (.bool true) ∧ E.get 166 = some (.bool false) ∧ E.get 167 = some (.int .i64 ((5 : Nat) : Int))) ⟨(by simp only [S0, Nat.reduceEqDiff, Nat.reduceAdd, reduceIte, reduceCtorEq, S1, and_self, g113_0, g113_1, g113_9, g113_10, g113_12, g113_16, g113_20, g113_153, g113_154, g113_155, g113_156, g113_157, g113_158, g113_159, g113_160, g113_161, g113_162, g113_163, g113_164, g113_165, g113_166, g113_167]), (by simp only [S0, Nat.reduceEqDiff, Nat.reduceAdd, reduceIte, reduceCtorEq, S1, and_self, g113_0, g113_1, g113_9, g113_10, g113_12, g113_16, g113_20, g113_153, g113_154, g113_155, g113_156, g113_157, g113_158, g113_159, g113_160, g113_161, g113_162, g113_163, g113_164, g113_165, g113_166, g113_167]), (by simp only [S0, Nat.reduceEqDiff, Nat.reduceAdd, reduceIte, reduceCtorEq, S1, and_self, g113_0, g113_1, g113_9, g113_10, g113_12, g113_16, g113_20, g113_153, g113_154, g113_155, g113_156, g113_157, g113_158, g113_159, g113_160, g113_161, g113_162, g113_163, g113_164, g113_165, g113_166, g113_167]), (by simp only [S0, Nat.reduceEqDiff, Nat.reduceAdd, reduceIte, reduceCtorEq, S1, and_self, g113_0, g113_1, g113_9, g113_10, g113_12, g113_16, g113_20, g113_153, g113_154, g113_155, g113_156, g113_157, g113_158, g113_159, g113_160, g113_161, g113_162, g113_163, g113_164, g113_165, g113_166, g113_167]), (by simp only [S0, Nat.reduceEqDiff, Nat.reduceAdd, reduceIte, reduceCtorEq, S1, and_self, g113_0, g113_1, g113_9, g113_10, g113_12, g113_16, g113_20, g113_153, g113_154, g113_155, g113_156, g113_157, g113_158, g113_159, g113_160, g113_161, g113_162, g113_163, g113_164, g113_165, g113_166, g113_167]), (by simp only [S0, Nat.reduceEqDiff, Nat.reduceAdd, reduceIte, reduceCtorEq, S1, and_self, g113_0, g113_1, g113_9, g113_10, g113_12, g113_16, g113_20, g113_153, g113_154, g113_155, g113_156, g113_157, g113_158, g113_159, g113_160, g113_161, g113_162, g113_163, g113_164, g113_165, g113_166, g113_167]), (by simp only [S0, Nat.reduceEqDiff, Nat.reduceAdd, reduceIte, reduceCtorEq, S1, and_self, g113_0, g113_1, g113_9, g113_10, g113_12, g113_16, g113_20, g113_153, g113_154, g113_155, g113_156, g113_157, g113_158, g113_159, g113_160, g113_161, g113_162, g113_163, g113_164, g113_165, g113_166, g113_167]), (by simp only [S0, Nat.reduceEqDiff, Nat.reduceAdd, reduceIte, reduceCtorEq, S1, and_self, g113_0, g113_1, g113_9, g113_10, g113_12, g113_16, g113_20, g113_153, g113_154, g113_155, g113_156, g113_157, g113_158, g113_159, g113_160, g113_161, g113_162, g113_163, g113_164, g113_165, g113_166, g113_167]), (by simp only [S0, Nat.reduceEqDiff, Nat.reduceAdd, reduceIte, reduceCtorEq, S1, and_self, g113_0, g113_1, g113_9, g113_10, g113_12, g113_16, g113_20, g113_153, g113_154, g113_155, g113_156, g113_157, g113_158, g113_159, g113_160, g113_161, g113_162, g113_163, g113_164, g113_165, g113_166, g113_167]), (by simp only [S0, Nat.reduceEqDiff, Nat.reduceAdd, reduceIte, reduceCtorEq, S1, and_self, g113_0, g113_1, g113_9, g113_10, g113_12, g113_16, g113_20, g113_153, g113_154, g113_155, g113_156, g113_157, g113_158, g113_159, g113_160, g113_161, g113_162, g113_163, g113_164, g113_165, g113_166, g113_167]), (by simp only [S0, Nat.reduceEqDiff, Nat.reduceAdd, reduceIte, reduceCtorEq, S1, and_self, g113_0, g113_1, g113_9, g113_10, g113_12, g113_16, g113_20, g113_153, g113_154, g113_155, g113_156, g113_157, g113_158, g113_159, g113_160, g113_161, g113_162, g113_163, g113_164, g113_165, g113_166, g113_167]), (by simp only [S0, Nat.reduceEqDiff, Nat.reduceAdd, reduceIte, reduceCtorEq, S1, and_self, g113_0, g113_1, g113_9, g113_10, g113_12, g113_16, g113_20, g113_153, g113_154, g113_155, g113_156, g113_157, g113_158, g113_159, g113_160, g113_161, g113_162, g113_163, g113_164, g113_165, g113_166, g113_167]), (by simp only [S0, Nat.reduceEqDiff, Nat.reduceAdd, reduceIte, reduceCtorEq, S1, and_self, g113_0, g113_1, g113_9, g113_10, g113_12, g113_16, g113_20, g113_153, g113_154, g113_155, g113_156, g113_157, g113_158, g113_159, g113_160, g113_161, g113_162, g113_163, g113_164, g113_165, g113_166, g113_167]), (by simp only [S0, Nat.reduceEqDiff, Nat.reduceAdd, reduceIte, reduceCtorEq, S1, and_self, g113_0, g113_1, g113_9, g113_10, g113_12, g113_16, g113_20, g113_153, g113_154, g113_155, g113_156, g113_157, g113_158, g113_159, g113_160, g113_161, g113_162, g113_163, g113_164, g113_165, g113_166, g113_167]), (by simp only [S0, Nat.reduceEqDiff, Nat.reduceAdd, reduceIte, reduceCtorEq, S1, and_self, g113_0, g113_1, g113_9, g113_10, g113_12, g113_16, g113_20, g113_153, g113_154, g113_155, g113_156, g113_157, g113_158, g113_159, g113_160, g113_161, g113_162, g113_163, g113_164, g113_165, g113_166, g113_167]), (by simp only [S0, Nat.reduceEqDiff, Nat.reduceAdd, reduceIte, reduceCtorEq, S1, and_self, g113_0, g113_1, g113_9, g113_10, g113_12, g113_16, g113_20, g113_153, g113_154, g113_155, g113_156, g113_157, g113_158, g113_159, g113_160, g113_161, g113_162, g113_163, g113_164, g113_165, g113_166, g113_167]), (by simp only [S0, Nat.reduceEqDiff, Nat.reduceAdd, reduceIte, reduceCtorEq, S1, and_self, g113_0, g113_1, g113_9, g113_10, g113_12, g113_16, g113_20, g113_153, g113_154, g113_155, g113_156, g113_157, g113_158, g113_159, g113_160, g113_161, g113_162, g113_163, g113_164, g113_165, g113_166, g113_167]), (by simp only [S0, Nat.reduceEqDiff, Nat.reduceAdd, reduceIte, reduceCtorEq, S1, and_self, g113_0, g113_1, g113_9, g113_10, g113_12, g113_16, g113_20, g113_153, g113_154, g113_155, g113_156, g113_157, g113_158, g113_159, g113_160, g113_161, g113_162, g113_163, g113_164, g113_165, g113_166, g113_167]), (by simp only [S0, Nat.reduceEqDiff, Nat.reduceAdd, reduceIte, reduceCtorEq, S1, and_self, g113_0, g113_1, g113_9, g113_10, g113_12, g113_16, g113_20, g113_153, g113_154, g113_155, g113_156, g113_157, g113_158, g113_159, g113_160, g113_161, g113_162, g113_163, g113_164, g113_165, g113_166, g113_167]), (by simp only [S0, Nat.reduceEqDiff, Nat.reduceAdd, reduceIte, reduceCtorEq, S1, and_self, g113_0, g113_1, g113_9, g113_10, g113_12, g113_16, g113_20, g113_153, g113_154, g113_155, g113_156, g113_157, g113_158, g113_159, g113_160, g113_161, g113_162, g113_163, g113_164, g113_165, g113_166, g113_167]), (by simp only [S0, Nat.reduceEqDiff, Nat.reduceAdd, reduceIte, reduceCtorEq, S1, and_self, g113_0, g113_1, g113_9, g113_10, g113_12, g113_16, g113_20, g113_153, g113_154, g113_155, g113_156, g113_157, g113_158, g113_159, g113_160, g113_161, g113_162, g113_163, g113_164, g113_165, g113_166, g113_167]), (by simp only [S0, Nat.reduceEqDiff, Nat.reduceAdd, reduceIte, reduceCtorEq, S1, and_self, g113_0, g113_1, g113_9, g113_10, g113_12, g113_16, g113_20, g113_153, g113_154, g113_155, g113_156, g113_157, g113_158, g113_159, g113_160, g113_161, g113_162, g113_163, g113_164, g113_165, g113_166, g113_167])⟩ ?_
  rintro E139 ⟨g139_0, g139_1, g139_9, g139_10, g139_12, g139_16, g139_20, g139_153, g139_154, g139_155, g139_156, g139_157, g139_158, g139_159, g139_160, g139_161, g139_162, g139_163, g139_164, g139_165, g139_166, g139_167⟩
  refine Cw.loop ?_
  refine Cw.seq ?_
  refine Cw.region ?_
  (refine Ow.popM rfl ?_; simp only [S0, Nat.reduceEqDiff, Nat.reduceAdd, reduceIte, reduceCtorEq, S1, show decide ((((5 : Nat) : Int) : Int) < (((7 : Nat) : Int) : Int)) = decide (5 < 7) from lt_dec (5) (7), show decide (5 < 7) = true from decide_eq_true (by decide), g139_0, g139_1, g139_9, g139_10, g139_12, g139_16, g139_20, g139_153, g139_154, g139_155, g139_156, g139_157, g139_158, g139_159, g139_160, g139_161, g139_162, g139_163, g139_164, g139_165, g139_166, g139_167])
  refine Ow.nilM ⟨nofun, ?_⟩
  show Cw _ _ _ _ _
  refine Cw.seq ?_
  refine Cw.cond (t := true) (by simp only [S0, Nat.reduceEqDiff, Nat.reduceAdd, reduceIte, reduceCtorEq, S1, g139_0, g139_1, g139_9, g139_10, g139_12, g139_16, g139_20, g139_153, g139_154, g139_155, g139_156, g139_157, g139_158, g139_159, g139_160, g139_161, g139_162, g139_163, g139_164, g139_165, g139_166, g139_167]) ?_
  refine Cw.skip ?_
  show Cw _ _ _ _ _
  refine Cw.seq ?_
  refine Cw.block ?_
  refine Cw.seq ?_
  refine Cw.region ?_
  (refine Ow.popM rfl ?_; simp only [S0, Nat.reduceEqDiff, Nat.reduceAdd, reduceIte, reduceCtorEq, S1, show ((0 : Int) ≤ ((5 : Nat) : Int) ∧ ((5 : Nat) : Int) < ((7 : Nat) : Int)) = True from eq_true (by decide), Nat.reduceMul, show Int.toNat ((5 : Nat) : Int) = 5 from rfl, g139_0, g139_1, g139_9, g139_10, g139_12, g139_16, g139_20, g139_153, g139_154, g139_155, g139_156, g139_157, g139_158, g139_159, g139_160, g139_161, g139_162, g139_163, g139_164, g139_165, g139_166, g139_167])
  have hb31_140 := hb31_116.ext hx119
  have hb31_141 := hb31_140.ext hx120
  have hb31_142 := hb31_141.ext hx121
  refine Ow.ldB (off := 10) (v := .agg ⟨[.slice (some ⟨i26, 0, none⟩) (shrF (ofI w m) ((sh : Nat) : Int).toNat (bx (ofI w m) ((ofI w m).length - 1))).length (shrF (ofI w m) ((sh : Nat) : Int).toNat (bx (ofI w m) ((ofI w m).length - 1))).length, .int .i64 (m.fdiv (2 ^ min sh 64))]⟩) rfl (by simp only [S0, Nat.reduceEqDiff, Nat.reduceAdd, reduceIte, reduceCtorEq, S1, g139_0, g139_1, g139_9, g139_10, g139_12, g139_16, g139_20, g139_153, g139_154, g139_155, g139_156, g139_157, g139_158, g139_159, g139_160, g139_161, g139_162, g139_163, g139_164, g139_165, g139_166, g139_167]) hb31_142 rfl ?_
  refine Ow.newB rfl ?_
  have ne144 : H121.n ≠ H29.n := Nat.ne_of_gt hb31_142.1
  intro H143 hx143 hl143 bx143
  refine Ow.stB (H0 := H121) (off := 0) (v := .agg ⟨[.slice (some ⟨i26, 0, none⟩) (shrF (ofI w m) ((sh : Nat) : Int).toNat (bx (ofI w m) ((ofI w m).length - 1))).length (shrF (ofI w m) ((sh : Nat) : Int).toNat (bx (ofI w m) ((ofI w m).length - 1))).length, .int .i64 (m.fdiv (2 ^ min sh 64))]⟩) (vs' := [.slice (some ⟨i26, 0, none⟩) (shrF (ofI w m) ((sh : Nat) : Int).toNat (bx (ofI w m) ((ofI w m).length - 1))).length (shrF (ofI w m) ((sh : Nat) : Int).toNat (bx (ofI w m) ((ofI w m).length - 1))).length, .int .i64 (m.fdiv (2 ^ min sh 64))]) rfl (by simp only [S0, Nat.reduceEqDiff, Nat.reduceAdd, reduceIte, reduceCtorEq, S1, g139_0, g139_1, g139_9, g139_10, g139_12, g139_16, g139_20, g139_153, g139_154, g139_155, g139_156, g139_157, g139_158, g139_159, g139_160, g139_161, g139_162, g139_163, g139_164, g139_165, g139_166, g139_167]) (by simp only [S0, Nat.reduceEqDiff, Nat.reduceAdd, reduceIte, reduceCtorEq, S1, g139_0, g139_1, g139_9, g139_10, g139_12, g139_16, g139_20, g139_153, g139_154, g139_155, g139_156, g139_157, g139_158, g139_159, g139_160, g139_161, g139_162, g139_163, g139_164, g139_165, g139_166, g139_167]) bx143 rfl rfl hx143 (Nat.le_refl _) ?_
  intro H145 hx145 hn145 hk145 bx143_145
  refine Ow.nilM ⟨nofun, ?_⟩
  show Cw _ _ _ _ _
  refine Cw.seq ?_
  refine Cw.region ?_
  (refine Ow.popM rfl ?_; simp only [S0, Nat.reduceEqDiff, Nat.reduceAdd, reduceIte, reduceCtorEq, S1, g139_0, g139_1, g139_9, g139_10, g139_12, g139_16, g139_20, g139_153, g139_154, g139_155, g139_156, g139_157, g139_158, g139_159, g139_160, g139_161, g139_162, g139_163, g139_164, g139_165, g139_166, g139_167])
  refine Ow.ldB (off := 0) (v := .slice (some ⟨i26, 0, none⟩) (shrF (ofI w m) ((sh : Nat) : Int).toNat (bx (ofI w m) ((ofI w m).length - 1))).length (shrF (ofI w m) ((sh : Nat) : Int).toNat (bx (ofI w m) ((ofI w m).length - 1))).length) rfl (by simp only [S0, Nat.reduceEqDiff, Nat.reduceAdd, reduceIte, reduceCtorEq, S1, g139_0, g139_1, g139_9, g139_10, g139_12, g139_16, g139_20, g139_153, g139_154, g139_155, g139_156, g139_157, g139_158, g139_159, g139_160, g139_161, g139_162, g139_163, g139_164, g139_165, g139_166, g139_167]) bx143_145 rfl ?_
  (refine Ow.popM rfl ?_; simp only [S0, Nat.reduceEqDiff, Nat.reduceAdd, reduceIte, reduceCtorEq, S1, g139_0, g139_1, g139_9, g139_10, g139_12, g139_16, g139_20, g139_153, g139_154, g139_155, g139_156, g139_157, g139_158, g139_159, g139_160, g139_161, g139_162, g139_163, g139_164, g139_165, g139_166, g139_167])
  refine Ow.ldB (off := 1) (v := .int .i64 (m.fdiv (2 ^ min sh 64))) rfl (by simp only [S0, Nat.reduceEqDiff, Nat.reduceAdd, reduceIte, reduceCtorEq, S1, g139_0, g139_1, g139_9, g139_10, g139_12, g139_16, g139_20, g139_153, g139_154, g139_155, g139_156, g139_157, g139_158, g139_159, g139_160, g139_161, g139_162, g139_163, g139_164, g139_165, g139_166, g139_167]) bx143_145 rfl ?_
  (refine Ow.popM rfl ?_; simp only [S0, Nat.reduceEqDiff, Nat.reduceAdd, reduceIte, reduceCtorEq, S1, g139_0, g139_1, g139_9, g139_10, g139_12, g139_16, g139_20, g139_153, g139_154, g139_155, g139_156, g139_157, g139_158, g139_159, g139_160, g139_161, g139_162, g139_163, g139_164, g139_165, g139_166, g139_167])
  refine Ow.callA (k := 29) (fs := []) (cs := []) (vs := [.int .i64 (m.fdiv (2 ^ min sh 64)), .int .i64 ((w : Nat) : Int)]) rfl rfl (by simp only [S0, Nat.reduceEqDiff, Nat.reduceAdd, reduceIte, reduceCtorEq, S1, g139_0, g139_1, g139_9, g139_10, g139_12, g139_16, g139_20, g139_153, g139_154, g139_155, g139_156, g139_157, g139_158, g139_159, g139_160, g139_161, g139_162, g139_163, g139_164, g139_165, g139_166, g139_167]) (of_any ext0_ok (by omega)) (fun _ _ _ h => h) ?_
  rintro v146 H146 hx146 m146
  have m26_148 := m26.ext hx29
  have m26_149 := m26_148.ext hx31
  have m26_150 := m26_149.ext hx35
  have m26_151 := m26_150.ext hx36
  have m26_152 := m26_151.ext hx37
  have m26_153 := m26_152.ext hx53
  have m26_154 := m26_153.ext hx54
  have m26_155 := m26_154.ext hx55
  have m26_156 := m26_155.ext hx73
  have m26_157 := m26_156.ext hx74
  have m26_158 := m26_157.ext hx75
  have m26_159 := m26_158.ext hx95
  have m26_160 := m26_159.ext hx96
  have m26_161 := m26_160.ext hx97
  have m26_162 := m26_161.ext hx119
  have m26_163 := m26_162.ext hx120
  have m26_164 := m26_163.ext hx121
  have m26_165 := m26_164.ext hx145
  have m26_166 := m26_165.ext hx146
  refine Ow.callPA (k := 20) (fs := []) (cs := []) (vs := [.slice (some ⟨i26, 0, none⟩) (shrF (ofI w m) ((sh : Nat) : Int).toNat (bx (ofI w m) ((ofI w m).length - 1))).length (shrF (ofI w m) ((sh : Nat) : Int).toNat (bx (ofI w m) ((ofI w m).length - 1))).length, v146]) rfl rfl (by simp only [S0, Nat.reduceEqDiff, Nat.reduceAdd, reduceIte, reduceCtorEq, S1, g139_0, g139_1, g139_9, g139_10, g139_12, g139_16, g139_20, g139_153, g139_154, g139_155, g139_156, g139_157, g139_158, g139_159, g139_160, g139_161, g139_162, g139_163, g139_164, g139_165, g139_166, g139_167]) (same_T ext0_ok m26_166.isB.wl m146.isR.isB.wl (by first | omega | (simp only [SL]; omega)) (by rw [Int.toNat_natCast]; exact w_sar sm sh)) ?_
  intro H147 hx147
  (refine Ow.popM rfl ?_; simp only [S0, Nat.reduceEqDiff, Nat.reduceAdd, reduceIte, reduceCtorEq, S1, g139_0, g139_1, g139_9, g139_10, g139_12, g139_16, g139_20, g139_153, g139_154, g139_155, g139_156, g139_157, g139_158, g139_159, g139_160, g139_161, g139_162, g139_163, g139_164, g139_165, g139_166, g139_167])
  refine Ow.nilM ⟨fun _ => by rfl, ?_⟩
  show Cw _ _ _ _ _
  refine Cw.cond (t := false) (by simp only [S0, Nat.reduceEqDiff, Nat.reduceAdd, reduceIte, reduceCtorEq, S1, g139_0, g139_1, g139_9, g139_10, g139_12, g139_16, g139_20, g139_153, g139_154, g139_155, g139_156, g139_157, g139_158, g139_159, g139_160, g139_161, g139_162, g139_163, g139_164, g139_165, g139_166, g139_167]) ?_
  refine Cw.skip ?_
  show Cw _ _ _ _ _
  refine Cw.region ?_
  iterate 2 (refine Ow.popM rfl ?_; simp only [S0, Nat.reduceEqDiff, Nat.reduceAdd, reduceIte, reduceCtorEq, S1, show fwrap .i64 ((((5 : Nat) : Int) : Int) + (1 : Int)) = ((6 : Nat) : Int) from rfl, g139_0, g139_1, g139_9, g139_10, g139_12, g139_16, g139_20, g139_153, g139_154, g139_155, g139_156, g139_157, g139_158, g139_159, g139_160, g139_161, g139_162, g139_163, g139_164, g139_165, g139_166, g139_167])
  refine Ow.nilM ⟨nofun, ?_⟩
  show Cw _ _ _ _ _
  refine Cw.gen2 (fun E => E.get 0 = some (.int .i64 (m)) ∧ E.get 1 = some (.int .i64 (n)) ∧ E.get 9 = some (.int .i64 ((w : Nat) : Int)) ∧ E.get 10 = some (u3) ∧ E.get 12 = some (u4) ∧ E.get 16 = some (.int .u64 (((2 ^ w - 1 : Nat) : Int))) ∧ E.get 20 = some (.pointer (some ⟨H121.n, 0, none⟩)) ∧ E.get 153 = some (.slice (some ⟨H29.n, 0, none⟩) 7 7) ∧ E.get 154 = some (.int .i64 ((7 : Nat) : Int)) ∧ E.get 155 = some (.int .i64 ((6 : Nat) : Int)) ∧ E.get 156 = some (.bool true) ∧ E.get 157 = some (.pointer (some ⟨H29.n, 10, none⟩)) ∧ E.get 158 = some (.agg ⟨[.slice (some ⟨i26, 0, none⟩) (shrF (ofI w m) ((sh : Nat) : Int).toNat (bx (ofI w m) ((ofI w m).length - 1))).length (shrF (ofI w m) ((sh : Nat) : Int).toNat (bx (ofI w m) ((ofI w m).length - 1))).length, .int .i64 (m.fdiv (2 ^ min sh 64))]⟩) ∧ E.get 159 = some (.pointer (some ⟨H121.n, 0, none⟩)) ∧ E.get 160 = some (.slice (some ⟨i26, 0, none⟩) (shrF (ofI w m) ((sh : Nat) : Int).toNat (bx (ofI w m) ((ofI w m).length - 1))).length (shrF (ofI w m) ((sh : Nat) : Int).toNat (bx (ofI w m) ((ofI w m).length - 1))).length) ∧ E.get 161 = some (.pointer (some ⟨H121.n, 1, none⟩)) ∧ E.get 162 = some (.int .i64 (m.fdiv (2 ^ min sh 64))) ∧ E.get 163 = some (.int .i64 ((w : Nat) : Int)) ∧ E.get 164 = some (v146) ∧ E.get 165 = some (.bool true) ∧ E.get 166 = some (.bool false) ∧ E.get 167 = some (.int .i64 ((6 : Nat) : Int))) ⟨(by simp only [S0, Nat.reduceEqDiff, Nat.reduceAdd, reduceIte, reduceCtorEq, S1, and_self, g139_0, g139_1, g139_9, g139_10, g139_12, g139_16, g139_20, g139_153, g139_154, g139_155, g139_156, g139_157, g139_158, g139_159, g139_160, g139_161, g139_162, g139_163, g139_164, g139_165, g139_166, g139_167]), (by simp only [S0, Nat.reduceEqDiff, Nat.reduceAdd, reduceIte, reduceCtorEq, S1, and_self, g139_0, g139_1, g139_9, g139_10, g139_12, g139_16, g139_20, g139_153, g139_154, g139_155, g139_156, g139_157, g139_158, g139_159, g139_160, g139_161, g139_162, g139_163, g139_164, g139_165, g139_166, g139_167]), (by simp only [S0, Nat.reduceEqDiff, Nat.reduceAdd, reduceIte, reduceCtorEq, S1, and_self, g139_0, g139_1, g139_9, g139_10, g139_12, g139_16, g139_20, g139_153, g139_154, g139_155, g139_156, g139_157, g139_158, g139_159, g139_160, g139_161, g139_162, g139_163, g139_164, g139_165, g139_166, g139_167]), (by simp only [S0, Nat.reduceEqDiff, Nat.reduceAdd, reduceIte, reduceCtorEq, S1, and_self, g139_0, g139_1, g139_9, g139_10, g139_12, g139_16, g139_20, g139_153, g139_154, g139_155, g139_156, g139_157, g139_158, g139_159, g139_160, g139_161, g139_162, g139_163, g139_164, g139_165, g139_166, g139_167]), (by simp only [S0, Nat.reduceEqDiff, Nat.reduceAdd, reduceIte, reduceCtorEq, S1, and_self, g139_0, g139_1, g139_9, g139_10, g139_12, g139_16, g139_20, g139_153, g139_154, g139_155, g139_156, g139_157, g139_158, g139_159, g139_160, g139_161, g139_162, g139_163, g139_164, g139_165, g139_166, g139_167]), (by simp only [S0, Nat.reduceEqDiff, Nat.reduceAdd, reduceIte, reduceCtorEq, S1, and_self, g139_0, g139_1, g139_9, g139_10, g139_12, g139_16, g139_20, g139_153, g139_154, g139_155, g139_156, g139_157, g139_158, g139_159, g139_160, g139_161, g139_162, g139_163, g139_164, g139_165, g139_166, g139_167]), (by simp only [S0, Nat.reduceEqDiff, Nat.reduceAdd, reduceIte, reduceCtorEq, S1, and_self, g139_0, g139_1, g139_9, g139_10, g139_12, g139_16, g139_20, g139_153, g139_154, g139_155, g139_156, g139_157, g139_158, g139_159, g139_160, g139_161, g139_162, g139_163, g139_164, g139_165, g139_166, g139_167]), (by simp only [S0, Nat.reduceEqDiff, Nat.reduceAdd, reduceIte, reduceCtorEq, S1, and_self, g139_0, g139_1, g139_9, g139_10, g139_12, g139_16, g139_20, g139_153, g139_154, g139_155, g139_156, g139_157, g139_158, g139_159, g139_160, g139_161, g139_162, g139_163, g139_164, g139_165, g139_166, g139_167]), (by simp only [S0, Nat.reduceEqDiff, Nat.reduceAdd, reduceIte, reduceCtorEq, S1, and_self, g139_0, g139_1, g139_9, g139_10, g139_12, g139_16, g139_20, g139_153, g139_154, g139_155, g139_156, g139_157, g139_158, g139_159, g139_160, g139_161, g139_162, g139_163, g139_164, g139_165, g139_166, g139_167]), (by simp only [S0, Nat.reduceEqDiff, Nat.reduceAdd, reduceIte, reduceCtorEq, S1, and_self, g139_0, g139_1, g139_9, g139_10, g139_12, g139_16, g139_20, g139_153, g139_154, g139_155, g139_156, g139_157, g139_158, g139_159, g139_160, g139_161, g139_162, g139_163, g139_164, g139_165, g139_166, g139_167]), (by simp only [S0, Nat.reduceEqDiff, Nat.reduceAdd, reduceIte, reduceCtorEq, S1, and_self, g139_0, g139_1, g139_9, g139_10, g139_12, g139_16, g139_20, g139_153, g139_154, g139_155, g139_156, g139_157, g139_158, g139_159, g139_160, g139_161, g139_162, g139_163, g139_164, g139_165, g139_166, g139_167]), (by simp only [S0, Nat.reduceEqDiff, Nat.reduceAdd, reduceIte, reduceCtorEq, S1, and_self, g139_0, g139_1, g139_9, g139_10, g139_12, g139_16, g139_20, g139_153, g139_154, g139_155, g139_156, g139_157, g139_158, g139_159, g139_160, g139_161, g139_162, g139_163, g139_164, g139_165, g139_166, g139_167]), (by simp only [S0, Nat.reduceEqDiff, Nat.reduceAdd, reduceIte, reduceCtorEq, S1, and_self, g139_0, g139_1, g139_9, g139_10, g139_12, g139_16, g139_20, g139_153, g139_154, g139_155, g139_156, g139_157, g139_158, g139_159, g139_160, g139_161, g139_162, g139_163, g139_164, g139_165, g139_166, g139_167]), (by simp only [S0, Nat.reduceEqDiff, Nat.reduceAdd, reduceIte, reduceCtorEq, S1, and_self, g139_0, g139_1, g139_9, g139_10, g139_12, g139_16, g139_20, g139_153, g139_154, g139_155, g139_156, g139_157, g139_158, g139_159, g139_160, g139_161, g139_162, g139_163, g139_164, g139_165, g139_166, g139_167]), (by simp only [S0, Nat.reduceEqDiff, Nat.reduceAdd, reduceIte, reduceCtorEq, S1, and_self, g139_0, g139_1, g139_9, g139_10, g139_12, g139_16, g139_20, g139_153, g139_154, g139_155, g139_156, g139_157, g139_158, g139_159, g139_160, g139_161, g139_162, g139_163, g139_164, g139_165, g139_166, g139_167]), (by simp only [S0, Nat.reduceEqDiff, Nat.reduceAdd, reduceIte, reduceCtorEq, S1, and_self, g139_0, g139_1, g139_9, g139_10, g139_12, g139_16, g139_20, g139_153, g139_154, g139_155, g139_156, g139_157, g139_158, g139_159, g139_160, g139_161, g139_162, g139_163, g139_164, g139_165, g139_166, g139_167]), (by simp only [S0, Nat.reduceEqDiff, Nat.reduceAdd, reduceIte, reduceCtorEq, S1, and_self, g139_0, g139_1, g139_9, g139_10, g139_12, g139_16, g139_20, g139_153, g139_154, g139_155, g139_156, g139_157, g139_158, g139_159, g139_160, g139_161, g139_162, g139_163, g139_164, g139_165, g139_166, g139_167]), (by simp only [S0, Nat.reduceEqDiff, Nat.reduceAdd, reduceIte, reduceCtorEq, S1, and_self, g139_0, g139_1, g139_9, g139_10, g139_12, g139_16, g139_20, g139_153, g139_154, g139_155, g139_156, g139_157, g139_158, g139_159, g139_160, g139_161, g139_162, g139_163, g139_164, g139_165, g139_166, g139_167]), (by simp only [S0, Nat.reduceEqDiff, Nat.reduceAdd, reduceIte, reduceCtorEq, S1, and_self, g139_0, g139_1, g139_9, g139_10, g139_12, g139_16, g139_20, g139_153, g139_154, g139_155, g139_156, g139_157, g139_158, g139_159, g139_160, g139_161, g139_162, g139_163, g139_164, g139_165, g139_166, g139_167]), (by simp only [S0, Nat.reduceEqDiff, Nat.reduceAdd, reduceIte, reduceCtorEq, S1, and_self, g139_0, g139_1, g139_9, g139_10, g139_12, g139_16, g139_20, g139_153, g139_154, g139_155, g139_156, g139_157, g139_158, g139_159, g139_160, g139_161, g139_162, g139_163, g139_164, g139_165, g139_166, g139_167]), (by simp only [S0, Nat.reduceEqDiff, Nat.reduceAdd, reduceIte, reduceCtorEq, S1, and_self, g139_0, g139_1, g139_9, g139_10, g139_12, g139_16, g139_20, g139_153, g139_154, g139_155, g139_156, g139_157, g139_158, g139_159, g139_160, g139_161, g139_162, g139_163, g139_164, g139_165, g139_166, g139_167]), (by simp only [S0, Nat.reduceEqDiff, Nat.reduceAdd, reduceIte, reduceCtorEq, S1, and_self, g139_0, g139_1, g139_9, g139_10, g139_12, g139_16, g139_20, g139_153, g139_154, g139_155, g139_156, g139_157, g139_158, g139_159, g139_160, g139_161, g139_162, g139_163, g139_164, g139_165, g139_166, g139_167])⟩ ?_
  rintro E167 ⟨g167_0, g167_1, g167_9, g167_10, g167_12, g167_16, g167_20, g167_153, g167_154, g167_155, g167_156, g167_157, g167_158, g167_159, g167_160, g167_161, g167_162, g167_163, g167_164, g167_165, g167_166, g167_167⟩
  refine Cw.loop ?_
  refine Cw.seq ?_
  refine Cw.region ?_
  (refine Ow.popM rfl ?_; simp only [S0, Nat.reduceEqDiff, Nat.reduceAdd, reduceIte, reduceCtorEq, S1, show decide ((((6 : Nat) : Int) : Int) < (((7 : Nat) : Int) : Int)) = decide (6 < 7) from lt_dec (6) (7), show decide (6 < 7) = true from decide_eq_true (by decide), g167_0, g167_1, g167_9, g167_10, g167_12, g167_16, g167_20, g167_153, g167_154, g167_155, g167_156, g167_157, g167_158, g167_159, g167_160, g167_161, g167_162, g167_163, g167_164, g167_165, g167_166, g167_167])
  refine Ow.nilM ⟨nofun, ?_⟩
  show Cw _ _ _ _ _
  refine Cw.seq ?_
  refine Cw.cond (t := true) (by simp only [S0, Nat.reduceEqDiff, Nat.reduceAdd, reduceIte, reduceCtorEq, S1, g167_0, g167_1, g167_9, g167_10, g167_12, g167_16, g167_20, g167_153, g167_154, g167_155, g167_156, g167_157, g167_158, g167_159, g167_160, g167_161, g167_162, g167_163, g167_164, g167_165, g167_166, g167_167]) ?_
  refine Cw.skip ?_
  show Cw _ _ _ _ _
  refine Cw.seq ?_
  refine Cw.block ?_
  refine Cw.seq ?_
  refine Cw.region ?_
  (refine Ow.popM rfl ?_; simp only [S0, Nat.reduceEqDiff, Nat.reduceAdd, reduceIte, reduceCtorEq, S1, show ((0 : Int) ≤ ((6 : Nat) : Int) ∧ ((6 : Nat) : Int) < ((7 : Nat) : Int)) = True from eq_true (by decide), Nat.reduceMul, show Int.toNat ((6 : Nat) : Int) = 6 from rfl, g167_0, g167_1, g167_9, g167_10, g167_12, g167_16, g167_20, g167_153, g167_154, g167_155, g167_156, g167_157, g167_158, g167_159, g167_160, g167_161, g167_162, g167_163, g167_164, g167_165, g167_166, g167_167])
  have hb31_168 := hb31_142.ext hx145
  have hb31_169 := hb31_168.ext hx146
  have hb31_170 := hb31_169.ext hx147
  refine Ow.ldB (off := 12) (v := .agg ⟨[.slice (some ⟨i29, 0, none⟩) (shrF (ofI w m) ((sh : Nat) : Int).toNat false).length (shrF (ofI w m) ((sh : Nat) : Int).toNat false).length, .int .i64 (fwrap .i64 ((((val (ofI w m) : Nat) : Int)).fdiv (2 ^ min sh 64)))]⟩) rfl (by simp only [S0, Nat.reduceEqDiff, Nat.reduceAdd, reduceIte, reduceCtorEq, S1, g167_0, g167_1, g167_9, g167_10, g167_12, g167_16, g167_20, g167_153, g167_154, g167_155, g167_156, g167_157, g167_158, g167_159, g167_160, g167_161, g167_162, g167_163, g167_164, g167_165, g167_166, g167_167]) hb31_170 rfl ?_
  refine Ow.newB rfl ?_
  have ne172 : H147.n ≠ H29.n := Nat.ne_of_gt hb31_170.1
  intro H171 hx171 hl171 bx171
  refine Ow.stB (H0 := H147) (off := 0) (v := .agg ⟨[.slice (some ⟨i29, 0, none⟩) (shrF (ofI w m) ((sh : Nat) : Int).toNat false).length (shrF (ofI w m) ((sh : Nat) : Int).toNat false).length, .int .i64 (fwrap .i64 ((((val (ofI w m) : Nat) : Int)).fdiv (2 ^ min sh 64)))]⟩) (vs' := [.slice (some ⟨i29, 0, none⟩) (shrF (ofI w m) ((sh : Nat) : Int).toNat false).length (shrF (ofI w m) ((sh : Nat) : Int).toNat false).length, .int .i64 (fwrap .i64 ((((val (ofI w m) : Nat) : Int)).fdiv (2 ^ min sh 64)))]) rfl (by simp only [S0, Nat.reduceEqDiff, Nat.reduceAdd, reduceIte, reduceCtorEq, S1, g167_0, g167_1, g167_9, g167_10, g167_12, g167_16, g167_20, g167_153, g167_154, g167_155, g167_156, g167_157, g167_158, g167_159, g167_160, g167_161, g167_162, g167_163, g167_164, g167_165, g167_166, g167_167]) (by simp only [S0, Nat.reduceEqDiff, Nat.reduceAdd, reduceIte, reduceCtorEq, S1, g167_0, g167_1, g167_9, g167_10, g167_12, g167_16, g167_20, g167_153, g167_154, g167_155, g167_156, g167_157, g167_158, g167_159, g167_160, g167_161, g167_162, g167_163, g167_164, g167_165, g167_166, g167_167]) bx171 rfl rfl hx171 (Nat.le_refl _) ?_
  intro H173 hx173 hn173 hk173 bx171_173
  refine Ow.nilM ⟨nofun, ?_⟩
  show Cw _ _ _ _ _
  refine Cw.seq ?_
  refine Cw.region ?_
  (refine Ow.popM rfl ?_; simp only [S0, Nat.reduceEqDiff, Nat.reduceAdd, reduceIte, reduceCtorEq, S1, g167_0, g167_1, g167_9, g167_10, g167_12, g167_16, g167_20, g167_153, g167_154, g167_155, g167_156, g167_157, g167_158, g167_159, g167_160, g167_161, g167_162, g167_163, g167_164, g167_165, g167_166, g167_167])
  refine Ow.ldB (off := 0) (v := .slice (some ⟨i29, 0, none⟩) (shrF (ofI w m) ((sh : Nat) : Int).toNat false).length (shrF (ofI w m) ((sh : Nat) : Int).toNat false).length) rfl (by simp only [S0, Nat.reduceEqDiff, Nat.reduceAdd, reduceIte, reduceCtorEq, S1, g167_0, g167_1, g167_9, g167_10, g167_12, g167_16, g167_20, g167_153, g167_154, g167_155, g167_156, g167_157, g167_158, g167_159, g167_160, g167_161, g167_162, g167_163, g167_164, g167_165, g167_166, g167_167]) bx171_173 rfl ?_
  (refine Ow.popM rfl ?_; simp only [S0, Nat.reduceEqDiff, Nat.reduceAdd, reduceIte, reduceCtorEq, S1, g167_0, g167_1, g167_9, g167_10, g167_12, g167_16, g167_20, g167_153, g167_154, g167_155, g167_156, g167_157, g167_158, g167_159, g167_160, g167_161, g167_162, g167_163, g167_164, g167_165, g167_166, g167_167])
  refine Ow.ldB (off := 1) (v := .int .i64 (fwrap .i64 ((((val (ofI w m) : Nat) : Int)).fdiv (2 ^ min sh 64)))) rfl (by simp only [S0, Nat.reduceEqDiff, Nat.reduceAdd, reduceIte, reduceCtorEq, S1, g167_0, g167_1, g167_9, g167_10, g167_12, g167_16, g167_20, g167_153, g167_154, g167_155, g167_156, g167_157, g167_158, g167_159, g167_160, g167_161, g167_162, g167_163, g167_164, g167_165, g167_166, g167_167]) bx171_173 rfl ?_
  (refine Ow.popM rfl ?_; simp only [S0, Nat.reduceEqDiff, Nat.reduceAdd, reduceIte, reduceCtorEq, S1, g167_0, g167_1, g167_9, g167_10, g167_12, g167_16, g167_20, g167_153, g167_154, g167_155, g167_156, g167_157, g167_158, g167_159, g167_160, g167_161, g167_162, g167_163, g167_164, g167_165, g167_166, g167_167])
  refine Ow.callA (k := 29) (fs := []) (cs := []) (vs := [.int .i64 (fwrap .i64 ((((val (ofI w m) : Nat) : Int)).fdiv (2 ^ min sh 64))), .int .i64 ((w : Nat) : Int)]) rfl rfl (by simp only [S0, Nat.reduceEqDiff, Nat.reduceAdd, reduceIte, reduceCtorEq, S1, g167_0, g167_1, g167_9, g167_10, g167_12, g167_16, g167_20, g167_153, g167_154, g167_155, g167_156, g167_157, g167_158, g167_159, g167_160, g167_161, g167_162, g167_163, g167_164, g167_165, g167_166, g167_167]) (of_any ext0_ok (by omega)) (fun _ _ _ h => h) ?_
  rintro v174 H174 hx174 m174
  have m29_176 := m29.ext hx31
  have m29_177 := m29_176.ext hx35
  have m29_178 := m29_177.ext hx36
  have m29_179 := m29_178.ext hx37
  have m29_180 := m29_179.ext hx53
  have m29_181 := m29_180.ext hx54
  have m29_182 := m29_181.ext hx55
  have m29_183 := m29_182.ext hx73
  have m29_184 := m29_183.ext hx74
  have m29_185 := m29_184.ext hx75
  have m29_186 := m29_185.ext hx95
  have m29_187 := m29_186.ext hx96
  have m29_188 := m29_187.ext hx97
  have m29_189 := m29_188.ext hx119
  have m29_190 := m29_189.ext hx120
  have m29_191 := m29_190.ext hx121
  have m29_192 := m29_191.ext hx145
  have m29_193 := m29_192.ext hx146
  have m29_194 := m29_193.ext hx147
  have m29_195 := m29_194.ext hx173
  have m29_196 := m29_195.ext hx174
  refine Ow.callPA (k := 20) (fs := []) (cs := []) (vs := [.slice (some ⟨i29, 0, none⟩) (shrF (ofI w m) ((sh : Nat) : Int).toNat false).length (shrF (ofI w m) ((sh : Nat) : Int).toNat false).length, v174]) rfl rfl (by simp only [S0, Nat.reduceEqDiff, Nat.reduceAdd, reduceIte, reduceCtorEq, S1, g167_0, g167_1, g167_9, g167_10, g167_12, g167_16, g167_20, g167_153, g167_154, g167_155, g167_156, g167_157, g167_158, g167_159, g167_160, g167_161, g167_162, g167_163, g167_164, g167_165, g167_166, g167_167]) (same_T ext0_ok m29_196.isB.wl m174.isR.isB.wl (by first | omega | (simp only [SL]; omega)) (by rw [Int.toNat_natCast]; exact w_shr h2w sh)) ?_
  intro H175 hx175
  (refine Ow.popM rfl ?_; simp only [S0, Nat.reduceEqDiff, Nat.reduceAdd, reduceIte, reduceCtorEq, S1, g167_0, g167_1, g167_9, g167_10, g167_12, g167_16, g167_20, g167_153, g167_154, g167_155, g167_156, g167_157, g167_158, g167_159, g167_160, g167_161, g167_162, g167_163, g167_164, g167_165, g167_166, g167_167])
  refine Ow.nilM ⟨fun _ => by rfl, ?_⟩
  show Cw _ _ _ _ _
  refine Cw.cond (t := false) (by simp only [S0, Nat.reduceEqDiff, Nat.reduceAdd, reduceIte, reduceCtorEq, S1, g167_0, g167_1, g167_9, g167_10, g167_12, g167_16, g167_20, g167_153, g167_154, g167_155, g167_156, g167_157, g167_158, g167_159, g167_160, g167_161, g167_162, g167_163, g167_164, g167_165, g167_166, g167_167]) ?_
  refine Cw.skip ?_
  show Cw _ _ _ _ _
  refine Cw.region ?_
  iterate 2 (refine Ow.popM rfl ?_; simp only [S0, Nat.reduceEqDiff, Nat.reduceAdd, reduceIte, reduceCtorEq, S1, show fwrap .i64 ((((6 : Nat) : Int) : Int) + (1 : Int)) = ((7 : Nat) : Int) from rfl, g167_0, g167_1, g167_9, g167_10, g167_12, g167_16, g167_20, g167_153, g167_154, g167_155, g167_156, g167_157, g167_158, g167_159, g167_160, g167_161, g167_162, g167_163, g167_164, g167_165, g167_166, g167_167])
  refine Ow.nilM ⟨nofun, ?_⟩
  show Cw _ _ _ _ _
  refine Cw.gen2 (fun E => E.get 0 = some (.int .i64 (m)) ∧ E.get 1 = some (.int .i64 (n)) ∧ E.get 9 = some (.int .i64 ((w : Nat) : Int)) ∧ E.get 10 = some (u3) ∧ E.get 12 = some (u4) ∧ E.get 16 = some (.int .u64 (((2 ^ w - 1 : Nat) : Int))) ∧ E.get 20 = some (.pointer (some ⟨H147.n, 0, none⟩)) ∧ E.get 153 = some (.slice (some ⟨H29.n, 0, none⟩) 7 7) ∧ E.get 154 = some (.int .i64 ((7 : Nat) : Int)) ∧ E.get 155 = some (.int .i64 ((7 : Nat) : Int)) ∧ E.get 156 = some (.bool true) ∧ E.get 157 = some (.pointer (some ⟨H29.n, 12, none⟩)) ∧ E.get 158 = some (.agg ⟨[.slice (some ⟨i29, 0, none⟩) (shrF (ofI w m) ((sh : Nat) : Int).toNat false).length (shrF (ofI w m) ((sh : Nat) : Int).toNat false).length, .int .i64 (fwrap .i64 ((((val (ofI w m) : Nat) : Int)).fdiv (2 ^ min sh 64)))]⟩) ∧ E.get 159 = some (.pointer (some ⟨H147.n, 0, none⟩)) ∧ E.get 160 = some (.slice (some ⟨i29, 0, none⟩) (shrF (ofI w m) ((sh : Nat) : Int).toNat false).length (shrF (ofI w m) ((sh : Nat) : Int).toNat false).length) ∧ E.get 161 = some (.pointer (some ⟨H147.n, 1, none⟩)) ∧ E.get 162 = some (.int .i64 (fwrap .i64 ((((val (ofI w m) : Nat) : Int)).fdiv (2 ^ min sh 64)))) ∧ E.get 163 = some (.int .i64 ((w : Nat) : Int)) ∧ E.get 164 = some (v174) ∧ E.get 165 = some (.bool true) ∧ E.get 166 = some (.bool false) ∧ E.get 167 = some (.int .i64 ((7 : Nat) : Int))) ⟨(by simp only [S0, Nat.reduceEqDiff, Nat.reduceAdd, reduceIte, reduceCtorEq, S1, and_self, g167_0, g167_1, g167_9, g167_10, g167_12, g167_16, g167_20, g167_153, g167_154, g167_155, g167_156, g167_157, g167_158, g167_159, g167_160, g167_161, g167_162, g167_163, g167_164, g167_165, g167_166, g167_167]), (by simp only [S0, Nat.reduceEqDiff, Nat.reduceAdd, reduceIte, reduceCtorEq, S1, and_self, g167_0, g167_1, g167_9, g167_10, g167_12, g167_16, g167_20, g167_153, g167_154, g167_155, g167_156, g167_157, g167_158, g167_159, g167_160, g167_161, g167_162, g167_163, g167_164, g167_165, g167_166, g167_167]), (by simp only [S0, Nat.reduceEqDiff, Nat.reduceAdd, reduceIte, reduceCtorEq, S1, and_self, g167_0, g167_1, g167_9, g167_10, g167_12, g167_16, g167_20, g167_153, g167_154, g167_155, g167_156, g167_157, g167_158, g167_159, g167_160, g167_161, g167_162, g167_163, g167_164, g167_165, g167_166, g167_167]), (by simp only [S0, Nat.reduceEqDiff, Nat.reduceAdd, reduceIte, reduceCtorEq, S1, and_self, g167_0, g167_1, g167_9, g167_10, g167_12, g167_16, g167_20, g167_153, g167_154, g167_155, g167_156, g167_157, g167_158, g167_159, g167_160, g167_161, g167_162, g167_163, g167_164, g167_165, g167_166, g167_167]), (by simp only [S0, Nat.reduceEqDiff, Nat.reduceAdd, reduceIte, reduceCtorEq, S1, and_self, g167_0, g167_1, g167_9, g167_10, g167_12, g167_16, g167_20, g167_153, g167_154, g167_155, g167_156, g167_157, g167_158, g167_159, g167_160, g167_161, g167_162, g167_163, g167_164, g167_165, g167_166, g167_167]), (by simp only [S0, Nat.reduceEqDiff, Nat.reduceAdd, reduceIte, reduceCtorEq, S1, and_self, g167_0, g167_1, g167_9, g167_10, g167_12, g167_16, g167_20, g167_153, g167_154, g167_155, g167_156, g167_157, g167_158, g167_159, g167_160, g167_161, g167_162, g167_163, g167_164, g167_165, g167_166, g167_167]), (by simp only [S0, Nat.reduceEqDiff, Nat.reduceAdd, reduceIte, reduceCtorEq, S1, and_self, g167_0, g167_1, g167_9, g167_10, g167_12, g167_16, g167_20, g167_153, g167_154, g167_155, g167_156, g167_157, g167_158, g167_159, g167_160, g167_161, g167_162, g167_163, g167_164, g167_165, g167_166, g167_167]), (by simp only [S0, Nat.reduceEqDiff, Nat.reduceAdd, reduceIte, reduceCtorEq, S1, and_self, g167_0, g167_1, g167_9, g167_10, g167_12, g167_16, g167_20, g167_153, g167_154, g167_155, g167_156, g167_157, g167_158, g167_159, g167_160, g167_161, g167_162, g167_163, g167_164, g167_165, g167_166, g167_167]), (by simp only [S0, Nat.reduceEqDiff, Nat.reduceAdd, reduceIte, reduceCtorEq, S1, and_self, g167_0, g167_1, g167_9, g167_10, g167_12, g167_16, g167_20, g167_153, g167_154, g167_155, g167_156, g167_157, g167_158, g167_159, g167_160, g167_161, g167_162, g167_163, g167_164, g167_165, g167_166, g167_167]), (by simp only [S0, Nat.reduceEqDiff, Nat.reduceAdd, reduceIte, reduceCtorEq, S1, and_self, g167_0, g167_1, g167_9, g167_10, g167_12, g167_16, g167_20, g167_153, g167_154, g167_155, g167_156, g167_157, g167_158, g167_159, g167_160, g167_161, g167_162, g167_163, g167_164, g167_165, g167_166, g167_167]), (by simp only [S0, Nat.reduceEqDiff, Nat.reduceAdd, reduceIte, reduceCtorEq, S1, and_self, g167_0, g167_1, g167_9, g167_10, g167_12, g167_16, g167_20, g167_153, g167_154, g167_155, g167_156, g167_157, g167_158, g167_159, g167_160, g167_161, g167_162, g167_163, g167_164, g167_165, g167_166, g167_167]), (by simp only [S0, Nat.reduceEqDiff, Nat.reduceAdd, reduceIte, reduceCtorEq, S1, and_self, g167_0, g167_1, g167_9, g167_10, g167_12, g167_16, g167_20, g167_153, g167_154, g167_155, g167_156, g167_157, g167_158, g167_159, g167_160, g167_161, g167_162, g167_163, g167_164, g167_165, g167_166, g167_167]), (by simp only [S0, Nat.reduceEqDiff, Nat.reduceAdd, reduceIte, reduceCtorEq, S1, and_self, g167_0, g167_1, g167_9, g167_10, g167_12, g167_16, g167_20, g167_153, g167_154, g167_155, g167_156, g167_157, g167_158, g167_159, g167_160, g167_161, g167_162, g167_163, g167_164, g167_165, g167_166, g167_167]), (by simp only [S0, Nat.reduceEqDiff, Nat.reduceAdd, reduceIte, reduceCtorEq, S1, and_self, g167_0, g167_1, g167_9, g167_10, g167_12, g167_16, g167_20, g167_153, g167_154, g167_155, g167_156, g167_157, g167_158, g167_159, g167_160, g167_161, g167_162, g167_163, g167_164, g167_165, g167_166, g167_167]), (by simp only [S0, Nat.reduceEqDiff, Nat.reduceAdd, reduceIte, reduceCtorEq, S1, and_self, g167_0, g167_1, g167_9, g167_10, g167_12, g167_16, g167_20, g167_153, g167_154, g167_155, g167_156, g167_157, g167_158, g167_159, g167_160, g167_161, g167_162, g167_163, g167_164, g167_165, g167_166, g167_167]), (by simp only [S0, Nat.reduceEqDiff, Nat.reduceAdd, reduceIte, reduceCtorEq, S1, and_self, g167_0, g167_1, g167_9, g167_10, g167_12, g167_16, g167_20, g167_153, g167_154, g167_155, g167_156, g167_157, g167_158, g167_159, g167_160, g167_161, g167_162, g167_163, g167_164, g167_165, g167_166, g167_167]), (by simp only [S0, Nat.reduceEqDiff, Nat.reduceAdd, reduceIte, reduceCtorEq, S1, and_self, g167_0, g167_1, g167_9, g167_10, g167_12, g167_16, g167_20, g167_153, g167_154, g167_155, g167_156, g167_157, g167_158, g167_159, g167_160, g167_161, g167_162, g167_163, g167_164, g167_165, g167_166, g167_167]), (by simp only [S0, Nat.reduceEqDiff, Nat.reduceAdd, reduceIte, reduceCtorEq, S1, and_self, g167_0, g167_1, g167_9, g167_10, g167_12, g167_16, g167_20, g167_153, g167_154, g167_155, g167_156, g167_157, g167_158, g167_159, g167_160, g167_161, g167_162, g167_163, g167_164, g167_165, g167_166, g167_167]), (by simp only [S0, Nat.reduceEqDiff, Nat.reduceAdd, reduceIte, reduceCtorEq, S1, and_self, g167_0, g167_1, g167_9, g167_10, g167_12, g167_16, g167_20, g167_153, g167_154, g167_155, g167_156, g167_157, g167_158, g167_159, g167_160, g167_161, g167_162, g167_163, g167_164, g167_165, g167_166, g167_167]), (by simp only [S0, Nat.reduceEqDiff, Nat.reduceAdd, reduceIte, reduceCtorEq, S1, and_self, g167_0, g167_1, g167_9, g167_10, g167_12, g167_16, g167_20, g167_153, g167_154, g167_155, g167_156, g167_157, g167_158, g167_159, g167_160, g167_161, g167_162, g167_163, g167_164, g167_165, g167_166, g167_167]), (by simp only [S0, Nat.reduceEqDiff, Nat.reduceAdd, reduceIte, reduceCtorEq, S1, and_self, g167_0, g167_1, g167_9, g167_10, g167_12, g167_16, g167_20, g167_153, g167_154, g167_155, g167_156, g167_157, g167_158, g167_159, g167_160, g167_161, g167_162, g167_163, g167_164, g167_165, g167_166, g167_167]), (by simp only [S0, Nat.reduceEqDiff, Nat.reduceAdd, reduceIte, reduceCtorEq, S1, and_self, g167_0, g167_1, g167_9, g167_10, g167_12, g167_16, g167_20, g167_153, g167_154, g167_155, g167_156, g167_157, g167_158, g167_159, g167_160, g167_161, g167_162, g167_163, g167_164, g167_165, g167_166, g167_167])⟩ ?_
  rintro E197 ⟨g197_0, g197_1, g197_9, g197_10, g197_12, g197_16, g197_20, g197_153, g197_154, g197_155, g197_156, g197_157, g197_158, g197_159, g197_160, g197_161, g197_162, g197_163, g197_164, g197_165, g197_166, g197_167⟩
  refine Cw.loop ?_
  refine Cw.seq ?_
  refine Cw.region ?_
  (refine Ow.popM rfl ?_; simp only [S0, Nat.reduceEqDiff, Nat.reduceAdd, reduceIte, reduceCtorEq, S1, show decide ((((7 : Nat) : Int) : Int) < (((7 : Nat) : Int) : Int)) = decide (7 < 7) from lt_dec (7) (7), show decide (7 < 7) = false from decide_eq_false (Nat.lt_irrefl _), g197_0, g197_1, g197_9, g197_10, g197_12, g197_16, g197_20, g197_153, g197_154, g197_155, g197_156, g197_157, g197_158, g197_159, g197_160, g197_161, g197_162, g197_163, g197_164, g197_165, g197_166, g197_167])
  refine Ow.nilM ⟨nofun, ?_⟩
  show Cw _ _ _ _ _
  refine Cw.seq ?_
  refine Cw.cond (t := false) (by simp only [S0, Nat.reduceEqDiff, Nat.reduceAdd, reduceIte, reduceCtorEq, S1, g197_0, g197_1, g197_9, g197_10, g197_12, g197_16, g197_20, g197_153, g197_154, g197_155, g197_156, g197_157, g197_158, g197_159, g197_160, g197_161, g197_162, g197_163, g197_164, g197_165, g197_166, g197_167]) ?_
  refine Cw.exit ?_
  show Cw _ _ _ _ _
  refine Cw.seq ?_
  refine Cw.seq ?_
  by_cases hn0 : n = 0
  · have hd198 : decide (n = 0) = true := decide_eq_true hn0
    refine Cw.region ?_
    iterate 2 (refine Ow.popM rfl ?_; simp only [S0, Nat.reduceEqDiff, Nat.reduceAdd, reduceIte, reduceCtorEq, S1, show (n != 0) = false from by rw [hn0]; rfl, g197_0, g197_1, g197_9, g197_10, g197_12, g197_16, g197_20, g197_153, g197_154, g197_155, g197_156, g197_157, g197_158, g197_159, g197_160, g197_161, g197_162, g197_163, g197_164, g197_165, g197_166, g197_167, hd198])
    refine Ow.nilM ⟨nofun, ?_⟩
    show Cw _ _ _ _ _
    refine Cw.cond (t := false) (by simp only [S0, Nat.reduceEqDiff, Nat.reduceAdd, reduceIte, reduceCtorEq, S1, g197_0, g197_1, g197_9, g197_10, g197_12, g197_16, g197_20, g197_153, g197_154, g197_155, g197_156, g197_157, g197_158, g197_159, g197_160, g197_161, g197_162, g197_163, g197_164, g197_165, g197_166, g197_167, hd198]) ?_
    refine Cw.skip ?_
    show Cw _ _ _ _ _
    refine Cw.seq ?_
    refine Cw.region ?_
    iterate 2 (refine Ow.popM rfl ?_; simp only [S0, Nat.reduceEqDiff, Nat.reduceAdd, reduceIte, reduceCtorEq, S1, g197_0, g197_1, g197_9, g197_10, g197_12, g197_16, g197_20, g197_153, g197_154, g197_155, g197_156, g197_157, g197_158, g197_159, g197_160, g197_161, g197_162, g197_163, g197_164, g197_165, g197_166, g197_167, hd198])
    have mu3_200 := mu3_30.ext hx29
    have mu3_201 := mu3_200.ext hx31
    have mu3_202 := mu3_201.ext hx35
    have mu3_203 := mu3_202.ext hx36
    have mu3_204 := mu3_203.ext hx37
    have mu3_205 := mu3_204.ext hx53
    have mu3_206 := mu3_205.ext hx54
    have mu3_207 := mu3_206.ext hx55
    have mu3_208 := mu3_207.ext hx73
    have mu3_209 := mu3_208.ext hx74
    have mu3_210 := mu3_209.ext hx75
    have mu3_211 := mu3_210.ext hx95
    have mu3_212 := mu3_211.ext hx96
    have mu3_213 := mu3_212.ext hx97
    have mu3_214 := mu3_213.ext hx119
    have mu3_215 := mu3_214.ext hx120
    have mu3_216 := mu3_215.ext hx121
    have mu3_217 := mu3_216.ext hx145
    have mu3_218 := mu3_217.ext hx146
    have mu3_219 := mu3_218.ext hx147
    have mu3_220 := mu3_219.ext hx173
    have mu3_221 := mu3_220.ext hx174
    have mu3_222 := mu3_221.ext hx175
    have mu4_223 := mu4_20.ext hx18
    have mu4_224 := mu4_223.ext hx22
    have mu4_225 := mu4_224.ext hx24
    have mu4_226 := mu4_225.ext hx26
    have mu4_227 := mu4_226.ext hx29
    have mu4_228 := mu4_227.ext hx31
    have mu4_229 := mu4_228.ext hx35
    have mu4_230 := mu4_229.ext hx36
    have mu4_231 := mu4_230.ext hx37
    have mu4_232 := mu4_231.ext hx53
    have mu4_233 := mu4_232.ext hx54
    have mu4_234 := mu4_233.ext hx55
    have mu4_235 := mu4_234.ext hx73
    have mu4_236 := mu4_235.ext hx74
    have mu4_237 := mu4_236.ext hx75
    have mu4_238 := mu4_237.ext hx95
    have mu4_239 := mu4_238.ext hx96
    have mu4_240 := mu4_239.ext hx97
    have mu4_241 := mu4_240.ext hx119
    have mu4_242 := mu4_241.ext hx120
    have mu4_243 := mu4_242.ext hx121
    have mu4_244 := mu4_243.ext hx145
    have mu4_245 := mu4_244.ext hx146
    have mu4_246 := mu4_245.ext hx147
    have mu4_247 := mu4_246.ext hx173
    have mu4_248 := mu4_247.ext hx174
    have mu4_249 := mu4_248.ext hx175
    refine Ow.callA (k := 42) (fs := []) (cs := []) (vs := [u3, u4]) rfl rfl (by simp only [S0, Nat.reduceEqDiff, Nat.reduceAdd, reduceIte, reduceCtorEq, S1, g197_0, g197_1, g197_9, g197_10, g197_12, g197_16, g197_20, g197_153, g197_154, g197_155, g197_156, g197_157, g197_158, g197_159, g197_160, g197_161, g197_162, g197_163, g197_164, g197_165, g197_166, g197_167, hd198]) (scmp_any ext0_ok mu3_222.isB.wl mu4_249.isB.wl (by first | omega | (simp only [SL]; omega)) (by first | omega | (simp only [SL]; omega))) (fun _ _ _ h => h) ?_
    rintro _ H199 hx199 rfl
    (refine Ow.popM rfl ?_; simp only [S0, Nat.reduceEqDiff, Nat.reduceAdd, reduceIte, reduceCtorEq, S1, (w_scmp sm sn).1, g197_0, g197_1, g197_9, g197_10, g197_12, g197_16, g197_20, g197_153, g197_154, g197_155, g197_156, g197_157, g197_158, g197_159, g197_160, g197_161, g197_162, g197_163, g197_164, g197_165, g197_166, g197_167, hd198])
    iterate 3 (refine Ow.popM rfl ?_; simp only [S0, Nat.reduceEqDiff, Nat.reduceAdd, reduceIte, reduceCtorEq, S1, g197_0, g197_1, g197_9, g197_10, g197_12, g197_16, g197_20, g197_153, g197_154, g197_155, g197_156, g197_157, g197_158, g197_159, g197_160, g197_161, g197_162, g197_163, g197_164, g197_165, g197_166, g197_167, hd198])
    (refine Ow.popM rfl ?_; simp only [S0, Nat.reduceEqDiff, Nat.reduceAdd, reduceIte, reduceCtorEq, S1, g197_0, g197_1, g197_9, g197_10, g197_12, g197_16, g197_20, g197_153, g197_154, g197_155, g197_156, g197_157, g197_158, g197_159, g197_160, g197_161, g197_162, g197_163, g197_164, g197_165, g197_166, g197_167, hd198])
    iterate 3 (refine Ow.popM rfl ?_; simp only [S0, Nat.reduceEqDiff, Nat.reduceAdd, reduceIte, reduceCtorEq, S1, g197_0, g197_1, g197_9, g197_10, g197_12, g197_16, g197_20, g197_153, g197_154, g197_155, g197_156, g197_157, g197_158, g197_159, g197_160, g197_161, g197_162, g197_163, g197_164, g197_165, g197_166, g197_167, hd198])
    have mu3_251 := mu3_222.ext hx199
    have mu4_252 := mu4_249.ext hx199
    refine Ow.callA (k := 42) (fs := []) (cs := []) (vs := [u3, u4]) (by simp only [S0, Nat.reduceEqDiff, Nat.reduceAdd, reduceIte, reduceCtorEq, S1, g197_0, g197_1, g197_9, g197_10, g197_12, g197_16, g197_20, g197_153, g197_154, g197_155, g197_156, g197_157, g197_158, g197_159, g197_160, g197_161, g197_162, g197_163, g197_164, g197_165, g197_166, g197_167, hd198]) rfl (by simp only [S0, Nat.reduceEqDiff, Nat.reduceAdd, reduceIte, reduceCtorEq, S1, g197_0, g197_1, g197_9, g197_10, g197_12, g197_16, g197_20, g197_153, g197_154, g197_155, g197_156, g197_157, g197_158, g197_159, g197_160, g197_161, g197_162, g197_163, g197_164, g197_165, g197_166, g197_167, hd198]) (scmp_any ext0_ok mu3_251.isB.wl mu4_252.isB.wl (by first | omega | (simp only [SL]; omega)) (by first | omega | (simp only [SL]; omega))) (fun _ _ _ h => h) ?_
    rintro _ H250 hx250 rfl
    (refine Ow.popM rfl ?_; simp only [S0, Nat.reduceEqDiff, Nat.reduceAdd, reduceIte, reduceCtorEq, S1, (w_scmp sm sn).2, g197_0, g197_1, g197_9, g197_10, g197_12, g197_16, g197_20, g197_153, g197_154, g197_155, g197_156, g197_157, g197_158, g197_159, g197_160, g197_161, g197_162, g197_163, g197_164, g197_165, g197_166, g197_167, hd198])
    iterate 3 (refine Ow.popM rfl ?_; simp only [S0, Nat.reduceEqDiff, Nat.reduceAdd, reduceIte, reduceCtorEq, S1, g197_0, g197_1, g197_9, g197_10, g197_12, g197_16, g197_20, g197_153, g197_154, g197_155, g197_156, g197_157, g197_158, g197_159, g197_160, g197_161, g197_162, g197_163, g197_164, g197_165, g197_166, g197_167, hd198])
    (refine Ow.popM rfl ?_; simp only [S0, Nat.reduceEqDiff, Nat.reduceAdd, reduceIte, reduceCtorEq, S1, g197_0, g197_1, g197_9, g197_10, g197_12, g197_16, g197_20, g197_153, g197_154, g197_155, g197_156, g197_157, g197_158, g197_159, g197_160, g197_161, g197_162, g197_163, g197_164, g197_165, g197_166, g197_167, hd198])
    iterate 4 (refine Ow.popM rfl ?_; simp only [S0, Nat.reduceEqDiff, Nat.reduceAdd, reduceIte, reduceCtorEq, S1, g197_0, g197_1, g197_9, g197_10, g197_12, g197_16, g197_20, g197_153, g197_154, g197_155, g197_156, g197_157, g197_158, g197_159, g197_160, g197_161, g197_162, g197_163, g197_164, g197_165, g197_166, g197_167, hd198])
    have mu3_254 := mu3_251.ext hx250
    have mu4_255 := mu4_252.ext hx250
    refine Ow.callA (k := 30) (fs := []) (cs := []) (vs := [u3, u4]) (by simp only [S0, Nat.reduceEqDiff, Nat.reduceAdd, reduceIte, reduceCtorEq, S1, g197_0, g197_1, g197_9, g197_10, g197_12, g197_16, g197_20, g197_153, g197_154, g197_155, g197_156, g197_157, g197_158, g197_159, g197_160, g197_161, g197_162, g197_163, g197_164, g197_165, g197_166, g197_167, hd198]) rfl (by simp only [S0, Nat.reduceEqDiff, Nat.reduceAdd, reduceIte, reduceCtorEq, S1, g197_0, g197_1, g197_9, g197_10, g197_12, g197_16, g197_20, g197_153, g197_154, g197_155, g197_156, g197_157, g197_158, g197_159, g197_160, g197_161, g197_162, g197_163, g197_164, g197_165, g197_166, g197_167, hd198]) (cmp_any ext0_ok mu3_254.isB.wl mu4_255.isB.wl (by first | omega | (simp only [SL]; omega)) (by first | omega | (simp only [SL]; omega))) (fun _ _ _ h => h) ?_
    rintro _ H253 hx253 rfl
    refine Ow.gen (fun E => E.get 0 = some (.int .i64 (m)) ∧ E.get 1 = some (.int .i64 (n)) ∧ E.get 16 = some (.int .u64 (((2 ^ w - 1 : Nat) : Int))) ∧ E.get 258 = some (.bool true) ∧ E.get 261 = some (.int .i64 (cmpN (val (ofI w m)) (val (ofI w n))))) ⟨(by simp only [S0, Nat.reduceEqDiff, Nat.reduceAdd, reduceIte, reduceCtorEq, S1, and_self, g197_0, g197_1, g197_9, g197_10, g197_12, g197_16, g197_20, g197_153, g197_154, g197_155, g197_156, g197_157, g197_158, g197_159, g197_160, g197_161, g197_162, g197_163, g197_164, g197_165, g197_166, g197_167, hd198]), (by simp only [S0, Nat.reduceEqDiff, Nat.reduceAdd, reduceIte, reduceCtorEq, S1, and_self, g197_0, g197_1, g197_9, g197_10, g197_12, g197_16, g197_20, g197_153, g197_154, g197_155, g197_156, g197_157, g197_158, g197_159, g197_160, g197_161, g197_162, g197_163, g197_164, g197_165, g197_166, g197_167, hd198]), (by simp only [S0, Nat.reduceEqDiff, Nat.reduceAdd, reduceIte, reduceCtorEq, S1, and_self, g197_0, g197_1, g197_9, g197_10, g197_12, g197_16, g197_20, g197_153, g197_154, g197_155, g197_156, g197_157, g197_158, g197_159, g197_160, g197_161, g197_162, g197_163, g197_164, g197_165, g197_166, g197_167, hd198]), (by simp only [S0, Nat.reduceEqDiff, Nat.reduceAdd, reduceIte, reduceCtorEq, S1, and_self, g197_0, g197_1, g197_9, g197_10, g197_12, g197_16, g197_20, g197_153, g197_154, g197_155, g197_156, g197_157, g197_158, g197_159, g197_160, g197_161, g197_162, g197_163, g197_164, g197_165, g197_166, g197_167, hd198]), (by simp only [S0, Nat.reduceEqDiff, Nat.reduceAdd, reduceIte, reduceCtorEq, S1, and_self, g197_0, g197_1, g197_9, g197_10, g197_12, g197_16, g197_20, g197_153, g197_154, g197_155, g197_156, g197_157, g197_158, g197_159, g197_160, g197_161, g197_162, g197_163, g197_164, g197_165, g197_166, g197_167, hd198])⟩ ?_
    rintro E256 ⟨g256_0, g256_1, g256_16, g256_258, g256_261⟩
    (refine Ow.popM rfl ?_; simp only [S0, Nat.reduceEqDiff, Nat.reduceAdd, reduceIte, reduceCtorEq, S1, cmp_lss (val (ofI w m)) (val (ofI w n)), g256_0, g256_1, g256_16, g256_258, g256_261, hd198])
    iterate 2 (refine Ow.popM rfl ?_; simp only [S0, Nat.reduceEqDiff, Nat.reduceAdd, reduceIte, reduceCtorEq, S1, conv_u64 m, g256_0, g256_1, g256_16, g256_258, g256_261, hd198])
    iterate 2 (refine Ow.popM rfl ?_; simp only [S0, Nat.reduceEqDiff, Nat.reduceAdd, reduceIte, reduceCtorEq, S1, and_mask h2w m, g256_0, g256_1, g256_16, g256_258, g256_261, hd198])
    iterate 2 (refine Ow.popM rfl ?_; simp only [S0, Nat.reduceEqDiff, Nat.reduceAdd, reduceIte, reduceCtorEq, S1, conv_u64 n, g256_0, g256_1, g256_16, g256_258, g256_261, hd198])
    iterate 2 (refine Ow.popM rfl ?_; simp only [S0, Nat.reduceEqDiff, Nat.reduceAdd, reduceIte, reduceCtorEq, S1, and_mask h2w n, g256_0, g256_1, g256_16, g256_258, g256_261, hd198])
    (refine Ow.popM rfl ?_; simp only [S0, Nat.reduceEqDiff, Nat.reduceAdd, reduceIte, reduceCtorEq, S1, lt_dec (val (ofI w m)) (val (ofI w n)), g256_0, g256_1, g256_16, g256_258, g256_261, hd198])
    (refine Ow.popM rfl ?_; simp only [S0, Nat.reduceEqDiff, Nat.reduceAdd, reduceIte, reduceCtorEq, S1, g256_0, g256_1, g256_16, g256_258, g256_261, hd198])
    iterate 2 (refine Ow.popM rfl ?_; simp only [S0, Nat.reduceEqDiff, Nat.reduceAdd, reduceIte, reduceCtorEq, S1, g256_0, g256_1, g256_16, g256_258, g256_261, hd198])
    refine Ow.nilM ⟨nofun, ?_⟩
    show Cw _ _ _ _ _
    refine Cw.ret ?_
    simp only [Then, InBlock, Rnd, FnPost, resOf, tupled, S0, Nat.reduceEqDiff, Nat.reduceAdd, reduceIte, reduceCtorEq, g256_0, g256_1, g256_16, g256_258, g256_261, hd198]
  · have hd257 : decide (n = 0) = false := decide_eq_false hn0
    have hv0 : ¬ val (ofI w n) = 0 := val_I_ne sn hn0
    have hv1 : ¬ ((val (ofI w n) : Nat) : Int) = 0 := by omega
    refine Cw.region ?_
    iterate 2 (refine Ow.popM rfl ?_; simp only [S0, Nat.reduceEqDiff, Nat.reduceAdd, reduceIte, reduceCtorEq, S1, show (n != 0) = true from bne_iff_ne.2 hn0, g197_0, g197_1, g197_9, g197_10, g197_12, g197_16, g197_20, g197_153, g197_154, g197_155, g197_156, g197_157, g197_158, g197_159, g197_160, g197_161, g197_162, g197_163, g197_164, g197_165, g197_166, g197_167, hd257])
    refine Ow.nilM ⟨nofun, ?_⟩
    show Cw _ _ _ _ _
    refine Cw.cond (t := true) (by simp only [S0, Nat.reduceEqDiff, Nat.reduceAdd, reduceIte, reduceCtorEq, S1, g197_0, g197_1, g197_9, g197_10, g197_12, g197_16, g197_20, g197_153, g197_154, g197_155, g197_156, g197_157, g197_158, g197_159, g197_160, g197_161, g197_162, g197_163, g197_164, g197_165, g197_166, g197_167, hd257]) ?_
    refine Cw.seq ?_
    refine Cw.region ?_
    iterate 2 (refine Ow.popM rfl ?_; simp only [S0, Nat.reduceEqDiff, Nat.reduceAdd, reduceIte, reduceCtorEq, S1, g197_0, g197_1, g197_9, g197_10, g197_12, g197_16, g197_20, g197_153, g197_154, g197_155, g197_156, g197_157, g197_158, g197_159, g197_160, g197_161, g197_162, g197_163, g197_164, g197_165, g197_166, g197_167, hd257])
    have mu3_259 := mu3_30.ext hx29
    have mu3_260 := mu3_259.ext hx31
    have mu3_261 := mu3_260.ext hx35
    have mu3_262 := mu3_261.ext hx36
    have mu3_263 := mu3_262.ext hx37
    have mu3_264 := mu3_263.ext hx53
    have mu3_265 := mu3_264.ext hx54
    have mu3_266 := mu3_265.ext hx55
    have mu3_267 := mu3_266.ext hx73
    have mu3_268 := mu3_267.ext hx74
    have mu3_269 := mu3_268.ext hx75
    have mu3_270 := mu3_269.ext hx95
    have mu3_271 := mu3_270.ext hx96
    have mu3_272 := mu3_271.ext hx97
    have mu3_273 := mu3_272.ext hx119
    have mu3_274 := mu3_273.ext hx120
    have mu3_275 := mu3_274.ext hx121
    have mu3_276 := mu3_275.ext hx145
    have mu3_277 := mu3_276.ext hx146
    have mu3_278 := mu3_277.ext hx147
    have mu3_279 := mu3_278.ext hx173
    have mu3_280 := mu3_279.ext hx174
    have mu3_281 := mu3_280.ext hx175
    have mu4_282 := mu4_20.ext hx18
    have mu4_283 := mu4_282.ext hx22
    have mu4_284 := mu4_283.ext hx24
    have mu4_285 := mu4_284.ext hx26
    have mu4_286 := mu4_285.ext hx29
    have mu4_287 := mu4_286.ext hx31
    have mu4_288 := mu4_287.ext hx35
    have mu4_289 := mu4_288.ext hx36
    have mu4_290 := mu4_289.ext hx37
    have mu4_291 := mu4_290.ext hx53
    have mu4_292 := mu4_291.ext hx54
    have mu4_293 := mu4_292.ext hx55
    have mu4_294 := mu4_293.ext hx73
    have mu4_295 := mu4_294.ext hx74
    have mu4_296 := mu4_295.ext hx75
    have mu4_297 := mu4_296.ext hx95
    have mu4_298 := mu4_297.ext hx96
    have mu4_299 := mu4_298.ext hx97
    have mu4_300 := mu4_299.ext hx119
    have mu4_301 := mu4_300.ext hx120
    have mu4_302 := mu4_301.ext hx121
    have mu4_303 := mu4_302.ext hx145
    have mu4_304 := mu4_303.ext hx146
    have mu4_305 := mu4_304.ext hx147
    have mu4_306 := mu4_305.ext hx173
    have mu4_307 := mu4_306.ext hx174
    have mu4_308 := mu4_307.ext hx175
    refine Ow.callA (k := 19) (fs := []) (cs := []) (vs := [u3, u4]) rfl rfl (by simp only [S0, Nat.reduceEqDiff, Nat.reduceAdd, reduceIte, reduceCtorEq, S1, g197_0, g197_1, g197_9, g197_10, g197_12, g197_16, g197_20, g197_153, g197_154, g197_155, g197_156, g197_157, g197_158, g197_159, g197_160, g197_161, g197_162, g197_163, g197_164, g197_165, g197_166, g197_167, hd257]) (sdivmod_any ext0_ok mu3_281.isB.wl mu4_308.isB.wl (by first | omega | (simp only [SL]; omega)) (by first | omega | (simp only [SL]; omega))) (fun _ _ _ h => h) ?_
    rintro v258 H258 hx258 r258
    rw [if_neg (fun h => hv0 (absN_zero.1 h))] at r258
    obtain ⟨u258, w258, rfl, mu258, mw258⟩ := r258
    iterate 7 (refine Ow.popM rfl ?_; simp only [S0, Nat.reduceEqDiff, Nat.reduceAdd, reduceIte, reduceCtorEq, S1, g197_0, g197_1, g197_9, g197_10, g197_12, g197_16, g197_20, g197_153, g197_154, g197_155, g197_156, g197_157, g197_158, g197_159, g197_160, g197_161, g197_162, g197_163, g197_164, g197_165, g197_166, g197_167, hd257])
    refine Ow.nilM ⟨nofun, ?_⟩
    show Cw _ _ _ _ _
    refine Cw.seq ?_
    refine Cw.region ?_
    iterate 2 (refine Ow.popM rfl ?_; simp only [S0, Nat.reduceEqDiff, Nat.reduceAdd, reduceIte, reduceCtorEq, S1, g197_0, g197_1, g197_9, g197_10, g197_12, g197_16, g197_20, g197_153, g197_154, g197_155, g197_156, g197_157, g197_158, g197_159, g197_160, g197_161, g197_162, g197_163, g197_164, g197_165, g197_166, g197_167, hd257])
    have mu3_310 := mu3_281.ext hx258
    have mu4_311 := mu4_308.ext hx258
    refine Ow.callA (k := 18) (fs := []) (cs := []) (vs := [u3, u4]) rfl rfl (by simp only [S0, Nat.reduceEqDiff, Nat.reduceAdd, reduceIte, reduceCtorEq, S1, g197_0, g197_1, g197_9, g197_10, g197_12, g197_16, g197_20, g197_153, g197_154, g197_155, g197_156, g197_157, g197_158, g197_159, g197_160, g197_161, g197_162, g197_163, g197_164, g197_165, g197_166, g197_167, hd257]) (divmod_any ext0_ok mu3_310.isB.wl mu4_311.isB.wl (by first | omega | (simp only [SL]; omega)) (by first | omega | (simp only [SL]; omega))) (fun _ _ _ h => h) ?_
    rintro v309 H309 hx309 r309
    rw [if_neg hv0] at r309
    obtain ⟨u309, w309, rfl, ⟨iu309, hiu309, mu309⟩, mw309⟩ := r309
    iterate 7 (refine Ow.popM rfl ?_; simp only [S0, Nat.reduceEqDiff, Nat.reduceAdd, reduceIte, reduceCtorEq, S1, g197_0, g197_1, g197_9, g197_10, g197_12, g197_16, g197_20, g197_153, g197_154, g197_155, g197_156, g197_157, g197_158, g197_159, g197_160, g197_161, g197_162, g197_163, g197_164, g197_165, g197_166, g197_167, hd257])
    refine Ow.nilM ⟨nofun, ?_⟩
    show Cw _ _ _ _ _
    refine Cw.seq ?_
    refine Cw.region ?_
    iterate 2 (refine Ow.popM rfl ?_; simp only [S0, Nat.reduceEqDiff, Nat.reduceAdd, reduceIte, reduceCtorEq, S1, conv_u64 m, g197_0, g197_1, g197_9, g197_10, g197_12, g197_16, g197_20, g197_153, g197_154, g197_155, g197_156, g197_157, g197_158, g197_159, g197_160, g197_161, g197_162, g197_163, g197_164, g197_165, g197_166, g197_167, hd257])
    refine Ow.gen (fun E => E.get 0 = some (.int .i64 (m)) ∧ E.get 1 = some (.int .i64 (n)) ∧ E.get 9 = some (.int .i64 ((w : Nat) : Int)) ∧ E.get 10 = some (u3) ∧ E.get 12 = some (u4) ∧ E.get 16 = some (.int .u64 (((2 ^ w - 1 : Nat) : Int))) ∧ E.get 21 = some (u258) ∧ E.get 22 = some (w258) ∧ E.get 23 = some (.int .i64 (0)) ∧ E.get 24 = some (u309) ∧ E.get 25 = some (w309) ∧ E.get 26 = some (.int .i64 (0)) ∧ E.get 185 = some (.int .u64 ((((m % 2 ^ 64).toNat : Nat) : Int)))) ⟨(by simp only [S0, Nat.reduceEqDiff, Nat.reduceAdd, reduceIte, reduceCtorEq, S1, and_self, g197_0, g197_1, g197_9, g197_10, g197_12, g197_16, g197_20, g197_153, g197_154, g197_155, g197_156, g197_157, g197_158, g197_159, g197_160, g197_161, g197_162, g197_163, g197_164, g197_165, g197_166, g197_167, hd257]), (by simp only [S0, Nat.reduceEqDiff, Nat.reduceAdd, reduceIte, reduceCtorEq, S1, and_self, g197_0, g197_1, g197_9, g197_10, g197_12, g197_16, g197_20, g197_153, g197_154, g197_155, g197_156, g197_157, g197_158, g197_159, g197_160, g197_161, g197_162, g197_163, g197_164, g197_165, g197_166, g197_167, hd257]), (by simp only [S0, Nat.reduceEqDiff, Nat.reduceAdd, reduceIte, reduceCtorEq, S1, and_self, g197_0, g197_1, g197_9, g197_10, g197_12, g197_16, g197_20, g197_153, g197_154, g197_155, g197_156, g197_157, g197_158, g197_159, g197_160, g197_161, g197_162, g197_163, g197_164, g197_165, g197_166, g197_167, hd257]), (by simp only [S0, Nat.reduceEqDiff, Nat.reduceAdd, reduceIte, reduceCtorEq, S1, and_self, g197_0, g197_1, g197_9, g197_10, g197_12, g197_16, g197_20, g197_153, g197_154, g197_155, g197_156, g197_157, g197_158, g197_159, g197_160, g197_161, g197_162, g197_163, g197_164, g197_165, g197_166, g197_167, hd257]), (by simp only [S0, Nat.reduceEqDiff, Nat.reduceAdd, reduceIte, reduceCtorEq, S1, and_self, g197_0, g197_1, g197_9, g197_10, g197_12, g197_16, g197_20, g197_153, g197_154, g197_155, g197_156, g197_157, g197_158, g197_159, g197_160, g197_161, g197_162, g197_163, g197_164, g197_165, g197_166, g197_167, hd257]), (by simp only [S0, Nat.reduceEqDiff, Nat.reduceAdd, reduceIte, reduceCtorEq, S1, and_self, g197_0, g197_1, g197_9, g197_10, g197_12, g197_16, g197_20, g197_153, g197_154, g197_155, g197_156, g197_157, g197_158, g197_159, g197_160, g197_161, g197_162, g197_163, g197_164, g197_165, g197_166, g197_167, hd257]), (by simp only [S0, Nat.reduceEqDiff, Nat.reduceAdd, reduceIte, reduceCtorEq, S1, and_self, g197_0, g197_1, g197_9, g197_10, g197_12, g197_16, g197_20, g197_153, g197_154, g197_155, g197_156, g197_157, g197_158, g197_159, g197_160, g197_161, g197_162, g197_163, g197_164, g197_165, g197_166, g197_167, hd257]), (by simp only [S0, Nat.reduceEqDiff, Nat.reduceAdd, reduceIte, reduceCtorEq, S1, and_self, g197_0, g197_1, g197_9, g197_10, g197_12, g197_16, g197_20, g197_153, g197_154, g197_155, g197_156, g197_157, g197_158, g197_159, g197_160, g197_161, g197_162, g197_163, g197_164, g197_165, g197_166, g197_167, hd257]), (by simp only [S0, Nat.reduceEqDiff, Nat.reduceAdd, reduceIte, reduceCtorEq, S1, and_self, g197_0, g197_1, g197_9, g197_10, g197_12, g197_16, g197_20, g197_153, g197_154, g197_155, g197_156, g197_157, g197_158, g197_159, g197_160, g197_161, g197_162, g197_163, g197_164, g197_165, g197_166, g197_167, hd257]), (by simp only [S0, Nat.reduceEqDiff, Nat.reduceAdd, reduceIte, reduceCtorEq, S1, and_self, g197_0, g197_1, g197_9, g197_10, g197_12, g197_16, g197_20, g197_153, g197_154, g197_155, g197_156, g197_157, g197_158, g197_159, g197_160, g197_161, g197_162, g197_163, g197_164, g197_165, g197_166, g197_167, hd257]), (by simp only [S0, Nat.reduceEqDiff, Nat.reduceAdd, reduceIte, reduceCtorEq, S1, and_self, g197_0, g197_1, g197_9, g197_10, g197_12, g197_16, g197_20, g197_153, g197_154, g197_155, g197_156, g197_157, g197_158, g197_159, g197_160, g197_161, g197_162, g197_163, g197_164, g197_165, g197_166, g197_167, hd257]), (by simp only [S0, Nat.reduceEqDiff, Nat.reduceAdd, reduceIte, reduceCtorEq, S1, and_self, g197_0, g197_1, g197_9, g197_10, g197_12, g197_16, g197_20, g197_153, g197_154, g197_155, g197_156, g197_157, g197_158, g197_159, g197_160, g197_161, g197_162, g197_163, g197_164, g197_165, g197_166, g197_167, hd257]), (by simp only [S0, Nat.reduceEqDiff, Nat.reduceAdd, reduceIte, reduceCtorEq, S1, and_self, g197_0, g197_1, g197_9, g197_10, g197_12, g197_16, g197_20, g197_153, g197_154, g197_155, g197_156, g197_157, g197_158, g197_159, g197_160, g197_161, g197_162, g197_163, g197_164, g197_165, g197_166, g197_167, hd257])⟩ ?_
    rintro E312 ⟨g312_0, g312_1, g312_9, g312_10, g312_12, g312_16, g312_21, g312_22, g312_23, g312_24, g312_25, g312_26, g312_185⟩
    iterate 2 (refine Ow.popM rfl ?_; simp only [S0, Nat.reduceEqDiff, Nat.reduceAdd, reduceIte, reduceCtorEq, S1, and_mask h2w m, g312_0, g312_1, g312_9, g312_10, g312_12, g312_16, g312_21, g312_22, g312_23, g312_24, g312_25, g312_26, g312_185, hd257])
    iterate 2 (refine Ow.popM rfl ?_; simp only [S0, Nat.reduceEqDiff, Nat.reduceAdd, reduceIte, reduceCtorEq, S1, conv_u64 n, g312_0, g312_1, g312_9, g312_10, g312_12, g312_16, g312_21, g312_22, g312_23, g312_24, g312_25, g312_26, g312_185, hd257])
    iterate 2 (refine Ow.popM rfl ?_; simp only [S0, Nat.reduceEqDiff, Nat.reduceAdd, reduceIte, reduceCtorEq, S1, and_mask h2w n, g312_0, g312_1, g312_9, g312_10, g312_12, g312_16, g312_21, g312_22, g312_23, g312_24, g312_25, g312_26, g312_185, hd257])
    iterate 2 (refine Ow.popM rfl ?_; simp only [S0, Nat.reduceEqDiff, Nat.reduceAdd, reduceIte, reduceCtorEq, S1, g312_0, g312_1, g312_9, g312_10, g312_12, g312_16, g312_21, g312_22, g312_23, g312_24, g312_25, g312_26, g312_185, hd257])
    refine Ow.nilM ⟨nofun, ?_⟩
    show Cw _ _ _ _ _
    refine Cw.seq ?_
    refine Cw.region ?_
    iterate 11 (refine Ow.popM rfl ?_; simp only [S0, Nat.reduceEqDiff, Nat.reduceAdd, reduceIte, reduceCtorEq, S1, show ((0 : Int) != 0) = false from rfl, hn0, g312_0, g312_1, g312_9, g312_10, g312_12, g312_16, g312_21, g312_22, g312_23, g312_24, g312_25, g312_26, g312_185, hd257])
    (refine Ow.popM rfl ?_; simp only [S0, Nat.reduceEqDiff, Nat.reduceAdd, reduceIte, reduceCtorEq, S1, g312_0, g312_1, g312_9, g312_10, g312_12, g312_16, g312_21, g312_22, g312_23, g312_24, g312_25, g312_26, g312_185, hd257])
    refine Ow.callA (k := 29) (fs := []) (cs := []) (vs := [.int .i64 (fwrap .i64 (m.tdiv n)), .int .i64 ((w : Nat) : Int)]) (by simp only [S0, Nat.reduceEqDiff, Nat.reduceAdd, reduceIte, reduceCtorEq, S1, g312_0, g312_1, g312_9, g312_10, g312_12, g312_16, g312_21, g312_22, g312_23, g312_24, g312_25, g312_26, g312_185, hd257]) rfl (by simp only [S0, Nat.reduceEqDiff, Nat.reduceAdd, reduceIte, reduceCtorEq, S1, g312_0, g312_1, g312_9, g312_10, g312_12, g312_16, g312_21, g312_22, g312_23, g312_24, g312_25, g312_26, g312_185, hd257]) (of_any ext0_ok (by omega)) (fun _ _ _ h => h) ?_
    rintro v313 H313 hx313 m313
    have mu258_315 := mu258.ext hx309
    have mu258_316 := mu258_315.ext hx313
    refine Ow.callPA (k := 20) (fs := []) (cs := []) (vs := [u258, v313]) (by simp only [S0, Nat.reduceEqDiff, Nat.reduceAdd, reduceIte, reduceCtorEq, S1, g312_0, g312_1, g312_9, g312_10, g312_12, g312_16, g312_21, g312_22, g312_23, g312_24, g312_25, g312_26, g312_185, hd257]) rfl (by simp only [S0, Nat.reduceEqDiff, Nat.reduceAdd, reduceIte, reduceCtorEq, S1, g312_0, g312_1, g312_9, g312_10, g312_12, g312_16, g312_21, g312_22, g312_23, g312_24, g312_25, g312_26, g312_185, hd257]) (same_T ext0_ok mu258_316.isB.wl m313.isR.isB.wl (by first | omega | (simp only [SL]; omega)) (w_quo sm sn)) ?_
    intro H314 hx314
    iterate 3 (refine Ow.popM rfl ?_; simp only [S0, Nat.reduceEqDiff, Nat.reduceAdd, reduceIte, reduceCtorEq, S1, g312_0, g312_1, g312_9, g312_10, g312_12, g312_16, g312_21, g312_22, g312_23, g312_24, g312_25, g312_26, g312_185, hd257])
    refine Ow.gen (fun E => E.get 0 = some (.int .i64 (m)) ∧ E.get 1 = some (.int .i64 (n)) ∧ E.get 9 = some (.int .i64 ((w : Nat) : Int)) ∧ E.get 10 = some (u3) ∧ E.get 12 = some (u4) ∧ E.get 16 = some (.int .u64 (((2 ^ w - 1 : Nat) : Int))) ∧ E.get 22 = some (w258) ∧ E.get 24 = some (u309) ∧ E.get 25 = some (w309) ∧ E.get 27 = some (.int .u64 (((val (ofI w m) : Nat) : Int))) ∧ E.get 28 = some (.int .u64 (((val (ofI w n) : Nat) : Int))) ∧ E.get 208 = some (.bool false)) ⟨(by simp only [S0, Nat.reduceEqDiff, Nat.reduceAdd, reduceIte, reduceCtorEq, S1, and_self, g312_0, g312_1, g312_9, g312_10, g312_12, g312_16, g312_21, g312_22, g312_23, g312_24, g312_25, g312_26, g312_185, hd257]), (by simp only [S0, Nat.reduceEqDiff, Nat.reduceAdd, reduceIte, reduceCtorEq, S1, and_self, g312_0, g312_1, g312_9, g312_10, g312_12, g312_16, g312_21, g312_22, g312_23, g312_24, g312_25, g312_26, g312_185, hd257]), (by simp only [S0, Nat.reduceEqDiff, Nat.reduceAdd, reduceIte, reduceCtorEq, S1, and_self, g312_0, g312_1, g312_9, g312_10, g312_12, g312_16, g312_21, g312_22, g312_23, g312_24, g312_25, g312_26, g312_185, hd257]), (by simp only [S0, Nat.reduceEqDiff, Nat.reduceAdd, reduceIte, reduceCtorEq, S1, and_self, g312_0, g312_1, g312_9, g312_10, g312_12, g312_16, g312_21, g312_22, g312_23, g312_24, g312_25, g312_26, g312_185, hd257]), (by simp only [S0, Nat.reduceEqDiff, Nat.reduceAdd, reduceIte, reduceCtorEq, S1, and_self, g312_0, g312_1, g312_9, g312_10, g312_12, g312_16, g312_21, g312_22, g312_23, g312_24, g312_25, g312_26, g312_185, hd257]), (by simp only [S0, Nat.reduceEqDiff, Nat.reduceAdd, reduceIte, reduceCtorEq, S1, and_self, g312_0, g312_1, g312_9, g312_10, g312_12, g312_16, g312_21, g312_22, g312_23, g312_24, g312_25, g312_26, g312_185, hd257]), (by simp only [S0, Nat.reduceEqDiff, Nat.reduceAdd, reduceIte, reduceCtorEq, S1, and_self, g312_0, g312_1, g312_9, g312_10, g312_12, g312_16, g312_21, g312_22, g312_23, g312_24, g312_25, g312_26, g312_185, hd257]), (by simp only [S0, Nat.reduceEqDiff, Nat.reduceAdd, reduceIte, reduceCtorEq, S1, and_self, g312_0, g312_1, g312_9, g312_10, g312_12, g312_16, g312_21, g312_22, g312_23, g312_24, g312_25, g312_26, g312_185, hd257]), (by simp only [S0, Nat.reduceEqDiff, Nat.reduceAdd, reduceIte, reduceCtorEq, S1, and_self, g312_0, g312_1, g312_9, g312_10, g312_12, g312_16, g312_21, g312_22, g312_23, g312_24, g312_25, g312_26, g312_185, hd257]), (by simp only [S0, Nat.reduceEqDiff, Nat.reduceAdd, reduceIte, reduceCtorEq, S1, and_self, g312_0, g312_1, g312_9, g312_10, g312_12, g312_16, g312_21, g312_22, g312_23, g312_24, g312_25, g312_26, g312_185, hd257]), (by simp only [S0, Nat.reduceEqDiff, Nat.reduceAdd, reduceIte, reduceCtorEq, S1, and_self, g312_0, g312_1, g312_9, g312_10, g312_12, g312_16, g312_21, g312_22, g312_23, g312_24, g312_25, g312_26, g312_185, hd257]), (by simp only [S0, Nat.reduceEqDiff, Nat.reduceAdd, reduceIte, reduceCtorEq, S1, and_self, g312_0, g312_1, g312_9, g312_10, g312_12, g312_16, g312_21, g312_22, g312_23, g312_24, g312_25, g312_26, g312_185, hd257])⟩ ?_
    rintro E317 ⟨g317_0, g317_1, g317_9, g317_10, g317_12, g317_16, g317_22, g317_24, g317_25, g317_27, g317_28, g317_208⟩
    iterate 4 (refine Ow.popM rfl ?_; simp only [S0, Nat.reduceEqDiff, Nat.reduceAdd, reduceIte, reduceCtorEq, S1, hn0, g317_0, g317_1, g317_9, g317_10, g317_12, g317_16, g317_22, g317_24, g317_25, g317_27, g317_28, g317_208, hd257])
    (refine Ow.popM rfl ?_; simp only [S0, Nat.reduceEqDiff, Nat.reduceAdd, reduceIte, reduceCtorEq, S1, g317_0, g317_1, g317_9, g317_10, g317_12, g317_16, g317_22, g317_24, g317_25, g317_27, g317_28, g317_208, hd257])
    refine Ow.callA (k := 29) (fs := []) (cs := []) (vs := [.int .i64 (m.tmod n), .int .i64 ((w : Nat) : Int)]) (by simp only [S0, Nat.reduceEqDiff, Nat.reduceAdd, reduceIte, reduceCtorEq, S1, g317_0, g317_1, g317_9, g317_10, g317_12, g317_16, g317_22, g317_24, g317_25, g317_27, g317_28, g317_208, hd257]) rfl (by simp only [S0, Nat.reduceEqDiff, Nat.reduceAdd, reduceIte, reduceCtorEq, S1, g317_0, g317_1, g317_9, g317_10, g317_12, g317_16, g317_22, g317_24, g317_25, g317_27, g317_28, g317_208, hd257]) (of_any ext0_ok (by omega)) (fun _ _ _ h => h) ?_
    rintro v318 H318 hx318 m318
    have mw258_320 := mw258.ext hx309
    have mw258_321 := mw258_320.ext hx313
    have mw258_322 := mw258_321.ext hx314
    have mw258_323 := mw258_322.ext hx318
    refine Ow.callPA (k := 20) (fs := []) (cs := []) (vs := [w258, v318]) (by simp only [S0, Nat.reduceEqDiff, Nat.reduceAdd, reduceIte, reduceCtorEq, S1, g317_0, g317_1, g317_9, g317_10, g317_12, g317_16, g317_22, g317_24, g317_25, g317_27, g317_28, g317_208, hd257]) rfl (by simp only [S0, Nat.reduceEqDiff, Nat.reduceAdd, reduceIte, reduceCtorEq, S1, g317_0, g317_1, g317_9, g317_10, g317_12, g317_16, g317_22, g317_24, g317_25, g317_27, g317_28, g317_208, hd257]) (same_T ext0_ok mw258_323.isB.wl m318.isR.isB.wl (by first | omega | (simp only [SL]; omega)) (w_rem sm sn)) ?_
    intro H319 hx319
    iterate 7 (refine Ow.popM rfl ?_; simp only [S0, Nat.reduceEqDiff, Nat.reduceAdd, reduceIte, reduceCtorEq, S1, hv1, g317_0, g317_1, g317_9, g317_10, g317_12, g317_16, g317_22, g317_24, g317_25, g317_27, g317_28, g317_208, hd257])
    iterate 2 (refine Ow.popM rfl ?_; simp only [S0, Nat.reduceEqDiff, Nat.reduceAdd, reduceIte, reduceCtorEq, S1, g317_0, g317_1, g317_9, g317_10, g317_12, g317_16, g317_22, g317_24, g317_25, g317_27, g317_28, g317_208, hd257])
    refine Ow.callA (k := 29) (fs := []) (cs := []) (vs := [.int .i64 (fwrap .i64 (fwrap .u64 ((((val (ofI w m) : Nat) : Int)).tdiv (((val (ofI w n) : Nat) : Int))))), .int .i64 ((w : Nat) : Int)]) (by simp only [S0, Nat.reduceEqDiff, Nat.reduceAdd, reduceIte, reduceCtorEq, S1, g317_0, g317_1, g317_9, g317_10, g317_12, g317_16, g317_22, g317_24, g317_25, g317_27, g317_28, g317_208, hd257]) rfl (by simp only [S0, Nat.reduceEqDiff, Nat.reduceAdd, reduceIte, reduceCtorEq, S1, g317_0, g317_1, g317_9, g317_10, g317_12, g317_16, g317_22, g317_24, g317_25, g317_27, g317_28, g317_208, hd257]) (of_any ext0_ok (by omega)) (fun _ _ _ h => h) ?_
    rintro v324 H324 hx324 m324
    have mu309_326 := mu309.ext hx313
    have mu309_327 := mu309_326.ext hx314
    have mu309_328 := mu309_327.ext hx318
    have mu309_329 := mu309_328.ext hx319
    have mu309_330 := mu309_329.ext hx324
    refine Ow.callPA (k := 20) (fs := []) (cs := []) (vs := [u309, v324]) (by simp only [S0, Nat.reduceEqDiff, Nat.reduceAdd, reduceIte, reduceCtorEq, S1, g317_0, g317_1, g317_9, g317_10, g317_12, g317_16, g317_22, g317_24, g317_25, g317_27, g317_28, g317_208, hd257]) rfl (by simp only [S0, Nat.reduceEqDiff, Nat.reduceAdd, reduceIte, reduceCtorEq, S1, g317_0, g317_1, g317_9, g317_10, g317_12, g317_16, g317_22, g317_24, g317_25, g317_27, g317_28, g317_208, hd257]) (same_T ext0_ok mu309_330.isB.wl m324.isR.isB.wl (by first | omega | (simp only [SL]; omega)) (by rw [ofI_length]; exact w_uquo h2w _ _)) ?_
    intro H325 hx325
    iterate 7 (refine Ow.popM rfl ?_; simp only [S0, Nat.reduceEqDiff, Nat.reduceAdd, reduceIte, reduceCtorEq, S1, hv1, g317_0, g317_1, g317_9, g317_10, g317_12, g317_16, g317_22, g317_24, g317_25, g317_27, g317_28, g317_208, hd257])
    refine Ow.gen (fun E => E.get 0 = some (.int .i64 (m)) ∧ E.get 1 = some (.int .i64 (n)) ∧ E.get 9 = some (.int .i64 ((w : Nat) : Int)) ∧ E.get 10 = some (u3) ∧ E.get 12 = some (u4) ∧ E.get 16 = some (.int .u64 (((2 ^ w - 1 : Nat) : Int))) ∧ E.get 229 = some (.bool false) ∧ E.get 230 = some (w309) ∧ E.get 233 = some (.int .u64 ((((val (ofI w m) : Nat) : Int)).tmod (((val (ofI w n) : Nat) : Int))))) ⟨(by simp only [S0, Nat.reduceEqDiff, Nat.reduceAdd, reduceIte, reduceCtorEq, S1, and_self, g317_0, g317_1, g317_9, g317_10, g317_12, g317_16, g317_22, g317_24, g317_25, g317_27, g317_28, g317_208, hd257]), (by simp only [S0, Nat.reduceEqDiff, Nat.reduceAdd, reduceIte, reduceCtorEq, S1, and_self, g317_0, g317_1, g317_9, g317_10, g317_12, g317_16, g317_22, g317_24, g317_25, g317_27, g317_28, g317_208, hd257]), (by simp only [S0, Nat.reduceEqDiff, Nat.reduceAdd, reduceIte, reduceCtorEq, S1, and_self, g317_0, g317_1, g317_9, g317_10, g317_12, g317_16, g317_22, g317_24, g317_25, g317_27, g317_28, g317_208, hd257]), (by simp only [S0, Nat.reduceEqDiff, Nat.reduceAdd, reduceIte, reduceCtorEq, S1, and_self, g317_0, g317_1, g317_9, g317_10, g317_12, g317_16, g317_22, g317_24, g317_25, g317_27, g317_28, g317_208, hd257]), (by simp only [S0, Nat.reduceEqDiff, Nat.reduceAdd, reduceIte, reduceCtorEq, S1, and_self, g317_0, g317_1, g317_9, g317_10, g317_12, g317_16, g317_22, g317_24, g317_25, g317_27, g317_28, g317_208, hd257]), (by simp only [S0, Nat.reduceEqDiff, Nat.reduceAdd, reduceIte, reduceCtorEq, S1, and_self, g317_0, g317_1, g317_9, g317_10, g317_12, g317_16, g317_22, g317_24, g317_25, g317_27, g317_28, g317_208, hd257]), (by simp only [S0, Nat.reduceEqDiff, Nat.reduceAdd, reduceIte, reduceCtorEq, S1, and_self, g317_0, g317_1, g317_9, g317_10, g317_12, g317_16, g317_22, g317_24, g317_25, g317_27, g317_28, g317_208, hd257]), (by simp only [S0, Nat.reduceEqDiff, Nat.reduceAdd, reduceIte, reduceCtorEq, S1, and_self, g317_0, g317_1, g317_9, g317_10, g317_12, g317_16, g317_22, g317_24, g317_25, g317_27, g317_28, g317_208, hd257]), (by simp only [S0, Nat.reduceEqDiff, Nat.reduceAdd, reduceIte, reduceCtorEq, S1, and_self, g317_0, g317_1, g317_9, g317_10, g317_12, g317_16, g317_22, g317_24, g317_25, g317_27, g317_28, g317_208, hd257])⟩ ?_
    rintro E331 ⟨g331_0, g331_1, g331_9, g331_10, g331_12, g331_16, g331_229, g331_230, g331_233⟩
    iterate 2 (refine Ow.popM rfl ?_; simp only [S0, Nat.reduceEqDiff, Nat.reduceAdd, reduceIte, reduceCtorEq, S1, g331_0, g331_1, g331_9, g331_10, g331_12, g331_16, g331_229, g331_230, g331_233, hd257])
    refine Ow.callA (k := 29) (fs := []) (cs := []) (vs := [.int .i64 (fwrap .i64 ((((val (ofI w m) : Nat) : Int)).tmod (((val (ofI w n) : Nat) : Int)))), .int .i64 ((w : Nat) : Int)]) (by simp only [S0, Nat.reduceEqDiff, Nat.reduceAdd, reduceIte, reduceCtorEq, S1, g331_0, g331_1, g331_9, g331_10, g331_12, g331_16, g331_229, g331_230, g331_233, hd257]) rfl (by simp only [S0, Nat.reduceEqDiff, Nat.reduceAdd, reduceIte, reduceCtorEq, S1, g331_0, g331_1, g331_9, g331_10, g331_12, g331_16, g331_229, g331_230, g331_233, hd257]) (of_any ext0_ok (by omega)) (fun _ _ _ h => h) ?_
    rintro v332 H332 hx332 m332
    have mw309_334 := mw309.ext hx313
    have mw309_335 := mw309_334.ext hx314
    have mw309_336 := mw309_335.ext hx318
    have mw309_337 := mw309_336.ext hx319
    have mw309_338 := mw309_337.ext hx324
    have mw309_339 := mw309_338.ext hx325
    have mw309_340 := mw309_339.ext hx332
    refine Ow.callPA (k := 20) (fs := []) (cs := []) (vs := [w309, v332]) (by simp only [S0, Nat.reduceEqDiff, Nat.reduceAdd, reduceIte, reduceCtorEq, S1, g331_0, g331_1, g331_9, g331_10, g331_12, g331_16, g331_229, g331_230, g331_233, hd257]) rfl (by simp only [S0, Nat.reduceEqDiff, Nat.reduceAdd, reduceIte, reduceCtorEq, S1, g331_0, g331_1, g331_9, g331_10, g331_12, g331_16, g331_229, g331_230, g331_233, hd257]) (same_T ext0_ok mw309_340.isB.wl m332.isR.isB.wl (by first | omega | (simp only [SL]; omega)) (by rw [ofI_length]; exact w_urem h2w _ _)) ?_
    intro H333 hx333
    iterate 2 (refine Ow.popM rfl ?_; simp only [S0, Nat.reduceEqDiff, Nat.reduceAdd, reduceIte, reduceCtorEq, S1, g331_0, g331_1, g331_9, g331_10, g331_12, g331_16, g331_229, g331_230, g331_233, hd257])
    refine Ow.nilM ⟨nofun, ?_⟩
    show Cw _ _ _ _ _
    refine Cw.cond (t := false) (by simp only [S0, Nat.reduceEqDiff, Nat.reduceAdd, reduceIte, reduceCtorEq, S1, g331_0, g331_1, g331_9, g331_10, g331_12, g331_16, g331_229, g331_230, g331_233, hd257]) ?_
    refine Cw.skip ?_
    show Cw _ _ _ _ _
    refine Cw.seq ?_
    refine Cw.region ?_
    iterate 2 (refine Ow.popM rfl ?_; simp only [S0, Nat.reduceEqDiff, Nat.reduceAdd, reduceIte, reduceCtorEq, S1, g331_0, g331_1, g331_9, g331_10, g331_12, g331_16, g331_229, g331_230, g331_233, hd257])
    have mu3_342 := mu3_310.ext hx309
    have mu3_343 := mu3_342.ext hx313
    have mu3_344 := mu3_343.ext hx314
    have mu3_345 := mu3_344.ext hx318
    have mu3_346 := mu3_345.ext hx319
    have mu3_347 := mu3_346.ext hx324
    have mu3_348 := mu3_347.ext hx325
    have mu3_349 := mu3_348.ext hx332
    have mu3_350 := mu3_349.ext hx333
    have mu4_351 := mu4_311.ext hx309
    have mu4_352 := mu4_351.ext hx313
    have mu4_353 := mu4_352.ext hx314
    have mu4_354 := mu4_353.ext hx318
    have mu4_355 := mu4_354.ext hx319
    have mu4_356 := mu4_355.ext hx324
    have mu4_357 := mu4_356.ext hx325
    have mu4_358 := mu4_357.ext hx332
    have mu4_359 := mu4_358.ext hx333
    refine Ow.callA (k := 42) (fs := []) (cs := []) (vs := [u3, u4]) rfl rfl (by simp only [S0, Nat.reduceEqDiff, Nat.reduceAdd, reduceIte, reduceCtorEq, S1, g331_0, g331_1, g331_9, g331_10, g331_12, g331_16, g331_229, g331_230, g331_233, hd257]) (scmp_any ext0_ok mu3_350.isB.wl mu4_359.isB.wl (by first | omega | (simp only [SL]; omega)) (by first | omega | (simp only [SL]; omega))) (fun _ _ _ h => h) ?_
    rintro _ H341 hx341 rfl
    (refine Ow.popM rfl ?_; simp only [S0, Nat.reduceEqDiff, Nat.reduceAdd, reduceIte, reduceCtorEq, S1, (w_scmp sm sn).1, g331_0, g331_1, g331_9, g331_10, g331_12, g331_16, g331_229, g331_230, g331_233, hd257])
    iterate 3 (refine Ow.popM rfl ?_; simp only [S0, Nat.reduceEqDiff, Nat.reduceAdd, reduceIte, reduceCtorEq, S1, g331_0, g331_1, g331_9, g331_10, g331_12, g331_16, g331_229, g331_230, g331_233, hd257])
    (refine Ow.popM rfl ?_; simp only [S0, Nat.reduceEqDiff, Nat.reduceAdd, reduceIte, reduceCtorEq, S1, g331_0, g331_1, g331_9, g331_10, g331_12, g331_16, g331_229, g331_230, g331_233, hd257])
    iterate 3 (refine Ow.popM rfl ?_; simp only [S0, Nat.reduceEqDiff, Nat.reduceAdd, reduceIte, reduceCtorEq, S1, g331_0, g331_1, g331_9, g331_10, g331_12, g331_16, g331_229, g331_230, g331_233, hd257])
    have mu3_361 := mu3_350.ext hx341
    have mu4_362 := mu4_359.ext hx341
    refine Ow.callA (k := 42) (fs := []) (cs := []) (vs := [u3, u4]) (by simp only [S0, Nat.reduceEqDiff, Nat.reduceAdd, reduceIte, reduceCtorEq, S1, g331_0, g331_1, g331_9, g331_10, g331_12, g331_16, g331_229, g331_230, g331_233, hd257]) rfl (by simp only [S0, Nat.reduceEqDiff, Nat.reduceAdd, reduceIte, reduceCtorEq, S1, g331_0, g331_1, g331_9, g331_10, g331_12, g331_16, g331_229, g331_230, g331_233, hd257]) (scmp_any ext0_ok mu3_361.isB.wl mu4_362.isB.wl (by first | omega | (simp only [SL]; omega)) (by first | omega | (simp only [SL]; omega))) (fun _ _ _ h => h) ?_
    rintro _ H360 hx360 rfl
    (refine Ow.popM rfl ?_; simp only [S0, Nat.reduceEqDiff, Nat.reduceAdd, reduceIte, reduceCtorEq, S1, (w_scmp sm sn).2, g331_0, g331_1, g331_9, g331_10, g331_12, g331_16, g331_229, g331_230, g331_233, hd257])
    iterate 3 (refine Ow.popM rfl ?_; simp only [S0, Nat.reduceEqDiff, Nat.reduceAdd, reduceIte, reduceCtorEq, S1, g331_0, g331_1, g331_9, g331_10, g331_12, g331_16, g331_229, g331_230, g331_233, hd257])
    (refine Ow.popM rfl ?_; simp only [S0, Nat.reduceEqDiff, Nat.reduceAdd, reduceIte, reduceCtorEq, S1, g331_0, g331_1, g331_9, g331_10, g331_12, g331_16, g331_229, g331_230, g331_233, hd257])
    iterate 2 (refine Ow.popM rfl ?_; simp only [S0, Nat.reduceEqDiff, Nat.reduceAdd, reduceIte, reduceCtorEq, S1, g331_0, g331_1, g331_9, g331_10, g331_12, g331_16, g331_229, g331_230, g331_233, hd257])
    refine Ow.gen (fun E => E.get 0 = some (.int .i64 (m)) ∧ E.get 1 = some (.int .i64 (n)) ∧ E.get 10 = some (u3) ∧ E.get 12 = some (u4) ∧ E.get 16 = some (.int .u64 (((2 ^ w - 1 : Nat) : Int))) ∧ E.get 258 = some (.bool true)) ⟨(by simp only [S0, Nat.reduceEqDiff, Nat.reduceAdd, reduceIte, reduceCtorEq, S1, and_self, g331_0, g331_1, g331_9, g331_10, g331_12, g331_16, g331_229, g331_230, g331_233, hd257]), (by simp only [S0, Nat.reduceEqDiff, Nat.reduceAdd, reduceIte, reduceCtorEq, S1, and_self, g331_0, g331_1, g331_9, g331_10, g331_12, g331_16, g331_229, g331_230, g331_233, hd257]), (by simp only [S0, Nat.reduceEqDiff, Nat.reduceAdd, reduceIte, reduceCtorEq, S1, and_self, g331_0, g331_1, g331_9, g331_10, g331_12, g331_16, g331_229, g331_230, g331_233, hd257]), (by simp only [S0, Nat.reduceEqDiff, Nat.reduceAdd, reduceIte, reduceCtorEq, S1, and_self, g331_0, g331_1, g331_9, g331_10, g331_12, g331_16, g331_229, g331_230, g331_233, hd257]), (by simp only [S0, Nat.reduceEqDiff, Nat.reduceAdd, reduceIte, reduceCtorEq, S1, and_self, g331_0, g331_1, g331_9, g331_10, g331_12, g331_16, g331_229, g331_230, g331_233, hd257]), (by simp only [S0, Nat.reduceEqDiff, Nat.reduceAdd, reduceIte, reduceCtorEq, S1, and_self, g331_0, g331_1, g331_9, g331_10, g331_12, g331_16, g331_229, g331_230, g331_233, hd257])⟩ ?_
    rintro E363 ⟨g363_0, g363_1, g363_10, g363_12, g363_16, g363_258⟩
    iterate 2 (refine Ow.popM rfl ?_; simp only [S0, Nat.reduceEqDiff, Nat.reduceAdd, reduceIte, reduceCtorEq, S1, g363_0, g363_1, g363_10, g363_12, g363_16, g363_258, hd257])
    have mu3_365 := mu3_361.ext hx360
    have mu4_366 := mu4_362.ext hx360
    refine Ow.callA (k := 30) (fs := []) (cs := []) (vs := [u3, u4]) (by simp only [S0, Nat.reduceEqDiff, Nat.reduceAdd, reduceIte, reduceCtorEq, S1, g363_0, g363_1, g363_10, g363_12, g363_16, g363_258, hd257]) rfl (by simp only [S0, Nat.reduceEqDiff, Nat.reduceAdd, reduceIte, reduceCtorEq, S1, g363_0, g363_1, g363_10, g363_12, g363_16, g363_258, hd257]) (cmp_any ext0_ok mu3_365.isB.wl mu4_366.isB.wl (by first | omega | (simp only [SL]; omega)) (by first | omega | (simp only [SL]; omega))) (fun _ _ _ h => h) ?_
    rintro _ H364 hx364 rfl
    (refine Ow.popM rfl ?_; simp only [S0, Nat.reduceEqDiff, Nat.reduceAdd, reduceIte, reduceCtorEq, S1, cmp_lss (val (ofI w m)) (val (ofI w n)), g363_0, g363_1, g363_10, g363_12, g363_16, g363_258, hd257])
    iterate 2 (refine Ow.popM rfl ?_; simp only [S0, Nat.reduceEqDiff, Nat.reduceAdd, reduceIte, reduceCtorEq, S1, conv_u64 m, g363_0, g363_1, g363_10, g363_12, g363_16, g363_258, hd257])
    iterate 2 (refine Ow.popM rfl ?_; simp only [S0, Nat.reduceEqDiff, Nat.reduceAdd, reduceIte, reduceCtorEq, S1, and_mask h2w m, g363_0, g363_1, g363_10, g363_12, g363_16, g363_258, hd257])
    iterate 2 (refine Ow.popM rfl ?_; simp only [S0, Nat.reduceEqDiff, Nat.reduceAdd, reduceIte, reduceCtorEq, S1, conv_u64 n, g363_0, g363_1, g363_10, g363_12, g363_16, g363_258, hd257])
    iterate 2 (refine Ow.popM rfl ?_; simp only [S0, Nat.reduceEqDiff, Nat.reduceAdd, reduceIte, reduceCtorEq, S1, and_mask h2w n, g363_0, g363_1, g363_10, g363_12, g363_16, g363_258, hd257])
    (refine Ow.popM rfl ?_; simp only [S0, Nat.reduceEqDiff, Nat.reduceAdd, reduceIte, reduceCtorEq, S1, lt_dec (val (ofI w m)) (val (ofI w n)), g363_0, g363_1, g363_10, g363_12, g363_16, g363_258, hd257])
    (refine Ow.popM rfl ?_; simp only [S0, Nat.reduceEqDiff, Nat.reduceAdd, reduceIte, reduceCtorEq, S1, g363_0, g363_1, g363_10, g363_12, g363_16, g363_258, hd257])
    iterate 2 (refine Ow.popM rfl ?_; simp only [S0, Nat.reduceEqDiff, Nat.reduceAdd, reduceIte, reduceCtorEq, S1, g363_0, g363_1, g363_10, g363_12, g363_16, g363_258, hd257])
    refine Ow.nilM ⟨nofun, ?_⟩
    show Cw _ _ _ _ _
    refine Cw.ret ?_
    simp only [Then, InBlock, Rnd, FnPost, resOf, tupled, S0, Nat.reduceEqDiff, Nat.reduceAdd, reduceIte, reduceCtorEq, g363_0, g363_1, g363_10, g363_12, g363_16, g363_258, hd257]
theorem BvWords_calls (W : World) (a0 : Int) (a1 : Int) (a2 : Int) (a3 : Int) (w0 : (Lit.int .i64 a0).wf = true) (w1 : (Lit.int .i64 a1).wf = true) (w2 : (Lit.int .u8 a2).wf = true) (w3 : (Lit.int .u8 a3).wf = true) :
    Calls Try.prog 12 #[.int .i64 a0, .int .i64 a1, .int .u8 a2, .int .u8 a3] W fun e W' => e = .returned (.bool true) ∧ Go.RowKit.Below W.heap.size W W' := by
  have hrows : RowsAt W [] := fun i r hr => by
    simp at hr
  refine law_calls (C := Cx ext0) IR.mixed IR.ft_ok ext0_sim no_glob hrows (args := [.int .i64 a0, .int .i64 a1, .int .u8 a2, .int .u8 a3]) ?_ ?_
  · exact .cons (.int _ _) (.cons (.int _ _) (.cons (.int _ _) (.cons (.int _ _) .nil)))
  · exact BvWords_run (by simpa [Lit.wf, IntKind.min, IntKind.max, IntKind.signed, IntKind.bits] using w0) (by simpa [Lit.wf, IntKind.min, IntKind.max, IntKind.signed, IntKind.bits] using w1) (by simpa [Lit.wf, IntKind.min, IntKind.max, IntKind.signed, IntKind.bits] using w2) (by simpa [Lit.wf, IntKind.min, IntKind.max, IntKind.signed, IntKind.bits] using w3)
end Go.Proofs.Yteeckncfllbokaa.X
