/- What the functions on intervals compute. -/
import Derived.Test.YtcgckodhehnpnaaDoorXS
set_option linter.unusedSimpArgs false
set_option linter.unusedVariables false
namespace Go.Proofs.YtcgckodhehnpnaaDoor.X
open Go Go.AL
variable {ext : Nat → Option (List Value → AH → Option (Value × AH))}
/-- The cells of a slice of intervals. -/
def flat : List (Int × Int) → List Value
  | [] => []
  | x :: r => .int .i8 x.1 :: .int .i8 x.2 :: flat r
theorem flat_drop : ∀ (l : List (Int × Int)) (i : Nat), (flat l).drop (i * 2) = flat (l.drop i)
  | l, 0 => rfl
  | [], i + 1 => by simp [flat]
  | x :: r, i + 1 => by
    rw [Nat.add_mul]
    show (flat (x :: r)).drop (i * 2 + 2) = flat (r.drop i)
    rw [← flat_drop r i]
    rfl
abbrev at2 (l : List (Int × Int)) (i : Nat) : Int × Int := l.getD i (0, 0)
theorem at2_eq {l : List (Int × Int)} {i : Nat} (h : i < l.length) : at2 l i = l[i] := by simp [at2, List.getD_eq_getElem?_getD, h]
theorem flat_part {l : List (Int × Int)} {i : Nat} (h : i < l.length) : AL.part (some 2) (flat l) (i * 2) = some (.agg ⟨[.int .i8 (at2 l i).1, .int .i8 (at2 l i).2]⟩) := by
  rw [at2_eq h]
  simp only [AL.part, takeCells, flat_drop, List.drop_eq_getElem_cons h, flat]
  rfl
theorem cb_take2 {l : List (Int × Int)} {k : Nat} (h : k < l.length) : cb (l.take (k + 1)) = ad (cb (l.take k)) (at2 l k) := by rw [at2_eq h]; exact cb_take h
/-- level -/
theorem level_any (hx : Ext0 ext) {H : AH} {n : Int} :
    Run (Cx ext) 36 [.int .i8 (n)] H fun r H' => AL.Ext H H' ∧ r = .agg ⟨[.int .i8 (n), .int .i8 (n)]⟩ := by
  refine Run.intro (fi := IR.fi36) (hx 36 (by decide)) (by kernel_rfl) ?_
  unfold IR.fi36
  simp only [envOf_cons, envOf_nil]
  refine Cw.seq ?_
  refine Cw.region ?_
  refine Ow.newB rfl ?_
  intro H1 hx1 hl1 bx1
  refine Ow.nilM ⟨nofun, ?_⟩
  show Cw _ _ _ _ _
  refine Cw.seq ?_
  refine Cw.region ?_
  iterate 2 (refine Ow.popM rfl ?_; simp only [S0, Nat.reduceEqDiff, Nat.reduceAdd, reduceIte, reduceCtorEq, S1])
  (refine Ow.popM rfl ?_; simp only [S0, Nat.reduceEqDiff, Nat.reduceAdd, reduceIte, reduceCtorEq, S1, S2, show Nat.ble 1 2 = true from rfl, show Nat.ble 2 2 = true from rfl])
  refine Ow.stB (H0 := H) (off := 0) (v := .agg ⟨[.int .i8 (n), .int .i8 (n)]⟩) (vs' := [.int .i8 (n), .int .i8 (n)]) rfl (by simp only [S0, Nat.reduceEqDiff, Nat.reduceAdd, reduceIte, reduceCtorEq, S1]) (by simp only [S0, Nat.reduceEqDiff, Nat.reduceAdd, reduceIte, reduceCtorEq, S1]) bx1 rfl rfl hx1 (Nat.le_refl _) ?_
  intro H2 hx2 hn2 hk2 bx1_2
  refine Ow.nilM ⟨nofun, ?_⟩
  show Cw _ _ _ _ _
  refine Cw.ret ?_
  try simp only [Then, InBlock, Rnd]
  exact fn_cell (t := 2) (off := 0) (by simp only [S0, Nat.reduceEqDiff, Nat.reduceAdd, reduceIte, reduceCtorEq, S1]) bx1_2 rfl ⟨hx2, rfl⟩
/-- to -/
theorem to_any (hx : Ext0 ext) {H : AH} {m n : Int} :
    Run (Cx ext) 21 [.int .i8 (m), .int .i8 (n)] H fun r H' => AL.Ext H H' ∧ r = .agg ⟨[.int .i8 (m), .int .i8 (n)]⟩ := by
  refine Run.intro (fi := IR.fi21) (hx 21 (by decide)) (by kernel_rfl) ?_
  unfold IR.fi21
  simp only [envOf_cons, envOf_nil]
  refine Cw.seq ?_
  refine Cw.region ?_
  refine Ow.newB rfl ?_
  intro H1 hx1 hl1 bx1
  refine Ow.nilM ⟨nofun, ?_⟩
  show Cw _ _ _ _ _
  refine Cw.seq ?_
  refine Cw.region ?_
  iterate 2 (refine Ow.popM rfl ?_; simp only [S0, Nat.reduceEqDiff, Nat.reduceAdd, reduceIte, reduceCtorEq, S1])
  (refine Ow.popM rfl ?_; simp only [S0, Nat.reduceEqDiff, Nat.reduceAdd, reduceIte, reduceCtorEq, S1, S2, show Nat.ble 1 2 = true from rfl, show Nat.ble 2 2 = true from rfl])
  refine Ow.stB (H0 := H) (off := 0) (v := .agg ⟨[.int .i8 (m), .int .i8 (n)]⟩) (vs' := [.int .i8 (m), .int .i8 (n)]) rfl (by simp only [S0, Nat.reduceEqDiff, Nat.reduceAdd, reduceIte, reduceCtorEq, S1]) (by simp only [S0, Nat.reduceEqDiff, Nat.reduceAdd, reduceIte, reduceCtorEq, S1]) bx1 rfl rfl hx1 (Nat.le_refl _) ?_
  intro H2 hx2 hn2 hk2 bx1_2
  refine Ow.nilM ⟨nofun, ?_⟩
  show Cw _ _ _ _ _
  refine Cw.ret ?_
  try simp only [Then, InBlock, Rnd]
  exact fn_cell (t := 4) (off := 0) (by simp only [S0, Nat.reduceEqDiff, Nat.reduceAdd, reduceIte, reduceCtorEq, S1]) bx1_2 rfl ⟨hx2, rfl⟩
/-- size -/
theorem size_any (hx : Ext0 ext) {H : AH} {n : Int} (h : Lv n) :
    Run (Cx ext) 47 [.int .i8 (n)] H fun r H' => AL.Ext H H' ∧ r = .int .i8 (n.natAbs : Int) := by
  refine Run.intro (fi := IR.fi47) (hx 47 (by decide)) (by kernel_rfl) ?_
  unfold IR.fi47
  simp only [envOf_cons, envOf_nil]
  refine Cw.seq ?_
  refine Cw.region ?_
  (refine Ow.popM rfl ?_; simp only [S0, Nat.reduceEqDiff, Nat.reduceAdd, reduceIte, reduceCtorEq, S1])
  refine Ow.nilM ⟨nofun, ?_⟩
  show Cw _ _ _ _ _
  refine Cw.seq ?_
  refine Cw.region ?_
  iterate 5 (refine Ow.popM rfl ?_; simp only [S0, Nat.reduceEqDiff, Nat.reduceAdd, reduceIte, reduceCtorEq, S1, neg_lv (show Lv (n) by assumption), AL.foldV, amax_mx])
  refine Ow.nilM ⟨nofun, ?_⟩
  show Cw _ _ _ _ _
  refine Cw.ret ?_
  simp only [Then, InBlock, Rnd, FnPost, resOf, tupled, S0, Nat.reduceEqDiff, Nat.reduceAdd, reduceIte, reduceCtorEq]
  exact ⟨(AL.Ext.refl _), by rw [mx_abs]⟩
/-- Norm -/
theorem norm_any (hx : Ext0 ext) {H : AH} {a b : Int} :
    Run (Cx ext) 22 [.agg ⟨[.int .i8 (a), .int .i8 (b)]⟩] H fun r H' => AL.Ext H H' ∧ r = .agg ⟨[.int .i8 (nl a b), .int .i8 (nh a b)]⟩ := by
  refine Run.intro (fi := IR.fi22) (hx 22 (by decide)) (by kernel_rfl) ?_
  unfold IR.fi22
  simp only [envOf_cons, envOf_nil]
  refine Cw.seq ?_
  refine Cw.region ?_
  refine Ow.boxA (v := .agg ⟨[.int .i8 (a), .int .i8 (b)]⟩) rfl (by simp only [S0, Nat.reduceEqDiff, Nat.reduceAdd, reduceIte, reduceCtorEq, S1]) rfl ?_
  intro H1 hx1 hl1 bx1
  refine Ow.newB rfl ?_
  have ne3 : H1.n ≠ H.n := Nat.ne_of_gt bx1.1
  intro H2 hx2 hl2 bx2
  refine Ow.nilM ⟨nofun, ?_⟩
  show Cw _ _ _ _ _
  refine Cw.seq ?_
  refine Cw.region ?_
  (refine Ow.popM rfl ?_; simp only [S0, Nat.reduceEqDiff, Nat.reduceAdd, reduceIte, reduceCtorEq, S1])
  have bx1_4 := bx1.ext hx2
  refine Ow.ldB (off := 0) (v := .int .i8 (a)) rfl (by simp only [S0, Nat.reduceEqDiff, Nat.reduceAdd, reduceIte, reduceCtorEq, S1]) bx1_4 rfl ?_
  iterate 3 (refine Ow.popM rfl ?_; simp only [S0, Nat.reduceEqDiff, Nat.reduceAdd, reduceIte, reduceCtorEq, S1, AL.foldV, amin_mn, amax_mx])
  refine Ow.ldB (off := 1) (v := .int .i8 (b)) rfl (by simp only [S0, Nat.reduceEqDiff, Nat.reduceAdd, reduceIte, reduceCtorEq, S1]) bx1_4 rfl ?_
  iterate 4 (refine Ow.popM rfl ?_; simp only [S0, Nat.reduceEqDiff, Nat.reduceAdd, reduceIte, reduceCtorEq, S1, AL.foldV, amin_mn, amax_mx])
  refine Ow.nilM ⟨fun _ => by rfl, ?_⟩
  show Cw _ _ _ _ _
  refine Cw.seq ?_
  refine Cw.region ?_
  iterate 6 (refine Ow.popM rfl ?_; simp only [S0, Nat.reduceEqDiff, Nat.reduceAdd, reduceIte, reduceCtorEq, S1, AL.foldV, amin_mn, amax_mx])
  (refine Ow.popM rfl ?_; simp only [S0, Nat.reduceEqDiff, Nat.reduceAdd, reduceIte, reduceCtorEq, S1, S2, show Nat.ble 1 2 = true from rfl, show Nat.ble 2 2 = true from rfl])
  refine Ow.stB (H0 := H1) (off := 0) (v := .agg ⟨[.int .i8 (mn (mx ((-7)) (mn (7) (a))) (mx ((-7)) (mn (7) (b)))), .int .i8 (mx (mx ((-7)) (mn (7) (a))) (mx ((-7)) (mn (7) (b))))]⟩) (vs' := [.int .i8 (mn (mx ((-7)) (mn (7) (a))) (mx ((-7)) (mn (7) (b)))), .int .i8 (mx (mx ((-7)) (mn (7) (a))) (mx ((-7)) (mn (7) (b))))]) rfl (by simp only [S0, Nat.reduceEqDiff, Nat.reduceAdd, reduceIte, reduceCtorEq, S1]) (by simp only [S0, Nat.reduceEqDiff, Nat.reduceAdd, reduceIte, reduceCtorEq, S1]) bx2 rfl rfl hx2 (Nat.le_refl _) ?_
  intro H5 hx5 hn5 hk5 bx2_5
  have bx1_6 := Bx.keep bx1_4 hn5 hk5 ne3.symm
  refine Ow.nilM ⟨nofun, ?_⟩
  show Cw _ _ _ _ _
  refine Cw.ret ?_
  try simp only [Then, InBlock, Rnd]
  exact fn_cell (t := 2) (off := 0) (by simp only [S0, Nat.reduceEqDiff, Nat.reduceAdd, reduceIte, reduceCtorEq, S1]) bx2_5 rfl ⟨(hx1.trans hx5), rfl⟩
/-- join -/
theorem join_any (hx : Ext0 ext) {H : AH} {a b c d : Int} :
    Run (Cx ext) 45 [.agg ⟨[.int .i8 (a), .int .i8 (b)]⟩, .agg ⟨[.int .i8 (c), .int .i8 (d)]⟩] H fun r H' => AL.Ext H H' ∧ r = .agg ⟨[.int .i8 (mn a c), .int .i8 (mx b d)]⟩ := by
  refine Run.intro (fi := IR.fi45) (hx 45 (by decide)) (by kernel_rfl) ?_
  unfold IR.fi45
  simp only [envOf_cons, envOf_nil]
  refine Cw.seq ?_
  refine Cw.region ?_
  refine Ow.boxA (v := .agg ⟨[.int .i8 (a), .int .i8 (b)]⟩) rfl (by simp only [S0, Nat.reduceEqDiff, Nat.reduceAdd, reduceIte, reduceCtorEq, S1]) rfl ?_
  intro H1 hx1 hl1 bx1
  refine Ow.boxA (v := .agg ⟨[.int .i8 (c), .int .i8 (d)]⟩) rfl (by simp only [S0, Nat.reduceEqDiff, Nat.reduceAdd, reduceIte, reduceCtorEq, S1]) rfl ?_
  have ne3 : H1.n ≠ H.n := Nat.ne_of_gt bx1.1
  intro H2 hx2 hl2 bx2
  refine Ow.newB rfl ?_
  have bx1_6 := bx1.ext hx2
  have ne5 : H2.n ≠ H.n := Nat.ne_of_gt bx1_6.1
  have ne7 : H2.n ≠ H1.n := Nat.ne_of_gt bx2.1
  intro H4 hx4 hl4 bx4
  refine Ow.nilM ⟨nofun, ?_⟩
  show Cw _ _ _ _ _
  refine Cw.seq ?_
  refine Cw.region ?_
  (refine Ow.popM rfl ?_; simp only [S0, Nat.reduceEqDiff, Nat.reduceAdd, reduceIte, reduceCtorEq, S1])
  have bx1_8 := bx1_6.ext hx4
  refine Ow.ldB (off := 0) (v := .int .i8 (a)) rfl (by simp only [S0, Nat.reduceEqDiff, Nat.reduceAdd, reduceIte, reduceCtorEq, S1]) bx1_8 rfl ?_
  (refine Ow.popM rfl ?_; simp only [S0, Nat.reduceEqDiff, Nat.reduceAdd, reduceIte, reduceCtorEq, S1])
  have bx2_9 := bx2.ext hx4
  refine Ow.ldB (off := 0) (v := .int .i8 (c)) rfl (by simp only [S0, Nat.reduceEqDiff, Nat.reduceAdd, reduceIte, reduceCtorEq, S1]) bx2_9 rfl ?_
  iterate 2 (refine Ow.popM rfl ?_; simp only [S0, Nat.reduceEqDiff, Nat.reduceAdd, reduceIte, reduceCtorEq, S1, AL.foldV, amin_mn])
  refine Ow.ldB (off := 1) (v := .int .i8 (b)) rfl (by simp only [S0, Nat.reduceEqDiff, Nat.reduceAdd, reduceIte, reduceCtorEq, S1]) bx1_8 rfl ?_
  (refine Ow.popM rfl ?_; simp only [S0, Nat.reduceEqDiff, Nat.reduceAdd, reduceIte, reduceCtorEq, S1])
  refine Ow.ldB (off := 1) (v := .int .i8 (d)) rfl (by simp only [S0, Nat.reduceEqDiff, Nat.reduceAdd, reduceIte, reduceCtorEq, S1]) bx2_9 rfl ?_
  (refine Ow.popM rfl ?_; simp only [S0, Nat.reduceEqDiff, Nat.reduceAdd, reduceIte, reduceCtorEq, S1, AL.foldV, amax_mx])
  (refine Ow.popM rfl ?_; simp only [S0, Nat.reduceEqDiff, Nat.reduceAdd, reduceIte, reduceCtorEq, S1, S2, show Nat.ble 1 2 = true from rfl, show Nat.ble 2 2 = true from rfl])
  refine Ow.stB (H0 := H2) (off := 0) (v := .agg ⟨[.int .i8 (mn (a) (c)), .int .i8 (mx (b) (d))]⟩) (vs' := [.int .i8 (mn (a) (c)), .int .i8 (mx (b) (d))]) rfl (by simp only [S0, Nat.reduceEqDiff, Nat.reduceAdd, reduceIte, reduceCtorEq, S1]) (by simp only [S0, Nat.reduceEqDiff, Nat.reduceAdd, reduceIte, reduceCtorEq, S1]) bx4 rfl rfl hx4 (Nat.le_refl _) ?_
  intro H10 hx10 hn10 hk10 bx4_10
  have bx1_11 := Bx.keep bx1_8 hn10 hk10 ne5.symm
  have bx2_12 := Bx.keep bx2_9 hn10 hk10 ne7.symm
  refine Ow.nilM ⟨nofun, ?_⟩
  show Cw _ _ _ _ _
  refine Cw.ret ?_
  try simp only [Then, InBlock, Rnd]
  exact fn_cell (t := 4) (off := 0) (by simp only [S0, Nat.reduceEqDiff, Nat.reduceAdd, reduceIte, reduceCtorEq, S1]) bx4_10 rfl ⟨((hx1.trans hx2).trans hx10), rfl⟩
/-- meet -/
theorem meet_any (hx : Ext0 ext) {H : AH} {m n : Int} (hm : Lv m) (hn : Lv n) :
    Run (Cx ext) 44 [.int .i8 (m), .int .i8 (n)] H fun r H' => AL.Ext H H' ∧ r = .agg ⟨[.int .i8 (lo m n), .int .i8 (hi m n)]⟩ := by
  refine Run.intro (fi := IR.fi44) (hx 44 (by decide)) (by kernel_rfl) ?_
  unfold IR.fi44
  simp only [envOf_cons, envOf_nil]
  refine Cw.seq ?_
  refine Cw.region ?_
  refine Ow.newB rfl ?_
  intro H1 hx1 hl1 bx1
  refine Ow.nilM ⟨nofun, ?_⟩
  show Cw _ _ _ _ _
  refine Cw.seq ?_
  refine Cw.block ?_
  refine Cw.seq ?_
  refine Cw.region ?_
  iterate 5 (refine Ow.popM rfl ?_; simp only [S0, Nat.reduceEqDiff, Nat.reduceAdd, reduceIte, reduceCtorEq, S1, neg_lv hn])
  refine Ow.nilM ⟨nofun, ?_⟩
  show Cw _ _ _ _ _
  cases hd2 : ((m == -n))
  · skip
    refine Cw.cond (t := false) (by simp only [S0, Nat.reduceEqDiff, Nat.reduceAdd, reduceIte, reduceCtorEq, S1, hd2]) ?_
    refine Cw.seq ?_
    refine Cw.region ?_
    (refine Ow.popM rfl ?_; simp only [S0, Nat.reduceEqDiff, Nat.reduceAdd, reduceIte, reduceCtorEq, S1, hd2])
    refine Ow.callA (k := 47) (fs := []) (cs := []) (vs := [.int .i8 (m)]) rfl rfl (by simp only [S0, Nat.reduceEqDiff, Nat.reduceAdd, reduceIte, reduceCtorEq, S1, hd2]) (size_any hx (by assumption)) (fun _ _ _ h => h) ?_
    rintro _ H3 hx3 rfl
    (refine Ow.popM rfl ?_; simp only [S0, Nat.reduceEqDiff, Nat.reduceAdd, reduceIte, reduceCtorEq, S1, hd2])
    refine Ow.callA (k := 47) (fs := []) (cs := []) (vs := [.int .i8 (n)]) rfl rfl (by simp only [S0, Nat.reduceEqDiff, Nat.reduceAdd, reduceIte, reduceCtorEq, S1, hd2]) (size_any hx (by assumption)) (fun _ _ _ h => h) ?_
    rintro _ H4 hx4 rfl
    iterate 2 (refine Ow.popM rfl ?_; simp only [S0, Nat.reduceEqDiff, Nat.reduceAdd, reduceIte, reduceCtorEq, S1, show decide ((m.natAbs : Int) < (n.natAbs : Int)) = decide (m.natAbs < n.natAbs) from lt_dec _ _, hd2])
    refine Ow.nilM ⟨nofun, ?_⟩
    show Cw _ _ _ _ _
    by_cases hq5 : m.natAbs < n.natAbs
    · have hd5 : decide (m.natAbs < n.natAbs) = true := decide_eq_true hq5
      refine Cw.cond (t := true) (by simp only [S0, Nat.reduceEqDiff, Nat.reduceAdd, reduceIte, reduceCtorEq, S1, hd2, hd5]) ?_
      refine Cw.seq ?_
      refine Cw.region ?_
      (refine Ow.popM rfl ?_; simp only [S0, Nat.reduceEqDiff, Nat.reduceAdd, reduceIte, reduceCtorEq, S1, hd2, hd5])
      refine Ow.callA (k := 36) (fs := []) (cs := []) (vs := [.int .i8 (n)]) rfl rfl (by simp only [S0, Nat.reduceEqDiff, Nat.reduceAdd, reduceIte, reduceCtorEq, S1, hd2, hd5]) (level_any hx ) (fun _ _ _ h => h) ?_
      rintro _ H6 hx6 rfl
      have bx1_8 := bx1.ext hx3
      have bx1_9 := bx1_8.ext hx4
      have bx1_10 := bx1_9.ext hx6
      refine Ow.stB (H0 := H) (off := 0) (v := .agg ⟨[.int .i8 (n), .int .i8 (n)]⟩) (vs' := [.int .i8 (n), .int .i8 (n)]) rfl (by simp only [S0, Nat.reduceEqDiff, Nat.reduceAdd, reduceIte, reduceCtorEq, S1, hd2, hd5]) (by simp only [S0, Nat.reduceEqDiff, Nat.reduceAdd, reduceIte, reduceCtorEq, S1, hd2, hd5]) bx1_10 rfl rfl (((hx1.trans hx3).trans hx4).trans hx6) (Nat.le_refl _) ?_
      intro H7 hx7 hn7 hk7 bx1_7
      refine Ow.nilM ⟨nofun, ?_⟩
      show Cw _ _ _ _ _
      refine Cw.ret ?_
      try simp only [Then, InBlock, Rnd]
      have e1 : ¬ m = -n := by simpa using hd2
      exact fn_cell (t := 4) (off := 0) (by simp only [S0, Nat.reduceEqDiff, Nat.reduceAdd, reduceIte, reduceCtorEq, S1, hd2, hd5]) bx1_7 rfl ⟨hx7, by unfold lo hi; rw [if_neg e1, if_neg e1, if_pos hq5]; rfl⟩
    · have hd5 : decide (m.natAbs < n.natAbs) = false := decide_eq_false hq5
      refine Cw.cond (t := false) (by simp only [S0, Nat.reduceEqDiff, Nat.reduceAdd, reduceIte, reduceCtorEq, S1, hd2, hd5]) ?_
      refine Cw.skip ?_
      show Cw _ _ _ _ _
      refine Cw.seq ?_
      refine Cw.region ?_
      (refine Ow.popM rfl ?_; simp only [S0, Nat.reduceEqDiff, Nat.reduceAdd, reduceIte, reduceCtorEq, S1, hd2, hd5])
      refine Ow.callA (k := 36) (fs := []) (cs := []) (vs := [.int .i8 (m)]) rfl rfl (by simp only [S0, Nat.reduceEqDiff, Nat.reduceAdd, reduceIte, reduceCtorEq, S1, hd2, hd5]) (level_any hx ) (fun _ _ _ h => h) ?_
      rintro _ H11 hx11 rfl
      have bx1_13 := bx1.ext hx3
      have bx1_14 := bx1_13.ext hx4
      have bx1_15 := bx1_14.ext hx11
      refine Ow.stB (H0 := H) (off := 0) (v := .agg ⟨[.int .i8 (m), .int .i8 (m)]⟩) (vs' := [.int .i8 (m), .int .i8 (m)]) rfl (by simp only [S0, Nat.reduceEqDiff, Nat.reduceAdd, reduceIte, reduceCtorEq, S1, hd2, hd5]) (by simp only [S0, Nat.reduceEqDiff, Nat.reduceAdd, reduceIte, reduceCtorEq, S1, hd2, hd5]) bx1_15 rfl rfl (((hx1.trans hx3).trans hx4).trans hx11) (Nat.le_refl _) ?_
      intro H12 hx12 hn12 hk12 bx1_12
      refine Ow.nilM ⟨nofun, ?_⟩
      show Cw _ _ _ _ _
      refine Cw.ret ?_
      try simp only [Then, InBlock, Rnd]
      have e1 : ¬ m = -n := by simpa using hd2
      exact fn_cell (t := 4) (off := 0) (by simp only [S0, Nat.reduceEqDiff, Nat.reduceAdd, reduceIte, reduceCtorEq, S1, hd2, hd5]) bx1_12 rfl ⟨hx12, by unfold lo hi; rw [if_neg e1, if_neg e1, if_neg hq5]; rfl⟩
  · skip
    refine Cw.cond (t := true) (by simp only [S0, Nat.reduceEqDiff, Nat.reduceAdd, reduceIte, reduceCtorEq, S1, hd2]) ?_
    refine Cw.seq ?_
    refine Cw.region ?_
    (refine Ow.popM rfl ?_; simp only [S0, Nat.reduceEqDiff, Nat.reduceAdd, reduceIte, reduceCtorEq, S1, hd2])
    refine Ow.callA (k := 47) (fs := []) (cs := []) (vs := [.int .i8 (m)]) rfl rfl (by simp only [S0, Nat.reduceEqDiff, Nat.reduceAdd, reduceIte, reduceCtorEq, S1, hd2]) (size_any hx (by assumption)) (fun _ _ _ h => h) ?_
    rintro _ H16 hx16 rfl
    iterate 2 (refine Ow.popM rfl ?_; simp only [S0, Nat.reduceEqDiff, Nat.reduceAdd, reduceIte, reduceCtorEq, S1, neg_lv (show Lv (m.natAbs : Int) by unfold Lv at *; omega), hd2])
    refine Ow.callA (k := 47) (fs := []) (cs := []) (vs := [.int .i8 (m)]) rfl rfl (by simp only [S0, Nat.reduceEqDiff, Nat.reduceAdd, reduceIte, reduceCtorEq, S1, hd2]) (size_any hx (by assumption)) (fun _ _ _ h => h) ?_
    rintro _ H17 hx17 rfl
    (refine Ow.popM rfl ?_; simp only [S0, Nat.reduceEqDiff, Nat.reduceAdd, reduceIte, reduceCtorEq, S1, S2, show Nat.ble 1 2 = true from rfl, show Nat.ble 2 2 = true from rfl, hd2])
    have bx1_19 := bx1.ext hx16
    have bx1_20 := bx1_19.ext hx17
    refine Ow.stB (H0 := H) (off := 0) (v := .agg ⟨[.int .i8 (-(m.natAbs : Int)), .int .i8 ((m.natAbs : Int))]⟩) (vs' := [.int .i8 (-(m.natAbs : Int)), .int .i8 ((m.natAbs : Int))]) rfl (by simp only [S0, Nat.reduceEqDiff, Nat.reduceAdd, reduceIte, reduceCtorEq, S1, hd2]) (by simp only [S0, Nat.reduceEqDiff, Nat.reduceAdd, reduceIte, reduceCtorEq, S1, hd2]) bx1_20 rfl rfl ((hx1.trans hx16).trans hx17) (Nat.le_refl _) ?_
    intro H18 hx18 hn18 hk18 bx1_18
    refine Ow.nilM ⟨nofun, ?_⟩
    show Cw _ _ _ _ _
    refine Cw.ret ?_
    try simp only [Then, InBlock, Rnd]
    have e1 : m = -n := by simpa using hd2
    have e2 : lo m n = -(m.natAbs : Int) := by unfold lo; rw [if_pos e1]; split <;> omega
    have e3 : hi m n = (m.natAbs : Int) := by unfold hi; rw [if_pos e1]; split <;> omega
    exact fn_cell (t := 4) (off := 0) (by simp only [S0, Nat.reduceEqDiff, Nat.reduceAdd, reduceIte, reduceCtorEq, S1, hd2]) bx1_18 rfl ⟨hx18, by rw [e2, e3]; rfl⟩
/-- pair -/
theorem pair_any (hx : Ext0 ext) {H : AH} {a0 a1 b0 b1 : Int} (h0 : Lv a0) (h1 : Lv a1) (h2 : Lv b0) (h3 : Lv b1) (ha : a0 ≤ a1) (hb : b0 ≤ b1) :
    Run (Cx ext) 38 [.agg ⟨[.int .i8 (a0), .int .i8 (a1)]⟩, .agg ⟨[.int .i8 (b0), .int .i8 (b1)]⟩] H fun r H' => AL.Ext H H' ∧ r = .agg ⟨[.int .i8 (lo a0 b0), .int .i8 (hi a1 b1)]⟩ := by
  refine Run.intro (fi := IR.fi38) (hx 38 (by decide)) (by kernel_rfl) ?_
  unfold IR.fi38
  simp only [envOf_cons, envOf_nil]
  refine Cw.seq ?_
  refine Cw.region ?_
  refine Ow.boxA (v := .agg ⟨[.int .i8 (a0), .int .i8 (a1)]⟩) rfl (by simp only [S0, Nat.reduceEqDiff, Nat.reduceAdd, reduceIte, reduceCtorEq, S1]) rfl ?_
  intro H1 hx1 hl1 bx1
  refine Ow.boxA (v := .agg ⟨[.int .i8 (b0), .int .i8 (b1)]⟩) rfl (by simp only [S0, Nat.reduceEqDiff, Nat.reduceAdd, reduceIte, reduceCtorEq, S1]) rfl ?_
  have ne3 : H1.n ≠ H.n := Nat.ne_of_gt bx1.1
  intro H2 hx2 hl2 bx2
  refine Ow.newB rfl ?_
  have bx1_6 := bx1.ext hx2
  have ne5 : H2.n ≠ H.n := Nat.ne_of_gt bx1_6.1
  have ne7 : H2.n ≠ H1.n := Nat.ne_of_gt bx2.1
  intro H4 hx4 hl4 bx4
  refine Ow.nilM ⟨nofun, ?_⟩
  show Cw _ _ _ _ _
  refine Cw.seq ?_
  refine Cw.seq ?_
  refine Cw.region ?_
  have bx1_8 := bx1_6.ext hx4
  refine Ow.ldB (off := 0) (v := .agg ⟨[.int .i8 (a0), .int .i8 (a1)]⟩) rfl (by simp only [S0, Nat.reduceEqDiff, Nat.reduceAdd, reduceIte, reduceCtorEq, S1]) bx1_8 rfl ?_
  refine Ow.callA (k := 36) (fs := []) (cs := []) (vs := [.int .i8 (0)]) rfl rfl (by simp only [S0, Nat.reduceEqDiff, Nat.reduceAdd, reduceIte, reduceCtorEq, S1]) (level_any hx ) (fun _ _ _ h => h) ?_
  rintro _ H9 hx9 rfl
  (refine Ow.popM rfl ?_; simp only [S0, Nat.reduceEqDiff, Nat.reduceAdd, reduceIte, reduceCtorEq, S1])
  refine Ow.nilM ⟨fun _ => by rfl, ?_⟩
  show Cw _ _ _ _ _
  cases hd10 : ((a0 == 0 && (a1 == 0 && true)))
  · skip
    refine Cw.cond (t := false) (by simp only [S0, Nat.reduceEqDiff, Nat.reduceAdd, reduceIte, reduceCtorEq, S1, hd10]) ?_
    refine Cw.skip ?_
    show Cw _ _ _ _ _
    refine Cw.seq ?_
    refine Cw.region ?_
    (refine Ow.popM rfl ?_; simp only [S0, Nat.reduceEqDiff, Nat.reduceAdd, reduceIte, reduceCtorEq, S1, hd10])
    have bx1_11 := bx1_8.ext hx9
    refine Ow.ldB (off := 0) (v := .int .i8 (a0)) rfl (by simp only [S0, Nat.reduceEqDiff, Nat.reduceAdd, reduceIte, reduceCtorEq, S1, hd10]) bx1_11 rfl ?_
    (refine Ow.popM rfl ?_; simp only [S0, Nat.reduceEqDiff, Nat.reduceAdd, reduceIte, reduceCtorEq, S1, hd10])
    have bx2_12 := bx2.ext hx4
    have bx2_13 := bx2_12.ext hx9
    refine Ow.ldB (off := 0) (v := .int .i8 (b0)) rfl (by simp only [S0, Nat.reduceEqDiff, Nat.reduceAdd, reduceIte, reduceCtorEq, S1, hd10]) bx2_13 rfl ?_
    refine Ow.callA (k := 44) (fs := []) (cs := []) (vs := [.int .i8 (a0), .int .i8 (b0)]) rfl rfl (by simp only [S0, Nat.reduceEqDiff, Nat.reduceAdd, reduceIte, reduceCtorEq, S1, hd10]) (meet_any hx (by first | assumption | (unfold Lv at *; omega)) (by first | assumption | (unfold Lv at *; omega))) (fun _ _ _ h => h) ?_
    rintro _ H14 hx14 rfl
    refine Ow.newB rfl ?_
    have bx1_17 := bx1_11.ext hx14
    have ne16 : H14.n ≠ H.n := Nat.ne_of_gt bx1_17.1
    have bx2_19 := bx2_13.ext hx14
    have ne18 : H14.n ≠ H1.n := Nat.ne_of_gt bx2_19.1
    have bx4_21 := bx4.ext hx9
    have bx4_22 := bx4_21.ext hx14
    have ne20 : H14.n ≠ H2.n := Nat.ne_of_gt bx4_22.1
    intro H15 hx15 hl15 bx15
    refine Ow.stB (H0 := H14) (off := 0) (v := .agg ⟨[.int .i8 (lo (a0) (b0)), .int .i8 (hi (a0) (b0))]⟩) (vs' := [.int .i8 (lo (a0) (b0)), .int .i8 (hi (a0) (b0))]) rfl (by simp only [S0, Nat.reduceEqDiff, Nat.reduceAdd, reduceIte, reduceCtorEq, S1, hd10]) (by simp only [S0, Nat.reduceEqDiff, Nat.reduceAdd, reduceIte, reduceCtorEq, S1, hd10]) bx15 rfl rfl hx15 (Nat.le_refl _) ?_
    intro H23 hx23 hn23 hk23 bx15_23
    refine Ow.nilM ⟨nofun, ?_⟩
    show Cw _ _ _ _ _
    refine Cw.seq ?_
    refine Cw.seq ?_
    refine Cw.region ?_
    (refine Ow.popM rfl ?_; simp only [S0, Nat.reduceEqDiff, Nat.reduceAdd, reduceIte, reduceCtorEq, S1, hd10])
    have bx1_24 := bx1_17.ext hx23
    refine Ow.ldB (off := 0) (v := .int .i8 (a0)) rfl (by simp only [S0, Nat.reduceEqDiff, Nat.reduceAdd, reduceIte, reduceCtorEq, S1, hd10]) bx1_24 rfl ?_
    (refine Ow.popM rfl ?_; simp only [S0, Nat.reduceEqDiff, Nat.reduceAdd, reduceIte, reduceCtorEq, S1, hd10])
    refine Ow.nilM ⟨nofun, ?_⟩
    show Cw _ _ _ _ _
    refine Cw.block ?_
    refine Cw.loopI ((a1 - a0 + 1).toNat) (fun k E Hq => (E.get 2 = some (.pointer (some ⟨H.n, 0, none⟩)) ∧ E.get 3 = some (.pointer (some ⟨H1.n, 0, none⟩)) ∧ E.get 4 = some (.pointer (some ⟨H2.n, 0, none⟩)) ∧ E.get 5 = some (.pointer (some ⟨H14.n, 0, none⟩)) ∧ E.get 6 = some (.int .i8 (a0 + ((k : Nat) : Int)))) ∧ AL.Ext H14 Hq ∧ (∃ B, Bx Hq H14.n [.int .i8 (lo a0 b0), .int .i8 B] ∧ B ≤ hi a1 b1 ∧ (k = (a1 - a0 + 1).toNat → B = hi a1 b1))) ⟨⟨(by simp only [S0, Nat.reduceEqDiff, Nat.reduceAdd, reduceIte, reduceCtorEq, S1, and_self, hd10]), (by simp only [S0, Nat.reduceEqDiff, Nat.reduceAdd, reduceIte, reduceCtorEq, S1, and_self, hd10]), (by simp only [S0, Nat.reduceEqDiff, Nat.reduceAdd, reduceIte, reduceCtorEq, S1, and_self, hd10]), (by simp only [S0, Nat.reduceEqDiff, Nat.reduceAdd, reduceIte, reduceCtorEq, S1, and_self, hd10]), (by simp only [S0, Nat.reduceEqDiff, Nat.reduceAdd, reduceIte, reduceCtorEq, eq_self, hd10]; simp)⟩, hx23, ⟨hi a0 b0, bx15_23, hi_mono ha hb, fun h => by omega⟩⟩ ?_
    rintro k25 E25 H25 hk25 ⟨⟨g25_2, g25_3, g25_4, g25_5, g25_6⟩, hx25, ⟨B, bo, hBl, hBe⟩⟩
    by_cases hlt25 : k25 < (a1 - a0 + 1).toNat
    · skip
      refine Cw.seq ?_
      refine Cw.seq ?_
      refine Cw.region ?_
      iterate 2 (refine Ow.popM rfl ?_; simp only [S0, Nat.reduceEqDiff, Nat.reduceAdd, reduceIte, reduceCtorEq, S1, g25_2, g25_3, g25_4, g25_5, g25_6, hd10])
      have bx1_26 := bx1_17.ext hx25
      refine Ow.ldB (off := 1) (v := .int .i8 (a1)) rfl (by simp only [S0, Nat.reduceEqDiff, Nat.reduceAdd, reduceIte, reduceCtorEq, S1, g25_2, g25_3, g25_4, g25_5, g25_6, hd10]) bx1_26 rfl ?_
      (refine Ow.popM rfl ?_; simp only [S0, Nat.reduceEqDiff, Nat.reduceAdd, reduceIte, reduceCtorEq, S1, show decide (a0 + ((k25 : Nat) : Int) ≤ a1) = true from decide_eq_true (by omega), g25_2, g25_3, g25_4, g25_5, g25_6, hd10])
      refine Ow.nilM ⟨nofun, ?_⟩
      show Cw _ _ _ _ _
      refine Cw.cond (t := true) (by simp only [S0, Nat.reduceEqDiff, Nat.reduceAdd, reduceIte, reduceCtorEq, S1, g25_2, g25_3, g25_4, g25_5, g25_6, hd10]) ?_
      refine Cw.skip ?_
      show Cw _ _ _ _ _
      refine Cw.seq ?_
      refine Cw.block ?_
      refine Cw.seq ?_
      refine Cw.region ?_
      (refine Ow.popM rfl ?_; simp only [S0, Nat.reduceEqDiff, Nat.reduceAdd, reduceIte, reduceCtorEq, S1, g25_2, g25_3, g25_4, g25_5, g25_6, hd10])
      have bx2_27 := bx2_19.ext hx25
      refine Ow.ldB (off := 0) (v := .int .i8 (b0)) rfl (by simp only [S0, Nat.reduceEqDiff, Nat.reduceAdd, reduceIte, reduceCtorEq, S1, g25_2, g25_3, g25_4, g25_5, g25_6, hd10]) bx2_27 rfl ?_
      (refine Ow.popM rfl ?_; simp only [S0, Nat.reduceEqDiff, Nat.reduceAdd, reduceIte, reduceCtorEq, S1, g25_2, g25_3, g25_4, g25_5, g25_6, hd10])
      refine Ow.nilM ⟨nofun, ?_⟩
      show Cw _ _ _ _ _
      refine Cw.block ?_
      refine Cw.loopI ((b1 - b0 + 1).toNat) (fun k E Hq => (E.get 2 = some (.pointer (some ⟨H.n, 0, none⟩)) ∧ E.get 3 = some (.pointer (some ⟨H1.n, 0, none⟩)) ∧ E.get 4 = some (.pointer (some ⟨H2.n, 0, none⟩)) ∧ E.get 5 = some (.pointer (some ⟨H14.n, 0, none⟩)) ∧ E.get 6 = some (.int .i8 (a0 + ((k25 : Nat) : Int))) ∧ E.get 7 = some (.int .i8 (b0 + ((k : Nat) : Int)))) ∧ AL.Ext H14 Hq ∧ (∃ B, Bx Hq H14.n [.int .i8 (lo a0 b0), .int .i8 B] ∧ B ≤ hi a1 b1 ∧ (k25 + 1 = (a1 - a0 + 1).toNat → k = (b1 - b0 + 1).toNat → B = hi a1 b1))) ⟨⟨(by simp only [S0, Nat.reduceEqDiff, Nat.reduceAdd, reduceIte, reduceCtorEq, S1, and_self, g25_2, g25_3, g25_4, g25_5, g25_6, hd10]), (by simp only [S0, Nat.reduceEqDiff, Nat.reduceAdd, reduceIte, reduceCtorEq, S1, and_self, g25_2, g25_3, g25_4, g25_5, g25_6, hd10]), (by simp only [S0, Nat.reduceEqDiff, Nat.reduceAdd, reduceIte, reduceCtorEq, S1, and_self, g25_2, g25_3, g25_4, g25_5, g25_6, hd10]), (by simp only [S0, Nat.reduceEqDiff, Nat.reduceAdd, reduceIte, reduceCtorEq, S1, and_self, g25_2, g25_3, g25_4, g25_5, g25_6, hd10]), (by simp only [S0, Nat.reduceEqDiff, Nat.reduceAdd, reduceIte, reduceCtorEq, S1, and_self, g25_2, g25_3, g25_4, g25_5, g25_6, hd10]), (by simp only [S0, Nat.reduceEqDiff, Nat.reduceAdd, reduceIte, reduceCtorEq, eq_self, g25_2, g25_3, g25_4, g25_5, g25_6, hd10]; simp)⟩, hx25, ⟨B, bo, hBl, fun h h2 => by omega⟩⟩ ?_
      rintro k28 E28 H28 hk28 ⟨⟨g28_2, g28_3, g28_4, g28_5, g28_6, g28_7⟩, hx28, ⟨B2, bp, hB2l, hB2e⟩⟩
      by_cases hlt28 : k28 < (b1 - b0 + 1).toNat
      · skip
        refine Cw.seq ?_
        refine Cw.seq ?_
        refine Cw.region ?_
        iterate 2 (refine Ow.popM rfl ?_; simp only [S0, Nat.reduceEqDiff, Nat.reduceAdd, reduceIte, reduceCtorEq, S1, g28_2, g28_3, g28_4, g28_5, g28_6, g28_7, hd10])
        have bx2_29 := bx2_19.ext hx28
        refine Ow.ldB (off := 1) (v := .int .i8 (b1)) rfl (by simp only [S0, Nat.reduceEqDiff, Nat.reduceAdd, reduceIte, reduceCtorEq, S1, g28_2, g28_3, g28_4, g28_5, g28_6, g28_7, hd10]) bx2_29 rfl ?_
        (refine Ow.popM rfl ?_; simp only [S0, Nat.reduceEqDiff, Nat.reduceAdd, reduceIte, reduceCtorEq, S1, show decide (b0 + ((k28 : Nat) : Int) ≤ b1) = true from decide_eq_true (by omega), g28_2, g28_3, g28_4, g28_5, g28_6, g28_7, hd10])
        refine Ow.nilM ⟨nofun, ?_⟩
        show Cw _ _ _ _ _
        refine Cw.cond (t := true) (by simp only [S0, Nat.reduceEqDiff, Nat.reduceAdd, reduceIte, reduceCtorEq, S1, g28_2, g28_3, g28_4, g28_5, g28_6, g28_7, hd10]) ?_
        refine Cw.skip ?_
        show Cw _ _ _ _ _
        refine Cw.seq ?_
        refine Cw.block ?_
        refine Cw.region ?_
        refine Ow.ldB (off := 0) (v := .agg ⟨[.int .i8 (lo a0 b0), .int .i8 (B2)]⟩) rfl (by simp only [S0, Nat.reduceEqDiff, Nat.reduceAdd, reduceIte, reduceCtorEq, S1, g28_2, g28_3, g28_4, g28_5, g28_6, g28_7, hd10]) bp rfl ?_
        iterate 2 (refine Ow.popM rfl ?_; simp only [S0, Nat.reduceEqDiff, Nat.reduceAdd, reduceIte, reduceCtorEq, S1, g28_2, g28_3, g28_4, g28_5, g28_6, g28_7, hd10])
        refine Ow.callA (k := 44) (fs := []) (cs := []) (vs := [.int .i8 (a0 + ((k25 : Nat) : Int)), .int .i8 (b0 + ((k28 : Nat) : Int))]) rfl rfl (by simp only [S0, Nat.reduceEqDiff, Nat.reduceAdd, reduceIte, reduceCtorEq, S1, g28_2, g28_3, g28_4, g28_5, g28_6, g28_7, hd10]) (meet_any hx (by first | assumption | (unfold Lv at *; omega)) (by first | assumption | (unfold Lv at *; omega))) (fun _ _ _ h => h) ?_
        rintro _ H30 hx30 rfl
        refine Ow.callA (k := 45) (fs := []) (cs := []) (vs := [.agg ⟨[.int .i8 (lo a0 b0), .int .i8 (B2)]⟩, .agg ⟨[.int .i8 (lo (a0 + ((k25 : Nat) : Int)) (b0 + ((k28 : Nat) : Int))), .int .i8 (hi (a0 + ((k25 : Nat) : Int)) (b0 + ((k28 : Nat) : Int)))]⟩]) rfl rfl (by simp only [S0, Nat.reduceEqDiff, Nat.reduceAdd, reduceIte, reduceCtorEq, S1, g28_2, g28_3, g28_4, g28_5, g28_6, g28_7, hd10]) (join_any hx ) (fun _ _ _ h => h) ?_
        rintro _ H31 hx31 rfl
        have bp_33 := bp.ext hx30
        have bp_34 := bp_33.ext hx31
        refine Ow.stB (H0 := H14) (off := 0) (v := .agg ⟨[.int .i8 (mn (lo a0 b0) (lo (a0 + ((k25 : Nat) : Int)) (b0 + ((k28 : Nat) : Int)))), .int .i8 (mx (B2) (hi (a0 + ((k25 : Nat) : Int)) (b0 + ((k28 : Nat) : Int))))]⟩) (vs' := [.int .i8 (mn (lo a0 b0) (lo (a0 + ((k25 : Nat) : Int)) (b0 + ((k28 : Nat) : Int)))), .int .i8 (mx (B2) (hi (a0 + ((k25 : Nat) : Int)) (b0 + ((k28 : Nat) : Int))))]) rfl (by simp only [S0, Nat.reduceEqDiff, Nat.reduceAdd, reduceIte, reduceCtorEq, S1, g28_2, g28_3, g28_4, g28_5, g28_6, g28_7, hd10]) (by simp only [S0, Nat.reduceEqDiff, Nat.reduceAdd, reduceIte, reduceCtorEq, S1, g28_2, g28_3, g28_4, g28_5, g28_6, g28_7, hd10]) bp_34 rfl rfl ((hx28.trans hx30).trans hx31) (Nat.le_refl _) ?_
        intro H32 hx32 hn32 hk32 bp_32
        have bx2_35 := bx2_29.ext hx30
        have bx2_36 := bx2_35.ext hx31
        have bx2_37 := Bx.keep bx2_36 hn32 hk32 ne18.symm
        refine Ow.nilM ⟨fun _ => by rfl, ?_⟩
        show Cw _ _ _ _ _
        refine Cw.region ?_
        iterate 3 (refine Ow.popM rfl ?_; simp only [S0, Nat.reduceEqDiff, Nat.reduceAdd, reduceIte, reduceCtorEq, S1, show fwrap .i8 (b0 + ((k28 : Nat) : Int) + 1) = b0 + ((k28 + 1 : Nat) : Int) from (succ_lv (by unfold Lv at *; omega)).trans (by omega), g28_2, g28_3, g28_4, g28_5, g28_6, g28_7, hd10])
        refine Ow.nilM ⟨nofun, ?_⟩
        have hlo : mn (lo a0 b0) (lo (a0 + ((k25 : Nat) : Int)) (b0 + ((k28 : Nat) : Int))) = lo a0 b0 := by have := lo_mono (m := a0) (n := b0) (p := a0 + ((k25 : Nat) : Int)) (q := b0 + ((k28 : Nat) : Int)) (by omega) (by omega); unfold mn; split <;> omega
        have hhi := hi_mono (m := a0 + ((k25 : Nat) : Int)) (n := b0 + ((k28 : Nat) : Int)) (p := a1) (q := b1) (by omega) (by omega)
        have hn1 : mx B2 (hi (a0 + ((k25 : Nat) : Int)) (b0 + ((k28 : Nat) : Int))) ≤ hi a1 b1 := by unfold mx; split <;> omega
        have hn2 : k25 + 1 = (a1 - a0 + 1).toNat → k28 + 1 = (b1 - b0 + 1).toNat → mx B2 (hi (a0 + ((k25 : Nat) : Int)) (b0 + ((k28 : Nat) : Int))) = hi a1 b1 := fun h h2 => by rw [show a0 + ((k25 : Nat) : Int) = a1 by omega, show b0 + ((k28 : Nat) : Int) = b1 by omega] at *; unfold mx; split <;> omega
        rw [hlo] at bp_32
        exact ⟨hlt28, ⟨(by simp only [S0, Nat.reduceEqDiff, Nat.reduceAdd, reduceIte, reduceCtorEq, S1, and_self, g28_2, g28_3, g28_4, g28_5, g28_6, g28_7, hd10]), (by simp only [S0, Nat.reduceEqDiff, Nat.reduceAdd, reduceIte, reduceCtorEq, S1, and_self, g28_2, g28_3, g28_4, g28_5, g28_6, g28_7, hd10]), (by simp only [S0, Nat.reduceEqDiff, Nat.reduceAdd, reduceIte, reduceCtorEq, S1, and_self, g28_2, g28_3, g28_4, g28_5, g28_6, g28_7, hd10]), (by simp only [S0, Nat.reduceEqDiff, Nat.reduceAdd, reduceIte, reduceCtorEq, S1, and_self, g28_2, g28_3, g28_4, g28_5, g28_6, g28_7, hd10]), (by simp only [S0, Nat.reduceEqDiff, Nat.reduceAdd, reduceIte, reduceCtorEq, S1, and_self, g28_2, g28_3, g28_4, g28_5, g28_6, g28_7, hd10]), (by simp only [S0, Nat.reduceEqDiff, Nat.reduceAdd, reduceIte, reduceCtorEq, S1, and_self, g28_2, g28_3, g28_4, g28_5, g28_6, g28_7, hd10] <;> rfl)⟩, hx32, ⟨_, bp_32, hn1, hn2⟩⟩
      · obtain rfl : (b1 - b0 + 1).toNat = k28 := by omega
        have hB2e : k25 + 1 = (a1 - a0 + 1).toNat → B2 = hi a1 b1 := fun h => hB2e h (by omega)
        refine Cw.seq ?_
        refine Cw.seq ?_
        refine Cw.region ?_
        iterate 2 (refine Ow.popM rfl ?_; simp only [S0, Nat.reduceEqDiff, Nat.reduceAdd, reduceIte, reduceCtorEq, S1, g28_2, g28_3, g28_4, g28_5, g28_6, g28_7, hd10])
        have bx2_38 := bx2_19.ext hx28
        refine Ow.ldB (off := 1) (v := .int .i8 (b1)) rfl (by simp only [S0, Nat.reduceEqDiff, Nat.reduceAdd, reduceIte, reduceCtorEq, S1, g28_2, g28_3, g28_4, g28_5, g28_6, g28_7, hd10]) bx2_38 rfl ?_
        (refine Ow.popM rfl ?_; simp only [S0, Nat.reduceEqDiff, Nat.reduceAdd, reduceIte, reduceCtorEq, S1, show decide (b0 + ((((b1 - b0 + 1).toNat) : Nat) : Int) ≤ b1) = false from decide_eq_false (by omega), g28_2, g28_3, g28_4, g28_5, g28_6, g28_7, hd10])
        refine Ow.nilM ⟨nofun, ?_⟩
        show Cw _ _ _ _ _
        refine Cw.cond (t := false) (by simp only [S0, Nat.reduceEqDiff, Nat.reduceAdd, reduceIte, reduceCtorEq, S1, g28_2, g28_3, g28_4, g28_5, g28_6, g28_7, hd10]) ?_
        refine Cw.exit ?_
        show Cw _ _ _ _ _
        refine Cw.region ?_
        iterate 3 (refine Ow.popM rfl ?_; simp only [S0, Nat.reduceEqDiff, Nat.reduceAdd, reduceIte, reduceCtorEq, S1, show fwrap .i8 (a0 + ((k25 : Nat) : Int) + 1) = a0 + ((k25 + 1 : Nat) : Int) from (succ_lv (by unfold Lv at *; omega)).trans (by omega), g28_2, g28_3, g28_4, g28_5, g28_6, g28_7, hd10])
        refine Ow.nilM ⟨nofun, ?_⟩
        exact ⟨hlt25, ⟨(by simp only [S0, Nat.reduceEqDiff, Nat.reduceAdd, reduceIte, reduceCtorEq, S1, and_self, g28_2, g28_3, g28_4, g28_5, g28_6, g28_7, hd10]), (by simp only [S0, Nat.reduceEqDiff, Nat.reduceAdd, reduceIte, reduceCtorEq, S1, and_self, g28_2, g28_3, g28_4, g28_5, g28_6, g28_7, hd10]), (by simp only [S0, Nat.reduceEqDiff, Nat.reduceAdd, reduceIte, reduceCtorEq, S1, and_self, g28_2, g28_3, g28_4, g28_5, g28_6, g28_7, hd10]), (by simp only [S0, Nat.reduceEqDiff, Nat.reduceAdd, reduceIte, reduceCtorEq, S1, and_self, g28_2, g28_3, g28_4, g28_5, g28_6, g28_7, hd10]), (by simp only [S0, Nat.reduceEqDiff, Nat.reduceAdd, reduceIte, reduceCtorEq, S1, and_self, g28_2, g28_3, g28_4, g28_5, g28_6, g28_7, hd10] <;> rfl)⟩, hx28, ⟨_, bp, hB2l, fun h => hB2e (by omega)⟩⟩
    · obtain rfl : (a1 - a0 + 1).toNat = k25 := by omega
      have hB : B = hi a1 b1 := hBe (by omega)
      refine Cw.seq ?_
      refine Cw.seq ?_
      refine Cw.region ?_
      iterate 2 (refine Ow.popM rfl ?_; simp only [S0, Nat.reduceEqDiff, Nat.reduceAdd, reduceIte, reduceCtorEq, S1, g25_2, g25_3, g25_4, g25_5, g25_6, hd10])
      have bx1_39 := bx1_17.ext hx25
      refine Ow.ldB (off := 1) (v := .int .i8 (a1)) rfl (by simp only [S0, Nat.reduceEqDiff, Nat.reduceAdd, reduceIte, reduceCtorEq, S1, g25_2, g25_3, g25_4, g25_5, g25_6, hd10]) bx1_39 rfl ?_
      (refine Ow.popM rfl ?_; simp only [S0, Nat.reduceEqDiff, Nat.reduceAdd, reduceIte, reduceCtorEq, S1, show decide (a0 + ((((a1 - a0 + 1).toNat) : Nat) : Int) ≤ a1) = false from decide_eq_false (by omega), g25_2, g25_3, g25_4, g25_5, g25_6, hd10])
      refine Ow.nilM ⟨nofun, ?_⟩
      show Cw _ _ _ _ _
      refine Cw.cond (t := false) (by simp only [S0, Nat.reduceEqDiff, Nat.reduceAdd, reduceIte, reduceCtorEq, S1, g25_2, g25_3, g25_4, g25_5, g25_6, hd10]) ?_
      refine Cw.exit ?_
      show Cw _ _ _ _ _
      refine Cw.seq ?_
      refine Cw.region ?_
      refine Ow.ldB (off := 0) (v := .agg ⟨[.int .i8 (lo a0 b0), .int .i8 (B)]⟩) rfl (by simp only [S0, Nat.reduceEqDiff, Nat.reduceAdd, reduceIte, reduceCtorEq, S1, g25_2, g25_3, g25_4, g25_5, g25_6, hd10]) bo rfl ?_
      have bx4_41 := bx4_22.ext hx25
      refine Ow.stB (H0 := H2) (off := 0) (v := .agg ⟨[.int .i8 (lo a0 b0), .int .i8 (B)]⟩) (vs' := [.int .i8 (lo a0 b0), .int .i8 (B)]) rfl (by simp only [S0, Nat.reduceEqDiff, Nat.reduceAdd, reduceIte, reduceCtorEq, S1, g25_2, g25_3, g25_4, g25_5, g25_6, hd10]) (by simp only [S0, Nat.reduceEqDiff, Nat.reduceAdd, reduceIte, reduceCtorEq, S1, g25_2, g25_3, g25_4, g25_5, g25_6, hd10]) bx4_41 rfl rfl (((hx4.trans hx9).trans hx14).trans hx25) (Nat.le_refl _) ?_
      intro H40 hx40 hn40 hk40 bx4_40
      have bx2_42 := bx2_19.ext hx25
      have ge43 : H2.n ≤ H14.n := Nat.le_trans (((hx4.trans hx9).trans hx14)).n (Nat.le_refl _)
      have bx1_44 := Bx.keep bx1_39 hn40 hk40 ne5.symm
      have bx2_45 := Bx.keep bx2_42 hn40 hk40 ne7.symm
      have bo_46 := Bx.keep bo hn40 hk40 ne20
      refine Ow.nilM ⟨nofun, ?_⟩
      show Cw _ _ _ _ _
      refine Cw.ret ?_
      try simp only [Then, InBlock, Rnd]
      exact fn_cell (t := 4) (off := 0) (by simp only [S0, Nat.reduceEqDiff, Nat.reduceAdd, reduceIte, reduceCtorEq, S1, g25_2, g25_3, g25_4, g25_5, g25_6, hd10]) bx4_40 rfl ⟨((hx1.trans hx2).trans hx40), by rw [hB]; rfl⟩
  · skip
    refine Cw.cond (t := true) (by simp only [S0, Nat.reduceEqDiff, Nat.reduceAdd, reduceIte, reduceCtorEq, S1, hd10]) ?_
    refine Cw.seq ?_
    refine Cw.region ?_
    have bx2_47 := bx2.ext hx4
    have bx2_48 := bx2_47.ext hx9
    refine Ow.ldB (off := 0) (v := .agg ⟨[.int .i8 (b0), .int .i8 (b1)]⟩) rfl (by simp only [S0, Nat.reduceEqDiff, Nat.reduceAdd, reduceIte, reduceCtorEq, S1, hd10]) bx2_48 rfl ?_
    have bx4_50 := bx4.ext hx9
    refine Ow.stB (H0 := H2) (off := 0) (v := .agg ⟨[.int .i8 (b0), .int .i8 (b1)]⟩) (vs' := [.int .i8 (b0), .int .i8 (b1)]) rfl (by simp only [S0, Nat.reduceEqDiff, Nat.reduceAdd, reduceIte, reduceCtorEq, S1, hd10]) (by simp only [S0, Nat.reduceEqDiff, Nat.reduceAdd, reduceIte, reduceCtorEq, S1, hd10]) bx4_50 rfl rfl (hx4.trans hx9) (Nat.le_refl _) ?_
    intro H49 hx49 hn49 hk49 bx4_49
    have bx1_51 := bx1_8.ext hx9
    have bx1_52 := Bx.keep bx1_51 hn49 hk49 ne5.symm
    have bx2_53 := Bx.keep bx2_48 hn49 hk49 ne7.symm
    refine Ow.nilM ⟨nofun, ?_⟩
    show Cw _ _ _ _ _
    refine Cw.ret ?_
    try simp only [Then, InBlock, Rnd]
    have ez : a0 = 0 ∧ a1 = 0 := by simpa using hd10
    obtain ⟨rfl, rfl⟩ := ez
    exact fn_cell (t := 4) (off := 0) (by simp only [S0, Nat.reduceEqDiff, Nat.reduceAdd, reduceIte, reduceCtorEq, S1, hd10]) bx4_49 rfl ⟨((hx1.trans hx2).trans hx49), by rw [lo_zero, hi_zero]; rfl⟩
/-- Combine -/
theorem combine_any (hx : Ext0 ext) {H : AH} {id : Nat} {l : List (Int × Int)} (fl : Bx H id (flat l)) (hl : l.length < 2 ^ 30) :
    Run (Cx ext) 20 [.slice (some ⟨id, 0, none⟩) l.length l.length] H fun r H' => AL.Ext H H' ∧ r = .agg ⟨[.int .i8 (cb l).1, .int .i8 (cb l).2]⟩ := by
  refine Run.intro (fi := IR.fi20) (hx 20 (by decide)) (by kernel_rfl) ?_
  unfold IR.fi20
  simp only [envOf_cons, envOf_nil]
  refine Cw.seq ?_
  refine Cw.region ?_
  refine Ow.newB rfl ?_
  intro H1 hx1 hl1 bx1
  refine Ow.nilM ⟨nofun, ?_⟩
  show Cw _ _ _ _ _
  refine Cw.seq ?_
  refine Cw.region ?_
  refine Ow.callA (k := 36) (fs := []) (cs := []) (vs := [.int .i8 (0)]) rfl rfl (by simp only [S0, Nat.reduceEqDiff, Nat.reduceAdd, reduceIte, reduceCtorEq, S1]) (level_any hx ) (fun _ _ _ h => h) ?_
  rintro _ H2 hx2 rfl
  refine Ow.newB rfl ?_
  have bx1_5 := bx1.ext hx2
  have ne4 : H2.n ≠ H.n := Nat.ne_of_gt bx1_5.1
  intro H3 hx3 hl3 bx3
  refine Ow.stB (H0 := H2) (off := 0) (v := .agg ⟨[.int .i8 (0), .int .i8 (0)]⟩) (vs' := [.int .i8 (0), .int .i8 (0)]) rfl (by simp only [S0, Nat.reduceEqDiff, Nat.reduceAdd, reduceIte, reduceCtorEq, S1]) (by simp only [S0, Nat.reduceEqDiff, Nat.reduceAdd, reduceIte, reduceCtorEq, S1]) bx3 rfl rfl hx3 (Nat.le_refl _) ?_
  intro H6 hx6 hn6 hk6 bx3_6
  refine Ow.nilM ⟨nofun, ?_⟩
  show Cw _ _ _ _ _
  refine Cw.seq ?_
  refine Cw.seq ?_
  refine Cw.region ?_
  iterate 3 (refine Ow.popM rfl ?_; simp only [S0, Nat.reduceEqDiff, Nat.reduceAdd, reduceIte, reduceCtorEq, S1])
  refine Ow.nilM ⟨nofun, ?_⟩
  show Cw _ _ _ _ _
  refine Cw.block ?_
  refine Cw.loopI (l.length) (fun k E Hq => (E.get 2 = some (.pointer (some ⟨H.n, 0, none⟩)) ∧ E.get 3 = some (.pointer (some ⟨H2.n, 0, none⟩)) ∧ E.get 7 = some (.slice (some ⟨id, 0, none⟩) l.length l.length) ∧ E.get 8 = some (.int .i64 ((l.length : Nat) : Int)) ∧ E.get 9 = some (.int .i64 ((k : Nat) : Int))) ∧ AL.Ext H2 Hq ∧ Bx Hq H2.n [.int .i8 (cb (l.take k)).1, .int .i8 (cb (l.take k)).2]) ⟨⟨(by simp only [S0, Nat.reduceEqDiff, Nat.reduceAdd, reduceIte, reduceCtorEq, S1, and_self]), (by simp only [S0, Nat.reduceEqDiff, Nat.reduceAdd, reduceIte, reduceCtorEq, S1, and_self]), (by simp only [S0, Nat.reduceEqDiff, Nat.reduceAdd, reduceIte, reduceCtorEq, S1, and_self]), (by simp only [S0, Nat.reduceEqDiff, Nat.reduceAdd, reduceIte, reduceCtorEq, S1, and_self]), (by simp only [S0, Nat.reduceEqDiff, Nat.reduceAdd, reduceIte, reduceCtorEq, eq_self] <;> first | rfl | simp [Nat.mod_one])⟩, hx6, bx3_6⟩ ?_
  rintro k7 E7 H7 hk7 ⟨⟨g7_2, g7_3, g7_7, g7_8, g7_9⟩, hx7, bo⟩
  by_cases hlt7 : k7 < l.length
  · skip
    refine Cw.seq ?_
    refine Cw.region ?_
    (refine Ow.popM rfl ?_; simp only [S0, Nat.reduceEqDiff, Nat.reduceAdd, reduceIte, reduceCtorEq, S1, show decide ((((k7 : Nat) : Int) : Int) < (((l.length : Nat) : Int) : Int)) = decide (k7 < l.length) from lt_dec (k7) (l.length), show decide (k7 < l.length) = true from decide_eq_true (hlt7), g7_2, g7_3, g7_7, g7_8, g7_9])
    refine Ow.nilM ⟨nofun, ?_⟩
    show Cw _ _ _ _ _
    refine Cw.seq ?_
    refine Cw.cond (t := true) (by simp only [S0, Nat.reduceEqDiff, Nat.reduceAdd, reduceIte, reduceCtorEq, S1, g7_2, g7_3, g7_7, g7_8, g7_9]) ?_
    refine Cw.skip ?_
    show Cw _ _ _ _ _
    refine Cw.seq ?_
    refine Cw.block ?_
    refine Cw.seq ?_
    refine Cw.region ?_
    (refine Ow.popM rfl ?_; simp only [S0, Nat.reduceEqDiff, Nat.reduceAdd, reduceIte, reduceCtorEq, S1, ix_ok (show k7 < l.length by omega), g7_2, g7_3, g7_7, g7_8, g7_9])
    have fl_8 := fl.ext hx1
    have fl_9 := fl_8.ext hx2
    have fl_10 := fl_9.ext hx7
    refine Ow.ldB (off := k7 * 2) (v := .agg ⟨[.int .i8 ((at2 l k7).1), .int .i8 ((at2 l k7).2)]⟩) rfl (by simp only [S0, Nat.reduceEqDiff, Nat.reduceAdd, reduceIte, reduceCtorEq, S1, g7_2, g7_3, g7_7, g7_8, g7_9]) fl_10 (flat_part (by omega)) ?_
    refine Ow.newB rfl ?_
    have bx1_13 := bx1_5.ext hx7
    have ne12 : H7.n ≠ H.n := Nat.ne_of_gt bx1_13.1
    have ne14 : H7.n ≠ H2.n := Nat.ne_of_gt bo.1
    intro H11 hx11 hl11 bx11
    refine Ow.stB (H0 := H7) (off := 0) (v := .agg ⟨[.int .i8 ((at2 l k7).1), .int .i8 ((at2 l k7).2)]⟩) (vs' := [.int .i8 ((at2 l k7).1), .int .i8 ((at2 l k7).2)]) rfl (by simp only [S0, Nat.reduceEqDiff, Nat.reduceAdd, reduceIte, reduceCtorEq, S1, g7_2, g7_3, g7_7, g7_8, g7_9]) (by simp only [S0, Nat.reduceEqDiff, Nat.reduceAdd, reduceIte, reduceCtorEq, S1, g7_2, g7_3, g7_7, g7_8, g7_9]) bx11 rfl rfl hx11 (Nat.le_refl _) ?_
    intro H15 hx15 hn15 hk15 bx11_15
    refine Ow.nilM ⟨nofun, ?_⟩
    show Cw _ _ _ _ _
    refine Cw.region ?_
    have bo_16 := bo.ext hx15
    refine Ow.ldB (off := 0) (v := .agg ⟨[.int .i8 ((cb (l.take k7)).1), .int .i8 ((cb (l.take k7)).2)]⟩) rfl (by simp only [S0, Nat.reduceEqDiff, Nat.reduceAdd, reduceIte, reduceCtorEq, S1, g7_2, g7_3, g7_7, g7_8, g7_9]) bo_16 rfl ?_
    refine Ow.ldB (off := 0) (v := .agg ⟨[.int .i8 ((at2 l k7).1), .int .i8 ((at2 l k7).2)]⟩) rfl (by simp only [S0, Nat.reduceEqDiff, Nat.reduceAdd, reduceIte, reduceCtorEq, S1, g7_2, g7_3, g7_7, g7_8, g7_9]) bx11_15 rfl ?_
    refine Ow.callA (k := 22) (fs := []) (cs := []) (vs := [.agg ⟨[.int .i8 ((at2 l k7).1), .int .i8 ((at2 l k7).2)]⟩]) rfl rfl (by simp only [S0, Nat.reduceEqDiff, Nat.reduceAdd, reduceIte, reduceCtorEq, S1, g7_2, g7_3, g7_7, g7_8, g7_9]) (norm_any hx ) (fun _ _ _ h => h) ?_
    rintro _ H17 hx17 rfl
    refine Ow.callA (k := 38) (fs := []) (cs := []) (vs := [.agg ⟨[.int .i8 ((cb (l.take k7)).1), .int .i8 ((cb (l.take k7)).2)]⟩, .agg ⟨[.int .i8 (nl ((at2 l k7).1) ((at2 l k7).2)), .int .i8 (nh ((at2 l k7).1) ((at2 l k7).2))]⟩]) rfl rfl (by simp only [S0, Nat.reduceEqDiff, Nat.reduceAdd, reduceIte, reduceCtorEq, S1, g7_2, g7_3, g7_7, g7_8, g7_9]) (pair_any hx (cb_vd _).1 (cb_vd _).2.1 (nl_lv _ _) (nh_lv _ _) (cb_vd _).2.2 (nl_nh _ _)) (fun _ _ _ h => h) ?_
    rintro _ H18 hx18 rfl
    have bo_20 := bo_16.ext hx17
    have bo_21 := bo_20.ext hx18
    refine Ow.stB (H0 := H2) (off := 0) (v := .agg ⟨[.int .i8 (lo ((cb (l.take k7)).1) (nl ((at2 l k7).1) ((at2 l k7).2))), .int .i8 (hi ((cb (l.take k7)).2) (nh ((at2 l k7).1) ((at2 l k7).2)))]⟩) (vs' := [.int .i8 (lo ((cb (l.take k7)).1) (nl ((at2 l k7).1) ((at2 l k7).2))), .int .i8 (hi ((cb (l.take k7)).2) (nh ((at2 l k7).1) ((at2 l k7).2)))]) rfl (by simp only [S0, Nat.reduceEqDiff, Nat.reduceAdd, reduceIte, reduceCtorEq, S1, g7_2, g7_3, g7_7, g7_8, g7_9]) (by simp only [S0, Nat.reduceEqDiff, Nat.reduceAdd, reduceIte, reduceCtorEq, S1, g7_2, g7_3, g7_7, g7_8, g7_9]) bo_21 rfl rfl (((hx7.trans hx15).trans hx17).trans hx18) (Nat.le_refl _) ?_
    intro H19 hx19 hn19 hk19 bo_19
    have bx1_22 := bx1_13.ext hx15
    have bx1_23 := bx1_22.ext hx17
    have bx1_24 := bx1_23.ext hx18
    have bx11_25 := bx11_15.ext hx17
    have bx11_26 := bx11_25.ext hx18
    have ge27 : H2.n ≤ H7.n := Nat.le_trans (hx7).n (Nat.le_refl _)
    have bx1_28 := Bx.keep bx1_24 hn19 hk19 ne4.symm
    have bx11_29 := Bx.keep bx11_26 hn19 hk19 ne14
    refine Ow.nilM ⟨fun _ => by rfl, ?_⟩
    show Cw _ _ _ _ _
    refine Cw.region ?_
    iterate 2 (refine Ow.popM rfl ?_; simp only [S0, Nat.reduceEqDiff, Nat.reduceAdd, reduceIte, reduceCtorEq, S1, show fwrap .i64 ((((k7 : Nat) : Int) : Int) + (1 : Int)) = ((k7 + 1 : Nat) : Int) from add_nat (a := k7) (b := 1) (by omega), g7_2, g7_3, g7_7, g7_8, g7_9])
    refine Ow.nilM ⟨nofun, ?_⟩
    exact ⟨hlt7, ⟨(by simp only [S0, Nat.reduceEqDiff, Nat.reduceAdd, reduceIte, reduceCtorEq, S1, and_self, g7_2, g7_3, g7_7, g7_8, g7_9]), (by simp only [S0, Nat.reduceEqDiff, Nat.reduceAdd, reduceIte, reduceCtorEq, S1, and_self, g7_2, g7_3, g7_7, g7_8, g7_9]), (by simp only [S0, Nat.reduceEqDiff, Nat.reduceAdd, reduceIte, reduceCtorEq, S1, and_self, g7_2, g7_3, g7_7, g7_8, g7_9]), (by simp only [S0, Nat.reduceEqDiff, Nat.reduceAdd, reduceIte, reduceCtorEq, S1, and_self, g7_2, g7_3, g7_7, g7_8, g7_9]), (by simp only [S0, Nat.reduceEqDiff, Nat.reduceAdd, reduceIte, reduceCtorEq, S1, and_self, g7_2, g7_3, g7_7, g7_8, g7_9] <;> rfl)⟩, hx19, (by rw [cb_take2 (by assumption)]; exact bo_19)⟩
  · obtain rfl : l.length = k7 := by omega
    refine Cw.seq ?_
    refine Cw.region ?_
    (refine Ow.popM rfl ?_; simp only [S0, Nat.reduceEqDiff, Nat.reduceAdd, reduceIte, reduceCtorEq, S1, show decide ((((l.length : Nat) : Int) : Int) < (((l.length : Nat) : Int) : Int)) = decide (l.length < l.length) from lt_dec (l.length) (l.length), show decide (l.length < l.length) = false from decide_eq_false (Nat.lt_irrefl _), g7_2, g7_3, g7_7, g7_8, g7_9])
    refine Ow.nilM ⟨nofun, ?_⟩
    show Cw _ _ _ _ _
    refine Cw.seq ?_
    refine Cw.cond (t := false) (by simp only [S0, Nat.reduceEqDiff, Nat.reduceAdd, reduceIte, reduceCtorEq, S1, g7_2, g7_3, g7_7, g7_8, g7_9]) ?_
    refine Cw.exit ?_
    show Cw _ _ _ _ _
    refine Cw.seq ?_
    refine Cw.region ?_
    refine Ow.ldB (off := 0) (v := .agg ⟨[.int .i8 ((cb (l.take l.length)).1), .int .i8 ((cb (l.take l.length)).2)]⟩) rfl (by simp only [S0, Nat.reduceEqDiff, Nat.reduceAdd, reduceIte, reduceCtorEq, S1, g7_2, g7_3, g7_7, g7_8, g7_9]) bo rfl ?_
    have bx1_31 := bx1_5.ext hx7
    refine Ow.stB (H0 := H) (off := 0) (v := .agg ⟨[.int .i8 ((cb (l.take l.length)).1), .int .i8 ((cb (l.take l.length)).2)]⟩) (vs' := [.int .i8 ((cb (l.take l.length)).1), .int .i8 ((cb (l.take l.length)).2)]) rfl (by simp only [S0, Nat.reduceEqDiff, Nat.reduceAdd, reduceIte, reduceCtorEq, S1, g7_2, g7_3, g7_7, g7_8, g7_9]) (by simp only [S0, Nat.reduceEqDiff, Nat.reduceAdd, reduceIte, reduceCtorEq, S1, g7_2, g7_3, g7_7, g7_8, g7_9]) bx1_31 rfl rfl ((hx1.trans hx2).trans hx7) (Nat.le_refl _) ?_
    intro H30 hx30 hn30 hk30 bx1_30
    have ge32 : H.n ≤ H2.n := Nat.le_trans ((hx1.trans hx2)).n (Nat.le_refl _)
    have bo_33 := Bx.keep bo hn30 hk30 ne4
    refine Ow.nilM ⟨nofun, ?_⟩
    show Cw _ _ _ _ _
    refine Cw.ret ?_
    try simp only [Then, InBlock, Rnd]
    exact fn_cell (t := 2) (off := 0) (by simp only [S0, Nat.reduceEqDiff, Nat.reduceAdd, reduceIte, reduceCtorEq, S1, g7_2, g7_3, g7_7, g7_8, g7_9]) bx1_30 rfl ⟨hx30, by rw [List.take_length]; rfl⟩
/-- The bit as which an interval is read. -/
def rdv (a b : Int) : Int := if nl a b = 0 ∧ nh a b = 0 then 3 else if nl a b > 0 then 1 else if nh a b < 0 then 0 else 2
/-- FromBool -/
theorem fromBool_any0 (hx : Ext0 ext) {H : AH}  :
    Run (Cx ext) 41 [.bool true] H fun r H' => H' = H ∧ r = .int .u8 1 := by
  refine Run.intro (fi := IR.fi41) (hx 41 (by decide)) (by kernel_rfl) ?_
  unfold IR.fi41
  simp only [envOf_cons, envOf_nil]
  refine Cw.seq ?_
  refine Cw.region ?_
  (refine Ow.popM rfl ?_; simp only [S0, Nat.reduceEqDiff, Nat.reduceAdd, reduceIte, reduceCtorEq, S1])
  refine Ow.nilM ⟨nofun, ?_⟩
  show Cw _ _ _ _ _
  refine Cw.seq ?_
  refine Cw.seq ?_
  refine Cw.region ?_
  (refine Ow.popM rfl ?_; simp only [S0, Nat.reduceEqDiff, Nat.reduceAdd, reduceIte, reduceCtorEq, S1])
  refine Ow.nilM ⟨nofun, ?_⟩
  show Cw _ _ _ _ _
  refine Cw.cond (t := true) (by simp only [S0, Nat.reduceEqDiff, Nat.reduceAdd, reduceIte, reduceCtorEq, S1]) ?_
  refine Cw.seq ?_
  refine Cw.region ?_
  (refine Ow.popM rfl ?_; simp only [S0, Nat.reduceEqDiff, Nat.reduceAdd, reduceIte, reduceCtorEq, S1])
  refine Ow.nilM ⟨nofun, ?_⟩
  show Cw _ _ _ _ _
  refine Cw.ret ?_
  simp only [Then, InBlock, Rnd, FnPost, resOf, tupled, S0, Nat.reduceEqDiff, Nat.reduceAdd, reduceIte, reduceCtorEq]
  exact ⟨trivial, trivial⟩
/-- FromBool -/
theorem fromBool_any1 (hx : Ext0 ext) {H : AH}  :
    Run (Cx ext) 41 [.bool false] H fun r H' => H' = H ∧ r = .int .u8 0 := by
  refine Run.intro (fi := IR.fi41) (hx 41 (by decide)) (by kernel_rfl) ?_
  unfold IR.fi41
  simp only [envOf_cons, envOf_nil]
  refine Cw.seq ?_
  refine Cw.region ?_
  (refine Ow.popM rfl ?_; simp only [S0, Nat.reduceEqDiff, Nat.reduceAdd, reduceIte, reduceCtorEq, S1])
  refine Ow.nilM ⟨nofun, ?_⟩
  show Cw _ _ _ _ _
  refine Cw.seq ?_
  refine Cw.seq ?_
  refine Cw.region ?_
  (refine Ow.popM rfl ?_; simp only [S0, Nat.reduceEqDiff, Nat.reduceAdd, reduceIte, reduceCtorEq, S1])
  refine Ow.nilM ⟨nofun, ?_⟩
  show Cw _ _ _ _ _
  refine Cw.cond (t := false) (by simp only [S0, Nat.reduceEqDiff, Nat.reduceAdd, reduceIte, reduceCtorEq, S1]) ?_
  refine Cw.skip ?_
  show Cw _ _ _ _ _
  refine Cw.seq ?_
  refine Cw.region ?_
  (refine Ow.popM rfl ?_; simp only [S0, Nat.reduceEqDiff, Nat.reduceAdd, reduceIte, reduceCtorEq, S1])
  refine Ow.nilM ⟨nofun, ?_⟩
  show Cw _ _ _ _ _
  refine Cw.ret ?_
  simp only [Then, InBlock, Rnd, FnPost, resOf, tupled, S0, Nat.reduceEqDiff, Nat.reduceAdd, reduceIte, reduceCtorEq]
  exact ⟨trivial, trivial⟩
theorem fromBool_any (hx : Ext0 ext) {H : AH} {b : Bool} : Run (Cx ext) 41 [.bool b] H fun r H' => H' = H ∧ r = .int .u8 (if b then 1 else 0) := by
  cases b
  · exact fromBool_any1 hx
  · exact fromBool_any0 hx
/-- Read -/
theorem read_any (hx : Ext0 ext) {H : AH} {a b : Int} :
    Run (Cx ext) 28 [.agg ⟨[.int .i8 (a), .int .i8 (b)]⟩] H fun r H' => AL.Ext H H' ∧ r = .int .u8 (rdv a b) := by
  refine Run.intro (fi := IR.fi28) (hx 28 (by decide)) (by kernel_rfl) ?_
  unfold IR.fi28
  simp only [envOf_cons, envOf_nil]
  refine Cw.seq ?_
  refine Cw.region ?_
  refine Ow.boxA (v := .agg ⟨[.int .i8 (a), .int .i8 (b)]⟩) rfl (by simp only [S0, Nat.reduceEqDiff, Nat.reduceAdd, reduceIte, reduceCtorEq, S1]) rfl ?_
  intro H1 hx1 hl1 bx1
  (refine Ow.popM rfl ?_; simp only [S0, Nat.reduceEqDiff, Nat.reduceAdd, reduceIte, reduceCtorEq, S1])
  refine Ow.nilM ⟨nofun, ?_⟩
  show Cw _ _ _ _ _
  refine Cw.seq ?_
  refine Cw.region ?_
  refine Ow.ldB (off := 0) (v := .agg ⟨[.int .i8 (a), .int .i8 (b)]⟩) rfl (by simp only [S0, Nat.reduceEqDiff, Nat.reduceAdd, reduceIte, reduceCtorEq, S1]) bx1 rfl ?_
  refine Ow.callA (k := 22) (fs := []) (cs := []) (vs := [.agg ⟨[.int .i8 (a), .int .i8 (b)]⟩]) rfl rfl (by simp only [S0, Nat.reduceEqDiff, Nat.reduceAdd, reduceIte, reduceCtorEq, S1]) (norm_any hx ) (fun _ _ _ h => h) ?_
  rintro _ H2 hx2 rfl
  have bx1_4 := bx1.ext hx2
  refine Ow.stB (H0 := H) (off := 0) (v := .agg ⟨[.int .i8 (nl (a) (b)), .int .i8 (nh (a) (b))]⟩) (vs' := [.int .i8 (nl (a) (b)), .int .i8 (nh (a) (b))]) rfl (by simp only [S0, Nat.reduceEqDiff, Nat.reduceAdd, reduceIte, reduceCtorEq, S1]) (by simp only [S0, Nat.reduceEqDiff, Nat.reduceAdd, reduceIte, reduceCtorEq, S1]) bx1_4 rfl rfl (hx1.trans hx2) (Nat.le_refl _) ?_
  intro H3 hx3 hn3 hk3 bx1_3
  refine Ow.nilM ⟨nofun, ?_⟩
  show Cw _ _ _ _ _
  refine Cw.seq ?_
  refine Cw.block ?_
  refine Cw.seq ?_
  refine Cw.region ?_
  refine Ow.ldB (off := 0) (v := .agg ⟨[.int .i8 (nl (a) (b)), .int .i8 (nh (a) (b))]⟩) rfl (by simp only [S0, Nat.reduceEqDiff, Nat.reduceAdd, reduceIte, reduceCtorEq, S1]) bx1_3 rfl ?_
  refine Ow.callA (k := 36) (fs := []) (cs := []) (vs := [.int .i8 (0)]) rfl rfl (by simp only [S0, Nat.reduceEqDiff, Nat.reduceAdd, reduceIte, reduceCtorEq, S1]) (level_any hx ) (fun _ _ _ h => h) ?_
  rintro _ H5 hx5 rfl
  (refine Ow.popM rfl ?_; simp only [S0, Nat.reduceEqDiff, Nat.reduceAdd, reduceIte, reduceCtorEq, S1])
  (refine Ow.popM rfl ?_; simp only [S0, Nat.reduceEqDiff, Nat.reduceAdd, reduceIte, reduceCtorEq, S1])
  refine Ow.nilM ⟨fun _ => by rfl, ?_⟩
  show Cw _ _ _ _ _
  cases hd6 : ((nl (a) (b) == 0 && (nh (a) (b) == 0 && true)))
  · skip
    refine Cw.cond (t := false) (by simp only [S0, Nat.reduceEqDiff, Nat.reduceAdd, reduceIte, reduceCtorEq, S1, hd6]) ?_
    refine Cw.seq ?_
    refine Cw.region ?_
    (refine Ow.popM rfl ?_; simp only [S0, Nat.reduceEqDiff, Nat.reduceAdd, reduceIte, reduceCtorEq, S1, hd6])
    have bx1_7 := bx1_3.ext hx5
    refine Ow.ldB (off := 0) (v := .int .i8 (nl (a) (b))) rfl (by simp only [S0, Nat.reduceEqDiff, Nat.reduceAdd, reduceIte, reduceCtorEq, S1, hd6]) bx1_7 rfl ?_
    iterate 2 (refine Ow.popM rfl ?_; simp only [S0, Nat.reduceEqDiff, Nat.reduceAdd, reduceIte, reduceCtorEq, S1, hd6])
    refine Ow.nilM ⟨nofun, ?_⟩
    show Cw _ _ _ _ _
    by_cases hq8 : nl (a) (b) > 0
    · have hd8 : decide (nl (a) (b) > 0) = true := decide_eq_true hq8
      refine Cw.cond (t := true) (by simp only [S0, Nat.reduceEqDiff, Nat.reduceAdd, reduceIte, reduceCtorEq, S1, hd6, hd8]) ?_
      refine Cw.seq ?_
      refine Cw.region ?_
      refine Ow.callPA (k := 41) (fs := []) (cs := []) (vs := [.bool true]) rfl rfl (by simp only [S0, Nat.reduceEqDiff, Nat.reduceAdd, reduceIte, reduceCtorEq, S1, hd6, hd8]) (fromBool_any hx) ?_
      intro H9 hx9
      (refine Ow.popM rfl ?_; simp only [S0, Nat.reduceEqDiff, Nat.reduceAdd, reduceIte, reduceCtorEq, S1, hd6, hd8])
      refine Ow.nilM ⟨nofun, ?_⟩
      show Cw _ _ _ _ _
      refine Cw.ret ?_
      simp only [Then, InBlock, Rnd, FnPost, resOf, tupled, S0, Nat.reduceEqDiff, Nat.reduceAdd, reduceIte, reduceCtorEq, hd6, hd8]
      refine ⟨((hx3.trans hx5).trans hx9), ?_⟩
      unfold rdv
      have ez : nl a b = 0 → ¬ nh a b = 0 := by simpa using hd6
      rw [if_neg (fun h => ez h.1 h.2)]
      rw [if_pos hq8]
    · have hd8 : decide (nl (a) (b) > 0) = false := decide_eq_false hq8
      refine Cw.cond (t := false) (by simp only [S0, Nat.reduceEqDiff, Nat.reduceAdd, reduceIte, reduceCtorEq, S1, hd6, hd8]) ?_
      refine Cw.seq ?_
      refine Cw.region ?_
      (refine Ow.popM rfl ?_; simp only [S0, Nat.reduceEqDiff, Nat.reduceAdd, reduceIte, reduceCtorEq, S1, hd6, hd8])
      refine Ow.ldB (off := 1) (v := .int .i8 (nh (a) (b))) rfl (by simp only [S0, Nat.reduceEqDiff, Nat.reduceAdd, reduceIte, reduceCtorEq, S1, hd6, hd8]) bx1_7 rfl ?_
      iterate 2 (refine Ow.popM rfl ?_; simp only [S0, Nat.reduceEqDiff, Nat.reduceAdd, reduceIte, reduceCtorEq, S1, hd6, hd8])
      refine Ow.nilM ⟨nofun, ?_⟩
      show Cw _ _ _ _ _
      by_cases hq10 : nh (a) (b) < 0
      · have hd10 : decide (nh (a) (b) < 0) = true := decide_eq_true hq10
        refine Cw.cond (t := true) (by simp only [S0, Nat.reduceEqDiff, Nat.reduceAdd, reduceIte, reduceCtorEq, S1, hd6, hd8, hd10]) ?_
        refine Cw.seq ?_
        refine Cw.region ?_
        refine Ow.callPA (k := 41) (fs := []) (cs := []) (vs := [.bool false]) rfl rfl (by simp only [S0, Nat.reduceEqDiff, Nat.reduceAdd, reduceIte, reduceCtorEq, S1, hd6, hd8, hd10]) (fromBool_any hx) ?_
        intro H11 hx11
        (refine Ow.popM rfl ?_; simp only [S0, Nat.reduceEqDiff, Nat.reduceAdd, reduceIte, reduceCtorEq, S1, hd6, hd8, hd10])
        refine Ow.nilM ⟨nofun, ?_⟩
        show Cw _ _ _ _ _
        refine Cw.ret ?_
        simp only [Then, InBlock, Rnd, FnPost, resOf, tupled, S0, Nat.reduceEqDiff, Nat.reduceAdd, reduceIte, reduceCtorEq, hd6, hd8, hd10]
        refine ⟨((hx3.trans hx5).trans hx11), ?_⟩
        unfold rdv
        have ez : nl a b = 0 → ¬ nh a b = 0 := by simpa using hd6
        rw [if_neg (fun h => ez h.1 h.2)]
        rw [if_neg hq8]
        rw [if_pos hq10]
      · have hd10 : decide (nh (a) (b) < 0) = false := decide_eq_false hq10
        refine Cw.cond (t := false) (by simp only [S0, Nat.reduceEqDiff, Nat.reduceAdd, reduceIte, reduceCtorEq, S1, hd6, hd8, hd10]) ?_
        refine Cw.skip ?_
        show Cw _ _ _ _ _
        refine Cw.seq ?_
        refine Cw.region ?_
        (refine Ow.popM rfl ?_; simp only [S0, Nat.reduceEqDiff, Nat.reduceAdd, reduceIte, reduceCtorEq, S1, hd6, hd8, hd10])
        refine Ow.nilM ⟨nofun, ?_⟩
        show Cw _ _ _ _ _
        refine Cw.ret ?_
        simp only [Then, InBlock, Rnd, FnPost, resOf, tupled, S0, Nat.reduceEqDiff, Nat.reduceAdd, reduceIte, reduceCtorEq, hd6, hd8, hd10]
        refine ⟨(hx3.trans hx5), ?_⟩
        unfold rdv
        have ez : nl a b = 0 → ¬ nh a b = 0 := by simpa using hd6
        rw [if_neg (fun h => ez h.1 h.2)]
        rw [if_neg hq8]
        rw [if_neg hq10]
  · skip
    refine Cw.cond (t := true) (by simp only [S0, Nat.reduceEqDiff, Nat.reduceAdd, reduceIte, reduceCtorEq, S1, hd6]) ?_
    refine Cw.seq ?_
    refine Cw.region ?_
    (refine Ow.popM rfl ?_; simp only [S0, Nat.reduceEqDiff, Nat.reduceAdd, reduceIte, reduceCtorEq, S1, hd6])
    refine Ow.nilM ⟨nofun, ?_⟩
    show Cw _ _ _ _ _
    refine Cw.ret ?_
    simp only [Then, InBlock, Rnd, FnPost, resOf, tupled, S0, Nat.reduceEqDiff, Nat.reduceAdd, reduceIte, reduceCtorEq, hd6]
    refine ⟨(hx3.trans hx5), ?_⟩
    unfold rdv
    have ez : nl a b = 0 ∧ nh a b = 0 := by simpa using hd6
    rw [if_pos ez]
/-- within -/
theorem within_any (hx : Ext0 ext) {H : AH} {a b c d : Int} :
    Run (Cx ext) 33 [.agg ⟨[.int .i8 (a), .int .i8 (b)]⟩, .agg ⟨[.int .i8 (c), .int .i8 (d)]⟩] H fun r H' => AL.Ext H H' ∧ r = .bool (decide (a ≥ c) && decide (b ≤ d)) := by
  refine Run.intro (fi := IR.fi33) (hx 33 (by decide)) (by kernel_rfl) ?_
  unfold IR.fi33
  simp only [envOf_cons, envOf_nil]
  refine Cw.seq ?_
  refine Cw.region ?_
  refine Ow.boxA (v := .agg ⟨[.int .i8 (a), .int .i8 (b)]⟩) rfl (by simp only [S0, Nat.reduceEqDiff, Nat.reduceAdd, reduceIte, reduceCtorEq, S1]) rfl ?_
  intro H1 hx1 hl1 bx1
  refine Ow.boxA (v := .agg ⟨[.int .i8 (c), .int .i8 (d)]⟩) rfl (by simp only [S0, Nat.reduceEqDiff, Nat.reduceAdd, reduceIte, reduceCtorEq, S1]) rfl ?_
  have ne3 : H1.n ≠ H.n := Nat.ne_of_gt bx1.1
  intro H2 hx2 hl2 bx2
  (refine Ow.popM rfl ?_; simp only [S0, Nat.reduceEqDiff, Nat.reduceAdd, reduceIte, reduceCtorEq, S1])
  refine Ow.nilM ⟨nofun, ?_⟩
  show Cw _ _ _ _ _
  refine Cw.seq ?_
  refine Cw.region ?_
  (refine Ow.popM rfl ?_; simp only [S0, Nat.reduceEqDiff, Nat.reduceAdd, reduceIte, reduceCtorEq, S1])
  have bx1_4 := bx1.ext hx2
  refine Ow.ldB (off := 0) (v := .int .i8 (a)) rfl (by simp only [S0, Nat.reduceEqDiff, Nat.reduceAdd, reduceIte, reduceCtorEq, S1]) bx1_4 rfl ?_
  (refine Ow.popM rfl ?_; simp only [S0, Nat.reduceEqDiff, Nat.reduceAdd, reduceIte, reduceCtorEq, S1])
  refine Ow.ldB (off := 0) (v := .int .i8 (c)) rfl (by simp only [S0, Nat.reduceEqDiff, Nat.reduceAdd, reduceIte, reduceCtorEq, S1]) bx2 rfl ?_
  iterate 2 (refine Ow.popM rfl ?_; simp only [S0, Nat.reduceEqDiff, Nat.reduceAdd, reduceIte, reduceCtorEq, S1])
  by_cases hq5 : a ≥ c
  · have hd5 : decide (a ≥ c) = true := decide_eq_true hq5
    (refine Ow.popM rfl ?_; simp only [S0, Nat.reduceEqDiff, Nat.reduceAdd, reduceIte, reduceCtorEq, S1, hd5])
    refine Ow.ldB (off := 1) (v := .int .i8 (b)) (by simp only [S0, Nat.reduceEqDiff, Nat.reduceAdd, reduceIte, reduceCtorEq, S1, hd5]) (by simp only [S0, Nat.reduceEqDiff, Nat.reduceAdd, reduceIte, reduceCtorEq, S1, hd5]) bx1_4 rfl ?_
    (refine Ow.popM rfl ?_; simp only [S0, Nat.reduceEqDiff, Nat.reduceAdd, reduceIte, reduceCtorEq, S1, hd5])
    refine Ow.ldB (off := 1) (v := .int .i8 (d)) (by simp only [S0, Nat.reduceEqDiff, Nat.reduceAdd, reduceIte, reduceCtorEq, S1, hd5]) (by simp only [S0, Nat.reduceEqDiff, Nat.reduceAdd, reduceIte, reduceCtorEq, S1, hd5]) bx2 rfl ?_
    iterate 3 (refine Ow.popM rfl ?_; simp only [S0, Nat.reduceEqDiff, Nat.reduceAdd, reduceIte, reduceCtorEq, S1, hd5])
    refine Ow.nilM ⟨nofun, ?_⟩
    show Cw _ _ _ _ _
    refine Cw.ret ?_
    simp only [Then, InBlock, Rnd, FnPost, resOf, tupled, S0, Nat.reduceEqDiff, Nat.reduceAdd, reduceIte, reduceCtorEq, hd5]
    refine ⟨(hx1.trans hx2), ?_⟩
    first | rfl | simp
  · have hd5 : decide (a ≥ c) = false := decide_eq_false hq5
    refine Ow.pass (by simp only [S0, Nat.reduceEqDiff, Nat.reduceAdd, reduceIte, reduceCtorEq, S1, hd5]) ?_
    refine Ow.pass (by simp only [S0, Nat.reduceEqDiff, Nat.reduceAdd, reduceIte, reduceCtorEq, S1, hd5]) ?_
    refine Ow.pass (by simp only [S0, Nat.reduceEqDiff, Nat.reduceAdd, reduceIte, reduceCtorEq, S1, hd5]) ?_
    refine Ow.pass (by simp only [S0, Nat.reduceEqDiff, Nat.reduceAdd, reduceIte, reduceCtorEq, S1, hd5]) ?_
    refine Ow.pass (by simp only [S0, Nat.reduceEqDiff, Nat.reduceAdd, reduceIte, reduceCtorEq, S1, hd5]) ?_
    iterate 2 (refine Ow.popM rfl ?_; simp only [S0, Nat.reduceEqDiff, Nat.reduceAdd, reduceIte, reduceCtorEq, S1, hd5])
    refine Ow.nilM ⟨nofun, ?_⟩
    show Cw _ _ _ _ _
    refine Cw.ret ?_
    simp only [Then, InBlock, Rnd, FnPost, resOf, tupled, S0, Nat.reduceEqDiff, Nat.reduceAdd, reduceIte, reduceCtorEq, hd5]
    refine ⟨(hx1.trans hx2), ?_⟩
    first | rfl | simp
/-- Valid of a bit -/
theorem valid_any (hx : Ext0 ext) {H : AH} {a : Int} (ha : a ≤ 3) :
    Run (Cx ext) 46 [.int .u8 (a)] H fun r H' => H' = H ∧ r = .bool true := by
  refine Run.intro (fi := IR.fi46) (hx 46 (by decide)) (by kernel_rfl) ?_
  unfold IR.fi46
  simp only [envOf_cons, envOf_nil]
  refine Cw.seq ?_
  refine Cw.region ?_
  (refine Ow.popM rfl ?_; simp only [S0, Nat.reduceEqDiff, Nat.reduceAdd, reduceIte, reduceCtorEq, S1])
  refine Ow.nilM ⟨nofun, ?_⟩
  show Cw _ _ _ _ _
  refine Cw.seq ?_
  refine Cw.region ?_
  iterate 3 (refine Ow.popM rfl ?_; simp only [S0, Nat.reduceEqDiff, Nat.reduceAdd, reduceIte, reduceCtorEq, S1])
  refine Ow.nilM ⟨nofun, ?_⟩
  show Cw _ _ _ _ _
  refine Cw.ret ?_
  simp only [Then, InBlock, Rnd, FnPost, resOf, tupled, S0, Nat.reduceEqDiff, Nat.reduceAdd, reduceIte, reduceCtorEq]
  first | done | (rw [decide_eq_true ha]; trivial) | simp [ha]
/-- Known of a bit -/
theorem known_any (hx : Ext0 ext) {H : AH} {a : Int} :
    Run (Cx ext) 43 [.int .u8 (a)] H fun r H' => H' = H ∧ r = .bool (decide (a ≤ 1)) := by
  refine Run.intro (fi := IR.fi43) (hx 43 (by decide)) (by kernel_rfl) ?_
  unfold IR.fi43
  simp only [envOf_cons, envOf_nil]
  refine Cw.seq ?_
  refine Cw.region ?_
  (refine Ow.popM rfl ?_; simp only [S0, Nat.reduceEqDiff, Nat.reduceAdd, reduceIte, reduceCtorEq, S1])
  refine Ow.nilM ⟨nofun, ?_⟩
  show Cw _ _ _ _ _
  refine Cw.seq ?_
  refine Cw.region ?_
  iterate 3 (refine Ow.popM rfl ?_; simp only [S0, Nat.reduceEqDiff, Nat.reduceAdd, reduceIte, reduceCtorEq, S1])
  refine Ow.nilM ⟨nofun, ?_⟩
  show Cw _ _ _ _ _
  refine Cw.ret ?_
  simp only [Then, InBlock, Rnd, FnPost, resOf, tupled, S0, Nat.reduceEqDiff, Nat.reduceAdd, reduceIte, reduceCtorEq]
  exact ⟨trivial, trivial⟩
/-- norm of a bit -/
theorem bnorm_any (hx : Ext0 ext) {H : AH} {a : Int} (ha : a ≤ 3) :
    Run (Cx ext) 42 [.int .u8 (a)] H fun r H' => AL.Ext H H' ∧ r = .int .u8 a := by
  refine Run.intro (fi := IR.fi42) (hx 42 (by decide)) (by kernel_rfl) ?_
  unfold IR.fi42
  simp only [envOf_cons, envOf_nil]
  refine Cw.seq ?_
  refine Cw.region ?_
  (refine Ow.popM rfl ?_; simp only [S0, Nat.reduceEqDiff, Nat.reduceAdd, reduceIte, reduceCtorEq, S1])
  refine Ow.nilM ⟨nofun, ?_⟩
  show Cw _ _ _ _ _
  refine Cw.seq ?_
  refine Cw.seq ?_
  refine Cw.region ?_
  (refine Ow.popM rfl ?_; simp only [S0, Nat.reduceEqDiff, Nat.reduceAdd, reduceIte, reduceCtorEq, S1])
  refine Ow.callPA (k := 46) (fs := []) (cs := []) (vs := [.int .u8 (a)]) rfl rfl (by simp only [S0, Nat.reduceEqDiff, Nat.reduceAdd, reduceIte, reduceCtorEq, S1]) (valid_any hx ha) ?_
  intro H1 hx1
  (refine Ow.popM rfl ?_; simp only [S0, Nat.reduceEqDiff, Nat.reduceAdd, reduceIte, reduceCtorEq, S1])
  refine Ow.nilM ⟨nofun, ?_⟩
  show Cw _ _ _ _ _
  refine Cw.cond (t := false) (by simp only [S0, Nat.reduceEqDiff, Nat.reduceAdd, reduceIte, reduceCtorEq, S1]) ?_
  refine Cw.skip ?_
  show Cw _ _ _ _ _
  refine Cw.seq ?_
  refine Cw.region ?_
  iterate 2 (refine Ow.popM rfl ?_; simp only [S0, Nat.reduceEqDiff, Nat.reduceAdd, reduceIte, reduceCtorEq, S1])
  refine Ow.nilM ⟨nofun, ?_⟩
  show Cw _ _ _ _ _
  refine Cw.ret ?_
  simp only [Then, InBlock, Rnd, FnPost, resOf, tupled, S0, Nat.reduceEqDiff, Nat.reduceAdd, reduceIte, reduceCtorEq]
  exact ⟨hx1, trivial⟩
/-- Same of bits -/
theorem bsame_any (hx : Ext0 ext) {H : AH} {a b : Int} (ha : a ≤ 3) (hb : b ≤ 3) :
    Run (Cx ext) 34 [.int .u8 (a), .int .u8 (b)] H fun r H' => AL.Ext H H' ∧ r = .bool (a == b) := by
  refine Run.intro (fi := IR.fi34) (hx 34 (by decide)) (by kernel_rfl) ?_
  unfold IR.fi34
  simp only [envOf_cons, envOf_nil]
  refine Cw.seq ?_
  refine Cw.region ?_
  (refine Ow.popM rfl ?_; simp only [S0, Nat.reduceEqDiff, Nat.reduceAdd, reduceIte, reduceCtorEq, S1])
  refine Ow.nilM ⟨nofun, ?_⟩
  show Cw _ _ _ _ _
  refine Cw.seq ?_
  refine Cw.region ?_
  (refine Ow.popM rfl ?_; simp only [S0, Nat.reduceEqDiff, Nat.reduceAdd, reduceIte, reduceCtorEq, S1])
  refine Ow.callA (k := 42) (fs := []) (cs := []) (vs := [.int .u8 (a)]) rfl rfl (by simp only [S0, Nat.reduceEqDiff, Nat.reduceAdd, reduceIte, reduceCtorEq, S1]) (bnorm_any hx ha) (fun _ _ _ h => h) ?_
  rintro _ H1 hx1 rfl
  (refine Ow.popM rfl ?_; simp only [S0, Nat.reduceEqDiff, Nat.reduceAdd, reduceIte, reduceCtorEq, S1])
  refine Ow.callA (k := 42) (fs := []) (cs := []) (vs := [.int .u8 (b)]) rfl rfl (by simp only [S0, Nat.reduceEqDiff, Nat.reduceAdd, reduceIte, reduceCtorEq, S1]) (bnorm_any hx hb) (fun _ _ _ h => h) ?_
  rintro _ H2 hx2 rfl
  iterate 2 (refine Ow.popM rfl ?_; simp only [S0, Nat.reduceEqDiff, Nat.reduceAdd, reduceIte, reduceCtorEq, S1])
  refine Ow.nilM ⟨nofun, ?_⟩
  show Cw _ _ _ _ _
  refine Cw.ret ?_
  simp only [Then, InBlock, Rnd, FnPost, resOf, tupled, S0, Nat.reduceEqDiff, Nat.reduceAdd, reduceIte, reduceCtorEq]
  exact ⟨(hx1.trans hx2), trivial⟩
/-- Leq of bits -/
theorem bleq_any (hx : Ext0 ext) {H : AH} {a b : Int} (ha : a ≤ 3) (hb : b ≤ 3) :
    Run (Cx ext) 35 [.int .u8 (a), .int .u8 (b)] H fun r H' => AL.Ext H H' ∧ r = .bool ((a == b) || (!decide (a ≤ 1) && decide (b ≤ 1))) := by
  refine Run.intro (fi := IR.fi35) (hx 35 (by decide)) (by kernel_rfl) ?_
  unfold IR.fi35
  simp only [envOf_cons, envOf_nil]
  refine Cw.seq ?_
  refine Cw.region ?_
  (refine Ow.popM rfl ?_; simp only [S0, Nat.reduceEqDiff, Nat.reduceAdd, reduceIte, reduceCtorEq, S1])
  refine Ow.nilM ⟨nofun, ?_⟩
  show Cw _ _ _ _ _
  refine Cw.seq ?_
  refine Cw.region ?_
  iterate 2 (refine Ow.popM rfl ?_; simp only [S0, Nat.reduceEqDiff, Nat.reduceAdd, reduceIte, reduceCtorEq, S1])
  refine Ow.callA (k := 34) (fs := []) (cs := []) (vs := [.int .u8 (a), .int .u8 (b)]) rfl rfl (by simp only [S0, Nat.reduceEqDiff, Nat.reduceAdd, reduceIte, reduceCtorEq, S1]) (bsame_any hx ha hb) (fun _ _ _ h => h) ?_
  rintro _ H1 hx1 rfl
  (refine Ow.popM rfl ?_; simp only [S0, Nat.reduceEqDiff, Nat.reduceAdd, reduceIte, reduceCtorEq, S1])
  cases hd2 : ((a == b))
  · skip
    (refine Ow.popM rfl ?_; simp only [S0, Nat.reduceEqDiff, Nat.reduceAdd, reduceIte, reduceCtorEq, S1, hd2])
    refine Ow.callPA (k := 43) (fs := []) (cs := []) (vs := [.int .u8 (a)]) (by simp only [S0, Nat.reduceEqDiff, Nat.reduceAdd, reduceIte, reduceCtorEq, S1, hd2]) rfl (by simp only [S0, Nat.reduceEqDiff, Nat.reduceAdd, reduceIte, reduceCtorEq, S1, hd2]) (known_any hx ) ?_
    intro H3 hx3
    iterate 2 (refine Ow.popM rfl ?_; simp only [S0, Nat.reduceEqDiff, Nat.reduceAdd, reduceIte, reduceCtorEq, S1, hd2])
    by_cases hq4 : a ≤ 1
    · have hd4 : decide (a ≤ 1) = true := decide_eq_true hq4
      refine Ow.pass (by simp only [S0, Nat.reduceEqDiff, Nat.reduceAdd, reduceIte, reduceCtorEq, S1, hd2, hd4]) ?_
      refine Ow.pass (by simp only [S0, Nat.reduceEqDiff, Nat.reduceAdd, reduceIte, reduceCtorEq, S1, hd2, hd4]) ?_
      iterate 3 (refine Ow.popM rfl ?_; simp only [S0, Nat.reduceEqDiff, Nat.reduceAdd, reduceIte, reduceCtorEq, S1, hd2, hd4])
      refine Ow.nilM ⟨nofun, ?_⟩
      show Cw _ _ _ _ _
      refine Cw.ret ?_
      simp only [Then, InBlock, Rnd, FnPost, resOf, tupled, S0, Nat.reduceEqDiff, Nat.reduceAdd, reduceIte, reduceCtorEq, hd2, hd4]
      refine ⟨(hx1.trans hx3), ?_⟩
      first | rfl | simp
    · have hd4 : decide (a ≤ 1) = false := decide_eq_false hq4
      (refine Ow.popM rfl ?_; simp only [S0, Nat.reduceEqDiff, Nat.reduceAdd, reduceIte, reduceCtorEq, S1, hd2, hd4])
      refine Ow.callPA (k := 43) (fs := []) (cs := []) (vs := [.int .u8 (b)]) (by simp only [S0, Nat.reduceEqDiff, Nat.reduceAdd, reduceIte, reduceCtorEq, S1, hd2, hd4]) rfl (by simp only [S0, Nat.reduceEqDiff, Nat.reduceAdd, reduceIte, reduceCtorEq, S1, hd2, hd4]) (known_any hx ) ?_
      intro H5 hx5
      iterate 3 (refine Ow.popM rfl ?_; simp only [S0, Nat.reduceEqDiff, Nat.reduceAdd, reduceIte, reduceCtorEq, S1, hd2, hd4])
      refine Ow.nilM ⟨nofun, ?_⟩
      show Cw _ _ _ _ _
      refine Cw.ret ?_
      simp only [Then, InBlock, Rnd, FnPost, resOf, tupled, S0, Nat.reduceEqDiff, Nat.reduceAdd, reduceIte, reduceCtorEq, hd2, hd4]
      refine ⟨((hx1.trans hx3).trans hx5), ?_⟩
      first | rfl | simp
  · skip
    refine Ow.pass (by simp only [S0, Nat.reduceEqDiff, Nat.reduceAdd, reduceIte, reduceCtorEq, S1, hd2]) ?_
    refine Ow.pass (by simp only [S0, Nat.reduceEqDiff, Nat.reduceAdd, reduceIte, reduceCtorEq, S1, hd2]) ?_
    refine Ow.pass (by simp only [S0, Nat.reduceEqDiff, Nat.reduceAdd, reduceIte, reduceCtorEq, S1, hd2]) ?_
    refine Ow.pass (by simp only [S0, Nat.reduceEqDiff, Nat.reduceAdd, reduceIte, reduceCtorEq, S1, hd2]) ?_
    refine Ow.pass (by simp only [S0, Nat.reduceEqDiff, Nat.reduceAdd, reduceIte, reduceCtorEq, undefA, hd2]) ?_
    refine Ow.pass (by simp only [S0, Nat.reduceEqDiff, Nat.reduceAdd, reduceIte, reduceCtorEq, undefA, hd2]) ?_
    refine Ow.pass (by simp only [S0, Nat.reduceEqDiff, Nat.reduceAdd, reduceIte, reduceCtorEq, S1, hd2]) ?_
    iterate 2 (refine Ow.popM rfl ?_; simp only [S0, Nat.reduceEqDiff, Nat.reduceAdd, reduceIte, reduceCtorEq, S1, hd2])
    refine Ow.nilM ⟨nofun, ?_⟩
    show Cw _ _ _ _ _
    refine Cw.ret ?_
    simp only [Then, InBlock, Rnd, FnPost, resOf, tupled, S0, Nat.reduceEqDiff, Nat.reduceAdd, reduceIte, reduceCtorEq, hd2]
    refine ⟨hx1, ?_⟩
    first | rfl | simp
end Go.Proofs.YtcgckodhehnpnaaDoor.X
