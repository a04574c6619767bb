/- Comparisons. -/
import Derived.Test.YteeckncfllbokaaXK
set_option linter.unusedSimpArgs false
set_option linter.unusedVariables false
namespace Go.Proofs.Yteeckncfllbokaa.X
open Go Go.AL
variable {ext : Nat → Option (List Value → AH → Option (Value × AH))}
/-- bv.negative -/
theorem negative_any (hx : Ext0 ext) {H : AH} {v : Value} {l : List Bool} (hv : IsB H v l) (hl : l.length < 2 ^ 36) : Run (Cx ext) 57 [v] H fun r H' => H' = H ∧ r = .bool (bx l (l.length - 1)) := by
  refine Run.intro (fi := IR.fi57) (hx 57 (by decide)) (by kernel_rfl) ?_
  unfold IR.fi57
  simp only [envOf_cons, envOf_nil]
  refine Cw.seq (Cw.region ?_)
  (refine Ow.popM rfl ?_; simp only [S0, Nat.reduceEqDiff, Nat.reduceAdd, reduceIte, reduceCtorEq])
  refine Ow.nilM ⟨nofun, ?_⟩
  refine Cw.seq (Cw.region ?_)
  by_cases h0 : 0 < l.length
  · obtain ⟨ad, cap, bk, rfl, h1, h2, h3⟩ := hv.at (bx_lt (show l.length - 1 < l.length by omega))
    have e : (l.length : Int) - 1 = ((l.length - 1 : Nat) : Int) := by omega
    iterate 9 (refine Ow.popM rfl ?_; simp only [S0, Nat.reduceEqDiff, Nat.reduceAdd, reduceIte, reduceCtorEq, gt0_true h0, e, fw_nat (show l.length - 1 < 2 ^ 63 by omega), ix_ok (show l.length - 1 < l.length by omega)])
    (refine Ow.hopM rfl rfl ?_; simp only [S0, Nat.reduceEqDiff, Nat.reduceAdd, reduceIte, reduceCtorEq, h2, h3])
    iterate 2 (refine Ow.popM rfl ?_; simp only [S0, Nat.reduceEqDiff, Nat.reduceAdd, reduceIte, reduceCtorEq])
    refine Ow.nilM ⟨nofun, ?_⟩
    refine Cw.ret ?_
    simp only [Then, InBlock, Rnd, FnPost, resOf, tupled, S0, Nat.reduceEqDiff, Nat.reduceAdd, reduceIte, reduceCtorEq, and_self]
  · have hz : l = [] := List.length_eq_zero_iff.1 (by omega)
    subst hz
    obtain ⟨a, cap, rfl⟩ := hv.shape
    iterate 4 (refine Ow.popM rfl ?_; simp only [S0, Nat.reduceEqDiff, Nat.reduceAdd, reduceIte, reduceCtorEq, show decide ((([] : List Bool).length : Int) > 0) = false from rfl])
    iterate 6 refine Ow.pass (by simp only [S0, Nat.reduceEqDiff, Nat.reduceAdd, reduceIte, reduceCtorEq]) ?_
    iterate 2 (refine Ow.popM rfl ?_; simp only [S0, Nat.reduceEqDiff, Nat.reduceAdd, reduceIte, reduceCtorEq])
    refine Ow.nilM ⟨nofun, ?_⟩
    refine Cw.ret ?_
    simp only [Then, InBlock, Rnd, FnPost, resOf, tupled, S0, Nat.reduceEqDiff, Nat.reduceAdd, reduceIte, reduceCtorEq, true_and]
    rfl
/-- ref Negative -/
theorem Negative_any (hx : Ext0 ext) {H : AH} {v : Value} {l : List Bool} (hv : IsB H v l) (hl : l.length < 2 ^ 36) : Run (Cx ext) 32 [v] H fun r H' => H' = H ∧ r = .bool (bx l (l.length - 1)) := by
  refine Run.intro (fi := IR.fi32) (hx 32 (by decide)) (by kernel_rfl) ?_
  unfold IR.fi32
  simp only [envOf_cons, envOf_nil]
  refine Cw.seq (Cw.region ?_)
  (refine Ow.popM rfl ?_; simp only [S0, Nat.reduceEqDiff, Nat.reduceAdd, reduceIte, reduceCtorEq])
  refine Ow.nilM ⟨nofun, ?_⟩
  refine Cw.seq (Cw.region ?_)
  by_cases h0 : 0 < l.length
  · obtain ⟨ad, cap, bk, rfl, h1, h2, h3⟩ := hv.at (bx_lt (show l.length - 1 < l.length by omega))
    have e : (l.length : Int) - 1 = ((l.length - 1 : Nat) : Int) := by omega
    iterate 9 (refine Ow.popM rfl ?_; simp only [S0, Nat.reduceEqDiff, Nat.reduceAdd, reduceIte, reduceCtorEq, gt0_true h0, e, fw_nat (show l.length - 1 < 2 ^ 63 by omega), ix_ok (show l.length - 1 < l.length by omega)])
    (refine Ow.hopM rfl rfl ?_; simp only [S0, Nat.reduceEqDiff, Nat.reduceAdd, reduceIte, reduceCtorEq, h2, h3])
    iterate 2 (refine Ow.popM rfl ?_; simp only [S0, Nat.reduceEqDiff, Nat.reduceAdd, reduceIte, reduceCtorEq])
    refine Ow.nilM ⟨nofun, ?_⟩
    refine Cw.ret ?_
    simp only [Then, InBlock, Rnd, FnPost, resOf, tupled, S0, Nat.reduceEqDiff, Nat.reduceAdd, reduceIte, reduceCtorEq, and_self]
  · have hz : l = [] := List.length_eq_zero_iff.1 (by omega)
    subst hz
    obtain ⟨a, cap, rfl⟩ := hv.shape
    iterate 4 (refine Ow.popM rfl ?_; simp only [S0, Nat.reduceEqDiff, Nat.reduceAdd, reduceIte, reduceCtorEq, show decide ((([] : List Bool).length : Int) > 0) = false from rfl])
    iterate 6 refine Ow.pass (by simp only [S0, Nat.reduceEqDiff, Nat.reduceAdd, reduceIte, reduceCtorEq]) ?_
    iterate 2 (refine Ow.popM rfl ?_; simp only [S0, Nat.reduceEqDiff, Nat.reduceAdd, reduceIte, reduceCtorEq])
    refine Ow.nilM ⟨nofun, ?_⟩
    refine Cw.ret ?_
    simp only [Then, InBlock, Rnd, FnPost, resOf, tupled, S0, Nat.reduceEqDiff, Nat.reduceAdd, reduceIte, reduceCtorEq, true_and]
    rfl
/-- What Cmp answers. -/
def cmpN (A B : Nat) : Int := if A < B then -1 else if A = B then 0 else 1
theorem max_nat (a b : Nat) : (if (b : Int) > (a : Int) then (b : Int) else (a : Int)) = ((max a b : Nat) : Int) := by split <;> omega
theorem div_lt {A B j : Nat} (h : A / 2 ^ j < B / 2 ^ j) : A < B := by
  rcases Nat.lt_or_ge A B with h1 | h1
  · exact h1
  · exact absurd (Nat.div_le_div_right (c := 2 ^ j) h1) (by omega)
/-- bv.Cmp -/
theorem cmp_any (hx : Ext0 ext) {H : AH} {va vb : Value} {la lb : List Bool} (ha : IsB H va la) (hb : IsB H vb lb) (hla : la.length < 2 ^ 36) (hlb : lb.length < 2 ^ 36) :
    Run (Cx ext) 30 [va, vb] H fun r H' => AL.Ext H H' ∧ r = .int .i64 (cmpN (val la) (val lb)) := by
  refine Run.intro (fi := IR.fi30) (hx 30 (by decide)) (by kernel_rfl) ?_
  unfold IR.fi30
  simp only [envOf_cons, envOf_nil]
  obtain ⟨aa, ca, ea⟩ := ha.shape
  obtain ⟨ab, cb, eb⟩ := hb.shape
  subst ea
  subst eb
  refine Cw.seq (Cw.region ?_)
  (refine Ow.popM rfl ?_; simp only [S0, Nat.reduceEqDiff, Nat.reduceAdd, reduceIte, reduceCtorEq])
  refine Ow.nilM ⟨nofun, ?_⟩
  refine Cw.seq (Cw.seq (Cw.region ?_))
  have hM : max la.length lb.length < 2 ^ 36 := by omega
  have hA : val la < 2 ^ max la.length lb.length := val_lt' (Nat.le_max_left _ _)
  have hB : val lb < 2 ^ max la.length lb.length := val_lt' (Nat.le_max_right _ _)
  iterate 5 (refine Ow.popM rfl ?_; simp only [S0, Nat.reduceEqDiff, Nat.reduceAdd, reduceIte, reduceCtorEq, AL.foldV, amax2, max_nat])
  generalize max la.length lb.length = M at *
  iterate 2 (refine Ow.popM rfl ?_; simp only [S0, Nat.reduceEqDiff, Nat.reduceAdd, reduceIte, reduceCtorEq, fw_int (show -(2 ^ 62) ≤ (M : Int) - 1 by omega) (by omega)])
  refine Ow.nilM ⟨nofun, ?_⟩
  refine Cw.block (Cw.loopI M (fun k E H2 => (E.get 0 = some (.slice aa la.length ca) ∧ E.get 1 = some (.slice ab lb.length cb) ∧ E.get 5 = some (.int .i64 ((M : Int) - 1 - (k : Int)))) ∧ AL.Ext H H2 ∧ val la / 2 ^ (M - k) = val lb / 2 ^ (M - k)) ⟨?_, AL.Ext.refl _, ?_⟩ ?_)
  · simp only [S0, Nat.reduceEqDiff, Nat.reduceAdd, reduceIte, reduceCtorEq]; exact ⟨trivial, trivial, by simp⟩
  · rw [Nat.sub_zero, Nat.div_eq_of_lt hA, Nat.div_eq_of_lt hB]
  rintro k E H2 hk ⟨⟨e0, e1, e5⟩, hxt, heq⟩
  refine Cw.seq (Cw.seq (Cw.region ?_))
  by_cases hlt : k < M
  · have hi : ((M : Int) - 1 - (k : Int)) = ((M - (k + 1) : Nat) : Int) := by omega
    have hsa := div_step (val la) (M - (k + 1))
    have hsb := div_step (val lb) (M - (k + 1))
    rw [show M - (k + 1) + 1 = M - k by omega, val_bit] at hsa hsb
    rw [hi] at e5
    have hjM : M - (k + 1) < 2 ^ 36 := by omega
    have hj1 : ((M - (k + 1) : Nat) : Int) - 1 = (M : Int) - 1 - ((k + 1 : Nat) : Int) := by omega
    generalize hj : M - (k + 1) = j at *
    iterate 2 (refine Ow.popM rfl ?_; simp only [S0, Nat.reduceEqDiff, Nat.reduceAdd, reduceIte, reduceCtorEq, e5, ge0_true j])
    refine Ow.nilM ⟨nofun, ?_⟩
    refine Cw.cond (t := true) (by simp only [S0, Nat.reduceEqDiff, Nat.reduceAdd, reduceIte, reduceCtorEq]) ?_
    refine Cw.skip ?_
    refine Cw.seq (Cw.block (Cw.seq (Cw.region ?_)))
    iterate 2 (refine Ow.popM rfl ?_; simp only [S0, Nat.reduceEqDiff, Nat.reduceAdd, reduceIte, reduceCtorEq, e0, e5])
    refine Ow.callP (k := 59) (vs := [.slice aa la.length ca, .int .i64 j]) rfl rfl (by simp only [S0, Nat.reduceEqDiff, Nat.reduceAdd, reduceIte, reduceCtorEq]) (at_any hx (ha.ext hxt).wl) ?_
    intro w3 hx3
    iterate 2 (refine Ow.popM rfl ?_; simp only [S0, Nat.reduceEqDiff, Nat.reduceAdd, reduceIte, reduceCtorEq, e1, e5])
    refine Ow.callP (k := 59) (vs := [.slice ab lb.length cb, .int .i64 j]) rfl rfl (by simp only [S0, Nat.reduceEqDiff, Nat.reduceAdd, reduceIte, reduceCtorEq]) (at_any hx ((hb.ext hxt).ext hx3).wl) ?_
    intro w4 hx4
    have hx24 := (hxt.trans hx3).trans hx4
    iterate 2 (refine Ow.popM rfl ?_; simp only [S0, Nat.reduceEqDiff, Nat.reduceAdd, reduceIte, reduceCtorEq])
    refine Ow.nilM ⟨nofun, ?_⟩
    refine Cw.seq (Cw.region ?_)
    iterate 3 (refine Ow.popM rfl ?_; simp only [S0, Nat.reduceEqDiff, Nat.reduceAdd, reduceIte, reduceCtorEq])
    refine Ow.nilM ⟨nofun, ?_⟩
    cases hba : bx la j <;> cases hbb : bx lb j
    · refine Cw.cond (t := false) (by simp only [S0, Nat.reduceEqDiff, Nat.reduceAdd, reduceIte, reduceCtorEq, hba, hbb, bne_self_eq_false]) ?_
      refine Cw.skip ?_
      show Cw _ _ _ _ _
      refine Cw.region ?_
      iterate 3 (refine Ow.popM rfl ?_; simp only [S0, Nat.reduceEqDiff, Nat.reduceAdd, reduceIte, reduceCtorEq, e5, fw_int (show -(2 ^ 62) ≤ (j : Int) - 1 by omega) (by omega)])
      refine Ow.nilM ⟨nofun, hlt, ?_, hx24, ?_⟩
      · simp only [S0, Nat.reduceEqDiff, Nat.reduceAdd, reduceIte, reduceCtorEq, e0, e1, hj1, and_self]
      · show val la / 2 ^ (M - (k + 1)) = val lb / 2 ^ (M - (k + 1))
        rw [hj, hsa, hsb, heq, hba, hbb]
    · refine Cw.cond (t := true) (by simp only [S0, Nat.reduceEqDiff, Nat.reduceAdd, reduceIte, reduceCtorEq, hba, hbb]; rfl) ?_
      refine Cw.seq (Cw.seq (Cw.region ?_))
      (refine Ow.popM rfl ?_; simp only [S0, Nat.reduceEqDiff, Nat.reduceAdd, reduceIte, reduceCtorEq, hba])
      refine Ow.nilM ⟨nofun, ?_⟩
      refine Cw.cond (t := false) (by simp only [S0, Nat.reduceEqDiff, Nat.reduceAdd, reduceIte, reduceCtorEq]) ?_
      refine Cw.skip ?_
      show Cw _ _ _ _ _
      refine Cw.seq (Cw.region ?_)
      (refine Ow.popM rfl ?_; simp only [S0, Nat.reduceEqDiff, Nat.reduceAdd, reduceIte, reduceCtorEq])
      refine Ow.nilM ⟨nofun, ?_⟩
      refine Cw.ret ?_
      simp only [Then, InBlock, Rnd, FnPost, resOf, tupled, S0, Nat.reduceEqDiff, Nat.reduceAdd, reduceIte, reduceCtorEq]
      have : val la < val lb := div_lt (j := j) (by rw [hsa, hsb, heq, hba, hbb]; simp)
      refine ⟨hx24, ?_⟩
      unfold cmpN
      rw [if_pos this]
    · refine Cw.cond (t := true) (by simp only [S0, Nat.reduceEqDiff, Nat.reduceAdd, reduceIte, reduceCtorEq, hba, hbb]; rfl) ?_
      refine Cw.seq (Cw.seq (Cw.region ?_))
      (refine Ow.popM rfl ?_; simp only [S0, Nat.reduceEqDiff, Nat.reduceAdd, reduceIte, reduceCtorEq, hba])
      refine Ow.nilM ⟨nofun, ?_⟩
      refine Cw.cond (t := true) (by simp only [S0, Nat.reduceEqDiff, Nat.reduceAdd, reduceIte, reduceCtorEq]) ?_
      refine Cw.seq (Cw.region ?_)
      (refine Ow.popM rfl ?_; simp only [S0, Nat.reduceEqDiff, Nat.reduceAdd, reduceIte, reduceCtorEq])
      refine Ow.nilM ⟨nofun, ?_⟩
      refine Cw.ret ?_
      simp only [Then, InBlock, Rnd, FnPost, resOf, tupled, S0, Nat.reduceEqDiff, Nat.reduceAdd, reduceIte, reduceCtorEq]
      have : val lb < val la := div_lt (j := j) (by rw [hsa, hsb, heq, hba, hbb]; simp)
      refine ⟨hx24, ?_⟩
      unfold cmpN
      rw [if_neg (by omega), if_neg (by omega)]
    · refine Cw.cond (t := false) (by simp only [S0, Nat.reduceEqDiff, Nat.reduceAdd, reduceIte, reduceCtorEq, hba, hbb, bne_self_eq_false]) ?_
      refine Cw.skip ?_
      show Cw _ _ _ _ _
      refine Cw.region ?_
      iterate 3 (refine Ow.popM rfl ?_; simp only [S0, Nat.reduceEqDiff, Nat.reduceAdd, reduceIte, reduceCtorEq, e5, fw_int (show -(2 ^ 62) ≤ (j : Int) - 1 by omega) (by omega)])
      refine Ow.nilM ⟨nofun, hlt, ?_, hx24, ?_⟩
      · simp only [S0, Nat.reduceEqDiff, Nat.reduceAdd, reduceIte, reduceCtorEq, e0, e1, hj1, and_self]
      · show val la / 2 ^ (M - (k + 1)) = val lb / 2 ^ (M - (k + 1))
        rw [hj, hsa, hsb, heq, hba, hbb]
  · obtain rfl : k = M := by omega
    iterate 2 (refine Ow.popM rfl ?_; simp only [S0, Nat.reduceEqDiff, Nat.reduceAdd, reduceIte, reduceCtorEq, e5, ge0_neg (show (k : Int) - 1 - (k : Int) < 0 by omega)])
    refine Ow.nilM ⟨nofun, ?_⟩
    refine Cw.cond (t := false) (by simp only [S0, Nat.reduceEqDiff, Nat.reduceAdd, reduceIte, reduceCtorEq]) ?_
    refine Cw.exit ?_
    show Cw _ _ _ _ _
    refine Cw.seq (Cw.region ?_)
    (refine Ow.popM rfl ?_; simp only [S0, Nat.reduceEqDiff, Nat.reduceAdd, reduceIte, reduceCtorEq])
    refine Ow.nilM ⟨nofun, ?_⟩
    refine Cw.ret ?_
    simp only [Then, InBlock, Rnd, FnPost, resOf, tupled, S0, Nat.reduceEqDiff, Nat.reduceAdd, reduceIte, reduceCtorEq]
    rw [Nat.sub_self, Nat.pow_zero, Nat.div_one, Nat.div_one] at heq
    refine ⟨hxt, ?_⟩
    unfold cmpN
    rw [if_neg (by omega), if_pos heq]
/-- bv.zero -/
theorem zero_any (hx : Ext0 ext) {H : AH} {v : Value} {l : List Bool} (hv : IsB H v l) (hl : l.length < 2 ^ 36) :
    Run (Cx ext) 55 [v] H fun r H' => AL.Ext H H' ∧ r = .bool (decide (val l = 0)) := by
  refine Run.intro (fi := IR.fi55) (hx 55 (by decide)) (by kernel_rfl) ?_
  unfold IR.fi55
  simp only [envOf_cons, envOf_nil]
  refine Cw.seq (Cw.region ?_)
  (refine Ow.popM rfl ?_; simp only [S0, Nat.reduceEqDiff, Nat.reduceAdd, reduceIte, reduceCtorEq])
  refine Ow.nilM ⟨nofun, ?_⟩
  refine Cw.seq (Cw.region ?_)
  (refine Ow.popM rfl ?_; simp only [S0, Nat.reduceEqDiff, Nat.reduceAdd, reduceIte, reduceCtorEq])
  refine Ow.callE (k := 30) (fs := []) (cs := []) (vs := [v, .slice none 0 0]) rfl rfl (by simp only [S0, Nat.reduceEqDiff, Nat.reduceAdd, reduceIte, reduceCtorEq]) (cmp_any hx hv.wl (IsB.nil _) hl (by decide)) ?_
  rintro r H1 w1 hx1 rfl
  have e : (cmpN (val l) (val []) == 0) = decide (val l = 0) := by
    unfold cmpN
    by_cases h : val l = 0
    · rw [h]; rfl
    · rw [if_neg (show ¬ val l < val [] from Nat.not_lt_zero _), if_neg (show ¬ val l = val [] from h)]
      simp [h]
  iterate 2 (refine Ow.popM rfl ?_; simp only [S0, Nat.reduceEqDiff, Nat.reduceAdd, reduceIte, reduceCtorEq, e])
  refine Ow.nilM ⟨nofun, ?_⟩
  refine Cw.ret ?_
  simp only [Then, InBlock, Rnd, FnPost, resOf, tupled, S0, Nat.reduceEqDiff, Nat.reduceAdd, reduceIte, reduceCtorEq]
  exact ⟨hx1, trivial⟩
end Go.Proofs.Yteeckncfllbokaa.X
