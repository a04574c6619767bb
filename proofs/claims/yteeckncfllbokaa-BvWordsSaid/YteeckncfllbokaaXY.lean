/- The reference's Size. -/
import Derived.Test.YteeckncfllbokaaXX
set_option linter.unusedSimpArgs false
set_option linter.unusedVariables false
namespace Go.Proofs.Yteeckncfllbokaa.X
open Go Go.AL
variable {ext : Nat → Option (List Value → AH → Option (Value × AH))}
theorem Size_any (hx : Ext0 ext) {H : AH} {v : Value} {l : List Bool} (hv : IsB H v l) (hl : l.length < 2 ^ 33) :
    Run (Cx ext) 33 [v] H fun r H' => AL.Ext H H' ∧ ∃ m, IsB H' r m ∧ val m = absN l ∧ m.length ≤ l.length + 1 := by
  refine Run.intro (fi := IR.fi33) (hx 33 (by decide)) (by kernel_rfl) ?_
  unfold IR.fi33
  simp only [envOf_cons, envOf_nil]
  obtain ⟨aa, ca, ea⟩ := hv.shape
  subst ea
  refine Cw.seq (Cw.region ?_)
  (refine Ow.popM rfl ?_; simp only [S0, Nat.reduceEqDiff, Nat.reduceAdd, reduceIte, reduceCtorEq])
  refine Ow.nilM ⟨nofun, ?_⟩
  refine Cw.seq (Cw.seq (Cw.region ?_))
  (refine Ow.popM rfl ?_; simp only [S0, Nat.reduceEqDiff, Nat.reduceAdd, reduceIte, reduceCtorEq])
  refine Ow.callP (k := 32) (vs := [.slice aa l.length ca]) rfl rfl (by simp only [S0, Nat.reduceEqDiff, Nat.reduceAdd, reduceIte, reduceCtorEq]) (Negative_any hx hv.wl (by omega)) ?_
  intro w1 hx1
  have hv1 := hv.ext hx1
  refine Ow.nilM ⟨nofun, ?_⟩
  have hlt := val_lt l
  cases hn : bx l (l.length - 1) with
  | true =>
    refine Cw.cond (t := true) (by simp only [S0, Nat.reduceEqDiff, Nat.reduceAdd, reduceIte, reduceCtorEq]) ?_
    refine Cw.seq (Cw.region ?_)
    iterate 2 (refine Ow.popM rfl ?_; simp only [S0, Nat.reduceEqDiff, Nat.reduceAdd, reduceIte, reduceCtorEq])
    refine Ow.callE (k := 62) (fs := []) (cs := []) (vs := [.int .i64 l.length]) rfl rfl (by simp only [S0, Nat.reduceEqDiff, Nat.reduceAdd, reduceIte, reduceCtorEq]) (power_any hx (by omega)) ?_
    rintro p H2 w2 hx2 hp
    have hp2 : IsB { H2 with wl := w2 } p _ := hp.isB
    have hv2 := hv1.ext hx2
    (refine Ow.popM rfl ?_; simp only [S0, Nat.reduceEqDiff, Nat.reduceAdd, reduceIte, reduceCtorEq])
    refine Ow.callE (k := 61) (fs := []) (cs := []) (vs := [p, .slice aa l.length ca]) rfl rfl (by simp only [S0, Nat.reduceEqDiff, Nat.reduceAdd, reduceIte, reduceCtorEq]) (minus_any hx hp2.wl hv2.wl (by simp; omega) (by rw [val_power]; omega)) ?_
    rintro u H3 w3 hx3 hu
    (refine Ow.popM rfl ?_; simp only [S0, Nat.reduceEqDiff, Nat.reduceAdd, reduceIte, reduceCtorEq])
    refine Ow.nilM ⟨nofun, ?_⟩
    refine Cw.ret ?_
    simp only [Then, InBlock, Rnd, FnPost, resOf, tupled, S0, Nat.reduceEqDiff, Nat.reduceAdd, reduceIte, reduceCtorEq]
    refine ⟨(hx1.trans hx2).trans hx3, _, hu.isR.isB, ?_, ?_⟩
    · have e : (List.replicate l.length false ++ [true]).length = l.length + 1 := by simp
      unfold absN ng
      rw [hn, if_pos rfl, val_ofN, val_power, e, Nat.mod_eq_of_lt]
      rw [Nat.pow_succ]; omega
    · rw [ofN_length]; simp
  | false =>
    refine Cw.cond (t := false) (by simp only [S0, Nat.reduceEqDiff, Nat.reduceAdd, reduceIte, reduceCtorEq]) ?_
    refine Cw.skip ?_
    show Cw _ _ _ _ _
    refine Cw.seq (Cw.region ?_)
    (refine Ow.popM rfl ?_; simp only [S0, Nat.reduceEqDiff, Nat.reduceAdd, reduceIte, reduceCtorEq])
    refine Ow.callE (k := 53) (fs := []) (cs := []) (vs := [.slice aa l.length ca]) rfl rfl (by simp only [S0, Nat.reduceEqDiff, Nat.reduceAdd, reduceIte, reduceCtorEq]) (trim_any hx hv1.wl (by omega)) ?_
    rintro u H3 w3 hx3 ⟨n, hnl, hu, h1, h2⟩
    (refine Ow.popM rfl ?_; simp only [S0, Nat.reduceEqDiff, Nat.reduceAdd, reduceIte, reduceCtorEq])
    refine Ow.nilM ⟨nofun, ?_⟩
    refine Cw.ret ?_
    simp only [Then, InBlock, Rnd, FnPost, resOf, tupled, S0, Nat.reduceEqDiff, Nat.reduceAdd, reduceIte, reduceCtorEq]
    refine ⟨hx1.trans hx3, _, hu.isB, ?_, by rw [ofN_length]; omega⟩
    unfold absN ng
    rw [hn, if_neg (by decide), val_ofN, Nat.mod_eq_of_lt h1]
end Go.Proofs.Yteeckncfllbokaa.X
