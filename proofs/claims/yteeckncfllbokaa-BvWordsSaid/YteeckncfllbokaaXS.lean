/- bv.SCmp -/
import Derived.Test.YteeckncfllbokaaXQ
set_option linter.unusedSimpArgs false
set_option linter.unusedVariables false
namespace Go.Proofs.Yteeckncfllbokaa.X
open Go Go.AL
variable {ext : Nat → Option (List Value → AH → Option (Value × AH))}
/-- What SCmp answers. -/
def scmpN (la lb : List Bool) : Int := if ng la && !ng lb then -1 else if ng lb && !ng la then 1 else if ng la then cmpN (absN lb) (absN la) else cmpN (val la) (val lb)
theorem scmp_any (hx : Ext0 ext) {H : AH} {va vb : Value} {la lb : List Bool} (ha : IsB H va la) (hb : IsB H vb lb) (hla : la.length < 2 ^ 34) (hlb : lb.length < 2 ^ 34) :
    Run (Cx ext) 42 [va, vb] H fun r H' => AL.Ext H H' ∧ r = .int .i64 (scmpN la lb) := by
  refine Run.intro (fi := IR.fi42) (hx 42 (by decide)) (by kernel_rfl) ?_
  unfold IR.fi42
  simp only [envOf_cons, envOf_nil]
  refine Cw.seq (Cw.region ?_)
  (refine Ow.popM rfl ?_; simp only [S0, Nat.reduceEqDiff, Nat.reduceAdd, reduceIte, reduceCtorEq])
  refine Ow.nilM ⟨nofun, ?_⟩
  refine Cw.seq (Cw.seq (Cw.region ?_))
  (refine Ow.popM rfl ?_; simp only [S0, Nat.reduceEqDiff, Nat.reduceAdd, reduceIte, reduceCtorEq])
  refine Ow.callP (k := 57) (vs := [va]) rfl rfl (by simp only [S0, Nat.reduceEqDiff, Nat.reduceAdd, reduceIte, reduceCtorEq]) (negative_any hx ha.wl (by omega)) ?_
  intro w1 hx1
  (refine Ow.popM rfl ?_; simp only [S0, Nat.reduceEqDiff, Nat.reduceAdd, reduceIte, reduceCtorEq])
  refine Ow.callP (k := 57) (vs := [vb]) rfl rfl (by simp only [S0, Nat.reduceEqDiff, Nat.reduceAdd, reduceIte, reduceCtorEq]) (negative_any hx (hb.ext hx1).wl (by omega)) ?_
  intro w2 hx2
  have hx02 := hx1.trans hx2
  iterate 2 (refine Ow.popM rfl ?_; simp only [S0, Nat.reduceEqDiff, Nat.reduceAdd, reduceIte, reduceCtorEq])
  refine Ow.nilM ⟨nofun, ?_⟩
  have e1 : bx la (la.length - 1) = ng la := rfl
  have e2 : bx lb (lb.length - 1) = ng lb := rfl
  rw [e1, e2]
  unfold scmpN
  refine Cw.block (Cw.seq (Cw.region ?_))
  have ha2 := ha.ext hx02
  have hb2 := hb.ext hx02
  cases hna : ng la <;> cases hnb : ng lb
  -- neither is negative
  · iterate 2 (refine Ow.popM rfl ?_; simp only [S0, Nat.reduceEqDiff, Nat.reduceAdd, reduceIte, reduceCtorEq])
    iterate 2 refine Ow.pass (by simp only [S0, Nat.reduceEqDiff, Nat.reduceAdd, reduceIte, reduceCtorEq]) ?_
    iterate 2 (refine Ow.popM rfl ?_; simp only [S0, Nat.reduceEqDiff, Nat.reduceAdd, reduceIte, reduceCtorEq])
    refine Ow.nilM ⟨nofun, ?_⟩
    refine Cw.cond (t := false) (by simp only [S0, Nat.reduceEqDiff, Nat.reduceAdd, reduceIte, reduceCtorEq]) ?_
    refine Cw.seq (Cw.region ?_)
    iterate 2 (refine Ow.popM rfl ?_; simp only [S0, Nat.reduceEqDiff, Nat.reduceAdd, reduceIte, reduceCtorEq])
    iterate 2 refine Ow.pass (by simp only [S0, Nat.reduceEqDiff, Nat.reduceAdd, reduceIte, reduceCtorEq]) ?_
    iterate 2 (refine Ow.popM rfl ?_; simp only [S0, Nat.reduceEqDiff, Nat.reduceAdd, reduceIte, reduceCtorEq])
    refine Ow.nilM ⟨nofun, ?_⟩
    refine Cw.cond (t := false) (by simp only [S0, Nat.reduceEqDiff, Nat.reduceAdd, reduceIte, reduceCtorEq]) ?_
    refine Cw.seq (Cw.region ?_)
    iterate 2 (refine Ow.popM rfl ?_; simp only [S0, Nat.reduceEqDiff, Nat.reduceAdd, reduceIte, reduceCtorEq])
    refine Ow.nilM ⟨nofun, ?_⟩
    refine Cw.cond (t := false) (by simp only [S0, Nat.reduceEqDiff, Nat.reduceAdd, reduceIte, reduceCtorEq]) ?_
    refine Cw.skip ?_
    show Cw _ _ _ _ _
    refine Cw.seq (Cw.region ?_)
    iterate 2 (refine Ow.popM rfl ?_; simp only [S0, Nat.reduceEqDiff, Nat.reduceAdd, reduceIte, reduceCtorEq])
    refine Ow.callE (k := 30) (fs := []) (cs := []) (vs := [va, vb]) rfl rfl (by simp only [S0, Nat.reduceEqDiff, Nat.reduceAdd, reduceIte, reduceCtorEq]) (cmp_any hx ha2.wl hb2.wl (by omega) (by omega)) ?_
    rintro _ H5 w5 hx5 rfl
    (refine Ow.popM rfl ?_; simp only [S0, Nat.reduceEqDiff, Nat.reduceAdd, reduceIte, reduceCtorEq])
    refine Ow.nilM ⟨nofun, ?_⟩
    refine Cw.ret ?_
    simp only [Then, InBlock, Rnd, FnPost, resOf, tupled, S0, Nat.reduceEqDiff, Nat.reduceAdd, reduceIte, reduceCtorEq]
    exact ⟨hx02.trans hx5, rfl⟩
  -- b is negative
  · iterate 2 (refine Ow.popM rfl ?_; simp only [S0, Nat.reduceEqDiff, Nat.reduceAdd, reduceIte, reduceCtorEq])
    iterate 2 refine Ow.pass (by simp only [S0, Nat.reduceEqDiff, Nat.reduceAdd, reduceIte, reduceCtorEq]) ?_
    iterate 2 (refine Ow.popM rfl ?_; simp only [S0, Nat.reduceEqDiff, Nat.reduceAdd, reduceIte, reduceCtorEq])
    refine Ow.nilM ⟨nofun, ?_⟩
    refine Cw.cond (t := false) (by simp only [S0, Nat.reduceEqDiff, Nat.reduceAdd, reduceIte, reduceCtorEq]) ?_
    refine Cw.seq (Cw.region ?_)
    iterate 6 (refine Ow.popM rfl ?_; simp only [S0, Nat.reduceEqDiff, Nat.reduceAdd, reduceIte, reduceCtorEq])
    refine Ow.nilM ⟨nofun, ?_⟩
    refine Cw.cond (t := true) (by simp only [S0, Nat.reduceEqDiff, Nat.reduceAdd, reduceIte, reduceCtorEq]) ?_
    refine Cw.seq (Cw.region ?_)
    (refine Ow.popM rfl ?_; simp only [S0, Nat.reduceEqDiff, Nat.reduceAdd, reduceIte, reduceCtorEq])
    refine Ow.nilM ⟨nofun, ?_⟩
    refine Cw.ret ?_
    simp only [Then, InBlock, Rnd, FnPost, resOf, tupled, S0, Nat.reduceEqDiff, Nat.reduceAdd, reduceIte, reduceCtorEq]
    exact ⟨hx02, rfl⟩
  -- a is negative
  · iterate 6 (refine Ow.popM rfl ?_; simp only [S0, Nat.reduceEqDiff, Nat.reduceAdd, reduceIte, reduceCtorEq])
    refine Ow.nilM ⟨nofun, ?_⟩
    refine Cw.cond (t := true) (by simp only [S0, Nat.reduceEqDiff, Nat.reduceAdd, reduceIte, reduceCtorEq]) ?_
    refine Cw.seq (Cw.region ?_)
    (refine Ow.popM rfl ?_; simp only [S0, Nat.reduceEqDiff, Nat.reduceAdd, reduceIte, reduceCtorEq])
    refine Ow.nilM ⟨nofun, ?_⟩
    refine Cw.ret ?_
    simp only [Then, InBlock, Rnd, FnPost, resOf, tupled, S0, Nat.reduceEqDiff, Nat.reduceAdd, reduceIte, reduceCtorEq]
    exact ⟨hx02, rfl⟩
  -- both are
  · iterate 6 (refine Ow.popM rfl ?_; simp only [S0, Nat.reduceEqDiff, Nat.reduceAdd, reduceIte, reduceCtorEq])
    refine Ow.nilM ⟨nofun, ?_⟩
    refine Cw.cond (t := false) (by simp only [S0, Nat.reduceEqDiff, Nat.reduceAdd, reduceIte, reduceCtorEq]) ?_
    refine Cw.seq (Cw.region ?_)
    iterate 6 (refine Ow.popM rfl ?_; simp only [S0, Nat.reduceEqDiff, Nat.reduceAdd, reduceIte, reduceCtorEq])
    refine Ow.nilM ⟨nofun, ?_⟩
    refine Cw.cond (t := false) (by simp only [S0, Nat.reduceEqDiff, Nat.reduceAdd, reduceIte, reduceCtorEq]) ?_
    refine Cw.seq (Cw.region ?_)
    iterate 2 (refine Ow.popM rfl ?_; simp only [S0, Nat.reduceEqDiff, Nat.reduceAdd, reduceIte, reduceCtorEq])
    refine Ow.nilM ⟨nofun, ?_⟩
    refine Cw.cond (t := true) (by simp only [S0, Nat.reduceEqDiff, Nat.reduceAdd, reduceIte, reduceCtorEq]) ?_
    refine Cw.seq (Cw.region ?_)
    (refine Ow.popM rfl ?_; simp only [S0, Nat.reduceEqDiff, Nat.reduceAdd, reduceIte, reduceCtorEq])
    refine Ow.callE (k := 56) (fs := []) (cs := []) (vs := [vb]) rfl rfl (by simp only [S0, Nat.reduceEqDiff, Nat.reduceAdd, reduceIte, reduceCtorEq]) (size_any hx hb2.wl (by omega)) ?_
    rintro x H3 w3 hx3 hx'
    have hX3 : IsB { H3 with wl := w3 } x _ := hx'
    (refine Ow.popM rfl ?_; simp only [S0, Nat.reduceEqDiff, Nat.reduceAdd, reduceIte, reduceCtorEq])
    refine Ow.callE (k := 56) (fs := []) (cs := []) (vs := [va]) rfl rfl (by simp only [S0, Nat.reduceEqDiff, Nat.reduceAdd, reduceIte, reduceCtorEq]) (size_any hx (ha2.ext hx3).wl (by omega)) ?_
    rintro y H4 w4 hx4 hy'
    have hY4 : IsB { H4 with wl := w4 } y _ := hy'
    refine Ow.callE (k := 30) (fs := []) (cs := []) (vs := [x, y]) rfl rfl (by simp only [S0, Nat.reduceEqDiff, Nat.reduceAdd, reduceIte, reduceCtorEq]) (cmp_any hx (hX3.ext hx4).wl hY4.wl (by rw [ofN_length]; omega) (by rw [ofN_length]; omega)) ?_
    rintro _ H5 w5 hx5 rfl
    rw [val_ofN, val_ofN, Nat.mod_eq_of_lt (absN_lt la), Nat.mod_eq_of_lt (absN_lt lb)]
    (refine Ow.popM rfl ?_; simp only [S0, Nat.reduceEqDiff, Nat.reduceAdd, reduceIte, reduceCtorEq])
    refine Ow.nilM ⟨nofun, ?_⟩
    refine Cw.ret ?_
    simp only [Then, InBlock, Rnd, FnPost, resOf, tupled, S0, Nat.reduceEqDiff, Nat.reduceAdd, reduceIte, reduceCtorEq]
    exact ⟨((hx02.trans hx3).trans hx4).trans hx5, rfl⟩
end Go.Proofs.Yteeckncfllbokaa.X
