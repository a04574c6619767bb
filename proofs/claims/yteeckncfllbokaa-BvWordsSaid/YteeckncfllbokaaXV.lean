/- The reference's Add, Neg, Sub. -/
import Derived.Test.YteeckncfllbokaaXU
set_option linter.unusedSimpArgs false
set_option linter.unusedVariables false
namespace Go.Proofs.Yteeckncfllbokaa.X
open Go Go.AL
variable {ext : Nat → Option (List Value → AH → Option (Value × AH))}
theorem radd_any (hx : Ext0 ext) {H : AH} {va vb : Value} {la lb : List Bool} (ha : IsB H va la) (hb : IsB H vb lb) (hla : la.length < 2 ^ 33) (hlb : lb.length < 2 ^ 33) :
    Run (Cx ext) 37 [va, vb] H fun r H' => AL.Ext H H' ∧ IsB H' r (ofN la.length (val la + val lb)) := by
  refine Run.intro (fi := IR.fi37) (hx 37 (by decide)) (by kernel_rfl) ?_
  unfold IR.fi37
  simp only [envOf_cons, envOf_nil]
  obtain ⟨aa, ca, ea⟩ := ha.shape
  subst ea
  refine Cw.seq (Cw.region ?_)
  (refine Ow.popM rfl ?_; simp only [S0, Nat.reduceEqDiff, Nat.reduceAdd, reduceIte, reduceCtorEq])
  refine Ow.nilM ⟨nofun, ?_⟩
  refine Cw.seq (Cw.region ?_)
  iterate 2 (refine Ow.popM rfl ?_; simp only [S0, Nat.reduceEqDiff, Nat.reduceAdd, reduceIte, reduceCtorEq])
  refine Ow.callE (k := 64) (fs := []) (cs := []) (vs := [.slice aa la.length ca, vb]) rfl rfl (by simp only [S0, Nat.reduceEqDiff, Nat.reduceAdd, reduceIte, reduceCtorEq]) (sum_any hx ha.wl hb.wl (by omega) (by omega)) ?_
  rintro u H1 w1 hx1 ⟨l, hu, hval, hlen⟩
  have hu1 : IsB { H1 with wl := w1 } u l := hu.isR.isB
  iterate 2 (refine Ow.popM rfl ?_; simp only [S0, Nat.reduceEqDiff, Nat.reduceAdd, reduceIte, reduceCtorEq])
  refine Ow.callE (k := 31) (fs := []) (cs := []) (vs := [u, .int .i64 la.length]) rfl rfl (by simp only [S0, Nat.reduceEqDiff, Nat.reduceAdd, reduceIte, reduceCtorEq]) (Fit_any hx hu1.wl (by omega)) ?_
  rintro r H2 w2 hx2 hr
  (refine Ow.popM rfl ?_; simp only [S0, Nat.reduceEqDiff, Nat.reduceAdd, reduceIte, reduceCtorEq])
  refine Ow.nilM ⟨nofun, ?_⟩
  refine Cw.ret ?_
  simp only [Then, InBlock, Rnd, FnPost, resOf, tupled, S0, Nat.reduceEqDiff, Nat.reduceAdd, reduceIte, reduceCtorEq]
  rw [hval] at hr
  exact ⟨hx1.trans hx2, hr.isR.isB⟩
theorem rneg_any (hx : Ext0 ext) {H : AH} {va : Value} {la : List Bool} (ha : IsB H va la) (hla : la.length < 2 ^ 33) :
    Run (Cx ext) 39 [va] H fun r H' => AL.Ext H H' ∧ IsB H' r (ofN la.length (2 ^ la.length - val la)) := by
  refine Run.intro (fi := IR.fi39) (hx 39 (by decide)) (by kernel_rfl) ?_
  unfold IR.fi39
  simp only [envOf_cons, envOf_nil]
  obtain ⟨aa, ca, ea⟩ := ha.shape
  subst ea
  refine Cw.seq (Cw.region ?_)
  (refine Ow.popM rfl ?_; simp only [S0, Nat.reduceEqDiff, Nat.reduceAdd, reduceIte, reduceCtorEq])
  refine Ow.nilM ⟨nofun, ?_⟩
  refine Cw.seq (Cw.region ?_)
  iterate 2 (refine Ow.popM rfl ?_; simp only [S0, Nat.reduceEqDiff, Nat.reduceAdd, reduceIte, reduceCtorEq])
  refine Ow.callE (k := 62) (fs := []) (cs := []) (vs := [.int .i64 la.length]) rfl rfl (by simp only [S0, Nat.reduceEqDiff, Nat.reduceAdd, reduceIte, reduceCtorEq]) (power_any hx (by omega)) ?_
  rintro p H1 w1 hx1 hp
  have hp1 : IsB { H1 with wl := w1 } p _ := hp.isB
  have ha1 := ha.ext hx1
  have hlt := val_lt la
  (refine Ow.popM rfl ?_; simp only [S0, Nat.reduceEqDiff, Nat.reduceAdd, reduceIte, reduceCtorEq])
  refine Ow.callE (k := 61) (fs := []) (cs := []) (vs := [p, .slice aa la.length ca]) rfl rfl (by simp only [S0, Nat.reduceEqDiff, Nat.reduceAdd, reduceIte, reduceCtorEq]) (minus_any hx hp1.wl ha1.wl (by simp; omega) (by rw [val_power]; omega)) ?_
  rintro u H2 w2 hx2 hu
  have hu2 : IsB { H2 with wl := w2 } u _ := hu.isR.isB
  iterate 2 (refine Ow.popM rfl ?_; simp only [S0, Nat.reduceEqDiff, Nat.reduceAdd, reduceIte, reduceCtorEq])
  refine Ow.callE (k := 31) (fs := []) (cs := []) (vs := [u, .int .i64 la.length]) rfl rfl (by simp only [S0, Nat.reduceEqDiff, Nat.reduceAdd, reduceIte, reduceCtorEq]) (Fit_any hx hu2.wl (by omega)) ?_
  rintro r H3 w3 hx3 hr
  (refine Ow.popM rfl ?_; simp only [S0, Nat.reduceEqDiff, Nat.reduceAdd, reduceIte, reduceCtorEq])
  refine Ow.nilM ⟨nofun, ?_⟩
  refine Cw.ret ?_
  simp only [Then, InBlock, Rnd, FnPost, resOf, tupled, S0, Nat.reduceEqDiff, Nat.reduceAdd, reduceIte, reduceCtorEq]
  have hr3 : IsB { H3 with wl := w3 } r _ := hr.isR.isB
  have e : (List.replicate la.length false ++ [true]).length = la.length + 1 := by simp
  rw [val_ofN, val_power, e, Nat.mod_eq_of_lt (show 2 ^ la.length - val la < 2 ^ (la.length + 1) by rw [Nat.pow_succ]; omega)] at hr3
  exact ⟨(hx1.trans hx2).trans hx3, hr3⟩
theorem rsub_any (hx : Ext0 ext) {H : AH} {va vb : Value} {la lb : List Bool} (ha : IsB H va la) (hb : IsB H vb lb) (hla : la.length < 2 ^ 33) :
    Run (Cx ext) 38 [va, vb] H fun r H' => AL.Ext H H' ∧ IsB H' r (ofN la.length (val la + (2 ^ la.length - val lb % 2 ^ la.length))) := by
  refine Run.intro (fi := IR.fi38) (hx 38 (by decide)) (by kernel_rfl) ?_
  unfold IR.fi38
  simp only [envOf_cons, envOf_nil]
  obtain ⟨aa, ca, ea⟩ := ha.shape
  subst ea
  refine Cw.seq (Cw.region ?_)
  (refine Ow.popM rfl ?_; simp only [S0, Nat.reduceEqDiff, Nat.reduceAdd, reduceIte, reduceCtorEq])
  refine Ow.nilM ⟨nofun, ?_⟩
  refine Cw.seq (Cw.region ?_)
  iterate 4 (refine Ow.popM rfl ?_; simp only [S0, Nat.reduceEqDiff, Nat.reduceAdd, reduceIte, reduceCtorEq])
  refine Ow.callE (k := 31) (fs := []) (cs := []) (vs := [vb, .int .i64 la.length]) rfl rfl (by simp only [S0, Nat.reduceEqDiff, Nat.reduceAdd, reduceIte, reduceCtorEq]) (Fit_any hx hb.wl (by omega)) ?_
  rintro u H1 w1 hx1 hu
  have hu1 : IsB { H1 with wl := w1 } u _ := hu.isR.isB
  refine Ow.callE (k := 39) (fs := []) (cs := []) (vs := [u]) rfl rfl (by simp only [S0, Nat.reduceEqDiff, Nat.reduceAdd, reduceIte, reduceCtorEq]) (rneg_any hx hu1.wl (by rw [ofN_length]; exact hla)) ?_
  rintro y H2 w2 hx2 hy
  rw [ofN_length, val_ofN] at hy
  have hy2 : IsB { H2 with wl := w2 } y _ := hy
  have ha2 := (ha.ext hx1).ext hx2
  refine Ow.callE (k := 37) (fs := []) (cs := []) (vs := [.slice aa la.length ca, y]) rfl rfl (by simp only [S0, Nat.reduceEqDiff, Nat.reduceAdd, reduceIte, reduceCtorEq]) (radd_any hx ha2.wl hy2.wl hla (by rw [ofN_length]; exact hla)) ?_
  rintro r H3 w3 hx3 hr
  (refine Ow.popM rfl ?_; simp only [S0, Nat.reduceEqDiff, Nat.reduceAdd, reduceIte, reduceCtorEq])
  refine Ow.nilM ⟨nofun, ?_⟩
  refine Cw.ret ?_
  simp only [Then, InBlock, Rnd, FnPost, resOf, tupled, S0, Nat.reduceEqDiff, Nat.reduceAdd, reduceIte, reduceCtorEq]
  have hr3 : IsB { H3 with wl := w3 } r _ := hr
  rw [val_ofN, ofN_eq (show (val la + (2 ^ la.length - val lb % 2 ^ la.length) % 2 ^ la.length) % 2 ^ la.length = (val la + (2 ^ la.length - val lb % 2 ^ la.length)) % 2 ^ la.length by rw [Nat.add_mod_mod])] at hr3
  exact ⟨(hx1.trans hx2).trans hx3, hr3⟩
end Go.Proofs.Yteeckncfllbokaa.X
