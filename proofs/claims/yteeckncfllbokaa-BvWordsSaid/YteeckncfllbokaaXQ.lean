/- Signed values. -/
import Derived.Test.YteeckncfllbokaaXO
set_option linter.unusedSimpArgs false
set_option linter.unusedVariables false
namespace Go.Proofs.Yteeckncfllbokaa.X
open Go Go.AL
variable {ext : Nat → Option (List Value → AH → Option (Value × AH))}
/-- The last bit. -/
def ng (l : List Bool) : Bool := bx l (l.length - 1)
/-- The absolute value. -/
def absN (l : List Bool) : Nat := if ng l then 2 ^ l.length - val l else val l
theorem ng_pos {l : List Bool} (h : ng l = true) : 0 < val l := by
  rcases Nat.eq_zero_or_pos (val l) with h0 | h0
  · have h1 := val_bit l (l.length - 1)
    rw [h0, Nat.zero_testBit] at h1
    unfold ng at h
    rw [h] at h1
    cases h1
  · exact h0
theorem absN_lt (l : List Bool) : absN l < 2 ^ l.length := by
  unfold absN
  have := val_lt l
  split
  · rename_i h
    have := ng_pos h
    omega
  · exact this
/-- bv.size -/
theorem size_any (hx : Ext0 ext) {H : AH} {v : Value} {l : List Bool} (hv : IsB H v l) (hl : l.length < 2 ^ 36) :
    Run (Cx ext) 56 [v] H fun r H' => AL.Ext H H' ∧ IsB H' r (ofN l.length (absN l)) := by
  refine Run.intro (fi := IR.fi56) (hx 56 (by decide)) (by kernel_rfl) ?_
  unfold IR.fi56
  simp only [envOf_cons, envOf_nil]
  refine Cw.seq (Cw.region ?_)
  (refine Ow.popM rfl ?_; simp only [S0, Nat.reduceEqDiff, Nat.reduceAdd, reduceIte, reduceCtorEq])
  refine Ow.nilM ⟨nofun, ?_⟩
  refine Cw.seq (Cw.seq (Cw.region ?_))
  (refine Ow.popM rfl ?_; simp only [S0, Nat.reduceEqDiff, Nat.reduceAdd, reduceIte, reduceCtorEq])
  refine Ow.callP (k := 57) (vs := [v]) rfl rfl (by simp only [S0, Nat.reduceEqDiff, Nat.reduceAdd, reduceIte, reduceCtorEq]) (negative_any hx hv.wl hl) ?_
  intro w1 hx1
  refine Ow.nilM ⟨nofun, ?_⟩
  cases hn : bx l (l.length - 1) with
  | true =>
    refine Cw.cond (t := true) (by simp only [S0, Nat.reduceEqDiff, Nat.reduceAdd, reduceIte, reduceCtorEq]) ?_
    refine Cw.seq (Cw.region ?_)
    (refine Ow.popM rfl ?_; simp only [S0, Nat.reduceEqDiff, Nat.reduceAdd, reduceIte, reduceCtorEq])
    refine Ow.callE (k := 28) (fs := []) (cs := []) (vs := [v]) rfl rfl (by simp only [S0, Nat.reduceEqDiff, Nat.reduceAdd, reduceIte, reduceCtorEq]) (neg_any hx (hv.ext hx1).wl hl) ?_
    rintro r H2 w2 hx2 ⟨id, hid, hr⟩
    (refine Ow.popM rfl ?_; simp only [S0, Nat.reduceEqDiff, Nat.reduceAdd, reduceIte, reduceCtorEq])
    refine Ow.nilM ⟨nofun, ?_⟩
    refine Cw.ret ?_
    simp only [Then, InBlock, Rnd, FnPost, resOf, tupled, S0, Nat.reduceEqDiff, Nat.reduceAdd, reduceIte, reduceCtorEq]
    refine ⟨hx1.trans hx2, ?_⟩
    have hr2 := hr.isB
    rw [Nat.mod_eq_of_lt (val_lt l)] at hr2
    unfold absN ng
    rw [hn, if_pos rfl]
    exact hr2
  | false =>
    refine Cw.cond (t := false) (by simp only [S0, Nat.reduceEqDiff, Nat.reduceAdd, reduceIte, reduceCtorEq]) ?_
    refine Cw.skip ?_
    show Cw _ _ _ _ _
    refine Cw.seq (Cw.region ?_)
    iterate 2 (refine Ow.popM rfl ?_; simp only [S0, Nat.reduceEqDiff, Nat.reduceAdd, reduceIte, reduceCtorEq])
    refine Ow.nilM ⟨nofun, ?_⟩
    refine Cw.ret ?_
    simp only [Then, InBlock, Rnd, FnPost, resOf, tupled, S0, Nat.reduceEqDiff, Nat.reduceAdd, reduceIte, reduceCtorEq]
    refine ⟨hx1, ?_⟩
    unfold absN ng
    rw [hn, if_neg (by decide), ofN_val]
    exact hv.ext hx1
/-- What SDivMod answers. -/
def squo (la lb : List Bool) : List Bool := ofN la.length (if ng la != ng lb then 2 ^ la.length - (absN la / absN lb) % 2 ^ la.length else absN la / absN lb)
def srem (la lb : List Bool) : List Bool := ofN la.length (if ng la then 2 ^ la.length - (absN la % absN lb) % 2 ^ la.length else absN la % absN lb)
theorem IsR_base {H0 H1 H : AH} {v : Value} {l : List Bool} (h : IsR H1 H v l) (hn : H0.n ≤ H1.n) : IsR H0 H v l := by
  rcases h with h | ⟨id, off, cap, bk, rfl, hc, h1, h2, h3, h4, h5, h6⟩
  · exact .inl h
  · exact .inr ⟨id, off, cap, bk, rfl, hc, Nat.le_trans hn h1, h2, h3, h4, h5, h6⟩
/-- bv.SDivMod -/
theorem sdivmod_any (hx : Ext0 ext) {H : AH} {va vb : Value} {la lb : List Bool} (ha : IsB H va la) (hb : IsB H vb lb) (hla : la.length < 2 ^ 34) (hlb : lb.length < 2 ^ 34) :
    Run (Cx ext) 19 [va, vb] H fun r H' => AL.Ext H H' ∧ if absN lb = 0 then r = .tuple ⟨[.slice none 0 0, .slice none 0 0, .int .i64 7]⟩ else
      ∃ u w, r = .tuple ⟨[u, w, .int .i64 0]⟩ ∧ IsR H H' u (squo la lb) ∧ IsR H H' w (srem la lb) := by
  refine Run.intro (fi := IR.fi19) (hx 19 (by decide)) (by kernel_rfl) ?_
  unfold IR.fi19
  simp only [envOf_cons, envOf_nil]
  refine Cw.seq (Cw.region ?_)
  iterate 3 (refine Ow.popM rfl ?_; simp only [S0, Nat.reduceEqDiff, Nat.reduceAdd, reduceIte, reduceCtorEq])
  refine Ow.nilM ⟨nofun, ?_⟩
  refine Cw.seq (Cw.region ?_)
  (refine Ow.popM rfl ?_; simp only [S0, Nat.reduceEqDiff, Nat.reduceAdd, reduceIte, reduceCtorEq])
  refine Ow.callE (k := 56) (fs := []) (cs := []) (vs := [va]) rfl rfl (by simp only [S0, Nat.reduceEqDiff, Nat.reduceAdd, reduceIte, reduceCtorEq]) (size_any hx ha.wl (by omega)) ?_
  rintro x H1 w1 hx1 hx'
  have hX1 : IsB { H1 with wl := w1 } x _ := hx'
  have hb1 := hb.ext hx1
  (refine Ow.popM rfl ?_; simp only [S0, Nat.reduceEqDiff, Nat.reduceAdd, reduceIte, reduceCtorEq])
  refine Ow.callE (k := 56) (fs := []) (cs := []) (vs := [vb]) rfl rfl (by simp only [S0, Nat.reduceEqDiff, Nat.reduceAdd, reduceIte, reduceCtorEq]) (size_any hx hb1.wl (by omega)) ?_
  rintro y H2 w2 hx2 hy'
  have hY2 : IsB { H2 with wl := w2 } y _ := hy'
  have hX2 := hX1.ext hx2
  have hx02 := hx1.trans hx2
  refine Ow.callE (k := 18) (fs := []) (cs := []) (vs := [x, y]) rfl rfl (by simp only [S0, Nat.reduceEqDiff, Nat.reduceAdd, reduceIte, reduceCtorEq]) (divmod_any hx hX2.wl hY2.wl (by rw [ofN_length]; exact hla) (by rw [ofN_length]; exact hlb)) ?_
  rintro r H3 w3 hx3 hr
  have hx03 := hx02.trans hx3
  rw [ofN_length, val_ofN, val_ofN, Nat.mod_eq_of_lt (absN_lt la), Nat.mod_eq_of_lt (absN_lt lb)] at hr
  by_cases hz : absN lb = 0
  · rw [if_pos hz] at hr
    subst hr
    iterate 7 (refine Ow.popM rfl ?_; simp only [S0, Nat.reduceEqDiff, Nat.reduceAdd, reduceIte, reduceCtorEq, List.getElem?_cons_zero, List.getElem?_cons_succ])
    refine Ow.nilM ⟨nofun, ?_⟩
    refine Cw.seq (Cw.seq (Cw.region ?_))
    iterate 2 (refine Ow.popM rfl ?_; simp only [S0, Nat.reduceEqDiff, Nat.reduceAdd, reduceIte, reduceCtorEq, show ((7 : Int) != 0) = true from rfl])
    refine Ow.nilM ⟨nofun, ?_⟩
    refine Cw.cond (t := true) (by simp only [S0, Nat.reduceEqDiff, Nat.reduceAdd, reduceIte, reduceCtorEq]) ?_
    refine Cw.seq (Cw.region ?_)
    iterate 4 (refine Ow.popM rfl ?_; simp only [S0, Nat.reduceEqDiff, Nat.reduceAdd, reduceIte, reduceCtorEq])
    refine Ow.nilM ⟨nofun, ?_⟩
    refine Cw.ret ?_
    simp only [Then, InBlock, Rnd, FnPost, resOf, tupled, S0, Nat.reduceEqDiff, Nat.reduceAdd, reduceIte, reduceCtorEq]
    refine ⟨hx03, ?_⟩
    rw [if_pos hz]
    exact trivial
  rw [if_neg hz] at hr
  obtain ⟨u, w, rfl, ⟨iu, hiu, hu⟩, hw⟩ := hr
  have hn2 : H.n ≤ H2.n := hx02.n
  have hiu' : H2.n ≤ iu := hiu
  have hu3 : IsR H { H3 with wl := w3 } u _ := hu.isR (by omega)
  have hw3 : IsR H { H3 with wl := w3 } w _ := IsR_base hw hn2
  iterate 7 (refine Ow.popM rfl ?_; simp only [S0, Nat.reduceEqDiff, Nat.reduceAdd, reduceIte, reduceCtorEq, List.getElem?_cons_zero, List.getElem?_cons_succ])
  refine Ow.nilM ⟨nofun, ?_⟩
  refine Cw.seq (Cw.seq (Cw.region ?_))
  iterate 2 (refine Ow.popM rfl ?_; simp only [S0, Nat.reduceEqDiff, Nat.reduceAdd, reduceIte, reduceCtorEq, show ((0 : Int) != 0) = false from rfl])
  refine Ow.nilM ⟨nofun, ?_⟩
  refine Cw.cond (t := false) (by simp only [S0, Nat.reduceEqDiff, Nat.reduceAdd, reduceIte, reduceCtorEq]) ?_
  refine Cw.skip ?_
  show Cw _ _ _ _ _
  refine Cw.seq (Cw.mono (Q := fun c E' H' => c = .normal ∧ AL.Ext H H' ∧ (E'.get 0 = some va ∧ E'.get 5 = some w) ∧ IsR H H' w (ofN la.length (absN la % absN lb)) ∧ ∃ u', E'.get 4 = some u' ∧ IsR H H' u' (squo la lb)) ?_ ?_)
  · refine Cw.seq (Cw.region ?_)
    (refine Ow.popM rfl ?_; simp only [S0, Nat.reduceEqDiff, Nat.reduceAdd, reduceIte, reduceCtorEq])
    refine Ow.callP (k := 57) (vs := [va]) rfl rfl (by simp only [S0, Nat.reduceEqDiff, Nat.reduceAdd, reduceIte, reduceCtorEq]) (negative_any hx (ha.ext hx03).wl (by omega)) ?_
    intro w4 hx4
    have hx04 := hx03.trans hx4
    (refine Ow.popM rfl ?_; simp only [S0, Nat.reduceEqDiff, Nat.reduceAdd, reduceIte, reduceCtorEq])
    refine Ow.callP (k := 57) (vs := [vb]) rfl rfl (by simp only [S0, Nat.reduceEqDiff, Nat.reduceAdd, reduceIte, reduceCtorEq]) (negative_any hx (hb.ext hx04).wl (by omega)) ?_
    intro w5 hx5
    have hx05 := hx04.trans hx5
    have hu5 := (hu3.ext hx4).ext hx5
    have hw5 := (hw3.ext hx4).ext hx5
    (refine Ow.popM rfl ?_; simp only [S0, Nat.reduceEqDiff, Nat.reduceAdd, reduceIte, reduceCtorEq])
    refine Ow.nilM ⟨nofun, ?_⟩
    have hsq : (bx la (la.length - 1) != bx lb (lb.length - 1)) = (ng la != ng lb) := rfl
    rw [hsq]
    cases hn : (ng la != ng lb) with
    | true =>
      refine Cw.cond (t := true) (by simp only [S0, Nat.reduceEqDiff, Nat.reduceAdd, reduceIte, reduceCtorEq]) ?_
      refine Cw.region ?_
      (refine Ow.popM rfl ?_; simp only [S0, Nat.reduceEqDiff, Nat.reduceAdd, reduceIte, reduceCtorEq])
      refine Ow.callE (k := 28) (fs := []) (cs := []) (vs := [u]) rfl rfl (by simp only [S0, Nat.reduceEqDiff, Nat.reduceAdd, reduceIte, reduceCtorEq]) (neg_any hx hu5.isB.wl (by rw [ofN_length]; omega)) ?_
      rintro z H6 w6 hx6 ⟨iz, hiz, hz'⟩
      rw [ofN_length, val_ofN, Nat.mod_mod] at hz'
      (refine Ow.popM rfl ?_; simp only [S0, Nat.reduceEqDiff, Nat.reduceAdd, reduceIte, reduceCtorEq])
      have h5n : H.n ≤ iz := by have h := hx05.n; have h2 : H3.n ≤ iz := hiz; have h3 : H.n ≤ H3.n := h; omega
      refine Ow.nilM ⟨nofun, trivial, hx05.trans hx6, ?_, hw5.ext hx6, z, ?_, ?_⟩
      · simp only [S0, Nat.reduceEqDiff, Nat.reduceAdd, reduceIte, reduceCtorEq, and_self]
      · simp only [S0, Nat.reduceEqDiff, Nat.reduceAdd, reduceIte, reduceCtorEq]
      · unfold squo
        rw [hn, if_pos rfl]
        exact (show IsM { H6 with wl := w6 } z _ iz from hz').isR h5n
    | false =>
      refine Cw.cond (t := false) (by simp only [S0, Nat.reduceEqDiff, Nat.reduceAdd, reduceIte, reduceCtorEq]) ?_
      refine Cw.skip ⟨rfl, hx05, ?_, hw5, u, ?_, ?_⟩
      · simp only [S0, Nat.reduceEqDiff, Nat.reduceAdd, reduceIte, reduceCtorEq, and_self]
      · simp only [S0, Nat.reduceEqDiff, Nat.reduceAdd, reduceIte, reduceCtorEq]
      · unfold squo
        rw [hn, if_neg (by decide)]
        exact hu5
  rintro c E4 H4 ⟨rfl, hx4, ⟨g0, g5⟩, hw4, u', g4, hu4⟩
  refine Cw.seq (Cw.seq (Cw.region ?_))
  (refine Ow.popM rfl ?_; simp only [S0, Nat.reduceEqDiff, Nat.reduceAdd, reduceIte, reduceCtorEq, g0])
  refine Ow.callP (k := 57) (vs := [va]) rfl rfl (by simp only [S0, Nat.reduceEqDiff, Nat.reduceAdd, reduceIte, reduceCtorEq]) (negative_any hx (ha.ext hx4).wl (by omega)) ?_
  intro w5 hx5
  have hx05 := hx4.trans hx5
  refine Ow.nilM ⟨nofun, ?_⟩
  cases hn : bx la (la.length - 1) with
  | true =>
    refine Cw.cond (t := true) (by simp only [S0, Nat.reduceEqDiff, Nat.reduceAdd, reduceIte, reduceCtorEq]) ?_
    refine Cw.region ?_
    (refine Ow.popM rfl ?_; simp only [S0, Nat.reduceEqDiff, Nat.reduceAdd, reduceIte, reduceCtorEq, g5])
    refine Ow.callE (k := 28) (fs := []) (cs := []) (vs := [w]) rfl rfl (by simp only [S0, Nat.reduceEqDiff, Nat.reduceAdd, reduceIte, reduceCtorEq]) (neg_any hx (hw4.ext hx5).isB.wl (by rw [ofN_length]; omega)) ?_
    rintro z H6 w6 hx6 ⟨iz, hiz, hz'⟩
    rw [ofN_length, val_ofN, Nat.mod_mod] at hz'
    have h5n : H.n ≤ iz := by have h := hx05.n; have h2 : H4.n ≤ iz := hiz; have h3 : H.n ≤ H4.n := h; omega
    (refine Ow.popM rfl ?_; simp only [S0, Nat.reduceEqDiff, Nat.reduceAdd, reduceIte, reduceCtorEq])
    refine Ow.nilM ⟨nofun, ?_⟩
    show Cw _ _ _ _ _
    refine Cw.seq (Cw.region ?_)
    iterate 5 (refine Ow.popM rfl ?_; simp only [S0, Nat.reduceEqDiff, Nat.reduceAdd, reduceIte, reduceCtorEq, g4])
    refine Ow.nilM ⟨nofun, ?_⟩
    refine Cw.ret ?_
    simp only [Then, InBlock, Rnd, FnPost, resOf, tupled, S0, Nat.reduceEqDiff, Nat.reduceAdd, reduceIte, reduceCtorEq]
    refine ⟨hx05.trans hx6, ?_⟩
    rw [if_neg hz]
    refine ⟨u', z, rfl, (hu4.ext hx5).ext hx6, ?_⟩
    unfold srem ng
    rw [hn, if_pos rfl]
    exact (show IsM { H6 with wl := w6 } z _ iz from hz').isR h5n
  | false =>
    refine Cw.cond (t := false) (by simp only [S0, Nat.reduceEqDiff, Nat.reduceAdd, reduceIte, reduceCtorEq]) ?_
    refine Cw.skip ?_
    show Cw _ _ _ _ _
    refine Cw.seq (Cw.region ?_)
    iterate 5 (refine Ow.popM rfl ?_; simp only [S0, Nat.reduceEqDiff, Nat.reduceAdd, reduceIte, reduceCtorEq, g4, g5])
    refine Ow.nilM ⟨nofun, ?_⟩
    refine Cw.ret ?_
    simp only [Then, InBlock, Rnd, FnPost, resOf, tupled, S0, Nat.reduceEqDiff, Nat.reduceAdd, reduceIte, reduceCtorEq]
    refine ⟨hx05, ?_⟩
    rw [if_neg hz]
    refine ⟨u', w, rfl, hu4.ext hx5, ?_⟩
    unfold srem ng
    rw [hn, if_neg (by decide)]
    exact hw4.ext hx5
end Go.Proofs.Yteeckncfllbokaa.X
