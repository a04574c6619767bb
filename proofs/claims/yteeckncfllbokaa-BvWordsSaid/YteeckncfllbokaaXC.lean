/- The reference's small functions. -/
import Derived.Test.YteeckncfllbokaaXP
import Derived.Test.YteeckncfllbokaaALc
set_option linter.unusedSimpArgs false
set_option linter.unusedVariables false
namespace Go.Proofs.Yteeckncfllbokaa.X
open Go Go.AL
variable {ext : Nat → Option (List Value → AH → Option (Value × AH))}
theorem ne_true {a b : Nat} (h : a ≠ b) : ((a : Int) != (b : Int)) = true := by simp; omega
theorem ne_false (a : Nat) : ((a : Int) != (a : Int)) = false := by simp
theorem bx_of {l : List Bool} {n : Nat} {b : Bool} (h : l[n]? = some b) : bx l n = b := by simp [bx, List.getD_eq_getElem?_getD, h]
/-- Same -/
theorem same_any (hx : Ext0 ext) {H : AH} {va vb : Value} {la lb : List Bool} (ha : IsB H va la) (hb : IsB H vb lb) (hl : la.length < 2 ^ 36) :
    Run (Cx ext) 20 [va, vb] H fun r H' => H' = H ∧ r = .bool (decide (la = lb)) := by
  refine Run.intro (fi := IR.fi20) (hx 20 (by decide)) (by kernel_rfl) ?_
  unfold IR.fi20
  simp only [envOf_cons, envOf_nil]
  obtain ⟨aa, ca, ea⟩ := ha.shape
  obtain ⟨ab, cb, eb⟩ := hb.shape
  subst ea
  subst eb
  refine Cw.seq (Cw.region ?_)
  (refine Ow.popM rfl ?_; simp only [S0, Nat.reduceEqDiff, Nat.reduceAdd, reduceIte, reduceCtorEq])
  refine Ow.nilM ⟨nofun, ?_⟩
  refine Cw.seq (Cw.seq (Cw.region ?_))
  iterate 4 (refine Ow.popM rfl ?_; simp only [S0, Nat.reduceEqDiff, Nat.reduceAdd, reduceIte, reduceCtorEq])
  by_cases hn : la.length = lb.length
  · rw [← hn] at hb ⊢
    (refine Ow.popM rfl ?_; simp only [S0, Nat.reduceEqDiff, Nat.reduceAdd, reduceIte, reduceCtorEq, ne_false])
    refine Ow.nilM ⟨nofun, ?_⟩
    refine Cw.cond (t := false) (by simp only [S0, Nat.reduceEqDiff, Nat.reduceAdd, reduceIte, reduceCtorEq]) ?_
    refine Cw.skip ?_
    refine Cw.seq (Cw.seq (Cw.region ?_))
    (refine Ow.popM rfl ?_; simp only [S0, Nat.reduceEqDiff, Nat.reduceAdd, reduceIte, reduceCtorEq])
    refine Ow.nilM ⟨nofun, ?_⟩
    refine Cw.block (Cw.loopI la.length (fun k E H2 => (E.get 0 = some (.slice aa la.length ca) ∧ E.get 1 = some (.slice ab la.length cb) ∧ E.get 5 = some (.int .i64 (k : Int))) ∧ H2 = H ∧ ∀ i, i < k → bx la i = bx lb i) ⟨?_, rfl, fun i hi => by omega⟩ ?_)
    · simp only [S0, Nat.reduceEqDiff, Nat.reduceAdd, reduceIte, reduceCtorEq]; exact ⟨trivial, trivial, rfl⟩
    rintro k E H2 hk ⟨⟨e0, e1, e5⟩, rfl, hh⟩
    refine Cw.seq (Cw.seq (Cw.region ?_))
    by_cases hlt : k < la.length
    · iterate 4 (refine Ow.popM rfl ?_; simp only [S0, Nat.reduceEqDiff, Nat.reduceAdd, reduceIte, reduceCtorEq, e0, e1, e5, lt_true hlt])
      refine Ow.nilM ⟨nofun, ?_⟩
      refine Cw.cond (t := true) (by simp only [S0, Nat.reduceEqDiff, Nat.reduceAdd, reduceIte, reduceCtorEq]) ?_
      refine Cw.skip ?_
      refine Cw.seq (Cw.block (Cw.seq (Cw.region ?_)))
      obtain ⟨ad, cap, bk, ee, h1, h2, h3⟩ := ha.at (bx_lt hlt)
      simp only [Value.slice.injEq] at ee
      obtain ⟨rfl, -, rfl⟩ := ee
      have hltb : k < lb.length := by omega
      obtain ⟨ad', cap', bk', ee, h1', h2', h3'⟩ := hb.at (bx_lt hltb)
      simp only [Value.slice.injEq] at ee
      obtain ⟨rfl, -, rfl⟩ := ee
      iterate 3 (refine Ow.popM rfl ?_; simp only [S0, Nat.reduceEqDiff, Nat.reduceAdd, reduceIte, reduceCtorEq, e0, e1, e5, ix_ok hlt])
      (refine Ow.hopM rfl rfl ?_; simp only [S0, Nat.reduceEqDiff, Nat.reduceAdd, reduceIte, reduceCtorEq, h2, h3])
      iterate 3 (refine Ow.popM rfl ?_; simp only [S0, Nat.reduceEqDiff, Nat.reduceAdd, reduceIte, reduceCtorEq, e0, e1, e5, ix_ok hlt])
      (refine Ow.hopM rfl rfl ?_; simp only [S0, Nat.reduceEqDiff, Nat.reduceAdd, reduceIte, reduceCtorEq, h2', h3'])
      (refine Ow.popM rfl ?_; simp only [S0, Nat.reduceEqDiff, Nat.reduceAdd, reduceIte, reduceCtorEq])
      refine Ow.nilM ⟨fun _ => by rfl, ?_⟩
      by_cases hb1 : bx la k = bx lb k
      · refine Cw.cond (t := false) (by simp only [S0, Nat.reduceEqDiff, Nat.reduceAdd, reduceIte, reduceCtorEq, hb1, bne_self_eq_false]) ?_
        refine Cw.skip ?_
        show Cw _ _ _ _ _
        refine Cw.region ?_
        iterate 3 (refine Ow.popM rfl ?_; simp only [S0, Nat.reduceEqDiff, Nat.reduceAdd, reduceIte, reduceCtorEq, e5, fw_succ (show k < 2 ^ 62 by omega)])
        refine Ow.nilM ⟨nofun, hlt, ?_, rfl, ?_⟩
        · simp only [S0, Nat.reduceEqDiff, Nat.reduceAdd, reduceIte, reduceCtorEq, e0, e1, and_self]
        · intro i hi
          by_cases hik : i = k
          · subst hik; exact hb1
          · exact hh i (by omega)
      · refine Cw.cond (t := true) (by simp only [S0, Nat.reduceEqDiff, Nat.reduceAdd, reduceIte, reduceCtorEq]; simpa using hb1) ?_
        refine Cw.seq (Cw.region ?_)
        (refine Ow.popM rfl ?_; simp only [S0, Nat.reduceEqDiff, Nat.reduceAdd, reduceIte, reduceCtorEq])
        refine Ow.nilM ⟨nofun, ?_⟩
        refine Cw.ret ?_
        simp only [Then, InBlock, Rnd, FnPost, resOf, tupled, S0, Nat.reduceEqDiff, Nat.reduceAdd, reduceIte, reduceCtorEq]
        have : decide (la = lb) = false := by
          rw [decide_eq_false_iff_not]
          rintro rfl
          exact hb1 rfl
        simp only [this, and_self]
    · obtain rfl : k = la.length := by omega
      iterate 4 (refine Ow.popM rfl ?_; simp only [S0, Nat.reduceEqDiff, Nat.reduceAdd, reduceIte, reduceCtorEq, e0, e1, e5, lt_false (Nat.lt_irrefl la.length)])
      refine Ow.nilM ⟨nofun, ?_⟩
      refine Cw.cond (t := false) (by simp only [S0, Nat.reduceEqDiff, Nat.reduceAdd, reduceIte, reduceCtorEq]) ?_
      refine Cw.exit ?_
      show Cw _ _ _ _ _
      refine Cw.seq (Cw.region ?_)
      (refine Ow.popM rfl ?_; simp only [S0, Nat.reduceEqDiff, Nat.reduceAdd, reduceIte, reduceCtorEq])
      refine Ow.nilM ⟨nofun, ?_⟩
      refine Cw.ret ?_
      simp only [Then, InBlock, Rnd, FnPost, resOf, tupled, S0, Nat.reduceEqDiff, Nat.reduceAdd, reduceIte, reduceCtorEq]
      have : decide (la = lb) = true := by
        rw [decide_eq_true_iff]
        exact ext_bits hn hh
      simp only [this, and_self]
  · (refine Ow.popM rfl ?_; simp only [S0, Nat.reduceEqDiff, Nat.reduceAdd, reduceIte, reduceCtorEq, ne_true hn])
    refine Ow.nilM ⟨nofun, ?_⟩
    refine Cw.cond (t := true) (by simp only [S0, Nat.reduceEqDiff, Nat.reduceAdd, reduceIte, reduceCtorEq]) ?_
    refine Cw.seq (Cw.region ?_)
    (refine Ow.popM rfl ?_; simp only [S0, Nat.reduceEqDiff, Nat.reduceAdd, reduceIte, reduceCtorEq])
    refine Ow.nilM ⟨nofun, ?_⟩
    refine Cw.ret ?_
    simp only [Then, InBlock, Rnd, FnPost, resOf, tupled, S0, Nat.reduceEqDiff, Nat.reduceAdd, reduceIte, reduceCtorEq]
    have : decide (la = lb) = false := by
      rw [decide_eq_false_iff_not]
      rintro rfl
      exact hn rfl
    simp only [this, and_self]
theorem ge0_true (n : Nat) : decide ((n : Int) ≥ 0) = true := by simp
/-- At, at an index that is not negative -/
theorem At_any (hx : Ext0 ext) {H : AH} {v : Value} {l : List Bool} {n : Nat} (hv : IsB H v l) : Run (Cx ext) 60 [v, .int .i64 n] H fun r H' => H' = H ∧ r = .bool (bx l n) := by
  refine Run.intro (fi := IR.fi60) (hx 60 (by decide)) (by kernel_rfl) ?_
  unfold IR.fi60
  simp only [envOf_cons, envOf_nil]
  refine Cw.seq (Cw.region ?_)
  (refine Ow.popM rfl ?_; simp only [S0, Nat.reduceEqDiff, Nat.reduceAdd, reduceIte, reduceCtorEq])
  refine Ow.nilM ⟨nofun, ?_⟩
  refine Cw.seq (Cw.region ?_)
  by_cases hlt : n < l.length
  · obtain ⟨ad, cap, bk, rfl, h1, h2, h3⟩ := hv.at (bx_lt hlt)
    iterate 12 (refine Ow.popM rfl ?_; simp only [S0, Nat.reduceEqDiff, Nat.reduceAdd, reduceIte, reduceCtorEq, ge0_true n, lt_true hlt, ix_ok hlt])
    (refine Ow.hopM rfl rfl ?_; simp only [S0, Nat.reduceEqDiff, Nat.reduceAdd, reduceIte, reduceCtorEq, h2, h3])
    iterate 2 (refine Ow.popM rfl ?_; simp only [S0, Nat.reduceEqDiff, Nat.reduceAdd, reduceIte, reduceCtorEq])
    refine Ow.nilM ⟨nofun, ?_⟩
    refine Cw.ret ?_
    simp only [Then, InBlock, Rnd, FnPost, resOf, tupled, S0, Nat.reduceEqDiff, Nat.reduceAdd, reduceIte, reduceCtorEq, and_self]
  · obtain ⟨a, cap, rfl⟩ := hv.shape
    iterate 12 (refine Ow.popM rfl ?_; simp only [S0, Nat.reduceEqDiff, Nat.reduceAdd, reduceIte, reduceCtorEq, ge0_true n, lt_false hlt])
    (refine Ow.hopM rfl rfl ?_; simp only [S0, Nat.reduceEqDiff, Nat.reduceAdd, reduceIte, reduceCtorEq])
    iterate 2 (refine Ow.popM rfl ?_; simp only [S0, Nat.reduceEqDiff, Nat.reduceAdd, reduceIte, reduceCtorEq])
    refine Ow.nilM ⟨nofun, ?_⟩
    refine Cw.ret ?_
    simp only [Then, InBlock, Rnd, FnPost, resOf, tupled, S0, Nat.reduceEqDiff, Nat.reduceAdd, reduceIte, reduceCtorEq, bx_ge hlt, and_self]
theorem ofN_succ (n x : Nat) : ofN (n + 1) x = ofN n x ++ [x.testBit n] := by simp [ofN, List.range_succ]
/-- A slice literal of one bool. -/
theorem lit1 {H : AH} (b : Bool) : IsB (H.new ⟨[.bool b], 0⟩) (.slice (some ⟨H.n, 0, none⟩) 1 1) [b] :=
  ⟨_, _, rfl, .inr (Nat.le_refl _), fun _ => ⟨_, ⟨[.bool b], 0⟩, rfl, Nat.lt_succ_self _, T.get_set_self _ _ _, fun i c hc => by
    cases i with
    | zero => simpa using hc
    | succ i => simp at hc⟩⟩
/-- Fit -/
theorem Fit_any (hx : Ext0 ext) {H : AH} {v : Value} {l : List Bool} {n : Nat} (hv : IsB H v l) (hn : n < 2 ^ 34) :
    Run (Cx ext) 31 [v, .int .i64 n] H fun r H' => AL.Ext H H' ∧ IsG H H' r (ofN n (val l)) := by
  refine Run.intro (fi := IR.fi31) (hx 31 (by decide)) (by kernel_rfl) ?_
  unfold IR.fi31
  simp only [envOf_cons, envOf_nil]
  refine Cw.seq (Cw.region ?_)
  (refine Ow.popM rfl ?_; simp only [S0, Nat.reduceEqDiff, Nat.reduceAdd, reduceIte, reduceCtorEq])
  refine Ow.nilM ⟨nofun, ?_⟩
  refine Cw.seq (Cw.region ?_)
  (refine Ow.popM rfl ?_; simp only [S0, Nat.reduceEqDiff, Nat.reduceAdd, reduceIte, reduceCtorEq])
  refine Ow.nilM ⟨nofun, ?_⟩
  refine Cw.seq (Cw.seq (Cw.region ?_))
  (refine Ow.popM rfl ?_; simp only [S0, Nat.reduceEqDiff, Nat.reduceAdd, reduceIte, reduceCtorEq])
  refine Ow.nilM ⟨nofun, ?_⟩
  refine Cw.block (Cw.loopI n (fun k E H2 => (E.get 0 = some v ∧ E.get 1 = some (.int .i64 (n : Int)) ∧ E.get 6 = some (.int .i64 (k : Int))) ∧ AL.Ext H H2 ∧ ∃ u, E.get 5 = some u ∧ IsG H H2 u (ofN k (val l))) ⟨?_, AL.Ext.refl _, _, by simp only [S0, Nat.reduceEqDiff, Nat.reduceAdd, reduceIte, reduceCtorEq], .inl ⟨rfl, by simp [ofN]⟩⟩ ?_)
  · simp only [S0, Nat.reduceEqDiff, Nat.reduceAdd, reduceIte, reduceCtorEq]; exact ⟨trivial, trivial, rfl⟩
  rintro k E H2 hk ⟨⟨e0, e1, e6⟩, hxt, u, e5, hu⟩
  refine Cw.seq (Cw.seq (Cw.region ?_))
  by_cases hlt : k < n
  · iterate 3 (refine Ow.popM rfl ?_; simp only [S0, Nat.reduceEqDiff, Nat.reduceAdd, reduceIte, reduceCtorEq, e1, e6, lt_true hlt])
    refine Ow.nilM ⟨nofun, ?_⟩
    refine Cw.cond (t := true) (by simp only [S0, Nat.reduceEqDiff, Nat.reduceAdd, reduceIte, reduceCtorEq]) ?_
    refine Cw.skip ?_
    refine Cw.seq (Cw.block (Cw.region ?_))
    iterate 3 (refine Ow.popM rfl ?_; simp only [S0, Nat.reduceEqDiff, Nat.reduceAdd, reduceIte, reduceCtorEq, e0, e5, e6])
    refine Ow.callE (k := 60) (fs := []) (cs := []) (vs := [v, .int .i64 k]) (R := fun r H' => H' = { H2 with wl := H2.n } ∧ r = .bool (bx l k)) rfl rfl (by simp only [S0, Nat.reduceEqDiff, Nat.reduceAdd, reduceIte, reduceCtorEq]) ((At_any hx ((hv.ext hxt).wl)).mono fun r H' hr => ⟨by rw [hr.1]; exact AL.Ext.refl _, hr⟩) ?_
    rintro w H3 wl hx3 ⟨rfl, rfl⟩
    (refine Ow.hopM rfl rfl ?_; simp only [S0, Nat.reduceEqDiff, Nat.reduceAdd, reduceIte, reduceCtorEq, S2, show Nat.ble 1 1 = true from rfl])
    have hx4 : AL.Ext H (({ H2 with wl := wl } : AH).new ⟨[.bool (bx l k)], 0⟩) := (hxt.trans hx3).new _
    have hu4 : IsG H (({ H2 with wl := wl } : AH).new ⟨[.bool (bx l k)], 0⟩) u (ofN k (val l)) := hu.ext (hx3.new _)
    refine Ow.appB (H0 := H) rfl (by simp only [S0, Nat.reduceEqDiff, Nat.reduceAdd, reduceIte, reduceCtorEq]) (by simp only [S0, Nat.reduceEqDiff, Nat.reduceAdd, reduceIte, reduceCtorEq]) hu4 (lit1 _) hx4 (by simp [ofN_length]; omega) ?_
    intro r H4 b hx5 hr
    (refine Ow.popM rfl ?_; simp only [S0, Nat.reduceEqDiff, Nat.reduceAdd, reduceIte, reduceCtorEq])
    refine Ow.nilM ⟨nofun, ?_⟩
    show Cw _ _ _ _ _
    refine Cw.region ?_
    iterate 3 (refine Ow.popM rfl ?_; simp only [S0, Nat.reduceEqDiff, Nat.reduceAdd, reduceIte, reduceCtorEq, e6, fw_succ (show k < 2 ^ 62 by omega)])
    refine Ow.nilM ⟨nofun, hlt, ?_, hx5, r, ?_, ?_⟩
    · simp only [S0, Nat.reduceEqDiff, Nat.reduceAdd, reduceIte, reduceCtorEq, e0, e1, and_self]
    · simp only [S0, Nat.reduceEqDiff, Nat.reduceAdd, reduceIte, reduceCtorEq]
    · rw [ofN_succ, val_bit]; exact hr
  · obtain rfl : k = n := by omega
    iterate 3 (refine Ow.popM rfl ?_; simp only [S0, Nat.reduceEqDiff, Nat.reduceAdd, reduceIte, reduceCtorEq, e1, e6, lt_false (Nat.lt_irrefl k)])
    refine Ow.nilM ⟨nofun, ?_⟩
    refine Cw.cond (t := false) (by simp only [S0, Nat.reduceEqDiff, Nat.reduceAdd, reduceIte, reduceCtorEq]) ?_
    refine Cw.exit ?_
    show Cw _ _ _ _ _
    refine Cw.seq (Cw.region ?_)
    iterate 2 (refine Ow.popM rfl ?_; simp only [S0, Nat.reduceEqDiff, Nat.reduceAdd, reduceIte, reduceCtorEq, e5])
    refine Ow.nilM ⟨nofun, ?_⟩
    refine Cw.ret ?_
    simp only [Then, InBlock, Rnd, FnPost, resOf, tupled, S0, Nat.reduceEqDiff, Nat.reduceAdd, reduceIte, reduceCtorEq]
    exact ⟨hxt, hu⟩
end Go.Proofs.Yteeckncfllbokaa.X
