/- Trim. -/
import Derived.Test.YteeckncfllbokaaXV
set_option linter.unusedSimpArgs false
set_option linter.unusedVariables false
namespace Go.Proofs.Yteeckncfllbokaa.X
open Go Go.AL
variable {ext : Nat → Option (List Value → AH → Option (Value × AH))}
theorem lt_half {A n : Nat} (h : A < 2 ^ (n + 1)) (hb : A.testBit n = false) : A < 2 ^ n := by
  rw [Nat.testBit_eq_decide_div_mod_eq, decide_eq_false_iff_not] at hb
  rcases Nat.lt_or_ge A (2 ^ n) with h1 | h1
  · exact h1
  · have e : A / 2 ^ n = 1 := Nat.div_eq_of_lt_le (by omega) (by rw [Nat.pow_succ] at h; omega)
    rw [e] at hb
    exact absurd rfl hb
theorem take_ofN {l : List Bool} {n : Nat} (hn : n ≤ l.length) : l.take n = ofN n (val l) := by
  refine ext_bits (by rw [ofN_length, List.length_take]; omega) (fun i hi => ?_)
  have hi' : i < n := by rw [List.length_take] at hi; omega
  rw [bx_ofN, val_bit]
  simp [bx, List.getD_eq_getElem?_getD, List.getElem?_take, hi']
/-- Trim: the number without leading zeros. -/
theorem trim_any (hx : Ext0 ext) {H : AH} {v : Value} {l : List Bool} (hv : IsB H v l) (hl : l.length < 2 ^ 35) :
    Run (Cx ext) 53 [v] H fun r H' => AL.Ext H H' ∧ ∃ n, n ≤ l.length ∧ IsR H H' r (ofN n (val l)) ∧ val l < 2 ^ n ∧ (n = 0 ∨ 2 ^ (n - 1) ≤ val l) := by
  refine Run.intro (fi := IR.fi53) (hx 53 (by decide)) (by kernel_rfl) ?_
  unfold IR.fi53
  simp only [envOf_cons, envOf_nil]
  obtain ⟨aa, ca, ea⟩ := hv.shape
  subst ea
  refine Cw.seq (Cw.region ?_)
  (refine Ow.popM rfl ?_; simp only [S0, Nat.reduceEqDiff, Nat.reduceAdd, reduceIte, reduceCtorEq])
  refine Ow.nilM ⟨nofun, ?_⟩
  refine Cw.seq (Cw.region ?_)
  iterate 3 (refine Ow.popM rfl ?_; simp only [S0, Nat.reduceEqDiff, Nat.reduceAdd, reduceIte, reduceCtorEq])
  refine Ow.nilM ⟨nofun, ?_⟩
  -- the end, at n
  have fin : ∀ E H2 n, E.get 0 = some (.slice aa l.length ca) → E.get 3 = some (.int .i64 (n : Int)) → AL.Ext H H2 → n ≤ l.length → val l < 2 ^ n → (n = 0 ∨ 2 ^ (n - 1) ≤ val l) →
      Cw (Cx ext) (match IR.fi53.code with | .seq _ (.seq _ (.seq _ r)) => r | _ => .skip) E H2 (FnPost [.tmp 2] fun r H' => AL.Ext H H' ∧ ∃ n, n ≤ l.length ∧ IsR H H' r (ofN n (val l)) ∧ val l < 2 ^ n ∧ (n = 0 ∨ 2 ^ (n - 1) ≤ val l)) := by
    intro E H2 n e0 e3 hx2 hn h1 h2
    unfold IR.fi53
    refine Cw.seq (Cw.region ?_)
    (refine Ow.hopM rfl rfl ?_; simp only [S0, Nat.reduceEqDiff, Nat.reduceAdd, reduceIte, reduceCtorEq, AL.fillParts])
    have hx0 := (AL.Ext.refl H2).new (⟨[], 0⟩ : Blk)
    have hM : IsM (H2.new ⟨[], 0⟩) (.slice (some ⟨H2.n, 0, none⟩) 0 0) [] H2.n := ⟨rfl, Nat.lt_succ_self _, T.get_set_self _ _ _⟩
    obtain ⟨v', hv', hcut⟩ := cut_hi ((hv.ext hx2).ext hx0) hn
    iterate 2 (refine Ow.popM rfl ?_; simp only [S0, Nat.reduceEqDiff, Nat.reduceAdd, reduceIte, reduceCtorEq, e0, e3])
    (refine Ow.popM rfl ?_; simp only [S0, Nat.reduceEqDiff, Nat.reduceAdd, reduceIte, reduceCtorEq, evo, hv', show Nat.beq 1 0 = false from rfl])
    refine Ow.appX (H0 := H) rfl (by simp only [S0, Nat.reduceEqDiff, Nat.reduceAdd, reduceIte, reduceCtorEq]) (by simp only [S0, Nat.reduceEqDiff, Nat.reduceAdd, reduceIte, reduceCtorEq]) hM hx2.n hcut (by simp [List.length_take]; omega) ?_
    intro r H3 w3 hx3 hr
    (refine Ow.popM rfl ?_; simp only [S0, Nat.reduceEqDiff, Nat.reduceAdd, reduceIte, reduceCtorEq])
    refine Ow.nilM ⟨nofun, ?_⟩
    refine Cw.ret ?_
    simp only [Then, InBlock, Rnd, FnPost, resOf, tupled, S0, Nat.reduceEqDiff, Nat.reduceAdd, reduceIte, reduceCtorEq]
    rw [List.nil_append, take_ofN hn] at hr
    exact ⟨(hx2.trans hx0).trans hx3, n, hn, hr, h1, h2⟩
  refine Cw.seq (Cw.block (Cw.loopI l.length (fun k E H2 => (E.get 0 = some (.slice aa l.length ca) ∧ E.get 3 = some (.int .i64 ((l.length - k : Nat) : Int))) ∧ AL.Ext H H2 ∧ val l < 2 ^ (l.length - k)) ⟨?_, AL.Ext.refl _, val_lt l⟩ ?_))
  · simp only [S0, Nat.reduceEqDiff, Nat.reduceAdd, reduceIte, reduceCtorEq]; exact ⟨trivial, rfl⟩
  rintro k E H2 hk ⟨⟨e0, e3⟩, hxt, hval⟩
  refine Cw.seq (Cw.seq (Cw.region ?_))
  by_cases hlt : k < l.length
  · have hn : l.length - k = (l.length - (k + 1)) + 1 := by omega
    rw [hn] at e3 hval
    have hjl : l.length - (k + 1) < l.length := by omega
    generalize hj : l.length - (k + 1) = j at *
    have hjj : (((j + 1 : Nat) : Int) - 1) = (j : Int) := by omega
    obtain ⟨ad, cap, bk, ee, h1, h2, h3⟩ := (hv.ext hxt).at (bx_lt hjl)
    simp only [Value.slice.injEq] at ee
    obtain ⟨rfl, -, rfl⟩ := ee
    iterate 7 (refine Ow.popM rfl ?_; simp only [S0, Nat.reduceEqDiff, Nat.reduceAdd, reduceIte, reduceCtorEq, e0, e3, gt0_true (Nat.succ_pos j), hjj, fw_nat (show j < 2 ^ 63 by omega), ix_ok hjl])
    (refine Ow.hopM rfl rfl ?_; simp only [S0, Nat.reduceEqDiff, Nat.reduceAdd, reduceIte, reduceCtorEq, h2, h3])
    iterate 2 (refine Ow.popM rfl ?_; simp only [S0, Nat.reduceEqDiff, Nat.reduceAdd, reduceIte, reduceCtorEq])
    refine Ow.nilM ⟨nofun, ?_⟩
    have hvb := val_bit l j
    cases hb : bx l j with
    | true =>
      rw [hb] at hvb
      refine Cw.cond (t := false) (by simp only [S0, Nat.reduceEqDiff, Nat.reduceAdd, reduceIte, reduceCtorEq, hb]) ?_
      refine Cw.exit ?_
      show Cw _ _ _ _ _
      refine fin _ _ (j + 1) (by simp only [S0, Nat.reduceEqDiff, Nat.reduceAdd, reduceIte, reduceCtorEq, e0]) (by simp only [S0, Nat.reduceEqDiff, Nat.reduceAdd, reduceIte, reduceCtorEq, e3]) hxt (by omega) hval (.inr ?_)
      rw [Nat.add_sub_cancel]
      exact Nat.ge_two_pow_of_testBit hvb
    | false =>
      rw [hb] at hvb
      refine Cw.cond (t := true) (by simp only [S0, Nat.reduceEqDiff, Nat.reduceAdd, reduceIte, reduceCtorEq, hb]) ?_
      refine Cw.skip ?_
      refine Cw.block (Cw.region ?_)
      iterate 3 (refine Ow.popM rfl ?_; simp only [S0, Nat.reduceEqDiff, Nat.reduceAdd, reduceIte, reduceCtorEq, e3, hjj, fw_nat (show j < 2 ^ 63 by omega)])
      refine Ow.nilM ⟨nofun, hlt, ?_, hxt, ?_⟩
      · simp only [S0, Nat.reduceEqDiff, Nat.reduceAdd, reduceIte, reduceCtorEq, e0, hj, and_self]
      · rw [hj]; exact lt_half hval hvb
  · obtain rfl : k = l.length := by omega
    rw [Nat.sub_self] at e3 hval
    iterate 3 (refine Ow.popM rfl ?_; simp only [S0, Nat.reduceEqDiff, Nat.reduceAdd, reduceIte, reduceCtorEq, e3, show decide (((0 : Nat) : Int) > 0) = false from rfl])
    iterate 6 refine Ow.pass (by simp only [S0, Nat.reduceEqDiff, Nat.reduceAdd, reduceIte, reduceCtorEq]) ?_
    (refine Ow.popM rfl ?_; simp only [S0, Nat.reduceEqDiff, Nat.reduceAdd, reduceIte, reduceCtorEq])
    refine Ow.nilM ⟨nofun, ?_⟩
    refine Cw.cond (t := false) (by simp only [S0, Nat.reduceEqDiff, Nat.reduceAdd, reduceIte, reduceCtorEq]) ?_
    refine Cw.exit ?_
    show Cw _ _ _ _ _
    exact fin _ _ 0 (by simp only [S0, Nat.reduceEqDiff, Nat.reduceAdd, reduceIte, reduceCtorEq, e0]) (by simp only [S0, Nat.reduceEqDiff, Nat.reduceAdd, reduceIte, reduceCtorEq, e3]) hxt (Nat.zero_le _) hval (.inl rfl)
end Go.Proofs.Yteeckncfllbokaa.X
