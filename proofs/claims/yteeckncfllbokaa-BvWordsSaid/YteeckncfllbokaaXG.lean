/- Products and powers. -/
import Derived.Test.YteeckncfllbokaaXE
set_option linter.unusedSimpArgs false
set_option linter.unusedVariables false
namespace Go.Proofs.Yteeckncfllbokaa.X
open Go Go.AL
variable {ext : Nat → Option (List Value → AH → Option (Value × AH))}
theorem mod_step {B k : Nat} : B % 2 ^ (k + 1) = B % 2 ^ k + (if B.testBit k then 2 ^ k else 0) := by
  rw [Nat.mod_pow_succ, Nat.testBit_eq_decide_div_mod_eq]
  rcases Nat.mod_two_eq_zero_or_one (B / 2 ^ k) with h | h <;> rw [h] <;> simp
theorem min_nat (a b : Nat) : (if (b : Int) < (a : Int) then (b : Int) else (a : Int)) = ((min a b : Nat) : Int) := by split <;> omega
/-- bv.Mul -/
theorem mul_any (hx : Ext0 ext) {H : AH} {va vb : Value} {la lb : List Bool} (ha : IsB H va la) (hb : IsB H vb lb) (hl : la.length < 2 ^ 36) :
    Run (Cx ext) 26 [va, vb] H fun r H' => AL.Ext H H' ∧ ∃ id, H.n ≤ id ∧ IsM H' r (ofN la.length (val la * val lb)) id := by
  refine Run.intro (fi := IR.fi26) (hx 26 (by decide)) (by kernel_rfl) ?_
  unfold IR.fi26
  simp only [envOf_cons, envOf_nil]
  obtain ⟨aa, ca, ea⟩ := ha.shape
  obtain ⟨ab, cb, eb⟩ := hb.shape
  subst ea
  subst eb
  refine Cw.seq (Cw.region ?_)
  (refine Ow.popM rfl ?_; simp only [S0, Nat.reduceEqDiff, Nat.reduceAdd, reduceIte, reduceCtorEq])
  refine Ow.nilM ⟨nofun, ?_⟩
  refine Cw.seq (Cw.region ?_)
  iterate 2 (refine Ow.popM rfl ?_; simp only [S0, Nat.reduceEqDiff, Nat.reduceAdd, reduceIte, reduceCtorEq])
  refine Ow.makeB (k := .i64) (n := la.length) rfl (by simp only [S0, Nat.reduceEqDiff, Nat.reduceAdd, reduceIte, reduceCtorEq]) (by omega) ?_
  (refine Ow.popM rfl ?_; simp only [S0, Nat.reduceEqDiff, Nat.reduceAdd, reduceIte, reduceCtorEq])
  refine Ow.nilM ⟨nofun, ?_⟩
  refine Cw.seq (Cw.seq (Cw.region ?_))
  iterate 6 (refine Ow.popM rfl ?_; simp only [S0, Nat.reduceEqDiff, Nat.reduceAdd, reduceIte, reduceCtorEq, AL.foldV, amin2, min_nat])
  refine Ow.nilM ⟨nofun, ?_⟩
  refine Cw.block (Cw.loopI (min la.length lb.length) (fun k E H2 => (E.get 0 = some (.slice aa la.length ca) ∧ E.get 1 = some (.slice ab lb.length cb) ∧ E.get 14 = some (.int .i64 ((min la.length lb.length : Nat) : Int)) ∧ E.get 15 = some (.int .i64 (k : Int))) ∧ AL.Ext H H2 ∧ ∃ u id, E.get 5 = some u ∧ H.n ≤ id ∧ IsM H2 u (ofN la.length (val la * (val lb % 2 ^ k))) id) ⟨?_, (AL.Ext.refl _).new _, .slice (some ⟨H.n, 0, none⟩) la.length la.length, H.n, by simp only [S0, Nat.reduceEqDiff, Nat.reduceAdd, reduceIte, reduceCtorEq], Nat.le_refl _, by rw [ofN_length], Nat.lt_succ_self _, ?_⟩ ?_)
  · simp only [S0, Nat.reduceEqDiff, Nat.reduceAdd, reduceIte, reduceCtorEq]; exact ⟨trivial, trivial, trivial, rfl⟩
  · have e := big_zero la.length la.length 0 (Nat.le_refl _)
    simp only [Nat.zero_mul] at e
    rw [Nat.pow_zero, Nat.mod_one, Nat.mul_zero, ← e]
    exact T.get_set_self _ _ _
  rintro k E H2 hk ⟨⟨e0, e1, e14, e15⟩, hxt, u, id, e5, hid, hu⟩
  refine Cw.seq (Cw.region ?_)
  by_cases hlt : k < min la.length lb.length
  · (refine Ow.popM rfl ?_; simp only [S0, Nat.reduceEqDiff, Nat.reduceAdd, reduceIte, reduceCtorEq, e14, e15, lt_true hlt])
    refine Ow.nilM ⟨nofun, ?_⟩
    refine Cw.seq (Cw.cond (t := true) (by simp only [S0, Nat.reduceEqDiff, Nat.reduceAdd, reduceIte, reduceCtorEq]) ?_)
    refine Cw.skip ?_
    refine Cw.seq (Cw.block (Cw.seq (Cw.region ?_)))
    iterate 2 (refine Ow.popM rfl ?_; simp only [S0, Nat.reduceEqDiff, Nat.reduceAdd, reduceIte, reduceCtorEq, e15])
    refine Ow.nilM ⟨nofun, ?_⟩
    have hltb : k < lb.length := by omega
    obtain ⟨ad, cap, bk, ee, h1, h2, h3⟩ := (hb.ext hxt).at (bx_lt hltb)
    simp only [Value.slice.injEq] at ee
    obtain ⟨rfl, -, rfl⟩ := ee
    refine Cw.seq (Cw.region ?_)
    iterate 3 (refine Ow.popM rfl ?_; simp only [S0, Nat.reduceEqDiff, Nat.reduceAdd, reduceIte, reduceCtorEq, e1, ix_ok hltb])
    (refine Ow.hopM rfl rfl ?_; simp only [S0, Nat.reduceEqDiff, Nat.reduceAdd, reduceIte, reduceCtorEq, h2, h3])
    refine Ow.nilM ⟨nofun, ?_⟩
    have hstep := mod_step (B := val lb) (k := k)
    rw [val_bit] at hstep
    cases hbit : bx lb k with
    | true =>
      rw [hbit] at hstep
      refine Cw.cond (t := true) (by simp only [S0, Nat.reduceEqDiff, Nat.reduceAdd, reduceIte, reduceCtorEq, hbit]) ?_
      refine Cw.region ?_
      iterate 3 (refine Ow.popM rfl ?_; simp only [S0, Nat.reduceEqDiff, Nat.reduceAdd, reduceIte, reduceCtorEq, e0, e5])
      refine Ow.callE (k := 34) (fs := []) (cs := []) (vs := [.slice aa la.length ca, .int .i64 k]) rfl rfl (by simp only [S0, Nat.reduceEqDiff, Nat.reduceAdd, reduceIte, reduceCtorEq]) (shl_any hx ((ha.ext hxt).wl) hl) ?_
      rintro v H3 w hx3 ⟨id3, hid3, hv⟩
      simp only [Int.toNat_natCast] at hv
      have hu3 : IsB { H3 with wl := w } u _ := hu.isB.ext hx3
      have hv3 : IsB { H3 with wl := w } v _ := hv.isB
      refine Ow.callE (k := 25) (fs := []) (cs := []) (vs := [u, v]) rfl rfl (by simp only [S0, Nat.reduceEqDiff, Nat.reduceAdd, reduceIte, reduceCtorEq]) (add_any hx hu3.wl hv3.wl (by rw [ofN_length]; exact hl)) ?_
      rintro v4 H4 w4 hx4 ⟨id4, hid4, hv4⟩
      (refine Ow.popM rfl ?_; simp only [S0, Nat.reduceEqDiff, Nat.reduceAdd, reduceIte, reduceCtorEq])
      refine Ow.nilM ⟨nofun, ?_⟩
      show Cw _ _ _ _ _
      refine Cw.region ?_
      iterate 2 (refine Ow.popM rfl ?_; simp only [S0, Nat.reduceEqDiff, Nat.reduceAdd, reduceIte, reduceCtorEq, e15, fw_succ (show k < 2 ^ 62 by omega)])
      refine Ow.nilM ⟨nofun, hlt, ?_, (hxt.trans hx3).trans hx4, v4, id4, ?_, ?_, ?_⟩
      · simp only [S0, Nat.reduceEqDiff, Nat.reduceAdd, reduceIte, reduceCtorEq, e0, e1, e14, and_self]
      · simp only [S0, Nat.reduceEqDiff, Nat.reduceAdd, reduceIte, reduceCtorEq]
      · have := hxt.n
        have := hx3.n
        have : H2.n ≤ H3.n := this
        have : H3.n ≤ id4 := hid4
        omega
      · rw [ofN_length, val_ofN, val_ofN] at hv4
        have : ofN la.length (val la * (val lb % 2 ^ (k + 1))) = ofN la.length (val la * (val lb % 2 ^ k) % 2 ^ la.length + val la * 2 ^ k % 2 ^ la.length) := by
          refine ofN_eq ?_
          rw [← Nat.add_mod, hstep, if_pos rfl, Nat.mul_add]
        rw [this]
        exact hv4
    | false =>
      rw [hbit] at hstep
      refine Cw.cond (t := false) (by simp only [S0, Nat.reduceEqDiff, Nat.reduceAdd, reduceIte, reduceCtorEq, hbit]) ?_
      refine Cw.skip ?_
      show Cw _ _ _ _ _
      refine Cw.region ?_
      iterate 2 (refine Ow.popM rfl ?_; simp only [S0, Nat.reduceEqDiff, Nat.reduceAdd, reduceIte, reduceCtorEq, e15, fw_succ (show k < 2 ^ 62 by omega)])
      refine Ow.nilM ⟨nofun, hlt, ?_, hxt, u, id, ?_, hid, ?_⟩
      · simp only [S0, Nat.reduceEqDiff, Nat.reduceAdd, reduceIte, reduceCtorEq, e0, e1, e14, and_self]
      · simp only [S0, Nat.reduceEqDiff, Nat.reduceAdd, reduceIte, reduceCtorEq, e5]
      · have e : val lb % 2 ^ (k + 1) = val lb % 2 ^ k := by rw [hstep]; simp
        rw [e]; exact hu
  · obtain rfl : k = min la.length lb.length := by omega
    (refine Ow.popM rfl ?_; simp only [S0, Nat.reduceEqDiff, Nat.reduceAdd, reduceIte, reduceCtorEq, e14, e15, lt_false (Nat.lt_irrefl (min la.length lb.length))])
    refine Ow.nilM ⟨nofun, ?_⟩
    refine Cw.seq (Cw.cond (t := false) (by simp only [S0, Nat.reduceEqDiff, Nat.reduceAdd, reduceIte, reduceCtorEq]) ?_)
    refine Cw.exit ?_
    show Cw _ _ _ _ _
    refine Cw.seq (Cw.region ?_)
    iterate 2 (refine Ow.popM rfl ?_; simp only [S0, Nat.reduceEqDiff, Nat.reduceAdd, reduceIte, reduceCtorEq, e5])
    refine Ow.nilM ⟨nofun, ?_⟩
    refine Cw.ret ?_
    simp only [Then, InBlock, Rnd, FnPost, resOf, tupled, S0, Nat.reduceEqDiff, Nat.reduceAdd, reduceIte, reduceCtorEq]
    refine ⟨hxt, id, hid, ?_⟩
    have : ofN la.length (val la * val lb) = ofN la.length (val la * (val lb % 2 ^ min la.length lb.length)) := by
      by_cases h : la.length ≤ lb.length
      · rw [Nat.min_eq_left h]
        refine ofN_eq ?_
        rw [Nat.mul_mod, Nat.mul_mod (val la) (val lb % _), Nat.mod_mod]
      · rw [Nat.min_eq_right (by omega), Nat.mod_eq_of_lt (val_lt lb)]
    rw [this]
    exact hu
/-- bv.Neg -/
theorem neg_any (hx : Ext0 ext) {H : AH} {va : Value} {la : List Bool} (ha : IsB H va la) (hl : la.length < 2 ^ 36) :
    Run (Cx ext) 28 [va] H fun r H' => AL.Ext H H' ∧ ∃ id, H.n ≤ id ∧ IsM H' r (ofN la.length (2 ^ la.length - val la % 2 ^ la.length)) id := by
  refine Run.intro (fi := IR.fi28) (hx 28 (by decide)) (by kernel_rfl) ?_
  unfold IR.fi28
  simp only [envOf_cons, envOf_nil]
  obtain ⟨aa, ca, ea⟩ := ha.shape
  subst ea
  refine Cw.seq (Cw.region ?_)
  (refine Ow.popM rfl ?_; simp only [S0, Nat.reduceEqDiff, Nat.reduceAdd, reduceIte, reduceCtorEq])
  refine Ow.nilM ⟨nofun, ?_⟩
  refine Cw.seq (Cw.region ?_)
  iterate 2 (refine Ow.popM rfl ?_; simp only [S0, Nat.reduceEqDiff, Nat.reduceAdd, reduceIte, reduceCtorEq])
  refine Ow.makeB (k := .i64) (n := la.length) rfl (by simp only [S0, Nat.reduceEqDiff, Nat.reduceAdd, reduceIte, reduceCtorEq]) (by omega) ?_
  have hx1 : AL.Ext H (H.new ⟨(List.replicate la.length false).map .bool, 0⟩) := (AL.Ext.refl _).new _
  have hm : IsM (H.new ⟨(List.replicate la.length false).map .bool, 0⟩) (.slice (some ⟨H.n, 0, none⟩) la.length la.length) (List.replicate la.length false) H.n := ⟨by rw [List.length_replicate], Nat.lt_succ_self _, T.get_set_self _ _ _⟩
  have e := big_zero la.length la.length 0 (Nat.le_refl _)
  simp only [Nat.zero_mul] at e
  (refine Ow.popM rfl ?_; simp only [S0, Nat.reduceEqDiff, Nat.reduceAdd, reduceIte, reduceCtorEq])
  refine Ow.callE (k := 27) (fs := []) (cs := []) (vs := [.slice (some ⟨H.n, 0, none⟩) la.length la.length, .slice aa la.length ca]) rfl rfl (by simp only [S0, Nat.reduceEqDiff, Nat.reduceAdd, reduceIte, reduceCtorEq]) (sub_any hx hm.isB.wl ((ha.ext hx1).wl) (by rw [List.length_replicate]; exact hl)) ?_
  rintro v H3 w hx3 ⟨id3, hid3, hv⟩
  (refine Ow.popM rfl ?_; simp only [S0, Nat.reduceEqDiff, Nat.reduceAdd, reduceIte, reduceCtorEq])
  refine Ow.nilM ⟨nofun, ?_⟩
  refine Cw.ret ?_
  simp only [Then, InBlock, Rnd, FnPost, resOf, tupled, S0, Nat.reduceEqDiff, Nat.reduceAdd, reduceIte, reduceCtorEq]
  rw [List.length_replicate, e, val_ofN, Nat.zero_mod, Nat.zero_add] at hv
  refine ⟨hx1.trans hx3, id3, ?_, hv⟩
  have : H.n + 1 ≤ id3 := hid3
  omega
end Go.Proofs.Yteeckncfllbokaa.X
