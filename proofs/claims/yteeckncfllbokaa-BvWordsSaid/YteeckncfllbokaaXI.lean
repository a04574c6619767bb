/- Powers. -/
import Derived.Test.YteeckncfllbokaaXG
set_option linter.unusedSimpArgs false
set_option linter.unusedVariables false
namespace Go.Proofs.Yteeckncfllbokaa.X
open Go Go.AL
variable {ext : Nat → Option (List Value → AH → Option (Value × AH))}
theorem gt0_true {n : Nat} (h : 0 < n) : decide ((n : Int) > 0) = true := by simp; omega
theorem add1 (k : Nat) : (k : Int) + 1 = ((k + 1 : Nat) : Int) := rfl
theorem one_list {n : Nat} (h : 0 < n) : (List.replicate n false).set 0 true = ofN n 1 := by
  refine ext_bits (by simp [ofN_length]) (fun i hi => ?_)
  have hi' : i < n := by simpa using hi
  rw [bx_ofN]
  have h1 : Nat.testBit 1 i = decide (i = 0) := by
    cases i with
    | zero => rfl
    | succ i => rw [Nat.testBit_succ]; simp
  rw [h1]
  by_cases h0 : i = 0
  · subst h0; simp [bx, List.getD_eq_getElem?_getD, h]
  · simp [bx, List.getD_eq_getElem?_getD, h0, hi', List.getElem?_set, show ¬ 0 = i by omega]
theorem ofN_mul {n x y : Nat} : ofN n (x % 2 ^ n * (y % 2 ^ n)) = ofN n (x * y) := ofN_eq (by rw [← Nat.mul_mod])
/-- bv.Pow -/
theorem pow_any (hx : Ext0 ext) {H : AH} {va vb : Value} {la lb : List Bool} (ha : IsB H va la) (hb : IsB H vb lb) (hl : la.length < 2 ^ 36) (hlb : lb.length < 2 ^ 36) :
    Run (Cx ext) 22 [va, vb] H fun r H' => AL.Ext H H' ∧ ∃ id, H.n ≤ id ∧ IsM H' r (ofN la.length (val la ^ val lb)) id := by
  refine Run.intro (fi := IR.fi22) (hx 22 (by decide)) (by kernel_rfl) ?_
  unfold IR.fi22
  simp only [envOf_cons, envOf_nil]
  obtain ⟨aa, ca, ea⟩ := ha.shape
  obtain ⟨ab, cb, eb⟩ := hb.shape
  subst ea
  subst eb
  refine Cw.seq (Cw.region ?_)
  (refine Ow.popM rfl ?_; simp only [S0, Nat.reduceEqDiff, Nat.reduceAdd, reduceIte, reduceCtorEq])
  refine Ow.nilM ⟨nofun, ?_⟩
  refine Cw.seq (Cw.region ?_)
  iterate 2 (refine Ow.popM rfl ?_; simp only [S0, Nat.reduceEqDiff, Nat.reduceAdd, reduceIte, reduceCtorEq])
  refine Ow.makeB (k := .i64) (n := la.length) rfl (by simp only [S0, Nat.reduceEqDiff, Nat.reduceAdd, reduceIte, reduceCtorEq]) (by omega) ?_
  (refine Ow.popM rfl ?_; simp only [S0, Nat.reduceEqDiff, Nat.reduceAdd, reduceIte, reduceCtorEq])
  refine Ow.nilM ⟨nofun, ?_⟩
  have hx1 : AL.Ext H (H.new ⟨(List.replicate la.length false).map .bool, 0⟩) := (AL.Ext.refl _).new _
  -- the rest, from a heap in which out stands for 1
  have rest : ∀ E H1, E.get 0 = some (.slice aa la.length ca) → E.get 1 = some (.slice ab lb.length cb) → E.get 5 = some (.slice (some ⟨H.n, 0, none⟩) la.length la.length) → AL.Ext H H1 → IsM H1 (.slice (some ⟨H.n, 0, none⟩) la.length la.length) (ofN la.length 1) H.n →
      Cw (Cx ext) (match IR.fi22.code with | .seq _ (.seq _ (.seq _ r)) => r | _ => .skip) E H1 (FnPost [.tmp 4] fun r H' => AL.Ext H H' ∧ ∃ id, H.n ≤ id ∧ IsM H' r (ofN la.length (val la ^ val lb)) id) := by
    intro E H1 f0 f1 f5 hx2 hm
    unfold IR.fi22
    refine Cw.seq (Cw.region ?_)
    iterate 2 (refine Ow.popM rfl ?_; simp only [S0, Nat.reduceEqDiff, Nat.reduceAdd, reduceIte, reduceCtorEq, f0])
    refine Ow.nilM ⟨nofun, ?_⟩
    refine Cw.seq (Cw.seq (Cw.region ?_))
    iterate 3 (refine Ow.popM rfl ?_; simp only [S0, Nat.reduceEqDiff, Nat.reduceAdd, reduceIte, reduceCtorEq, f1])
    refine Ow.nilM ⟨nofun, ?_⟩
    refine Cw.block (Cw.loopI lb.length (fun k E H2 => (E.get 1 = some (.slice ab lb.length cb) ∧ E.get 18 = some (.slice ab lb.length cb) ∧ E.get 19 = some (.int .i64 (lb.length : Int)) ∧ E.get 20 = some (.int .i64 (k : Int))) ∧ AL.Ext H H2 ∧ (∃ u id, E.get 5 = some u ∧ H.n ≤ id ∧ IsM H2 u (ofN la.length (val la ^ (val lb % 2 ^ k))) id) ∧ (∃ s, E.get 6 = some s ∧ (k < lb.length → IsB H2 s (ofN la.length (val la ^ 2 ^ k))))) ⟨?_, hx2, ⟨.slice (some ⟨H.n, 0, none⟩) la.length la.length, H.n, by simp only [S0, Nat.reduceEqDiff, Nat.reduceAdd, reduceIte, reduceCtorEq, f5], Nat.le_refl _, by rw [Nat.pow_zero, Nat.mod_one, Nat.pow_zero]; exact hm⟩, .slice aa la.length ca, by simp only [S0, Nat.reduceEqDiff, Nat.reduceAdd, reduceIte, reduceCtorEq], fun _ => by rw [Nat.pow_zero, Nat.pow_one, ofN_val]; exact ha.ext hx2⟩ ?_)
    · simp only [S0, Nat.reduceEqDiff, Nat.reduceAdd, reduceIte, reduceCtorEq, f1]; exact ⟨trivial, trivial, trivial, rfl⟩
    rintro k E H2 hk ⟨⟨e1, e18, e19, e20⟩, hxt, ⟨u, id, e5, hid, hu⟩, s, e6, hs⟩
    refine Cw.seq (Cw.region ?_)
    by_cases hlt : k < lb.length
    · have hs := hs hlt
      (refine Ow.popM rfl ?_; simp only [S0, Nat.reduceEqDiff, Nat.reduceAdd, reduceIte, reduceCtorEq, e19, e20, lt_true hlt])
      refine Ow.nilM ⟨nofun, ?_⟩
      refine Cw.seq (Cw.cond (t := true) (by simp only [S0, Nat.reduceEqDiff, Nat.reduceAdd, reduceIte, reduceCtorEq]) ?_)
      refine Cw.skip ?_
      refine Cw.seq (Cw.block (Cw.seq (Cw.region ?_)))
      obtain ⟨ad, cap, bk, ee, h1, h2, h3⟩ := (hb.ext hxt).at (bx_lt hlt)
      simp only [Value.slice.injEq] at ee
      obtain ⟨rfl, -, rfl⟩ := ee
      iterate 2 (refine Ow.popM rfl ?_; simp only [S0, Nat.reduceEqDiff, Nat.reduceAdd, reduceIte, reduceCtorEq, e18, e20, ix_ok hlt])
      (refine Ow.hopM rfl rfl ?_; simp only [S0, Nat.reduceEqDiff, Nat.reduceAdd, reduceIte, reduceCtorEq, h2, h3])
      iterate 2 (refine Ow.popM rfl ?_; simp only [S0, Nat.reduceEqDiff, Nat.reduceAdd, reduceIte, reduceCtorEq])
      refine Ow.nilM ⟨nofun, ?_⟩
      refine Cw.seq (Cw.seq (Cw.region ?_))
      (refine Ow.popM rfl ?_; simp only [S0, Nat.reduceEqDiff, Nat.reduceAdd, reduceIte, reduceCtorEq])
      refine Ow.nilM ⟨nofun, ?_⟩
      -- the second half, once out is right
      have half : ∀ E H3 u id, E.get 1 = some (.slice (some ad) lb.length cb) → E.get 18 = some (.slice (some ad) lb.length cb) → E.get 19 = some (.int .i64 (lb.length : Int)) → E.get 20 = some (.int .i64 (k : Int)) → E.get 7 = some (.int .i64 (k : Int)) → E.get 5 = some u → E.get 6 = some s → AL.Ext H2 H3 → H.n ≤ id → IsM H3 u (ofN la.length (val la ^ (val lb % 2 ^ (k + 1)))) id →
          Cw (Cx ext) (.seq (.region false [⟨some 29, none, .mov (.tmp 7)⟩, ⟨some 30, none, .bin 0 .add (.tmp 29) (.const (.int .i64 1))⟩, ⟨some 31, none, .mov (.tmp 1)⟩, ⟨some 32, none, .len false (.tmp 31)⟩, ⟨some 33, none, .bin 0 .lss (.tmp 30) (.tmp 32)⟩] [])
            (.cond (.tmp 33) (.region false [⟨some 34, none, .mov (.tmp 6)⟩, ⟨some 35, none, .mov (.tmp 6)⟩, ⟨some 36, none, .call (.func 26) [.tmp 34, .tmp 35]⟩, ⟨some 6, none, .mov (.tmp 36)⟩] []) .skip)) E H3 fun c E4 H4 => c = .normal ∧ (E4.get 1 = some (.slice (some ad) lb.length cb) ∧ E4.get 18 = some (.slice (some ad) lb.length cb) ∧ E4.get 19 = some (.int .i64 (lb.length : Int)) ∧ E4.get 20 = some (.int .i64 (k : Int))) ∧ AL.Ext H H4 ∧ (∃ u id, E4.get 5 = some u ∧ H.n ≤ id ∧ IsM H4 u (ofN la.length (val la ^ (val lb % 2 ^ (k + 1)))) id) ∧ (∃ s, E4.get 6 = some s ∧ (k + 1 < lb.length → IsB H4 s (ofN la.length (val la ^ 2 ^ (k + 1))))) := by
        intro E H3 u id g1 g18 g19 g20 g7 g5 g6 hx3 hid hu
        refine Cw.seq (Cw.region ?_)
        by_cases hl2 : k + 1 < lb.length
        · iterate 5 (refine Ow.popM rfl ?_; simp only [S0, Nat.reduceEqDiff, Nat.reduceAdd, reduceIte, reduceCtorEq, g7, g1, fw_succ (show k < 2 ^ 62 by omega), lt_true hl2])
          refine Ow.nilM ⟨nofun, ?_⟩
          refine Cw.cond (t := true) (by simp only [S0, Nat.reduceEqDiff, Nat.reduceAdd, reduceIte, reduceCtorEq]) ?_
          refine Cw.region ?_
          iterate 2 (refine Ow.popM rfl ?_; simp only [S0, Nat.reduceEqDiff, Nat.reduceAdd, reduceIte, reduceCtorEq, g6])
          have hs3 := hs.ext hx3
          refine Ow.callE (k := 26) (fs := []) (cs := []) (vs := [s, s]) rfl rfl (by simp only [S0, Nat.reduceEqDiff, Nat.reduceAdd, reduceIte, reduceCtorEq]) (mul_any hx hs3.wl hs3.wl (by rw [ofN_length]; exact hl)) ?_
          rintro v H4 w hx4 ⟨id4, hid4, hv⟩
          (refine Ow.popM rfl ?_; simp only [S0, Nat.reduceEqDiff, Nat.reduceAdd, reduceIte, reduceCtorEq])
          refine Ow.nilM ⟨nofun, trivial, ?_, (hxt.trans hx3).trans hx4, ⟨u, id, ?_, hid, ?_⟩, v, ?_, fun _ => ?_⟩
          · simp only [S0, Nat.reduceEqDiff, Nat.reduceAdd, reduceIte, reduceCtorEq, g1, g18, g19, g20, and_self]
          · simp only [S0, Nat.reduceEqDiff, Nat.reduceAdd, reduceIte, reduceCtorEq, g5]
          · obtain ⟨q1, q2, q3⟩ := hu
            exact ⟨q1, Nat.lt_of_lt_of_le q2 hx4.n, by rw [hx4.get _ q2]; exact q3⟩
          · simp only [S0, Nat.reduceEqDiff, Nat.reduceAdd, reduceIte, reduceCtorEq]
          · have := hv.isB
            rw [ofN_length, val_ofN, ofN_mul, ← Nat.pow_add] at this
            rw [show 2 ^ (k + 1) = 2 ^ k + 2 ^ k by rw [Nat.pow_succ]; omega]
            exact this
        · iterate 5 (refine Ow.popM rfl ?_; simp only [S0, Nat.reduceEqDiff, Nat.reduceAdd, reduceIte, reduceCtorEq, g7, g1, fw_succ (show k < 2 ^ 62 by omega), lt_false hl2])
          refine Ow.nilM ⟨nofun, ?_⟩
          refine Cw.cond (t := false) (by simp only [S0, Nat.reduceEqDiff, Nat.reduceAdd, reduceIte, reduceCtorEq]) ?_
          refine Cw.skip ⟨rfl, ?_, hxt.trans hx3, ⟨u, id, ?_, hid, hu⟩, s, ?_, fun h => absurd h hl2⟩
          · simp only [S0, Nat.reduceEqDiff, Nat.reduceAdd, reduceIte, reduceCtorEq, g1, g18, g19, g20, and_self]
          · simp only [S0, Nat.reduceEqDiff, Nat.reduceAdd, reduceIte, reduceCtorEq, g5]
          · simp only [S0, Nat.reduceEqDiff, Nat.reduceAdd, reduceIte, reduceCtorEq, g6]
      have hstep := mod_step (B := val lb) (k := k)
      rw [val_bit] at hstep
      have fin : ∀ (c : Ctl) (E4 : Env) (H4 : AH), (c = .normal ∧ (E4.get 1 = some (.slice (some ad) lb.length cb) ∧ E4.get 18 = some (.slice (some ad) lb.length cb) ∧ E4.get 19 = some (.int .i64 (lb.length : Int)) ∧ E4.get 20 = some (.int .i64 (k : Int))) ∧ AL.Ext H H4 ∧ (∃ u id, E4.get 5 = some u ∧ H.n ≤ id ∧ IsM H4 u (ofN la.length (val la ^ (val lb % 2 ^ (k + 1)))) id) ∧ (∃ s, E4.get 6 = some s ∧ (k + 1 < lb.length → IsB H4 s (ofN la.length (val la ^ 2 ^ (k + 1)))))) →
          c = .normal ∧ Cw (Cx ext) (.region false [⟨some 37, none, .bin 0 .add (.tmp 20) (.const (.int .i64 1))⟩, ⟨some 20, none, .mov (.tmp 37)⟩] []) E4 H4 fun c E5 H5 => c = .normal ∧ k < lb.length ∧ (E5.get 1 = some (.slice (some ad) lb.length cb) ∧ E5.get 18 = some (.slice (some ad) lb.length cb) ∧ E5.get 19 = some (.int .i64 (lb.length : Int)) ∧ E5.get 20 = some (.int .i64 ((k + 1 : Nat) : Int))) ∧ AL.Ext H H5 ∧ (∃ u id, E5.get 5 = some u ∧ H.n ≤ id ∧ IsM H5 u (ofN la.length (val la ^ (val lb % 2 ^ (k + 1)))) id) ∧ (∃ s, E5.get 6 = some s ∧ (k + 1 < lb.length → IsB H5 s (ofN la.length (val la ^ 2 ^ (k + 1))))) := by
        rintro c E4 H4 ⟨rfl, ⟨g1, g18, g19, g20⟩, gx, ⟨u, id, g5, gid, gu⟩, s, g6, gs⟩
        refine ⟨rfl, Cw.region ?_⟩
        iterate 2 (refine Ow.popM rfl ?_; simp only [S0, Nat.reduceEqDiff, Nat.reduceAdd, reduceIte, reduceCtorEq, g20, fw_succ (show k < 2 ^ 62 by omega)])
        refine Ow.nilM ⟨nofun, trivial, hlt, ?_, gx, ⟨u, id, ?_, gid, gu⟩, s, ?_, gs⟩
        · simp only [S0, Nat.reduceEqDiff, Nat.reduceAdd, reduceIte, reduceCtorEq, g1, g18, g19, and_self]
        · simp only [S0, Nat.reduceEqDiff, Nat.reduceAdd, reduceIte, reduceCtorEq, g5]
        · simp only [S0, Nat.reduceEqDiff, Nat.reduceAdd, reduceIte, reduceCtorEq, g6]
      cases hbit : bx lb k with
      | true =>
        rw [hbit] at hstep
        refine Cw.cond (t := true) (by simp only [S0, Nat.reduceEqDiff, Nat.reduceAdd, reduceIte, reduceCtorEq, hbit]) ?_
        refine Cw.region ?_
        iterate 2 (refine Ow.popM rfl ?_; simp only [S0, Nat.reduceEqDiff, Nat.reduceAdd, reduceIte, reduceCtorEq, e5, e6])
        refine Ow.callE (k := 26) (fs := []) (cs := []) (vs := [u, s]) rfl rfl (by simp only [S0, Nat.reduceEqDiff, Nat.reduceAdd, reduceIte, reduceCtorEq]) (mul_any hx hu.isB.wl hs.wl (by rw [ofN_length]; exact hl)) ?_
        rintro v H4 w hx4 ⟨id4, hid4, hv⟩
        (refine Ow.popM rfl ?_; simp only [S0, Nat.reduceEqDiff, Nat.reduceAdd, reduceIte, reduceCtorEq])
        refine Ow.nilM ⟨nofun, ?_⟩
        rw [ofN_length, val_ofN, val_ofN, ofN_mul, ← Nat.pow_add] at hv
        have e : val lb % 2 ^ (k + 1) = val lb % 2 ^ k + 2 ^ k := by rw [hstep, if_pos rfl]
        rw [← e] at hv
        refine (half _ _ v id4 ?_ ?_ ?_ ?_ ?_ ?_ ?_ hx4 ?_ hv).mono fun c E5 H5 hq => ?_
        · simp only [S0, Nat.reduceEqDiff, Nat.reduceAdd, reduceIte, reduceCtorEq, e1]
        · simp only [S0, Nat.reduceEqDiff, Nat.reduceAdd, reduceIte, reduceCtorEq, e18]
        · simp only [S0, Nat.reduceEqDiff, Nat.reduceAdd, reduceIte, reduceCtorEq, e19]
        · simp only [S0, Nat.reduceEqDiff, Nat.reduceAdd, reduceIte, reduceCtorEq, e20]
        · simp only [S0, Nat.reduceEqDiff, Nat.reduceAdd, reduceIte, reduceCtorEq]
        · simp only [S0, Nat.reduceEqDiff, Nat.reduceAdd, reduceIte, reduceCtorEq]
        · simp only [S0, Nat.reduceEqDiff, Nat.reduceAdd, reduceIte, reduceCtorEq, e6]
        · have := hxt.n
          have : H2.n ≤ id4 := hid4
          omega
        · obtain ⟨hc, hq2⟩ := fin _ _ _ hq
          subst hc
          refine hq2.mono fun c E6 H6 hr => ?_
          obtain ⟨rfl, hr⟩ := hr
          exact hr
      | false =>
        rw [hbit] at hstep
        refine Cw.cond (t := false) (by simp only [S0, Nat.reduceEqDiff, Nat.reduceAdd, reduceIte, reduceCtorEq, hbit]) ?_
        refine Cw.skip ?_
        have e : val lb % 2 ^ (k + 1) = val lb % 2 ^ k := by rw [hstep]; simp
        rw [← e] at hu
        refine (half _ _ u id ?_ ?_ ?_ ?_ ?_ ?_ ?_ (AL.Ext.refl _) hid hu).mono fun c E5 H5 hq => ?_
        · simp only [S0, Nat.reduceEqDiff, Nat.reduceAdd, reduceIte, reduceCtorEq, e1]
        · simp only [S0, Nat.reduceEqDiff, Nat.reduceAdd, reduceIte, reduceCtorEq, e18]
        · simp only [S0, Nat.reduceEqDiff, Nat.reduceAdd, reduceIte, reduceCtorEq, e19]
        · simp only [S0, Nat.reduceEqDiff, Nat.reduceAdd, reduceIte, reduceCtorEq, e20]
        · simp only [S0, Nat.reduceEqDiff, Nat.reduceAdd, reduceIte, reduceCtorEq]
        · simp only [S0, Nat.reduceEqDiff, Nat.reduceAdd, reduceIte, reduceCtorEq, e5]
        · simp only [S0, Nat.reduceEqDiff, Nat.reduceAdd, reduceIte, reduceCtorEq, e6]
        · obtain ⟨hc, hq2⟩ := fin _ _ _ hq
          subst hc
          refine hq2.mono fun c E6 H6 hr => ?_
          obtain ⟨rfl, hr⟩ := hr
          exact hr
    · obtain rfl : k = lb.length := by omega
      (refine Ow.popM rfl ?_; simp only [S0, Nat.reduceEqDiff, Nat.reduceAdd, reduceIte, reduceCtorEq, e19, e20, lt_false (Nat.lt_irrefl lb.length)])
      refine Ow.nilM ⟨nofun, ?_⟩
      refine Cw.seq (Cw.cond (t := false) (by simp only [S0, Nat.reduceEqDiff, Nat.reduceAdd, reduceIte, reduceCtorEq]) ?_)
      refine Cw.exit ?_
      show Cw _ _ _ _ _
      refine Cw.seq (Cw.region ?_)
      iterate 2 (refine Ow.popM rfl ?_; simp only [S0, Nat.reduceEqDiff, Nat.reduceAdd, reduceIte, reduceCtorEq, e5])
      refine Ow.nilM ⟨nofun, ?_⟩
      refine Cw.ret ?_
      simp only [Then, InBlock, Rnd, FnPost, resOf, tupled, S0, Nat.reduceEqDiff, Nat.reduceAdd, reduceIte, reduceCtorEq]
      rw [Nat.mod_eq_of_lt (val_lt lb)] at hu
      exact ⟨hxt, id, hid, hu⟩
  refine Cw.seq (Cw.seq (Cw.region ?_))
  iterate 2 (refine Ow.popM rfl ?_; simp only [S0, Nat.reduceEqDiff, Nat.reduceAdd, reduceIte, reduceCtorEq])
  by_cases h0 : 0 < la.length
  · (refine Ow.popM rfl ?_; simp only [S0, Nat.reduceEqDiff, Nat.reduceAdd, reduceIte, reduceCtorEq, gt0_true h0])
    refine Ow.nilM ⟨nofun, ?_⟩
    refine Cw.cond (t := true) (by simp only [S0, Nat.reduceEqDiff, Nat.reduceAdd, reduceIte, reduceCtorEq]) ?_
    refine Cw.region ?_
    (refine Ow.popM rfl ?_; simp only [S0, Nat.reduceEqDiff, Nat.reduceAdd, reduceIte, reduceCtorEq])
    (refine Ow.popM rfl ?_; simp only [S0, Nat.reduceEqDiff, Nat.reduceAdd, reduceIte, reduceCtorEq, show ((0 : Int) ≤ 0 ∧ (0 : Int) < (la.length : Int)) = True from eq_true ⟨by omega, by omega⟩, show Int.toNat 0 = 0 from rfl])
    refine Ow.store1 (b := true) (ad := ⟨H.n, 0, none⟩) (v := .bool true) (bk := ⟨(List.replicate la.length false).map .bool, 0⟩) rfl (by simp only [S0, Nat.reduceEqDiff, Nat.reduceAdd, reduceIte, reduceCtorEq]) rfl rfl rfl (T.get_set_self _ _ _) (by simp) (by simpa using h0) ?_ ?_
    · show Nat.blt (min (H.n + 1) H.n) (H.n + 1) = true
      rw [Nat.min_eq_right (Nat.le_succ _)]; exact Nat.ble_eq_true_of_le (Nat.le_refl _)
    · intro wl hwl
      refine Ow.nil ⟨nofun, ?_⟩
      refine rest _ _ ?_ ?_ ?_ ⟨Nat.le_succ _, fun i hi => ?_, ?_⟩ ⟨by rw [ofN_length], Nat.lt_succ_self _, ?_⟩
      · simp only [S0, Nat.reduceEqDiff, Nat.reduceAdd, reduceIte, reduceCtorEq]
      · simp only [S0, Nat.reduceEqDiff, Nat.reduceAdd, reduceIte, reduceCtorEq]
      · simp only [S0, Nat.reduceEqDiff, Nat.reduceAdd, reduceIte, reduceCtorEq]
      · show ((H.t.set H.n _).set H.n _).get i = _
        rw [T.get_set_ne _ _ (by omega), T.get_set_ne _ _ (by omega)]
      · show min H.wl H.n ≤ wl
        rw [hwl]
        show _ ≤ min H.wl (min (H.n + 1) H.n)
        omega
      · show ((H.t.set H.n _).set H.n _).get H.n = _
        rw [T.get_set_self, ← one_list h0, List.map_set]
  · have hz : la.length = 0 := by omega
    have c0 : decide ((la.length : Int) > 0) = false := decide_eq_false (by omega)
    (refine Ow.popM rfl ?_; simp only [S0, Nat.reduceEqDiff, Nat.reduceAdd, reduceIte, reduceCtorEq, c0])
    refine Ow.nilM ⟨nofun, ?_⟩
    refine Cw.cond (t := false) (by simp only [S0, Nat.reduceEqDiff, Nat.reduceAdd, reduceIte, reduceCtorEq]) ?_
    refine Cw.skip ?_
    refine rest _ _ ?_ ?_ ?_ hx1 ⟨by rw [ofN_length], Nat.lt_succ_self _, ?_⟩
    · simp only [S0, Nat.reduceEqDiff, Nat.reduceAdd, reduceIte, reduceCtorEq]
    · simp only [S0, Nat.reduceEqDiff, Nat.reduceAdd, reduceIte, reduceCtorEq]
    · simp only [S0, Nat.reduceEqDiff, Nat.reduceAdd, reduceIte, reduceCtorEq]
    · rw [hz]; exact T.get_set_self _ _ _
end Go.Proofs.Yteeckncfllbokaa.X
