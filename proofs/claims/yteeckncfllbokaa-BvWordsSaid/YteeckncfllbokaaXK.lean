/- The reference's products and powers. -/
import Derived.Test.YteeckncfllbokaaXJ
set_option linter.unusedSimpArgs false
set_option linter.unusedVariables false
namespace Go.Proofs.Yteeckncfllbokaa.X
open Go Go.AL
variable {ext : Nat → Option (List Value → AH → Option (Value × AH))}
theorem fw_int {x : Int} (h1 : -(2 ^ 62) ≤ x) (h2 : x < 2 ^ 62) : fwrap .i64 x = x := by
  rw [fwrap_eq]
  unfold IntKind.wrap
  simp only [show IntKind.bits .i64 = 64 from rfl, show IntKind.signed .i64 = true from rfl, Bool.true_and, decide_eq_true_eq, Nat.reduceSub]
  split <;> omega
theorem val_append : ∀ (k : Nat) (l : List Bool), val (List.replicate k false ++ l) = 2 ^ k * val l
  | 0, l => by simp
  | k + 1, l => by
    rw [List.replicate_succ, List.cons_append]
    show (false).toNat + 2 * val (List.replicate k false ++ l) = _
    rw [val_append k l, Nat.pow_succ]
    simp only [Bool.toNat_false, Nat.zero_add]
    rw [← Nat.mul_assoc, Nat.mul_comm 2 (2 ^ k)]
/-- times -/
theorem times_any (hx : Ext0 ext) {H : AH} {va vb : Value} {la lb : List Bool} (ha : IsB H va la) (hb : IsB H vb lb) (hla : la.length < 2 ^ 32) (hlb : lb.length < 2 ^ 32) :
    Run (Cx ext) 65 [va, vb] H fun r H' => AL.Ext H H' ∧ ∃ l, IsB H' r l ∧ val l = val la * val lb ∧ l.length ≤ la.length + lb.length + 1 := by
  refine Run.intro (fi := IR.fi65) (hx 65 (by decide)) (by kernel_rfl) ?_
  unfold IR.fi65
  simp only [envOf_cons, envOf_nil]
  obtain ⟨aa, ca, ea⟩ := ha.shape
  obtain ⟨ab, cb, eb⟩ := hb.shape
  subst ea
  subst eb
  refine Cw.seq (Cw.region ?_)
  (refine Ow.popM rfl ?_; simp only [S0, Nat.reduceEqDiff, Nat.reduceAdd, reduceIte, reduceCtorEq])
  refine Ow.nilM ⟨nofun, ?_⟩
  refine Cw.seq (Cw.region ?_)
  (refine Ow.popM rfl ?_; simp only [S0, Nat.reduceEqDiff, Nat.reduceAdd, reduceIte, reduceCtorEq])
  refine Ow.nilM ⟨nofun, ?_⟩
  refine Cw.seq (Cw.seq (Cw.region ?_))
  (refine Ow.popM rfl ?_; simp only [S0, Nat.reduceEqDiff, Nat.reduceAdd, reduceIte, reduceCtorEq])
  refine Ow.nilM ⟨nofun, ?_⟩
  refine Cw.block (Cw.loopI lb.length (fun k E H2 => (E.get 0 = some (.slice aa la.length ca) ∧ E.get 1 = some (.slice ab lb.length cb) ∧ E.get 6 = some (.int .i64 (k : Int))) ∧ AL.Ext H H2 ∧ ∃ u l, E.get 5 = some u ∧ IsB H2 u l ∧ val l = val la * (val lb % 2 ^ k) ∧ l.length ≤ la.length + k + 1) ⟨?_, AL.Ext.refl _, .slice none 0 0, [], by simp only [S0, Nat.reduceEqDiff, Nat.reduceAdd, reduceIte, reduceCtorEq], IsB.nil _, by rw [Nat.pow_zero, Nat.mod_one]; rfl, Nat.zero_le _⟩ ?_)
  · simp only [S0, Nat.reduceEqDiff, Nat.reduceAdd, reduceIte, reduceCtorEq]; exact ⟨trivial, trivial, rfl⟩
  rintro k E H2 hk ⟨⟨e0, e1, e6⟩, hxt, u, l, e5, hu, hval, hlen⟩
  refine Cw.seq (Cw.seq (Cw.region ?_))
  by_cases hlt : k < lb.length
  · iterate 4 (refine Ow.popM rfl ?_; simp only [S0, Nat.reduceEqDiff, Nat.reduceAdd, reduceIte, reduceCtorEq, e1, e6, lt_true hlt])
    refine Ow.nilM ⟨nofun, ?_⟩
    refine Cw.cond (t := true) (by simp only [S0, Nat.reduceEqDiff, Nat.reduceAdd, reduceIte, reduceCtorEq]) ?_
    refine Cw.skip ?_
    refine Cw.seq (Cw.block (Cw.seq (Cw.region ?_)))
    obtain ⟨ad, cap, bk, ee, h1, h2, h3⟩ := (hb.ext hxt).at (bx_lt hlt)
    simp only [Value.slice.injEq] at ee
    obtain ⟨rfl, -, rfl⟩ := ee
    iterate 3 (refine Ow.popM rfl ?_; simp only [S0, Nat.reduceEqDiff, Nat.reduceAdd, reduceIte, reduceCtorEq, e1, e6, ix_ok hlt])
    (refine Ow.hopM rfl rfl ?_; simp only [S0, Nat.reduceEqDiff, Nat.reduceAdd, reduceIte, reduceCtorEq, h2, h3])
    refine Ow.nilM ⟨nofun, ?_⟩
    have hstep := mod_step (B := val lb) (k := k)
    rw [val_bit] at hstep
    cases hbit : bx lb k with
    | true =>
      rw [hbit, if_pos rfl] at hstep
      refine Cw.cond (t := true) (by simp only [S0, Nat.reduceEqDiff, Nat.reduceAdd, reduceIte, reduceCtorEq, hbit]) ?_
      refine Cw.region ?_
      iterate 2 (refine Ow.popM rfl ?_; simp only [S0, Nat.reduceEqDiff, Nat.reduceAdd, reduceIte, reduceCtorEq, e5, e6])
      refine Ow.makeB (k := .i64) (n := k) rfl (by simp only [S0, Nat.reduceEqDiff, Nat.reduceAdd, reduceIte, reduceCtorEq]) (by omega) ?_
      have hxm := (AL.Ext.refl H2).new (⟨(List.replicate k false).map .bool, 0⟩ : Blk)
      have hM : IsM (H2.new ⟨(List.replicate k false).map .bool, 0⟩) (.slice (some ⟨H2.n, 0, none⟩) k k) (List.replicate k false) H2.n := ⟨by rw [List.length_replicate], Nat.lt_succ_self _, T.get_set_self _ _ _⟩
      have ha2 := (ha.ext hxt).ext hxm
      have hu2 := hu.ext hxm
      (refine Ow.popM rfl ?_; simp only [S0, Nat.reduceEqDiff, Nat.reduceAdd, reduceIte, reduceCtorEq, e0])
      refine Ow.appX (H0 := H2) rfl (by simp only [S0, Nat.reduceEqDiff, Nat.reduceAdd, reduceIte, reduceCtorEq]) (by simp only [S0, Nat.reduceEqDiff, Nat.reduceAdd, reduceIte, reduceCtorEq]) hM (Nat.le_refl _) ha2 (by rw [List.length_replicate]; omega) ?_
      intro r H3 w3 hx3 hr
      have hr3 : IsB { H3 with wl := w3 } r _ := hr.isB
      have hu3 := hu2.ext hx3
      refine Ow.callE (k := 64) (fs := []) (cs := []) (vs := [u, r]) rfl rfl (by simp only [S0, Nat.reduceEqDiff, Nat.reduceAdd, reduceIte, reduceCtorEq]) (sum_any hx hu3.wl hr3.wl (by omega) (by rw [List.length_append, List.length_replicate]; omega)) ?_
      rintro v H4 w4 hx4 ⟨l4, hl4, hv4, hlen4⟩
      (refine Ow.popM rfl ?_; simp only [S0, Nat.reduceEqDiff, Nat.reduceAdd, reduceIte, reduceCtorEq])
      refine Ow.nilM ⟨nofun, ?_⟩
      show Cw _ _ _ _ _
      refine Cw.region ?_
      iterate 3 (refine Ow.popM rfl ?_; simp only [S0, Nat.reduceEqDiff, Nat.reduceAdd, reduceIte, reduceCtorEq, e6, fw_succ (show k < 2 ^ 62 by omega)])
      refine Ow.nilM ⟨nofun, hlt, ?_, ((hxt.trans hxm).trans hx3).trans hx4, v, l4, ?_, hl4.isR.isB, ?_, ?_⟩
      · simp only [S0, Nat.reduceEqDiff, Nat.reduceAdd, reduceIte, reduceCtorEq, e0, e1, and_self]
      · simp only [S0, Nat.reduceEqDiff, Nat.reduceAdd, reduceIte, reduceCtorEq]
      · rw [hv4, val_append, hval, hstep, Nat.mul_add, Nat.mul_comm (2 ^ k)]
      · rw [List.length_append, List.length_replicate] at hlen4
        omega
    | false =>
      rw [hbit] at hstep
      refine Cw.cond (t := false) (by simp only [S0, Nat.reduceEqDiff, Nat.reduceAdd, reduceIte, reduceCtorEq, hbit]) ?_
      refine Cw.skip ?_
      show Cw _ _ _ _ _
      refine Cw.region ?_
      iterate 3 (refine Ow.popM rfl ?_; simp only [S0, Nat.reduceEqDiff, Nat.reduceAdd, reduceIte, reduceCtorEq, e6, fw_succ (show k < 2 ^ 62 by omega)])
      refine Ow.nilM ⟨nofun, hlt, ?_, hxt, u, l, ?_, hu, ?_, by omega⟩
      · simp only [S0, Nat.reduceEqDiff, Nat.reduceAdd, reduceIte, reduceCtorEq, e0, e1, and_self]
      · simp only [S0, Nat.reduceEqDiff, Nat.reduceAdd, reduceIte, reduceCtorEq, e5]
      · rw [hval, hstep]; simp
  · obtain rfl : k = lb.length := by omega
    iterate 4 (refine Ow.popM rfl ?_; simp only [S0, Nat.reduceEqDiff, Nat.reduceAdd, reduceIte, reduceCtorEq, e1, e6, lt_false (Nat.lt_irrefl lb.length)])
    refine Ow.nilM ⟨nofun, ?_⟩
    refine Cw.cond (t := false) (by simp only [S0, Nat.reduceEqDiff, Nat.reduceAdd, reduceIte, reduceCtorEq]) ?_
    refine Cw.exit ?_
    show Cw _ _ _ _ _
    refine Cw.seq (Cw.region ?_)
    iterate 2 (refine Ow.popM rfl ?_; simp only [S0, Nat.reduceEqDiff, Nat.reduceAdd, reduceIte, reduceCtorEq, e5])
    refine Ow.nilM ⟨nofun, ?_⟩
    refine Cw.ret ?_
    simp only [Then, InBlock, Rnd, FnPost, resOf, tupled, S0, Nat.reduceEqDiff, Nat.reduceAdd, reduceIte, reduceCtorEq]
    rw [Nat.mod_eq_of_lt (val_lt lb)] at hval
    exact ⟨hxt, l, hu, hval, hlen⟩
/-- ref Mul -/
theorem rmul_any (hx : Ext0 ext) {H : AH} {va vb : Value} {la lb : List Bool} (ha : IsB H va la) (hb : IsB H vb lb) (hla : la.length < 2 ^ 30) :
    Run (Cx ext) 40 [va, vb] H fun r H' => AL.Ext H H' ∧ IsB H' r (ofN la.length (val la * val lb)) := by
  refine Run.intro (fi := IR.fi40) (hx 40 (by decide)) (by kernel_rfl) ?_
  unfold IR.fi40
  simp only [envOf_cons, envOf_nil]
  obtain ⟨aa, ca, ea⟩ := ha.shape
  subst ea
  refine Cw.seq (Cw.region ?_)
  (refine Ow.popM rfl ?_; simp only [S0, Nat.reduceEqDiff, Nat.reduceAdd, reduceIte, reduceCtorEq])
  refine Ow.nilM ⟨nofun, ?_⟩
  refine Cw.seq (Cw.region ?_)
  iterate 4 (refine Ow.popM rfl ?_; simp only [S0, Nat.reduceEqDiff, Nat.reduceAdd, reduceIte, reduceCtorEq])
  refine Ow.callE (k := 31) (fs := []) (cs := []) (vs := [vb, .int .i64 la.length]) rfl rfl (by simp only [S0, Nat.reduceEqDiff, Nat.reduceAdd, reduceIte, reduceCtorEq]) (Fit_any hx hb.wl (by omega)) ?_
  rintro u H1 w1 hx1 hu
  have hu1 : IsB { H1 with wl := w1 } u _ := hu.isR.isB
  have ha1 := ha.ext hx1
  refine Ow.callE (k := 65) (fs := []) (cs := []) (vs := [.slice aa la.length ca, u]) rfl rfl (by simp only [S0, Nat.reduceEqDiff, Nat.reduceAdd, reduceIte, reduceCtorEq]) (times_any hx ha1.wl hu1.wl (by omega) (by rw [ofN_length]; omega)) ?_
  rintro v H2 w2 hx2 ⟨l, hv, hval, hlen⟩
  have hv2 : IsB { H2 with wl := w2 } v l := hv
  iterate 2 (refine Ow.popM rfl ?_; simp only [S0, Nat.reduceEqDiff, Nat.reduceAdd, reduceIte, reduceCtorEq])
  refine Ow.callE (k := 31) (fs := []) (cs := []) (vs := [v, .int .i64 la.length]) rfl rfl (by simp only [S0, Nat.reduceEqDiff, Nat.reduceAdd, reduceIte, reduceCtorEq]) (Fit_any hx hv2.wl (by omega)) ?_
  rintro r H3 w3 hx3 hr
  (refine Ow.popM rfl ?_; simp only [S0, Nat.reduceEqDiff, Nat.reduceAdd, reduceIte, reduceCtorEq])
  refine Ow.nilM ⟨nofun, ?_⟩
  refine Cw.ret ?_
  simp only [Then, InBlock, Rnd, FnPost, resOf, tupled, S0, Nat.reduceEqDiff, Nat.reduceAdd, reduceIte, reduceCtorEq]
  refine ⟨(hx1.trans hx2).trans hx3, ?_⟩
  have hr3 : IsB { H3 with wl := w3 } r _ := hr.isR.isB
  rw [hval, val_ofN, ofN_eq (show val la * (val lb % 2 ^ la.length) % 2 ^ la.length = val la * val lb % 2 ^ la.length by rw [Nat.mul_mod_mod])] at hr3
  exact hr3
theorem div_step (B j : Nat) : B / 2 ^ j = 2 * (B / 2 ^ (j + 1)) + (B.testBit j).toNat := by
  rw [Nat.testBit_eq_decide_div_mod_eq, Nat.pow_succ, ← Nat.div_div_eq_div_mul]
  have h := Nat.div_add_mod (B / 2 ^ j) 2
  rcases Nat.mod_two_eq_zero_or_one (B / 2 ^ j) with h1 | h1 <;> rw [h1] at h ⊢ <;> simp <;> omega
theorem ge0_int {x : Int} (h : 0 ≤ x) : decide (x ≥ 0) = true := decide_eq_true h
theorem ge0_neg {x : Int} (h : x < 0) : decide (x ≥ 0) = false := decide_eq_false (by omega)
/-- ref Pow -/
theorem rpow_any (hx : Ext0 ext) {H : AH} {va vb : Value} {la lb : List Bool} (ha : IsB H va la) (hb : IsB H vb lb) (hla : la.length < 2 ^ 30) (hlb : lb.length < 2 ^ 30) :
    Run (Cx ext) 23 [va, vb] H fun r H' => AL.Ext H H' ∧ IsB H' r (ofN la.length (val la ^ val lb)) := by
  refine Run.intro (fi := IR.fi23) (hx 23 (by decide)) (by kernel_rfl) ?_
  unfold IR.fi23
  simp only [envOf_cons, envOf_nil]
  obtain ⟨aa, ca, ea⟩ := ha.shape
  obtain ⟨ab, cb, eb⟩ := hb.shape
  subst ea
  subst eb
  refine Cw.seq (Cw.region ?_)
  (refine Ow.popM rfl ?_; simp only [S0, Nat.reduceEqDiff, Nat.reduceAdd, reduceIte, reduceCtorEq])
  refine Ow.nilM ⟨nofun, ?_⟩
  refine Cw.seq (Cw.region ?_)
  (refine Ow.hopM rfl rfl ?_; simp only [S0, Nat.reduceEqDiff, Nat.reduceAdd, reduceIte, reduceCtorEq, S2, show Nat.ble 1 1 = true from rfl])
  have hx0 := (AL.Ext.refl H).new (⟨[.bool true], 0⟩ : Blk)
  iterate 2 (refine Ow.popM rfl ?_; simp only [S0, Nat.reduceEqDiff, Nat.reduceAdd, reduceIte, reduceCtorEq])
  refine Ow.callE (k := 31) (fs := []) (cs := []) (vs := [.slice (some ⟨H.n, 0, none⟩) 1 1, .int .i64 la.length]) rfl rfl (by simp only [S0, Nat.reduceEqDiff, Nat.reduceAdd, reduceIte, reduceCtorEq]) (Fit_any hx (lit1 (H := H) true).wl (by omega)) ?_
  rintro o H1 w1 hx1 ho
  have ho1 : IsB { H1 with wl := w1 } o _ := ho.isR.isB
  rw [show val [true] = 1 from rfl] at ho1
  have hx01 := hx0.trans hx1
  (refine Ow.popM rfl ?_; simp only [S0, Nat.reduceEqDiff, Nat.reduceAdd, reduceIte, reduceCtorEq])
  refine Ow.nilM ⟨nofun, ?_⟩
  refine Cw.seq (Cw.seq (Cw.region ?_))
  iterate 4 (refine Ow.popM rfl ?_; simp only [S0, Nat.reduceEqDiff, Nat.reduceAdd, reduceIte, reduceCtorEq, fw_int (show -(2 ^ 62) ≤ (lb.length : Int) - 1 by omega) (by omega)])
  refine Ow.nilM ⟨nofun, ?_⟩
  refine Cw.block (Cw.loopI lb.length (fun k E H2 => (E.get 0 = some (.slice aa la.length ca) ∧ E.get 1 = some (.slice ab lb.length cb) ∧ E.get 6 = some (.int .i64 ((lb.length : Int) - 1 - (k : Int)))) ∧ AL.Ext H H2 ∧ ∃ u, E.get 5 = some u ∧ IsB H2 u (ofN la.length (val la ^ (val lb / 2 ^ (lb.length - k))))) ⟨?_, hx01, o, by simp only [S0, Nat.reduceEqDiff, Nat.reduceAdd, reduceIte, reduceCtorEq], ?_⟩ ?_)
  · simp only [S0, Nat.reduceEqDiff, Nat.reduceAdd, reduceIte, reduceCtorEq]; exact ⟨trivial, trivial, by simp⟩
  · rw [Nat.sub_zero, Nat.div_eq_of_lt (val_lt lb), Nat.pow_zero]; exact ho1
  rintro k E H2 hk ⟨⟨e0, e1, e6⟩, hxt, u, e5, hu⟩
  refine Cw.seq (Cw.seq (Cw.region ?_))
  by_cases hlt : k < lb.length
  · have hi : ((lb.length : Int) - 1 - (k : Int)) = ((lb.length - 1 - k : Nat) : Int) := by omega
    have hjl : lb.length - 1 - k < lb.length := by omega
    have hst := div_step (val lb) (lb.length - 1 - k)
    rw [show lb.length - 1 - k + 1 = lb.length - k by omega, val_bit] at hst
    rw [show lb.length - 1 - k = lb.length - (k + 1) by omega] at hst hi hjl
    rw [hi] at e6
    generalize hj : lb.length - (k + 1) = j at *
    iterate 2 (refine Ow.popM rfl ?_; simp only [S0, Nat.reduceEqDiff, Nat.reduceAdd, reduceIte, reduceCtorEq, e6, ge0_true j])
    refine Ow.nilM ⟨nofun, ?_⟩
    refine Cw.cond (t := true) (by simp only [S0, Nat.reduceEqDiff, Nat.reduceAdd, reduceIte, reduceCtorEq]) ?_
    refine Cw.skip ?_
    refine Cw.seq (Cw.block (Cw.seq (Cw.region ?_)))
    iterate 2 (refine Ow.popM rfl ?_; simp only [S0, Nat.reduceEqDiff, Nat.reduceAdd, reduceIte, reduceCtorEq, e5])
    refine Ow.callE (k := 40) (fs := []) (cs := []) (vs := [u, u]) rfl rfl (by simp only [S0, Nat.reduceEqDiff, Nat.reduceAdd, reduceIte, reduceCtorEq]) (rmul_any hx hu.wl hu.wl (by rw [ofN_length]; exact hla)) ?_
    rintro v H3 w3 hx3 hv
    rw [ofN_length, val_ofN, ofN_mul, ← Nat.pow_add, ← Nat.two_mul] at hv
    have hv3 : IsB { H3 with wl := w3 } v _ := hv
    (refine Ow.popM rfl ?_; simp only [S0, Nat.reduceEqDiff, Nat.reduceAdd, reduceIte, reduceCtorEq])
    refine Ow.nilM ⟨nofun, ?_⟩
    refine Cw.seq (Cw.region ?_)
    obtain ⟨ad, cap, bk, ee, h1, h2, h3⟩ := ((hb.ext hxt).ext hx3).at (bx_lt hjl)
    simp only [Value.slice.injEq] at ee
    obtain ⟨rfl, -, rfl⟩ := ee
    iterate 3 (refine Ow.popM rfl ?_; simp only [S0, Nat.reduceEqDiff, Nat.reduceAdd, reduceIte, reduceCtorEq, e1, e6, ix_ok hjl])
    (refine Ow.hopM rfl rfl ?_; simp only [S0, Nat.reduceEqDiff, Nat.reduceAdd, reduceIte, reduceCtorEq, h2, h3])
    refine Ow.nilM ⟨nofun, ?_⟩
    cases hbit : bx lb j with
    | true =>
      rw [hbit] at hst
      refine Cw.cond (t := true) (by simp only [S0, Nat.reduceEqDiff, Nat.reduceAdd, reduceIte, reduceCtorEq, hbit]) ?_
      refine Cw.region ?_
      iterate 2 (refine Ow.popM rfl ?_; simp only [S0, Nat.reduceEqDiff, Nat.reduceAdd, reduceIte, reduceCtorEq, e0])
      have ha3 := (ha.ext hxt).ext hx3
      refine Ow.callE (k := 40) (fs := []) (cs := []) (vs := [v, .slice aa la.length ca]) rfl rfl (by simp only [S0, Nat.reduceEqDiff, Nat.reduceAdd, reduceIte, reduceCtorEq]) (rmul_any hx hv3.wl ha3.wl (by rw [ofN_length]; exact hla)) ?_
      rintro x H4 w4 hx4 hx'
      rw [ofN_length, val_ofN] at hx'
      (refine Ow.popM rfl ?_; simp only [S0, Nat.reduceEqDiff, Nat.reduceAdd, reduceIte, reduceCtorEq])
      refine Ow.nilM ⟨nofun, ?_⟩
      show Cw _ _ _ _ _
      refine Cw.region ?_
      iterate 3 (refine Ow.popM rfl ?_; simp only [S0, Nat.reduceEqDiff, Nat.reduceAdd, reduceIte, reduceCtorEq, e6, fw_int (show -(2 ^ 62) ≤ (j : Int) - 1 by omega) (by omega)])
      refine Ow.nilM ⟨nofun, hlt, ?_, (hxt.trans hx3).trans hx4, x, ?_, ?_⟩
      · simp only [S0, Nat.reduceEqDiff, Nat.reduceAdd, reduceIte, reduceCtorEq, e0, e1, true_and]
        rw [show (j : Int) - 1 = (lb.length : Int) - 1 - ((k + 1 : Nat) : Int) by omega]
      · simp only [S0, Nat.reduceEqDiff, Nat.reduceAdd, reduceIte, reduceCtorEq]
      · rw [hj, hst]
        simp only [Bool.toNat_true]
        rw [Nat.pow_succ]
        rw [ofN_eq (show val la ^ (2 * (val lb / 2 ^ (lb.length - k))) % 2 ^ la.length * val la % 2 ^ la.length = val la ^ (2 * (val lb / 2 ^ (lb.length - k))) * val la % 2 ^ la.length by rw [Nat.mod_mul_mod])] at hx'
        exact hx'
    | false =>
      rw [hbit] at hst
      refine Cw.cond (t := false) (by simp only [S0, Nat.reduceEqDiff, Nat.reduceAdd, reduceIte, reduceCtorEq, hbit]) ?_
      refine Cw.skip ?_
      show Cw _ _ _ _ _
      refine Cw.region ?_
      iterate 3 (refine Ow.popM rfl ?_; simp only [S0, Nat.reduceEqDiff, Nat.reduceAdd, reduceIte, reduceCtorEq, e6, fw_int (show -(2 ^ 62) ≤ (j : Int) - 1 by omega) (by omega)])
      refine Ow.nilM ⟨nofun, hlt, ?_, hxt.trans hx3, v, ?_, ?_⟩
      · simp only [S0, Nat.reduceEqDiff, Nat.reduceAdd, reduceIte, reduceCtorEq, e0, e1, true_and]
        rw [show (j : Int) - 1 = (lb.length : Int) - 1 - ((k + 1 : Nat) : Int) by omega]
      · simp only [S0, Nat.reduceEqDiff, Nat.reduceAdd, reduceIte, reduceCtorEq]
      · rw [hj, hst]
        simp only [Bool.toNat_false, Nat.add_zero]
        exact hv3
  · obtain rfl : k = lb.length := by omega
    iterate 2 (refine Ow.popM rfl ?_; simp only [S0, Nat.reduceEqDiff, Nat.reduceAdd, reduceIte, reduceCtorEq, e6, ge0_neg (show (lb.length : Int) - 1 - (lb.length : Int) < 0 by omega)])
    refine Ow.nilM ⟨nofun, ?_⟩
    refine Cw.cond (t := false) (by simp only [S0, Nat.reduceEqDiff, Nat.reduceAdd, reduceIte, reduceCtorEq]) ?_
    refine Cw.exit ?_
    show Cw _ _ _ _ _
    refine Cw.seq (Cw.region ?_)
    iterate 2 (refine Ow.popM rfl ?_; simp only [S0, Nat.reduceEqDiff, Nat.reduceAdd, reduceIte, reduceCtorEq, e5])
    refine Ow.nilM ⟨nofun, ?_⟩
    refine Cw.ret ?_
    simp only [Then, InBlock, Rnd, FnPost, resOf, tupled, S0, Nat.reduceEqDiff, Nat.reduceAdd, reduceIte, reduceCtorEq]
    rw [Nat.sub_self, Nat.pow_zero, Nat.div_one] at hu
    exact ⟨hxt, hu⟩
end Go.Proofs.Yteeckncfllbokaa.X
