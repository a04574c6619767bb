/- Vectors as words: the plain laws. -/
import Derived.Test.YteeckncfllbokaaXZh
set_option linter.unusedSimpArgs false
set_option linter.unusedVariables false
namespace Go.Proofs.Yteeckncfllbokaa.X
open Go Go.AL
/-- A signed number of w bits. -/
def Sg (w : Nat) (m : Int) : Prop := 1 ≤ w ∧ w ≤ 64 ∧ -(2 : Int) ^ (w - 1) ≤ m ∧ m < (2 : Int) ^ (w - 1)
theorem p2 (w : Nat) : ((2 ^ w : Nat) : Int) = (2 : Int) ^ w := by push_cast; rfl
theorem p2pos (w : Nat) : (0 : Int) < (2 : Int) ^ w := Int.pow_pos (by decide)
theorem fdiv_ediv (x : Int) (i : Nat) : x.fdiv (2 ^ i) = x / 2 ^ i := Int.fdiv_eq_ediv_of_nonneg _ (Int.le_of_lt (p2pos i))
theorem ofI_mod (w : Nat) (x : Int) : ofI w x = ofI w (x % 2 ^ w) := by
  refine ext_bits (by rw [ofI_length, ofI_length]) (fun i hi => ?_)
  rw [ofI_length] at hi
  rw [bx_ofI hi, bx_ofI hi, fdiv_ediv, fdiv_ediv]
  obtain ⟨d, rfl⟩ : ∃ d, w = i + (d + 1) := ⟨w - i - 1, by omega⟩
  have h := Int.emod_add_mul_ediv x (2 ^ (i + (d + 1)))
  generalize x % 2 ^ (i + (d + 1)) = r at *
  generalize x / 2 ^ (i + (d + 1)) = q at *
  rw [← h, Int.pow_add, Int.mul_assoc, Int.add_mul_ediv_left _ _ (Int.ne_of_gt (p2pos i)), Int.pow_succ]
  congr 1
  rw [Int.mul_assoc, Int.mul_comm (2 ^ d), Int.mul_assoc, Int.add_mul_emod_self_left]
theorem ofI_congr {w : Nat} {x y : Int} (h : x % 2 ^ w = y % 2 ^ w) : ofI w x = ofI w y := by rw [ofI_mod w x, h, ← ofI_mod]
theorem emod_nn (x : Int) (w : Nat) : 0 ≤ x % (2 : Int) ^ w := Int.emod_nonneg _ (Int.ne_of_gt (p2pos w))
theorem ofI_ofN (w : Nat) (x : Int) : ofI w x = ofN w (x % 2 ^ w).toNat := by
  rw [ofI_mod, ← ofI_nat, Int.toNat_of_nonneg (emod_nn x w)]
theorem val_I (w : Nat) (x : Int) : (val (ofI w x) : Int) = x % 2 ^ w := by
  have h := Int.emod_lt_of_pos x (p2pos w)
  have h0 := emod_nn x w
  rw [ofI_ofN, val_ofN, Nat.mod_eq_of_lt, Int.toNat_of_nonneg h0]
  have := p2 w
  omega
theorem eqNI {w K : Nat} {x : Int} (h : (K : Int) % 2 ^ w = x % 2 ^ w) : ofN w K = ofI w x := by rw [← ofI_nat]; exact ofI_congr h
theorem e64 (y : Int) : fwrap .i64 y = if y % (2 : Int) ^ 64 ≥ 2 ^ 63 then y % (2 : Int) ^ 64 - 2 ^ 64 else y % (2 : Int) ^ 64 := by
  rw [fwrap_eq]
  unfold IntKind.wrap
  simp only [show IntKind.bits .i64 = 64 from rfl, show IntKind.signed .i64 = true from rfl, Bool.true_and, decide_eq_true_eq, Nat.reduceSub]
theorem pow_dvd {w n : Nat} (h : w ≤ n) : (2 : Int) ^ w ∣ 2 ^ n := ⟨2 ^ (n - w), by rw [← Int.pow_add, show w + (n - w) = n by omega]⟩
theorem wrap_congr {w : Nat} (hw : w ≤ 64) (x : Int) : fwrap .i64 x % 2 ^ w = x % 2 ^ w := by
  have hd := pow_dvd hw
  rw [e64]
  split
  · rw [Int.sub_emod, Int.emod_eq_zero_of_dvd hd, Int.sub_zero, Int.emod_emod_of_dvd _ (Int.dvd_refl _), Int.emod_emod_of_dvd _ hd]
  · rw [Int.emod_emod_of_dvd _ hd]
theorem wrap_congr' {w : Nat} (hw : w ≤ 64) (x : Int) : IntKind.wrap .i64 x % 2 ^ w = x % 2 ^ w := by rw [← fwrap_eq]; exact wrap_congr hw x
variable {w : Nat} {m n : Int}
theorem w_add (hw : w ≤ 64) : ofN w (val (ofI w m) + val (ofI w n)) = ofI w (fwrap .i64 (m + n)) := by
  refine eqNI ?_
  rw [wrap_congr hw, Int.natCast_add, val_I, val_I, ← Int.add_emod]
theorem natSub {N x : Nat} : ((2 ^ N - x % 2 ^ N : Nat) : Int) = (2 : Int) ^ N - (x : Int) % 2 ^ N := by
  have := Nat.mod_lt x (Nat.two_pow_pos N)
  rw [Int.ofNat_sub (by omega), p2, Int.natCast_emod, p2]
theorem w_sub (hw : w ≤ 64) : ofN w (val (ofI w m) + (2 ^ w - val (ofI w n) % 2 ^ w)) = ofI w (fwrap .i64 (m - n)) := by
  refine eqNI ?_
  rw [wrap_congr hw, Int.natCast_add, natSub, val_I, val_I, Int.emod_emod_of_dvd _ (Int.dvd_refl _)]
  rw [show m % 2 ^ w + (2 ^ w - n % 2 ^ w) = (m % 2 ^ w - n % 2 ^ w) + 2 ^ w * 1 by omega, Int.add_mul_emod_self_left, ← Int.sub_emod]
theorem w_mul (hw : w ≤ 64) : ofN w (val (ofI w m) * val (ofI w n)) = ofI w (fwrap .i64 (m * n)) := by
  refine eqNI ?_
  rw [wrap_congr hw, Int.natCast_mul, val_I, val_I, ← Int.mul_emod]
theorem w_neg (hw : w ≤ 64) : ofN w (2 ^ w - val (ofI w m) % 2 ^ w) = ofI w (fwrap .i64 (0 - m)) := by
  refine eqNI ?_
  rw [wrap_congr hw, natSub, val_I, Int.emod_emod_of_dvd _ (Int.dvd_refl _)]
  rw [show (2 : Int) ^ w - m % 2 ^ w = (0 - m % 2 ^ w) + 2 ^ w * 1 by omega, Int.add_mul_emod_self_left, Int.sub_emod, Int.emod_emod_of_dvd _ (Int.dvd_refl _), ← Int.sub_emod]
theorem w_shl (hw : w ≤ 64) (s : Nat) : ofN w (val (ofI w m) * 2 ^ s) = ofI w (IntKind.wrap .i64 (m * 2 ^ min s 64)) := by
  refine eqNI ?_
  rw [wrap_congr' hw, Int.natCast_mul, val_I, p2]
  by_cases h : s ≤ 64
  · rw [Nat.min_eq_left h, Int.mul_emod, Int.emod_emod_of_dvd _ (Int.dvd_refl _), ← Int.mul_emod]
  · rw [Nat.min_eq_right (by omega), Int.emod_eq_zero_of_dvd (Int.dvd_trans (pow_dvd (show w ≤ s by omega)) (Int.dvd_mul_left _ _)), Int.emod_eq_zero_of_dvd (Int.dvd_trans (pow_dvd hw) (Int.dvd_mul_left _ _))]
theorem fdiv_sign (h : Sg w m) {j : Nat} (hj : w - 1 ≤ j) : m.fdiv (2 ^ j) = if m < 0 then -1 else 0 := by
  obtain ⟨h1, h2, h3, h4⟩ := h
  have hp : (2 : Int) ^ (w - 1) ≤ 2 ^ j := by
    have := Nat.pow_le_pow_right (n := 2) (by decide) hj
    exact_mod_cast this
  rw [fdiv_ediv]
  generalize (2 : Int) ^ (w - 1) = p at *
  generalize hq : (2 : Int) ^ j = q at *
  have hq0 : 0 < q := by rw [← hq]; exact p2pos j
  split
  · have h5 := Int.ediv_neg_of_neg_of_pos (a := m) (b := q) (by omega) hq0
    have h6 : -1 ≤ m / q := by rw [Int.le_ediv_iff_mul_le hq0]; omega
    omega
  · exact Int.ediv_eq_zero_of_lt (by omega) (by omega)
theorem w_sar (h : Sg w m) (s : Nat) : shrF (ofI w m) s (bx (ofI w m) ((ofI w m).length - 1)) = ofI w (m.fdiv (2 ^ min s 64)) := by
  have hw := h
  obtain ⟨h1, h2, _, _⟩ := h
  refine ext_bits (by rw [shrF_length, ofI_length, ofI_length]) (fun i hi => ?_)
  rw [shrF_length] at hi
  rw [bx_shrF hi]
  rw [ofI_length] at hi ⊢
  have hr : (m.fdiv (2 ^ min s 64)).fdiv (2 ^ i) = m.fdiv (2 ^ (min s 64 + i)) := by
    rw [fdiv_ediv, fdiv_ediv, fdiv_ediv, Int.ediv_ediv_of_nonneg (Int.le_of_lt (p2pos _)), Int.pow_add]
  rw [bx_ofI (x := m.fdiv (2 ^ min s 64)) hi, hr, bx_ofI (show w - 1 < w by omega)]
  split
  · rw [bx_ofI (by omega), Nat.min_eq_left (by omega), Nat.add_comm]
  · rw [fdiv_sign hw (Nat.le_refl _), fdiv_sign hw (show w - 1 ≤ min s 64 + i by omega)]
theorem val_I_lt (x : Int) : val (ofI w x) < 2 ^ w := by
  have := val_lt (ofI w x)
  rwa [ofI_length] at this
theorem pow_le64 (hw : w ≤ 64) : 2 ^ w ≤ 2 ^ 64 := Nat.pow_le_pow_right (by decide) hw
theorem w_shr (hw : w ≤ 64) (s : Nat) : shrF (ofI w m) s false = ofI w (fwrap .i64 (((val (ofI w m) : Nat) : Int).fdiv (2 ^ min s 64))) := by
  rw [shrF_N, ofI_length]
  refine eqNI ?_
  rw [wrap_congr hw, fdiv_ediv, Int.natCast_ediv, p2]
  congr 1
  by_cases h : s ≤ 64
  · rw [Nat.min_eq_left h]
  · have h1 := val_I_lt (w := w) m
    have h2 := pow_le64 hw
    have h3 : 2 ^ 64 ≤ 2 ^ s := Nat.pow_le_pow_right (by decide) (by omega)
    rw [Nat.min_eq_right (by omega), ← p2, ← p2, ← Int.natCast_ediv, ← Int.natCast_ediv, Nat.div_eq_of_lt (by omega), Nat.div_eq_of_lt (by omega)]
/-! ## Signed values -/
theorem w_ng (h : Sg w m) : ng (ofI w m) = decide (m < 0) := by
  have hw := h
  obtain ⟨h1, h2, _, _⟩ := h
  unfold ng
  rw [ofI_length, bx_ofI (by omega), fdiv_sign hw (Nat.le_refl _)]
  by_cases hm : m < 0 <;> simp [hm]
theorem w_sval (h : Sg w m) : sval (ofI w m) = m := by
  have hw := w_ng h
  obtain ⟨h1, h2, h3, h4⟩ := h
  have hv := val_I w m
  have hp : (2 : Int) ^ w = 2 * 2 ^ (w - 1) := by rw [← Int.pow_succ', show w - 1 + 1 = w by omega]
  have hq := p2 w
  by_cases hm : m < 0
  · rw [sval_neg (by rw [hw]; exact decide_eq_true hm), hv, ofI_length, hq]
    have : m % 2 ^ w = m + 2 ^ w := by
      rw [← Int.add_mul_emod_self_left m (2 ^ w) 1, Int.mul_one]
      exact Int.emod_eq_of_lt (by omega) (by omega)
    omega
  · rw [sval_pos (by rw [hw]; exact decide_eq_false hm), hv]
    exact Int.emod_eq_of_lt (by omega) (by omega)
theorem w_abs (h : Sg w m) : absN (ofI w m) = m.natAbs := by
  have h1 := w_sval h
  have h2 := w_ng h
  unfold sval at h1
  rw [h2] at h1
  by_cases hm : m < 0
  · rw [decide_eq_true hm, if_pos rfl] at h1
    omega
  · rw [decide_eq_false hm, if_neg (by decide)] at h1
    omega
theorem w_fit (h : Sg w m) : -(2 : Int) ^ 63 ≤ sval (ofI w m) ∧ sval (ofI w m) < (2 : Int) ^ 63 := by
  rw [w_sval h]
  obtain ⟨h1, h2, h3, h4⟩ := h
  have : (2 : Int) ^ (w - 1) ≤ 2 ^ 63 := by
    have := Nat.pow_le_pow_right (n := 2) (by decide) (show w - 1 ≤ 63 by omega)
    exact_mod_cast this
  omega
theorem w_intV (h : Sg w m) : intV (ofI w m) = .tuple ⟨[.int .i64 m, .bool true]⟩ := by
  unfold intV
  rw [if_pos (w_fit h), w_sval h]
theorem w_uintV (hw : w ≤ 64) : uintV (ofI w m) = .tuple ⟨[.int .u64 ((val (ofI w m) : Nat) : Int), .bool true]⟩ := by
  have h1 := val_I_lt (w := w) m
  have h2 := pow_le64 hw
  unfold uintV
  rw [if_pos (by omega)]
theorem modNI {N A : Nat} {x : Int} (h : x = (A : Int) ∨ x = -(A : Int)) (hA : A < 2 ^ N) (hw : N ≤ 64) : (if x = (A : Int) then ofN N A else ofN N (2 ^ N - A % 2 ^ N)) = ofI N (fwrap .i64 x) := by
  split
  · rename_i e
    refine eqNI ?_
    rw [wrap_congr hw, e]
  · rename_i e
    refine eqNI ?_
    rw [wrap_congr hw, h.resolve_left e, natSub, ← p2, ← Int.natCast_emod, Nat.mod_eq_of_lt hA, p2]
    rw [show (2 : Int) ^ N - (A : Int) = -(A : Int) + 2 ^ N * 1 by omega, Int.add_mul_emod_self_left]
theorem tdiv_abs (m n : Int) : m.tdiv n = if (decide (m < 0) != decide (n < 0)) then -((m.natAbs / n.natAbs : Nat) : Int) else ((m.natAbs / n.natAbs : Nat) : Int) := by
  by_cases hm : m < 0 <;> by_cases hn : n < 0
  · obtain ⟨a, rfl⟩ : ∃ a : Nat, m = -(a : Int) := ⟨m.natAbs, by omega⟩
    obtain ⟨b, rfl⟩ : ∃ b : Nat, n = -(b : Int) := ⟨n.natAbs, by omega⟩
    simp only [hm, hn, decide_true, bne_self_eq_false, Bool.false_eq_true, if_false, Int.neg_tdiv, Int.tdiv_neg, Int.neg_neg, Int.natAbs_neg, Int.natAbs_natCast]
    exact Int.ofNat_tdiv a b |>.symm
  · obtain ⟨a, rfl⟩ : ∃ a : Nat, m = -(a : Int) := ⟨m.natAbs, by omega⟩
    obtain ⟨b, rfl⟩ : ∃ b : Nat, n = (b : Int) := ⟨n.natAbs, by omega⟩
    simp only [hm, hn, decide_true, decide_false, Bool.true_bne, Bool.not_false, if_true, Int.neg_tdiv, Int.natAbs_neg, Int.natAbs_natCast]
    rw [Int.ofNat_tdiv a b]
  · obtain ⟨a, rfl⟩ : ∃ a : Nat, m = (a : Int) := ⟨m.natAbs, by omega⟩
    obtain ⟨b, rfl⟩ : ∃ b : Nat, n = -(b : Int) := ⟨n.natAbs, by omega⟩
    simp only [hm, hn, decide_true, decide_false, Bool.false_bne, if_true, Int.tdiv_neg, Int.natAbs_neg, Int.natAbs_natCast]
    rw [Int.ofNat_tdiv a b]
  · obtain ⟨a, rfl⟩ : ∃ a : Nat, m = (a : Int) := ⟨m.natAbs, by omega⟩
    obtain ⟨b, rfl⟩ : ∃ b : Nat, n = (b : Int) := ⟨n.natAbs, by omega⟩
    simp only [hm, hn, decide_false, bne_self_eq_false, Bool.false_eq_true, if_false, Int.natAbs_natCast]
    exact Int.ofNat_tdiv a b |>.symm
theorem tmod_abs (m n : Int) : m.tmod n = if m < 0 then -((m.natAbs % n.natAbs : Nat) : Int) else ((m.natAbs % n.natAbs : Nat) : Int) := by
  have key : ∀ (a : Nat) (n : Int), (a : Int).tmod n = ((a % n.natAbs : Nat) : Int) := by
    intro a n
    by_cases hn : n < 0
    · obtain ⟨b, rfl⟩ : ∃ b : Nat, n = -(b : Int) := ⟨n.natAbs, by omega⟩
      rw [Int.tmod_neg, Int.natAbs_neg, Int.natAbs_natCast]
      exact Int.ofNat_tmod a b |>.symm
    · obtain ⟨b, rfl⟩ : ∃ b : Nat, n = (b : Int) := ⟨n.natAbs, by omega⟩
      rw [Int.natAbs_natCast]
      exact Int.ofNat_tmod a b |>.symm
  by_cases hm : m < 0
  · obtain ⟨a, rfl⟩ : ∃ a : Nat, m = -(a : Int) := ⟨m.natAbs, by omega⟩
    rw [if_pos hm, Int.neg_tmod, key, Int.natAbs_neg, Int.natAbs_natCast]
  · obtain ⟨a, rfl⟩ : ∃ a : Nat, m = (a : Int) := ⟨m.natAbs, by omega⟩
    rw [if_neg hm, key, Int.natAbs_natCast]
theorem abs_lt (h : Sg w m) : m.natAbs < 2 ^ w := by
  have := absN_lt (ofI w m)
  rwa [w_abs h, ofI_length] at this
theorem w_quo (hm : Sg w m) (hn : Sg w n) : squo (ofI w m) (ofI w n) = ofI w (fwrap .i64 (m.tdiv n)) := by
  have hA : m.natAbs / n.natAbs < 2 ^ w := Nat.lt_of_le_of_lt (Nat.div_le_self _ _) (abs_lt hm)
  have ht := tdiv_abs m n
  unfold squo
  rw [w_ng hm, w_ng hn, w_abs hm, w_abs hn, ofI_length]
  cases hs : (decide (m < 0) != decide (n < 0)) with
  | true =>
    rw [hs, if_pos rfl] at ht
    rw [if_pos rfl, ht]
    refine eqNI ?_
    rw [wrap_congr hm.2.1, natSub, ← p2, ← Int.natCast_emod, Nat.mod_eq_of_lt hA, p2]
    rw [show (2 : Int) ^ w - ((m.natAbs / n.natAbs : Nat) : Int) = -((m.natAbs / n.natAbs : Nat) : Int) + 2 ^ w * 1 by omega, Int.add_mul_emod_self_left]
  | false =>
    rw [hs, if_neg (by decide)] at ht
    rw [if_neg (by decide), ht]
    exact eqNI (by rw [wrap_congr hm.2.1])
theorem w_rem (hm : Sg w m) (hn : Sg w n) : srem (ofI w m) (ofI w n) = ofI w (m.tmod n) := by
  have hA : m.natAbs % n.natAbs < 2 ^ w := Nat.lt_of_le_of_lt (Nat.mod_le _ _) (abs_lt hm)
  have ht := tmod_abs m n
  unfold srem
  rw [w_ng hm, w_abs hm, w_abs hn, ofI_length]
  by_cases hs : m < 0
  · rw [if_pos hs] at ht
    rw [decide_eq_true hs, if_pos rfl, ht]
    refine eqNI ?_
    rw [natSub, ← p2, ← Int.natCast_emod, Nat.mod_eq_of_lt hA, p2]
    rw [show (2 : Int) ^ w - ((m.natAbs % n.natAbs : Nat) : Int) = -((m.natAbs % n.natAbs : Nat) : Int) + 2 ^ w * 1 by omega, Int.add_mul_emod_self_left]
  · rw [if_neg hs] at ht
    rw [decide_eq_false hs, if_neg (by decide), ht]
    exact eqNI rfl
theorem w_uquo (hw : w ≤ 64) (A B : Nat) : ofN w (A / B) = ofI w (fwrap .i64 (fwrap .u64 ((A : Int).tdiv (B : Int)))) := by
  refine eqNI ?_
  rw [wrap_congr hw, fwrap_eq, show ((A : Int).tdiv (B : Int)) = ((A / B : Nat) : Int) from Int.ofNat_tdiv A B |>.symm, wrap_u64, Int.natCast_emod]
  rw [show ((2 ^ 64 : Nat) : Int) = (2 : Int) ^ 64 from p2 64, Int.emod_emod_of_dvd _ (pow_dvd hw)]
theorem w_urem (hw : w ≤ 64) (A B : Nat) : ofN w (A % B) = ofI w (fwrap .i64 ((A : Int).tmod (B : Int))) := by
  refine eqNI ?_
  rw [wrap_congr hw, show ((A : Int).tmod (B : Int)) = ((A % B : Nat) : Int) from Int.ofNat_tmod A B |>.symm]
/-- The two shifts that leave w bits of a number. -/
def sx (w : Nat) (m : Int) : Int := (IntKind.wrap .i64 (m * 2 ^ (64 - w))).fdiv (2 ^ (64 - w))
theorem sx_sg (h1 : 1 ≤ w) (h2 : w ≤ 64) (m : Int) : Sg w (sx w m) := by
  refine ⟨h1, h2, ?_⟩
  unfold sx
  rw [fdiv_ediv, ← fwrap_eq]
  have hr : -(2 : Int) ^ 63 ≤ fwrap .i64 (m * 2 ^ (64 - w)) ∧ fwrap .i64 (m * 2 ^ (64 - w)) < 2 ^ 63 := by
    rw [e64]
    have h3 := Int.emod_nonneg (m * 2 ^ (64 - w)) (b := (2 : Int) ^ 64) (by decide)
    have h4 := Int.emod_lt_of_pos (m * 2 ^ (64 - w)) (b := (2 : Int) ^ 64) (by decide)
    generalize m * 2 ^ (64 - w) % 2 ^ 64 = r at *
    split <;> omega
  have hp : (2 : Int) ^ 63 = 2 ^ (w - 1) * 2 ^ (64 - w) := by rw [← Int.pow_add, show w - 1 + (64 - w) = 63 by omega]
  generalize fwrap .i64 (m * 2 ^ (64 - w)) = x at *
  have hq := p2pos (64 - w)
  rw [hp] at hr
  refine ⟨?_, ?_⟩
  · rw [Int.le_ediv_iff_mul_le hq, Int.neg_mul]; exact hr.1
  · rw [Int.ediv_lt_iff_lt_mul hq]; exact hr.2
theorem shl_sx (h2 : w ≤ 64) : aShift .shl .i64 m ((64 - w : Nat) : Int) = some (.int .i64 (IntKind.wrap .i64 (m * 2 ^ (64 - w)))) := by
  unfold aShift
  rw [if_neg (by omega)]
  simp only [Int.toNat_natCast, show Nat.min (64 - w) (IntKind.bits .i64) = 64 - w from Nat.min_eq_left (by show 64 - w ≤ 64; omega)]
theorem shr_sx (h2 : w ≤ 64) : aShift .shr .i64 (IntKind.wrap .i64 (m * 2 ^ (64 - w))) ((64 - w : Nat) : Int) = some (.int .i64 (sx w m)) := by
  unfold aShift
  rw [if_neg (by omega)]
  simp only [Int.toNat_natCast, show Nat.min (64 - w) (IntKind.bits .i64) = 64 - w from Nat.min_eq_left (by show 64 - w ≤ 64; omega)]
  rfl
theorem mask_sx (h1 : 1 ≤ w) (h2 : w ≤ 64) : aShift .shr .u64 18446744073709551615 ((64 - w : Nat) : Int) = some (.int .u64 ((2 ^ w - 1 : Nat) : Int)) := by
  unfold aShift
  rw [if_neg (by omega)]
  simp only [Int.toNat_natCast, show Nat.min (64 - w) (IntKind.bits .u64) = 64 - w from Nat.min_eq_left (by show 64 - w ≤ 64; omega)]
  congr 2
  rw [fdiv_ediv, show (18446744073709551615 : Int) = ((2 ^ 64 - 1 : Nat) : Int) from rfl, ← p2, ← Int.natCast_ediv]
  congr 1
  have hp : 2 ^ 64 = 2 ^ w * 2 ^ (64 - w) := by rw [← Nat.pow_add, show w + (64 - w) = 64 by omega]
  have hq := Nat.two_pow_pos (64 - w)
  have hw := Nat.two_pow_pos w
  rw [hp]
  generalize 2 ^ (64 - w) = q at *
  generalize 2 ^ w = p at *
  obtain ⟨p', rfl⟩ : ∃ p', p = p' + 1 := ⟨p - 1, by omega⟩
  rw [Nat.add_mul, Nat.one_mul, Nat.add_sub_cancel]
  refine Nat.div_eq_of_lt_le (by omega) ?_
  rw [Nat.add_mul, Nat.one_mul]
  omega
theorem conv_u64 (m : Int) : fwrap .u64 m = (((m % 2 ^ 64).toNat : Nat) : Int) := by
  rw [fwrap_eq, Int.toNat_of_nonneg (emod_nn m 64)]
  rfl
theorem and_mask (h2 : w ≤ 64) (m : Int) : IntKind.wrap .u64 ((BitVec.ofInt (IntKind.bits .u64) (((m % 2 ^ 64).toNat : Nat) : Int) &&& BitVec.ofInt (IntKind.bits .u64) ((2 ^ w - 1 : Nat) : Int)).toNat : Int) = ((val (ofI w m) : Nat) : Int) := by
  have hlt : (m % 2 ^ 64).toNat < 2 ^ 64 := by
    have := Int.emod_lt_of_pos m (p2pos 64)
    have := p2 64
    have := emod_nn m 64
    omega
  have hp := pow_le64 h2
  have e : (BitVec.ofInt 64 (((m % 2 ^ 64).toNat : Nat) : Int) &&& BitVec.ofInt 64 ((2 ^ w - 1 : Nat) : Int)).toNat = (m % 2 ^ 64).toNat % 2 ^ w := by
    rw [BitVec.toNat_and, BitVec.ofInt_natCast, BitVec.ofInt_natCast, BitVec.toNat_ofNat, BitVec.toNat_ofNat, Nat.mod_eq_of_lt hlt, Nat.mod_eq_of_lt (by have := Nat.two_pow_pos w; omega), Nat.and_two_pow_sub_one_eq_mod]
  have hv : (val (ofI w m) : Int) = (((m % 2 ^ 64).toNat % 2 ^ w : Nat) : Int) := by
    rw [val_I, Int.natCast_emod, Int.toNat_of_nonneg (emod_nn m 64), p2, Int.emod_emod_of_dvd _ (pow_dvd h2)]
  have hl := val_I_lt (w := w) m
  rw [show IntKind.bits .u64 = 64 from rfl, e, ← Int.ofNat.inj hv, wrap_u64, Nat.mod_eq_of_lt (by omega)]
/-! ## Comparisons -/
theorem w_scmp (hm : Sg w m) (hn : Sg w n) : decide (scmpN (ofI w m) (ofI w n) < 0) = decide (m < n) ∧ (scmpN (ofI w m) (ofI w n) == 0) = (m == n) := by
  have h1 := w_sval hm
  have h2 := w_sval hn
  have a1 := w_abs hm
  have a2 := w_abs hn
  rw [scmp_cases, w_ng hm, w_ng hn]
  have key : ∀ (c : Int) (b1 b2 : Bool), decide (c < 0) = b1 → (c == 0) = b2 → decide (m < n) = b1 → (m == n) = b2 → decide (c < 0) = decide (m < n) ∧ (c == 0) = (m == n) := by
    intro c b1 b2 h1 h2 h3 h4
    exact ⟨h1.trans h3.symm, h2.trans h4.symm⟩
  have hc : ∀ A B : Nat, (decide (cmpN A B < 0) = decide (A < B)) ∧ ((cmpN A B == 0) = decide (A = B)) := by
    intro A B
    refine ⟨cmp_lss A B, ?_⟩
    unfold cmpN
    by_cases e1 : A < B
    · rw [if_pos e1, decide_eq_false (by omega)]; rfl
    · rw [if_neg e1]
      by_cases e2 : A = B
      · rw [if_pos e2, decide_eq_true e2]; rfl
      · rw [if_neg e2, decide_eq_false e2]; rfl
  by_cases s1 : m < 0 <;> by_cases s2 : n < 0
  · simp only [s1, s2, decide_true, bne_self_eq_false, Bool.false_eq_true, if_false, if_true]
    obtain ⟨c1, c2⟩ := hc (absN (ofI w n)) (absN (ofI w m))
    rw [c1, c2, a1, a2]
    refine ⟨by congr 1; exact propext ⟨fun h => by omega, fun h => by omega⟩, ?_⟩
    by_cases e : m = n
    · subst e; simp
    · rw [decide_eq_false (by omega)]; exact (beq_eq_false_iff_ne.2 e).symm
  · simp only [s1, s2, decide_true, decide_false, Bool.true_bne, Bool.not_false, if_true]
    exact key _ true false rfl rfl (decide_eq_true (by omega)) (beq_eq_false_iff_ne.2 (by omega))
  · simp only [s1, s2, decide_true, decide_false, Bool.false_bne, if_true, Bool.false_eq_true, if_false]
    exact key _ false false rfl rfl (decide_eq_false (by omega)) (beq_eq_false_iff_ne.2 (by omega))
  · simp only [s1, s2, decide_false, bne_self_eq_false, Bool.false_eq_true, if_false]
    have v1 := sval_pos (l := ofI w m) (by rw [w_ng hm]; exact decide_eq_false s1)
    have v2 := sval_pos (l := ofI w n) (by rw [w_ng hn]; exact decide_eq_false s2)
    obtain ⟨c1, c2⟩ := hc (val (ofI w m)) (val (ofI w n))
    rw [c1, c2]
    refine ⟨by congr 1; exact propext ⟨fun h => by omega, fun h => by omega⟩, ?_⟩
    by_cases e : m = n
    · subst e; simp
    · rw [decide_eq_false (by omega)]; exact (beq_eq_false_iff_ne.2 e).symm
theorem sg_lo (h : Sg w m) : -9223372036854775808 ≤ m := by
  obtain ⟨h1, h2, h3, h4⟩ := h
  have : (2 : Int) ^ (w - 1) ≤ 2 ^ 63 := by
    have := Nat.pow_le_pow_right (n := 2) (by decide) (show w - 1 ≤ 63 by omega)
    exact_mod_cast this
  omega
theorem sg_hi (h : Sg w m) : m ≤ 9223372036854775807 := by
  obtain ⟨h1, h2, h3, h4⟩ := h
  have : (2 : Int) ^ (w - 1) ≤ 2 ^ 63 := by
    have := Nat.pow_le_pow_right (n := 2) (by decide) (show w - 1 ≤ 63 by omega)
    exact_mod_cast this
  omega
theorem val_I_ne (h : Sg w m) (hm : ¬ m = 0) : ¬ val (ofI w m) = 0 := by
  intro e
  have := absN_zero.2 e
  rw [w_abs h] at this
  omega
theorem sh_l (m : Int) (s : Nat) : aShift .shl .i64 m ((s : Nat) : Int) = some (.int .i64 (IntKind.wrap .i64 (m * 2 ^ min s 64))) := by
  unfold aShift
  rw [if_neg (by omega)]
  rfl
theorem sh_r {k : IntKind} (hk : IntKind.bits k = 64) (m : Int) (s : Nat) : aShift .shr k m ((s : Nat) : Int) = some (.int k (m.fdiv (2 ^ min s 64))) := by
  unfold aShift
  rw [if_neg (by omega)]
  simp only [Int.toNat_natCast, hk]
end Go.Proofs.Yteeckncfllbokaa.X
