/- The law of signed division. -/
import Derived.Test.YteeckncfllbokaaXZ
set_option linter.unusedSimpArgs false
set_option linter.unusedVariables false
namespace Go.Proofs.Yteeckncfllbokaa.X
open Go Go.AL
theorem ng_iff {l : List Bool} (h : 0 < l.length) : ng l = decide (2 ^ (l.length - 1) ≤ val l) := by
  have hv := val_lt l
  obtain ⟨n, hn⟩ : ∃ n, l.length = n + 1 := ⟨l.length - 1, by omega⟩
  unfold ng
  rw [← val_bit, hn, Nat.add_sub_cancel, Nat.testBit_eq_decide_div_mod_eq]
  rw [hn, Nat.pow_succ] at hv
  by_cases hc : 2 ^ n ≤ val l
  · have e : val l / 2 ^ n = 1 := Nat.div_eq_of_lt_le (by omega) (by omega)
    rw [e]; simp [hc]
  · rw [Nat.div_eq_of_lt (by omega)]; simp [hc]
theorem ng_nil {l : List Bool} (h : l.length = 0) : ng l = false := by
  unfold ng
  exact bx_ge (by omega)
theorem absN_zero {l : List Bool} : absN l = 0 ↔ val l = 0 := by
  unfold absN
  have hv := val_lt l
  cases hn : ng l with
  | true => have := ng_pos hn; simp only [if_true]; omega
  | false => simp
/-- The signed value. -/
def sval (l : List Bool) : Int := if ng l then -(absN l : Int) else absN l
theorem val_sval (l : List Bool) : ∃ k : Int, (val l : Int) = sval l + 2 ^ l.length * k := by
  unfold sval absN
  have hv := val_lt l
  cases hn : ng l with
  | true =>
    refine ⟨1, ?_⟩
    simp only [if_true, Int.mul_one]
    rw [Int.ofNat_sub (by omega)]
    push_cast
    omega
  | false => exact ⟨0, by simp⟩
theorem val_neg (n x : Nat) (hx : x < 2 ^ n) : val (ofN n (2 ^ n - x % 2 ^ n)) = if x = 0 then 0 else 2 ^ n - x := by
  rw [val_ofN, Nat.mod_eq_of_lt hx]
  split
  · rename_i h; subst h; rw [Nat.sub_zero, Nat.mod_self]
  · rw [Nat.mod_eq_of_lt (by omega)]
theorem val_pos' (n x : Nat) (hx : x < 2 ^ n) : val (ofN n x) = x := by rw [val_ofN, Nat.mod_eq_of_lt hx]
theorem neg_I (n x : Nat) (hx : x < 2 ^ n) : ∃ k : Int, (val (ofN n (2 ^ n - x % 2 ^ n)) : Int) = -(x : Int) + 2 ^ n * k := by
  rw [val_neg n x hx]
  split
  · rename_i h; subst h; exact ⟨0, by simp⟩
  · refine ⟨1, ?_⟩
    rw [Int.ofNat_sub (by omega)]
    push_cast
    omega
theorem srem_lt (la lb : List Bool) : absN la % absN lb < 2 ^ la.length := Nat.lt_of_le_of_lt (Nat.mod_le _ _) (absN_lt la)
theorem squo_lt (la lb : List Bool) : absN la / absN lb < 2 ^ la.length := Nat.lt_of_le_of_lt (Nat.div_le_self _ _) (absN_lt la)
theorem srem_length (la lb : List Bool) : (srem la lb).length = la.length := by unfold srem; exact ofN_length _ _
theorem squo_length (la lb : List Bool) : (squo la lb).length = la.length := by unfold squo; exact ofN_length _ _
theorem mod_I {A : Nat} {B x y : Nat} (h : ∃ k : Int, (x : Int) = y + B * k) : x % B = y % B := by
  obtain ⟨k, hk⟩ := h
  have e : ((x % B : Nat) : Int) = ((y % B : Nat) : Int) := by
    push_cast
    rw [hk, Int.add_mul_emod_self_left]
  exact_mod_cast e
/-- a is quotient times divisor plus remainder, modulo 2^width. -/
theorem sdiv_law (la lb : List Bool) {D : Nat} (hD : ∃ k : Int, (D : Int) = sval lb + 2 ^ la.length * k) : (val (squo la lb) * D + val (srem la lb)) % 2 ^ la.length = val la % 2 ^ la.length := by
  refine mod_I (A := 0) ?_
  have hdm : absN lb * (absN la / absN lb) + absN la % absN lb = absN la := Nat.div_add_mod _ _
  have hq := squo_lt la lb
  have hr := srem_lt la lb
  obtain ⟨ka, ha⟩ := val_sval la
  obtain ⟨kd, hd⟩ := hD
  have hS : ∃ k : Int, (val (squo la lb) : Int) = (if (ng la != ng lb) then -((absN la / absN lb : Nat) : Int) else ((absN la / absN lb : Nat) : Int)) + 2 ^ la.length * k := by
    unfold squo
    split
    · exact neg_I _ _ hq
    · rw [val_pos' _ _ hq]; exact ⟨0, by simp⟩
  have hT : ∃ k : Int, (val (srem la lb) : Int) = (if ng la then -((absN la % absN lb : Nat) : Int) else ((absN la % absN lb : Nat) : Int)) + 2 ^ la.length * k := by
    unfold srem
    split
    · exact neg_I _ _ hr
    · rw [val_pos' _ _ hr]; exact ⟨0, by simp⟩
  obtain ⟨ks, hs⟩ := hS
  obtain ⟨kt, ht⟩ := hT
  have hdm' : (absN lb : Int) * ((absN la / absN lb : Nat) : Int) + ((absN la % absN lb : Nat) : Int) = (absN la : Int) := by exact_mod_cast hdm
  unfold sval at ha hd
  generalize ((absN la / absN lb : Nat) : Int) = q at *
  generalize ((absN la % absN lb : Nat) : Int) = r at *
  generalize (absN la : Int) = a at *
  generalize (absN lb : Int) = b at *
  have e1 : ((2 ^ la.length : Nat) : Int) = (2 : Int) ^ la.length := by push_cast; rfl
  rw [Int.natCast_add, Int.natCast_mul, e1]
  generalize (2 : Int) ^ la.length = N at *
  rw [hs, hd, ht, ha]
  cases ng la <;> cases ng lb <;> simp only [bne_self_eq_false, Bool.true_bne, Bool.false_bne, Bool.not_true, Bool.not_false, if_true, if_false, Bool.false_eq_true]
  · exact ⟨q * kd + ks * b + N * ks * kd + kt - ka, by grind⟩
  · exact ⟨-q * kd - ks * b + N * ks * kd + kt - ka, by grind⟩
  · exact ⟨-q * kd + ks * b + N * ks * kd + kt - ka, by grind⟩
  · exact ⟨q * kd - ks * b + N * ks * kd + kt - ka, by grind⟩
/-- The remainder: its absolute value and its sign. -/
theorem srem_abs (la lb : List Bool) : absN (srem la lb) = absN la % absN lb ∧ (val (srem la lb) = 0 ∨ ng (srem la lb) = ng la) := by
  have hr := srem_lt la lb
  have hle : absN la % absN lb ≤ absN la := Nat.mod_le _ _
  have hL := srem_length la lb
  by_cases h0 : la.length = 0
  · have hv := val_lt (srem la lb)
    rw [hL, h0] at hv
    have hv0 : val (srem la lb) = 0 := by omega
    rw [h0] at hr
    exact ⟨by rw [absN_zero.2 hv0]; omega, .inl hv0⟩
  have hp : 0 < la.length := by omega
  have hi := ng_iff (l := srem la lb) (by omega)
  have hia := ng_iff hp
  rw [hL] at hi
  obtain ⟨n, hn⟩ : ∃ n, la.length = n + 1 := ⟨la.length - 1, by omega⟩
  have hva := val_lt la
  cases hn1 : ng la with
  | true =>
    rw [hn1] at hia
    have hge : 2 ^ (la.length - 1) ≤ val la := by simpa using hia.symm
    have hab : absN la = 2 ^ la.length - val la := by unfold absN; rw [hn1, if_pos rfl]
    have hvs : val (srem la lb) = if absN la % absN lb = 0 then 0 else 2 ^ la.length - absN la % absN lb := by
      unfold srem
      rw [hn1, if_pos rfl, val_neg _ _ hr]
    rw [hn, Nat.add_sub_cancel] at hge hi
    rw [hn, Nat.pow_succ] at hva hab hvs hr
    by_cases hz : absN la % absN lb = 0
    · rw [if_pos hz] at hvs
      exact ⟨by rw [hz]; exact absN_zero.2 hvs, .inl hvs⟩
    · rw [if_neg hz] at hvs
      have hng : ng (srem la lb) = true := by rw [hi]; exact decide_eq_true (by omega)
      refine ⟨?_, .inr hng⟩
      generalize absN la % absN lb = x at *
      unfold absN
      rw [hng, if_pos rfl, hL, hvs, hn, Nat.pow_succ]
      omega
  | false =>
    rw [hn1] at hia
    have hge : val la < 2 ^ (la.length - 1) := by
      have := hia.symm
      rw [decide_eq_false_iff_not] at this
      omega
    have hab : absN la = val la := by unfold absN; rw [hn1, if_neg (by decide)]
    have hvs : val (srem la lb) = absN la % absN lb := by
      unfold srem
      rw [hn1, if_neg (by decide), val_pos' _ _ hr]
    have hng : ng (srem la lb) = false := by rw [hi]; exact decide_eq_false (by omega)
    refine ⟨?_, .inr hng⟩
    generalize absN la % absN lb = x at *
    unfold absN
    rw [hng, if_neg (by decide), hvs]
theorem udiv_law (n A B : Nat) (hA : A < 2 ^ n) : (val (ofN n (A / B)) * B + val (ofN n (A % B))) % 2 ^ n = A % 2 ^ n := by
  rw [val_pos' _ _ (Nat.lt_of_le_of_lt (Nat.div_le_self _ _) hA), val_pos' _ _ (Nat.lt_of_le_of_lt (Nat.mod_le _ _) hA), Nat.mul_comm, Nat.div_add_mod]
/-- The divisor, extended by its sign or shortened. -/
def extS (l : List Bool) (n : Nat) : List Bool := (List.range n).map fun i => if i < l.length then bx l i else ng l
theorem extS_length (l : List Bool) (n : Nat) : (extS l n).length = n := by simp [extS]
theorem bx_extS {l : List Bool} {n i : Nat} (hi : i < n) : bx (extS l n) i = if i < l.length then bx l i else ng l := by
  simp [bx, extS, List.getD_eq_getElem?_getD, hi]
theorem val_extS (l : List Bool) (n : Nat) : ∃ k : Int, (val (extS l n) : Int) = sval l + 2 ^ n * k := by
  obtain ⟨k, hk⟩ := val_sval l
  by_cases h : n ≤ l.length
  · have e : val (extS l n) = val l % 2 ^ n := by
      apply Nat.eq_of_testBit_eq
      intro i
      rw [val_bit, Nat.testBit_mod_two_pow, val_bit]
      by_cases hi : i < n
      · rw [bx_extS hi, if_pos (by omega)]; simp [hi]
      · rw [bx_ge (by rw [extS_length]; exact hi)]; simp [hi]
    rw [e]
    have e2 : ((val l % 2 ^ n : Nat) : Int) = (val l : Int) - 2 ^ n * ((val l : Int) / 2 ^ n) := by
      push_cast
      have := Int.emod_add_mul_ediv (val l : Int) (2 ^ n)
      omega
    obtain ⟨d, hd⟩ : ∃ d, l.length = n + d := ⟨l.length - n, by omega⟩
    rw [e2, hk, hd, Int.pow_add]
    exact ⟨2 ^ d * k - (sval l + 2 ^ n * 2 ^ d * k) / 2 ^ n, by grind⟩
  · have hl := val_lt l
    obtain ⟨d, hd⟩ : ∃ d, n = l.length + d := ⟨n - l.length, by omega⟩
    cases hn : ng l with
    | false =>
      have e : val (extS l n) = val l := by
        apply Nat.eq_of_testBit_eq
        intro i
        rw [val_bit, val_bit]
        by_cases hi : i < n
        · rw [bx_extS hi, hn]
          split
          · rfl
          · rename_i h2; rw [bx_ge h2]
        · rw [bx_ge (by rw [extS_length]; exact hi), bx_ge (by omega)]
      refine ⟨0, ?_⟩
      rw [e]
      unfold sval absN
      rw [hn]
      simp
    | true =>
      have e : val (extS l n) = val l + 2 ^ l.length * (2 ^ d - 1) := by
        apply Nat.eq_of_testBit_eq
        intro i
        rw [Nat.add_comm, Nat.testBit_two_pow_mul_add _ hl, val_bit]
        by_cases hi : i < l.length
        · rw [bx_extS (by omega), if_pos hi, if_pos hi, val_bit]
        · rw [if_neg hi, Nat.testBit_two_pow_sub_one]
          by_cases hi2 : i < n
          · rw [bx_extS hi2, if_neg hi, hn]
            have : i - l.length < d := by omega
            simp [this]
          · rw [bx_ge (by rw [extS_length]; exact hi2)]
            have : ¬ i - l.length < d := by omega
            simp [this]
      rw [e]
      refine ⟨1, ?_⟩
      have hp := Nat.two_pow_pos d
      have e3 : ((val l + 2 ^ l.length * (2 ^ d - 1) : Nat) : Int) = (val l : Int) + 2 ^ l.length * (2 ^ d - 1) := by
        rw [Int.natCast_add, Int.natCast_mul, Int.ofNat_sub (by omega)]
        push_cast
        rfl
      rw [e3]
      unfold sval absN
      rw [hn, if_pos rfl, if_pos rfl, hd, Int.ofNat_sub (by omega), Int.pow_add]
      push_cast
      grind
theorem sdiv_same (la lb : List Bool) {D : List Bool} (hD : D = extS lb la.length) : ofN (ofN (squo la lb).length (val (squo la lb) * val D)).length (val (ofN (squo la lb).length (val (squo la lb) * val D)) + val (srem la lb)) = la := by
  subst hD
  rw [ofN_length, squo_length]
  conv => rhs; rw [← ofN_val la]
  refine ofN_eq ?_
  rw [val_ofN, Nat.add_mod, Nat.mod_mod, ← Nat.add_mod]
  exact sdiv_law la lb (val_extS lb la.length)
theorem udiv_same (la lb : List Bool) : ofN la.length (val la / val lb * val lb + val la % val lb) = la := by
  rw [Nat.mul_comm, Nat.div_add_mod, ofN_val]
/-- Lengths. -/
theorem SL : type_of% (And.intro ofN_length <| And.intro ofI_length <| And.intro shrF_length <| And.intro squo_length <| And.intro srem_length <| And.intro extS_length <| And.intro @List.length_append.{0} <| And.intro @List.length_replicate.{0} <| And.intro @List.length_cons.{0} <| @List.length_nil.{0}) := And.intro ofN_length <| And.intro ofI_length <| And.intro shrF_length <| And.intro squo_length <| And.intro srem_length <| And.intro extS_length <| And.intro @List.length_append.{0} <| And.intro @List.length_replicate.{0} <| And.intro @List.length_cons.{0} <| @List.length_nil.{0}
/-- The divisor in the loop of BvDivision. -/
def extK (l : List Bool) (n k : Nat) : List Bool := (List.range n).map fun i => if i < l.length then bx l i else (decide (i < l.length + k) && ng l)
theorem extK_length (l : List Bool) (n k : Nat) : (extK l n k).length = n := by simp [extK]
theorem extK_zero (l : List Bool) (n : Nat) : ofN n (val l) = extK l n 0 := by
  refine List.map_congr_left fun i hi => ?_
  rw [val_bit]
  by_cases h : i < l.length
  · rw [if_pos h]
  · rw [if_neg h, bx_ge h]; simp [h]
theorem extK_set {l : List Bool} {n k : Nat} (h : l.length + k < n) : (extK l n k).set (l.length + k) (bx l (l.length - 1)) = extK l n (k + 1) := by
  apply List.ext_getElem?
  intro i
  rw [List.getElem?_set]
  by_cases hik : l.length + k = i
  · subst hik
    rw [if_pos rfl, if_pos (by rw [extK_length]; exact h)]
    simp [extK, h, ng]
    intro h1
    omega
  · rw [if_neg hik]
    by_cases hi : i < n
    · simp only [extK, List.getElem?_map, List.getElem?_range hi, Option.map_some]
      have : (i < l.length + (k + 1)) ↔ (i < l.length + k) ∨ False := by
        constructor
        · intro h1; exact .inl (by omega)
        · rintro (h1 | h1)
          · omega
          · cases h1
      simp only [this, or_false]
    · simp [extK, hi]
theorem extK_full (l : List Bool) (n : Nat) : extK l n (n - l.length) = extS l n := by
  refine List.map_congr_left fun i hi => ?_
  have hi := List.mem_range.1 hi
  by_cases h : i < l.length
  · rw [if_pos h, if_pos h]
  · rw [if_neg h, if_neg h, decide_eq_true (by omega), Bool.true_and]
theorem zero_step (X k : Nat) : decide (X % 2 ^ (k + 1) = 0) = (decide (X % 2 ^ k = 0) && !X.testBit k) := by
  have e : X % 2 ^ (k + 1) = X % 2 ^ k + 2 ^ k * (X.testBit k).toNat := by
    rw [Nat.mod_pow_succ]
    congr 1
    rw [Nat.testBit_eq_decide_div_mod_eq]
    rcases Nat.mod_two_eq_zero_or_one (X / 2 ^ k) with h | h <;> rw [h] <;> simp
  have hp := Nat.two_pow_pos k
  rw [e]
  cases X.testBit k with
  | true => simp only [Bool.toNat_true, Nat.mul_one, Bool.not_true, Bool.and_false, decide_eq_false_iff_not]; omega
  | false => simp
theorem cmp_eq0 (A : Nat) : (cmpN A (val []) == 0) = decide (A = 0) := by
  unfold cmpN
  by_cases h : A = 0
  · rw [h]; rfl
  · rw [if_neg (show ¬ A < val [] from Nat.not_lt_zero _), if_neg (show ¬ A = val [] from h), decide_eq_false h]; rfl
variable {ext : Nat → Option (List Value → AH → Option (Value × AH))}
/-- Long, of one and of two vectors -/
theorem Long1 (hx : Ext0 ext) {H : AH} {id : Nat} {a1 : Option Addr} {n1 c1 : Nat} (hb : H.t.get id = some ⟨[.slice a1 n1 c1], 0⟩) : Run (Cx ext) 13 [.slice (some ⟨id, 0, none⟩) 1 1] H fun r H' => H' = H ∧ r = .bool (decide (140 < n1)) := by
  refine (Long_any hx (vs := [.slice a1 n1 c1]) (ns := [n1]) (cap := 1) hb rfl (fun i n h => by
    match i, h with
    | 0, h => exact ⟨a1, c1, by rw [← Option.some.inj h]; rfl⟩) (by simp)).mono fun r H' hr => ⟨hr.1, ?_⟩
  rw [hr.2]
  simp
theorem Long2 (hx : Ext0 ext) {H : AH} {id : Nat} {a1 a2 : Option Addr} {n1 c1 n2 c2 : Nat} (hb : H.t.get id = some ⟨[.slice a1 n1 c1, .slice a2 n2 c2], 0⟩) : Run (Cx ext) 13 [.slice (some ⟨id, 0, none⟩) 2 2] H fun r H' => H' = H ∧ r = .bool (decide (140 < n1 ∨ 140 < n2)) := by
  refine (Long_any hx (vs := [.slice a1 n1 c1, .slice a2 n2 c2]) (ns := [n1, n2]) (cap := 2) hb rfl (fun i n h => by
    match i, h with
    | 0, h => exact ⟨a1, c1, by rw [← Option.some.inj h]; rfl⟩
    | 1, h => exact ⟨a2, c2, by rw [← Option.some.inj h]; rfl⟩) (by simp)).mono fun r H' hr => ⟨hr.1, ?_⟩
  rw [hr.2]
  simp [Bool.decide_or]
end Go.Proofs.Yteeckncfllbokaa.X
