/- slices.Repeat; norm, fill and what stands on them. -/
import Derived.Test.YtdgbdkfoeaollaaGreatDoorVC
set_option linter.unusedSimpArgs false
set_option linter.unusedVariables false
namespace Go.Proofs.YtdgbdkfoeaollaaGreatDoor.V
open Go Go.AL Go.SX
theorem fwu {x : Int} (h : 0 ≤ x ∧ x < 2 ^ 62) : fwrap .u64 x = x := by
  rw [fwrap_eq]
  unfold IntKind.wrap
  simp only [show IntKind.bits .u64 = 64 from rfl, show IntKind.signed .u64 = false from rfl, Bool.false_and]
  show (if false = true then _ else x % 2 ^ 64) = x
  rw [if_neg (by simp)]
  omega
theorem andm {x : Int} (h : 0 ≤ x ∧ x < 2 ^ 32) : arS .and .u64 x 4294967295 = x := by
  obtain ⟨n, rfl⟩ := Int.eq_ofNat_of_zero_le h.1
  have hn : n < 2 ^ 32 := by omega
  show IntKind.u64.wrap ((BitVec.ofInt 64 (n : Int) &&& BitVec.ofInt 64 4294967295).toNat : Int) = _
  have e : (BitVec.ofInt 64 (n : Int) &&& BitVec.ofInt 64 4294967295).toNat = n := by
    rw [BitVec.toNat_and]
    have e1 : (BitVec.ofInt 64 (n : Int)).toNat = n := by simp [BitVec.toNat_ofInt]; omega
    have e2 : (BitVec.ofInt 64 4294967295).toNat = 2 ^ 32 - 1 := by decide
    rw [e1, e2, Nat.and_two_pow_sub_one_eq_mod]
    omega
  rw [e, ← fwrap_eq]
  exact fwu (by omega)
theorem shr32 {x : Int} (h : 0 ≤ x ∧ x < 2 ^ 32) : shS .shr .u64 x 32 = 0 := by
  show x.fdiv (2 ^ (Nat.min (32 : Int).toNat 64)) = 0
  have : (2 : Int) ^ (Nat.min (32 : Int).toNat 64) = 2 ^ 32 := rfl
  rw [this, Int.fdiv_eq_ediv_of_nonneg _ (by decide)]
  omega
set_option maxRecDepth 8000 in
theorem mul64_ok (x y : Int) (hx : 0 ≤ x ∧ x < 2 ^ 32) (hy : 0 ≤ y ∧ y < 2 ^ 32) (hxy : x * y < 2 ^ 32) : FvC CX TB (.f 195 [] []) [.i .u64 x, .i .u64 y] [] (fun r ro => ∃ a b, r = .t [.i .u64 a, .i .u64 b] ∧ ro = [] ∧ a = 0 ∧ b = x * y) := by
  have hp : 0 ≤ x * y := Int.mul_nonneg hx.1 hy.1
  refine fn_ok rfl rfl fun B D G hG q hq => ?_
  cbv
  subst hG
  have e1 := andm hx
  have e2 := andm hy
  have e3 := shr32 hx
  have e4 := shr32 hy
  have e5 : arS .mul .u64 x y = x * y := fwu ⟨hp, by omega⟩
  have e6 := shr32 ⟨hp, hxy⟩
  have z1 : arS .mul .u64 x 0 = 0 := by show fwrap .u64 (x * 0) = 0; rw [Int.mul_zero]; rfl
  have z2 : arS .mul .u64 0 y = 0 := by show fwrap .u64 (0 * y) = 0; rw [Int.zero_mul]; rfl
  have z3 : arS .add .u64 0 0 = 0 := rfl
  have z4 : arS .and .u64 0 4294967295 = 0 := by decide
  have z5 : shS .shr .u64 0 32 = 0 := by decide
  have z6 : arS .mul .u64 0 0 = 0 := rfl
  have nn : (0 : Int) ≤ 32 := by decide
  refine ⟨nn, nn, nn, nn, nn, hq _ _ ⟨_, _, rfl, rfl, ?_, e5⟩⟩
  show arS .add .u64 (arS .add .u64 (arS .mul .u64 (shS .shr .u64 x 32) (shS .shr .u64 y 32)) (shS .shr .u64 (arS .add .u64 (arS .mul .u64 (shS .shr .u64 x 32) (arS .and .u64 y 4294967295)) (shS .shr .u64 (arS .mul .u64 (arS .and .u64 x 4294967295) (arS .and .u64 y 4294967295)) 32)) 32)) (shS .shr .u64 (arS .add .u64 (arS .and .u64 (arS .add .u64 (arS .mul .u64 (shS .shr .u64 x 32) (arS .and .u64 y 4294967295)) (shS .shr .u64 (arS .mul .u64 (arS .and .u64 x 4294967295) (arS .and .u64 y 4294967295)) 32)) 4294967295) (arS .mul .u64 (arS .and .u64 x 4294967295) (shS .shr .u64 y 32))) 32) = 0
  simp only [e1, e2, e3, e4, e5, e6, z1, z2, z3, z4, z5, z6]
theorem mul_ok (x y : Int) (hx : 0 ≤ x ∧ x < 2 ^ 32) (hy : 0 ≤ y ∧ y < 2 ^ 32) (hxy : x * y < 2 ^ 32) : FvC CX TB (.f 166 [] []) [.i .u64 x, .i .u64 y] [] (fun r ro => ∃ a b, r = .t [.i .u64 a, .i .u64 b] ∧ ro = [] ∧ a = 0 ∧ b = x * y) := by
  refine fn_ok rfl rfl fun B D G hG q hq => ?_
  cbv
  refine call hG [] (mul64_ok x y hx hy hxy) ⟨rfl, rfl, rfl⟩ ?_
  rintro _ _ ⟨a, b, rfl, rfl, ha, hb⟩
  cbv
  exact hq _ _ ⟨_, _, rfl, rfl, ha, hb⟩
/-- c copies of l. -/
def repL (l : List Int) (c : Nat) : List Int := (List.range (l.length * c)).map fun i => gu l (i % l.length : Nat)
theorem cpS_get {L ms : List Int} {n : Nat} (h : n + ms.length ≤ L.length) (i : Nat) : gu (cpS L n ms) i = if n ≤ i ∧ i < n + ms.length then gu ms (i - n : Nat) else gu L i := by
  unfold gu cpS
  simp only [Int.toNat_natCast]
  have hn : (L.take n).length = n := by rw [List.length_take]; omega
  by_cases h1 : i < n
  · rw [List.getElem?_append_left (by omega), List.getElem?_take, if_pos h1, if_neg (by omega)]
  · rw [List.getElem?_append_right (by omega), hn]
    by_cases h2 : i < n + ms.length
    · rw [List.getElem?_append_left (by omega), if_pos ⟨by omega, h2⟩]
    · rw [List.getElem?_append_right (by omega), List.getElem?_drop, if_neg (by omega), show n + ms.length + (i - n - ms.length) = i by omega]
theorem cpS_len {L ms : List Int} {n : Nat} (h : n + ms.length ≤ L.length) : (cpS L n ms).length = L.length := by
  simp only [cpS, List.length_append, List.length_take, List.length_drop, Int.toNat_natCast]; omega
theorem gu_take {L : List Int} {k i : Nat} (h : i < k) : gu (L.take k) i = gu L i := by
  unfold gu
  rw [Int.toNat_natCast, List.getElem?_take, if_pos h]
theorem repL_len (l : List Int) (c : Nat) : (repL l c).length = l.length * c := by simp [repL]
theorem repL_get {l : List Int} {c i : Nat} (h : i < l.length * c) : gu (repL l c) i = gu l (i % l.length : Nat) := by
  unfold gu repL
  rw [Int.toNat_natCast, List.getElem?_map, List.getElem?_range h]
  rfl
theorem repeat_ok (l : List Int) (c : Int) (hl : l.length < 2 ^ 15) (hc : 0 ≤ c ∧ c < 2 ^ 15) : FvC CX TB (.f 108 [] []) [.u l, .i .i64 c] [] (RU (repL l c.toNat)) := by
  obtain ⟨c0, hc0, hcl⟩ : ∃ n : Nat, c = (n : Int) ∧ n < 2 ^ 15 := ⟨c.toNat, by omega, by omega⟩
  have hT : l.length * c0 < 2 ^ 30 := Nat.lt_of_le_of_lt (Nat.mul_le_mul (Nat.le_of_lt_succ (show l.length < 2 ^ 15 - 1 + 1 by omega)) (Nat.le_of_lt_succ (show c0 < 2 ^ 15 - 1 + 1 by omega))) (by decide)
  refine fn_ok rfl rfl fun B D G hG q hq => ?_
  cbv
  refine SX.ite hG (fun h1 => ?_) (fun h1 => ?_)
  · exfalso
    rw [hG] at h1
    have h2 : c < 0 := of_decide_eq_true h1
    omega
  have u1 : G.cv .u64 (G.lu l) = (l.length : Int) := by subst hG; show fwrap .u64 (l.length : Int) = _; exact fwu (by omega)
  have u2 : G.cv .u64 c = c := by subst hG; show fwrap .u64 c = _; exact fwu (by omega)
  have hb : (l.length : Int) * c = ((l.length * c0 : Nat) : Int) := by rw [hc0, Int.natCast_mul]
  refine call hG [] (mul_ok (G.cv .u64 (G.lu l)) (G.cv .u64 c) (by rw [u1]; omega) (by rw [u2]; omega) (by rw [u1, u2, hb]; omega)) ⟨rfl, rfl, rfl⟩ ?_
  rintro _ _ ⟨a, b, rfl, rfl, ha, hb2⟩
  cbv
  rw [u1, u2, hb] at hb2
  have hcv : G.cv .i64 b = ((l.length * c0 : Nat) : Int) := by
    have h0 : ((l.length * c0 : Nat) : Int) < 2 ^ 62 := by omega
    subst hG hb2
    exact fwi (x := ((l.length * c0 : Nat) : Int)) ⟨by omega, h0⟩
  refine SX.ite hG (fun h2 => ?_) (fun h2 => ?_)
  · exfalso
    rw [ha, hG] at h2
    cases h2
  refine SX.ite hG (fun h3 => ?_) (fun h3 => ?_)
  · exfalso
    rw [hb2, hG] at h3
    have := of_decide_eq_true h3
    have h4 : ((l.length * c0 : Nat) : Int) > 9223372036854775807 := this
    omega
  have hmk : G.mk0 (G.cv .i64 b) := by rw [hcv, hG]; exact ⟨Int.natCast_nonneg _, by omega⟩
  refine ⟨hmk, ?_⟩
  have q1 : G.ru (G.cv .i64 b) = List.replicate (l.length * c0) 0 := by rw [hcv, hG]; rfl
  have q2 : G.mn (G.lu l) (G.lu (G.ru (G.cv .i64 b))) = ((Nat.min l.length (l.length * c0) : Nat) : Int) := by
    rw [q1, hG]
    show AL.mn (l.length : Int) ((List.replicate (l.length * c0) (0 : Int)).length : Int) = _
    rw [List.length_replicate]; exact mn_nat _ _
  have q3 : G.cp (G.ru (G.cv .i64 b)) 0 (G.tu l (G.mn (G.lu l) (G.lu (G.ru (G.cv .i64 b))))) = cpS (List.replicate (l.length * c0) 0) ((0 : Nat) : Int) (l.take (Nat.min l.length (l.length * c0))) := by
    rw [q2, q1, hG]; rfl
  have hmin : Nat.min l.length (l.length * c0) = if c0 = 0 then 0 else l.length := by
    show min l.length (l.length * c0) = _
    split
    · rename_i e; subst e; simp
    · rename_i e; exact Nat.min_eq_left (Nat.le_mul_of_pos_right _ (Nat.pos_of_ne_zero e))
  have hml : Nat.min l.length (l.length * c0) ≤ l.length ∧ Nat.min l.length (l.length * c0) ≤ l.length * c0 := ⟨Nat.min_le_left _ _, Nat.min_le_right _ _⟩
  have htl : (l.take (Nat.min l.length (l.length * c0))).length = Nat.min l.length (l.length * c0) := by rw [List.length_take]; omega
  refine lp hG (α := Int × List Int) (fun p => ∃ n : Nat, p.1 = (n : Int) ∧ n ≤ l.length * c0 ∧ p.2.length = l.length * c0 ∧ (n % l.length = 0 ∨ n = l.length * c0) ∧ (∀ i : Nat, i < n → gu p.2 i = gu l (i % l.length : Nat)) ∧ (0 < l.length * c0 → 0 < n)) (fun p => l.length * c0 - p.1.toNat) (fun s p => (s.put (some 8) (.i .i64 p.1)).setO 0 (.u p.2)) (G.mn (G.lu l) (G.lu (G.ru (G.cv .i64 b))), G.cp (G.ru (G.cv .i64 b)) 0 (G.tu l (G.mn (G.lu l) (G.lu (G.ru (G.cv .i64 b)))))) ?_ (by constructor <;> cbv <;> simp) ?_
  · refine ⟨Nat.min l.length (l.length * c0), q2, hml.2, ?_, ?_, ?_, ?_⟩
    · show (G.cp _ _ _).length = _
      rw [q3, cpS_len (by rw [htl, List.length_replicate]; omega), List.length_replicate]
    · rw [hmin]; split
      · exact .inl (Nat.zero_mod _)
      · exact .inl (Nat.mod_self _)
    · intro i hi
      show gu (G.cp _ _ _) i = _
      rw [q3, cpS_get (by rw [htl, List.length_replicate]; omega), if_pos (by rw [htl]; omega), Nat.sub_zero, gu_take hi, Nat.mod_eq_of_lt (by omega)]
    · intro h
      rw [hmin]
      have h1 : c0 ≠ 0 := fun e => by subst e; simp at h
      have h2 : l.length ≠ 0 := fun e => by rw [e] at h; simp at h
      rw [if_neg h1]; omega
  rintro ⟨j, L⟩ ⟨n, hj, hn, hL, hd, hi, hp⟩
  have hj : j = (n : Int) := hj
  have hL : L.length = l.length * c0 := hL
  have hi : ∀ i : Nat, i < n → gu L i = gu l (i % l.length : Nat) := hi
  cbv
  have hj : j = (n : Int) := hj
  refine SX.ite hG (fun h4 => ?_) (fun h4 => ?_)
  · have h4 : n < l.length * c0 := by
      rw [hG] at h4
      have := of_decide_eq_true h4
      have h5 : j < (L.length : Int) := this
      omega
    have r1 : G.tu (G.du L 0) j = L.take n := by rw [hG, hj]; rfl
    have r2 : G.sb (G.lu L) j = ((l.length * c0 - n : Nat) : Int) := by rw [hG, hj]; show (L.length : Int) - (n : Int) = _; omega
    have htn : (L.take n).length = n := by rw [List.length_take]; omega
    have r3 : G.mn (G.lu (G.tu (G.du L 0) j)) (G.sb (G.lu L) j) = ((Nat.min n (l.length * c0 - n) : Nat) : Int) := by
      rw [r1, r2, hG]
      show AL.mn ((L.take n).length : Int) ((l.length * c0 - n : Nat) : Int) = _
      rw [htn]; exact mn_nat _ _
    have hm : Nat.min n (l.length * c0 - n) ≤ n ∧ Nat.min n (l.length * c0 - n) ≤ l.length * c0 - n := ⟨Nat.min_le_left _ _, Nat.min_le_right _ _⟩
    have hm0 : 0 < Nat.min n (l.length * c0 - n) := Nat.lt_min.2 ⟨hp (by omega), by omega⟩
    have htt : ((L.take n).take (Nat.min n (l.length * c0 - n))).length = Nat.min n (l.length * c0 - n) := by rw [List.length_take, htn]; omega
    have r4 : G.cp L j (G.tu (G.tu (G.du L 0) j) (G.mn (G.lu (G.tu (G.du L 0) j)) (G.sb (G.lu L) j))) = cpS L n ((L.take n).take (Nat.min n (l.length * c0 - n))) := by
      rw [r3, r1, hG, hj]; rfl
    have r5 : G.ar .add .i64 j (G.mn (G.lu (G.tu (G.du L 0) j)) (G.sb (G.lu L) j)) = ((n + Nat.min n (l.length * c0 - n) : Nat) : Int) := by
      rw [r3, hj, addi hG (by omega)]; omega
    have v1 : G.le j (G.lu L) := by rw [hG, hj]; show 0 ≤ (n : Int) ∧ (n : Int) ≤ (L.length : Int); omega
    refine ⟨v1, v1, okd hG rfl ?_⟩
    refine ⟨(G.ar .add .i64 j (G.mn (G.lu (G.tu (G.du L 0) j)) (G.sb (G.lu L) j)), G.cp L j (G.tu (G.tu (G.du L 0) j) (G.mn (G.lu (G.tu (G.du L 0) j)) (G.sb (G.lu L) j)))), ⟨n + Nat.min n (l.length * c0 - n), r5, by omega, ?_, ?_, ?_, ?_⟩, ?_, by constructor <;> cbv <;> simp⟩
    · show (G.cp _ _ _).length = _
      rw [r4, cpS_len (by rw [htt]; omega), hL]
    · by_cases hc : n ≤ l.length * c0 - n
      · have : Nat.min n (l.length * c0 - n) = n := Nat.min_eq_left hc
        rw [this]
        rcases hd with hd | hd
        · exact .inl (by rw [Nat.add_mod, hd]; exact Nat.zero_mod _)
        · omega
      · have : Nat.min n (l.length * c0 - n) = l.length * c0 - n := Nat.min_eq_right (by omega)
        rw [this]
        exact .inr (by omega)
    · intro i hlt
      show gu (G.cp _ _ _) i = _
      rw [r4, cpS_get (by rw [htt]; omega), htt]
      by_cases hni : n ≤ i
      · rw [if_pos ⟨hni, hlt⟩, gu_take (by omega), gu_take (by omega), hi _ (by omega)]
        rcases hd with hd | hd
        · have : (i - n) % l.length = i % l.length := by
            obtain ⟨k, hk⟩ := Nat.dvd_of_mod_eq_zero hd
            rw [hk, Nat.sub_mul_mod]
            rw [← hk]; exact hni
          rw [this]
        · omega
      · rw [if_neg (by omega)]; exact hi i (by omega)
    · intro _; omega
    · show l.length * c0 - (G.ar _ _ _ _).toNat < l.length * c0 - j.toNat
      rw [r5, hj, Int.toNat_natCast, Int.toNat_natCast]; omega
  · have h4 : l.length * c0 ≤ n := by
      rw [hG] at h4
      have := of_decide_eq_false h4
      have h5 : ¬ j < (L.length : Int) := this
      omega
    refine hq _ _ ⟨_, rfl, rfl, ?_⟩
    refine gu_ext (by rw [hL, repL_len, hc0]; rfl) fun i hlt => ?_
    rw [hi i (by omega), repL_get (by rw [hc0]; show i < l.length * c0; omega)]
end Go.Proofs.YtdgbdkfoeaollaaGreatDoor.V
