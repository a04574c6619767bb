/- Contracts of a few functions where nothing is told from without (out of VA to VE, by program). -/
import Derived.Test.YtdgbdkfoeaollaaDoorVE
import Derived.Test.YtdgbdkfoeaollaaDoorALe
set_option linter.unusedSimpArgs false
set_option linter.unusedVariables false
namespace Go.Proofs.YtdgbdkfoeaollaaDoor.V0
open Go Go.AL Go.SX Go.Proofs.YtdgbdkfoeaollaaDoor.V
noncomputable abbrev CX : Ctx := ⟨IR.ft, noExt⟩
theorem inc {B : AH} {D : Bs} {G : Sg} (hG : G = std CX TB B D) {j : Int} {n : Nat} (hj : j = (n : Int)) (hn : n < 2 ^ 40) : G.ar .add .i64 j (Int.ofNat 1) = ((n + 1 : Nat) : Int) := by
  subst hG hj
  show fwrap .i64 ((n : Int) + 1) = _
  rw [fwi (by omega)]; rfl
theorem addi {B : AH} {D : Bs} {G : Sg} (hG : G = std CX TB B D) {a b : Int} (h : -(2 ^ 62) ≤ a + b ∧ a + b < 2 ^ 62) : G.ar .add .i64 a b = a + b := by
  subst hG; exact fwi h
theorem valid_ok (x : Int) : FvC CX TB (.f 111 [] []) [.i .u8 x] [] (RB (decide (x ≤ 3))) := by
  refine fn_ok rfl rfl fun B D G hG q hq => ?_
  cbv
  subst hG
  exact hq _ _ ⟨_, rfl, rfl, rfl⟩
theorem clone_ok (l : List Int) (hl : l ≠ []) (hn : l.length < 2 ^ 20) : FvC CX TB (.f 93 [] []) [.u l] [] (RU l) := by
  refine fn_ok rfl rfl fun B D G hG q hq => ?_
  cbv
  subst hG
  exact ⟨fun h => absurd h hl, by simp only [std]; omega, hq _ _ ⟨_, rfl, rfl, rfl⟩⟩
theorem check_ok (l : List Int) (s : Bool) : FvC CX TB (.f 92 [] []) [.a [.u l, .b s]] [] (RI .i64 (chk l)) := by
  refine fn_ok rfl rfl fun B D G hG q hq => ?_
  cbv
  refine SX.ite hG (fun h1 => ?_) (fun h1 => ?_)
  · have h1 : l.length = 0 := by simpa [hG, std, cmpS, arS, beqS] using h1
    exact hq _ _ ⟨_, rfl, rfl, by simp [chk, h1]⟩
  have h1 : l.length ≠ 0 := by simpa [hG, std, cmpS, arS, beqS] using h1
  refine SX.ite hG (fun h2 => ?_) (fun h2 => ?_)
  · have h2 : 128 < l.length := by have hq_ := h2; simp [hG, std, cmpS, arS, beqS] at hq_; omega
    exact hq _ _ ⟨_, rfl, rfl, by rw [chk, if_neg h1, if_pos (by omega)]; rfl⟩
  have h2 : l.length ≤ 128 := by have hq_ := h2; simp [hG, std, cmpS, arS, beqS] at hq_; omega
  have hchk : chk l = if l.all (fun x => decide (x ≤ 3)) then 0 else 1 := by rw [chk, if_neg h1, if_neg (by omega)]
  refine lp hG (α := Int) (fun j => ∃ n : Nat, j = (n : Int) ∧ n ≤ l.length ∧ ∀ i : Nat, i < n → gu l i ≤ 3) (fun j => l.length - j.toNat) (fun s j => s.put (some 18) (.i .i64 j)) 0 ⟨0, rfl, Nat.zero_le _, by simp⟩ (by constructor <;> cbv <;> simp) ?_
  rintro j ⟨n, hj, hn, hi⟩
  cbv
  refine SX.ite hG (fun h3 => ?_) (fun h3 => ?_)
  · have h3 : n < l.length := by simpa [hG, std, cmpS, arS, beqS, hj] using h3
    refine ⟨by simp [hG, std, hj, h3], ?_⟩
    refine call hG [] (valid_ok _) ⟨rfl, rfl, rfl⟩ ?_
    rintro _ _ ⟨c, rfl, rfl, hc⟩
    cbv
    have hgu : G.gu l j = gu l n := by rw [hG, hj]; rfl
    rw [hgu] at hc
    refine SX.ite hG (fun h4 => ?_) (fun h4 => ?_)
    · refine hq _ _ ⟨_, rfl, rfl, ?_⟩
      rw [hchk, if_neg]
      · rfl
      · intro ha
        have := List.all_eq_true.1 ha _ (gu_mem h3)
        simp [hG, std, hc] at h4 this
        omega
    · exact ⟨G.ar .add .i64 j (Int.ofNat 1), ⟨n + 1, inc hG hj (by omega), h3, fun i hlt => by rcases Nat.lt_succ_iff_lt_or_eq.1 hlt with h | rfl; exact hi i h; simpa [hG, std, hc] using h4⟩, mu hj (inc hG hj (by omega)) h3, by constructor <;> cbv <;> simp⟩
  · have h3 : l.length ≤ n := by simpa [hG, std, cmpS, arS, beqS, hj] using h3
    refine hq _ _ ⟨_, rfl, rfl, ?_⟩
    rw [hchk, if_pos (all_gu fun i hlt => decide_eq_true (hi i (by omega)))]
    rfl
set_option maxRecDepth 8000 in
theorem mul64_ok (x y : Int) (hx : 0 ≤ x ∧ x < 2 ^ 32) (hy : 0 ≤ y ∧ y < 2 ^ 32) (hxy : x * y < 2 ^ 32) : FvC CX TB (.f 115 [] []) [.i .u64 x, .i .u64 y] [] (fun r ro => ∃ a b, r = .t [.i .u64 a, .i .u64 b] ∧ ro = [] ∧ a = 0 ∧ b = x * y) := by
  have hp : 0 ≤ x * y := Int.mul_nonneg hx.1 hy.1
  refine fn_ok rfl rfl fun B D G hG q hq => ?_
  cbv
  subst hG
  have e1 := andm hx
  have e2 := andm hy
  have e3 := shr32 hx
  have e4 := shr32 hy
  have e5 : arS .mul .u64 x y = x * y := fwu ⟨hp, by omega⟩
  have e6 := shr32 ⟨hp, hxy⟩
  have z1 : arS .mul .u64 x 0 = 0 := by show fwrap .u64 (x * 0) = 0; rw [Int.mul_zero]; rfl
  have z2 : arS .mul .u64 0 y = 0 := by show fwrap .u64 (0 * y) = 0; rw [Int.zero_mul]; rfl
  have z3 : arS .add .u64 0 0 = 0 := rfl
  have z4 : arS .and .u64 0 4294967295 = 0 := by decide
  have z5 : shS .shr .u64 0 32 = 0 := by decide
  have z6 : arS .mul .u64 0 0 = 0 := rfl
  have nn : (0 : Int) ≤ 32 := by decide
  refine ⟨nn, nn, nn, nn, nn, hq _ _ ⟨_, _, rfl, rfl, ?_, e5⟩⟩
  show arS .add .u64 (arS .add .u64 (arS .mul .u64 (shS .shr .u64 x 32) (shS .shr .u64 y 32)) (shS .shr .u64 (arS .add .u64 (arS .mul .u64 (shS .shr .u64 x 32) (arS .and .u64 y 4294967295)) (shS .shr .u64 (arS .mul .u64 (arS .and .u64 x 4294967295) (arS .and .u64 y 4294967295)) 32)) 32)) (shS .shr .u64 (arS .add .u64 (arS .and .u64 (arS .add .u64 (arS .mul .u64 (shS .shr .u64 x 32) (arS .and .u64 y 4294967295)) (shS .shr .u64 (arS .mul .u64 (arS .and .u64 x 4294967295) (arS .and .u64 y 4294967295)) 32)) 4294967295) (arS .mul .u64 (arS .and .u64 x 4294967295) (shS .shr .u64 y 32))) 32) = 0
  simp only [e1, e2, e3, e4, e5, e6, z1, z2, z3, z4, z5, z6]
theorem mul_ok (x y : Int) (hx : 0 ≤ x ∧ x < 2 ^ 32) (hy : 0 ≤ y ∧ y < 2 ^ 32) (hxy : x * y < 2 ^ 32) : FvC CX TB (.f 100 [] []) [.i .u64 x, .i .u64 y] [] (fun r ro => ∃ a b, r = .t [.i .u64 a, .i .u64 b] ∧ ro = [] ∧ a = 0 ∧ b = x * y) := by
  refine fn_ok rfl rfl fun B D G hG q hq => ?_
  cbv
  refine call hG [] (mul64_ok x y hx hy hxy) ⟨rfl, rfl, rfl⟩ ?_
  rintro _ _ ⟨a, b, rfl, rfl, ha, hb⟩
  cbv
  exact hq _ _ ⟨_, _, rfl, rfl, ha, hb⟩
theorem repeat_ok (l : List Int) (c : Int) (hl : l.length < 2 ^ 15) (hc : 0 ≤ c ∧ c < 2 ^ 15) : FvC CX TB (.f 69 [] []) [.u l, .i .i64 c] [] (RU (repL l c.toNat)) := by
  obtain ⟨c0, hc0, hcl⟩ : ∃ n : Nat, c = (n : Int) ∧ n < 2 ^ 15 := ⟨c.toNat, by omega, by omega⟩
  have hT : l.length * c0 < 2 ^ 30 := Nat.lt_of_le_of_lt (Nat.mul_le_mul (Nat.le_of_lt_succ (show l.length < 2 ^ 15 - 1 + 1 by omega)) (Nat.le_of_lt_succ (show c0 < 2 ^ 15 - 1 + 1 by omega))) (by decide)
  refine fn_ok rfl rfl fun B D G hG q hq => ?_
  cbv
  refine SX.ite hG (fun h1 => ?_) (fun h1 => ?_)
  · exfalso
    rw [hG] at h1
    have h2 : c < 0 := of_decide_eq_true h1
    omega
  have u1 : G.cv .u64 (G.lu l) = (l.length : Int) := by subst hG; show fwrap .u64 (l.length : Int) = _; exact fwu (by omega)
  have u2 : G.cv .u64 c = c := by subst hG; show fwrap .u64 c = _; exact fwu (by omega)
  have hb : (l.length : Int) * c = ((l.length * c0 : Nat) : Int) := by rw [hc0, Int.natCast_mul]
  refine call hG [] (mul_ok (G.cv .u64 (G.lu l)) (G.cv .u64 c) (by rw [u1]; omega) (by rw [u2]; omega) (by rw [u1, u2, hb]; omega)) ⟨rfl, rfl, rfl⟩ ?_
  rintro _ _ ⟨a, b, rfl, rfl, ha, hb2⟩
  cbv
  rw [u1, u2, hb] at hb2
  have hcv : G.cv .i64 b = ((l.length * c0 : Nat) : Int) := by
    have h0 : ((l.length * c0 : Nat) : Int) < 2 ^ 62 := by omega
    subst hG hb2
    exact fwi (x := ((l.length * c0 : Nat) : Int)) ⟨by omega, h0⟩
  refine SX.ite hG (fun h2 => ?_) (fun h2 => ?_)
  · exfalso
    rw [ha, hG] at h2
    cases h2
  refine SX.ite hG (fun h3 => ?_) (fun h3 => ?_)
  · exfalso
    rw [hb2, hG] at h3
    have := of_decide_eq_true h3
    have h4 : ((l.length * c0 : Nat) : Int) > 9223372036854775807 := this
    omega
  have hmk : G.mk0 (G.cv .i64 b) := by rw [hcv, hG]; exact ⟨Int.natCast_nonneg _, by omega⟩
  refine ⟨hmk, ?_⟩
  have q1 : G.ru (G.cv .i64 b) = List.replicate (l.length * c0) 0 := by rw [hcv, hG]; rfl
  have q2 : G.mn (G.lu l) (G.lu (G.ru (G.cv .i64 b))) = ((Nat.min l.length (l.length * c0) : Nat) : Int) := by
    rw [q1, hG]
    show AL.mn (l.length : Int) ((List.replicate (l.length * c0) (0 : Int)).length : Int) = _
    rw [List.length_replicate]; exact mn_nat _ _
  have q3 : G.cp (G.ru (G.cv .i64 b)) 0 (G.tu l (G.mn (G.lu l) (G.lu (G.ru (G.cv .i64 b))))) = cpS (List.replicate (l.length * c0) 0) ((0 : Nat) : Int) (l.take (Nat.min l.length (l.length * c0))) := by
    rw [q2, q1, hG]; rfl
  have hmin : Nat.min l.length (l.length * c0) = if c0 = 0 then 0 else l.length := by
    show min l.length (l.length * c0) = _
    split
    · rename_i e; subst e; simp
    · rename_i e; exact Nat.min_eq_left (Nat.le_mul_of_pos_right _ (Nat.pos_of_ne_zero e))
  have hml : Nat.min l.length (l.length * c0) ≤ l.length ∧ Nat.min l.length (l.length * c0) ≤ l.length * c0 := ⟨Nat.min_le_left _ _, Nat.min_le_right _ _⟩
  have htl : (l.take (Nat.min l.length (l.length * c0))).length = Nat.min l.length (l.length * c0) := by rw [List.length_take]; omega
  refine lp hG (α := Int × List Int) (fun p => ∃ n : Nat, p.1 = (n : Int) ∧ n ≤ l.length * c0 ∧ p.2.length = l.length * c0 ∧ (n % l.length = 0 ∨ n = l.length * c0) ∧ (∀ i : Nat, i < n → gu p.2 i = gu l (i % l.length : Nat)) ∧ (0 < l.length * c0 → 0 < n)) (fun p => l.length * c0 - p.1.toNat) (fun s p => (s.put (some 8) (.i .i64 p.1)).setO 0 (.u p.2)) (G.mn (G.lu l) (G.lu (G.ru (G.cv .i64 b))), G.cp (G.ru (G.cv .i64 b)) 0 (G.tu l (G.mn (G.lu l) (G.lu (G.ru (G.cv .i64 b)))))) ?_ (by constructor <;> cbv <;> simp) ?_
  · refine ⟨Nat.min l.length (l.length * c0), q2, hml.2, ?_, ?_, ?_, ?_⟩
    · show (G.cp _ _ _).length = _
      rw [q3, cpS_len (by rw [htl, List.length_replicate]; omega), List.length_replicate]
    · rw [hmin]; split
      · exact .inl (Nat.zero_mod _)
      · exact .inl (Nat.mod_self _)
    · intro i hi
      show gu (G.cp _ _ _) i = _
      rw [q3, cpS_get (by rw [htl, List.length_replicate]; omega), if_pos (by rw [htl]; omega), Nat.sub_zero, gu_take hi, Nat.mod_eq_of_lt (by omega)]
    · intro h
      rw [hmin]
      have h1 : c0 ≠ 0 := fun e => by subst e; simp at h
      have h2 : l.length ≠ 0 := fun e => by rw [e] at h; simp at h
      rw [if_neg h1]; omega
  rintro ⟨j, L⟩ ⟨n, hj, hn, hL, hd, hi, hp⟩
  have hj : j = (n : Int) := hj
  have hL : L.length = l.length * c0 := hL
  have hi : ∀ i : Nat, i < n → gu L i = gu l (i % l.length : Nat) := hi
  cbv
  have hj : j = (n : Int) := hj
  refine SX.ite hG (fun h4 => ?_) (fun h4 => ?_)
  · have h4 : n < l.length * c0 := by
      rw [hG] at h4
      have := of_decide_eq_true h4
      have h5 : j < (L.length : Int) := this
      omega
    have r1 : G.tu (G.du L 0) j = L.take n := by rw [hG, hj]; rfl
    have r2 : G.sb (G.lu L) j = ((l.length * c0 - n : Nat) : Int) := by rw [hG, hj]; show (L.length : Int) - (n : Int) = _; omega
    have htn : (L.take n).length = n := by rw [List.length_take]; omega
    have r3 : G.mn (G.lu (G.tu (G.du L 0) j)) (G.sb (G.lu L) j) = ((Nat.min n (l.length * c0 - n) : Nat) : Int) := by
      rw [r1, r2, hG]
      show AL.mn ((L.take n).length : Int) ((l.length * c0 - n : Nat) : Int) = _
      rw [htn]; exact mn_nat _ _
    have hm : Nat.min n (l.length * c0 - n) ≤ n ∧ Nat.min n (l.length * c0 - n) ≤ l.length * c0 - n := ⟨Nat.min_le_left _ _, Nat.min_le_right _ _⟩
    have hm0 : 0 < Nat.min n (l.length * c0 - n) := Nat.lt_min.2 ⟨hp (by omega), by omega⟩
    have htt : ((L.take n).take (Nat.min n (l.length * c0 - n))).length = Nat.min n (l.length * c0 - n) := by rw [List.length_take, htn]; omega
    have r4 : G.cp L j (G.tu (G.tu (G.du L 0) j) (G.mn (G.lu (G.tu (G.du L 0) j)) (G.sb (G.lu L) j))) = cpS L n ((L.take n).take (Nat.min n (l.length * c0 - n))) := by
      rw [r3, r1, hG, hj]; rfl
    have r5 : G.ar .add .i64 j (G.mn (G.lu (G.tu (G.du L 0) j)) (G.sb (G.lu L) j)) = ((n + Nat.min n (l.length * c0 - n) : Nat) : Int) := by
      rw [r3, hj, addi hG (by omega)]; omega
    have v1 : G.le j (G.lu L) := by rw [hG, hj]; show 0 ≤ (n : Int) ∧ (n : Int) ≤ (L.length : Int); omega
    refine ⟨v1, v1, okd hG rfl ?_⟩
    refine ⟨(G.ar .add .i64 j (G.mn (G.lu (G.tu (G.du L 0) j)) (G.sb (G.lu L) j)), G.cp L j (G.tu (G.tu (G.du L 0) j) (G.mn (G.lu (G.tu (G.du L 0) j)) (G.sb (G.lu L) j)))), ⟨n + Nat.min n (l.length * c0 - n), r5, by omega, ?_, ?_, ?_, ?_⟩, ?_, by constructor <;> cbv <;> simp⟩
    · show (G.cp _ _ _).length = _
      rw [r4, cpS_len (by rw [htt]; omega), hL]
    · by_cases hc : n ≤ l.length * c0 - n
      · have : Nat.min n (l.length * c0 - n) = n := Nat.min_eq_left hc
        rw [this]
        rcases hd with hd | hd
        · exact .inl (by rw [Nat.add_mod, hd]; exact Nat.zero_mod _)
        · omega
      · have : Nat.min n (l.length * c0 - n) = l.length * c0 - n := Nat.min_eq_right (by omega)
        rw [this]
        exact .inr (by omega)
    · intro i hlt
      show gu (G.cp _ _ _) i = _
      rw [r4, cpS_get (by rw [htt]; omega), htt]
      by_cases hni : n ≤ i
      · rw [if_pos ⟨hni, hlt⟩, gu_take (by omega), gu_take (by omega), hi _ (by omega)]
        rcases hd with hd | hd
        · have : (i - n) % l.length = i % l.length := by
            obtain ⟨k, hk⟩ := Nat.dvd_of_mod_eq_zero hd
            rw [hk, Nat.sub_mul_mod]
            rw [← hk]; exact hni
          rw [this]
        · omega
      · rw [if_neg (by omega)]; exact hi i (by omega)
    · intro _; omega
    · show l.length * c0 - (G.ar _ _ _ _).toNat < l.length * c0 - j.toNat
      rw [r5, hj, Int.toNat_natCast, Int.toNat_natCast]; omega
  · have h4 : l.length * c0 ≤ n := by
      rw [hG] at h4
      have := of_decide_eq_false h4
      have h5 : ¬ j < (L.length : Int) := this
      omega
    refine hq _ _ ⟨_, rfl, rfl, ?_⟩
    refine gu_ext (by rw [hL, repL_len, hc0]; rfl) fun i hlt => ?_
    rw [hi i (by omega), repL_get (by rw [hc0]; show i < l.length * c0; omega)]
theorem fill_ok (b w : Int) (s : Bool) (hw : 0 ≤ w ∧ w < 2 ^ 15) : FvC CX TB (.f 52 [] []) [.i .u8 b, .i .i64 w, .b s] [] (RV (List.replicate w.toNat b) s) := by
  refine fn_ok rfl rfl fun B D G hG q hq => ?_
  cbv
  refine call hG [] (repeat_ok [b] w (by simp) hw) ⟨rfl, rfl, rfl⟩ ?_
  rintro _ _ ⟨L, rfl, rfl, hL⟩
  cbv
  exact hq _ _ ⟨_, _, rfl, rfl, by rw [hL, repL_one], rfl⟩
theorem norm_ok (l : List Int) (s : Bool) (hl : l.length < 2 ^ 15) : FvC CX TB (.f 49 [] []) [.a [.u l, .b s]] [] (RV (nB l) (nS l s)) := by
  refine fn_ok rfl rfl fun B D G hG q hq => ?_
  cbv
  refine call hG [] (check_ok l s) ⟨rfl, rfl, rfl⟩ ?_
  rintro _ _ ⟨e, rfl, rfl, he⟩
  cbv
  refine SX.ite hG (fun h1 => ?_) (fun h1 => ?_)
  · have h1 : ¬ e = 0 := by simpa [hG, std, cmpS, arS, beqS] using h1
    refine call hG [] (fill_ok _ _ _ (by constructor <;> decide)) ⟨rfl, rfl, rfl⟩ ?_
    rintro _ _ ⟨L, t, rfl, rfl, hL, ht⟩
    cbv
    exact hq _ _ ⟨_, _, rfl, rfl, by rw [hL, nB, if_neg (by rw [← he]; exact h1)]; rfl, by rw [ht, nS, if_neg (by rw [← he]; exact h1)]⟩
  · have h1 : e = 0 := by simpa [hG, std, cmpS, arS, beqS] using h1
    have hne : l ≠ [] := fun h => by rw [h] at he; rw [he] at h1; revert h1; decide
    refine call hG [] (clone_ok l hne (by omega)) ⟨rfl, rfl, rfl⟩ ?_
    rintro _ _ ⟨L, rfl, rfl, hL⟩
    cbv
    refine okd hG rfl (hq _ _ ⟨_, _, rfl, rfl, by rw [hL, nB, if_pos (by rw [← he]; exact h1)], by rw [nS, if_pos (by rw [← he]; exact h1)]⟩)
theorem width_ok (n : Int) : FvC CX TB (.f 50 [] []) [.i .i64 n] [] (RB (okW n)) := by
  refine fn_ok rfl rfl fun B D G hG q hq => ?_
  cbv
  refine SX.ite hG (fun h1 => ?_) (fun h1 => ?_)
  · exact hq _ _ ⟨_, rfl, rfl, by rw [hG] at h1 ⊢; have h1 : decide (n ≥ 1) = true := h1; show decide (n ≤ 128) = _; simp at h1; simp [okW, h1]⟩
  · exact hq _ _ ⟨_, rfl, rfl, by rw [hG] at h1; have h1 : decide (n ≥ 1) = false := h1; simp at h1; symm; simp [okW]; intro h; omega⟩
end Go.Proofs.YtdgbdkfoeaollaaDoor.V0
