/- Functions on slices of bits: the library's, Check, norm, fill. -/
import Derived.Test.YtdgbdkfoeaollaaGreatDoorVB
set_option linter.unusedSimpArgs false
set_option linter.unusedVariables false
namespace Go.Proofs.YtdgbdkfoeaollaaGreatDoor.V
open Go Go.AL Go.SX
theorem clone_ok (l : List Int) (hl : l ≠ []) (hn : l.length < 2 ^ 20) : FvC CX TB (.f 163 [] []) [.u l] [] (RU l) := by
  refine fn_ok rfl rfl fun B D G hG q hq => ?_
  cbv
  subst hG
  exact ⟨fun h => absurd h hl, by simp only [std]; omega, hq _ _ ⟨_, rfl, rfl, rfl⟩⟩
def chk (l : List Int) : Int := if l.length = 0 then 4 else if 128 < l.length then 5 else if l.all (fun x => decide (x ≤ 3)) then 0 else 1
theorem gu_mem {l : List Int} {n : Nat} (h : n < l.length) : gu l n ∈ l := by
  unfold gu
  rw [Int.toNat_natCast, List.getElem?_eq_getElem h]
  exact List.getElem_mem h
theorem gu_ext {l m : List Int} (h : l.length = m.length) (h2 : ∀ i : Nat, i < l.length → gu l i = gu m i) : l = m := by
  apply List.ext_getElem h
  intro i h3 h4
  have := h2 i h3
  unfold gu at this
  rw [Int.toNat_natCast, List.getElem?_eq_getElem h3, List.getElem?_eq_getElem h4] at this
  exact this
theorem all_gu {l : List Int} {p : Int → Bool} (h : ∀ i, i < l.length → p (gu l (i : Nat)) = true) : l.all p = true := by
  rw [List.all_eq_true]
  intro x hx
  obtain ⟨i, hi, rfl⟩ := List.mem_iff_getElem.1 hx
  have := h i hi
  unfold gu at this
  rwa [Int.toNat_natCast, List.getElem?_eq_getElem hi] at this
theorem check_ok (l : List Int) (s : Bool) : FvC CX TB (.f 28 [] []) [.a [.u l, .b s]] [] (RI .i64 (chk l)) := by
  refine fn_ok rfl rfl fun B D G hG q hq => ?_
  cbv
  refine SX.ite hG (fun h1 => ?_) (fun h1 => ?_)
  · have h1 : l.length = 0 := by simpa [hG, std, cmpS, arS, beqS] using h1
    exact hq _ _ ⟨_, rfl, rfl, by simp [chk, h1]⟩
  have h1 : l.length ≠ 0 := by simpa [hG, std, cmpS, arS, beqS] using h1
  refine SX.ite hG (fun h2 => ?_) (fun h2 => ?_)
  · have h2 : 128 < l.length := by have hq_ := h2; simp [hG, std, cmpS, arS, beqS] at hq_; omega
    exact hq _ _ ⟨_, rfl, rfl, by rw [chk, if_neg h1, if_pos (by omega)]; rfl⟩
  have h2 : l.length ≤ 128 := by have hq_ := h2; simp [hG, std, cmpS, arS, beqS] at hq_; omega
  have hchk : chk l = if l.all (fun x => decide (x ≤ 3)) then 0 else 1 := by rw [chk, if_neg h1, if_neg (by omega)]
  refine lp hG (α := Int) (fun j => ∃ n : Nat, j = (n : Int) ∧ n ≤ l.length ∧ ∀ i : Nat, i < n → gu l i ≤ 3) (fun j => l.length - j.toNat) (fun s j => s.put (some 18) (.i .i64 j)) 0 ⟨0, rfl, Nat.zero_le _, by simp⟩ (by constructor <;> cbv <;> simp) ?_
  rintro j ⟨n, hj, hn, hi⟩
  cbv
  refine SX.ite hG (fun h3 => ?_) (fun h3 => ?_)
  · have h3 : n < l.length := by simpa [hG, std, cmpS, arS, beqS, hj] using h3
    refine ⟨by simp [hG, std, hj, h3], ?_⟩
    refine call hG [] (valid_ok _) ⟨rfl, rfl, rfl⟩ ?_
    rintro _ _ ⟨c, rfl, rfl, hc⟩
    cbv
    have hgu : G.gu l j = gu l n := by rw [hG, hj]; rfl
    rw [hgu] at hc
    refine SX.ite hG (fun h4 => ?_) (fun h4 => ?_)
    · refine hq _ _ ⟨_, rfl, rfl, ?_⟩
      rw [hchk, if_neg]
      · rfl
      · intro ha
        have := List.all_eq_true.1 ha _ (gu_mem h3)
        simp [hG, std, hc] at h4 this
        omega
    · exact ⟨G.ar .add .i64 j (Int.ofNat 1), ⟨n + 1, inc hG hj (by omega), h3, fun i hlt => by rcases Nat.lt_succ_iff_lt_or_eq.1 hlt with h | rfl; exact hi i h; simpa [hG, std, hc] using h4⟩, mu hj (inc hG hj (by omega)) h3, by constructor <;> cbv <;> simp⟩
  · have h3 : l.length ≤ n := by simpa [hG, std, cmpS, arS, beqS, hj] using h3
    refine hq _ _ ⟨_, rfl, rfl, ?_⟩
    rw [hchk, if_pos (all_gu fun i hlt => decide_eq_true (hi i (by omega)))]
    rfl
/-- Do all pairs satisfy p? -/
def eqF (p : Int → Int → Bool) (l m : List Int) : Bool := decide (l.length = m.length) && (List.range l.length).all fun i => p (gu l (i : Nat)) (gu m (i : Nat))
theorem eqFunc_ok (l m : List Int) (hl : l.length < 2 ^ 20) (k : Nat) (fs cs : List SV) (p : Int → Int → Bool) (hf : ∀ x y, x ∈ l → y ∈ m → FvC CX TB (.fq k fs cs) [.i .u8 x, .i .u8 y] [] (RB (p x y))) : FvC CX TB (.f 137 [] []) [.u l, .u m, .fq k fs cs] [] (RB (eqF p l m)) := by
  refine fn_ok rfl rfl fun B D G hG q hq => ?_
  cbv
  refine SX.ite hG (fun h1 => ?_) (fun h1 => ?_)
  · have h1 : l.length ≠ m.length := by have hq_ := h1; simp [hG, std, cmpS, arS, beqS] at hq_; omega
    exact hq _ _ ⟨_, rfl, rfl, by simp [eqF, h1]⟩
  have h1 : l.length = m.length := by have hq_ := h1; simp [hG, std, cmpS, arS, beqS] at hq_; omega
  refine lp hG (α := Int) (fun j => ∃ n : Nat, j = (n : Int) ∧ n ≤ l.length ∧ ∀ i : Nat, i < n → p (gu l i) (gu m i) = true) (fun j => l.length - j.toNat) (fun s j => s.put (some 17) (.i .i64 j)) 0 ⟨0, rfl, Nat.zero_le _, by simp⟩ (by constructor <;> cbv <;> simp) ?_
  rintro j ⟨n, hj, hn, hi⟩
  cbv
  refine SX.ite hG (fun h3 => ?_) (fun h3 => ?_)
  · have h3 : n < l.length := by simpa [hG, std, cmpS, arS, beqS, hj] using h3
    refine ⟨by simp [hG, std, hj, h3], by simp [hG, std, hj]; omega, ?_⟩
    have hgu : G.gu l j = gu l n ∧ G.gu m j = gu m n := by rw [hG, hj]; exact ⟨rfl, rfl⟩
    have hm1 : G.gu l j ∈ l := by rw [hgu.1]; exact gu_mem h3
    have hm2 : G.gu m j ∈ m := by rw [hgu.2]; exact gu_mem (by omega)
    refine callQ hG [] (hf _ _ hm1 hm2) ⟨rfl, rfl, rfl⟩ ?_
    rintro _ _ ⟨c, rfl, rfl, hc⟩
    cbv
    rw [hgu.1, hgu.2] at hc
    refine SX.ite hG (fun h4 => ?_) (fun h4 => ?_)
    · have h4 : c = false := by simpa [hG, std, cmpS, arS, beqS] using h4
      refine hq _ _ ⟨_, rfl, rfl, ?_⟩
      symm
      rw [Bool.eq_false_iff]
      intro ha
      simp only [eqF, Bool.and_eq_true, List.all_eq_true, List.mem_range] at ha
      rw [ha.2 n h3] at hc
      rw [hc] at h4; cases h4
    · have h4 : c = true := by simpa [hG, std, cmpS, arS, beqS] using h4
      exact ⟨G.ar .add .i64 j (Int.ofNat 1), ⟨n + 1, inc hG hj (by omega), h3, fun i hlt => by rcases Nat.lt_succ_iff_lt_or_eq.1 hlt with h | rfl; exact hi i h; rw [← hc]; exact h4⟩, mu hj (inc hG hj (by omega)) h3, by constructor <;> cbv <;> simp⟩
  · have h3 : l.length ≤ n := by simpa [hG, std, cmpS, arS, beqS, hj] using h3
    refine hq _ _ ⟨_, rfl, rfl, ?_⟩
    symm
    simp only [eqF, Bool.and_eq_true, decide_eq_true_eq, List.all_eq_true, List.mem_range]
    exact ⟨h1, fun i hlt => hi i (by omega)⟩
theorem index_ok (l : List Int) (hl : l.length < 2 ^ 20) (k : Nat) (fs cs : List SV) (p : Int → Bool) (hf : ∀ x, x ∈ l → FvC CX TB (.fq k fs cs) [.i .u8 x] [] (RB (p x))) : FvC CX TB (.f 203 [] []) [.u l, .fq k fs cs] [] (fun r ro => ∃ x, r = .i .i64 x ∧ ro = [] ∧ decide (0 ≤ x) = l.any p) := by
  refine fn_ok rfl rfl fun B D G hG q hq => ?_
  cbv
  refine lp hG (α := Int) (fun j => ∃ n : Nat, j = (n : Int) ∧ n ≤ l.length ∧ ∀ i : Nat, i < n → p (gu l i) = false) (fun j => l.length - j.toNat) (fun s j => s.put (some 8) (.i .i64 j)) 0 ⟨0, rfl, Nat.zero_le _, by simp⟩ (by constructor <;> cbv <;> simp) ?_
  rintro j ⟨n, hj, hn, hi⟩
  cbv
  refine SX.ite hG (fun h3 => ?_) (fun h3 => ?_)
  · have h3 : n < l.length := by simpa [hG, std, cmpS, arS, beqS, hj] using h3
    refine ⟨by simp [hG, std, hj, h3], ?_⟩
    have hgu : G.gu l j = gu l n := by rw [hG, hj]; rfl
    have hm1 : G.gu l j ∈ l := by rw [hgu]; exact gu_mem h3
    have h0 : 0 ≤ j := by rw [hj]; exact Int.natCast_nonneg n
    refine callQ hG [] (hf _ hm1) ⟨rfl, rfl, rfl⟩ ?_
    rintro _ _ ⟨c, rfl, rfl, hc⟩
    cbv
    rw [hgu] at hc
    refine SX.ite hG (fun h4 => ?_) (fun h4 => ?_)
    · refine hq _ _ ⟨_, rfl, rfl, ?_⟩
      have : l.any p = true := List.any_eq_true.2 ⟨_, gu_mem h3, by rw [← hc]; exact h4⟩
      rw [this]; exact decide_eq_true h0
    · exact ⟨G.ar .add .i64 j (Int.ofNat 1), ⟨n + 1, inc hG hj (by omega), h3, fun i hlt => by rcases Nat.lt_succ_iff_lt_or_eq.1 hlt with h | rfl; exact hi i h; rw [← hc]; exact h4⟩, mu hj (inc hG hj (by omega)) h3, by constructor <;> cbv <;> simp⟩
  · have h3 : l.length ≤ n := by simpa [hG, std, cmpS, arS, beqS, hj] using h3
    refine hq _ _ ⟨_, rfl, rfl, ?_⟩
    have : l.any p = false := by
      rw [List.any_eq_false]
      intro x hx
      obtain ⟨i, hil, rfl⟩ := List.mem_iff_getElem.1 hx
      have := hi i (by omega)
      unfold gu at this
      rw [Int.toNat_natCast, List.getElem?_eq_getElem hil] at this
      simpa using this
    rw [this]; rfl
theorem contains_ok (l : List Int) (hl : l.length < 2 ^ 20) (k : Nat) (fs cs : List SV) (p : Int → Bool) (hf : ∀ x, x ∈ l → FvC CX TB (.fq k fs cs) [.i .u8 x] [] (RB (p x))) : FvC CX TB (.f 179 [] []) [.u l, .fq k fs cs] [] (RB (l.any p)) := by
  refine fn_ok rfl rfl fun B D G hG q hq => ?_
  cbv
  refine call hG [] (index_ok l hl k fs cs p hf) ⟨rfl, rfl, rfl⟩ ?_
  rintro _ _ ⟨x, rfl, rfl, hx⟩
  cbv
  exact hq _ _ ⟨_, rfl, rfl, by rw [← hx, hG]; rfl⟩
end Go.Proofs.YtdgbdkfoeaollaaGreatDoor.V
