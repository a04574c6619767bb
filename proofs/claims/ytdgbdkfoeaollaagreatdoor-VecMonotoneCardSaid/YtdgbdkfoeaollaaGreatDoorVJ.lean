/- The reference's functions of vectors; Own. -/
import Derived.Test.YtdgbdkfoeaollaaGreatDoorVI
import Derived.Test.YtdgbdkfoeaollaaGreatDoorALe
set_option linter.unusedSimpArgs false
set_option linter.unusedVariables false
namespace Go.Proofs.YtdgbdkfoeaollaaGreatDoor.V
open Go Go.AL Go.SX
theorem rcheck_ok (l : List Int) (s : Bool) : FvC CX TB (.f 66 [] []) [.a [.u l, .b s]] [] (RI .i64 (chk l)) := by
  refine fn_ok rfl rfl fun B D G hG q hq => ?_
  cbv
  refine SX.ite hG (fun h1 => ?_) (fun h1 => ?_)
  · have h1 : l.length = 0 := by simpa [hG, std, cmpS, arS, beqS] using h1
    exact hq _ _ ⟨_, rfl, rfl, by simp [chk, h1]⟩
  have h1 : l.length ≠ 0 := by simpa [hG, std, cmpS, arS, beqS] using h1
  refine SX.ite hG (fun h2 => ?_) (fun h2 => ?_)
  · have h2 : 128 < l.length := by have hq_ := h2; simp [hG, std, cmpS, arS, beqS] at hq_; omega
    exact hq _ _ ⟨_, rfl, rfl, by rw [chk, if_neg h1, if_pos (by omega)]; rfl⟩
  have h2 : l.length ≤ 128 := by have hq_ := h2; simp [hG, std, cmpS, arS, beqS] at hq_; omega
  have hchk : chk l = if l.all (fun x => decide (x ≤ 3)) then 0 else 1 := by rw [chk, if_neg h1, if_neg (by omega)]
  refine lp hG (α := Int) (fun j => ∃ n : Nat, j = (n : Int) ∧ n ≤ l.length ∧ ∀ i : Nat, i < n → gu l i ≤ 3) (fun j => l.length - j.toNat) (fun s j => s.put (some 3) (.i .i64 j)) 0 ⟨0, rfl, Nat.zero_le _, by simp⟩ (by constructor <;> cbv <;> simp) ?_
  rintro j ⟨n, hj, hn, hi⟩
  cbv
  refine SX.ite hG (fun h3 => ?_) (fun h3 => ?_)
  · have h3 : n < l.length := by simpa [hG, std, cmpS, arS, beqS, hj] using h3
    refine ⟨by simp [hG, std, hj, h3], ?_⟩
    have hgu : G.gu l j = gu l n := by rw [hG, hj]; rfl
    refine SX.ite hG (fun h4 => ?_) (fun h4 => ?_)
    · refine hq _ _ ⟨_, rfl, rfl, ?_⟩
      rw [hchk, if_neg]
      · rfl
      · intro ha
        have := List.all_eq_true.1 ha _ (gu_mem h3)
        have h5 : decide (G.gu l j > 3) = true := by rw [← h4]; subst hG; rfl
        simp at this h5
        omega
    · have h5 : decide (G.gu l j > 3) = false := by rw [← h4]; subst hG; rfl
      have h6 : gu l n ≤ 3 := by rw [hgu] at h5; exact Int.not_lt.1 (of_decide_eq_false h5)
      exact ⟨G.ar .add .i64 j (Int.ofNat 1), ⟨n + 1, inc hG hj (by omega), h3, fun i hlt => by rcases Nat.lt_succ_iff_lt_or_eq.1 hlt with h | rfl; exact hi i h; exact h6⟩, mu hj (inc hG hj (by omega)) h3, by constructor <;> cbv <;> simp⟩
  · have h3 : l.length ≤ n := by simpa [hG, std, cmpS, arS, beqS, hj] using h3
    refine hq _ _ ⟨_, rfl, rfl, ?_⟩
    rw [hchk, if_pos (all_gu fun i hlt => decide_eq_true (hi i (by omega)))]
    rfl
end Go.Proofs.YtdgbdkfoeaollaaGreatDoor.V
