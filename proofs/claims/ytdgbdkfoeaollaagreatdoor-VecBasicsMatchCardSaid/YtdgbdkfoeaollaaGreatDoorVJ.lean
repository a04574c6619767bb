/- The reference's functions of vectors; Own. -/
import Derived.Test.YtdgbdkfoeaollaaGreatDoorVI
import Derived.Test.YtdgbdkfoeaollaaGreatDoorALe
set_option linter.unusedSimpArgs false
set_option linter.unusedVariables false
namespace Go.Proofs.YtdgbdkfoeaollaaGreatDoor.V
open Go Go.AL Go.SX
theorem rcheck_ok (l : List Int) (s : Bool) : FvC CX TB (.f 66 [] []) [.a [.u l, .b s]] [] (RI .i64 (chk l)) := by
  refine fn_ok rfl rfl fun B D G hG q hq => ?_
  cbv
  refine SX.ite hG (fun h1 => ?_) (fun h1 => ?_)
  · have h1 : l.length = 0 := by simpa [hG, std, cmpS, arS, beqS] using h1
    exact hq _ _ ⟨_, rfl, rfl, by simp [chk, h1]⟩
  have h1 : l.length ≠ 0 := by simpa [hG, std, cmpS, arS, beqS] using h1
  refine SX.ite hG (fun h2 => ?_) (fun h2 => ?_)
  · have h2 : 128 < l.length := by have hq_ := h2; simp [hG, std, cmpS, arS, beqS] at hq_; omega
    exact hq _ _ ⟨_, rfl, rfl, by rw [chk, if_neg h1, if_pos (by omega)]; rfl⟩
  have h2 : l.length ≤ 128 := by have hq_ := h2; simp [hG, std, cmpS, arS, beqS] at hq_; omega
  have hchk : chk l = if l.all (fun x => decide (x ≤ 3)) then 0 else 1 := by rw [chk, if_neg h1, if_neg (by omega)]
  refine lp hG (α := Int) (fun j => ∃ n : Nat, j = (n : Int) ∧ n ≤ l.length ∧ ∀ i : Nat, i < n → gu l i ≤ 3) (fun j => l.length - j.toNat) (fun s j => s.put (some 3) (.i .i64 j)) 0 ⟨0, rfl, Nat.zero_le _, by simp⟩ (by constructor <;> cbv <;> simp) ?_
  rintro j ⟨n, hj, hn, hi⟩
  cbv
  refine SX.ite hG (fun h3 => ?_) (fun h3 => ?_)
  · have h3 : n < l.length := by simpa [hG, std, cmpS, arS, beqS, hj] using h3
    refine ⟨by simp [hG, std, hj, h3], ?_⟩
    have hgu : G.gu l j = gu l n := by rw [hG, hj]; rfl
    refine SX.ite hG (fun h4 => ?_) (fun h4 => ?_)
    · refine hq _ _ ⟨_, rfl, rfl, ?_⟩
      rw [hchk, if_neg]
      · rfl
      · intro ha
        have := List.all_eq_true.1 ha _ (gu_mem h3)
        have h5 : decide (G.gu l j > 3) = true := by rw [← h4]; subst hG; rfl
        simp at this h5
        omega
    · have h5 : decide (G.gu l j > 3) = false := by rw [← h4]; subst hG; rfl
      have h6 : gu l n ≤ 3 := by rw [hgu] at h5; exact Int.not_lt.1 (of_decide_eq_false h5)
      exact ⟨G.ar .add .i64 j (Int.ofNat 1), ⟨n + 1, inc hG hj (by omega), h3, fun i hlt => by rcases Nat.lt_succ_iff_lt_or_eq.1 hlt with h | rfl; exact hi i h; exact h6⟩, mu hj (inc hG hj (by omega)) h3, by constructor <;> cbv <;> simp⟩
  · have h3 : l.length ≤ n := by simpa [hG, std, cmpS, arS, beqS, hj] using h3
    refine hq _ _ ⟨_, rfl, rfl, ?_⟩
    rw [hchk, if_pos (all_gu fun i hlt => decide_eq_true (hi i (by omega)))]
    rfl
theorem rnorm_ok (l : List Int) (s : Bool) (hl : l.length < 2 ^ 20) : FvC CX TB (.f 87 [] []) [.a [.u l, .b s]] [] (RV (nB l) (nS l s)) := by
  refine fn_ok rfl rfl fun B D G hG q hq => ?_
  cbv
  refine call hG [] (rcheck_ok l s) ⟨rfl, rfl, rfl⟩ ?_
  rintro _ _ ⟨e, rfl, rfl, he⟩
  cbv
  refine SX.ite hG (fun h1 => ?_) (fun h1 => ?_)
  · have h1 : ¬ e = 0 := by simpa [hG, std, cmpS, arS, beqS] using h1
    exact hq _ _ ⟨_, _, rfl, rfl, by rw [nB, if_neg (by rw [← he]; exact h1)]; rfl, by rw [nS, if_neg (by rw [← he]; exact h1)]⟩
  · have h1 : e = 0 := by simpa [hG, std, cmpS, arS, beqS] using h1
    have hap : G.ap 0 (G.lu l) := by rw [hG]; simp only [std]; omega
    exact ⟨hap, okd hG rfl (hq _ _ ⟨_, _, rfl, rfl, by rw [nB, if_pos (by rw [← he]; exact h1)], by rw [nS, if_pos (by rw [← he]; exact h1)]⟩)⟩
theorem own_ok (l : List Int) (s : Bool) (hl : l.length < 2 ^ 20) : FvC CX TB (.f 72 [] []) [.a [.u l, .b s]] [] (RV l s) := by
  refine fn_ok rfl rfl fun B D G hG q hq => ?_
  cbv
  have hap : G.ap 0 (G.lu l) := by rw [hG]; simp only [std]; omega
  exact ⟨hap, okd hG rfl (hq _ _ ⟨_, _, rfl, rfl, rfl, rfl⟩)⟩
theorem rtruth_ok (l : List Int) (s : Bool) (hl : l.length < 2 ^ 20) (hb : Byt l) : FvC CX TB (.f 71 [] []) [.a [.u l, .b s]] [] (RI .u8 (fld bOr (nB l))) := by
  have nv := nB_nv hb
  refine fn_ok rfl rfl fun B D G hG q hq => ?_
  cbv
  refine call hG [] (rnorm_ok l s hl) ⟨rfl, rfl, rfl⟩ ?_
  rintro _ _ ⟨M, t, rfl, rfl, hM, ht⟩
  cbv
  have nvM : NV M := by rw [hM]; exact nv
  have hlen := nvM.len
  refine lp hG (α := Int × Int) (fun p => ∃ n : Nat, p.1 = (n : Int) ∧ n ≤ M.length ∧ p.2 = (M.take n).foldl bOr 0) (fun p => M.length - p.1.toNat) (fun s p => (s.put (some 4) (.i .i64 p.1)).put (some 3) (.i .u8 p.2)) (0, 0) ⟨0, rfl, Nat.zero_le _, by simp⟩ (by constructor <;> cbv <;> simp) ?_
  rintro ⟨j, x⟩ ⟨n, hj, hn, hx⟩
  have hx : x = (M.take n).foldl bOr 0 := hx
  have hx4 : V4 x := by rw [hx]; exact fold_4 bOr_44 (by constructor <;> decide) (fun y hy => nvM.v y (List.mem_of_mem_take hy))
  cbv
  have hj : j = (n : Int) := hj
  refine SX.ite hG (fun h3 => ?_) (fun h3 => ?_)
  · have h3 : n < M.length := by simpa [hG, std, cmpS, arS, beqS, hj] using h3
    have v2 : G.ix j (G.lu M) := by rw [hG, hj]; show 0 ≤ (n : Int) ∧ (n : Int) < (M.length : Int); omega
    have hgu : G.gu M j = gu M n := by rw [hG, hj]; rfl
    have hm : V4 (G.gu M j) := by rw [hgu]; exact nvM.v _ (gu_mem h3)
    refine ⟨v2, v2, ?_⟩
    refine call hG [] (rOr_ok x _ hx4 hm) ⟨rfl, rfl, rfl⟩ ?_
    rintro _ _ ⟨c, rfl, rfl, hc⟩
    cbv
    rw [hgu] at hc
    have hj : j = (n : Int) := hj
    exact ⟨(G.ar .add .i64 j (Int.ofNat 1), c), ⟨n + 1, inc hG hj (by omega), h3, by show c = _; rw [take_succ_gu h3, List.foldl_append, hc, hx]; rfl⟩, mu hj (inc hG hj (by omega)) h3, by constructor <;> cbv <;> simp⟩
  · have h3 : M.length ≤ n := by simpa [hG, std, cmpS, arS, beqS, hj] using h3
    refine hq _ _ ⟨_, rfl, rfl, ?_⟩
    rw [hx, List.take_of_length_le h3, ← hM]
    have hne := nvM.ne
    have h4 := nvM.v
    clear hx hM hn h3 nvM hlen hx4 nv
    cases M with
    | nil => exact absurd rfl hne
    | cons y M =>
      show List.foldl bOr (bOr 0 y) M = List.foldl bOr (bBuf y) M
      have : bOr 0 y = bBuf y := by rcases (h4 y (by simp)).cases with rfl | rfl | rfl | rfl <;> decide
      rw [this]
end Go.Proofs.YtdgbdkfoeaollaaGreatDoor.V
