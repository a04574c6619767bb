/- Results with error codes in one form; Repeat; below, refines and Long of four vectors. -/
import Derived.Test.YtdgbdkfoeaollaaGreatDoorVO
import Derived.Test.YtdgbdkfoeaollaaGreatDoorVJ
import Derived.Test.YtdgbdkfoeaollaaGreatDoorALe
set_option linter.unusedSimpArgs false
set_option linter.unusedVariables false
namespace Go.Proofs.YtdgbdkfoeaollaaGreatDoor.V
open Go Go.AL Go.SX
/-- Is l below m, z counted as x? -/
def blwF (x y : Int) : Bool := bLeq (bBuf x) (bBuf y)
def blw (l : List Int) (s : Bool) (m : List Int) (t : Bool) : Bool := s == t && eqF blwF l m
theorem below_ok (l m : List Int) (s t : Bool) (hl : l.length < 2 ^ 20) (bl : Byt l) (bm : Byt m) : FvC CX TB (.f 14 [] []) [.a [.u l, .b s], .a [.u m, .b t]] [] (RB (blw l s m t)) := by
  refine fn_ok rfl rfl fun B D G hG q hq => ?_
  cbv
  refine SX.ite hG (fun h1 => ?_) (fun h1 => ?_)
  · have h1 : decide (s ≠ t) = true := by rw [hG] at h1; simpa [std, beqS] using h1
    exact hq _ _ ⟨_, rfl, rfl, by have := of_decide_eq_true h1; symm; simp [blw, this]⟩
  have h1 : s = t := by rw [hG] at h1; simpa [std, beqS] using h1
  refine SX.ite hG (fun h2 => ?_) (fun h2 => ?_)
  · have h2 : l.length ≠ m.length := by have hq_ := h2; simp [hG, std, cmpS, arS, beqS] at hq_; omega
    exact hq _ _ ⟨_, rfl, rfl, by symm; simp [blw, eqF, h2]⟩
  have h2 : l.length = m.length := by have hq_ := h2; simp [hG, std, cmpS, arS, beqS] at hq_; omega
  refine lp hG (α := Int) (fun j => ∃ n : Nat, j = (n : Int) ∧ n ≤ l.length ∧ ∀ i : Nat, i < n → blwF (gu l i) (gu m i) = true) (fun j => l.length - j.toNat) (fun s j => s.put (some 5) (.i .i64 j)) 0 ⟨0, rfl, Nat.zero_le _, by simp⟩ (by constructor <;> cbv <;> simp) ?_
  rintro j ⟨n, hj, hn, hi⟩
  cbv
  refine SX.ite hG (fun h3 => ?_) (fun h3 => ?_)
  · have h3 : n < l.length := by simpa [hG, std, cmpS, arS, beqS, hj] using h3
    have v1 : G.ix j (G.lu l) := by rw [hG, hj]; show 0 ≤ (n : Int) ∧ (n : Int) < (l.length : Int); omega
    have v2 : G.ix j (G.lu m) := by rw [hG, hj]; show 0 ≤ (n : Int) ∧ (n : Int) < (m.length : Int); omega
    have hgu : G.gu l j = gu l n ∧ G.gu m j = gu m n := by rw [hG, hj]; exact ⟨rfl, rfl⟩
    refine ⟨v1, ?_⟩
    refine call hG [] (bBuf_ok (G.gu l j) (by rw [hgu.1]; exact bl _ (gu_mem h3))) ⟨rfl, rfl, rfl⟩ ?_
    rintro _ _ ⟨a, rfl, rfl, ha⟩
    cbv
    refine ⟨v2, ?_⟩
    refine call hG [] (bBuf_ok (G.gu m j) (by rw [hgu.2]; exact bm _ (gu_mem (by omega)))) ⟨rfl, rfl, rfl⟩ ?_
    rintro _ _ ⟨b, rfl, rfl, hb⟩
    cbv
    refine call hG [] (bLeq_ok a b) ⟨rfl, rfl, rfl⟩ ?_
    rintro _ _ ⟨c, rfl, rfl, hc⟩
    cbv
    rw [hgu.1] at ha
    rw [hgu.2] at hb
    have hj : j = (n : Int) := hj
    have ec : c = blwF (gu l n) (gu m n) := by rw [hc, ha, hb]; rfl
    refine okd hG rfl ?_
    refine SX.ite hG (fun h4 => ?_) (fun h4 => ?_)
    · have h4 : c = false := by rw [hG] at h4; simpa [std] using h4
      refine hq _ _ ⟨_, rfl, rfl, ?_⟩
      symm
      rw [Bool.eq_false_iff]
      intro hx
      simp only [blw, eqF, Bool.and_eq_true, List.all_eq_true, List.mem_range] at hx
      have := hx.2.2 n h3
      rw [← ec, h4] at this
      cases this
    · have h4 : c = true := by rw [hG] at h4; simpa [std] using h4
      exact ⟨G.ar .add .i64 j (Int.ofNat 1), ⟨n + 1, inc hG hj (by omega), h3, fun i hlt => by rcases Nat.lt_succ_iff_lt_or_eq.1 hlt with h | rfl; exact hi i h; rw [← ec]; exact h4⟩, mu hj (inc hG hj (by omega)) h3, by constructor <;> cbv <;> simp⟩
  · have h3 : l.length ≤ n := by simpa [hG, std, cmpS, arS, beqS, hj] using h3
    refine hq _ _ ⟨_, rfl, rfl, ?_⟩
    symm
    simp only [blw, eqF, Bool.and_eq_true, beq_iff_eq, decide_eq_true_eq, List.all_eq_true, List.mem_range]
    exact ⟨h1, h2, fun i hlt => hi i (by omega)⟩
/-- Is m valid, and does it refine the valid l? -/
def rfn (m : List Int) (t : Bool) (l : List Int) (s : Bool) : Bool := decide (chk l = 0) && decide (chk m = 0) && leqV l s m t
theorem refines_ok (m l : List Int) (t s : Bool) (hl : l.length < 2 ^ 15) (hm : m.length < 2 ^ 15) : FvC CX TB (.f 12 [] []) [.a [.u m, .b t], .a [.u l, .b s]] [] (RB (rfn m t l s)) := by
  refine fn_ok rfl rfl fun B D G hG q hq => ?_
  cbv
  refine call hG [] (rcheck_ok l s) ⟨rfl, rfl, rfl⟩ ?_
  rintro _ _ ⟨a, rfl, rfl, ha⟩
  cbv
  refine SX.ite hG (fun h1 => ?_) (fun h1 => ?_)
  · have h1 : a = 0 := by rw [hG] at h1; exact eq_of_beq h1
    refine call hG [] (rcheck_ok m t) ⟨rfl, rfl, rfl⟩ ?_
    rintro _ _ ⟨b, rfl, rfl, hb⟩
    cbv
    refine SX.ite hG (fun h2 => ?_) (fun h2 => ?_)
    · have h2 : b = 0 := by rw [hG] at h2; exact eq_of_beq h2
      refine call hG [] (vleq_ok l m s t hl hm) ⟨rfl, rfl, rfl⟩ ?_
      rintro _ _ ⟨c, rfl, rfl, hc⟩
      cbv
      exact hq _ _ ⟨_, rfl, rfl, by rw [hc, rfn, ← ha, ← hb, decide_eq_true h1, decide_eq_true h2]; rfl⟩
    · have h2 : ¬ b = 0 := by rw [hG] at h2; exact ne_of_beq_false h2
      exact hq _ _ ⟨_, rfl, rfl, by rw [rfn, ← hb, decide_eq_false h2]; simp⟩
  · have h1 : ¬ a = 0 := by rw [hG] at h1; exact ne_of_beq_false h1
    exact hq _ _ ⟨_, rfl, rfl, by rw [rfn, ← ha, decide_eq_false h1]; simp⟩
end Go.Proofs.YtdgbdkfoeaollaaGreatDoor.V
