/- The reference's Same; the laws' helpers. -/
import Derived.Test.YtdgbdkfoeaollaaGreatDoorVH
import Derived.Test.YtdgbdkfoeaollaaGreatDoorALe
set_option linter.unusedSimpArgs false
set_option linter.unusedVariables false
namespace Go.Proofs.YtdgbdkfoeaollaaGreatDoor.V
open Go Go.AL Go.SX
/-- The result is known. -/
theorem kbr {k : Nat} {args : List SV} {ao : List SX.Obj} {p c : Bool} (h : FvC CX TB (.f k [] []) args ao (RB p)) (e : p = c) : FvC CX TB (.f k [] []) args ao (fun r ro => r = .kb c ∧ ro = []) := by
  intro H m vf vs h1 h2 h3 h4
  obtain ⟨k', fs, cs, e', hr⟩ := h H m vf vs h1 h2 h3 h4
  refine ⟨k', fs, cs, e', hr.mono ?_⟩
  rintro v H' ⟨m', r, ro, ⟨x, rfl, rfl, hx⟩, q1, q2, q3, q4, q5⟩
  exact ⟨m', .kb c, [], ⟨rfl, rfl⟩, q1, q2, by rw [hx, e] at q3; exact q3, q4, q5⟩
/-- What is behind the first n pieces. -/
def dropC : Nat → IC → IC
  | n + 1, .seq _ b => dropC n b
  | _, c => c
theorem rsame_ok (l m : List Int) (s t : Bool) (hl : l.length < 2 ^ 20) (hm : m.length < 2 ^ 20) : FvC CX TB (.f 58 [] []) [.a [.u l, .b s], .a [.u m, .b t]] [] (RB (s == t && l == m)) := by
  refine fn_ok rfl rfl fun B D G hG q hq => ?_
  cbv
  refine SX.ite hG (fun h1 => ?_) (fun h1 => ?_)
  · have h1 : decide (s ≠ t) = true := by rw [hG] at h1; simpa [std, beqS] using h1
    exact hq _ _ ⟨_, rfl, rfl, by have := of_decide_eq_true h1; symm; simp [this]⟩
  have h1 : s = t := by rw [hG] at h1; simpa [std, beqS] using h1
  refine SX.ite hG (fun h2 => ?_) (fun h2 => ?_)
  · have h2 : l.length ≠ m.length := by have hq_ := h2; simp [hG, std, cmpS, arS, beqS] at hq_; omega
    exact hq _ _ ⟨_, rfl, rfl, by symm; simp; intro _ e; exact h2 (by rw [e])⟩
  have h2 : l.length = m.length := by have hq_ := h2; simp [hG, std, cmpS, arS, beqS] at hq_; omega
  refine lp hG (α := Int) (fun j => ∃ n : Nat, j = (n : Int) ∧ n ≤ l.length ∧ ∀ i : Nat, i < n → gu l i = gu m i) (fun j => l.length - j.toNat) (fun s j => s.put (some 5) (.i .i64 j)) 0 ⟨0, rfl, Nat.zero_le _, by simp⟩ (by constructor <;> cbv <;> simp) ?_
  rintro j ⟨n, hj, hn, hi⟩
  cbv
  refine SX.ite hG (fun h3 => ?_) (fun h3 => ?_)
  · have h3 : n < l.length := by simpa [hG, std, cmpS, arS, beqS, hj] using h3
    refine ⟨by simp [hG, std, hj, h3], by simp [hG, std, hj]; omega, okd hG rfl ?_⟩
    have hgu : G.gu l j = gu l n ∧ G.gu m j = gu m n := by rw [hG, hj]; exact ⟨rfl, rfl⟩
    refine SX.ite hG (fun h4 => ?_) (fun h4 => ?_)
    · have h4 : ¬ G.gu l j = G.gu m j := by simpa [hG, std, cmpS, arS, beqS] using h4
      rw [hgu.1, hgu.2] at h4
      exact hq _ _ ⟨_, rfl, rfl, by symm; simp; intro _ e; exact h4 (by rw [e])⟩
    · have h4 : G.gu l j = G.gu m j := by simpa [hG, std, cmpS, arS, beqS] using h4
      rw [hgu.1, hgu.2] at h4
      exact ⟨G.ar .add .i64 j (Int.ofNat 1), ⟨n + 1, inc hG hj (by omega), h3, fun i hlt => by rcases Nat.lt_succ_iff_lt_or_eq.1 hlt with h | rfl; exact hi i h; exact h4⟩, mu hj (inc hG hj (by omega)) h3, by constructor <;> cbv <;> simp⟩
  · have h3 : l.length ≤ n := by simpa [hG, std, cmpS, arS, beqS, hj] using h3
    refine hq _ _ ⟨_, rfl, rfl, ?_⟩
    symm
    simp only [Bool.and_eq_true, beq_iff_eq]
    exact ⟨h1, gu_ext h2 fun i hlt => hi i (by omega)⟩
/-- Two vectors in a slice: is one longer than 140? -/
theorem long2_ok (l m : List Int) (s t : Bool) : FvC CX TB (.f 10 [] []) [.r 2 [.u l, .b s, .u m, .b t]] [] (RB (decide (140 < l.length) || decide (140 < m.length))) := by
  refine fn_ok rfl rfl fun B D G hG q hq => ?_
  cbv
  refine lp_one hG ?_
  cbv
  refine SX.ite hG (fun h1 => ?_) (fun h1 => ?_)
  · have h1 : 140 < l.length := by have hq_ := h1; simp [hG, std, cmpS, arS, beqS] at hq_; omega
    exact hq _ _ ⟨_, rfl, rfl, by simp [h1]⟩
  have h1 : ¬ 140 < l.length := by have hq_ := h1; simp [hG, std, cmpS, arS, beqS] at hq_; omega
  refine lp_one hG ?_
  cbv
  refine SX.ite hG (fun h2 => ?_) (fun h2 => ?_)
  · have h2 : 140 < m.length := by have hq_ := h2; simp [hG, std, cmpS, arS, beqS] at hq_; omega
    exact hq _ _ ⟨_, rfl, rfl, by simp [h2]⟩
  have h2 : ¬ 140 < m.length := by have hq_ := h2; simp [hG, std, cmpS, arS, beqS] at hq_; omega
  refine lp_one hG ?_
  cbv
  exact hq _ _ ⟨_, rfl, rfl, by simp [h1, h2]⟩
def chI (x : Int) : Int := if x = 49 then 1 else if x = 120 then 2 else if x = 122 then 3 else 0
def ofL (b : ByteArray) : List Int := (List.range b.size).map fun i => chI (sgS b ((b.size : Int) - 1 - (i : Nat)))
theorem of_ok (b : ByteArray) (hb : b.size < 2 ^ 20) : FvC CX TB (.f 23 [] []) [.v (.string b)] [] (RV (ofL b) false) := by
  refine fn_ok rfl rfl fun B D G hG q hq => ?_
  cbv
  refine lp_regB hG 1 0 (.u []) rfl rfl ?_
  have e0 : G.ar .sub .i64 (G.sl b) 1 = (b.size : Int) - 1 - (0 : Nat) := by subst hG; show fwrap .i64 _ = _; rw [fwi (by show _ ≤ (b.size : Int) - 1 ∧ (b.size : Int) - 1 < _; omega)]; simp [std]
  refine lp hG (α := Int × List Int) (fun p => ∃ n : Nat, p.1 = (b.size : Int) - 1 - (n : Nat) ∧ n ≤ b.size ∧ p.2 = (List.range n).map fun i => chI (sgS b ((b.size : Int) - 1 - (i : Nat)))) (fun p => (p.1 + 1).toNat) (fun s p => (s.put (some 4) (.i .i64 p.1)).setO 2 (.u p.2)) (G.ar .sub .i64 (G.sl b) 1, []) ⟨0, e0, Nat.zero_le _, rfl⟩ (by constructor <;> cbv <;> simp) ?_
  rintro ⟨j, L⟩ ⟨n, hj, hn, hL⟩
  have hlen : L.length = n := by show L.length = n; rw [show L = _ from hL]; simp
  cbv
  have hj : j = (b.size : Int) - 1 - (n : Int) := hj
  have hL : L = (List.range n).map fun i => chI (sgS b ((b.size : Int) - 1 - (i : Nat))) := hL
  have es : G.sg b j = sgS b ((b.size : Int) - 1 - (n : Int)) := by rw [hj]; subst hG; rfl
  have hap : ∀ x : Int, G.ap (G.lu L) (G.lu [x]) := fun x => by subst hG; simp only [std]; simp; omega
  refine SX.ite hG (fun h3 => ?_) (fun h3 => ?_)
  · have h3 : n < b.size := by
      have : decide (j ≥ 0) = true := by rw [← h3]; subst hG; rfl
      have := of_decide_eq_true this
      omega
    have e1 : G.ar .sub .i64 j (Int.ofNat 1) = (b.size : Int) - 1 - ((n + 1 : Nat) : Int) := by
      rw [hj]; subst hG; show fwrap .i64 _ = _
      rw [fwi (by show _ ≤ (b.size : Int) - 1 - (n : Int) - 1 ∧ (b.size : Int) - 1 - (n : Int) - 1 < _; omega)]
      show (b.size : Int) - 1 - (n : Int) - 1 = _
      omega
    have hx : ∀ x : Int, chI (G.sg b j) = x → G.apu L [x] = (List.range (n + 1)).map fun i => chI (sgS b ((b.size : Int) - 1 - (i : Nat))) := fun x hx => by
      rw [List.range_succ, List.map_append, ← hL, List.map_cons, List.map_nil, ← es, hx]; subst hG; rfl
    have hmu : (G.ar .sub .i64 j (Int.ofNat 1) + 1).toNat < (j + 1).toNat := by rw [e1, hj]; omega
    have hix : G.ix j (G.sl b) := by rw [hj]; subst hG; show 0 ≤ (b.size : Int) - 1 - (n : Int) ∧ (b.size : Int) - 1 - (n : Int) < (b.size : Int); omega
    have hdec : ∀ (x y : Bool) (k : Int), G.cmp .eql (G.sg b j) k = x → decide (G.sg b j = k) = x := fun x y k h => by rw [← h]; subst hG; rfl
    refine ⟨hix, ?_⟩
    refine SX.ite hG (fun h4 => ?_) (fun h4 => ?_)
    · have h4 := of_decide_eq_true (hdec _ true _ h4)
      refine ⟨hap _, ?_⟩
      exact ⟨(G.ar .sub .i64 j (Int.ofNat 1), G.apu L [Int.ofNat 1]), ⟨n + 1, e1, h3, hx _ (by rw [h4]; rfl)⟩, hmu, by constructor <;> cbv <;> simp⟩
    have h4 := of_decide_eq_false (hdec _ true _ h4)
    refine SX.ite hG (fun h5 => ?_) (fun h5 => ?_)
    · have h5 := of_decide_eq_true (hdec _ true _ h5)
      refine ⟨hap _, ?_⟩
      exact ⟨(G.ar .sub .i64 j (Int.ofNat 1), G.apu L [Int.ofNat 2]), ⟨n + 1, e1, h3, hx _ (by rw [h5]; rfl)⟩, hmu, by constructor <;> cbv <;> simp⟩
    have h5 := of_decide_eq_false (hdec _ true _ h5)
    refine SX.ite hG (fun h6 => ?_) (fun h6 => ?_)
    · have h6 := of_decide_eq_true (hdec _ true _ h6)
      refine ⟨hap _, ?_⟩
      exact ⟨(G.ar .sub .i64 j (Int.ofNat 1), G.apu L [Int.ofNat 3]), ⟨n + 1, e1, h3, hx _ (by rw [h6]; rfl)⟩, hmu, by constructor <;> cbv <;> simp⟩
    have h6 := of_decide_eq_false (hdec _ true _ h6)
    refine ⟨hap _, ?_⟩
    exact ⟨(G.ar .sub .i64 j (Int.ofNat 1), G.apu L [Int.ofNat 0]), ⟨n + 1, e1, h3, hx _ (by unfold chI; rw [if_neg (show ¬ G.sg b j = 49 from h4), if_neg (show ¬ G.sg b j = 120 from h5), if_neg (show ¬ G.sg b j = 122 from h6)]; rfl)⟩, hmu, by constructor <;> cbv <;> simp⟩
  · have h3 : n = b.size := by
      have : decide (j ≥ 0) = false := by rw [← h3]; subst hG; rfl
      have := of_decide_eq_false this
      omega
    exact hq _ _ ⟨_, _, rfl, rfl, by rw [hL, h3]; rfl, rfl⟩
end Go.Proofs.YtdgbdkfoeaollaaGreatDoor.V
