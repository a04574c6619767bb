/- Results with error codes in one form; Repeat; below, refines and Long of four vectors. -/
import Derived.Test.YtdgbdkfoeaollaaDoorVO
import Derived.Test.YtdgbdkfoeaollaaDoorVJ
import Derived.Test.YtdgbdkfoeaollaaDoorALe
set_option linter.unusedSimpArgs false
set_option linter.unusedVariables false
namespace Go.Proofs.YtdgbdkfoeaollaaDoor.V
open Go Go.AL Go.SX
/-- A vector and an error code, the empty vector too. -/
def RT (l : List Int) (sg : Bool) (e : Int) (r : SV) (ro : List SX.Obj) : Prop := ∃ l' sg' e', r = .t [.a [.s 0, .b sg'], .i .i64 e'] ∧ ro = [.u l'] ∧ l' = l ∧ sg' = sg ∧ e' = e
theorem kru {k : Nat} {args : List SV} {ao : List SX.Obj} {c : Bool} {l : List Int} {sg : Bool} {e : Int} (h : FvC CX TB (.f k [] []) args ao (RE c l sg e)) : FvC CX TB (.f k [] []) args ao (RT (if c then l else []) (if c then sg else false) (if c then 0 else e)) := by
  intro H m vf vs h1 h2 h3 h4
  obtain ⟨k', fs, cs, e', hr⟩ := h H m vf vs h1 h2 h3 h4
  refine ⟨k', fs, cs, e', hr.mono ?_⟩
  rintro v H' ⟨m', r, ro, q, q1, q2, q3, q4, q5⟩
  rcases q with ⟨rfl, l', sg', e1, rfl, rfl, hl, hs, he⟩ | ⟨rfl, sg', e1, rfl, rfl, hs, he⟩
  · exact ⟨m', _, _, ⟨l', sg', e1, rfl, rfl, hl, hs, he⟩, q1, q2, q3, q4, q5⟩
  · obtain rfl : m' = [] := List.length_eq_zero_iff.1 q1.len
    simp only [Den, DenL] at q3
    obtain ⟨vs1, rfl, w1, ws1, rfl, ⟨vs2, rfl, w2, ws2, rfl, rfl, w3, ws3, rfl, rfl, rfl⟩, w4, ws4, rfl, rfl, rfl⟩ := q3
    refine ⟨[.slice none 0 0], .t [.a [.s 0, .b sg'], .i .i64 e1], [.u []], ⟨_, _, _, rfl, rfl, rfl, hs, he⟩, ⟨rfl, ?_, ?_⟩, rfl, ?_, ?_, q5⟩
    · intro i o w h1 h2
      match i, h1, h2 with
      | 0, h1, h2 => cases h1; cases h2; exact .inl ⟨rfl, rfl⟩
      | i + 1, h1, h2 => simp at h1
    · intro i j o o' w w' id h1 h2 h3 h4 h5 h6 h7 h8
      match i, h5 with
      | 0, h5 => cases h5; cases h7
      | i + 1, h5 => simp at h5
    · exact ⟨_, rfl, _, _, rfl, ⟨_, rfl, _, _, rfl, ⟨rfl, _, _, _, rfl⟩, _, _, rfl, rfl, rfl⟩, _, _, rfl, rfl, rfl⟩
    · rintro id ⟨i, o, w, k1, k2, k3, k4⟩
      match i, k3 with
      | 0, k3 => cases k3; cases k4
      | i + 1, k3 => simp at k3
def repC (l : List Int) (n : Int) : Bool := decide (1 ≤ n ∧ n ≤ 128 / (l.length : Int))
theorem repeat2_ok (l : List Int) (s : Bool) (n : Int) (hl : l.length < 2 ^ 15) (hb : Byt l) : FvC CX TB (.f 29 [] []) [.a [.u l, .b s], .i .i64 n] [] (RE (repC (nB l) n) (repL (nB l) n.toNat) false (if n < 1 then 1 else 12)) := by
  have nv := nB_nv hb
  refine fn_ok rfl rfl fun B D G hG q hq => ?_
  cbv
  refine call hG [] (norm_ok l s hl) ⟨rfl, rfl, rfl⟩ ?_
  rintro _ _ ⟨M, t, rfl, rfl, hM, ht⟩
  cbv
  have nvM : NV M := by rw [hM]; exact nv
  have hlen := nvM.len
  have hpos := List.length_pos_iff.2 nvM.ne
  rw [← hM] at hq
  refine SX.ite hG (fun h1 => ?_) (fun h1 => ?_)
  · have h1 : n < 1 := by rw [hG] at h1; exact of_decide_eq_true h1
    exact hq _ _ (.inr ⟨decide_eq_false (fun h => by omega), _, _, rfl, rfl, rfl, by rw [if_pos h1]; rfl⟩)
  have h1 : ¬ n < 1 := by rw [hG] at h1; exact of_decide_eq_false h1
  have n0 : G.ne0 (G.lu M) := by rw [hG]; show ((M.length : Nat) : Int) ≠ 0; omega
  have e1 : G.ar .quo .i64 (Int.ofNat 128) (G.lu M) = 128 / (M.length : Int) := by
    rw [hG]
    show fwrap .i64 ((128 : Int).tdiv ((M.length : Nat) : Int)) = _
    rw [Int.tdiv_eq_ediv_of_nonneg (by decide)]
    have h2 : (128 : Int) / ((M.length : Nat) : Int) = ((128 / M.length : Nat) : Int) := by rw [Int.natCast_ediv]; rfl
    have h3 : 128 / M.length ≤ 128 := Nat.div_le_self _ _
    rw [h2]
    generalize 128 / M.length = d at h3
    exact fwi (by omega)
  refine ⟨n0, ?_⟩
  have h3 : 128 / M.length ≤ 128 := Nat.div_le_self _ _
  have h4 : (128 : Int) / ((M.length : Nat) : Int) = ((128 / M.length : Nat) : Int) := by rw [Int.natCast_ediv]; rfl
  refine SX.ite hG (fun h2 => ?_) (fun h2 => ?_)
  · have h2 : G.cmp .gtr n (G.ar .quo .i64 (Int.ofNat 128) (G.lu M)) = true := h2
    have h2 : n > 128 / (M.length : Int) := by rw [e1, hG] at h2; exact of_decide_eq_true h2
    exact hq _ _ (.inr ⟨decide_eq_false (fun h => absurd h.2 (Int.not_le.2 h2)), _, _, rfl, rfl, rfl, by rw [if_neg h1]; rfl⟩)
  have h2 : G.cmp .gtr n (G.ar .quo .i64 (Int.ofNat 128) (G.lu M)) = false := h2
  have h2 : ¬ n > 128 / (M.length : Int) := by rw [e1, hG] at h2; exact of_decide_eq_false h2
  have h5 : n ≤ 128 := by
    rw [h4] at h2
    generalize 128 / M.length = d at h2 h3
    omega
  refine call hG [] (repeat_ok M n (by omega) (by omega)) ⟨rfl, rfl, rfl⟩ ?_
  rintro _ _ ⟨L, rfl, rfl, hL⟩
  cbv
  exact hq _ _ (.inl ⟨decide_eq_true ⟨Int.not_lt.1 h1, Int.not_lt.1 h2⟩, _, _, _, rfl, rfl, hL, rfl, rfl⟩)
/-- Is l below m, z counted as x? -/
def blwF (x y : Int) : Bool := bLeq (bBuf x) (bBuf y)
def blw (l : List Int) (s : Bool) (m : List Int) (t : Bool) : Bool := s == t && eqF blwF l m
theorem below_ok (l m : List Int) (s t : Bool) (hl : l.length < 2 ^ 20) (bl : Byt l) (bm : Byt m) : FvC CX TB (.f 30 [] []) [.a [.u l, .b s], .a [.u m, .b t]] [] (RB (blw l s m t)) := by
  refine fn_ok rfl rfl fun B D G hG q hq => ?_
  cbv
  refine SX.ite hG (fun h1 => ?_) (fun h1 => ?_)
  · have h1 : decide (s ≠ t) = true := by rw [hG] at h1; simpa [std, beqS] using h1
    exact hq _ _ ⟨_, rfl, rfl, by have := of_decide_eq_true h1; symm; simp [blw, this]⟩
  have h1 : s = t := by rw [hG] at h1; simpa [std, beqS] using h1
  refine SX.ite hG (fun h2 => ?_) (fun h2 => ?_)
  · have h2 : l.length ≠ m.length := by have hq_ := h2; simp [hG, std, cmpS, arS, beqS] at hq_; omega
    exact hq _ _ ⟨_, rfl, rfl, by symm; simp [blw, eqF, h2]⟩
  have h2 : l.length = m.length := by have hq_ := h2; simp [hG, std, cmpS, arS, beqS] at hq_; omega
  refine lp hG (α := Int) (fun j => ∃ n : Nat, j = (n : Int) ∧ n ≤ l.length ∧ ∀ i : Nat, i < n → blwF (gu l i) (gu m i) = true) (fun j => l.length - j.toNat) (fun s j => s.put (some 5) (.i .i64 j)) 0 ⟨0, rfl, Nat.zero_le _, by simp⟩ (by constructor <;> cbv <;> simp) ?_
  rintro j ⟨n, hj, hn, hi⟩
  cbv
  refine SX.ite hG (fun h3 => ?_) (fun h3 => ?_)
  · have h3 : n < l.length := by simpa [hG, std, cmpS, arS, beqS, hj] using h3
    have v1 : G.ix j (G.lu l) := by rw [hG, hj]; show 0 ≤ (n : Int) ∧ (n : Int) < (l.length : Int); omega
    have v2 : G.ix j (G.lu m) := by rw [hG, hj]; show 0 ≤ (n : Int) ∧ (n : Int) < (m.length : Int); omega
    have hgu : G.gu l j = gu l n ∧ G.gu m j = gu m n := by rw [hG, hj]; exact ⟨rfl, rfl⟩
    refine ⟨v1, ?_⟩
    refine call hG [] (bBuf_ok (G.gu l j) (by rw [hgu.1]; exact bl _ (gu_mem h3))) ⟨rfl, rfl, rfl⟩ ?_
    rintro _ _ ⟨a, rfl, rfl, ha⟩
    cbv
    refine ⟨v2, ?_⟩
    refine call hG [] (bBuf_ok (G.gu m j) (by rw [hgu.2]; exact bm _ (gu_mem (by omega)))) ⟨rfl, rfl, rfl⟩ ?_
    rintro _ _ ⟨b, rfl, rfl, hb⟩
    cbv
    refine call hG [] (bLeq_ok a b) ⟨rfl, rfl, rfl⟩ ?_
    rintro _ _ ⟨c, rfl, rfl, hc⟩
    cbv
    rw [hgu.1] at ha
    rw [hgu.2] at hb
    have hj : j = (n : Int) := hj
    have ec : c = blwF (gu l n) (gu m n) := by rw [hc, ha, hb]; rfl
    refine okd hG rfl ?_
    refine SX.ite hG (fun h4 => ?_) (fun h4 => ?_)
    · have h4 : c = false := by rw [hG] at h4; simpa [std] using h4
      refine hq _ _ ⟨_, rfl, rfl, ?_⟩
      symm
      rw [Bool.eq_false_iff]
      intro hx
      simp only [blw, eqF, Bool.and_eq_true, List.all_eq_true, List.mem_range] at hx
      have := hx.2.2 n h3
      rw [← ec, h4] at this
      cases this
    · have h4 : c = true := by rw [hG] at h4; simpa [std] using h4
      exact ⟨G.ar .add .i64 j (Int.ofNat 1), ⟨n + 1, inc hG hj (by omega), h3, fun i hlt => by rcases Nat.lt_succ_iff_lt_or_eq.1 hlt with h | rfl; exact hi i h; rw [← ec]; exact h4⟩, mu hj (inc hG hj (by omega)) h3, by constructor <;> cbv <;> simp⟩
  · have h3 : l.length ≤ n := by simpa [hG, std, cmpS, arS, beqS, hj] using h3
    refine hq _ _ ⟨_, rfl, rfl, ?_⟩
    symm
    simp only [blw, eqF, Bool.and_eq_true, beq_iff_eq, decide_eq_true_eq, List.all_eq_true, List.mem_range]
    exact ⟨h1, h2, fun i hlt => hi i (by omega)⟩
/-- Is m valid, and does it refine the valid l? -/
def rfn (m : List Int) (t : Bool) (l : List Int) (s : Bool) : Bool := decide (chk l = 0) && decide (chk m = 0) && leqV l s m t
theorem refines_ok (m l : List Int) (t s : Bool) (hl : l.length < 2 ^ 15) (hm : m.length < 2 ^ 15) : FvC CX TB (.f 28 [] []) [.a [.u m, .b t], .a [.u l, .b s]] [] (RB (rfn m t l s)) := by
  refine fn_ok rfl rfl fun B D G hG q hq => ?_
  cbv
  refine call hG [] (rcheck_ok l s) ⟨rfl, rfl, rfl⟩ ?_
  rintro _ _ ⟨a, rfl, rfl, ha⟩
  cbv
  refine SX.ite hG (fun h1 => ?_) (fun h1 => ?_)
  · have h1 : a = 0 := by rw [hG] at h1; exact eq_of_beq h1
    refine call hG [] (rcheck_ok m t) ⟨rfl, rfl, rfl⟩ ?_
    rintro _ _ ⟨b, rfl, rfl, hb⟩
    cbv
    refine SX.ite hG (fun h2 => ?_) (fun h2 => ?_)
    · have h2 : b = 0 := by rw [hG] at h2; exact eq_of_beq h2
      refine call hG [] (vleq_ok l m s t hl hm) ⟨rfl, rfl, rfl⟩ ?_
      rintro _ _ ⟨c, rfl, rfl, hc⟩
      cbv
      exact hq _ _ ⟨_, rfl, rfl, by rw [hc, rfn, ← ha, ← hb, decide_eq_true h1, decide_eq_true h2]; rfl⟩
    · have h2 : ¬ b = 0 := by rw [hG] at h2; exact ne_of_beq_false h2
      exact hq _ _ ⟨_, rfl, rfl, by rw [rfn, ← hb, decide_eq_false h2]; simp⟩
  · have h1 : ¬ a = 0 := by rw [hG] at h1; exact ne_of_beq_false h1
    exact hq _ _ ⟨_, rfl, rfl, by rw [rfn, ← ha, decide_eq_false h1]; simp⟩
/-- Four vectors in a slice: is one longer than 140? -/
theorem long4_ok (l m n o : List Int) (s t u v : Bool) : FvC CX TB (.f 7 [] []) [.r 2 [.u l, .b s, .u m, .b t, .u n, .b u, .u o, .b v]] [] (RB (decide (140 < l.length) || decide (140 < m.length) || decide (140 < n.length) || decide (140 < o.length))) := by
  refine fn_ok rfl rfl fun B D G hG q hq => ?_
  cbv
  refine lp_one hG ?_
  cbv
  refine SX.ite hG (fun h1 => ?_) (fun h1 => ?_)
  · have h1 : 140 < l.length := by have hq_ := h1; simp [hG, std, cmpS, arS, beqS] at hq_; omega
    exact hq _ _ ⟨_, rfl, rfl, by simp [h1]⟩
  have h1 : ¬ 140 < l.length := by have hq_ := h1; simp [hG, std, cmpS, arS, beqS] at hq_; omega
  refine lp_one hG ?_
  cbv
  refine SX.ite hG (fun h2 => ?_) (fun h2 => ?_)
  · have h2 : 140 < m.length := by have hq_ := h2; simp [hG, std, cmpS, arS, beqS] at hq_; omega
    exact hq _ _ ⟨_, rfl, rfl, by simp [h2]⟩
  have h2 : ¬ 140 < m.length := by have hq_ := h2; simp [hG, std, cmpS, arS, beqS] at hq_; omega
  refine lp_one hG ?_
  cbv
  refine SX.ite hG (fun h3 => ?_) (fun h3 => ?_)
  · have h3 : 140 < n.length := by have hq_ := h3; simp [hG, std, cmpS, arS, beqS] at hq_; omega
    exact hq _ _ ⟨_, rfl, rfl, by simp [h3]⟩
  have h3 : ¬ 140 < n.length := by have hq_ := h3; simp [hG, std, cmpS, arS, beqS] at hq_; omega
  refine lp_one hG ?_
  cbv
  refine SX.ite hG (fun h4 => ?_) (fun h4 => ?_)
  · have h4 : 140 < o.length := by have hq_ := h4; simp [hG, std, cmpS, arS, beqS] at hq_; omega
    exact hq _ _ ⟨_, rfl, rfl, by simp [h4]⟩
  have h4 : ¬ 140 < o.length := by have hq_ := h4; simp [hG, std, cmpS, arS, beqS] at hq_; omega
  refine lp_one hG ?_
  cbv
  exact hq _ _ ⟨_, rfl, rfl, by simp [h1, h2, h3, h4]⟩
end Go.Proofs.YtdgbdkfoeaollaaDoor.V
