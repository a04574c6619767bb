/- The reference's fit, Balance and Cond; Long of three vectors; Spoil. -/
import Derived.Test.YtdgbdkfoeaollaaGreatDoorVJ
import Derived.Test.YtdgbdkfoeaollaaGreatDoorALe
set_option linter.unusedSimpArgs false
set_option linter.unusedVariables false
namespace Go.Proofs.YtdgbdkfoeaollaaGreatDoor.V
open Go Go.AL Go.SX
def fitF (l : List Int) (s : Bool) (i : Nat) : Int := if i < l.length then gu l i else top l s
theorem fit_rsz (l : List Int) (s : Bool) (w : Nat) : (List.range w).map (fitF l s) = rsz l s w := by
  refine gu_ext (by rw [rsz_len]; simp) fun i hi => ?_
  have hi : i < w := by simpa using hi
  have e1 : gu ((List.range w).map (fitF l s)) i = fitF l s i := by
    unfold gu
    rw [Int.toNat_natCast, List.getElem?_map, List.getElem?_range hi]; rfl
  rw [e1]
  unfold fitF rsz
  split
  · rename_i h
    split
    · rw [gu_take hi]
    · unfold gu
      rw [Int.toNat_natCast, List.getElem?_append_left h]
  · rename_i h
    rw [if_neg (by omega)]
    unfold gu
    rw [Int.toNat_natCast, List.getElem?_append_right (by omega), List.getElem?_replicate, if_pos (by omega)]; rfl
theorem rfit_ok (l : List Int) (s : Bool) (w : Int) (hne : l ≠ []) (hl : l.length < 2 ^ 14) (hw : 1 ≤ w ∧ w < 2 ^ 14) : FvC CX TB (.f 146 [] []) [.a [.u l, .b s], .i .i64 w] [] (RV (rsz l s w.toNat) s) := by
  have hpos := List.length_pos_iff.2 hne
  obtain ⟨W, hW⟩ : ∃ W : Nat, w = (W : Int) := ⟨w.toNat, by omega⟩
  have hWlt : W < 2 ^ 14 := by omega
  refine fn_ok rfl rfl fun B D G hG q hq => ?_
  cbv
  refine lp_regB hG 2 0 (.u []) rfl rfl ?_
  refine lp hG (α := Int × List Int) (fun p => ∃ n : Nat, p.1 = (n : Int) ∧ n ≤ W ∧ p.2 = (List.range n).map (fitF l s)) (fun p => W - p.1.toNat) (fun s p => (s.put (some 6) (.i .i64 p.1)).setO 3 (.u p.2)) (0, []) ⟨0, rfl, Nat.zero_le _, by simp⟩ (by constructor <;> cbv <;> simp) ?_
  rintro ⟨j, L⟩ ⟨n, hj, hn, hL⟩
  have hL : L = (List.range n).map (fitF l s) := hL
  have hlen : L.length = n := by rw [hL]; simp
  cbv
  have hj : j = (n : Int) := hj
  have hap : ∀ x : Int, G.ap (G.lu L) (G.lu [x]) := fun x => by subst hG; simp only [std]; simp; omega
  have hx : ∀ x : Int, x = fitF l s n → G.apu L [x] = (List.range (n + 1)).map (fitF l s) := fun x hx => by
    rw [List.range_succ, List.map_append, ← hL, List.map_cons, List.map_nil, hx]; subst hG; rfl
  refine SX.ite hG (fun h3 => ?_) (fun h3 => ?_)
  · have h3 : n < W := by
      rw [hG, hj, hW] at h3
      have h3 : (n : Int) < (W : Int) := of_decide_eq_true h3
      omega
    refine SX.ite hG (fun h4 => ?_) (fun h4 => ?_)
    · have h4 : n < l.length := by
        rw [hG, hj] at h4
        have h4 : (n : Int) < (l.length : Int) := of_decide_eq_true h4
        omega
      have v1 : G.ix j (G.lu l) := by rw [hG, hj]; show 0 ≤ (n : Int) ∧ (n : Int) < (l.length : Int); omega
      have e1 : G.gu l j = fitF l s n := by unfold fitF; rw [if_pos h4, hG, hj]; rfl
      refine ⟨v1, hap _, okd hG rfl ?_⟩
      exact ⟨(G.ar .add .i64 j (Int.ofNat 1), G.apu L [G.gu l j]), ⟨n + 1, inc hG hj (by omega), h3, hx _ e1⟩, mu hj (inc hG hj (by omega)) h3, by constructor <;> cbv <;> simp⟩
    have h4 : ¬ n < l.length := by
      rw [hG, hj] at h4
      have h4 : ¬ (n : Int) < (l.length : Int) := of_decide_eq_false h4
      omega
    refine SX.ite hG (fun h5 => ?_) (fun h5 => ?_)
    · have e0 : G.ar .sub .i64 (G.lu l) (Int.ofNat 1) = ((l.length - 1 : Nat) : Int) := by
        rw [subi hG (by rw [hG]; show _ ≤ (l.length : Int) - 1 ∧ (l.length : Int) - 1 < _; omega), hG]
        show (l.length : Int) - 1 = _
        omega
      have v1 : G.ix (G.ar .sub .i64 (G.lu l) (Int.ofNat 1)) (G.lu l) := by rw [e0, hG]; show 0 ≤ ((l.length - 1 : Nat) : Int) ∧ ((l.length - 1 : Nat) : Int) < (l.length : Int); omega
      have e1 : G.gu l (G.ar .sub .i64 (G.lu l) (Int.ofNat 1)) = fitF l s n := by unfold fitF top; rw [if_neg h4, if_pos h5, e0, hG]; rfl
      refine ⟨v1, hap _, okd hG rfl ?_⟩
      exact ⟨(G.ar .add .i64 j (Int.ofNat 1), G.apu L [G.gu l (G.ar .sub .i64 (G.lu l) (Int.ofNat 1))]), ⟨n + 1, inc hG hj (by omega), h3, hx _ e1⟩, mu hj (inc hG hj (by omega)) h3, by constructor <;> cbv <;> simp⟩
    · refine ⟨hap _, ?_⟩
      exact ⟨(G.ar .add .i64 j (Int.ofNat 1), G.apu L [Int.ofNat 0]), ⟨n + 1, inc hG hj (by omega), h3, hx _ (by unfold fitF top; rw [if_neg h4, h5]; rfl)⟩, mu hj (inc hG hj (by omega)) h3, by constructor <;> cbv <;> simp⟩
  · have h3 : W ≤ n := by
      rw [hG, hj, hW] at h3
      have h3 : ¬ (n : Int) < (W : Int) := of_decide_eq_false h3
      omega
    refine hq _ _ ⟨_, _, rfl, rfl, ?_, rfl⟩
    rw [hL, fit_rsz, hW, show n = W by omega]; rfl
section
variable (l m : List Int) (s t : Bool) (hl : l.length < 2 ^ 14) (hm : m.length < 2 ^ 14) (bl : Byt l) (bm : Byt m)
include hl hm bl bm
theorem rbalance_ok : FvC CX TB (.f 158 [] []) [.a [.u l, .b s], .a [.u m, .b t]] [] (RP (bX l s m t) (bY l s m t) (bg l s m t)) := by
  have nX := nB_nv bl
  have nY := nB_nv bm
  refine fn_ok rfl rfl fun B D G hG q hq => ?_
  cbv
  refine call hG [] (rnorm_ok l s (by omega)) ⟨rfl, rfl, rfl⟩ ?_
  rintro _ _ ⟨X, g1, rfl, rfl, hX, hg1⟩
  cbv
  refine call hG [] (rnorm_ok m t (by omega)) ⟨rfl, rfl, rfl⟩ ?_
  rintro _ _ ⟨Y, g2, rfl, rfl, hY, hg2⟩
  cbv
  refine okd hG rfl ?_
  rw [← hX] at nX
  rw [← hY] at nY
  have lX := nX.len
  have lY := nY.len
  have pX := List.length_pos_iff.2 nX.ne
  have em : G.mx (G.lu X) (G.lu Y) = (bwd l m : Int) := by
    unfold bwd
    rw [← hX, ← hY]
    subst hG
    show AL.mx ((X.length : Nat) : Int) ((Y.length : Nat) : Int) = ((max X.length Y.length : Nat) : Int)
    unfold AL.mx
    simp
    omega
  have hw : 1 ≤ G.mx (G.lu X) (G.lu Y) ∧ G.mx (G.lu X) (G.lu Y) < 2 ^ 14 := by
    rw [em]
    have := bwd_r bl bm
    omega
  have fin : ∀ g, g = (g1 && g2) → ∀ L M g' h', L = rsz X g (G.mx (G.lu X) (G.lu Y)).toNat → M = rsz Y g (G.mx (G.lu X) (G.lu Y)).toNat → g' = g → h' = g → q (.t [.a [.s 0, .b g'], .a [.s 1, .b h']]) [.u L, .u M] := by
    intro g hg L M g' h' e1 e2 e3 e4
    rw [em, hX, hg, hg1, hg2] at e1
    rw [em, hY, hg, hg1, hg2] at e2
    rw [hg, hg1, hg2] at e3 e4
    exact hq _ _ ⟨L, M, g', h', rfl, rfl, e1, e2, e3, e4⟩
  refine SX.ite hG (fun h1 => ?_) (fun h1 => ?_)
  · have e : g1 = false := by rw [hG] at h1; simpa [std] using h1
    refine call hG [] (rfit_ok X false _ nX.ne (by omega) hw) ⟨rfl, rfl, rfl⟩ ?_
    rintro _ _ ⟨L, g, rfl, rfl, hL, hg⟩
    cbv
    refine call hG [] (rfit_ok Y false _ nY.ne (by omega) hw) ⟨rfl, rfl, rfl⟩ ?_
    rintro _ _ ⟨M, h, rfl, rfl, hM, hh⟩
    cbv
    exact okd hG rfl (fin false (by rw [e]; rfl) _ _ _ _ hL hM hg hh)
  have e1 : g1 = true := by rw [hG] at h1; simpa [std] using h1
  refine SX.ite hG (fun h2 => ?_) (fun h2 => ?_)
  · have e : g2 = false := by rw [hG] at h2; simpa [std] using h2
    refine call hG [] (rfit_ok X false _ nX.ne (by omega) hw) ⟨rfl, rfl, rfl⟩ ?_
    rintro _ _ ⟨L, g, rfl, rfl, hL, hg⟩
    cbv
    refine call hG [] (rfit_ok Y false _ nY.ne (by omega) hw) ⟨rfl, rfl, rfl⟩ ?_
    rintro _ _ ⟨M, h, rfl, rfl, hM, hh⟩
    cbv
    exact okd hG rfl (fin false (by rw [e, e1]; rfl) _ _ _ _ hL hM hg hh)
  have e2 : g2 = true := by rw [hG] at h2; simpa [std] using h2
  have e12 : g2 = g1 := by rw [e1, e2]
  refine call hG [] (rfit_ok X g1 _ nX.ne (by omega) hw) ⟨rfl, rfl, rfl⟩ ?_
  rintro _ _ ⟨L, g, rfl, rfl, hL, hg⟩
  cbv
  refine call hG [] (rfit_ok Y g2 _ nY.ne (by omega) hw) ⟨rfl, rfl, rfl⟩ ?_
  rintro _ _ ⟨M, h, rfl, rfl, hM, hh⟩
  cbv
  exact okd hG rfl (fin g1 (by rw [e1, e2]; rfl) _ _ _ _ hL (by rw [e12] at hM; exact hM) hg (by rw [hh, e12]))
end
/-- Three vectors in a slice: is one longer than 140? -/
theorem long3_ok (l m n : List Int) (s t u : Bool) : FvC CX TB (.f 10 [] []) [.r 2 [.u l, .b s, .u m, .b t, .u n, .b u]] [] (RB (decide (140 < l.length) || decide (140 < m.length) || decide (140 < n.length))) := by
  refine fn_ok rfl rfl fun B D G hG q hq => ?_
  cbv
  refine lp_one hG ?_
  cbv
  refine SX.ite hG (fun h1 => ?_) (fun h1 => ?_)
  · have h1 : 140 < l.length := by have hq_ := h1; simp [hG, std, cmpS, arS, beqS] at hq_; omega
    exact hq _ _ ⟨_, rfl, rfl, by simp [h1]⟩
  have h1 : ¬ 140 < l.length := by have hq_ := h1; simp [hG, std, cmpS, arS, beqS] at hq_; omega
  refine lp_one hG ?_
  cbv
  refine SX.ite hG (fun h2 => ?_) (fun h2 => ?_)
  · have h2 : 140 < m.length := by have hq_ := h2; simp [hG, std, cmpS, arS, beqS] at hq_; omega
    exact hq _ _ ⟨_, rfl, rfl, by simp [h2]⟩
  have h2 : ¬ 140 < m.length := by have hq_ := h2; simp [hG, std, cmpS, arS, beqS] at hq_; omega
  refine lp_one hG ?_
  cbv
  refine SX.ite hG (fun h3 => ?_) (fun h3 => ?_)
  · have h3 : 140 < n.length := by have hq_ := h3; simp [hG, std, cmpS, arS, beqS] at hq_; omega
    exact hq _ _ ⟨_, rfl, rfl, by simp [h3]⟩
  have h3 : ¬ 140 < n.length := by have hq_ := h3; simp [hG, std, cmpS, arS, beqS] at hq_; omega
  refine lp_one hG ?_
  cbv
  exact hq _ _ ⟨_, rfl, rfl, by simp [h1, h2, h3]⟩
/-- An own vector is overwritten. -/
theorem spoil1_ok (l : List Int) (s : Bool) (hl : l.length < 2 ^ 20) : FvC CX TB (.f 65 [] []) [.r 2 [.s 0, .b s]] [.u l] (fun r ro => r = .t [] ∧ ro = []) := by
  refine fn_ok rfl rfl fun B D G hG q hq => ?_
  cbv
  refine lp_one hG ?_
  cbv
  refine lp hG (α := Int × List Int) (fun p => ∃ n : Nat, p.1 = (n : Int) ∧ n ≤ l.length ∧ p.2.length = l.length) (fun p => l.length - p.1.toNat) (fun s p => (s.put (some 3) (.i .i64 p.1)).setO 0 (.u p.2)) (0, l) ⟨0, rfl, Nat.zero_le _, rfl⟩ (by constructor <;> cbv <;> simp) ?_
  rintro ⟨j, L⟩ ⟨n, hj, hn, hL⟩
  have hL : L.length = l.length := hL
  cbv
  have hj : j = (n : Int) := hj
  refine SX.ite hG (fun h3 => ?_) (fun h3 => ?_)
  · have h3 : n < l.length := by
      rw [hG, hj] at h3
      have h3 : (n : Int) < (L.length : Int) := of_decide_eq_true h3
      omega
    have v1 : G.ix j (G.lu L) := by rw [hG, hj]; show 0 ≤ (n : Int) ∧ (n : Int) < (L.length : Int); omega
    refine ⟨v1, v1, ?_⟩
    have hnx : (G.su L j (Int.ofNat 99)).length = l.length := by subst hG; show (List.set _ _ _).length = _; simp [hL]
    exact ⟨(G.ar .add .i64 j (Int.ofNat 1), G.su L j (Int.ofNat 99)), ⟨n + 1, inc hG hj (by omega), h3, hnx⟩, mu hj (inc hG hj (by omega)) h3, by constructor <;> cbv <;> simp⟩
  · refine lp_one hG ?_
    cbv
    exact hq _ _ ⟨rfl, rfl⟩
end Go.Proofs.YtdgbdkfoeaollaaGreatDoor.V
