/- fill, norm and the functions of one vector. -/
import Derived.Test.YtdgbdkfoeaollaaGreatDoorVD
set_option linter.unusedSimpArgs false
set_option linter.unusedVariables false
namespace Go.Proofs.YtdgbdkfoeaollaaGreatDoor.V
open Go Go.AL Go.SX
theorem repL_one (b : Int) (n : Nat) : repL [b] n = List.replicate n b := by
  refine gu_ext (by simp [repL]) fun i hi => ?_
  have hi' : i < n := by simpa [repL] using hi
  rw [repL_get (by simpa using hi')]
  unfold gu
  simp [Nat.mod_one, hi']
theorem fill_ok (b w : Int) (s : Bool) (hw : 0 ≤ w ∧ w < 2 ^ 15) : FvC CX TB (.f 105 [] []) [.i .u8 b, .i .i64 w, .b s] [] (RV (List.replicate w.toNat b) s) := by
  refine fn_ok rfl rfl fun B D G hG q hq => ?_
  cbv
  refine call hG [] (repeat_ok [b] w (by simp) hw) ⟨rfl, rfl, rfl⟩ ?_
  rintro _ _ ⟨L, rfl, rfl, hL⟩
  cbv
  exact hq _ _ ⟨_, _, rfl, rfl, by rw [hL, repL_one], rfl⟩
def nB (l : List Int) : List Int := if chk l = 0 then l else [2]
def nS (l : List Int) (s : Bool) : Bool := if chk l = 0 then s else false
theorem norm_ok (l : List Int) (s : Bool) (hl : l.length < 2 ^ 15) : FvC CX TB (.f 96 [] []) [.a [.u l, .b s]] [] (RV (nB l) (nS l s)) := by
  refine fn_ok rfl rfl fun B D G hG q hq => ?_
  cbv
  refine call hG [] (check_ok l s) ⟨rfl, rfl, rfl⟩ ?_
  rintro _ _ ⟨e, rfl, rfl, he⟩
  cbv
  refine SX.ite hG (fun h1 => ?_) (fun h1 => ?_)
  · have h1 : ¬ e = 0 := by simpa [hG, std, cmpS, arS, beqS] using h1
    refine call hG [] (fill_ok _ _ _ (by constructor <;> decide)) ⟨rfl, rfl, rfl⟩ ?_
    rintro _ _ ⟨L, t, rfl, rfl, hL, ht⟩
    cbv
    exact hq _ _ ⟨_, _, rfl, rfl, by rw [hL, nB, if_neg (by rw [← he]; exact h1)]; rfl, by rw [ht, nS, if_neg (by rw [← he]; exact h1)]⟩
  · have h1 : e = 0 := by simpa [hG, std, cmpS, arS, beqS] using h1
    have hne : l ≠ [] := fun h => by rw [h] at he; rw [he] at h1; revert h1; decide
    refine call hG [] (clone_ok l hne (by omega)) ⟨rfl, rfl, rfl⟩ ?_
    rintro _ _ ⟨L, rfl, rfl, hL⟩
    cbv
    refine okd hG rfl (hq _ _ ⟨_, _, rfl, rfl, by rw [hL, nB, if_pos (by rw [← he]; exact h1)], by rw [nS, if_pos (by rw [← he]; exact h1)]⟩)
theorem single_ok (b : Int) : FvC CX TB (.f 123 [] []) [.i .u8 b] [] (RV1 b false) := by
  refine FvC.mono ?_ fun _ _ => RV.one
  refine fn_ok rfl rfl fun B D G hG q hq => ?_
  cbv
  refine call hG [] (fill_ok _ _ _ (by constructor <;> decide)) ⟨rfl, rfl, rfl⟩ ?_
  rintro _ _ ⟨L, t, rfl, rfl, hL, ht⟩
  cbv
  exact hq _ _ ⟨_, _, rfl, rfl, hL, ht⟩
theorem every1_ok (k : Nat) (fs cs : List SV) (x : Int) (p : Bool) (hf : FvC CX TB (.fq k fs cs) [.i .u8 x] [] (RB p)) : FvC CX TB (.f 180 [] [.p [.fq k fs cs]]) [.i .u8 x] [] (RB (!p)) := by
  refine fn_ok rfl rfl fun B D G hG q hq => ?_
  cbv
  refine callQ hG [] (hf) ⟨rfl, rfl, rfl⟩ ?_
  rintro _ _ ⟨c, rfl, rfl, hc⟩
  cbv
  exact hq _ _ ⟨_, rfl, rfl, by rw [hG, hc]; rfl⟩
theorem every_ok (l : List Int) (s : Bool) (hl : l.length < 2 ^ 20) (k : Nat) (fs cs : List SV) (p : Int → Bool) (hf : ∀ x, x ∈ l → FvC CX TB (.fq k fs cs) [.i .u8 x] [] (RB (p x))) : FvC CX TB (.f 140 [] []) [.a [.u l, .b s], .fq k fs cs] [] (RB (l.all p)) := by
  refine fn_ok rfl rfl fun B D G hG q hq => ?_
  cbv
  refine call hG [] (contains_ok l hl 180 [] [.p [.fq k fs cs]] (fun x => !p x) (fun x hx => fq_ok (every1_ok k fs cs x (p x) (hf x hx)))) ⟨rfl, rfl, rfl⟩ ?_
  rintro _ _ ⟨c, rfl, rfl, hc⟩
  cbv
  exact hq _ _ ⟨_, rfl, rfl, by rw [hG, hc]; show (!(l.any fun x => !p x)) = _; rw [List.not_any_eq_all_not]; simp⟩
def kn (l : List Int) : Bool := l.all bKn
theorem nB_len {l : List Int} (h : l.length < 2 ^ 15) : (nB l).length < 2 ^ 15 := by unfold nB; split <;> simp_all
theorem vknown_ok (l : List Int) (s : Bool) (hl : l.length < 2 ^ 15) : FvC CX TB (.f 68 [] []) [.a [.u l, .b s]] [] (RB (kn (nB l))) := by
  refine fn_ok rfl rfl fun B D G hG q hq => ?_
  cbv
  refine call hG [] (norm_ok l s hl) ⟨rfl, rfl, rfl⟩ ?_
  rintro _ _ ⟨L, t, rfl, rfl, hL, ht⟩
  cbv
  refine call hG [] (every_ok L t (by rw [hL]; have := nB_len hl; omega) 94 [] [] bKn (fun x _ => fq_ok (known_ok x))) ⟨rfl, rfl, rfl⟩ ?_
  rintro _ _ ⟨c, rfl, rfl, hc⟩
  cbv
  exact hq _ _ ⟨_, rfl, rfl, by rw [hc, hL]; rfl⟩
def leqV (l : List Int) (s : Bool) (m : List Int) (t : Bool) : Bool := nS l s == nS m t && eqF bLeq (nB l) (nB m)
theorem vleq_ok (l m : List Int) (s t : Bool) (hl : l.length < 2 ^ 15) (hm : m.length < 2 ^ 15) : FvC CX TB (.f 62 [] []) [.a [.u l, .b s], .a [.u m, .b t]] [] (RB (leqV l s m t)) := by
  refine fn_ok rfl rfl fun B D G hG q hq => ?_
  cbv
  refine call hG [] (norm_ok l s hl) ⟨rfl, rfl, rfl⟩ ?_
  rintro _ _ ⟨L, s1, rfl, rfl, hL, hs1⟩
  cbv
  refine call hG [] (norm_ok m t hm) ⟨rfl, rfl, rfl⟩ ?_
  rintro _ _ ⟨M, t1, rfl, rfl, hM, ht1⟩
  cbv
  refine okd hG rfl ?_
  refine SX.ite hG (fun h1 => ?_) (fun h1 => ?_)
  · have h1 : (s1 == t1) = true := by rw [hG] at h1; exact h1
    refine call hG [] (eqFunc_ok L M (by rw [hL]; have := nB_len hl; omega) 16 [] [] bLeq (fun x y _ _ => fq_ok (bLeq_ok x y))) ⟨rfl, rfl, rfl⟩ ?_
    rintro _ _ ⟨c, rfl, rfl, hc⟩
    cbv
    exact hq _ _ ⟨_, rfl, rfl, by rw [hc, leqV, ← hs1, ← ht1, h1, hL, hM]; rfl⟩
  · have h1 : (s1 == t1) = false := by rw [hG] at h1; exact h1
    exact hq _ _ ⟨_, rfl, rfl, by rw [leqV, ← hs1, ← ht1, h1]; rfl⟩
def boolL (l : List Int) : List Bool := l.map fun x => x == 1
theorem gb_ext {l m : List Bool} (h : l.length = m.length) (h2 : ∀ i : Nat, i < l.length → gb l i = gb m i) : l = m := by
  apply List.ext_getElem h
  intro i h3 h4
  have := h2 i h3
  unfold gb at this
  rw [Int.toNat_natCast, List.getElem?_eq_getElem h3, List.getElem?_eq_getElem h4] at this
  exact this
theorem gb_set {L : List Bool} {n : Nat} {b : Bool} (h : n < L.length) (i : Nat) : gb (L.set n b) i = if i = n then b else gb L i := by
  unfold gb
  rw [Int.toNat_natCast]
  by_cases e : i = n
  · subst e; rw [List.getElem?_set_self h, if_pos rfl]; rfl
  · rw [List.getElem?_set_ne (Ne.symm e), if_neg e]
theorem gu_set {L : List Int} {n : Nat} {b : Int} (h : n < L.length) (i : Nat) : gu (L.set n b) i = if i = n then b else gu L i := by
  unfold gu
  rw [Int.toNat_natCast]
  by_cases e : i = n
  · subst e; rw [List.getElem?_set_self h, if_pos rfl]; rfl
  · rw [List.getElem?_set_ne (Ne.symm e), if_neg e]
theorem gb_map {l : List Int} {f : Int → Bool} {i : Nat} (h : i < l.length) : gb (l.map f) i = f (gu l i) := by
  unfold gb gu
  rw [Int.toNat_natCast, List.getElem?_map, List.getElem?_eq_getElem h]; rfl
theorem gu_map {l : List Int} {f : Int → Int} {i : Nat} (h : i < l.length) : gu (l.map f) i = f (gu l i) := by
  unfold gu
  rw [Int.toNat_natCast, List.getElem?_map, List.getElem?_eq_getElem h]; rfl
theorem bools_ok (l : List Int) (s : Bool) (hl : l.length < 2 ^ 20) : FvC CX TB (.f 119 [] []) [.a [.u l, .b s]] [] (RL (boolL l)) := by
  refine fn_ok rfl rfl fun B D G hG q hq => ?_
  cbv
  have hmk : G.mk0 (G.lu l) := by rw [hG]; show 0 ≤ (l.length : Int) ∧ (l.length : Int) ≤ 2 ^ 40; omega
  refine ⟨hmk, ?_⟩
  refine lp hG (α := Int × List Bool) (fun p => ∃ n : Nat, p.1 = (n : Int) ∧ n ≤ l.length ∧ p.2.length = l.length ∧ ∀ i : Nat, i < n → gb p.2 i = (gu l i == 1)) (fun p => l.length - p.1.toNat) (fun s p => (s.put (some 13) (.i .i64 p.1)).setO 1 (.b p.2)) (0, G.rb (G.lu l)) ⟨0, rfl, Nat.zero_le _, by rw [hG]; show (List.replicate ((l.length : Int)).toNat false).length = l.length; simp, by simp⟩ (by constructor <;> cbv <;> simp) ?_
  rintro ⟨j, L⟩ ⟨n, hj, hn, hL, hi⟩
  have hL : L.length = l.length := hL
  cbv
  have hj : j = (n : Int) := hj
  have hi : ∀ i : Nat, i < n → gb L i = (gu l i == 1) := hi
  refine SX.ite hG (fun h3 => ?_) (fun h3 => ?_)
  · have h3 : n < l.length := by simpa [hG, std, cmpS, arS, beqS, hj] using h3
    have v1 : G.ix j (G.lu l) := by rw [hG, hj]; show 0 ≤ (n : Int) ∧ (n : Int) < (l.length : Int); omega
    have v2 : G.ix j (G.lb L) := by rw [hG, hj]; show 0 ≤ (n : Int) ∧ (n : Int) < (L.length : Int); omega
    have hgu : G.gu l j = gu l n := by rw [hG, hj]; rfl
    have hnx : G.sbl L j (G.cmp .eql (G.gu l j) (Int.ofNat 1)) = L.set n (gu l n == 1) := by rw [hgu, hG, hj]; rfl
    refine ⟨v1, v2, v2, ?_⟩
    have hi2 : ∀ i : Nat, i < n + 1 → gb (G.sbl L j (G.cmp .eql (G.gu l j) (Int.ofNat 1))) i = (gu l i == 1) := fun i hlt => by
      rw [hnx, gb_set (by omega)]
      split
      · rename_i e; rw [e]
      · exact hi i (by omega)
    exact ⟨(G.ar .add .i64 j (Int.ofNat 1), G.sbl L j (G.cmp .eql (G.gu l j) (Int.ofNat 1))), ⟨n + 1, inc hG hj (by omega), h3, by show (G.sbl _ _ _).length = _; rw [hnx]; simp [hL], hi2⟩, mu hj (inc hG hj (by omega)) h3, by constructor <;> cbv <;> simp⟩
  · have h3 : l.length ≤ n := by simpa [hG, std, cmpS, arS, beqS, hj] using h3
    refine hq _ _ ⟨_, rfl, rfl, gb_ext (by rw [hL]; simp [boolL]) fun i hlt => ?_⟩
    rw [hi i (by omega), boolL, gb_map (by omega)]
end Go.Proofs.YtdgbdkfoeaollaaGreatDoor.V
