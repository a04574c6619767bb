/- vector, fold and what stands on them; Not. -/
import Derived.Test.YtdgbdkfoeaollaaGreatDoorVE
set_option linter.unusedSimpArgs false
set_option linter.unusedVariables false
namespace Go.Proofs.YtdgbdkfoeaollaaGreatDoor.V
open Go Go.AL Go.SX
def intL (l : List Bool) : List Int := l.map ofB
theorem gu_mapB {l : List Bool} {f : Bool → Int} {i : Nat} (h : i < l.length) : gu (l.map f) i = f (gb l i) := by
  unfold gb gu
  rw [Int.toNat_natCast, List.getElem?_map, List.getElem?_eq_getElem h]; rfl
theorem vector_ok (l : List Bool) (s : Bool) (hl : l.length < 2 ^ 20) : FvC CX TB (.f 104 [] []) [.bl l, .b s] [] (RV (intL l) s) := by
  refine fn_ok rfl rfl fun B D G hG q hq => ?_
  cbv
  have hmk : G.mk0 (G.lb l) := by rw [hG]; show 0 ≤ (l.length : Int) ∧ (l.length : Int) ≤ 2 ^ 40; omega
  refine ⟨hmk, ?_⟩
  refine lp hG (α := Int × List Int) (fun p => ∃ n : Nat, p.1 = (n : Int) ∧ n ≤ l.length ∧ p.2.length = l.length ∧ ∀ i : Nat, i < n → gu p.2 i = ofB (gb l i)) (fun p => l.length - p.1.toNat) (fun s p => (s.put (some 15) (.i .i64 p.1)).setO 1 (.u p.2)) (0, G.ru (G.lb l)) ⟨0, rfl, Nat.zero_le _, by rw [hG]; show (List.replicate ((l.length : Int)).toNat (0 : Int)).length = l.length; simp, by simp⟩ (by constructor <;> cbv <;> simp) ?_
  rintro ⟨j, L⟩ ⟨n, hj, hn, hL, hi⟩
  have hL : L.length = l.length := hL
  cbv
  have hj : j = (n : Int) := hj
  have hi : ∀ i : Nat, i < n → gu L i = ofB (gb l i) := hi
  refine SX.ite hG (fun h3 => ?_) (fun h3 => ?_)
  · have h3 : n < l.length := by simpa [hG, std, cmpS, arS, beqS, hj] using h3
    have v1 : G.ix j (G.lb l) := by rw [hG, hj]; show 0 ≤ (n : Int) ∧ (n : Int) < (l.length : Int); omega
    have v2 : G.ix j (G.lu L) := by rw [hG, hj]; show 0 ≤ (n : Int) ∧ (n : Int) < (L.length : Int); omega
    refine ⟨v1, ?_⟩
    have hgb : G.gb l j = gb l n := by rw [hG, hj]; rfl
    refine call hG [] (ofB_ok (G.gb l j)) ⟨rfl, rfl, rfl⟩ ?_
    rintro _ _ ⟨c, rfl, rfl, hc⟩
    cbv
    rw [hgb] at hc
    have hj : j = (n : Int) := hj
    have hnx : G.su L j c = L.set n (ofB (gb l n)) := by rw [hc, hG, hj]; rfl
    refine ⟨v2, v2, okd hG rfl ?_⟩
    have hi2 : ∀ i : Nat, i < n + 1 → gu (G.su L j c) i = ofB (gb l i) := fun i hlt => by
      rw [hnx, gu_set (by omega)]
      split
      · rename_i e; rw [e]
      · exact hi i (by omega)
    exact ⟨(G.ar .add .i64 j (Int.ofNat 1), G.su L j c), ⟨n + 1, inc hG hj (by omega), h3, by show (G.su _ _ _).length = _; rw [hnx]; simp [hL], hi2⟩, mu hj (inc hG hj (by omega)) h3, by constructor <;> cbv <;> simp⟩
  · have h3 : l.length ≤ n := by simpa [hG, std, cmpS, arS, beqS, hj] using h3
    refine hq _ _ ⟨_, _, rfl, rfl, gu_ext (by rw [hL]; simp [intL]) fun i hlt => ?_, rfl⟩
    rw [hi i (by omega), intL, gu_mapB (by omega)]
def fld (f : Int → Int → Int) (l : List Int) : Int := (l.drop 1).foldl f (bBuf (gu l 0))
theorem gu_drop {l : List Int} (k i : Nat) : gu (l.drop k) i = gu l (k + i : Nat) := by
  unfold gu
  rw [Int.toNat_natCast, Int.toNat_natCast, List.getElem?_drop]
theorem take_succ_gu {l : List Int} {n : Nat} (h : n < l.length) : l.take (n + 1) = l.take n ++ [gu l n] := by
  rw [List.take_add_one, List.getElem?_eq_getElem h]
  unfold gu
  rw [Int.toNat_natCast, List.getElem?_eq_getElem h]; rfl
theorem fold_4 {f : Int → Int → Int} (hf4 : ∀ x y, V4 x → V4 y → V4 (f x y)) : ∀ {l : List Int} {x : Int}, V4 x → (∀ y ∈ l, V4 y) → V4 (l.foldl f x)
  | [], x, hx, _ => hx
  | y :: l, x, hx, hl => fold_4 (l := l) (x := f x y) hf4 (hf4 x y hx (hl y (by simp))) (fun z hz => hl z (by simp [hz]))
theorem fold_ok (l : List Int) (s : Bool) (hne : l ≠ []) (hl : l.length < 2 ^ 20) (h4 : ∀ x ∈ l, V4 x) (k : Nat) (fs cs : List SV) (f : Int → Int → Int) (hf4 : ∀ x y, V4 x → V4 y → V4 (f x y)) (hf : ∀ x y, V4 x → V4 y → FvC CX TB (.fq k fs cs) [.i .u8 x, .i .u8 y] [] (RI .u8 (f x y))) : FvC CX TB (.f 95 [] []) [.a [.u l, .b s], .fq k fs cs] [] (RI .u8 (fld f l)) := by
  have hpos : 0 < l.length := List.length_pos_iff.2 hne
  refine fn_ok rfl rfl fun B D G hG q hq => ?_
  cbv
  have v0 : G.ix 0 (G.lu l) := by rw [hG]; show (0 : Int) ≤ 0 ∧ (0 : Int) < (l.length : Int); omega
  have hg0 : G.gu l 0 = gu l (0 : Nat) := by rw [hG]; rfl
  have hv0 : V4 (gu l (0 : Nat)) := h4 _ (gu_mem hpos)
  refine ⟨v0, ?_⟩
  refine call hG [] (bBuf_ok (G.gu l 0) (by rw [hg0]; exact hv0.1)) ⟨rfl, rfl, rfl⟩ ?_
  rintro _ _ ⟨b0, rfl, rfl, hb0⟩
  cbv
  rw [hg0] at hb0
  have v1 : G.le 1 (G.lu l) := by rw [hG]; show (0 : Int) ≤ 1 ∧ (1 : Int) ≤ (l.length : Int); omega
  refine ⟨v1, ?_⟩
  have hdu : G.du l 1 = l.drop 1 := by rw [hG]; rfl
  have hb4 : V4 b0 := by rw [hb0]; exact bBuf_4 hv0.1
  have hd4 : ∀ y ∈ l.drop 1, V4 y := fun y hy => h4 y (List.mem_of_mem_drop hy)
  refine lp hG (α := Int × Int) (fun p => ∃ n : Nat, p.1 = (n : Int) ∧ n ≤ (l.drop 1).length ∧ p.2 = ((l.drop 1).take n).foldl f b0) (fun p => (l.drop 1).length - p.1.toNat) (fun s p => (s.put (some 17) (.i .i64 p.1)).put (some 5) (.i .u8 p.2)) (0, b0) ⟨0, rfl, Nat.zero_le _, by simp⟩ (by constructor <;> cbv <;> simp) ?_
  rintro ⟨j, x⟩ ⟨n, hj, hn, hx⟩
  have hx : x = ((l.drop 1).take n).foldl f b0 := hx
  have hx4 : V4 x := by rw [hx]; exact fold_4 hf4 hb4 (fun y hy => hd4 y (List.mem_of_mem_take hy))
  cbv
  have hj : j = (n : Int) := hj
  refine SX.ite hG (fun h3 => ?_) (fun h3 => ?_)
  · have h3 : n < (l.drop 1).length := by
      rw [hG, hj] at h3
      have h3 : (n : Int) < ((l.drop 1).length : Int) := of_decide_eq_true h3
      omega
    have v2 : G.ix j (G.lu (G.du l 1)) := by rw [hdu, hG, hj]; show 0 ≤ (n : Int) ∧ (n : Int) < ((l.drop 1).length : Int); omega
    have hgu : G.gu (G.du l 1) j = gu (l.drop 1) n := by rw [hdu, hG, hj]; rfl
    have hm : V4 (G.gu (G.du l 1) j) := by rw [hgu]; exact hd4 _ (gu_mem h3)
    refine ⟨v2, ?_⟩
    refine callQ hG [] (hf x _ hx4 hm) ⟨rfl, rfl, rfl⟩ ?_
    rintro _ _ ⟨c, rfl, rfl, hc⟩
    cbv
    rw [hgu] at hc
    have hj : j = (n : Int) := hj
    exact ⟨(G.ar .add .i64 j (Int.ofNat 1), c), ⟨n + 1, inc hG hj (by have := List.length_drop (i := 1) (l := l); omega), h3, by show c = _; rw [take_succ_gu h3, List.foldl_append, hc, hx]; rfl⟩, mu hj (inc hG hj (by have := List.length_drop (i := 1) (l := l); omega)) h3, by constructor <;> cbv <;> simp⟩
  · have h3 : (l.drop 1).length ≤ n := by
      rw [hG, hj] at h3
      have h3 : ¬ (n : Int) < ((l.drop 1).length : Int) := of_decide_eq_false h3
      omega
    refine hq _ _ ⟨_, rfl, rfl, ?_⟩
    rw [hx, List.take_of_length_le h3, hb0]; rfl
/-- A vector as norm leaves it. -/
structure NV (l : List Int) : Prop where
  ne : l ≠ []
  len : l.length ≤ 128
  v : ∀ x ∈ l, V4 x
theorem chk_zero {l : List Int} (h : chk l = 0) : l ≠ [] ∧ l.length ≤ 128 ∧ ∀ x ∈ l, x ≤ 3 := by
  unfold chk at h
  split at h
  · cases h
  · rename_i h1
    split at h
    · cases h
    · rename_i h2
      split at h
      · rename_i h3
        refine ⟨fun e => h1 (by rw [e]; rfl), by omega, fun x hx => ?_⟩
        simpa using List.all_eq_true.1 h3 x hx
      · cases h
theorem nB_nv {l : List Int} (h : ∀ x ∈ l, 0 ≤ x) : NV (nB l) := by
  unfold nB
  split
  · rename_i hc
    obtain ⟨h1, h2, h3⟩ := chk_zero hc
    exact ⟨h1, h2, fun x hx => ⟨h x hx, h3 x hx⟩⟩
  · exact ⟨by simp, by simp, fun x hx => by simp at hx; subst hx; constructor <;> decide⟩
theorem chk_nv {l : List Int} (h : NV l) : chk l = 0 := by
  unfold chk
  rw [if_neg (fun e => h.ne (List.length_eq_zero_iff.1 e)), if_neg (by have := h.len; omega), if_pos (List.all_eq_true.2 fun x hx => by have := h.v x hx; unfold V4 at this; simp; omega)]
theorem nB_id {l : List Int} (h : NV l) : nB l = l := by rw [nB, if_pos (chk_nv h)]
theorem nS_id {l : List Int} (h : NV l) (s : Bool) : nS l s = s := by rw [nS, if_pos (chk_nv h)]
def Byt (l : List Int) : Prop := ∀ x ∈ l, 0 ≤ x
theorem bAnd_44 (x y : Int) (hx : V4 x) (hy : V4 y) : V4 (bAnd x y) := bAnd_4 hx.1 hy.1
theorem bOr_44 (x y : Int) (hx : V4 x) (hy : V4 y) : V4 (bOr x y) := bOr_4 hx.1 hy.1
theorem bXor_44 (x y : Int) (hx : V4 x) (hy : V4 y) : V4 (bXor x y) := bXor_4 hx.1 hy.1
theorem bEq_44 (x y : Int) (hx : V4 x) (hy : V4 y) : V4 (bEq x y) := bEq_4 hx.1 hy.1
theorem truth_ok (l : List Int) (s : Bool) (hl : l.length < 2 ^ 15) (hb : Byt l) : FvC CX TB (.f 17 [] []) [.a [.u l, .b s]] [] (RI .u8 (fld bOr (nB l))) := by
  have nv := nB_nv hb
  refine fn_ok rfl rfl fun B D G hG q hq => ?_
  cbv
  refine call hG [] (norm_ok l s hl) ⟨rfl, rfl, rfl⟩ ?_
  rintro _ _ ⟨L, t, rfl, rfl, hL, ht⟩
  cbv
  have nvL : NV L := by rw [hL]; exact nv
  refine call hG [] (fold_ok L t nvL.ne (by have := nvL.len; omega) nvL.v 97 [] [] bOr bOr_44 (fun x y hx hy => fq_ok (bOr_ok x y hx.1 hy.1))) ⟨rfl, rfl, rfl⟩ ?_
  rintro _ _ ⟨c, rfl, rfl, hc⟩
  cbv
  exact hq _ _ ⟨_, rfl, rfl, by rw [hc, hL]⟩
theorem vnot_ok (l : List Int) (s : Bool) (hl : l.length < 2 ^ 15) (hb : Byt l) : FvC CX TB (.f 29 [] []) [.a [.u l, .b s]] [] (RV ((nB l).map bNot) (nS l s)) := by
  have nv := nB_nv hb
  refine fn_ok rfl rfl fun B D G hG q hq => ?_
  cbv
  refine call hG [] (norm_ok l s hl) ⟨rfl, rfl, rfl⟩ ?_
  rintro _ _ ⟨M, t, rfl, rfl, hM, ht⟩
  cbv
  have nvM : NV M := by rw [hM]; exact nv
  have hlen := nvM.len
  refine lp hG (α := Int × List Int) (fun p => ∃ n : Nat, p.1 = (n : Int) ∧ n ≤ M.length ∧ p.2.length = M.length ∧ ∀ i : Nat, i < M.length → gu p.2 i = if i < n then bNot (gu M i) else gu M i) (fun p => M.length - p.1.toNat) (fun s p => (s.put (some 10) (.i .i64 p.1)).setO 2 (.u p.2)) (0, M) ⟨0, rfl, Nat.zero_le _, rfl, by simp⟩ (by constructor <;> cbv <;> simp) ?_
  rintro ⟨j, L⟩ ⟨n, hj, hn, hL, hi⟩
  have hL : L.length = M.length := hL
  cbv
  have hj : j = (n : Int) := hj
  have hi : ∀ i : Nat, i < M.length → gu L i = if i < n then bNot (gu M i) else gu M i := hi
  refine SX.ite hG (fun h3 => ?_) (fun h3 => ?_)
  · have h3 : n < M.length := by simpa [hG, std, cmpS, arS, beqS, hj] using h3
    have v2 : G.ix j (G.lu L) := by rw [hG, hj]; show 0 ≤ (n : Int) ∧ (n : Int) < (L.length : Int); omega
    refine ⟨v2, v2, ?_⟩
    have hgu : G.gu L j = gu M n := by
      rw [hG, hj]; show gu L n = _; rw [hi n h3, if_neg (by omega)]
    refine call hG [] (bNot_ok (G.gu L j) (by rw [hgu]; exact (nvM.v _ (gu_mem h3)).1)) ⟨rfl, rfl, rfl⟩ ?_
    rintro _ _ ⟨c, rfl, rfl, hc⟩
    cbv
    rw [hgu] at hc
    have hj : j = (n : Int) := hj
    have hnx : G.su L j c = L.set n (bNot (gu M n)) := by rw [hc, hG, hj]; rfl
    refine ⟨v2, v2, okd hG rfl ?_⟩
    have hi2 : ∀ i : Nat, i < M.length → gu (G.su L j c) i = if i < n + 1 then bNot (gu M i) else gu M i := fun i hlt => by
      rw [hnx, gu_set (by omega)]
      split
      · rename_i e; rw [e, if_pos (by omega)]
      · rw [hi i hlt]
        by_cases h5 : i < n
        · rw [if_pos h5, if_pos (by omega)]
        · rw [if_neg h5, if_neg (by omega)]
    exact ⟨(G.ar .add .i64 j (Int.ofNat 1), G.su L j c), ⟨n + 1, inc hG hj (by omega), h3, by show (G.su _ _ _).length = _; rw [hnx]; simp [hL], hi2⟩, mu hj (inc hG hj (by omega)) h3, by constructor <;> cbv <;> simp⟩
  · have h3 : M.length ≤ n := by simpa [hG, std, cmpS, arS, beqS, hj] using h3
    refine hq _ _ ⟨_, _, rfl, rfl, ?_, ht⟩
    rw [← hM]
    refine gu_ext (by rw [hL]; simp) fun i hlt => ?_
    rw [hi i (by omega), if_pos (by omega), gu_map (by omega)]
theorem nv1 {x : Int} (h : V4 x) : NV [x] := ⟨by simp, by simp, fun y hy => by simp at hy; subst hy; exact h⟩
theorem vnot1_ok (x : Int) (s : Bool) (h : V4 x) : FvC CX TB (.f 29 [] []) [.a [.u [x], .b s]] [] (RV1 (bNot x) s) := by
  have := vnot_ok [x] s (by simp) (fun y hy => by simp at hy; subst hy; exact h.1)
  rw [nB_id (nv1 h), nS_id (nv1 h)] at this
  exact this.mono fun _ _ => RV.one
end Go.Proofs.YtdgbdkfoeaollaaGreatDoor.V
