/- window, Resize, Slice and Put. -/
import Derived.Test.YtdgbdkfoeaollaaGreatDoorVN
import Derived.Test.YtdgbdkfoeaollaaGreatDoorALe
set_option linter.unusedSimpArgs false
set_option linter.unusedVariables false
namespace Go.Proofs.YtdgbdkfoeaollaaGreatDoor.V
open Go Go.AL Go.SX
/-- A number of 64 bits with sign. -/
def I64 (x : Int) : Prop := -9223372036854775808 ≤ x ∧ x < 9223372036854775808
theorem wrap64 {x : Int} (h : I64 x) : fwrap .i64 x = x := X.fw64 (by have := h.1; omega) (by have := h.2; omega)
theorem addw {B : AH} {D : Bs} {G : Sg} (hG : G = std CX TB B D) {a b : Int} (h : I64 (a + b)) : G.ar .add .i64 a b = a + b := by
  subst hG; exact wrap64 h
theorem subw {B : AH} {D : Bs} {G : Sg} (hG : G = std CX TB B D) {a b : Int} (h : I64 (a - b)) : G.ar .sub .i64 a b = a - b := by
  subst hG; exact wrap64 h
def win (hi lo : Int) : Int := if hi < lo then 1 else if 128 ≤ hi - lo then 12 else 0
theorem fwu_mod (x : Int) : fwrap .u64 x = x % 18446744073709551616 := by
  rw [fwrap_eq]
  rfl
theorem window_ok (hi lo : Int) (h1 : I64 hi) (h2 : I64 lo) : FvC CX TB (.f 109 [] []) [.i .i64 hi, .i .i64 lo] [] (RI .i64 (win hi lo)) := by
  unfold I64 at h1 h2
  refine fn_ok rfl rfl fun B D G hG q hq => ?_
  cbv
  refine SX.ite hG (fun h3 => ?_) (fun h3 => ?_)
  · have h4 : hi < lo := by rw [hG] at h3; exact of_decide_eq_true h3
    exact hq _ _ ⟨_, rfl, rfl, by rw [win, if_pos h4]; rfl⟩
  have h4 : ¬ hi < lo := by rw [hG] at h3; exact of_decide_eq_false h3
  have e : G.ar .sub .u64 (G.cv .u64 hi) (G.cv .u64 lo) = hi - lo := by
    subst hG
    show fwrap .u64 (fwrap .u64 hi - fwrap .u64 lo) = _
    rw [fwu_mod, fwu_mod, fwu_mod]
    omega
  refine SX.ite hG (fun h5 => ?_) (fun h5 => ?_)
  · have h5 : G.cmp .geq (G.ar .sub .u64 (G.cv .u64 hi) (G.cv .u64 lo)) 128 = true := h5
    have h6 : hi - lo ≥ 128 := by rw [e, hG] at h5; exact of_decide_eq_true h5
    exact hq _ _ ⟨_, rfl, rfl, by rw [win, if_neg h4, if_pos (by omega)]; rfl⟩
  · have h5 : G.cmp .geq (G.ar .sub .u64 (G.cv .u64 hi) (G.cv .u64 lo)) 128 = false := h5
    have h6 : ¬ hi - lo ≥ 128 := by rw [e, hG] at h5; exact of_decide_eq_false h5
    exact hq _ _ ⟨_, rfl, rfl, by rw [win, if_neg h4, if_neg (by omega)]; rfl⟩
theorem win_zero {hi lo : Int} (h : win hi lo = 0) : lo ≤ hi ∧ hi - lo < 128 := by
  unfold win at h
  split at h
  · cases h
  · split at h
    · cases h
    · omega
theorem vresize_ok (l : List Int) (s : Bool) (w : Int) (hl : l.length < 2 ^ 15) (hb : Byt l) : FvC CX TB (.f 22 [] []) [.a [.u l, .b s], .i .i64 w] [] (RE (okW w) (rsz (nB l) (nS l s) w.toNat) (nS l s) 12) := by
  have nv := nB_nv hb
  refine fn_ok rfl rfl fun B D G hG q hq => ?_
  cbv
  refine call hG [] (width_ok w) ⟨rfl, rfl, rfl⟩ ?_
  rintro _ _ ⟨c, rfl, rfl, hc⟩
  cbv
  refine SX.ite hG (fun h1 => ?_) (fun h1 => ?_)
  · have e : c = false := by rw [hG] at h1; simpa [std] using h1
    exact hq _ _ (.inr ⟨by rw [← hc]; exact e, _, _, rfl, rfl, rfl, rfl⟩)
  have e : c = true := by rw [hG] at h1; simpa [std] using h1
  have hw : 1 ≤ w ∧ w ≤ 128 := by
    rw [hc] at e
    unfold okW at e
    simpa using e
  refine call hG [] (norm_ok l s hl) ⟨rfl, rfl, rfl⟩ ?_
  rintro _ _ ⟨M, t, rfl, rfl, hM, ht⟩
  cbv
  have nvM : NV M := by rw [hM]; exact nv
  have hlen := nvM.len
  refine call hG [2] (resize_ok M t w nvM.ne (by omega) (by omega)) ⟨rfl, rfl, rfl⟩ ?_
  rintro _ _ ⟨L, g, rfl, rfl, hL, hg⟩
  cbv
  exact hq _ _ (.inl ⟨by rw [← hc]; exact e, _, _, _, rfl, rfl, by rw [hL, hM, ht], by rw [hg, ht], rfl⟩)
def slF (L : List Int) (lo : Int) (k : Nat) : Int := if 0 ≤ lo + (k : Int) ∧ lo + (k : Int) < (L.length : Int) then gu L (lo + (k : Int)) else 2
def slc (L : List Int) (hi lo : Int) : List Int := (List.range (hi - lo + 1).toNat).map (slF L lo)
theorem slc_len (L : List Int) (hi lo : Int) : (slc L hi lo).length = (hi - lo + 1).toNat := by simp [slc]
theorem slc_get {L : List Int} {hi lo : Int} {i : Nat} (h : i < (hi - lo + 1).toNat) : gu (slc L hi lo) i = slF L lo i := by
  show (((List.range (hi - lo + 1).toNat).map (slF L lo))[((i : Nat) : Int).toNat]?).getD 0 = _
  rw [Int.toNat_natCast, List.getElem?_map, List.getElem?_range h]; rfl
theorem slice_ok (l : List Int) (s : Bool) (hi lo : Int) (hl : l.length < 2 ^ 15) (hb : Byt l) (h1 : I64 hi) (h2 : I64 lo) : FvC CX TB (.f 26 [] []) [.a [.u l, .b s], .i .i64 hi, .i .i64 lo] [] (RE (decide (win hi lo = 0)) (slc (nB l) hi lo) false (win hi lo)) := by
  have nv := nB_nv hb
  refine fn_ok rfl rfl fun B D G hG q hq => ?_
  cbv
  refine call hG [] (window_ok hi lo h1 h2) ⟨rfl, rfl, rfl⟩ ?_
  rintro _ _ ⟨c, rfl, rfl, hc⟩
  cbv
  refine SX.ite hG (fun h3 => ?_) (fun h3 => ?_)
  · have h4 : ¬ c = 0 := by rw [hG] at h3; simpa [std, cmpS] using h3
    exact hq _ _ (.inr ⟨by rw [← hc]; exact decide_eq_false h4, _, _, rfl, rfl, rfl, hc⟩)
  have h4 : c = 0 := by rw [hG] at h3; simpa [std, cmpS] using h3
  have hw := win_zero (by rw [← hc]; exact h4)
  unfold I64 at h1 h2
  obtain ⟨Z, hZ⟩ : ∃ Z : Nat, hi - lo + 1 = (Z : Int) := ⟨(hi - lo + 1).toNat, by omega⟩
  have hZ1 : 1 ≤ Z ∧ Z ≤ 128 := by omega
  have hZi : ∀ k : Nat, k < Z → I64 (lo + (k : Int)) := fun k hk => by unfold I64; omega
  have hZn : (hi - lo + 1).toNat = Z := by omega
  have e1 : G.ar .add .i64 (G.ar .sub .i64 hi lo) (Int.ofNat 1) = (Z : Int) := by
    rw [subw hG (by unfold I64; omega), addw hG (by unfold I64; show _ ≤ hi - lo + 1 ∧ hi - lo + 1 < _; omega)]
    exact hZ
  refine call hG [] (norm_ok l s hl) ⟨rfl, rfl, rfl⟩ ?_
  rintro _ _ ⟨M, t, rfl, rfl, hM, ht⟩
  cbv
  have nvM : NV M := by rw [hM]; exact nv
  have hlen := nvM.len
  refine call hG [] (fill_ok (.ofNat 2) (G.ar .add .i64 (G.ar .sub .i64 hi lo) (Int.ofNat 1)) false (by rw [e1]; omega)) ⟨rfl, rfl, rfl⟩ ?_
  rintro _ _ ⟨F, g, rfl, rfl, hF, hg⟩
  cbv
  rw [e1] at hF
  have hFl : F.length = Z := by rw [hF]; simp
  have hF2 : ∀ i : Nat, i < Z → gu F i = 2 := fun i hi => by
    rw [hF]; unfold gu; rw [Int.toNat_natCast, List.getElem?_replicate, if_pos (by simpa using hi)]; rfl
  refine lp hG (α := Int × List Int) (fun p => ∃ n : Nat, p.1 = (n : Int) ∧ n ≤ Z ∧ p.2.length = Z ∧ ∀ i : Nat, i < Z → gu p.2 i = if i < n then slF M lo i else 2) (fun p => Z - p.1.toNat) (fun s p => (s.put (some 29) (.i .i64 p.1)).setO 3 (.u p.2)) (0, F) ⟨0, rfl, Nat.zero_le _, hFl, by simpa using hF2⟩ (by constructor <;> cbv <;> simp) ?_
  rintro ⟨j, L⟩ ⟨n, hj, hn, hL, hi5⟩
  have hL : L.length = Z := hL
  cbv
  have hj : j = (n : Int) := hj
  have hi5 : ∀ i : Nat, i < Z → gu L i = if i < n then slF M lo i else 2 := hi5
  have key : ∀ x, x = slF M lo n → G.su L j x = L.set n (slF M lo n) := fun x hx => by rw [hx, hG, hj]; rfl
  have inv : n < Z → ∀ i : Nat, i < Z → gu (L.set n (slF M lo n)) i = if i < n + 1 then slF M lo i else 2 := fun h i hlt => by
    rw [gu_set (by omega)]
    split
    · rename_i e; rw [e, if_pos (by omega)]
    · rw [hi5 i hlt]
      by_cases h5 : i < n
      · rw [if_pos h5, if_pos (by omega)]
      · rw [if_neg h5, if_neg (by omega)]
  have inv2 : n < Z → slF M lo n = 2 → ∀ i : Nat, i < Z → gu L i = if i < n + 1 then slF M lo i else 2 := fun h hs i hlt => by
    rw [hi5 i hlt]
    by_cases h5 : i < n
    · rw [if_pos h5, if_pos (by omega)]
    · rw [if_neg h5]
      by_cases h7 : i = n
      · rw [if_pos (by omega), h7, hs]
      · rw [if_neg (by omega)]
  refine SX.ite hG (fun h6 => ?_) (fun h6 => ?_)
  · have h6 : n < Z := by
      rw [hG, hj] at h6
      have h6 : (n : Int) < (F.length : Int) := of_decide_eq_true h6
      omega
    have ea : G.ar .add .i64 lo j = lo + (n : Int) := by rw [hj]; exact addw hG (hZi n h6)
    refine SX.ite hG (fun h7 => ?_) (fun h7 => ?_)
    · have h7 : lo + (n : Int) ≥ 0 := by
        have h7 : G.cmp .geq (G.ar .add .i64 lo j) 0 = true := h7
        rw [ea, hG] at h7; exact of_decide_eq_true h7
      refine SX.ite hG (fun h8 => ?_) (fun h8 => ?_)
      · have h8 : lo + (n : Int) < (M.length : Int) := by
          have h8 : G.cmp .lss (G.ar .add .i64 lo j) (G.lu M) = true := h8
          rw [ea, hG] at h8; exact of_decide_eq_true h8
        have v1 : G.ix (G.ar .add .i64 lo j) (G.lu M) := by rw [ea, hG]; exact ⟨h7, h8⟩
        have v2 : G.ix j (G.lu L) := by rw [hG, hj]; show 0 ≤ (n : Int) ∧ (n : Int) < (L.length : Int); omega
        refine ⟨v1, v1, v2, v2, okd hG rfl ?_⟩
        have ex : G.gu M (G.ar .add .i64 lo j) = slF M lo n := by unfold slF; rw [if_pos ⟨h7, h8⟩, ea, hG]; rfl
        have ek := key _ ex
        have iv := inv h6
        rw [← ek] at iv
        have il : (G.su L j (G.gu M (G.ar .add .i64 lo j))).length = Z := by rw [ek]; simp [hL]
        exact ⟨(G.ar .add .i64 j (Int.ofNat 1), G.su L j (G.gu M (G.ar .add .i64 lo j))), ⟨n + 1, inc hG hj (by omega), h6, il, iv⟩, mu hj (inc hG hj (by omega)) h6, by constructor <;> cbv <;> simp⟩
      · have h8 : ¬ lo + (n : Int) < (M.length : Int) := by
          have h8 : G.cmp .lss (G.ar .add .i64 lo j) (G.lu M) = false := h8
          rw [ea, hG] at h8; exact of_decide_eq_false h8
        exact ⟨(G.ar .add .i64 j (Int.ofNat 1), L), ⟨n + 1, inc hG hj (by omega), h6, hL, inv2 h6 (by unfold slF; rw [if_neg (by omega)])⟩, mu hj (inc hG hj (by omega)) h6, by constructor <;> cbv <;> simp⟩
    · have h7 : ¬ lo + (n : Int) ≥ 0 := by
        have h7 : G.cmp .geq (G.ar .add .i64 lo j) 0 = false := h7
        rw [ea, hG] at h7; exact of_decide_eq_false h7
      exact ⟨(G.ar .add .i64 j (Int.ofNat 1), L), ⟨n + 1, inc hG hj (by omega), h6, hL, inv2 h6 (by unfold slF; rw [if_neg (by omega)])⟩, mu hj (inc hG hj (by omega)) h6, by constructor <;> cbv <;> simp⟩
  · have h6 : Z ≤ n := by
      rw [hG, hj] at h6
      have h6 : ¬ (n : Int) < (F.length : Int) := of_decide_eq_false h6
      omega
    refine hq _ _ (.inl ⟨by rw [← hc]; exact decide_eq_true h4, _, _, _, rfl, rfl, ?_, hg, rfl⟩)
    rw [← hM]
    refine gu_ext (by rw [hL, slc_len, hZn]) fun i hlt => ?_
    rw [hL] at hlt
    rw [hi5 i hlt, if_pos (by omega), slc_get (by rw [hZn]; exact hlt)]
def ptF (A : List Int) (lo : Int) (B : List Int) (n : Nat) (i : Nat) : Int := if lo ≤ (i : Int) ∧ (i : Int) < lo + (n : Int) then gu B ((i : Int) - lo) else gu A i
/-- A with B from lo on. -/
def putL (A : List Int) (lo : Int) (B : List Int) : List Int := (List.range A.length).map (ptF A lo B B.length)
theorem putL_len (A : List Int) (lo : Int) (B : List Int) : (putL A lo B).length = A.length := by simp [putL]
theorem putL_get {A : List Int} {lo : Int} {B : List Int} {i : Nat} (h : i < A.length) : gu (putL A lo B) i = ptF A lo B B.length i := by
  show (((List.range A.length).map (ptF A lo B B.length))[((i : Nat) : Int).toNat]?).getD 0 = _
  rw [Int.toNat_natCast, List.getElem?_map, List.getElem?_range h]; rfl
theorem put_ok (l m : List Int) (s t : Bool) (hi lo : Int) (hl : l.length < 2 ^ 15) (hm : m.length < 2 ^ 15) (bl : Byt l) (bm : Byt m) (h1 : I64 hi) (h2 : I64 lo) : FvC CX TB (.f 27 [] []) [.a [.u l, .b s], .i .i64 hi, .i .i64 lo, .a [.u m, .b t]] [] (RE (decide (win hi lo = 0)) (putL (nB l) lo (rsz (nB m) (nS m t) (hi - lo + 1).toNat)) (nS l s) (win hi lo)) := by
  have nvl := nB_nv bl
  have nvm := nB_nv bm
  refine fn_ok rfl rfl fun B D G hG q hq => ?_
  cbv
  refine call hG [] (window_ok hi lo h1 h2) ⟨rfl, rfl, rfl⟩ ?_
  rintro _ _ ⟨c, rfl, rfl, hc⟩
  cbv
  refine SX.ite hG (fun h3 => ?_) (fun h3 => ?_)
  · have h4 : ¬ c = 0 := by rw [hG] at h3; simpa [std, cmpS] using h3
    exact hq _ _ (.inr ⟨by rw [← hc]; exact decide_eq_false h4, _, _, rfl, rfl, rfl, hc⟩)
  have h4 : c = 0 := by rw [hG] at h3; simpa [std, cmpS] using h3
  have hw := win_zero (by rw [← hc]; exact h4)
  unfold I64 at h1 h2
  obtain ⟨Z, hZ⟩ : ∃ Z : Nat, hi - lo + 1 = (Z : Int) := ⟨(hi - lo + 1).toNat, by omega⟩
  have hZ1 : 1 ≤ Z ∧ Z ≤ 128 := by omega
  have hZi : ∀ k : Nat, k < Z → I64 (lo + (k : Int)) := fun k hk => by unfold I64; omega
  have hZn : (hi - lo + 1).toNat = Z := by omega
  rw [hZn] at hq
  have e1 : G.ar .add .i64 (G.ar .sub .i64 hi lo) (Int.ofNat 1) = (Z : Int) := by
    rw [subw hG (by unfold I64; omega), addw hG (by unfold I64; show _ ≤ hi - lo + 1 ∧ hi - lo + 1 < _; omega)]
    exact hZ
  refine call hG [] (norm_ok l s hl) ⟨rfl, rfl, rfl⟩ ?_
  rintro _ _ ⟨A, g1, rfl, rfl, hA, hg1⟩
  cbv
  have nvA : NV A := by rw [hA]; exact nvl
  have lenA := nvA.len
  refine call hG [] (norm_ok m t hm) ⟨rfl, rfl, rfl⟩ ?_
  rintro _ _ ⟨M, g2, rfl, rfl, hM, hg2⟩
  cbv
  have nvM : NV M := by rw [hM]; exact nvm
  have lenM := nvM.len
  refine call hG [4] (resize_ok M g2 (G.ar .add .i64 (G.ar .sub .i64 hi lo) (Int.ofNat 1)) nvM.ne (by omega) (by rw [e1]; omega)) ⟨rfl, rfl, rfl⟩ ?_
  rintro _ _ ⟨F, g3, rfl, rfl, hF, hg3⟩
  cbv
  rw [e1, Int.toNat_natCast] at hF
  have hFl : F.length = Z := by rw [hF, rsz_len]
  refine okd hG rfl ?_
  refine lp hG (α := Int × List Int) (fun p => ∃ n : Nat, p.1 = (n : Int) ∧ n ≤ Z ∧ p.2.length = A.length ∧ ∀ i : Nat, i < A.length → gu p.2 i = ptF A lo F n i) (fun p => Z - p.1.toNat) (fun s p => (s.put (some 33) (.i .i64 p.1)).setO 3 (.u p.2)) (0, A) ⟨0, rfl, Nat.zero_le _, rfl, fun i hi => by unfold ptF; rw [if_neg (by omega)]⟩ (by constructor <;> cbv <;> simp) ?_
  rintro ⟨j, L⟩ ⟨n, hj, hn, hL, hi5⟩
  have hL : L.length = A.length := hL
  cbv
  have hj : j = (n : Int) := hj
  have hi5 : ∀ i : Nat, i < A.length → gu L i = ptF A lo F n i := hi5
  refine SX.ite hG (fun h6 => ?_) (fun h6 => ?_)
  · have h6 : n < Z := by
      rw [hG, hj] at h6
      have h6 : (n : Int) < (F.length : Int) := of_decide_eq_true h6
      omega
    have v1 : G.ix j (G.lu F) := by rw [hG, hj]; show 0 ≤ (n : Int) ∧ (n : Int) < (F.length : Int); omega
    refine ⟨v1, v1, ?_⟩
    have ea : G.ar .add .i64 lo j = lo + (n : Int) := by rw [hj]; exact addw hG (hZi n h6)
    have same : ¬ (0 ≤ lo + (n : Int) ∧ lo + (n : Int) < (A.length : Int)) → ∀ i : Nat, i < A.length → gu L i = ptF A lo F (n + 1) i := fun h i hlt => by
      rw [hi5 i hlt]
      unfold ptF
      by_cases h5 : lo ≤ (i : Int) ∧ (i : Int) < lo + (n : Int)
      · rw [if_pos h5, if_pos (by omega)]
      · rw [if_neg h5, if_neg (by omega)]
    refine SX.ite hG (fun h7 => ?_) (fun h7 => ?_)
    · have h7 : lo + (n : Int) ≥ 0 := by
        have h7 : G.cmp .geq (G.ar .add .i64 lo j) 0 = true := h7
        rw [ea, hG] at h7; exact of_decide_eq_true h7
      refine SX.ite hG (fun h8 => ?_) (fun h8 => ?_)
      · have h8 : lo + (n : Int) < (A.length : Int) := by
          have h8 : G.cmp .lss (G.ar .add .i64 lo j) (G.lu L) = true := h8
          rw [ea, hG] at h8
          have h8 : lo + (n : Int) < (L.length : Int) := of_decide_eq_true h8
          omega
        have v2 : G.ix (G.ar .add .i64 lo j) (G.lu L) := by rw [ea, hG]; show 0 ≤ lo + (n : Int) ∧ lo + (n : Int) < (L.length : Int); omega
        refine ⟨v2, v2, ?_⟩
        obtain ⟨k, hk⟩ : ∃ k : Nat, lo + (n : Int) = (k : Int) := ⟨(lo + (n : Int)).toNat, by omega⟩
        have hkA : k < A.length := by omega
        have ek : G.su L (G.ar .add .i64 lo j) (G.gu F j) = L.set k (gu F n) := by rw [ea, hk, hj, hG]; rfl
        have il : (G.su L (G.ar .add .i64 lo j) (G.gu F j)).length = A.length := by rw [ek]; simp [hL]
        have iv : ∀ i : Nat, i < A.length → gu (G.su L (G.ar .add .i64 lo j) (G.gu F j)) i = ptF A lo F (n + 1) i := fun i hlt => by
          rw [ek, gu_set (by omega)]
          split
          · rename_i e
            unfold ptF
            rw [if_pos (by omega)]
            congr 1
            omega
          · rename_i e
            rw [hi5 i hlt]
            unfold ptF
            by_cases h5 : lo ≤ (i : Int) ∧ (i : Int) < lo + (n : Int)
            · rw [if_pos h5, if_pos (by omega)]
            · rw [if_neg h5, if_neg (by omega)]
        exact ⟨(G.ar .add .i64 j (Int.ofNat 1), G.su L (G.ar .add .i64 lo j) (G.gu F j)), ⟨n + 1, inc hG hj (by omega), h6, il, iv⟩, mu hj (inc hG hj (by omega)) h6, by constructor <;> cbv <;> simp⟩
      · have h8 : ¬ lo + (n : Int) < (A.length : Int) := by
          have h8 : G.cmp .lss (G.ar .add .i64 lo j) (G.lu L) = false := h8
          rw [ea, hG] at h8
          have h8 : ¬ lo + (n : Int) < (L.length : Int) := of_decide_eq_false h8
          omega
        exact ⟨(G.ar .add .i64 j (Int.ofNat 1), L), ⟨n + 1, inc hG hj (by omega), h6, hL, same (by omega)⟩, mu hj (inc hG hj (by omega)) h6, by constructor <;> cbv <;> simp⟩
    · have h7 : ¬ lo + (n : Int) ≥ 0 := by
        have h7 : G.cmp .geq (G.ar .add .i64 lo j) 0 = false := h7
        rw [ea, hG] at h7; exact of_decide_eq_false h7
      exact ⟨(G.ar .add .i64 j (Int.ofNat 1), L), ⟨n + 1, inc hG hj (by omega), h6, hL, same (by omega)⟩, mu hj (inc hG hj (by omega)) h6, by constructor <;> cbv <;> simp⟩
  · have h6 : Z ≤ n := by
      rw [hG, hj] at h6
      have h6 : ¬ (n : Int) < (F.length : Int) := of_decide_eq_false h6
      omega
    have hnZ : n = F.length := by omega
    refine hq _ _ (.inl ⟨by rw [← hc]; exact decide_eq_true h4, _, _, _, rfl, rfl, ?_, hg1, rfl⟩)
    rw [← hA, ← hM, ← hg2, ← hF]
    refine gu_ext (by rw [hL, putL_len]) fun i hlt => ?_
    rw [hL] at hlt
    rw [hi5 i hlt, putL_get hlt, hnZ]
end Go.Proofs.YtdgbdkfoeaollaaGreatDoor.V
