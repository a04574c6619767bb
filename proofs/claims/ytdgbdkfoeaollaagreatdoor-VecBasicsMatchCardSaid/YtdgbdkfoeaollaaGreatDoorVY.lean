/- The reference's Known, Leq, WithSign, Bools and Int. -/
import Derived.Test.YtdgbdkfoeaollaaGreatDoorVS
import Derived.Test.YtdgbdkfoeaollaaGreatDoorALe
set_option linter.unusedSimpArgs false
set_option linter.unusedVariables false
namespace Go.Proofs.YtdgbdkfoeaollaaGreatDoor.V
open Go Go.AL Go.SX
theorem all_false {l : List Int} {p : Int → Bool} {n : Nat} (hn : n < l.length) (h : p (gu l n) = false) : l.all p = false := by
  rw [Bool.eq_false_iff]
  intro ha
  have := List.all_eq_true.1 ha _ (gu_mem hn)
  rw [h] at this; cases this
theorem rknown4_ok (l : List Int) (s : Bool) (hl : l.length < 2 ^ 20) (hb : Byt l) : FvC CX TB (.f 69 [] []) [.a [.u l, .b s]] [] (RB (kn (nB l))) := by
  have nv := nB_nv hb
  refine fn_ok rfl rfl fun B D G hG q hq => ?_
  cbv
  refine call hG [] (rnorm_ok l s hl) ⟨rfl, rfl, rfl⟩ ?_
  rintro _ _ ⟨M, t, rfl, rfl, hM, ht⟩
  cbv
  have nvM : NV M := by rw [hM]; exact nv
  have hlen := nvM.len
  rw [← hM] at hq
  refine lp hG (α := Int) (fun j => ∃ n : Nat, j = (n : Int) ∧ n ≤ M.length ∧ ∀ i : Nat, i < n → bKn (gu M i) = true) (fun j => M.length - j.toNat) (fun s j => s.put (some 3) (.i .i64 j)) 0 ⟨0, rfl, Nat.zero_le _, by simp⟩ (by constructor <;> cbv <;> simp) ?_
  rintro j ⟨n, hj, hn, hi⟩
  cbv
  refine SX.ite hG (fun h3 => ?_) (fun h3 => ?_)
  · have h3 : n < M.length := by simpa [hG, std, cmpS, arS, beqS, hj] using h3
    have v2 : G.ix j (G.lu M) := by rw [hG, hj]; show 0 ≤ (n : Int) ∧ (n : Int) < (M.length : Int); omega
    have hgu : G.gu M j = gu M n := by rw [hG, hj]; rfl
    refine ⟨v2, v2, ?_⟩
    refine call hG [] (rKnown_ok (G.gu M j) (by rw [hgu]; exact nvM.v _ (gu_mem h3))) ⟨rfl, rfl, rfl⟩ ?_
    rintro _ _ ⟨c, rfl, rfl, hc⟩
    cbv
    rw [hgu] at hc
    have hj : j = (n : Int) := hj
    refine SX.ite hG (fun h4 => ?_) (fun h4 => ?_)
    · have h4 : c = false := by rw [hG] at h4; simpa [std] using h4
      exact hq _ _ ⟨_, rfl, rfl, (all_false h3 (by rw [← hc]; exact h4)).symm⟩
    · have h4 : c = true := by rw [hG] at h4; simpa [std] using h4
      exact ⟨G.ar .add .i64 j (Int.ofNat 1), ⟨n + 1, inc hG hj (by omega), h3, fun i hlt => by rcases Nat.lt_succ_iff_lt_or_eq.1 hlt with h | rfl; exact hi i h; rw [← hc]; exact h4⟩, mu hj (inc hG hj (by omega)) h3, by constructor <;> cbv <;> simp⟩
  · have h3 : M.length ≤ n := by simpa [hG, std, cmpS, arS, beqS, hj] using h3
    exact hq _ _ ⟨_, rfl, rfl, (all_gu fun i hlt => hi i (by omega)).symm⟩
theorem rleq4_ok (l m : List Int) (s t : Bool) (hl : l.length < 2 ^ 20) (hm : m.length < 2 ^ 20) (bl : Byt l) (bm : Byt m) : FvC CX TB (.f 70 [] []) [.a [.u l, .b s], .a [.u m, .b t]] [] (RB (leqV l s m t)) := by
  have nvl := nB_nv bl
  have nvm := nB_nv bm
  refine fn_ok rfl rfl fun B D G hG q hq => ?_
  cbv
  refine call hG [] (rnorm_ok l s hl) ⟨rfl, rfl, rfl⟩ ?_
  rintro _ _ ⟨L, g1, rfl, rfl, hL, hg1⟩
  cbv
  refine call hG [] (rnorm_ok m t hm) ⟨rfl, rfl, rfl⟩ ?_
  rintro _ _ ⟨M, g2, rfl, rfl, hM, hg2⟩
  cbv
  refine okd hG rfl ?_
  have nvL : NV L := by rw [hL]; exact nvl
  have nvM : NV M := by rw [hM]; exact nvm
  have lL := nvL.len
  unfold leqV at hq
  rw [← hL, ← hM, ← hg1, ← hg2] at hq
  refine SX.ite hG (fun h1 => ?_) (fun h1 => ?_)
  · have h1 : decide (g1 ≠ g2) = true := by rw [hG] at h1; simpa [std, beqS] using h1
    exact hq _ _ ⟨_, rfl, rfl, by have := of_decide_eq_true h1; symm; simp [this]⟩
  have h1 : g1 = g2 := by rw [hG] at h1; simpa [std, beqS] using h1
  refine SX.ite hG (fun h2 => ?_) (fun h2 => ?_)
  · have h2 : L.length ≠ M.length := by have hq_ := h2; simp [hG, std, cmpS, arS, beqS] at hq_; omega
    exact hq _ _ ⟨_, rfl, rfl, by symm; simp [eqF, h2]⟩
  have h2 : L.length = M.length := by have hq_ := h2; simp [hG, std, cmpS, arS, beqS] at hq_; omega
  refine lp hG (α := Int) (fun j => ∃ n : Nat, j = (n : Int) ∧ n ≤ L.length ∧ ∀ i : Nat, i < n → bLeq (gu L i) (gu M i) = true) (fun j => L.length - j.toNat) (fun s j => s.put (some 5) (.i .i64 j)) 0 ⟨0, rfl, Nat.zero_le _, by simp⟩ (by constructor <;> cbv <;> simp) ?_
  rintro j ⟨n, hj, hn, hi⟩
  cbv
  refine SX.ite hG (fun h3 => ?_) (fun h3 => ?_)
  · have h3 : n < L.length := by simpa [hG, std, cmpS, arS, beqS, hj] using h3
    have v1 : G.ix j (G.lu L) := by rw [hG, hj]; show 0 ≤ (n : Int) ∧ (n : Int) < (L.length : Int); omega
    have v2 : G.ix j (G.lu M) := by rw [hG, hj]; show 0 ≤ (n : Int) ∧ (n : Int) < (M.length : Int); omega
    have hgu : G.gu L j = gu L n ∧ G.gu M j = gu M n := by rw [hG, hj]; exact ⟨rfl, rfl⟩
    refine ⟨v1, v1, v2, v2, ?_⟩
    refine call hG [] (rLeq_ok (G.gu L j) (G.gu M j) (by rw [hgu.1]; exact nvL.v _ (gu_mem h3)) (by rw [hgu.2]; exact nvM.v _ (gu_mem (by omega)))) ⟨rfl, rfl, rfl⟩ ?_
    rintro _ _ ⟨c, rfl, rfl, hc⟩
    cbv
    rw [hgu.1, hgu.2] at hc
    have hj : j = (n : Int) := hj
    refine okd hG rfl ?_
    refine SX.ite hG (fun h4 => ?_) (fun h4 => ?_)
    · have h4 : c = false := by rw [hG] at h4; simpa [std] using h4
      refine hq _ _ ⟨_, rfl, rfl, ?_⟩
      symm
      rw [Bool.eq_false_iff]
      intro hx
      simp only [eqF, Bool.and_eq_true, List.all_eq_true, List.mem_range] at hx
      have := hx.2.2 n h3
      rw [← hc, h4] at this
      cases this
    · have h4 : c = true := by rw [hG] at h4; simpa [std] using h4
      exact ⟨G.ar .add .i64 j (Int.ofNat 1), ⟨n + 1, inc hG hj (by omega), h3, fun i hlt => by rcases Nat.lt_succ_iff_lt_or_eq.1 hlt with h | rfl; exact hi i h; rw [← hc]; exact h4⟩, mu hj (inc hG hj (by omega)) h3, by constructor <;> cbv <;> simp⟩
  · have h3 : L.length ≤ n := by simpa [hG, std, cmpS, arS, beqS, hj] using h3
    refine hq _ _ ⟨_, rfl, rfl, ?_⟩
    symm
    simp only [eqF, Bool.and_eq_true, beq_iff_eq, decide_eq_true_eq, List.all_eq_true, List.mem_range]
    exact ⟨h1, h2, fun i hlt => hi i (by omega)⟩
theorem rwithSign_ok (l : List Int) (s t : Bool) (hl : l.length < 2 ^ 20) : FvC CX TB (.f 64 [] []) [.a [.u l, .b s], .b t] [] (RV (nB l) t) := by
  refine fn_ok rfl rfl fun B D G hG q hq => ?_
  cbv
  refine call hG [] (rnorm_ok l s hl) ⟨rfl, rfl, rfl⟩ ?_
  rintro _ _ ⟨L, s1, rfl, rfl, hL, hs1⟩
  cbv
  exact hq _ _ ⟨_, _, rfl, rfl, hL, rfl⟩
theorem rbools_ok (l : List Int) (s : Bool) (hne : l ≠ []) (hl : l.length < 2 ^ 20) : FvC CX TB (.f 138 [] []) [.a [.u l, .b s]] [] (RL (boolL l)) := by
  refine fn_ok rfl rfl fun B D G hG q hq => ?_
  cbv
  refine lp_regT hG 3 (.b []) rfl rfl ?_
  refine lp hG (α := Int × List Bool) (fun p => ∃ n : Nat, p.1 = (n : Int) ∧ n ≤ l.length ∧ p.2 = (boolL l).take n) (fun p => l.length - p.1.toNat) (fun s p => (s.put (some 4) (.i .i64 p.1)).setO 1 (.b p.2)) (0, []) ⟨0, rfl, Nat.zero_le _, by simp⟩ (by constructor <;> cbv <;> simp) ?_
  rintro ⟨j, L⟩ ⟨n, hj, hn, hL⟩
  have hL : L = (boolL l).take n := hL
  have hlen : L.length = n := by rw [hL, List.length_take, boolL_len]; omega
  cbv
  have hj : j = (n : Int) := hj
  refine SX.ite hG (fun h3 => ?_) (fun h3 => ?_)
  · have h3 : n < l.length := by simpa [hG, std, cmpS, arS, beqS, hj] using h3
    have v1 : G.ix j (G.lu l) := by rw [hG, hj]; show 0 ≤ (n : Int) ∧ (n : Int) < (l.length : Int); omega
    have hgu : G.gu l j = gu l n := by rw [hG, hj]; rfl
    have hap : ∀ x : Bool, G.ap (G.lb L) (G.lb [x]) := fun x => by subst hG; simp only [std]; simp; omega
    refine ⟨v1, hap _, ?_⟩
    have e : G.apb L [G.cmp .eql (G.gu l j) (Int.ofNat 1)] = (boolL l).take (n + 1) := by
      rw [List.take_add_one, ← hL]
      have h5 : (boolL l)[n]? = some (gu l n == 1) := by
        unfold boolL gu
        rw [List.getElem?_map, Int.toNat_natCast, List.getElem?_eq_getElem h3]; rfl
      rw [h5, hgu, hG]; rfl
    exact ⟨(G.ar .add .i64 j (Int.ofNat 1), G.apb L [G.cmp .eql (G.gu l j) (Int.ofNat 1)]), ⟨n + 1, inc hG hj (by omega), h3, e⟩, mu hj (inc hG hj (by omega)) h3, by constructor <;> cbv <;> simp⟩
  · have h3 : l.length ≤ n := by simpa [hG, std, cmpS, arS, beqS, hj] using h3
    exact hq _ _ ⟨_, rfl, rfl, by rw [hL, List.take_of_length_le (by rw [boolL_len]; omega)]⟩
theorem rInt3_ok (l : List Bool) (hl : l.length < 2 ^ 20) : FvC CX TB (.f 139 [] []) [.bl l] [] (RIB (fitI (X.sval l)) (fitB (X.sval l))) :=
  br1 fun H v hv => (X.rInt_any ext0V hv (by omega)).mono fun r H' ⟨h1, h2⟩ => by
    subst h2
    refine ⟨h1, ?_⟩
    unfold X.intV
    split
    · rename_i h; exact ⟨_, ⟨_, _, rfl, rfl, (if_pos h).symm, (decide_eq_true h).symm⟩, _, rfl, _, _, rfl, rfl, _, _, rfl, rfl, rfl⟩
    · rename_i h; exact ⟨_, ⟨_, _, rfl, rfl, (if_neg h).symm, (decide_eq_false h).symm⟩, _, rfl, _, _, rfl, rfl, _, _, rfl, rfl, rfl⟩
theorem sval_app0 (l : List Bool) : X.sval (l ++ [false]) = ((X.val l : Nat) : Int) := by
  have h : X.ng (l ++ [false]) = false := ng_last (k := 1) (b := false) (by decide)
  rw [X.sval_pos h, val_app]; simp [X.val]
theorem rint_ok (l : List Int) (s : Bool) (hl : l.length < 2 ^ 20) (hb : Byt l) : FvC CX TB (.f 63 [] []) [.a [.u l, .b s]] []
    (RIB (if kn (nB l) then fitI (vval (nB l) (nS l s)) else 0) (kn (nB l) && fitB (vval (nB l) (nS l s)))) := by
  have nv := nB_nv hb
  refine fn_ok rfl rfl fun B D G hG q hq => ?_
  cbv
  refine call hG [] (rnorm_ok l s hl) ⟨rfl, rfl, rfl⟩ ?_
  rintro _ _ ⟨M, t, rfl, rfl, hM, ht⟩
  cbv
  have nvM : NV M := by rw [hM]; exact nv
  have hlen := nvM.len
  rw [← hM, ← ht] at hq
  refine call hG [] (rknown4_ok M t (by omega) (byt_nv nvM)) ⟨rfl, rfl, rfl⟩ ?_
  rintro _ _ ⟨k, rfl, rfl, hk⟩
  cbv
  rw [nB_id nvM] at hk
  rw [← hk] at hq
  refine SX.ite hG (fun h1 => ?_) (fun h1 => ?_)
  · have e : k = false := by rw [hG] at h1; simpa [std] using h1
    exact hq _ _ ⟨_, _, rfl, rfl, by rw [e]; rfl, by rw [e]; rfl⟩
  have e : k = true := by rw [hG] at h1; simpa [std] using h1
  rw [e] at hq
  refine call hG [] (rbools_ok M t nvM.ne (by omega)) ⟨rfl, rfl, rfl⟩ ?_
  rintro _ _ ⟨L, rfl, rfl, hL⟩
  cbv
  refine SX.ite hG (fun h2 => ?_) (fun h2 => ?_)
  · have h2 : t = false := by rw [hG] at h2; simpa [std] using h2
    have hap : G.ap (G.lb L) (G.lb [false]) := by
      have : L.length ≤ 128 := by rw [hL, boolL_len]; exact hlen
      subst hG; simp only [std]; simp; omega
    refine ⟨hap, ?_⟩
    have eL : G.apb L [false] = L ++ [false] := by rw [hG]; rfl
    refine call hG [] (rInt3_ok (G.apb L [false]) (by rw [eL, List.length_append, hL, boolL_len]; simp; omega)) ⟨rfl, rfl, rfl⟩ ?_
    rintro _ _ ⟨a, b, rfl, rfl, ha, hb2⟩
    cbv
    rw [eL, sval_app0, hL] at ha hb2
    exact hq _ _ ⟨_, _, rfl, rfl, by rw [ha, if_pos rfl, vval, if_neg (by rw [h2]; simp)], by rw [hb2, vval, if_neg (by rw [h2]; simp), Bool.true_and]⟩
  · have h2 : t = true := by rw [hG] at h2; simpa [std] using h2
    refine call hG [] (rInt3_ok L (by rw [hL, boolL_len]; omega)) ⟨rfl, rfl, rfl⟩ ?_
    rintro _ _ ⟨a, b, rfl, rfl, ha, hb2⟩
    cbv
    rw [hL] at ha hb2
    exact hq _ _ ⟨_, _, rfl, rfl, by rw [ha, if_pos rfl, vval, if_pos h2], by rw [hb2, vval, if_pos h2, Bool.true_and]⟩
end Go.Proofs.YtdgbdkfoeaollaaGreatDoor.V
