/- The two-state vectors' functions as contracts of symbolic states; Int. -/
import Derived.Test.YtdgbdkfoeaollaaGreatDoorVK
import Derived.Test.YtdgbdkfoeaollaaGreatDoorBV
import Derived.Test.YtdgbdkfoeaollaaGreatDoorALe
set_option linter.unusedSimpArgs false
set_option linter.unusedVariables false
namespace Go.Proofs.YtdgbdkfoeaollaaGreatDoor.V
open Go Go.AL Go.SX
theorem ext0V : X.Ext0 extV := by
  rintro f ⟨h1, h2⟩
  unfold extV
  rw [if_neg h1, if_neg h2]
theorem rdS_isB {A : Nat → Prop} {H : AH} {v : Value} {l : List Bool} (h : RdS A H v (boolV l)) : IsB H v l := by
  obtain ⟨a, cap, rfl, h2, h3⟩ := h
  have e : (boolV l).length = l.length := by simp [boolV]
  refine ⟨a, cap, by rw [e], by rw [e] at h2; exact h2, fun hne => ?_⟩
  obtain ⟨ad, rfl, bk, g1, -, g3, g4⟩ := h3 (by simpa [boolV] using hne)
  exact ⟨ad, bk, rfl, g1, g3, fun i b hb => g4 i _ (by simp [boolV, hb])⟩
theorem isR_rdS {H H' : AH} {v : Value} {l : List Bool} (h : IsR H H' v l) : RdS (fun id => Own [] [] id ∨ id < H.n) H' v (boolV l) := by
  have e : (boolV l).length = l.length := by simp [boolV]
  rcases h with ⟨rfl, rfl⟩ | ⟨id, off, cap, bk, rfl, hc, h1, h2, h3, h4, h5, h6, h7⟩
  · exact ⟨none, 0, rfl, .inr (Nat.le_refl _), fun h => absurd rfl h⟩
  · refine ⟨_, cap, by rw [e], by rw [e]; exact hc, fun _ => ⟨_, rfl, bk, h2, ?_, h3, fun i v hv => ?_⟩⟩
    · rintro (⟨i, o, w, k1, _⟩ | k)
      · simp at k1
      · exact absurd h1 (Nat.not_le.2 k)
    · simp only [boolV, List.getElem?_map, Option.map_eq_some_iff] at hv
      obtain ⟨b, hb, rfl⟩ := hv
      exact h6 i b hb
theorem frm_ext {H H' : AH} (h : AL.Ext H H') : Frm (Own [] []) H H' := ⟨h.n, fun id hid _ => h.get id hid, fun x h1 h2 _ => Nat.le_trans (Nat.le_min.2 ⟨h1, h2⟩) h.wl⟩
theorem obs_nil (H : AH) : Obs [] [] H := ⟨rfl, fun i o v h => by simp at h, fun i j o o' v v' id h => by simp at h⟩
/-- What comes of a run, told by a value: it lies behind what was there. -/
def Cm (H : AH) (Q : SV → List SX.Obj → Prop) (v : Value) (H' : AH) : Prop := AL.Ext H H' ∧ ∃ r, Q r [] ∧ Den (fun id => Own [] [] id ∨ id < H.n) [] H' r v
theorem br_any {k : Nat} {args : List SV} {Q : SV → List SX.Obj → Prop} (h : ∀ H vs, DenL (Own [] []) [] H args vs → Run CX k vs H (Cm H Q)) : FvC CX TB (.f k [] []) args [] Q := by
  intro H m vf vs ho hgl hdf hda
  obtain rfl : m = [] := List.length_eq_zero_iff.1 ho.len
  simp only [Den, DenL] at hdf
  obtain ⟨vf', vc, rfl, rfl, rfl⟩ := hdf
  refine ⟨k, [], [], rfl, ?_⟩
  have e2 : ([] : List Value) ++ (vs ++ []) = vs := by simp
  rw [e2]
  refine (h H vs hda).mono fun v H' ⟨h1, r, h2, h3⟩ => ⟨[], r, [], h2, obs_nil _, rfl, h3, fun id ⟨i, o, w, k1, _⟩ => by simp at k1, frm_ext h1⟩
theorem br1 {k : Nat} {l : List Bool} {Q : SV → List SX.Obj → Prop} (h : ∀ H v, IsB H v l → Run CX k [v] H (Cm H Q)) : FvC CX TB (.f k [] []) [.bl l] [] Q :=
  br_any fun H vs hd => by
    obtain ⟨w, ws, rfl, h1, rfl⟩ := hd
    exact h H w (rdS_isB h1)
theorem br2 {k : Nat} {l m : List Bool} {Q : SV → List SX.Obj → Prop} (h : ∀ H v w, IsB H v l → IsB H w m → Run CX k [v, w] H (Cm H Q)) : FvC CX TB (.f k [] []) [.bl l, .bl m] [] Q :=
  br_any fun H vs hd => by
    obtain ⟨w, ws, rfl, h1, w', ws', rfl, h2, rfl⟩ := hd
    exact h H w w' (rdS_isB h1) (rdS_isB h2)
theorem bUint_ok (l : List Bool) (hl : l.length < 2 ^ 20) : FvC CX TB (.f 133 [] []) [.bl l] [] (fun r ro => ∃ a b, r = .t [.i .u64 a, .b b] ∧ ro = [] ∧ a = (if X.val l < 2 ^ 64 then ((X.val l : Nat) : Int) else 0) ∧ b = decide (X.val l < 2 ^ 64)) :=
  br1 fun H v hv => (X.bUint_any ext0V hv (by omega)).mono fun r H' ⟨h1, h2⟩ => by
    subst h2
    refine ⟨h1, ?_⟩
    unfold X.uintV
    split
    · rename_i h; exact ⟨_, ⟨_, _, rfl, rfl, rfl, (decide_eq_true h).symm⟩, _, rfl, _, _, rfl, rfl, _, _, rfl, rfl, rfl⟩
    · rename_i h; exact ⟨_, ⟨_, _, rfl, rfl, rfl, (decide_eq_false h).symm⟩, _, rfl, _, _, rfl, rfl, _, _, rfl, rfl, rfl⟩
/-- A number, if it fits into 64 bits with sign. -/
def fitI (x : Int) : Int := if -(2 : Int) ^ 63 ≤ x ∧ x < (2 : Int) ^ 63 then x else 0
def fitB (x : Int) : Bool := decide (-(2 : Int) ^ 63 ≤ x ∧ x < (2 : Int) ^ 63)
def RIB (a : Int) (b : Bool) (r : SV) (ro : List SX.Obj) : Prop := ∃ a' b', r = .t [.i .i64 a', .b b'] ∧ ro = [] ∧ a' = a ∧ b' = b
theorem bInt_ok (l : List Bool) (hl : l.length < 2 ^ 20) : FvC CX TB (.f 132 [] []) [.bl l] [] (RIB (fitI (X.sval l)) (fitB (X.sval l))) :=
  br1 fun H v hv => (X.bInt_any ext0V hv (by omega)).mono fun r H' ⟨h1, h2⟩ => by
    subst h2
    refine ⟨h1, ?_⟩
    unfold X.intV
    split
    · rename_i h; exact ⟨_, ⟨_, _, rfl, rfl, (if_pos h).symm, (decide_eq_true h).symm⟩, _, rfl, _, _, rfl, rfl, _, _, rfl, rfl, rfl⟩
    · rename_i h; exact ⟨_, ⟨_, _, rfl, rfl, (if_neg h).symm, (decide_eq_false h).symm⟩, _, rfl, _, _, rfl, rfl, _, _, rfl, rfl, rfl⟩
/-- The number that a vector is. -/
def vval (l : List Int) (s : Bool) : Int := if s then X.sval (boolL l) else ((X.val (boolL l) : Nat) : Int)
theorem boolL_len (l : List Int) : (boolL l).length = l.length := by simp [boolL]
theorem vint_ok (l : List Int) (s : Bool) (hl : l.length < 2 ^ 15) (hb : Byt l) : FvC CX TB (.f 59 [] []) [.a [.u l, .b s]] []
    (RIB (if kn (nB l) then fitI (vval (nB l) (nS l s)) else 0) (kn (nB l) && fitB (vval (nB l) (nS l s)))) := by
  have nv := nB_nv hb
  refine fn_ok rfl rfl fun B D G hG q hq => ?_
  cbv
  refine call hG [] (norm_ok l s hl) ⟨rfl, rfl, rfl⟩ ?_
  rintro _ _ ⟨M, t, rfl, rfl, hM, ht⟩
  cbv
  have nvM : NV M := by rw [hM]; exact nv
  have hlen := nvM.len
  rw [← hM, ← ht] at hq
  refine call hG [] (vknown_ok M t (by omega)) ⟨rfl, rfl, rfl⟩ ?_
  rintro _ _ ⟨k, rfl, rfl, hk⟩
  cbv
  rw [nB_id nvM] at hk
  rw [← hk] at hq
  refine SX.ite hG (fun h1 => ?_) (fun h1 => ?_)
  · have e : k = false := by rw [hG] at h1; simpa [std] using h1
    exact hq _ _ ⟨_, _, rfl, rfl, by rw [e]; rfl, by rw [e]; rfl⟩
  have e : k = true := by rw [hG] at h1; simpa [std] using h1
  rw [e] at hq
  refine SX.ite hG (fun h2 => ?_) (fun h2 => ?_)
  · refine call hG [] (bools_ok M t (by omega)) ⟨rfl, rfl, rfl⟩ ?_
    rintro _ _ ⟨L, rfl, rfl, hL⟩
    cbv
    refine call hG [] (bInt_ok L (by rw [hL, boolL_len]; omega)) ⟨rfl, rfl, rfl⟩ ?_
    rintro _ _ ⟨a, b, rfl, rfl, ha, hb2⟩
    cbv
    exact hq _ _ ⟨_, _, rfl, rfl, by rw [ha, hL, vval, if_pos h2]; rfl, by rw [hb2, hL, vval, if_pos h2]; rfl⟩
  refine call hG [] (bools_ok M t (by omega)) ⟨rfl, rfl, rfl⟩ ?_
  rintro _ _ ⟨L, rfl, rfl, hL⟩
  cbv
  refine call hG [] (bUint_ok L (by rw [hL, boolL_len]; omega)) ⟨rfl, rfl, rfl⟩ ?_
  rintro _ _ ⟨a, b, rfl, rfl, ha, hb2⟩
  cbv
  have es : vval M t = ((X.val (boolL M) : Nat) : Int) := by rw [vval, if_neg (by rw [h2]; simp)]
  have hpos : (0 : Int) ≤ ((X.val (boolL M) : Nat) : Int) := Int.natCast_nonneg _
  rw [es] at hq
  rw [hL] at ha hb2
  generalize X.val (boolL M) = n at *
  refine SX.ite hG (fun h3 => ?_) (fun h3 => ?_)
  · have e3 : b = false := by rw [hG] at h3; simpa [std] using h3
    have h4 : ¬ n < 2 ^ 64 := of_decide_eq_false (by rw [← hb2, e3])
    have h5 : ¬ (-(2 : Int) ^ 63 ≤ (n : Int) ∧ (n : Int) < (2 : Int) ^ 63) := by omega
    exact hq _ _ ⟨_, _, rfl, rfl, by rw [if_pos rfl, fitI, if_neg h5]; rfl, by rw [fitB, decide_eq_false h5]; rfl⟩
  have e3 : b = true := by rw [hG] at h3; simpa [std] using h3
  have h4 : n < 2 ^ 64 := of_decide_eq_true (by rw [← hb2, e3])
  rw [if_pos h4] at ha
  refine SX.ite hG (fun h5 => ?_) (fun h5 => ?_)
  · have h6 : (n : Int) > 9223372036854775807 := by
      rw [hG, ha] at h5
      exact of_decide_eq_true h5
    have h5 : ¬ (-(2 : Int) ^ 63 ≤ (n : Int) ∧ (n : Int) < (2 : Int) ^ 63) := by omega
    exact hq _ _ ⟨_, _, rfl, rfl, by rw [if_pos rfl, fitI, if_neg h5]; rfl, by rw [fitB, decide_eq_false h5]; rfl⟩
  · have h6 : ¬ (n : Int) > 9223372036854775807 := by
      rw [hG, ha] at h5
      exact of_decide_eq_false h5
    have h5 : -(2 : Int) ^ 63 ≤ (n : Int) ∧ (n : Int) < (2 : Int) ^ 63 := by omega
    have h7 : G.cv .i64 a = (n : Int) := by rw [ha, hG]; show fwrap .i64 (n : Int) = _; exact X.fw64 h5.1 h5.2
    exact hq _ _ ⟨_, _, rfl, rfl, by rw [if_pos rfl, fitI, if_pos h5]; exact h7, by rw [fitB, decide_eq_true h5]; rfl⟩
end Go.Proofs.YtdgbdkfoeaollaaGreatDoor.V
