/- VecMonotone: the law (printed by VMon.py). -/
import Derived.Test.YtdgbdkfoeaollaaGreatDoorVMonC
import Derived.Test.YtdgbdkfoeaollaaGreatDoorVMc
import Derived.Test.YtdgbdkfoeaollaaGreatDoorVU
import Derived.Test.YtdgbdkfoeaollaaGreatDoorVW
import Derived.Test.YtdgbdkfoeaollaaGreatDoorALe
set_option linter.unusedSimpArgs false
set_option linter.unusedVariables false
set_option cbv.maxSteps 4000000
set_option maxRecDepth 100000
set_option maxHeartbeats 4000000
namespace Go.Proofs.YtdgbdkfoeaollaaGreatDoor.V
open Go Go.AL Go.SX
theorem mono_law (e a b e' a' b' : List Int) (r s t r' s' t' : Bool) (be : Byt e) (ba : Byt a) (bb : Byt b) (be' : Byt e') (ba' : Byt a') (bb' : Byt b') : FvC CX TB (.f 3 [] []) [.a [.u e, .b r], .a [.u a, .b s], .a [.u b, .b t], .a [.u e', .b r'], .a [.u a', .b s'], .a [.u b', .b t']] [] (RB true) := by
  refine fn_sws rfl rfl fun B d q hq0 => ?_
  have hq : ∀ x, x = true → q (.b x) [] := fun x hx => hq0 _ _ ⟨x, rfl, rfl, hx⟩
  obtain ⟨G, hG⟩ : ∃ G, G = std CX TB B ⟨d, fun _ => none⟩ := ⟨_, rfl⟩
  refine sws_seq hG fun R hR => ?_
  cbv
  refine hR _ ?_
  clear hR R
  refine sws_seq hG fun R hR => ?_
  cbv
  cases hg : (decide (140 < e.length) || decide (140 < a.length) || decide (140 < b.length) || decide (140 < e'.length) || decide (140 < a'.length) || decide (140 < b'.length)) with
  | true =>
    refine call hG [] (kbr (c := true) (long6_ok e a b e' a' b' r s t r' s' t') hg) ⟨rfl, rfl, rfl⟩ ?_
    rintro _ _ ⟨rfl, rfl⟩
    cbv
    refine call hG [] (kbr (c := true) awake_ok rfl) ⟨rfl, rfl, rfl⟩ ?_
    rintro _ _ ⟨rfl, rfl⟩
    cbv
    exact hq _ rfl
  | false =>
    refine call hG [] (kbr (c := false) (long6_ok e a b e' a' b' r s t r' s' t') hg) ⟨rfl, rfl, rfl⟩ ?_
    rintro _ _ ⟨rfl, rfl⟩
    cbv
    refine call hG [] (kbr (c := true) awake_ok rfl) ⟨rfl, rfl, rfl⟩ ?_
    rintro _ _ ⟨rfl, rfl⟩
    cbv
    have hgl : e.length ≤ 140 ∧ a.length ≤ 140 ∧ b.length ≤ 140 ∧ e'.length ≤ 140 ∧ a'.length ≤ 140 ∧ b'.length ≤ 140 := by
      simp only [Bool.or_eq_false_iff, decide_eq_false_iff_not, Nat.not_lt] at hg
      exact ⟨hg.1.1.1.1.1, hg.1.1.1.1.2, hg.1.1.1.2, hg.1.1.2, hg.1.2, hg.2⟩
    have k1 : e.length < 2 ^ 15 := by omega
    have k2 : a.length < 2 ^ 15 := by omega
    have k3 : b.length < 2 ^ 15 := by omega
    have k4 : e'.length < 2 ^ 15 := by omega
    have k5 : a'.length < 2 ^ 15 := by omega
    have k6 : b'.length < 2 ^ 15 := by omega
    refine hR _ ?_
    clear hR R
    refine sws_seq hG fun R hR => ?_
    cbv
    cases h1 : rfn e' r' e r with
    | false =>
      refine call hG [] (kbr (c := false) (refines_ok e' e r' r k1 k4) h1) ⟨rfl, rfl, rfl⟩ ?_
      rintro _ _ ⟨rfl, rfl⟩
      cbv
      exact hq _ rfl
    | true =>
      refine call hG [] (kbr (c := true) (refines_ok e' e r' r k1 k4) h1) ⟨rfl, rfl, rfl⟩ ?_
      rintro _ _ ⟨rfl, rfl⟩
      cbv
      cases h2 : rfn a' s' a s with
      | false =>
        refine call hG [] (kbr (c := false) (refines_ok a' a s' s k2 k5) h2) ⟨rfl, rfl, rfl⟩ ?_
        rintro _ _ ⟨rfl, rfl⟩
        cbv
        exact hq _ rfl
      | true =>
        refine call hG [] (kbr (c := true) (refines_ok a' a s' s k2 k5) h2) ⟨rfl, rfl, rfl⟩ ?_
        rintro _ _ ⟨rfl, rfl⟩
        cbv
        cases h3 : rfn b' t' b t with
        | false =>
          refine call hG [] (kbr (c := false) (refines_ok b' b t' t k3 k6) h3) ⟨rfl, rfl, rfl⟩ ?_
          rintro _ _ ⟨rfl, rfl⟩
          cbv
          exact hq _ rfl
        | true =>
          refine call hG [] (kbr (c := true) (refines_ok b' b t' t k3 k6) h3) ⟨rfl, rfl, rfl⟩ ?_
          rintro _ _ ⟨rfl, rfl⟩
          cbv
          obtain ⟨nE, nE', rfl, rE⟩ := rfn_out be be' h1
          obtain ⟨nA, nC, rfl, rA⟩ := rfn_out ba ba' h2
          obtain ⟨nB', nD, rfl, rB⟩ := rfn_out bb bb' h3
          exact hR _ (sws_le (s' := stM e a b e' a' b' r s t) (by constructor <;> cbv <;> simp) (monO e a b e' a' b' r s t nE nE' rE nA nC rA nB' nD rB q hq))
end Go.Proofs.YtdgbdkfoeaollaaGreatDoor.V
