/- Proves the tied card of the row: for every input the law BitExamples returns true and leaves its arguments as they were; the listed package variables hold what the program's text lays (tied). -/
import Derived.Test.YteioheookffjiaaDoorRows
import Derived.Test.YteioheookffjiaaDoorXBitExamples
import Derived.Test.YteioheookffjiaaDoorCards
import Derived.Test.YteioheookffjiaaDoorTie
import Derived.Test.YteioheookffjiaaDoorLaid
import Derived.WalkKit
import Derived.ProofKit
import Derived.OpenShut
import Derived.ShutString
import Derived.ChangeOld
import Derived.Below
import Derived.SizedLaws
import Derived.LaidMore
import Derived.Stop.Joined
import Derived.SevenTiedAt
namespace Go.Proofs.YteioheookffjiaaDoor.bitExamples
open Go.ChangeShapes Go.WideShapes Go.ChangeAt Go.RowKit
open Go.ChangeMaps (open_string shut_string)
set_option linter.unusedVariables false
theorem own : ownKnob Tryd.prog.godebug = none := by kernel_rfl
set_option maxRecDepth 100000 in
theorem lifted (os : Os) (started : os.Started) (H : Type) (enc : TypeId × Value → H) :
    ReturnsInHanded {} Tryd.checked os 7 .any (fun w args => (Rows.bitExamplesSpec.pre enc Tryd.prog Tryd.f7 [] false w args ∧ laidMetH Tryd.prog [("netlab/bit.ands", Rows.laid_netlab_bit_ands), ("netlab/bit.ors", Rows.laid_netlab_bit_ors), ("netlab/bit.xors", Rows.laid_netlab_bit_xors), ("netlab/bit.nots", Rows.laid_netlab_bit_nots)] w) ∧ sizedMet enc Tryd.prog Tryd.f7 (OpenSpec.ofChange Rows.bitExamplesSpec) false w args) (Rows.bitExamplesSpec.post enc Tryd.prog Tryd.f7 false true false false) := by
  refine returnsInHanded_of_change_and (C := Tryd.checked) (X := fun w _ => laidMetH Tryd.prog [("netlab/bit.ands", Rows.laid_netlab_bit_ands), ("netlab/bit.ors", Rows.laid_netlab_bit_ors), ("netlab/bit.xors", Rows.laid_netlab_bit_xors), ("netlab/bit.nots", Rows.laid_netlab_bit_nots)] w) (fun _ _ _ hh h => h.of_heap hh) own started (by kernel_rfl) Tryd.func7
    (ChangeSpec.witness_shaped (enc := enc) (C := Tryd.checked) (os := os) (X := fun w _ => laidMetH Tryd.prog [("netlab/bit.ands", Rows.laid_netlab_bit_ands), ("netlab/bit.ors", Rows.laid_netlab_bit_ors), ("netlab/bit.xors", Rows.laid_netlab_bit_xors), ("netlab/bit.nots", Rows.laid_netlab_bit_nots)] w) false (World.doorLaid Tryd.prog 400 os) #[] 8 rfl (World.shaped_of_RefB (by kernel_rfl) (by kernel_rfl)) (by kernel_rfl) (by kernel_rfl) (by kernel_rfl) (door_met os _)) ?_
  intro W base args ds gs before hval0 hW _ hsz0 hL _
  have hsz : (DataW.weightsEach Tryd.prog (Tryd.f7.params.toList ++ Rows.bitExamplesSpec.plain.varTypes Tryd.prog) (ds ++ gs)).all (· ≤ reachBytes) = true := hsz0
  have hval : ∀ (j : Nat) t v, Tryd.f7.params[j]? = some t → args[j]? = some v → Value.okWide Tryd.prog W .any base t v := hval0
  have hW' := hW
  obtain ⟨p, q, hA0, hV, rfl, hfz, hnd⟩ := hW
  have hA : DataW.TrodAll enc Tryd.prog W 0 (fun _ => true) true Tryd.f7.params.toList args.toList ds p := hA0
  rw [Tryd.params7] at hA hval hsz
  obtain ⟨rfl, rfl, rfl⟩ := trodAll_none hA
  obtain ⟨rfl, rfl⟩ := trodVars_none hV
  have hG := glob_of_laid hL
  clear hA0 hval0 hsz0 hsz
  refine (X.BitExamples_calls W  hG ).mono fun e W' ⟨he, bel⟩ => ?_
  subst he
  exact ⟨_, rfl, _, _, _, [], _, [], hW', trodAll_mk1 (shut_bool Tryd.underlying4 _), trodAll_mk0, rfl, bel.frame _, fun h => by cases h⟩
theorem over : Rows.BitExamplesSaid :=
  OpenClaim.holds_of_wide 7 Tryd.f7 rfl rfl rfl rfl rfl rfl rfl ⟨rfl, rfl, rfl, rfl, rfl⟩ rfl rfl rfl rfl rfl (by kernel_rfl) Tryd.func7 (by kernel_rfl)
    (of_decide_eq_true (by kernel_rfl)) (by unfold Func.isWrapper; first | (rw [if_pos (by decide +kernel)]; kernel_rfl) | (rw [if_neg (by decide +kernel)]; exact ⟨rfl, rfl⟩))
    (fun os started H enc _ => lifted os started H enc)
theorem card_holds : Rows.BitExamplesCardSaid :=
  Claim7.holds_tied_plain_at .later [] [.data, .data, .data, .data] true (true, "aa7cbd69a33f94d8d74cbadb9fdff549dfb9b6d584bbd5a8f574641a8646a013") false
    over (fun _ h => by cases h) (by kernel_rfl) (fun _ h => by cases h) bitExamples_row_tie rfl ⟨rfl, rfl⟩ (by kernel_rfl) rfl
    (fun f fn hf hfn => by
      obtain rfl : f = 7 := Option.some.inj ((show Tryd.prog.funcNamed "netlab/netlablaw01.BitExamples" = some 7 by kernel_rfl).symm.trans hf) |>.symm
      obtain rfl : fn = Tryd.f7 := (Option.some.inj (Tryd.func7.symm.trans hfn)).symm
      exact ⟨by kernel_rfl, fun j t ht => by
        rw [Tryd.params7] at ht
        simp at ht⟩)
    (by kernel_rfl)
#print axioms card_holds
end Go.Proofs.YteioheookffjiaaDoor.bitExamples
namespace Go.Proofs.YteioheookffjiaaDoor
/-- The statement, under a short name, for the claim. -/
theorem bitExamples_holds : Rows.BitExamplesCardSaid := bitExamples.card_holds
end Go.Proofs.YteioheookffjiaaDoor
