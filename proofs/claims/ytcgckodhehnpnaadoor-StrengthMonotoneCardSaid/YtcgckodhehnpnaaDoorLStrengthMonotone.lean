/- Proves the tied card of the row: for every input the law StrengthMonotone returns true and leaves its arguments as they were; the listed package variables hold what the program's text lays (tied). -/
import Derived.Test.YtcgckodhehnpnaaDoorRows
import Derived.Test.YtcgckodhehnpnaaDoorXStrengthMonotone
import Derived.Test.YtcgckodhehnpnaaDoorCards
import Derived.Test.YtcgckodhehnpnaaDoorTie
import Derived.Test.YtcgckodhehnpnaaDoorLaid
import Derived.Test.YtcgckodhehnpnaaDoorArgs
import Derived.WalkKit
import Derived.ProofKit
import Derived.OpenShut
import Derived.ShutString
import Derived.ChangeOld
import Derived.Below
import Derived.SizedLaws
import Derived.LaidMore
import Derived.Stop.Joined
import Derived.SevenTiedAt
namespace Go.Proofs.YtcgckodhehnpnaaDoor.strengthMonotone
open Go.ChangeShapes Go.WideShapes Go.ChangeAt Go.RowKit
open Go.ChangeMaps (open_string shut_string)
set_option linter.unusedVariables false
theorem own : ownKnob Tryd.prog.godebug = none := by kernel_rfl
set_option maxRecDepth 100000 in
theorem lifted (os : Os) (started : os.Started) (H : Type) (enc : TypeId × Value → H) :
    ReturnsInHanded {} Tryd.checked os 12 .any (fun w args => (Rows.strengthMonotoneSpec.pre enc Tryd.prog Tryd.f12 [] false w args ∧ laidMetH Tryd.prog [("netlab/strength.names", Rows.laid_netlab_strength_names)] w) ∧ sizedMet enc Tryd.prog Tryd.f12 (OpenSpec.ofChange Rows.strengthMonotoneSpec) false w args) (Rows.strengthMonotoneSpec.post enc Tryd.prog Tryd.f12 false true false false) := by
  refine returnsInHanded_of_change_and (C := Tryd.checked) (X := fun w _ => laidMetH Tryd.prog [("netlab/strength.names", Rows.laid_netlab_strength_names)] w) (fun _ _ _ hh h => h.of_heap hh) own started (by kernel_rfl) Tryd.func12
    (ChangeSpec.witness_shaped (enc := enc) (C := Tryd.checked) (os := os) (X := fun w _ => laidMetH Tryd.prog [("netlab/strength.names", Rows.laid_netlab_strength_names)] w) false (World.doorLaid Tryd.prog 400 os) #[.agg #[.int .i8 0, .int .i8 0], .agg #[.int .i8 0, .int .i8 0], .agg #[.int .i8 0, .int .i8 0], .agg #[.int .i8 0, .int .i8 0]] 8 rfl (World.shaped_of_RefB (by kernel_rfl) (by kernel_rfl)) (by kernel_rfl) (by kernel_rfl) (by kernel_rfl) (door_met os _)) ?_
  intro W base args ds gs before hval0 hW _ hsz0 hL _
  have hsz : (DataW.weightsEach Tryd.prog (Tryd.f12.params.toList ++ Rows.strengthMonotoneSpec.plain.varTypes Tryd.prog) (ds ++ gs)).all (· ≤ reachBytes) = true := hsz0
  have hval : ∀ (j : Nat) t v, Tryd.f12.params[j]? = some t → args[j]? = some v → Value.okWide Tryd.prog W .any base t v := hval0
  have hW' := hW
  obtain ⟨p, q, hA0, hV, rfl, hfz, hnd⟩ := hW
  have hA : DataW.TrodAll enc Tryd.prog W 0 (fun _ => true) true Tryd.f12.params.toList args.toList ds p := hA0
  rw [Tryd.params12] at hA hval hsz
  obtain ⟨v0, vs0, d0, ds0, p0, q0, hargs, rfl, rfl, h0, r0⟩ := trodAll_cons hA
  obtain ⟨v1, vs1, d1, ds1, p1, q1, rfl, rfl, rfl, h1, r1⟩ := trodAll_cons r0
  obtain ⟨v2, vs2, d2, ds2, p2, q2, rfl, rfl, rfl, h2, r2⟩ := trodAll_cons r1
  obtain ⟨v3, vs3, d3, ds3, p3, q3, rfl, rfl, rfl, h3, r3⟩ := trodAll_cons r2
  obtain ⟨rfl, rfl, rfl⟩ := trodAll_nil r3
  obtain rfl : args = #[v0, v1, v2, v3] := by cases args; simp_all
  obtain ⟨rfl, rfl⟩ := trodVars_none hV
  obtain ⟨a0_0, a0_1, rfl, rfl, rfl, w0_0, w0_1⟩ := Args.open_st2_arg Tryd.underlying35 Tryd.underlying23 Tryd.underlying23 rfl rfl (by kernel_rfl) (by kernel_rfl) (by kernel_rfl) (hval 0 35 v0 rfl rfl) h0
  obtain ⟨a1_0, a1_1, rfl, rfl, rfl, w1_0, w1_1⟩ := Args.open_st2_arg Tryd.underlying35 Tryd.underlying23 Tryd.underlying23 rfl rfl (by kernel_rfl) (by kernel_rfl) (by kernel_rfl) (hval 1 35 v1 rfl rfl) h1
  obtain ⟨a2_0, a2_1, rfl, rfl, rfl, w2_0, w2_1⟩ := Args.open_st2_arg Tryd.underlying35 Tryd.underlying23 Tryd.underlying23 rfl rfl (by kernel_rfl) (by kernel_rfl) (by kernel_rfl) (hval 2 35 v2 rfl rfl) h2
  obtain ⟨a3_0, a3_1, rfl, rfl, rfl, w3_0, w3_1⟩ := Args.open_st2_arg Tryd.underlying35 Tryd.underlying23 Tryd.underlying23 rfl rfl (by kernel_rfl) (by kernel_rfl) (by kernel_rfl) (hval 3 35 v3 rfl rfl) h3
  have hG := glob_of_laid hL
  clear hA0 hval0 hsz0 hsz
  refine (X.StrengthMonotone_calls W a0_0 a0_1 a1_0 a1_1 a2_0 a2_1 a3_0 a3_1 hG w0_0 w0_1 w1_0 w1_1 w2_0 w2_1 w3_0 w3_1).mono fun e W' ⟨he, bel⟩ => ?_
  subst he
  exact ⟨_, rfl, _, _, _, [], _, [], hW', trodAll_mk1 (shut_bool Tryd.underlying4 _), (trodAll_cons_mk (Args.shut_st2 Tryd.underlying35 Tryd.underlying23 Tryd.underlying23 rfl rfl (by kernel_rfl) (by kernel_rfl) (by kernel_rfl) w0_0 w0_1) (trodAll_cons_mk (Args.shut_st2 Tryd.underlying35 Tryd.underlying23 Tryd.underlying23 rfl rfl (by kernel_rfl) (by kernel_rfl) (by kernel_rfl) w1_0 w1_1) (trodAll_cons_mk (Args.shut_st2 Tryd.underlying35 Tryd.underlying23 Tryd.underlying23 rfl rfl (by kernel_rfl) (by kernel_rfl) (by kernel_rfl) w2_0 w2_1) (trodAll_cons_mk (Args.shut_st2 Tryd.underlying35 Tryd.underlying23 Tryd.underlying23 rfl rfl (by kernel_rfl) (by kernel_rfl) (by kernel_rfl) w3_0 w3_1) trodAll_mk0)))), rfl, bel.frame _, fun h => by cases h⟩
theorem over : Rows.StrengthMonotoneSaid :=
  OpenClaim.holds_of_wide 12 Tryd.f12 rfl rfl rfl rfl rfl rfl rfl ⟨rfl, rfl, rfl, rfl, rfl⟩ rfl rfl rfl rfl rfl (by kernel_rfl) Tryd.func12 (by kernel_rfl)
    (of_decide_eq_true (by kernel_rfl)) (by unfold Func.isWrapper; first | (rw [if_pos (by decide +kernel)]; kernel_rfl) | (rw [if_neg (by decide +kernel)]; exact ⟨rfl, rfl⟩))
    (fun os started H enc _ => lifted os started H enc)
theorem card_holds : Rows.StrengthMonotoneCardSaid :=
  Claim7.holds_tied_plain_at .later [] [.data] true (true, "54480f958c213d06d9c0da02302ac8bcae24fe36bdf56f2e2f7ec42c6c76f8d7") false
    over (fun _ h => by cases h) (by kernel_rfl) (fun _ h => by cases h) strengthMonotone_row_tie rfl ⟨rfl, rfl⟩ (by kernel_rfl) rfl
    (fun f fn hf hfn => by
      obtain rfl : f = 12 := Option.some.inj ((show Tryd.prog.funcNamed "netlab/netlablaw02.StrengthMonotone" = some 12 by kernel_rfl).symm.trans hf) |>.symm
      obtain rfl : fn = Tryd.f12 := (Option.some.inj (Tryd.func12.symm.trans hfn)).symm
      exact ⟨by kernel_rfl, fun j t ht => by
        rw [Tryd.params12] at ht
        have hm := Array.mem_of_getElem? ht
        simp only [List.mem_toArray, List.mem_cons, List.not_mem_nil, or_false] at hm
        rcases hm with rfl | rfl | rfl | rfl
        · exact (show Tryd.prog.wantsStandIn 35 = false by kernel_rfl)
        · exact (show Tryd.prog.wantsStandIn 35 = false by kernel_rfl)
        · exact (show Tryd.prog.wantsStandIn 35 = false by kernel_rfl)
        · exact (show Tryd.prog.wantsStandIn 35 = false by kernel_rfl)⟩)
    (by kernel_rfl)
#print axioms card_holds
end Go.Proofs.YtcgckodhehnpnaaDoor.strengthMonotone
namespace Go.Proofs.YtcgckodhehnpnaaDoor
/-- The statement, under a short name, for the claim. -/
theorem strengthMonotone_holds : Rows.StrengthMonotoneCardSaid := strengthMonotone.card_holds
end Go.Proofs.YtcgckodhehnpnaaDoor
