/- Proves the tied card of the row: for every input the law StrengthMatches returns true and leaves its arguments as they were; the listed package variables hold what the program's text lays (tied). -/
import Derived.Test.YtcgckodhehnpnaaDoorRows
import Derived.Test.YtcgckodhehnpnaaDoorF19
import Derived.Test.YtcgckodhehnpnaaDoorPureStrengthMatches
import Derived.Test.YtcgckodhehnpnaaDoorCards
import Derived.Test.YtcgckodhehnpnaaDoorTie
import Derived.Test.YtcgckodhehnpnaaDoorLaid
import Derived.Test.YtcgckodhehnpnaaDoorOpen
import Derived.WalkKit
import Derived.ProofKit
import Derived.OpenShut
import Derived.ShutString
import Derived.ChangeOld
import Derived.Below
import Derived.SizedLaws
import Derived.LaidMore
import Derived.Stop.Joined
import Derived.SevenTiedAt
namespace Go.Proofs.YtcgckodhehnpnaaDoor.strengthMatches
open Go.ChangeShapes Go.WideShapes Go.ChangeAt Go.RowKit
open Go.ChangeMaps (open_string shut_string)
set_option linter.unusedVariables false
theorem own : ownKnob Tryd.prog.godebug = none := by kernel_rfl
theorem laidOut : laidOutB Tryd.prog = true := by kernel_rfl
set_option maxRecDepth 100000 in
theorem lifted (os : Os) (started : os.Started) (H : Type) (enc : TypeId × Value → H) :
    ReturnsInHanded {} Tryd.checked os 8 .any (fun w args => (Rows.strengthMatchesSpec.pre enc Tryd.prog Tryd.f8 [] false w args ∧ laidMetH Tryd.prog [("netlab/strength.names", Rows.laid_netlab_strength_names)] w) ∧ sizedMet enc Tryd.prog Tryd.f8 (OpenSpec.ofChange Rows.strengthMatchesSpec) false w args) (Rows.strengthMatchesSpec.post enc Tryd.prog Tryd.f8 false true false false) := by
  refine returnsInHanded_of_change_and (C := Tryd.checked) (X := fun w _ => laidMetH Tryd.prog [("netlab/strength.names", Rows.laid_netlab_strength_names)] w) (fun _ _ _ hh h => h.of_heap hh) own started (by kernel_rfl) Tryd.func8
    (ChangeSpec.witness_shaped (enc := enc) (C := Tryd.checked) (os := os) (X := fun w _ => laidMetH Tryd.prog [("netlab/strength.names", Rows.laid_netlab_strength_names)] w) false (World.doorLaid Tryd.prog 400 os) #[.slice none 0 0, .int .i64 0] 8 rfl (World.shaped_of_RefB (by kernel_rfl) (by kernel_rfl)) (by kernel_rfl) (by kernel_rfl) (by kernel_rfl) (door_met os _)) ?_
  intro W base args ds gs before hval0 hW _ hsz0 hL _
  have hsz : (DataW.weightsEach Tryd.prog (Tryd.f8.params.toList ++ Rows.strengthMatchesSpec.plain.varTypes Tryd.prog) (ds ++ gs)).all (· ≤ reachBytes) = true := hsz0
  have hval : ∀ (j : Nat) t v, Tryd.f8.params[j]? = some t → args[j]? = some v → Value.okWide Tryd.prog W .any base t v := hval0
  have hW' := hW
  obtain ⟨p, q, hA0, hV, rfl, hfz, hnd⟩ := hW
  have hA : DataW.TrodAll enc Tryd.prog W 0 (fun _ => true) true Tryd.f8.params.toList args.toList ds p := hA0
  rw [Tryd.params8] at hA hval hsz
  obtain ⟨v0, vs0, d0, ds0, p0, q0, hargs, rfl, rfl, h0, r0⟩ := trodAll_cons hA
  obtain ⟨v1, vs1, d1, ds1, p1, q1, rfl, rfl, rfl, h1, r1⟩ := trodAll_cons r0
  obtain ⟨rfl, rfl, rfl⟩ := trodAll_nil r1
  obtain rfl : args = #[v0, v1] := by cases args; simp_all
  obtain ⟨rfl, rfl⟩ := trodVars_none hV
  obtain ⟨A0, len0, c0, rfl⟩ := okWide_slice Tryd.underlying42 (hval 0 42 v0 rfl rfl)
  have k0 := h0
  have lt0 : ∀ x ∈ p0, x.block < W.heap.size := by obtain ⟨m, hm⟩ := k0; exact DataW.trod_lt m _ _ _ hm
  have y0 : len0 * 2 ≤ 140737488351232 := Open.sized_row hsz (j := 0) (t := 42) rfl rfl Tryd.underlying42 (by kernel_rfl) h0
  obtain ⟨l0, e0, hc0, hr0, w0⟩ := Open.open_rowR (α := F.S35) (R := (F.k35).K W) (G := fun x => (Lit.int .i8 x.f0).wf = true ∧ (Lit.int .i8 x.f1).wf = true) (size := 2) Tryd.underlying42 (by kernel_rfl) (fun n cs y hy => by obtain ⟨a, b, rfl, rfl, wa, wb⟩ := Open.open_st2 Tryd.underlying35 Tryd.underlying23 Tryd.underlying23 rfl rfl (by kernel_rfl) (by kernel_rfl) (by kernel_rfl) hy; exact ⟨⟨a, b⟩, ⟨[.int .i8 a], [.int .i8 b], rfl, rfl, rfl⟩, wa, wb⟩) h0
  subst e0
  obtain ⟨a1, rfl, rfl, rfl, w1⟩ := open_int Tryd.underlying3 (hval 1 3 v1 rfl rfl) h1
  have hG := glob_of_laid hL
  clear hA0 hval0 hsz0 hsz
  obtain ⟨k, h⟩ := Pure.StrengthMatches l0 a1 w0 y0 w1
  refine (F.netlablaw02_StrengthMatches.calls k A0 c0 l0 a1 true W hG hr0 hc0 h).mono fun e W' ⟨he, bel0⟩ => ?_
  have bel : Below W.heap.size W W' := bel0
  subst he
  exact ⟨_, rfl, _, _, _, [], _, [], hW', trodAll_mk1 (shut_bool Tryd.underlying4 _), (trodAll_cons_mk (Below.trod laidOut (by kernel_rfl) (of_decide_eq_true (by kernel_rfl)) k0 bel lt0) (trodAll_cons_mk (shut_int Tryd.underlying3 w1) trodAll_mk0)), rfl, bel.frame _, fun h => by cases h⟩
theorem over : Rows.StrengthMatchesSaid :=
  OpenClaim.holds_of_wide 8 Tryd.f8 rfl rfl rfl rfl rfl rfl rfl ⟨rfl, rfl, rfl, rfl, rfl⟩ rfl rfl rfl rfl rfl (by kernel_rfl) Tryd.func8 (by kernel_rfl)
    (of_decide_eq_true (by kernel_rfl)) (by unfold Func.isWrapper; first | (rw [if_pos (by decide +kernel)]; kernel_rfl) | (rw [if_neg (by decide +kernel)]; exact ⟨rfl, rfl⟩))
    (fun os started H enc _ => lifted os started H enc)
theorem card_holds : Rows.StrengthMatchesCardSaid :=
  Claim7.holds_tied_plain_at .later [] [.data] true (true, "54480f958c213d06d9c0da02302ac8bcae24fe36bdf56f2e2f7ec42c6c76f8d7") false
    over (fun _ h => by cases h) (by kernel_rfl) (fun _ h => by cases h) strengthMatches_row_tie rfl ⟨rfl, rfl⟩ (by kernel_rfl) rfl
    (fun f fn hf hfn => by
      obtain rfl : f = 8 := Option.some.inj ((show Tryd.prog.funcNamed "netlab/netlablaw02.StrengthMatches" = some 8 by kernel_rfl).symm.trans hf) |>.symm
      obtain rfl : fn = Tryd.f8 := (Option.some.inj (Tryd.func8.symm.trans hfn)).symm
      exact ⟨by kernel_rfl, fun j t ht => by
        rw [Tryd.params8] at ht
        have hm := Array.mem_of_getElem? ht
        simp only [List.mem_toArray, List.mem_cons, List.not_mem_nil, or_false] at hm
        rcases hm with rfl | rfl
        · exact (show Tryd.prog.wantsStandIn 42 = false by kernel_rfl)
        · exact (show Tryd.prog.wantsStandIn 3 = false by kernel_rfl)⟩)
    (by kernel_rfl)
#print axioms card_holds
end Go.Proofs.YtcgckodhehnpnaaDoor.strengthMatches
namespace Go.Proofs.YtcgckodhehnpnaaDoor
/-- The statement, under a short name, for the claim. -/
theorem strengthMatches_holds : Rows.StrengthMatchesCardSaid := strengthMatches.card_holds
end Go.Proofs.YtcgckodhehnpnaaDoor
