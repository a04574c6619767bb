/- Results with error codes that are known; Concat of two vectors. -/
import Derived.Test.YtdgbdkfoeaollaaDoorVS
import Derived.Test.YtdgbdkfoeaollaaDoorVQ
import Derived.Test.YtdgbdkfoeaollaaDoorALe
set_option linter.unusedSimpArgs false
set_option linter.unusedVariables false
namespace Go.Proofs.YtdgbdkfoeaollaaDoor.V
open Go Go.AL Go.SX
/-- A vector without an error. -/
def RVE (l : List Int) (sg : Bool) (r : SV) (ro : List SX.Obj) : Prop := ∃ l' sg', r = .t [.a [.s 0, .b sg'], .n .i64 0] ∧ ro = [.u l'] ∧ l' = l ∧ sg' = sg
theorem kre {k : Nat} {args : List SV} {ao : List SX.Obj} {c : Bool} {l : List Int} {sg : Bool} {e : Int} (h : FvC CX TB (.f k [] []) args ao (RE c l sg e)) (hc : c = true) : FvC CX TB (.f k [] []) args ao (RVE l sg) := by
  intro H m vf vs h1 h2 h3 h4
  obtain ⟨k', fs, cs, e', hr⟩ := h H m vf vs h1 h2 h3 h4
  refine ⟨k', fs, cs, e', hr.mono ?_⟩
  rintro v H' ⟨m', r, ro, q, q1, q2, q3, q4, q5⟩
  rcases q with ⟨_, l', sg', e1, rfl, rfl, hl, hs, rfl⟩ | ⟨hf, _⟩
  · exact ⟨m', _, _, ⟨l', sg', rfl, rfl, hl, hs⟩, q1, q2, q3, q4, q5⟩
  · rw [hc] at hf; cases hf
theorem kre_f (n : Nat) {k : Nat} {args : List SV} {ao : List SX.Obj} {c : Bool} {l : List Int} {sg : Bool} {e : Int} (h : FvC CX TB (.f k [] []) args ao (RE c l sg e)) (hc : c = false) (he : e = (n : Int)) : FvC CX TB (.f k [] []) args ao (fun r ro => r = .t [.a [.nil, .kb false], .n .i64 n] ∧ ro = []) := by
  intro H m vf vs h1 h2 h3 h4
  obtain ⟨k', fs, cs, e', hr⟩ := h H m vf vs h1 h2 h3 h4
  refine ⟨k', fs, cs, e', hr.mono ?_⟩
  rintro v H' ⟨m', r, ro, q, q1, q2, q3, q4, q5⟩
  rcases q with ⟨hf, _⟩ | ⟨_, sg', e1, rfl, rfl, rfl, rfl⟩
  · rw [hc] at hf; cases hf
  · subst he
    exact ⟨m', _, _, ⟨rfl, rfl⟩, q1, q2, q3, q4, q5⟩
theorem concat2_ok (l m : List Int) (s t : Bool) (hl : l.length < 2 ^ 15) (hm : m.length < 2 ^ 15) : FvC CX TB (.f 15 [] []) [.r 2 [.u l, .b s, .u m, .b t]] [] (RE (decide ((nB m).length + (nB l).length ≤ 128)) (nB m ++ nB l) false 12) := by
  have := V0.concat_ok [(l, s), (m, t)] (fun p hp => by
    simp only [List.mem_cons, List.not_mem_nil, or_false] at hp
    rcases hp with rfl | rfl
    · exact hl
    · exact hm) (by simp)
  have e : V0.catL [(l, s), (m, t)] = nB m ++ nB l := by simp [V0.catL]
  rw [e] at this
  refine this.mono fun r ro h => ?_
  have e2 : decide ([(l, s), (m, t)] ≠ [] ∧ (nB m ++ nB l).length ≤ 128) = decide ((nB m).length + (nB l).length ≤ 128) := by simp [List.length_append]
  rw [e2] at h
  simpa using h
end Go.Proofs.YtdgbdkfoeaollaaDoor.V
