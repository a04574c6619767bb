/- The plain law StrengthMatches. -/
import Derived.Test.YtcgckodhehnpnaaDoorPStr
import Derived.Test.YtcgckodhehnpnaaDoorF19
namespace Go.Proofs.YtcgckodhehnpnaaDoor.Pure
open Go.RowKit Go.Proofs.YtcgckodhehnpnaaDoor.F Go.Proofs.YtcgckodhehnpnaaDoorW.PrintWords Go.Proofs.YtcgckodhehnpnaaDoorW.PrintLast Go.Proofs.YtcgckodhehnpnaaDoorW.PrintMore
theorem given_run {l : List S35} (hl : l.length ≤ 60) : ∀ (d i : Nat) (acc : List S26), i + d = l.length → acc.length = i →
    Ev (fun k => netlablaw02_given.l0 k l acc (i : Int)) (acc ++ (l.drop i).map fun x => ⟨x.f0, x.f1⟩) := by
  intro d
  induction d with
  | zero =>
    intro i acc hi ha
    have : l.drop i = [] := List.drop_eq_nil_of_le (by omega)
    rw [this]
    refine Ev.step (f := fun _ => some (acc ++ List.map (fun x : S35 => ⟨x.f0, x.f1⟩) [])) (fun k => ?_) (Ev.now _)
    simp only [netlablaw02_given.l0]
    rw [if_neg (by omega)]
    simp
  | succ d ih =>
    intro i acc hi ha
    have hil : i < l.length := by omega
    have hr : rd_T35 l (i : Int) = l[i] := by unfold rd_T35; simp [List.getD, hil]
    rw [← List.getElem_cons_drop hil]
    have := ih (i + 1) (acc ++ [⟨l[i].f0, l[i].f1⟩]) (by omega) (by simp [ha])
    rw [List.append_assoc] at this
    refine Ev.step (fun k => ?_) this
    simp only [netlablaw02_given.l0]
    rw [if_pos (by omega), if_pos (by omega), if_pos (by omega), hr, wrap64_in _ (by omega)]
    rfl
theorem told_run {l : List S35} (hl : l.length ≤ 60) : ∀ (d i : Nat) (acc : List S25), i + d = l.length → acc.length = i →
    Ev (fun k => netlablaw02_told.l0 k l acc (i : Int)) (acc ++ (l.drop i).map fun x => ⟨x.f0, x.f1⟩) := by
  intro d
  induction d with
  | zero =>
    intro i acc hi ha
    have : l.drop i = [] := List.drop_eq_nil_of_le (by omega)
    rw [this]
    refine Ev.step (f := fun _ => some (acc ++ List.map (fun x : S35 => ⟨x.f0, x.f1⟩) [])) (fun k => ?_) (Ev.now _)
    simp only [netlablaw02_told.l0]
    rw [if_neg (by omega)]
    simp
  | succ d ih =>
    intro i acc hi ha
    have hil : i < l.length := by omega
    have hr : rd_T35 l (i : Int) = l[i] := by unfold rd_T35; simp [List.getD, hil]
    rw [← List.getElem_cons_drop hil]
    have := ih (i + 1) (acc ++ [⟨l[i].f0, l[i].f1⟩]) (by omega) (by simp [ha])
    rw [List.append_assoc] at this
    refine Ev.step (fun k => ?_) this
    simp only [netlablaw02_told.l0]
    rw [if_pos (by omega), if_pos (by omega), if_pos (by omega), hr, wrap64_in _ (by omega)]
    rfl
theorem read_eq (a b : Int) : netlabref02_Read.f a b = strength_Read.f a b := by
  unfold netlabref02_Read.f strength_Read.f strength_level.f bit_FromBool.f
  rw [rNorm_eq, Norm_eq]
  have g := nl_nh a b
  generalize nl a b = x at *
  generalize nh a b = y at *
  simp only [Option.bind_some, Bool.and_eq_true, beq_iff_eq]
  by_cases h1 : x > 0
  · rw [if_pos h1, if_neg (by omega), if_pos h1]; rfl
  · rw [if_neg h1]
    by_cases h2 : y < 0
    · rw [if_pos h2, if_neg (by omega), if_neg h1, if_pos h2]; rfl
    · rw [if_neg h2]
      by_cases h3 : x = 0
      · rw [if_pos h3]
        by_cases h4 : y = 0
        · rw [if_pos h4, if_pos ⟨h3, h4⟩]
        · rw [if_neg h4, if_neg (by omega), if_neg h1, if_neg h2]
      · rw [if_neg h3, if_neg (by omega), if_neg h1, if_neg h2]
theorem Contains_eq (a b n : Int) : netlabref02_Contains.f a b n = strength_Contains.f a b n := by
  unfold netlabref02_Contains.f strength_Contains.f
  rw [rNorm_eq, Norm_eq]
theorem read_some (a b : Int) : ∃ t, strength_Read.f a b = some t := by
  unfold strength_Read.f strength_level.f bit_FromBool.f
  rw [Norm_eq]
  simp only [Option.bind_some]
  repeat' split
  all_goals first | exact ⟨_, rfl⟩ | simp_all
theorem contains_some (a b n : Int) : ∃ t, strength_Contains.f a b n = some t := by
  unfold strength_Contains.f
  rw [Norm_eq]
  simp only [Option.bind_some]
  split <;> exact ⟨_, rfl⟩
theorem matches_run {l : List S35} (n : Int) (hl : l.length ≤ 60) : ∀ (d i : Nat), i + d = l.length →
    Ev (fun k => netlablaw02_StrengthMatches.l0 k l n (l.map fun x => ⟨x.f0, x.f1⟩) (i : Int)) true := by
  intro d
  induction d with
  | zero =>
    intro i hi
    refine Ev.step (fun k => ?_) awake_end
    simp only [netlablaw02_StrengthMatches.l0]
    rw [if_neg (by omega)]
  | succ d ih =>
    intro i hi
    have hil : i < l.length := by omega
    have hr : rd_T35 l (i : Int) = l[i] := by unfold rd_T35; simp [List.getD, hil]
    have hr2 : rd_T26 (l.map fun x => (⟨x.f0, x.f1⟩ : S26)) (i : Int) = ⟨l[i].f0, l[i].f1⟩ := by unfold rd_T26; simp [List.getD, hil]
    obtain ⟨t, ht⟩ := read_some l[i].f0 l[i].f1
    obtain ⟨u, hu⟩ := contains_some l[i].f0 l[i].f1 n
    refine Ev.step (fun k => ?_) (ih (i + 1) (by omega))
    simp only [netlablaw02_StrengthMatches.l0]
    rw [if_pos (by omega), if_pos (by omega), if_pos (by simp; omega), hr, hr2, wrap64_in _ (by omega)]
    simp only [Norm_eq, rNorm_eq, read_eq, Contains_eq, ht, hu, strength_Valid.f, Option.bind_some, beq_self_eq_true, Bool.not_true, Bool.or_self, if_true, bne_self_eq_false]
    have sw : ∀ x y : Int, (x == y) = (y == x) := fun x y => by rw [Bool.eq_iff_iff, beq_iff_eq, beq_iff_eq]; exact eq_comm
    rw [if_neg (by decide), if_neg (by decide), sw l[i].f0, sw l[i].f1, bne_self_eq_false, if_neg (by decide), if_neg (by decide)]
    rfl
theorem StrengthMatches (l : List S35) (n : Int) (_ : ∀ x ∈ l, (Lit.int .i8 x.f0).wf = true ∧ (Lit.int .i8 x.f1).wf = true) (_ : l.length * 2 ≤ 140737488351232) (_ : (Lit.int .i64 n).wf = true) : ∃ k, netlablaw02_StrengthMatches.f k l n = some true := by
  refine Ev.rounds ?_
  unfold netlablaw02_StrengthMatches.f
  by_cases h : (l.length : Int) > 60
  · exact Ev.congr (fun k => if_pos h) awake_end
  · have hl : l.length ≤ 60 := by omega
    refine Ev.congr (fun k => if_neg h) ?_
    have h1 := given_run hl l.length 0 [] (by omega) rfl
    have h2 := told_run hl l.length 0 [] (by omega) rfl
    rw [List.nil_append, List.drop_zero] at h1 h2
    have h3 := Combine_eq (l := l.map fun x => ⟨x.f0, x.f1⟩) (by simp; omega)
    have h4 := rCombine_eq (l := l.map fun x => ⟨x.f0, x.f1⟩) (by simp; omega)
    rw [List.map_map] at h3 h4
    refine Ev.bind h1 (Ev.bind h3 (Ev.bind h2 (Ev.bind h4 ?_)))
    refine Ev.congr (fun k => if_neg ?_) (matches_run n hl l.length 0 (by omega))
    simp [Function.comp_def]
end Go.Proofs.YtcgckodhehnpnaaDoor.Pure
