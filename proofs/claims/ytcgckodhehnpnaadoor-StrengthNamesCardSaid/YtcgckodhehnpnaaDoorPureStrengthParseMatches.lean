/- The plain law StrengthParseMatches. -/
import Derived.Test.YtcgckodhehnpnaaDoorPureStrengthDriveMatches
import Derived.Laws.Strings
namespace Go.Proofs.YtcgckodhehnpnaaDoor.Pure
open Go.RowKit Go.Proofs.YtcgckodhehnpnaaDoor.F Go.Proofs.YtcgckodhehnpnaaDoorW.PrintWords Go.Proofs.YtcgckodhehnpnaaDoorW.PrintLast Go.Proofs.YtcgckodhehnpnaaDoorW.PrintMore
/-- A strength's word. -/
def nm (i : Nat) : List UInt8 := (namesL.getD i ByteArray.empty).data.toList
theorem rname_at {i : Nat} (hi : i < 8) (one : Bool) : ∃ s, netlabref02_Name.f (i : Int) one = some s ∧ s.toList = nm i ++ [if one = true then 49 else 48] := by
  refine ⟨rdOf ByteArray.empty namesL (mn (i : Int) 7) ++ (if one = true then (⟨#[49]⟩ : ByteArray) else (⟨#[48]⟩ : ByteArray)), ?_, ?_⟩
  · rw [rname_eq _ (by omega)]
    exact if_pos (by omega)
  · have e : mn (i : Int) 7 = (i : Int) := by unfold mn; rw [if_neg (by omega)]
    rw [e, ByteArray.toList_eq]
    unfold nm rdOf
    cases one <;> simp [ByteArray.data_append]
theorem split_last (s : ByteArray) (h : s.size ≠ 0) : ∃ d : UInt8, s.toList = (s.extract 0 (s.size - 1)).toList ++ [d] ∧ bt s ((s.size : Int) - 1) = (d.toNat : Int) := by
  have hl : s.size - 1 < s.size := by omega
  have e1 : ((s.size : Int) - 1).toNat = s.size - 1 := by omega
  refine ⟨s[s.size - 1], ?_, ?_⟩
  · rw [ByteArray.toList_eq, ByteArray.toList_eq]
    have hs : s.data.toList.length = s.size := by simp
    have : (s.extract 0 (s.size - 1)).data.toList = s.data.toList.take (s.size - 1) := by simp [ByteArray.data_extract, List.dropLast_eq_take, hs]
    rw [this]
    have h2 := List.take_append_drop (s.size - 1) s.data.toList
    have h3 : s.data.toList.drop (s.size - 1) = [s[s.size - 1]] := by
      rw [List.drop_eq_getElem_cons (by omega), List.drop_eq_nil_of_le (by omega)]
      rfl
    rw [← h3]
    exact h2.symm
  · unfold bt
    rw [dif_pos (by omega)]
    simp only [e1]
/-- What Parse answers, told by the word and the digit. -/
theorem parse_run (s W : ByteArray) (d : UInt8) (hs : s.toList = W.toList ++ [d]) : ∀ (n i : Nat), i + n = 8 → ∃ r, strength_Parse.l0 W (d.toNat : Int) (n + 1) (i : Int) = some r ∧ Ev (fun k => netlabref02_Parse.l0 k s (i : Int)) r ∧
    (r = (0, false, false) ∨ ∃ (j : Nat) (one : Bool), j < 8 ∧ r = ((j : Int), one, true) ∧ s.toList = nm j ++ [if one = true then 49 else 48]) := by
  intro n
  induction n with
  | zero =>
    intro i hi
    refine ⟨(0, false, false), ?_, ?_, .inl rfl⟩
    · simp only [strength_Parse.l0]
      rw [if_neg (by omega)]
    · refine Ev.step (f := fun _ => some (0, false, false)) (fun k => ?_) (Ev.now _)
      simp only [netlabref02_Parse.l0]
      rw [if_neg (by omega)]
  | succ n ih =>
    intro i hi
    obtain ⟨r, h1, h2, h3⟩ := ih (i + 1) (by omega)
    obtain ⟨s0, e0, f0⟩ := rname_at (i := i) (by omega) false
    obtain ⟨s1, e1, f1⟩ := rname_at (i := i) (by omega) true
    have hn : (rdOf ByteArray.empty namesL (i : Int)).toList = nm i := by rw [ByteArray.toList_eq]; rfl
    have rs : ∀ k, netlabref02_Parse.l0 (k + 1) s (i : Int) = if s.toList = nm i ++ [48] then some ((i : Int), false, true) else if s.toList = nm i ++ [49] then some ((i : Int), true, true) else netlabref02_Parse.l0 k s ((i + 1 : Nat) : Int) := by
      intro k
      simp only [netlabref02_Parse.l0]
      rw [if_pos (by omega), e0, e1]
      simp only [Option.bind_some, f0, f1]
      rw [show ((i : Int) + 1) % 256 = ((i + 1 : Nat) : Int) by omega]
      rfl
    have ps : strength_Parse.l0 W (d.toNat : Int) (n + 1 + 1) (i : Int) = if nm i = W.toList ∧ ((d.toNat : Int) = 48 ∨ (d.toNat : Int) = 49) then some ((i : Int), (d.toNat : Int) == 49, true) else strength_Parse.l0 W (d.toNat : Int) (n + 1) ((i + 1 : Nat) : Int) := by
      rw [strength_Parse.l0, if_pos (by omega), hn]
      rfl
    rw [ps]
    have iff0 : ∀ c : UInt8, s.toList = nm i ++ [c] ↔ nm i = W.toList ∧ d = c := by
      intro c
      rw [hs]
      constructor
      · intro h
        have := List.append_inj' h rfl
        exact ⟨this.1.symm, by simpa using this.2⟩
      · rintro ⟨g, rfl⟩
        rw [g]
    by_cases hw : nm i = W.toList
    · by_cases h48 : d = 48
      · subst h48
        refine ⟨((i : Int), false, true), ?_, ?_, .inr ⟨i, false, by omega, rfl, (iff0 48).2 ⟨hw, rfl⟩⟩⟩
        · rw [if_pos ⟨hw, .inl rfl⟩]; rfl
        · refine Ev.step (f := fun _ => some ((i : Int), false, true)) (fun k => ?_) (Ev.now _)
          rw [rs, if_pos ((iff0 48).2 ⟨hw, rfl⟩)]
      · by_cases h49 : d = 49
        · subst h49
          refine ⟨((i : Int), true, true), ?_, ?_, .inr ⟨i, true, by omega, rfl, (iff0 49).2 ⟨hw, rfl⟩⟩⟩
          · rw [if_pos ⟨hw, .inr rfl⟩]; rfl
          · refine Ev.step (f := fun _ => some ((i : Int), true, true)) (fun k => ?_) (Ev.now _)
            rw [rs, if_neg (fun h => h48 ((iff0 48).1 h).2), if_pos ((iff0 49).2 ⟨hw, rfl⟩)]
        · refine ⟨r, ?_, ?_, h3⟩
          · rw [if_neg, h1]
            have e8 : (48 : UInt8).toNat = 48 := rfl
            have e9 : (49 : UInt8).toNat = 49 := rfl
            rintro ⟨_, h | h⟩
            · exact h48 (UInt8.toNat_inj.1 (by omega))
            · exact h49 (UInt8.toNat_inj.1 (by omega))
          · refine Ev.step (fun k => ?_) h2
            rw [rs, if_neg (fun h => h48 ((iff0 48).1 h).2), if_neg (fun h => h49 ((iff0 49).1 h).2)]
    · refine ⟨r, ?_, ?_, h3⟩
      · rw [if_neg (fun h => hw h.1), h1]
      · refine Ev.step (fun k => ?_) h2
        rw [rs, if_neg (fun h => hw ((iff0 48).1 h).1), if_neg (fun h => hw ((iff0 49).1 h).1)]
theorem parse_nil (s : ByteArray) (hs : s.toList = []) : ∀ (n i : Nat), i + n = 8 → Ev (fun k => netlabref02_Parse.l0 k s (i : Int)) (0, false, false) := by
  intro n
  induction n with
  | zero =>
    intro i hi
    refine Ev.step (f := fun _ => some (0, false, false)) (fun k => ?_) (Ev.now _)
    simp only [netlabref02_Parse.l0]
    rw [if_neg (by omega)]
  | succ n ih =>
    intro i hi
    obtain ⟨s0, e0, f0⟩ := rname_at (i := i) (by omega) false
    obtain ⟨s1, e1, f1⟩ := rname_at (i := i) (by omega) true
    refine Ev.step (fun k => ?_) (ih (i + 1) (by omega))
    simp only [netlabref02_Parse.l0]
    rw [if_pos (by omega), e0, e1]
    simp only [Option.bind_some, f0, f1, hs]
    rw [show ((i : Int) + 1) % 256 = ((i + 1 : Nat) : Int) by omega, if_neg (by simp), if_neg (by simp)]
theorem parse_eq (s : ByteArray) (h : s.size ≤ 140737488351232) : ∃ r, strength_Parse.f s = some r ∧ Ev (fun k => netlabref02_Parse.f k s) r ∧
    (r = (0, false, false) ∨ ∃ (j : Nat) (one : Bool), j < 8 ∧ r = ((j : Int), one, true) ∧ s.toList = nm j ++ [if one = true then 49 else 48]) := by
  by_cases hz : s.size = 0
  · refine ⟨(0, false, false), if_pos hz, parse_nil s ?_ 8 0 rfl, .inl rfl⟩
    rw [ByteArray.toList_eq]
    exact List.eq_nil_of_length_eq_zero (by simpa using hz)
  · obtain ⟨d, h1, h2⟩ := split_last s hz
    obtain ⟨r, g1, g2, g3⟩ := parse_run s _ d h1 8 0 rfl
    refine ⟨r, ?_, g2, g3⟩
    unfold strength_Parse.f
    rw [if_neg hz, if_pos (by omega), h2]
    exact g1
theorem StrengthParseMatches (s : ByteArray) (h : s.size ≤ 140737488351232) : ∃ k, netlablaw02_StrengthParseMatches.f k s = some true := by
  obtain ⟨r, h1, h2, _⟩ := parse_eq s h
  refine Ev.rounds ?_
  unfold netlablaw02_StrengthParseMatches.f
  simp only [h1, Option.bind_some]
  refine Ev.bind h2 ?_
  exact Ev.congr (fun k => by rw [if_pos rfl, if_pos (by simp), if_pos (by simp)]) awake_end
end Go.Proofs.YtcgckodhehnpnaaDoor.Pure
