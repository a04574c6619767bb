/- The plain law StrengthElements. -/
import Derived.Test.YtcgckodhehnpnaaDoorPStr
import Derived.Test.YtcgckodhehnpnaaDoorF21
namespace Go.Proofs.YtcgckodhehnpnaaDoor.Pure
open Go.RowKit Go.Proofs.YtcgckodhehnpnaaDoor.F Go.Proofs.YtcgckodhehnpnaaDoorW.PrintWords Go.Proofs.YtcgckodhehnpnaaDoorW.PrintLast Go.Proofs.YtcgckodhehnpnaaDoorW.PrintMore
theorem lo_next (m k : Int) : lo (m + 1) k ≤ hi m k + 1 := by unfold lo hi; repeat' split
                                                              all_goals omega
theorem lo_next2 (m k : Int) : lo m (k + 1) ≤ hi m k + 1 := by rw [lo_comm, hi_comm]; exact lo_next k m
/-- A level between the least and the greatest is met on the way. -/
theorem met1 (n k x1 : Int) : ∀ (d : Nat) (m : Int), m ≤ x1 → (x1 - m).toNat = d → lo m k ≤ n → (∃ m', m ≤ m' ∧ m' ≤ x1 ∧ lo m' k ≤ n ∧ n ≤ hi m' k) ∨ hi x1 k < n := by
  intro d
  induction d with
  | zero =>
    intro m h1 h2 h3
    obtain rfl : m = x1 := by omega
    by_cases h : n ≤ hi m k
    · exact .inl ⟨m, Int.le_refl _, h1, h3, h⟩
    · exact .inr (by omega)
  | succ d ih =>
    intro m h1 h2 h3
    by_cases h : n ≤ hi m k
    · exact .inl ⟨m, Int.le_refl _, h1, h3, h⟩
    · have := lo_next m k
      rcases ih (m + 1) (by omega) (by omega) (by omega) with ⟨m', g1, g2⟩ | g
      · exact .inl ⟨m', by omega, g2⟩
      · exact .inr g
theorem met {n a0 a1 b0 b1 : Int} (ha : a0 ≤ a1) (hb : b0 ≤ b1) (h1 : lo a0 b0 ≤ n) (h2 : n ≤ hi a1 b1) : ∃ m k, a0 ≤ m ∧ m ≤ a1 ∧ b0 ≤ k ∧ k ≤ b1 ∧ lo m k ≤ n ∧ n ≤ hi m k := by
  rcases met1 n b0 a1 _ a0 ha rfl h1 with ⟨m, g1, g2, g3, g4⟩ | g
  · exact ⟨m, b0, g1, g2, Int.le_refl _, hb, g3, g4⟩
  · have hl := lo_le_hi a1 b0
    rcases met1 n a1 b1 _ b0 hb rfl (by rw [lo_comm]; omega) with ⟨k, g1, g2, g3, g4⟩ | g'
    · rw [lo_comm] at g3
      rw [hi_comm] at g4
      exact ⟨a1, k, ha, Int.le_refl _, g1, g2, g3, g4⟩
    · rw [hi_comm] at g'
      omega
theorem bothE {R1 : Int → Int → Bool → Prop} {R0 : Int → Bool → Prop} {a0 a1 b0 b1 : Int} {C : Bool} {P : Int → Int → Prop} [∀ m k, Decidable (P m k)] (hb : b0 ≤ b1)
    (hs : ∀ m k, a0 ≤ m → m ≤ a1 → b0 ≤ k → k ≤ b1 → P m k → C = true) (hw : C = true → ∃ m k, a0 ≤ m ∧ m ≤ a1 ∧ b0 ≤ k ∧ k ≤ b1 ∧ P m k)
    (hend : ∀ m, a1 < m → R0 m C) (hrow : ∀ m B, a0 ≤ m → m ≤ a1 → R1 m b0 B → R0 m B)
    (hstep : ∀ m k B, a0 ≤ m → m ≤ a1 → b0 ≤ k → k ≤ b1 → R1 m (k + 1) (B || decide (P m k)) → R1 m k B) (hout : ∀ m k B, a0 ≤ m → m ≤ a1 → b1 < k → R0 (m + 1) B → R1 m k B) :
    ∀ (N : Nat) m k B, a0 ≤ m → m ≤ a1 → b0 ≤ k → k ≤ b1 + 1 → (B = true → C = true) → (∀ m' k', a0 ≤ m' → m' ≤ a1 → b0 ≤ k' → k' ≤ b1 → P m' k' → m' < m ∨ m' = m ∧ k' < k → B = true) →
      (a1 - m).toNat * (b1 - b0 + 2).toNat + (b1 + 1 - k).toNat < N → R1 m k B := by
  intro N
  induction N with
  | zero => intro m n B _ _ _ _ _ _ h; omega
  | succ N ih =>
    intro m k B h1 h2 h3 h4 h5 h6 hN
    by_cases hn : k ≤ b1
    · refine hstep m k B h1 h2 h3 hn (ih m (k + 1) _ h1 h2 (by omega) (by omega) ?_ ?_ (by omega))
      · intro h
        simp only [Bool.or_eq_true, decide_eq_true_eq] at h
        rcases h with h | h
        · exact h5 h
        · exact hs m k h1 h2 h3 hn h
      · intro m' k' g1 g2 g3 g4 g5 g6
        simp only [Bool.or_eq_true, decide_eq_true_eq]
        by_cases he : m' = m ∧ k' = k
        · obtain ⟨rfl, rfl⟩ := he
          exact .inr g5
        · exact .inl (h6 m' k' g1 g2 g3 g4 g5 (by omega))
    · refine hout m k B h1 h2 (by omega) ?_
      by_cases hm : m = a1
      · have : B = C := by
          cases hC : C with
          | false => cases hB : B with
            | false => rfl
            | true => exact absurd (h5 hB) (by simp [hC])
          | true =>
            obtain ⟨m', k', g1, g2, g3, g4, g5⟩ := hw hC
            exact h6 m' k' g1 g2 g3 g4 g5 (by omega)
        rw [this]
        exact hend _ (by omega)
      · refine hrow _ _ (by omega) (by omega) (ih (m + 1) b0 B (by omega) (by omega) (Int.le_refl _) (by omega) h5 (fun m' k' g1 g2 g3 g4 g5 g6 => h6 m' k' g1 g2 g3 g4 g5 (by omega)) ?_)
        have e1 : (a1 - m).toNat = (a1 - (m + 1)).toNat + 1 := by omega
        rw [e1, Nat.add_mul, Nat.one_mul] at hN
        omega
theorem StrengthElements (a b c d : Int) (_ : (Lit.int .i8 a).wf = true) (_ : (Lit.int .i8 b).wf = true) (_ : (Lit.int .i8 c).wf = true) (_ : (Lit.int .i8 d).wf = true) :
    ∃ k, netlablaw02_StrengthElements.f k a b c d = some true := by
  have g1 := nl_lv a b; have g2 := nh_lv a b; have g3 := nl_nh a b
  have g4 := nl_lv c d; have g5 := nh_lv c d; have g6 := nl_nh c d
  have hc := Combine2_eq a b c d
  refine Ev.rounds ?_
  unfold netlablaw02_StrengthElements.f
  rw [Norm_eq, Norm_eq]
  simp only [Option.bind_some]
  generalize nl a b = x at *
  generalize nh a b = y at *
  generalize nl c d = p at *
  generalize nh c d = q at *
  have va : Vd (lo x p, hi y q) := by
    unfold Lv at g1 g2 g4 g5
    exact ⟨lo_range g1.1 g1.2 g4.1 g4.2, hi_range g2.1 g2.2 g5.1 g5.2, Int.le_trans (lo_mono g3 g6) (lo_le_hi _ _)⟩
  refine Ev.bind hc ?_
  simp only [valid_eq (a := x) (b := y) ⟨g1, g2, g3⟩, valid_eq (a := p) (b := q) ⟨g4, g5, g6⟩, valid_eq va, Option.bind_some, if_true]
  unfold Lv at g1 g2 g4 g5
  refine Ev.congr (f := fun k => netlablaw02_StrengthElements.j0 k false x y p q (lo x p) (hi y q)) (fun k => ?_) ?_
  · rw [if_neg (by omega), if_neg (by omega), if_neg (by omega), show decide (q > 7) = false from decide_eq_false (by omega)]
  refine Ev.step (f := fun k => netlablaw02_StrengthElements.l0 k (-7) x y p q (lo x p) (hi y q)) (fun k => rfl) ?_
  have all : ∀ (D : Nat) (n : Int), -7 ≤ n → n ≤ 8 → (8 - n).toNat = D → Ev (fun k => netlablaw02_StrengthElements.l0 k n x y p q (lo x p) (hi y q)) true := by
    intro D
    induction D with
    | zero =>
      intro n h1 h2 h3
      refine Ev.step (fun k => ?_) awake_end
      simp only [netlablaw02_StrengthElements.l0]
      rw [if_neg (by omega)]
    | succ D ih =>
      intro n h1 h2 h3
      have hn : Lv n := ⟨h1, by omega⟩
      have next := ih (n + 1) (by omega) (by omega) (by omega)
      refine Ev.step (f := fun k => netlablaw02_StrengthElements.l1 k n false x x y p q (lo x p) (hi y q)) (fun k => by simp only [netlablaw02_StrengthElements.l0]; rw [if_pos (by omega)]) ?_
      have row : ∀ m B, x ≤ m → m ≤ y → Ev (fun k => netlablaw02_StrengthElements.l2 k n B m p x y p q (lo x p) (hi y q)) true → Ev (fun k => netlablaw02_StrengthElements.l1 k n B m x y p q (lo x p) (hi y q)) true := by
        intro m B _ hm h
        exact Ev.step (fun k => by simp only [netlablaw02_StrengthElements.l1]; rw [if_pos hm]) h
      refine row _ _ (Int.le_refl _) g3 ?_
      refine bothE (C := decide (lo x p ≤ n ∧ n ≤ hi y q)) (P := fun m k => lo m k ≤ n ∧ n ≤ hi m k) (R1 := fun m k' B => Ev (fun k => netlablaw02_StrengthElements.l2 k n B m k' x y p q (lo x p) (hi y q)) true) (R0 := fun m B => Ev (fun k => netlablaw02_StrengthElements.l1 k n B m x y p q (lo x p) (hi y q)) true)
        g6 ?_ ?_ ?_ row ?_ ?_ _ x p false (Int.le_refl _) g3 (Int.le_refl _) (by omega) (fun h => by cases h) (fun m' k' e1 _ e2 _ _ e3 => by omega) (Nat.lt_succ_self _)
      · intro m k e1 e2 e3 e4 e5
        have := lo_mono e1 e3
        have := hi_mono e2 e4
        exact decide_eq_true (by omega)
      · intro h
        have h := of_decide_eq_true h
        obtain ⟨m, k, e1, e2, e3, e4, e5, e6⟩ := met g3 g6 h.1 h.2
        exact ⟨m, k, e1, e2, e3, e4, e5, e6⟩
      · intro m hm
        refine Ev.step (fun k => ?_) next
        simp only [netlablaw02_StrengthElements.l1]
        rw [if_neg (by omega), wrap64_in n (by omega), contains_eq _ _ n va, wrap_succ hn]
        simp only [Option.bind_some, bne_self_eq_false]
        rfl
      · intro m k' B e1 e2 e3 e4 h
        obtain ⟨z, zs, hL, _, _, r1, r2, r3⟩ := levels_eq (m := m) (n := k') (by unfold Lv; omega) (by unfold Lv; omega)
        have ek := wrap_succ (n := k') (by unfold Lv; omega)
        refine Ev.step (f := fun k => (netlabref02_Levels.f k m k').bind fun t530 => (if B = true then (netlablaw02_StrengthElements.l2 k n true m (IntKind.i8.wrap (k' + 1)) x y p q (lo x p) (hi y q)) else (if 0 < (t530.length : Int) then (if (rd t530 0) ≤ n then (if 0 ≤ (wrap64 ((t530.length : Int) - 1)) then (if (wrap64 ((t530.length : Int) - 1)) < (t530.length : Int) then (netlablaw02_StrengthElements.l2 k n (decide (n ≤ (rd t530 (wrap64 ((t530.length : Int) - 1))))) m (IntKind.i8.wrap (k' + 1)) x y p q (lo x p) (hi y q)) else (none)) else (none)) else (netlablaw02_StrengthElements.l2 k n false m (IntKind.i8.wrap (k' + 1)) x y p q (lo x p) (hi y q))) else (none)))) (fun k => by simp only [netlablaw02_StrengthElements.l2]; rw [if_pos e4]) (Ev.bind hL (Ev.congr (fun k => ?_) h))
        have e9 : (((z :: zs).length : Int) - 1) = (zs.length : Int) := by simp
        have e8 : (zs.length : Int) < ((z :: zs).length : Int) := by simp only [List.length_cons]; omega
        have e7 : (0 : Int) < ((z :: zs).length : Int) := by simp only [List.length_cons]; omega
        rw [ek, e9, wrap64_in _ (by simp at r3; omega), r1, r2, if_pos e7, if_pos (Int.natCast_nonneg _), if_pos e8]
        cases B with
        | true => rw [if_pos rfl, Bool.true_or]
        | false =>
          rw [if_neg (by decide), Bool.false_or]
          by_cases e6 : lo m k' ≤ n
          · rw [if_pos e6]
            simp only [e6, true_and]
          · rw [if_neg e6]
            simp only [e6, false_and, decide_false]
      · intro m k' B e1 e2 e3 h
        have e := wrap_succ (n := m) (by unfold Lv; omega)
        refine Ev.step (fun k => ?_) h
        simp only [netlablaw02_StrengthElements.l2]
        rw [if_neg (by omega), e]
  exact all _ (-7) (Int.le_refl _) (by omega) rfl
end Go.Proofs.YtcgckodhehnpnaaDoor.Pure
