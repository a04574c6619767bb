/- Strengths, plain: what two levels' combination is at most and at least; what pair and two come to. -/
import Derived.Test.YtcgckodhehnpnaaDoorF9
import Derived.Test.YtcgckodhehnpnaaDoorF16
import Derived.Test.YtcgckodhehnpnaaDoorF17
import Derived.Test.YtcgckodhehnpnaaDoorF18
namespace Go.Proofs.YtcgckodhehnpnaaDoor.Pure
open Go.RowKit Go.Proofs.YtcgckodhehnpnaaDoor.F Go.Proofs.YtcgckodhehnpnaaDoorW.PrintWords Go.Proofs.YtcgckodhehnpnaaDoorW.PrintLast Go.Proofs.YtcgckodhehnpnaaDoorW.PrintMore
/-- The least level of a combination of two levels. -/
def lo (m n : Int) : Int := if m = -n then (if m < n then m else n) else if m.natAbs < n.natAbs then n else m
/-- The greatest level of a combination of two levels. -/
def hi (m n : Int) : Int := if m = -n then (if m < n then n else m) else if m.natAbs < n.natAbs then n else m
theorem lo_mono {m n p q : Int} (h1 : m ≤ p) (h2 : n ≤ q) : lo m n ≤ lo p q := by unfold lo; repeat' split
                                                                                  all_goals omega
theorem hi_mono {m n p q : Int} (h1 : m ≤ p) (h2 : n ≤ q) : hi m n ≤ hi p q := by unfold hi; repeat' split
                                                                                  all_goals omega
theorem lo_le_hi (m n : Int) : lo m n ≤ hi m n := by unfold lo hi; repeat' split
                                                     all_goals omega
theorem lo_range {m n : Int} (a : -7 ≤ m) (b : m ≤ 7) (c : -7 ≤ n) (d : n ≤ 7) : -7 ≤ lo m n ∧ lo m n ≤ 7 := by unfold lo; repeat' split
                                                                                                                all_goals omega
theorem hi_range {m n : Int} (a : -7 ≤ m) (b : m ≤ 7) (c : -7 ≤ n) (d : n ≤ 7) : -7 ≤ hi m n ∧ hi m n ≤ 7 := by unfold hi; repeat' split
                                                                                                                all_goals omega
theorem lo_comm (m n : Int) : lo m n = lo n m := by unfold lo; repeat' split
                                                    all_goals omega
theorem hi_comm (m n : Int) : hi m n = hi n m := by unfold hi; repeat' split
                                                    all_goals omega
theorem lo_zero (n : Int) : lo 0 n = n := by unfold lo; repeat' split
                                             all_goals omega
theorem hi_zero (n : Int) : hi 0 n = n := by unfold hi; repeat' split
                                             all_goals omega
theorem lo_assoc (m n p : Int) : lo (lo m n) p = lo m (lo n p) := by
  unfold lo; repeat' split
  all_goals omega
theorem hi_assoc (m n p : Int) : hi (hi m n) p = hi m (hi n p) := by
  unfold hi; repeat' split
  all_goals omega
/-- A loop over two intervals' levels comes to the least and the greatest level. -/
theorem both {R1 : Int → Int → Int → Int → Prop} {R0 : Int → Int → Int → Prop} {a0 a1 b0 b1 : Int} (ha : a0 ≤ a1) (hb : b0 ≤ b1)
    (hend : ∀ m A B, a1 < m → A = lo a0 b0 → B = hi a1 b1 → R0 m A B) (hrow : ∀ m A B, a0 ≤ m → m ≤ a1 → R1 m b0 A B → R0 m A B)
    (hstep : ∀ m n A B, a0 ≤ m → m ≤ a1 → b0 ≤ n → n ≤ b1 → R1 m (n + 1) (mn A (lo m n)) (mx B (hi m n)) → R1 m n A B) (hout : ∀ m n A B, a0 ≤ m → m ≤ a1 → b1 < n → R0 (m + 1) A B → R1 m n A B) :
    ∀ (N : Nat) m n A B, a0 ≤ m → m ≤ a1 → b0 ≤ n → n ≤ b1 + 1 → lo a0 b0 ≤ A → (¬ (m = a0 ∧ n = b0) → A = lo a0 b0) → B ≤ hi a1 b1 → (m = a1 ∧ n = b1 + 1 → B = hi a1 b1) →
      (a1 - m).toNat * (b1 - b0 + 2).toNat + (b1 + 1 - n).toNat < N → R1 m n A B := by
  intro N
  induction N with
  | zero => intro m n A B _ _ _ _ _ _ _ _ h; omega
  | succ N ih =>
    intro m n A B h1 h2 h3 h4 h5 h6 h7 h8 hN
    by_cases hn : n ≤ b1
    · refine hstep m n A B h1 h2 h3 hn (ih m (n + 1) _ _ h1 h2 (by omega) (by omega) ?_ ?_ ?_ ?_ (by omega))
      · have := lo_mono h1 h3
        unfold mn; split <;> omega
      · intro _
        have := lo_mono h1 h3
        by_cases h : m = a0 ∧ n = b0
        · obtain ⟨rfl, rfl⟩ := h
          unfold mn; split <;> omega
        · have := h6 h
          unfold mn; split <;> omega
      · have := hi_mono h2 hn
        unfold mx; split <;> omega
      · rintro ⟨rfl, h⟩
        obtain rfl : n = b1 := by omega
        unfold mx; split <;> omega
    · refine hout m n A B h1 h2 (by omega) ?_
      by_cases hm : m = a1
      · exact hend _ _ _ (by omega) (h6 (by omega)) (h8 ⟨hm, by omega⟩)
      · refine hrow _ _ _ (by omega) (by omega) (ih (m + 1) b0 A B (by omega) (by omega) (Int.le_refl _) (by omega) h5 (fun _ => h6 (by omega)) h7 (by omega) ?_)
        have e1 : (a1 - m).toNat = (a1 - (m + 1)).toNat + 1 := by omega
        rw [e1, Nat.add_mul, Nat.one_mul] at hN
        omega
theorem wrap64_in (n : Int) (h : -9223372036854775808 ≤ n ∧ n ≤ 9223372036854775807) : wrap64 n = n := by unfold wrap64; omega
/-- The levels. -/
def Lv (n : Int) : Prop := -7 ≤ n ∧ n ≤ 7
theorem Lv.mem {n : Int} (h : Lv n) : ∃ i : Fin 15, n = (i.val : Int) - 7 := ⟨⟨(n + 7).toNat, by unfold Lv at h; omega⟩, by unfold Lv at h; simp; omega⟩
theorem wrap_succ {n : Int} (h : Lv n) : IntKind.i8.wrap (n + 1) = n + 1 := by
  obtain ⟨i, rfl⟩ := h.mem
  clear h
  revert i; decide
theorem meet_eq {m n : Int} (hm : Lv m) (hn : Lv n) : strength_meet.f m n = some (lo m n, hi m n) := by
  obtain ⟨i, rfl⟩ := hm.mem
  obtain ⟨j, rfl⟩ := hn.mem
  clear hm hn
  revert i j; decide +kernel
theorem pair_eq {a0 a1 b0 b1 : Int} (h0 : Lv a0) (h1 : Lv a1) (h2 : Lv b0) (h3 : Lv b1) (ha : a0 ≤ a1) (hb : b0 ≤ b1) : Ev (fun k => strength_pair.f k a0 a1 b0 b1) (lo a0 b0, hi a1 b1) := by
  refine Ev.congr (f := fun k => if (a0 == 0 && (a1 == 0)) = true then some (b0, b1) else (strength_meet.f a0 b0).bind fun bt140 => (strength_pair.l0 k a0 a0 a1 b0 b1 bt140.1 bt140.2)) (fun k => rfl) ?_
  by_cases hz : (a0 == 0 && (a1 == 0)) = true
  · simp only [Bool.and_eq_true, beq_iff_eq] at hz
    obtain ⟨rfl, rfl⟩ := hz
    simp only [lo_zero, hi_zero]
    exact Ev.congr (fun k => if_pos rfl) (Ev.now _)
  · refine Ev.congr (f := fun k => strength_pair.l0 k a0 a0 a1 b0 b1 (lo a0 b0) (hi a0 b0)) (fun k => by rw [if_neg hz, meet_eq h0 h2]; rfl) ?_
    unfold Lv at h0 h1 h2 h3
    have row : ∀ m A B, a0 ≤ m → m ≤ a1 → Ev (fun k => strength_pair.l1 k m b0 a0 a1 b0 b1 A B) (lo a0 b0, hi a1 b1) → Ev (fun k => strength_pair.l0 k m a0 a1 b0 b1 A B) (lo a0 b0, hi a1 b1) := by
      intro m A B _ hm h
      exact Ev.step (fun k => by simp only [strength_pair.l0]; rw [if_pos hm]) h
    refine row _ _ _ (Int.le_refl _) ha ?_
    refine both (R1 := fun m n A B => Ev (fun k => strength_pair.l1 k m n a0 a1 b0 b1 A B) (lo a0 b0, hi a1 b1)) (R0 := fun m A B => Ev (fun k => strength_pair.l0 k m a0 a1 b0 b1 A B) (lo a0 b0, hi a1 b1)) ha hb ?_ row ?_ ?_
      _ a0 b0 (lo a0 b0) (hi a0 b0) (Int.le_refl _) ha (Int.le_refl _) (by omega) (Int.le_refl _) (fun _ => rfl) (hi_mono ha hb) (by omega) (Nat.lt_succ_self _)
    · rintro m A B hm rfl rfl
      exact Ev.step (f := fun _ => some (lo a0 b0, hi a1 b1)) (fun k => by simp only [strength_pair.l0]; rw [if_neg (by omega)]) (Ev.now _)
    · intro m n A B g1 g2 g3 g4 h
      have e := wrap_succ (n := n) (by unfold Lv; omega)
      refine Ev.step (f := fun k => strength_pair.l1 k m (n + 1) a0 a1 b0 b1 (mn A (lo m n)) (mx B (hi m n))) (fun k => ?_) h
      simp only [strength_pair.l1]
      rw [if_pos g4, meet_eq (by unfold Lv; omega) (by unfold Lv; omega), e]
      rfl
    · intro m n A B g1 g2 g3 h
      have e := wrap_succ (n := m) (by unfold Lv; omega)
      refine Ev.step (fun k => ?_) h
      simp only [strength_pair.l1]
      rw [if_neg (by omega), e]

theorem wrap_neg {n : Int} (h : Lv n) : IntKind.i8.wrap (-n) = -n := by
  obtain ⟨i, rfl⟩ := h.mem
  clear h
  revert i; decide
/-! ### The reference -/
def chk (m n : Int) : Bool := match netlabref02_Levels.f 20 m n with
  | some (x :: xs) => xs.foldl mn x == lo m n && xs.foldl mx x == hi m n && rd (x :: xs) 0 == lo m n && rd (x :: xs) ((xs.length : Int)) == hi m n && decide ((x :: xs).length ≤ 15)
  | _ => false
theorem chk_all {m n : Int} (hm : Lv m) (hn : Lv n) : chk m n = true := by
  obtain ⟨i, rfl⟩ := hm.mem
  obtain ⟨j, rfl⟩ := hn.mem
  clear hm hn
  revert i j; decide +kernel
theorem levels_eq {m n : Int} (hm : Lv m) (hn : Lv n) : ∃ x xs, Ev (fun k => netlabref02_Levels.f k m n) (x :: xs) ∧ xs.foldl mn x = lo m n ∧ xs.foldl mx x = hi m n ∧ rd (x :: xs) 0 = lo m n ∧ rd (x :: xs) ((xs.length : Int)) = hi m n ∧ (x :: xs).length ≤ 15 := by
  have h := chk_all hm hn
  unfold chk at h
  split at h
  · next x xs e =>
    simp only [Bool.and_eq_true, beq_iff_eq, decide_eq_true_eq] at h
    obtain ⟨⟨⟨⟨h1, h2⟩, h3⟩, h4⟩, h5⟩ := h
    exact ⟨x, xs, Ev.of (netlabref02_Levels.mono _ _) e, h1, h2, h3, h4, h5⟩
  · cases h
theorem mn_assoc (a b c : Int) : mn (mn a b) c = mn a (mn b c) := by unfold mn; repeat' split
                                                                     all_goals omega
theorem mx_assoc (a b c : Int) : mx (mx a b) c = mx a (mx b c) := by unfold mx; repeat' split
                                                                     all_goals omega
theorem foldl_mn (xs : List Int) : ∀ (A x : Int), xs.foldl mn (mn A x) = mn A (xs.foldl mn x) := by
  induction xs with
  | nil => intro A x; rfl
  | cons y ys ih => intro A x; rw [List.foldl_cons, List.foldl_cons, mn_assoc, ih]
theorem foldl_mx (xs : List Int) : ∀ (A x : Int), xs.foldl mx (mx A x) = mx A (xs.foldl mx x) := by
  induction xs with
  | nil => intro A x; rfl
  | cons y ys ih => intro A x; rw [List.foldl_cons, List.foldl_cons, mx_assoc, ih]
theorem l2_run {m n a0 a1 b0 b1 : Int} {t : List Int} (ht : t.length ≤ 15) {r : Int × Int} : ∀ (d i : Nat) (A B : Int), i + d = t.length →
    Ev (fun k => netlabref02_two.l1 k m (IntKind.i8.wrap (n + 1)) a0 a1 b0 b1 ((t.drop i).foldl mn A) ((t.drop i).foldl mx B)) r → Ev (fun k => netlabref02_two.l2 k m n t (i : Int) a0 a1 b0 b1 A B) r := by
  intro d
  induction d with
  | zero =>
    intro i A B hi h
    have : t.drop i = [] := List.drop_eq_nil_of_le (by omega)
    rw [this] at h
    refine Ev.step (fun k => ?_) h
    simp only [netlabref02_two.l2]
    rw [if_neg (by omega)]
    rfl
  | succ d ih =>
    intro i A B hi h
    have hl : i < t.length := by omega
    have hr : rd t (i : Int) = t[i] := by unfold rd; simp [List.getD, hl]
    refine Ev.step (f := fun k => netlabref02_two.l2 k m n t ((i + 1 : Nat) : Int) a0 a1 b0 b1 (mn A t[i]) (mx B t[i])) (fun k => ?_) (ih (i + 1) _ _ (by omega) ?_)
    · simp only [netlabref02_two.l2]
      rw [if_pos (by omega), if_pos (by omega), hr, wrap64_in _ (by omega)]
      rfl
    · rw [← List.getElem_cons_drop hl] at h
      exact h
theorem two_eq {a0 a1 b0 b1 : Int} (h0 : Lv a0) (h1 : Lv a1) (h2 : Lv b0) (h3 : Lv b1) (ha : a0 ≤ a1) (hb : b0 ≤ b1) : Ev (fun k => netlabref02_two.f k a0 a1 b0 b1) (lo a0 b0, hi a1 b1) := by
  refine Ev.congr (f := fun k => netlabref02_two.l0 k a0 a0 a1 b0 b1 7 (-7)) (fun k => rfl) ?_
  unfold Lv at h0 h1 h2 h3
  have row : ∀ m A B, a0 ≤ m → m ≤ a1 → Ev (fun k => netlabref02_two.l1 k m b0 a0 a1 b0 b1 A B) (lo a0 b0, hi a1 b1) → Ev (fun k => netlabref02_two.l0 k m a0 a1 b0 b1 A B) (lo a0 b0, hi a1 b1) := by
    intro m A B _ hm h
    exact Ev.step (fun k => by simp only [netlabref02_two.l0]; rw [if_pos hm]) h
  refine row _ _ _ (Int.le_refl _) ha ?_
  refine both (R1 := fun m n A B => Ev (fun k => netlabref02_two.l1 k m n a0 a1 b0 b1 A B) (lo a0 b0, hi a1 b1)) (R0 := fun m A B => Ev (fun k => netlabref02_two.l0 k m a0 a1 b0 b1 A B) (lo a0 b0, hi a1 b1)) ha hb ?_ row ?_ ?_
    _ a0 b0 7 (-7) (Int.le_refl _) ha (Int.le_refl _) (by omega) (lo_range (by omega) (by omega) (by omega) (by omega)).2 (fun h => absurd ⟨rfl, rfl⟩ h) (hi_range (by omega) (by omega) (by omega) (by omega)).1 (by omega) (Nat.lt_succ_self _)
  · rintro m A B hm rfl rfl
    exact Ev.step (f := fun _ => some (lo a0 b0, hi a1 b1)) (fun k => by simp only [netlabref02_two.l0]; rw [if_neg (by omega)]) (Ev.now _)
  · intro m n A B g1 g2 g3 g4 h
    have e := wrap_succ (n := n) (by unfold Lv; omega)
    obtain ⟨x, xs, hL, e1, e2, _, _, e5⟩ := levels_eq (m := m) (n := n) (by unfold Lv; omega) (by unfold Lv; omega)
    refine Ev.step (f := fun k => (netlabref02_Levels.f k m n).bind fun t => netlabref02_two.l2 k m n t 0 a0 a1 b0 b1 A B) (fun k => ?_) (Ev.bind hL (l2_run e5 _ 0 A B (Nat.zero_add _) ?_))
    · simp only [netlabref02_two.l1]
      rw [if_pos g4]
    · rw [List.drop_zero, List.foldl_cons, List.foldl_cons, foldl_mn, foldl_mx, e1, e2, e]
      exact h
  · intro m n A B g1 g2 g3 h
    have e := wrap_succ (n := m) (by unfold Lv; omega)
    refine Ev.step (fun k => ?_) h
    simp only [netlabref02_two.l1]
    rw [if_neg (by omega), e]
/-! ### Norm and Combine -/
def cl (a : Int) : Int := mx (-7) (mn 7 a)
def nl (a b : Int) : Int := mn (cl a) (cl b)
def nh (a b : Int) : Int := mx (cl a) (cl b)
theorem cl_lv (a : Int) : Lv (cl a) := by unfold Lv cl mx mn; repeat' split
                                          all_goals omega
theorem nl_lv (a b : Int) : Lv (nl a b) := by unfold nl; have := cl_lv a; have := cl_lv b; unfold mn; split <;> assumption
theorem nh_lv (a b : Int) : Lv (nh a b) := by unfold nh; have := cl_lv a; have := cl_lv b; unfold mx; split <;> assumption
theorem nl_nh (a b : Int) : nl a b ≤ nh a b := by unfold nl nh mn mx; repeat' split
                                                  all_goals omega
theorem Norm_eq (a b : Int) : strength_Norm.f a b = some (nl a b, nh a b) := rfl
theorem rNorm_eq (a b : Int) : netlabref02_Norm.f a b = some (nl a b, nh a b) := by
  unfold netlabref02_Norm.f netlabref02_limited.f
  simp only [Option.bind_some]
  unfold nl nh cl
  generalize mx (-7) (mn 7 a) = x
  generalize mx (-7) (mn 7 b) = y
  by_cases h : x > y
  · rw [if_pos h, show mn x y = y from if_pos h, show mx x y = x from if_neg (by omega)]
  · rw [if_neg h, show mn x y = x from if_neg h]
    by_cases g : x < y
    · rw [show mx x y = y from if_pos g]
    · rw [show mx x y = x from if_neg g, show x = y by omega]
theorem cl_id {a : Int} (h : Lv a) : cl a = a := by unfold Lv at h; unfold cl mx mn; repeat' split
                                                    all_goals omega
theorem nl_id {a b : Int} (ha : Lv a) (hb : Lv b) (h : a ≤ b) : nl a b = a := by unfold nl; rw [cl_id ha, cl_id hb]; unfold mn; split <;> omega
theorem nh_id {a b : Int} (ha : Lv a) (hb : Lv b) (h : a ≤ b) : nh a b = b := by unfold nh; rw [cl_id ha, cl_id hb]; unfold mx; split <;> omega
/-- One more interval. -/
def ad (acc : Int × Int) (x : Int × Int) : Int × Int := (lo acc.1 (nl x.1 x.2), hi acc.2 (nh x.1 x.2))
/-- Valid intervals. -/
def Vd (a : Int × Int) : Prop := Lv a.1 ∧ Lv a.2 ∧ a.1 ≤ a.2
theorem ad_vd {a : Int × Int} (h : Vd a) (x : Int × Int) : Vd (ad a x) := by
  obtain ⟨h1, h2, h3⟩ := h
  have g1 := nl_lv x.1 x.2
  have g2 := nh_lv x.1 x.2
  have g3 := nl_nh x.1 x.2
  unfold Lv at h1 h2 g1 g2
  exact ⟨lo_range h1.1 h1.2 g1.1 g1.2, hi_range h2.1 h2.2 g2.1 g2.2, Int.le_trans (lo_mono h3 g3) (lo_le_hi _ _)⟩
def cb (l : List (Int × Int)) (acc : Int × Int) : Int × Int := l.foldl ad acc
theorem cb_run {l : List S26} (hl : l.length ≤ 1000) : ∀ (d i : Nat) (acc : Int × Int), i + d = l.length → Vd acc →
    Ev (fun k => strength_Combine.l0 k l (l.length : Int) (i : Int) acc.1 acc.2) (cb ((l.drop i).map fun x => (x.f0, x.f1)) acc) := by
  intro d
  induction d with
  | zero =>
    intro i acc hi _
    have : l.drop i = [] := List.drop_eq_nil_of_le (by omega)
    rw [this]
    refine Ev.step (f := fun _ => some (acc.1, acc.2)) (fun k => ?_) (Ev.now _)
    simp only [strength_Combine.l0]
    rw [if_neg (by omega)]
  | succ d ih =>
    intro i acc hi hv
    have hil : i < l.length := by omega
    have hr : rd_T26 l (i : Int) = l[i] := by unfold rd_T26; simp [List.getD, hil]
    have hp := pair_eq hv.1 hv.2.1 (nl_lv l[i].f0 l[i].f1) (nh_lv l[i].f0 l[i].f1) hv.2.2 (nl_nh _ _)
    rw [← List.getElem_cons_drop hil]
    refine Ev.step (f := fun k => (strength_pair.f k acc.1 acc.2 (nl l[i].f0 l[i].f1) (nh l[i].f0 l[i].f1)).bind fun bt => strength_Combine.l0 k l (l.length : Int) ((i + 1 : Nat) : Int) bt.1 bt.2) (fun k => ?_) (Ev.bind hp (ih (i + 1) (ad acc (l[i].f0, l[i].f1)) (by omega) (ad_vd hv _)))
    simp only [strength_Combine.l0]
    rw [if_pos (by omega), if_pos (by omega), if_pos (by omega), hr, wrap64_in _ (by omega), Norm_eq]
    rfl
theorem vd0 : Vd (0, 0) := ⟨⟨by decide, by decide⟩, ⟨by decide, by decide⟩, by decide⟩
theorem Combine_eq {l : List S26} (hl : l.length ≤ 1000) : Ev (fun k => strength_Combine.f k l) (cb (l.map fun x => (x.f0, x.f1)) (0, 0)) :=
  Ev.congr (f := fun k => strength_Combine.l0 k l (l.length : Int) 0 0 0) (fun _ => rfl) (cb_run hl _ 0 (0, 0) (Nat.zero_add _) vd0)
theorem rcb_run {l : List S25} (hl : l.length ≤ 1000) : ∀ (d i : Nat) (acc : Int × Int), i + d = l.length → Vd acc →
    Ev (fun k => netlabref02_Combine.l0 k l (i : Int) acc.1 acc.2) (cb ((l.drop i).map fun x => (x.f0, x.f1)) acc) := by
  intro d
  induction d with
  | zero =>
    intro i acc hi _
    have : l.drop i = [] := List.drop_eq_nil_of_le (by omega)
    rw [this]
    refine Ev.step (f := fun _ => some (acc.1, acc.2)) (fun k => ?_) (Ev.now _)
    simp only [netlabref02_Combine.l0]
    rw [if_neg (by omega)]
  | succ d ih =>
    intro i acc hi hv
    have hil : i < l.length := by omega
    have hr : rd_T25 l (i : Int) = l[i] := by unfold rd_T25; simp [List.getD, hil]
    have hp := two_eq hv.1 hv.2.1 (nl_lv l[i].f0 l[i].f1) (nh_lv l[i].f0 l[i].f1) hv.2.2 (nl_nh _ _)
    rw [← List.getElem_cons_drop hil]
    refine Ev.step (f := fun k => (netlabref02_two.f k acc.1 acc.2 (nl l[i].f0 l[i].f1) (nh l[i].f0 l[i].f1)).bind fun bt => netlabref02_Combine.l0 k l ((i + 1 : Nat) : Int) bt.1 bt.2) (fun k => ?_) (Ev.bind hp (ih (i + 1) (ad acc (l[i].f0, l[i].f1)) (by omega) (ad_vd hv _)))
    simp only [netlabref02_Combine.l0]
    rw [if_pos (by omega), if_pos (by omega), hr, wrap64_in _ (by omega), rNorm_eq]
    rfl
theorem rCombine_eq {l : List S25} (hl : l.length ≤ 1000) : Ev (fun k => netlabref02_Combine.f k l) (cb (l.map fun x => (x.f0, x.f1)) (0, 0)) :=
  Ev.congr (f := fun k => netlabref02_Combine.l0 k l 0 0 0) (fun _ => rfl) (rcb_run hl _ 0 (0, 0) (Nat.zero_add _) vd0)
theorem Combine2_eq (a b c d : Int) : Ev (fun k => strength_Combine.f k ([(⟨a, b⟩ : S26), (⟨c, d⟩ : S26)] : List S26)) (lo (nl a b) (nl c d), hi (nh a b) (nh c d)) := by
  have h := Combine_eq (l := [(⟨a, b⟩ : S26), (⟨c, d⟩ : S26)]) (by simp)
  simp only [List.map_cons, List.map_nil, cb, List.foldl_cons, List.foldl_nil, ad, lo_zero, hi_zero] at h
  exact h
theorem awake_eq : Ev (fun k => netlablaw02_awake.f k) true := Ev.of netlablaw02_awake.mono (k := 300) (by decide +kernel)
theorem awake_end : Ev (fun k => (netlablaw02_awake.f k).bind fun t => if t = true then some true else none) true := Ev.bind awake_eq (Ev.congr (fun _ => if_pos rfl) (Ev.now _))
theorem contains_eq (a b n : Int) (h : Vd (a, b)) : strength_Contains.f a b n = some (decide (a ≤ n ∧ n ≤ b)) := by
  obtain ⟨h1, h2, h3⟩ := h
  unfold strength_Contains.f
  rw [Norm_eq, nl_id h1 h2 h3, nh_id h1 h2 h3]
  simp only at h1 h2 h3
  unfold Lv at h1 h2
  simp only [Option.bind_some, wrap64_in a (by omega), wrap64_in b (by omega)]
  by_cases g : a ≤ n
  · rw [if_pos g]; simp [g]
  · rw [if_neg g]; simp [g]
theorem valid_eq {a b : Int} (h : Vd (a, b)) : strength_Valid.f a b = some true := by
  obtain ⟨h1, h2, h3⟩ := h
  unfold strength_Valid.f
  rw [Norm_eq, nl_id h1 h2 h3, nh_id h1 h2 h3]
  simp
end Go.Proofs.YtcgckodhehnpnaaDoor.Pure
