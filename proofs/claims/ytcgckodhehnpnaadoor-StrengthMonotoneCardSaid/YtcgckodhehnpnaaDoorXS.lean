/- Levels and intervals, plain. -/
import Derived.Test.YtcgckodhehnpnaaDoorIR
import Derived.Test.YtcgckodhehnpnaaDoorALc
set_option linter.unusedSimpArgs false
set_option linter.unusedVariables false
namespace Go.Proofs.YtcgckodhehnpnaaDoor.X
open Go Go.AL
/-- The least level of a combination of two levels. -/
def lo (m n : Int) : Int := if m = -n then (if m < n then m else n) else if m.natAbs < n.natAbs then n else m
/-- The greatest level of a combination of two levels. -/
def hi (m n : Int) : Int := if m = -n then (if m < n then n else m) else if m.natAbs < n.natAbs then n else m
theorem lo_mono {m n p q : Int} (h1 : m ≤ p) (h2 : n ≤ q) : lo m n ≤ lo p q := by unfold lo; repeat' split
                                                                                  all_goals omega
theorem hi_mono {m n p q : Int} (h1 : m ≤ p) (h2 : n ≤ q) : hi m n ≤ hi p q := by unfold hi; repeat' split
                                                                                  all_goals omega
theorem lo_le_hi (m n : Int) : lo m n ≤ hi m n := by unfold lo hi; repeat' split
                                                     all_goals omega
theorem lo_comm (m n : Int) : lo m n = lo n m := by unfold lo; repeat' split
                                                    all_goals omega
theorem hi_comm (m n : Int) : hi m n = hi n m := by unfold hi; repeat' split
                                                    all_goals omega
theorem lo_zero (n : Int) : lo 0 n = n := by unfold lo; repeat' split
                                             all_goals omega
theorem hi_zero (n : Int) : hi 0 n = n := by unfold hi; repeat' split
                                             all_goals omega
theorem lo_assoc (m n p : Int) : lo (lo m n) p = lo m (lo n p) := by
  unfold lo; repeat' split
  all_goals omega
theorem hi_assoc (m n p : Int) : hi (hi m n) p = hi m (hi n p) := by
  unfold hi; repeat' split
  all_goals omega
/-- The levels. -/
def Lv (n : Int) : Prop := -7 ≤ n ∧ n ≤ 7
theorem lo_lv {m n : Int} (a : Lv m) (b : Lv n) : Lv (lo m n) := by unfold Lv lo at *; repeat' split
                                                                    all_goals omega
theorem hi_lv {m n : Int} (a : Lv m) (b : Lv n) : Lv (hi m n) := by unfold Lv hi at *; repeat' split
                                                                    all_goals omega
def cl (a : Int) : Int := mx (-7) (mn 7 a)
def nl (a b : Int) : Int := mn (cl a) (cl b)
def nh (a b : Int) : Int := mx (cl a) (cl b)
theorem cl_lv (a : Int) : Lv (cl a) := by unfold Lv cl mx mn; repeat' split
                                          all_goals omega
theorem nl_lv (a b : Int) : Lv (nl a b) := by unfold nl; have := cl_lv a; have := cl_lv b; unfold mn; split <;> assumption
theorem nh_lv (a b : Int) : Lv (nh a b) := by unfold nh; have := cl_lv a; have := cl_lv b; unfold mx; split <;> assumption
theorem nl_nh (a b : Int) : nl a b ≤ nh a b := by unfold nl nh mn mx; repeat' split
                                                  all_goals omega
theorem cl_id {a : Int} (h : Lv a) : cl a = a := by unfold Lv at h; unfold cl mx mn; repeat' split
                                                    all_goals omega
theorem nl_id {a b : Int} (ha : Lv a) (hb : Lv b) (h : a ≤ b) : nl a b = a := by unfold nl; rw [cl_id ha, cl_id hb]; unfold mn; split <;> omega
theorem nh_id {a b : Int} (ha : Lv a) (hb : Lv b) (h : a ≤ b) : nh a b = b := by unfold nh; rw [cl_id ha, cl_id hb]; unfold mx; split <;> omega
/-- Valid intervals. -/
def Vd (a : Int × Int) : Prop := Lv a.1 ∧ Lv a.2 ∧ a.1 ≤ a.2
/-- One more interval. -/
def ad (acc : Int × Int) (x : Int × Int) : Int × Int := (lo acc.1 (nl x.1 x.2), hi acc.2 (nh x.1 x.2))
theorem ad_vd {a : Int × Int} (h : Vd a) (x : Int × Int) : Vd (ad a x) := by
  obtain ⟨h1, h2, h3⟩ := h
  exact ⟨lo_lv h1 (nl_lv _ _), hi_lv h2 (nh_lv _ _), Int.le_trans (lo_mono h3 (nl_nh _ _)) (lo_le_hi _ _)⟩
def cb (l : List (Int × Int)) : Int × Int := l.foldl ad (0, 0)
theorem vd0 : Vd (0, 0) := ⟨⟨by decide, by decide⟩, ⟨by decide, by decide⟩, by decide⟩
theorem foldl_vd : ∀ (l : List (Int × Int)) (a : Int × Int), Vd a → Vd (l.foldl ad a)
  | [], a, h => h
  | x :: r, a, h => foldl_vd r _ (ad_vd h x)
theorem cb_vd (l : List (Int × Int)) : Vd (cb l) := foldl_vd l _ vd0
theorem cb_take {l : List (Int × Int)} {k : Nat} (h : k < l.length) : cb (l.take (k + 1)) = ad (cb (l.take k)) l[k] := by
  unfold cb
  rw [List.take_add_one, List.getElem?_eq_getElem h, List.foldl_append]
  rfl
theorem neg_lv {n : Int} (h : Lv n) : fwrap .i8 (0 - n) = -n := by
  unfold Lv at h
  rw [fwrap_eq]
  unfold IntKind.wrap
  simp only [show IntKind.bits .i8 = 8 from rfl, show IntKind.signed .i8 = true from rfl, Bool.true_and, decide_eq_true_eq, Nat.reduceSub]
  split <;> omega
theorem succ_lv {n : Int} (h : Lv n) : fwrap .i8 (n + 1) = n + 1 := by
  unfold Lv at h
  rw [fwrap_eq]
  unfold IntKind.wrap
  simp only [show IntKind.bits .i8 = 8 from rfl, show IntKind.signed .i8 = true from rfl, Bool.true_and, decide_eq_true_eq, Nat.reduceSub]
  split <;> omega
theorem mx_abs (n : Int) : mx n (-n) = (n.natAbs : Int) := by unfold mx; split <;> omega
/-- Two structs of two int8. -/
theorem eqS (a b c d : Int) : abin 4 .eql (.agg ⟨[.int .i8 a, .int .i8 b]⟩) (.agg ⟨[.int .i8 c, .int .i8 d]⟩) = some (.bool (a == c && b == d)) := by
  simp only [abin, eqCells, List.length_cons, List.length_nil, show Nat.ble 2 4 = true from rfl, if_true]
  cases h : (a == c) <;> cases h2 : (b == d) <;> rfl
variable {ext : Nat → Option (List Value → AH → Option (Value × AH))}
abbrev Cx (ext : Nat → Option (List Value → AH → Option (Value × AH))) : Ctx := ⟨IR.ft, ext⟩
/-- Only awake is told from without. -/
def Ext0 (ext : Nat → Option (List Value → AH → Option (Value × AH))) : Prop := ∀ f, f ≠ 17 → ext f = none
end Go.Proofs.YtcgckodhehnpnaaDoor.X
