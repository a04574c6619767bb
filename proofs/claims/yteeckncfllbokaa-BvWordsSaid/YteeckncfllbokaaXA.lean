/- What the small functions of the vectors compute. -/
import Derived.Test.YteeckncfllbokaaIR
import Derived.Test.YteeckncfllbokaaALc
set_option linter.unusedSimpArgs false
set_option linter.unusedVariables false
namespace Go.Proofs.Yteeckncfllbokaa.X
open Go Go.AL
def bx (l : List Bool) (i : Nat) : Bool := l.getD i false
theorem bx_lt {l : List Bool} {n : Nat} (h : n < l.length) : l[n]? = some (bx l n) := by simp [bx, List.getD_eq_getElem?_getD, h]
theorem bx_ge {l : List Bool} {n : Nat} (h : ¬ n < l.length) : bx l n = false := by simp [bx, List.getD_eq_getElem?_getD, List.getElem?_eq_none (Nat.le_of_not_lt h)]
variable {ext : Nat → Option (List Value → AH → Option (Value × AH))}
abbrev Cx (ext : Nat → Option (List Value → AH → Option (Value × AH))) : Ctx := ⟨IR.ft, ext⟩
/-- Only awake is told from without. -/
def Ext0 (ext : Nat → Option (List Value → AH → Option (Value × AH))) : Prop := ∀ f, f ≠ 14 → ext f = none
theorem at_any (hx : Ext0 ext) {H : AH} {v : Value} {l : List Bool} {n : Nat} (hv : IsB H v l) : Run (Cx ext) 59 [v, .int .i64 n] H fun r H' => H' = H ∧ r = .bool (bx l n) := by
  refine Run.intro (fi := IR.fi59) (hx 59 (by decide)) (by kernel_rfl) ?_
  unfold IR.fi59
  simp only [envOf_cons, envOf_nil]
  refine Cw.seq (Cw.region ?_)
  (refine Ow.popM rfl ?_; simp only [S0, Nat.reduceEqDiff, Nat.reduceAdd, reduceIte, reduceCtorEq])
  refine Ow.nilM ⟨nofun, ?_⟩
  refine Cw.seq (Cw.region ?_)
  by_cases hlt : n < l.length
  · obtain ⟨ad, cap, bk, rfl, h1, h2, h3⟩ := hv.at (bx_lt hlt)
    iterate 8 (refine Ow.popM rfl ?_; simp only [S0, Nat.reduceEqDiff, Nat.reduceAdd, reduceIte, reduceCtorEq, lt_true hlt, ix_ok hlt])
    (refine Ow.hopM rfl rfl ?_; simp only [S0, Nat.reduceEqDiff, Nat.reduceAdd, reduceIte, reduceCtorEq, h2, h3])
    iterate 2 (refine Ow.popM rfl ?_; simp only [S0, Nat.reduceEqDiff, Nat.reduceAdd, reduceIte, reduceCtorEq])
    refine Ow.nilM ⟨nofun, ?_⟩
    refine Cw.ret ?_
    simp only [FnPost, resOf, tupled, S0, Nat.reduceEqDiff, Nat.reduceAdd, reduceIte, reduceCtorEq, and_self]
  · obtain ⟨a, cap, rfl⟩ := hv.shape
    iterate 8 (refine Ow.popM rfl ?_; simp only [S0, Nat.reduceEqDiff, Nat.reduceAdd, reduceIte, reduceCtorEq, lt_false hlt])
    (refine Ow.hopM rfl rfl ?_; simp only [S0, Nat.reduceEqDiff, Nat.reduceAdd, reduceIte, reduceCtorEq])
    iterate 2 (refine Ow.popM rfl ?_; simp only [S0, Nat.reduceEqDiff, Nat.reduceAdd, reduceIte, reduceCtorEq])
    refine Ow.nilM ⟨nofun, ?_⟩
    refine Cw.ret ?_
    simp only [FnPost, resOf, tupled, S0, Nat.reduceEqDiff, Nat.reduceAdd, reduceIte, reduceCtorEq, bx_ge hlt, and_self]
theorem adder_any (hx : Ext0 ext) {H : AH} {c : Bool} : Run (Cx ext) 58 [.bool c] H fun r H' => H' = H.new ⟨[.bool c], 0⟩ ∧ r = .func (.func 68) ⟨[]⟩ ⟨[.pointer (some ⟨H.n, 0, none⟩)]⟩ := by
  refine Run.intro (fi := IR.fi58) (hx 58 (by decide)) (by kernel_rfl) ?_
  unfold IR.fi58
  simp only [envOf_cons, envOf_nil]
  refine Cw.seq (Cw.region ?_)
  (refine Ow.hopM rfl rfl ?_; simp only [S0, Nat.reduceEqDiff, Nat.reduceAdd, reduceIte, reduceCtorEq, junk, AL.cellsOf])
  (refine Ow.popM rfl ?_; simp only [S0, Nat.reduceEqDiff, Nat.reduceAdd, reduceIte, reduceCtorEq])
  refine Ow.nilM ⟨nofun, ?_⟩
  refine Cw.seq (Cw.region ?_)
  iterate 2 (refine Ow.popM rfl ?_; simp only [S0, Nat.reduceEqDiff, Nat.reduceAdd, reduceIte, reduceCtorEq])
  refine Ow.nilM ⟨nofun, ?_⟩
  refine Cw.ret ?_
  simp only [FnPost, resOf, tupled, S0, Nat.reduceEqDiff, Nat.reduceAdd, reduceIte, reduceCtorEq, and_self]
/-- One step of an adder: its carry lies in block id. -/
theorem step_any (hx : Ext0 ext) {H : AH} {id : Nat} {a b c : Bool} (hid : id < H.n) (hb : H.t.get id = some ⟨[.bool c], 0⟩) :
    Run (Cx ext) 68 [.bool a, .bool b, .pointer (some ⟨id, 0, none⟩)] H fun r H' => H'.n = H.n ∧ H'.t = H.t.set id ⟨[.bool (a && b || (c && (a || b)))], 0⟩ ∧ H'.wl = min H.wl id ∧ r = .bool (((a != b) != c)) := by
  refine Run.intro (fi := IR.fi68) (hx 68 (by decide)) (by kernel_rfl) ?_
  unfold IR.fi68
  simp only [envOf_cons, envOf_nil]
  refine Cw.seq (Cw.region ?_)
  (refine Ow.popM rfl ?_; simp only [S0, Nat.reduceEqDiff, Nat.reduceAdd, reduceIte, reduceCtorEq])
  refine Ow.nilM ⟨nofun, ?_⟩
  refine Cw.seq (Cw.region ?_)
  iterate 3 (refine Ow.popM rfl ?_; simp only [S0, Nat.reduceEqDiff, Nat.reduceAdd, reduceIte, reduceCtorEq])
  (refine Ow.hopM rfl rfl ?_; simp only [S0, Nat.reduceEqDiff, Nat.reduceAdd, reduceIte, reduceCtorEq, hb, List.getElem?_cons_zero])
  iterate 2 (refine Ow.popM rfl ?_; simp only [S0, Nat.reduceEqDiff, Nat.reduceAdd, reduceIte, reduceCtorEq])
  refine Ow.nilM ⟨nofun, ?_⟩
  refine Cw.seq (Cw.region ?_)
  have fin : ∀ (E : Env) (x : Bool), E.get 2 = some (.pointer (some ⟨id, 0, none⟩)) → E.get 24 = some (.bool x) → E.get 6 = some (.bool (((a != b) != c))) → x = (a && b || (c && (a || b))) →
      Ow (Cx ext) [⟨none, none, .store 1 (.tmp 2) (.tmp 24)⟩] E H fun E' H' fl' => Cw (Cx ext) (.seq (.region false [⟨some 25, none, .mov (.tmp 6)⟩, ⟨some 5, none, .mov (.tmp 25)⟩] []) .ret) E' H' (FnPost [.tmp 5] fun r H' => H'.n = H.n ∧ H'.t = H.t.set id ⟨[.bool (a && b || (c && (a || b)))], 0⟩ ∧ H'.wl = min H.wl id ∧ r = .bool (((a != b) != c))) := by
    intro E x h2 h24 h6 hxe
    refine Ow.store1 (b := true) (ad := ⟨id, 0, none⟩) rfl h2 h24 rfl rfl hb (by simp) (by simp) ?_ ?_
    · have : min H.n id = id := Nat.min_eq_right (Nat.le_of_lt hid)
      show Nat.blt (min H.n id) H.n = true
      rw [this]; exact Nat.ble_eq_true_of_le hid
    · intro wl hwl
      refine Ow.nil ?_
      refine Cw.seq (Cw.region ?_)
      iterate 2 (refine Ow.popM rfl ?_; simp only [S0, Nat.reduceEqDiff, Nat.reduceAdd, reduceIte, reduceCtorEq, h6])
      refine Ow.nilM ⟨nofun, ?_⟩
      refine Cw.ret ?_
      simp only [FnPost, resOf, tupled, S0, Nat.reduceEqDiff, Nat.reduceAdd, reduceIte, reduceCtorEq]
      refine ⟨?_, ?_, ?_, ?_⟩
      · first | trivial | rfl
      · rw [← hxe]; rfl
      · rw [hwl]
        show min H.wl (min H.n id) = min H.wl id
        have : min H.n id = id := Nat.min_eq_right (Nat.le_of_lt hid)
        rw [this]
      · first | trivial | rfl
  cases a <;> cases b <;> cases c
  all_goals
    repeat (first | (refine Ow.popM rfl ?_; simp only [S0, Nat.reduceEqDiff, Nat.reduceAdd, reduceIte, reduceCtorEq]) | (refine Ow.hopM rfl rfl ?_; simp only [S0, Nat.reduceEqDiff, Nat.reduceAdd, reduceIte, reduceCtorEq, hb, List.getElem?_cons_zero]))
    refine (fin _ _ ?_ ?_ ?_ rfl).mono (fun E' H' fl h => ⟨nofun, h⟩)
    · simp only [S0, Nat.reduceEqDiff, Nat.reduceAdd, reduceIte, reduceCtorEq]
    · simp only [S0, Nat.reduceEqDiff, Nat.reduceAdd, reduceIte, reduceCtorEq]; rfl
    · simp only [S0, Nat.reduceEqDiff, Nat.reduceAdd, reduceIte, reduceCtorEq]
end Go.Proofs.Yteeckncfllbokaa.X
