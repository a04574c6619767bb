/- The reference's minus. -/
import Derived.Test.YteeckncfllbokaaXT
set_option linter.unusedSimpArgs false
set_option linter.unusedVariables false
namespace Go.Proofs.Yteeckncfllbokaa.X
open Go Go.AL
variable {ext : Nat → Option (List Value → AH → Option (Value × AH))}
/-- What one place of a difference comes to. -/
theorem minus_bit {A B k : Nat} (h : B ≤ A) : (A - B).testBit k = ((A.testBit k != B.testBit k) != cy B (A - B) false k) ∧
    cy B (A - B) false (k + 1) = decide ((A.testBit k).toNat < (B.testBit k).toNat + (cy B (A - B) false k).toNat) := by
  have hf := full_add B (A - B) false k
  simp only [Bool.toNat_false, Nat.add_zero, show B + (A - B) = A by omega] at hf
  obtain ⟨h1, h2⟩ := hf
  rw [h2, h1]
  cases B.testBit k <;> cases (A - B).testBit k <;> cases cy B (A - B) false k <;> exact ⟨rfl, rfl⟩
/-- minus, of a number that is not greater -/
theorem minus_any (hx : Ext0 ext) {H : AH} {va vb : Value} {la lb : List Bool} (ha : IsB H va la) (hb : IsB H vb lb) (hl : la.length < 2 ^ 34) (hle : val lb ≤ val la) :
    Run (Cx ext) 61 [va, vb] H fun r H' => AL.Ext H H' ∧ IsG H H' r (ofN la.length (val la - val lb)) := by
  refine Run.intro (fi := IR.fi61) (hx 61 (by decide)) (by kernel_rfl) ?_
  unfold IR.fi61
  simp only [envOf_cons, envOf_nil]
  obtain ⟨aa, ca, ea⟩ := ha.shape
  subst ea
  refine Cw.seq (Cw.region ?_)
  (refine Ow.popM rfl ?_; simp only [S0, Nat.reduceEqDiff, Nat.reduceAdd, reduceIte, reduceCtorEq])
  refine Ow.nilM ⟨nofun, ?_⟩
  refine Cw.seq (Cw.region ?_)
  (refine Ow.popM rfl ?_; simp only [S0, Nat.reduceEqDiff, Nat.reduceAdd, reduceIte, reduceCtorEq])
  refine Ow.nilM ⟨nofun, ?_⟩
  refine Cw.seq (Cw.region ?_)
  (refine Ow.popM rfl ?_; simp only [S0, Nat.reduceEqDiff, Nat.reduceAdd, reduceIte, reduceCtorEq])
  refine Ow.nilM ⟨nofun, ?_⟩
  refine Cw.seq (Cw.seq (Cw.region ?_))
  (refine Ow.popM rfl ?_; simp only [S0, Nat.reduceEqDiff, Nat.reduceAdd, reduceIte, reduceCtorEq])
  refine Ow.nilM ⟨nofun, ?_⟩
  refine Cw.block (Cw.loopI la.length (fun k E H2 => (E.get 0 = some (.slice aa la.length ca) ∧ E.get 1 = some vb ∧ E.get 7 = some (.int .i64 (k : Int)) ∧ E.get 6 = some (.int .i64 ((cy (val lb) (val la - val lb) false k).toNat : Int))) ∧ AL.Ext H H2 ∧ ∃ u, E.get 5 = some u ∧ IsG H H2 u (ofN k (val la - val lb))) ⟨?_, AL.Ext.refl _, .slice none 0 0, by simp only [S0, Nat.reduceEqDiff, Nat.reduceAdd, reduceIte, reduceCtorEq], .inl ⟨rfl, by simp [ofN]⟩⟩ ?_)
  · simp only [S0, Nat.reduceEqDiff, Nat.reduceAdd, reduceIte, reduceCtorEq, cy_zero]; exact ⟨trivial, trivial, rfl, rfl⟩
  rintro k E H2 hk ⟨⟨e0, e1, e7, e6⟩, hxt, u, e5, hu⟩
  refine Cw.seq (Cw.seq (Cw.region ?_))
  by_cases hlt : k < la.length
  · iterate 4 (refine Ow.popM rfl ?_; simp only [S0, Nat.reduceEqDiff, Nat.reduceAdd, reduceIte, reduceCtorEq, e0, e7, lt_true hlt])
    refine Ow.nilM ⟨nofun, ?_⟩
    refine Cw.cond (t := true) (by simp only [S0, Nat.reduceEqDiff, Nat.reduceAdd, reduceIte, reduceCtorEq]) ?_
    refine Cw.skip ?_
    have hmb := minus_bit (k := k) hle
    rw [val_bit la, val_bit lb] at hmb
    generalize cy (val lb) (val la - val lb) false k = c at *
    refine Cw.seq (Cw.block (Cw.seq (Cw.region ?_)))
    have n1 : fwrap .i64 (0 - (c.toNat : Int)) = -(c.toNat : Int) := by cases c <;> rfl
    iterate 3 (refine Ow.popM rfl ?_; simp only [S0, Nat.reduceEqDiff, Nat.reduceAdd, reduceIte, reduceCtorEq, e6, n1])
    refine Ow.nilM ⟨nofun, ?_⟩
    obtain ⟨ad, cap, bk, ee, h1, h2, h3⟩ := (ha.ext hxt).at (bx_lt hlt)
    simp only [Value.slice.injEq] at ee
    obtain ⟨rfl, -, rfl⟩ := ee
    refine Cw.seq (Cw.mono (Q := fun cc E' H' => cc = .normal ∧ H' = H2 ∧ E'.get 0 = some (.slice (some ad) la.length ca) ∧ E'.get 1 = some vb ∧ E'.get 5 = some u ∧ E'.get 7 = some (.int .i64 (k : Int)) ∧ E'.get 8 = some (.int .i64 ((bx la k).toNat - (c.toNat : Int)))) ?_ ?_)
    · refine Cw.seq (Cw.region ?_)
      iterate 3 (refine Ow.popM rfl ?_; simp only [S0, Nat.reduceEqDiff, Nat.reduceAdd, reduceIte, reduceCtorEq, e0, e7, ix_ok hlt])
      (refine Ow.hopM rfl rfl ?_; simp only [S0, Nat.reduceEqDiff, Nat.reduceAdd, reduceIte, reduceCtorEq, h2, h3])
      refine Ow.nilM ⟨nofun, ?_⟩
      cases hba : bx la k with
      | true =>
        have n2 : fwrap .i64 (-(c.toNat : Int) + 1) = (true.toNat : Int) - (c.toNat : Int) := by cases c <;> rfl
        refine Cw.cond (t := true) (by simp only [S0, Nat.reduceEqDiff, Nat.reduceAdd, reduceIte, reduceCtorEq, hba]) ?_
        refine Cw.region ?_
        iterate 3 (refine Ow.popM rfl ?_; simp only [S0, Nat.reduceEqDiff, Nat.reduceAdd, reduceIte, reduceCtorEq, n2])
        refine Ow.nilM ⟨nofun, ?_⟩
        simp only [S0, Nat.reduceEqDiff, Nat.reduceAdd, reduceIte, reduceCtorEq, e0, e1, e5, e7, and_self]
      | false =>
        have n2 : -(c.toNat : Int) = (false.toNat : Int) - (c.toNat : Int) := by cases c <;> rfl
        refine Cw.cond (t := false) (by simp only [S0, Nat.reduceEqDiff, Nat.reduceAdd, reduceIte, reduceCtorEq, hba]) ?_
        refine Cw.skip ?_
        simp only [S0, Nat.reduceEqDiff, Nat.reduceAdd, reduceIte, reduceCtorEq, e0, e1, e5, e7, n2, and_self]
    rintro cc E3 H3 ⟨rfl, rfl, g0, g1, g5, g7, g8⟩
    refine Cw.seq (Cw.mono (Q := fun cc E' H' => cc = .normal ∧ AL.Ext H3 H' ∧ E'.get 0 = some (.slice (some ad) la.length ca) ∧ E'.get 1 = some vb ∧ E'.get 5 = some u ∧ E'.get 7 = some (.int .i64 (k : Int)) ∧ E'.get 8 = some (.int .i64 ((bx la k).toNat - (c.toNat : Int) - ((bx lb k).toNat : Int)))) ?_ ?_)
    · refine Cw.seq (Cw.region ?_)
      iterate 2 (refine Ow.popM rfl ?_; simp only [S0, Nat.reduceEqDiff, Nat.reduceAdd, reduceIte, reduceCtorEq, g1, g7])
      refine Ow.callP (k := 60) (vs := [vb, .int .i64 k]) rfl rfl (by simp only [S0, Nat.reduceEqDiff, Nat.reduceAdd, reduceIte, reduceCtorEq]) (At_any hx (hb.ext hxt).wl) ?_
      intro w4 hx4
      refine Ow.nilM ⟨nofun, ?_⟩
      cases hbb : bx lb k with
      | true =>
        have n3 : fwrap .i64 ((bx la k).toNat - (c.toNat : Int) - 1) = (bx la k).toNat - (c.toNat : Int) - (true.toNat : Int) := by cases c <;> cases bx la k <;> rfl
        refine Cw.cond (t := true) (by simp only [S0, Nat.reduceEqDiff, Nat.reduceAdd, reduceIte, reduceCtorEq]) ?_
        refine Cw.region ?_
        iterate 3 (refine Ow.popM rfl ?_; simp only [S0, Nat.reduceEqDiff, Nat.reduceAdd, reduceIte, reduceCtorEq, g8, n3])
        refine Ow.nilM ⟨nofun, trivial, hx4, ?_⟩
        simp only [S0, Nat.reduceEqDiff, Nat.reduceAdd, reduceIte, reduceCtorEq, g0, g1, g5, g7, and_self]
      | false =>
        have n3 : (bx la k).toNat - (c.toNat : Int) = (bx la k).toNat - (c.toNat : Int) - (false.toNat : Int) := by cases c <;> cases bx la k <;> rfl
        refine Cw.cond (t := false) (by simp only [S0, Nat.reduceEqDiff, Nat.reduceAdd, reduceIte, reduceCtorEq]) ?_
        refine Cw.skip ⟨rfl, hx4, ?_⟩
        rw [← n3]
        simp only [S0, Nat.reduceEqDiff, Nat.reduceAdd, reduceIte, reduceCtorEq, g0, g1, g5, g7, g8, and_self]
    rintro cc E4 H4 ⟨rfl, hx4, i0, i1, i5, i7, i8⟩
    refine Cw.seq (Cw.region ?_)
    (refine Ow.popM rfl ?_; simp only [S0, Nat.reduceEqDiff, Nat.reduceAdd, reduceIte, reduceCtorEq])
    refine Ow.nilM ⟨nofun, ?_⟩
    refine Cw.seq (Cw.mono (Q := fun cc E' H' => cc = .normal ∧ H' = H4 ∧ E'.get 0 = some (.slice (some ad) la.length ca) ∧ E'.get 1 = some vb ∧ E'.get 5 = some u ∧ E'.get 7 = some (.int .i64 (k : Int)) ∧ E'.get 6 = some (.int .i64 ((cy (val lb) (val la - val lb) false (k + 1)).toNat : Int)) ∧ E'.get 8 = some (.int .i64 (((val la - val lb).testBit k).toNat : Int))) ?_ ?_)
    · rw [hmb.1, hmb.2]
      refine Cw.seq (Cw.region ?_)
      by_cases hneg : (bx la k).toNat < (bx lb k).toNat + c.toNat
      · have d1 : decide (((bx la k).toNat - (c.toNat : Int) - ((bx lb k).toNat : Int)) < 0) = true := decide_eq_true (by omega)
        have n5 : fwrap .i64 ((bx la k).toNat - (c.toNat : Int) - ((bx lb k).toNat : Int) + 2) = (((bx la k != bx lb k) != c).toNat : Int) := by
          revert hneg
          cases bx la k <;> cases bx lb k <;> cases c <;> decide
        iterate 2 (refine Ow.popM rfl ?_; simp only [S0, Nat.reduceEqDiff, Nat.reduceAdd, reduceIte, reduceCtorEq, i8, d1])
        refine Ow.nilM ⟨nofun, ?_⟩
        refine Cw.cond (t := true) (by simp only [S0, Nat.reduceEqDiff, Nat.reduceAdd, reduceIte, reduceCtorEq]) ?_
        refine Cw.seq (Cw.region ?_)
        iterate 3 (refine Ow.popM rfl ?_; simp only [S0, Nat.reduceEqDiff, Nat.reduceAdd, reduceIte, reduceCtorEq, i8, n5])
        refine Ow.nilM ⟨nofun, ?_⟩
        refine Cw.region ?_
        (refine Ow.popM rfl ?_; simp only [S0, Nat.reduceEqDiff, Nat.reduceAdd, reduceIte, reduceCtorEq])
        refine Ow.nilM ⟨nofun, ?_⟩
        simp only [S0, Nat.reduceEqDiff, Nat.reduceAdd, reduceIte, reduceCtorEq, i0, i1, i5, i7, decide_eq_true hneg, Bool.toNat_true, true_and, and_true]
        rfl
      · have d1 : decide (((bx la k).toNat - (c.toNat : Int) - ((bx lb k).toNat : Int)) < 0) = false := decide_eq_false (by omega)
        have n5 : ((bx la k).toNat - (c.toNat : Int) - ((bx lb k).toNat : Int)) = (((bx la k != bx lb k) != c).toNat : Int) := by
          revert hneg
          cases bx la k <;> cases bx lb k <;> cases c <;> decide
        iterate 2 (refine Ow.popM rfl ?_; simp only [S0, Nat.reduceEqDiff, Nat.reduceAdd, reduceIte, reduceCtorEq, i8, d1])
        refine Ow.nilM ⟨nofun, ?_⟩
        refine Cw.cond (t := false) (by simp only [S0, Nat.reduceEqDiff, Nat.reduceAdd, reduceIte, reduceCtorEq]) ?_
        refine Cw.skip ?_
        simp only [S0, Nat.reduceEqDiff, Nat.reduceAdd, reduceIte, reduceCtorEq, i0, i1, i5, i7, i8, n5, decide_eq_false hneg, Bool.toNat_false, true_and, and_true]
        rfl
    rintro cc E5 H5 ⟨rfl, rfl, j0, j1, j5, j7, j6, j8⟩
    refine Cw.region ?_
    generalize hD : (val la - val lb).testBit k = D at *
    have q : (((D.toNat : Nat) : Int) == 1) = D := by cases D <;> rfl
    iterate 3 (refine Ow.popM rfl ?_; simp only [S0, Nat.reduceEqDiff, Nat.reduceAdd, reduceIte, reduceCtorEq, j5, j8, q])
    (refine Ow.hopM rfl rfl ?_; simp only [S0, Nat.reduceEqDiff, Nat.reduceAdd, reduceIte, reduceCtorEq, S2, show Nat.ble 1 1 = true from rfl])
    have hx6 := hx4.new (⟨[.bool D], 0⟩ : Blk)
    refine Ow.appB (H0 := H) rfl (by simp only [S0, Nat.reduceEqDiff, Nat.reduceAdd, reduceIte, reduceCtorEq]) (by simp only [S0, Nat.reduceEqDiff, Nat.reduceAdd, reduceIte, reduceCtorEq]) (hu.ext hx6) (lit1 _) (hxt.trans hx6) (by simp [ofN_length]; omega) ?_
    intro r H7 b hx7 hr
    (refine Ow.popM rfl ?_; simp only [S0, Nat.reduceEqDiff, Nat.reduceAdd, reduceIte, reduceCtorEq])
    refine Ow.nilM ⟨nofun, ?_⟩
    show Cw _ _ _ _ _
    refine Cw.region ?_
    iterate 3 (refine Ow.popM rfl ?_; simp only [S0, Nat.reduceEqDiff, Nat.reduceAdd, reduceIte, reduceCtorEq, j7, fw_succ (show k < 2 ^ 62 by omega)])
    refine Ow.nilM ⟨nofun, hlt, ?_, hx7, r, ?_, ?_⟩
    · simp only [S0, Nat.reduceEqDiff, Nat.reduceAdd, reduceIte, reduceCtorEq, j0, j1, j6, and_self]
    · simp only [S0, Nat.reduceEqDiff, Nat.reduceAdd, reduceIte, reduceCtorEq]
    · rw [ofN_succ, hD]; exact hr
  · obtain rfl : k = la.length := by omega
    iterate 4 (refine Ow.popM rfl ?_; simp only [S0, Nat.reduceEqDiff, Nat.reduceAdd, reduceIte, reduceCtorEq, e0, e7, lt_false (Nat.lt_irrefl la.length)])
    refine Ow.nilM ⟨nofun, ?_⟩
    refine Cw.cond (t := false) (by simp only [S0, Nat.reduceEqDiff, Nat.reduceAdd, reduceIte, reduceCtorEq]) ?_
    refine Cw.exit ?_
    show Cw _ _ _ _ _
    refine Cw.seq (Cw.region ?_)
    iterate 2 (refine Ow.popM rfl ?_; simp only [S0, Nat.reduceEqDiff, Nat.reduceAdd, reduceIte, reduceCtorEq, e5])
    refine Ow.nilM ⟨nofun, ?_⟩
    refine Cw.ret ?_
    simp only [Then, InBlock, Rnd, FnPost, resOf, tupled, S0, Nat.reduceEqDiff, Nat.reduceAdd, reduceIte, reduceCtorEq]
    exact ⟨hxt, hu⟩
end Go.Proofs.Yteeckncfllbokaa.X
