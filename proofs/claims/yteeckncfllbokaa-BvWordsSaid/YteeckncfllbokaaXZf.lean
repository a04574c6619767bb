/- The vectors of integers. -/
import Derived.Test.YteeckncfllbokaaXZe
set_option linter.unusedSimpArgs false
set_option linter.unusedVariables false
namespace Go.Proofs.Yteeckncfllbokaa.X
open Go Go.AL
variable {ext : Nat → Option (List Value → AH → Option (Value × AH))}
/-- The first k places of l. -/
def preB (l : List Bool) (k : Nat) : List Bool := (List.range l.length).map fun i => decide (i < k) && bx l i
theorem preB_length (l : List Bool) (k : Nat) : (preB l k).length = l.length := by simp [preB]
theorem preB_zero (l : List Bool) : preB l 0 = List.replicate l.length false := by
  apply List.ext_getElem?
  intro i
  by_cases h : i < l.length <;> simp [preB, h, List.getElem?_replicate]
theorem preB_full (l : List Bool) : preB l l.length = l := by
  refine ext_bits (preB_length _ _) (fun i hi => ?_)
  rw [preB_length] at hi
  simp [preB, bx, List.getD_eq_getElem?_getD, hi]
theorem preB_set {l : List Bool} {k : Nat} (h : k < l.length) : (preB l k).set k (bx l k) = preB l (k + 1) := by
  apply List.ext_getElem?
  intro i
  rw [List.getElem?_set]
  by_cases hik : k = i
  · subst hik
    simp [preB, h]
  · rw [if_neg hik]
    by_cases hi : i < l.length
    · simp only [preB, List.getElem?_map, List.getElem?_range hi, Option.map_some]
      have : (i < k + 1) ↔ (i < k) := by omega
      simp [this]
    · simp [preB, hi]
theorem bx_ofI {n i : Nat} {x : Int} (h : i < n) : bx (ofI n x) i = (x.fdiv (2 ^ i) % 2 == 1) := by
  simp [bx, ofI, List.getD_eq_getElem?_getD, h]
theorem fdiv_big {x : Int} (h1 : -9223372036854775808 ≤ x) (h2 : x ≤ 9223372036854775807) {i : Nat} (hi : 63 ≤ i) : x.fdiv (2 ^ i) = x.fdiv (2 ^ 63) := by
  have hp : (2 : Int) ^ 63 ≤ 2 ^ i := by
    have := Nat.pow_le_pow_right (n := 2) (by decide) hi
    exact_mod_cast this
  have h63 : (2 : Int) ^ 63 = 9223372036854775808 := by decide
  rw [Int.fdiv_eq_ediv_of_nonneg _ (by omega), Int.fdiv_eq_ediv_of_nonneg _ (by omega)]
  generalize (2 : Int) ^ i = p at *
  by_cases hx : 0 ≤ x
  · rw [Int.ediv_eq_zero_of_lt hx (by omega), Int.ediv_eq_zero_of_lt hx (by omega)]
  · have e : ∀ q : Int, 9223372036854775808 ≤ q → x / q = -1 := by
      intro q hq
      have h3 := Int.emod_add_mul_ediv x q
      have h4 := Int.emod_nonneg x (b := q) (by omega)
      have h5 := Int.emod_lt_of_pos x (b := q) (by omega)
      have h6 : x / q < 0 := Int.ediv_neg_of_neg_of_pos (by omega) (by omega)
      have h7 : -1 ≤ x / q := by
        rw [Int.le_ediv_iff_mul_le (by omega)]
        omega
      omega
    rw [e _ (by omega), e _ (by omega)]
theorem min63 (k : Nat) : (if (63 : Int) < (k : Int) then (63 : Int) else (k : Int)) = ((min k 63 : Nat) : Int) := by split <;> omega
theorem shr_i64 {x : Int} {k : Nat} (h : k ≤ 63) : aShift .shr .i64 x (k : Int) = some (.int .i64 (x.fdiv (2 ^ k))) := by
  unfold aShift
  rw [if_neg (by omega)]
  simp only [Int.toNat_natCast, show Nat.min k (IntKind.bits .i64) = k from Nat.min_eq_left (by show k ≤ 64; omega)]
theorem fdiv_min {x : Int} (h1 : -9223372036854775808 ≤ x) (h2 : x ≤ 9223372036854775807) {n k : Nat} (h : k < n) : (x.fdiv (2 ^ min k 63) % 2 == 1) = bx (ofI n x) k := by
  rw [bx_ofI h]
  by_cases hk : k ≤ 63
  · rw [Nat.min_eq_left hk]
  · rw [Nat.min_eq_right (by omega), fdiv_big h1 h2 (show 63 ≤ k by omega)]
theorem wd_lt {w : Int} : decide (w < 0) = decide (w < 0) := rfl
theorem preB_full' {l : List Bool} {n : Nat} (h : l.length = n) : preB l n = l := by subst h; exact preB_full l
/-- bv.FromInt -/
theorem bFromInt_any (hx : Ext0 ext) {H : AH} {n w : Int} (h1 : -9223372036854775808 ≤ n) (h2 : n ≤ 9223372036854775807) :
    Run (Cx ext) 45 [.int .i64 (n), .int .i64 (w)] H fun r H' => AL.Ext H H' ∧ if w < 0 ∨ w > 128 then r = .tuple ⟨[.slice none 0 0, .int .i64 1]⟩ else ∃ v, r = .tuple ⟨[v, .int .i64 0]⟩ ∧ IsR H H' v (ofI w.toNat n) := by
  refine Run.intro (fi := IR.fi45) (hx 45 (by decide)) (by kernel_rfl) ?_
  unfold IR.fi45
  simp only [envOf_cons, envOf_nil]
  refine Cw.seq ?_
  refine Cw.region ?_
  iterate 2 (refine Ow.popM rfl ?_; simp only [S0, Nat.reduceEqDiff, Nat.reduceAdd, reduceIte, reduceCtorEq, S1])
  refine Ow.nilM ⟨nofun, ?_⟩
  show Cw _ _ _ _ _
  refine Cw.seq ?_
  refine Cw.seq ?_
  refine Cw.region ?_
  iterate 3 (refine Ow.popM rfl ?_; simp only [S0, Nat.reduceEqDiff, Nat.reduceAdd, reduceIte, reduceCtorEq, S1])
  by_cases hq1 : w < 0
  · have hd1 : decide (w < 0) = true := decide_eq_true hq1
    refine Ow.pass (by simp only [S0, Nat.reduceEqDiff, Nat.reduceAdd, reduceIte, reduceCtorEq, S1, hd1]) ?_
    refine Ow.pass (by simp only [S0, Nat.reduceEqDiff, Nat.reduceAdd, reduceIte, reduceCtorEq, S1, hd1]) ?_
    (refine Ow.popM rfl ?_; simp only [S0, Nat.reduceEqDiff, Nat.reduceAdd, reduceIte, reduceCtorEq, S1, hd1])
    refine Ow.nilM ⟨nofun, ?_⟩
    show Cw _ _ _ _ _
    refine Cw.cond (t := true) (by simp only [S0, Nat.reduceEqDiff, Nat.reduceAdd, reduceIte, reduceCtorEq, S1, hd1]) ?_
    refine Cw.seq ?_
    refine Cw.region ?_
    iterate 2 (refine Ow.popM rfl ?_; simp only [S0, Nat.reduceEqDiff, Nat.reduceAdd, reduceIte, reduceCtorEq, S1, hd1])
    refine Ow.nilM ⟨nofun, ?_⟩
    show Cw _ _ _ _ _
    refine Cw.ret ?_
    simp only [Then, InBlock, Rnd, FnPost, resOf, tupled, S0, Nat.reduceEqDiff, Nat.reduceAdd, reduceIte, reduceCtorEq, hd1]
    exact ⟨(AL.Ext.refl _), by rw [if_pos (by omega)]; trivial⟩
  · have hd1 : decide (w < 0) = false := decide_eq_false hq1
    iterate 3 (refine Ow.popM rfl ?_; simp only [S0, Nat.reduceEqDiff, Nat.reduceAdd, reduceIte, reduceCtorEq, S1, hd1])
    refine Ow.nilM ⟨nofun, ?_⟩
    show Cw _ _ _ _ _
    by_cases hq2 : w > 128
    · have hd2 : decide (w > 128) = true := decide_eq_true hq2
      refine Cw.cond (t := true) (by simp only [S0, Nat.reduceEqDiff, Nat.reduceAdd, reduceIte, reduceCtorEq, S1, hd1, hd2]) ?_
      refine Cw.seq ?_
      refine Cw.region ?_
      iterate 2 (refine Ow.popM rfl ?_; simp only [S0, Nat.reduceEqDiff, Nat.reduceAdd, reduceIte, reduceCtorEq, S1, hd1, hd2])
      refine Ow.nilM ⟨nofun, ?_⟩
      show Cw _ _ _ _ _
      refine Cw.ret ?_
      simp only [Then, InBlock, Rnd, FnPost, resOf, tupled, S0, Nat.reduceEqDiff, Nat.reduceAdd, reduceIte, reduceCtorEq, hd1, hd2]
      exact ⟨(AL.Ext.refl _), by rw [if_pos (by omega)]; trivial⟩
    · have hd2 : decide (w > 128) = false := decide_eq_false hq2
      refine Cw.cond (t := false) (by simp only [S0, Nat.reduceEqDiff, Nat.reduceAdd, reduceIte, reduceCtorEq, S1, hd1, hd2]) ?_
      refine Cw.skip ?_
      show Cw _ _ _ _ _
      refine Cw.seq ?_
      refine Cw.region ?_
      (refine Ow.popM rfl ?_; simp only [S0, Nat.reduceEqDiff, Nat.reduceAdd, reduceIte, reduceCtorEq, S1, hd1, hd2])
      have hw : w = ((w.toNat : Nat) : Int) := by omega
      refine Ow.makeA (k := .i64) (n := w.toNat) rfl (by simp only [S0, Nat.reduceEqDiff, Nat.reduceAdd, reduceIte, reduceCtorEq, S1, hd1, hd2]; rw [← hw]) (by omega) ?_
      intro H3 id3 hx3 hi3 m3
      (refine Ow.popM rfl ?_; simp only [S0, Nat.reduceEqDiff, Nat.reduceAdd, reduceIte, reduceCtorEq, S1, hd1, hd2])
      refine Ow.nilM ⟨nofun, ?_⟩
      show Cw _ _ _ _ _
      refine Cw.seq ?_
      refine Cw.seq ?_
      refine Cw.region ?_
      (refine Ow.popM rfl ?_; simp only [S0, Nat.reduceEqDiff, Nat.reduceAdd, reduceIte, reduceCtorEq, S1, hd1, hd2])
      refine Ow.lenA rfl (by simp only [S0, Nat.reduceEqDiff, Nat.reduceAdd, reduceIte, reduceCtorEq, S1, hd1, hd2]) m3.isB ?_
      rw [List.length_replicate]
      (refine Ow.popM rfl ?_; simp only [S0, Nat.reduceEqDiff, Nat.reduceAdd, reduceIte, reduceCtorEq, S1, hd1, hd2])
      refine Ow.nilM ⟨nofun, ?_⟩
      show Cw _ _ _ _ _
      refine Cw.block ?_
      refine Cw.loopI (w.toNat) (fun k E Hq => (E.get 0 = some (.int .i64 (n)) ∧ E.get 1 = some (.int .i64 (w)) ∧ E.get 6 = some (.slice (some ⟨id3, 0, none⟩) (w.toNat) (w.toNat)) ∧ E.get 17 = some (.int .i64 ((w.toNat : Nat) : Int)) ∧ E.get 18 = some (.int .i64 ((k : Nat) : Int))) ∧ AL.Ext H Hq ∧ IsM Hq (.slice (some ⟨id3, 0, none⟩) (w.toNat) (w.toNat)) (preB (ofI w.toNat n) k) id3) ⟨⟨(by simp only [S0, Nat.reduceEqDiff, Nat.reduceAdd, reduceIte, reduceCtorEq, S1, and_self, hd1, hd2]), (by simp only [S0, Nat.reduceEqDiff, Nat.reduceAdd, reduceIte, reduceCtorEq, S1, and_self, hd1, hd2]), (by simp only [S0, Nat.reduceEqDiff, Nat.reduceAdd, reduceIte, reduceCtorEq, S1, and_self, hd1, hd2]), (by simp only [S0, Nat.reduceEqDiff, Nat.reduceAdd, reduceIte, reduceCtorEq, S1, and_self, hd1, hd2]), (by simp only [S0, Nat.reduceEqDiff, Nat.reduceAdd, reduceIte, reduceCtorEq, eq_self, hd1, hd2] <;> first | rfl | simp [Nat.mod_one])⟩, hx3, (by rw [preB_zero, ofI_length]; exact m3)⟩ ?_
      rintro k4 E4 H4 hk4 ⟨⟨g4_0, g4_1, g4_6, g4_17, g4_18⟩, hx4, m3⟩
      by_cases hlt4 : k4 < w.toNat
      · skip
        refine Cw.seq ?_
        refine Cw.region ?_
        (refine Ow.popM rfl ?_; simp only [S0, Nat.reduceEqDiff, Nat.reduceAdd, reduceIte, reduceCtorEq, S1, show decide ((((k4 : Nat) : Int) : Int) < (((w.toNat : Nat) : Int) : Int)) = decide (k4 < w.toNat) from lt_dec (k4) (w.toNat), show decide (k4 < w.toNat) = true from decide_eq_true (hlt4), g4_0, g4_1, g4_6, g4_17, g4_18, hd1, hd2])
        refine Ow.nilM ⟨nofun, ?_⟩
        show Cw _ _ _ _ _
        refine Cw.seq ?_
        refine Cw.cond (t := true) (by simp only [S0, Nat.reduceEqDiff, Nat.reduceAdd, reduceIte, reduceCtorEq, S1, g4_0, g4_1, g4_6, g4_17, g4_18, hd1, hd2]) ?_
        refine Cw.skip ?_
        show Cw _ _ _ _ _
        refine Cw.seq ?_
        refine Cw.block ?_
        refine Cw.seq ?_
        refine Cw.region ?_
        iterate 2 (refine Ow.popM rfl ?_; simp only [S0, Nat.reduceEqDiff, Nat.reduceAdd, reduceIte, reduceCtorEq, S1, g4_0, g4_1, g4_6, g4_17, g4_18, hd1, hd2])
        refine Ow.nilM ⟨nofun, ?_⟩
        show Cw _ _ _ _ _
        refine Cw.region ?_
        iterate 5 (refine Ow.popM rfl ?_; simp only [S0, Nat.reduceEqDiff, Nat.reduceAdd, reduceIte, reduceCtorEq, S1, AL.foldV, amin2, min63, g4_0, g4_1, g4_6, g4_17, g4_18, hd1, hd2])
        (refine Ow.popM rfl ?_; simp only [S0, Nat.reduceEqDiff, Nat.reduceAdd, reduceIte, reduceCtorEq, S1, shr_i64 (x := n) (show min k4 63 ≤ 63 by omega), g4_0, g4_1, g4_6, g4_17, g4_18, hd1, hd2])
        (refine Ow.popM rfl ?_; simp only [S0, Nat.reduceEqDiff, Nat.reduceAdd, reduceIte, reduceCtorEq, S1, and1, g4_0, g4_1, g4_6, g4_17, g4_18, hd1, hd2])
        (refine Ow.popM rfl ?_; simp only [S0, Nat.reduceEqDiff, Nat.reduceAdd, reduceIte, reduceCtorEq, S1, fdiv_min h1 h2 (show k4 < w.toNat by omega), g4_0, g4_1, g4_6, g4_17, g4_18, hd1, hd2])
        (refine Ow.popM rfl ?_; simp only [S0, Nat.reduceEqDiff, Nat.reduceAdd, reduceIte, reduceCtorEq, S1, ix_ok (show k4 < (w.toNat) by omega), g4_0, g4_1, g4_6, g4_17, g4_18, hd1, hd2])
        refine Ow.storeA (H0 := H) (j := k4) (bb := bx (ofI w.toNat n) k4) rfl (by simp only [S0, Nat.reduceEqDiff, Nat.reduceAdd, reduceIte, reduceCtorEq, S1, g4_0, g4_1, g4_6, g4_17, g4_18, hd1, hd2]) (by simp only [S0, Nat.reduceEqDiff, Nat.reduceAdd, reduceIte, reduceCtorEq, S1, g4_0, g4_1, g4_6, g4_17, g4_18, hd1, hd2]) m3 (by rw [preB_length, ofI_length]; omega) hx4 hi3 ?_
        intro H5 b5 hx5 hn5 hk5 m3_5
        rw [preB_set (show k4 < (ofI w.toNat n).length by rw [ofI_length]; omega)] at m3_5
        refine Ow.nilM ⟨nofun, ?_⟩
        show Cw _ _ _ _ _
        refine Cw.region ?_
        iterate 2 (refine Ow.popM rfl ?_; simp only [S0, Nat.reduceEqDiff, Nat.reduceAdd, reduceIte, reduceCtorEq, S1, show fwrap .i64 ((((k4 : Nat) : Int) : Int) + (1 : Int)) = ((k4 + 1 : Nat) : Int) from add_nat (a := k4) (b := 1) (by omega), g4_0, g4_1, g4_6, g4_17, g4_18, hd1, hd2])
        refine Ow.nilM ⟨nofun, ?_⟩
        exact ⟨hlt4, ⟨(by simp only [S0, Nat.reduceEqDiff, Nat.reduceAdd, reduceIte, reduceCtorEq, S1, and_self, g4_0, g4_1, g4_6, g4_17, g4_18, hd1, hd2]), (by simp only [S0, Nat.reduceEqDiff, Nat.reduceAdd, reduceIte, reduceCtorEq, S1, and_self, g4_0, g4_1, g4_6, g4_17, g4_18, hd1, hd2]), (by simp only [S0, Nat.reduceEqDiff, Nat.reduceAdd, reduceIte, reduceCtorEq, S1, and_self, g4_0, g4_1, g4_6, g4_17, g4_18, hd1, hd2]), (by simp only [S0, Nat.reduceEqDiff, Nat.reduceAdd, reduceIte, reduceCtorEq, S1, and_self, g4_0, g4_1, g4_6, g4_17, g4_18, hd1, hd2]), (by simp only [S0, Nat.reduceEqDiff, Nat.reduceAdd, reduceIte, reduceCtorEq, S1, and_self, g4_0, g4_1, g4_6, g4_17, g4_18, hd1, hd2] <;> rfl)⟩, hx5, m3_5⟩
      · obtain rfl : w.toNat = k4 := by omega
        have hfin := m3
        rw [preB_full' (ofI_length _ _)] at hfin
        refine Cw.seq ?_
        refine Cw.region ?_
        (refine Ow.popM rfl ?_; simp only [S0, Nat.reduceEqDiff, Nat.reduceAdd, reduceIte, reduceCtorEq, S1, show decide ((((w.toNat : Nat) : Int) : Int) < (((w.toNat : Nat) : Int) : Int)) = decide (w.toNat < w.toNat) from lt_dec (w.toNat) (w.toNat), show decide (w.toNat < w.toNat) = false from decide_eq_false (Nat.lt_irrefl _), g4_0, g4_1, g4_6, g4_17, g4_18, hd1, hd2])
        refine Ow.nilM ⟨nofun, ?_⟩
        show Cw _ _ _ _ _
        refine Cw.seq ?_
        refine Cw.cond (t := false) (by simp only [S0, Nat.reduceEqDiff, Nat.reduceAdd, reduceIte, reduceCtorEq, S1, g4_0, g4_1, g4_6, g4_17, g4_18, hd1, hd2]) ?_
        refine Cw.exit ?_
        show Cw _ _ _ _ _
        refine Cw.seq ?_
        refine Cw.region ?_
        iterate 3 (refine Ow.popM rfl ?_; simp only [S0, Nat.reduceEqDiff, Nat.reduceAdd, reduceIte, reduceCtorEq, S1, g4_0, g4_1, g4_6, g4_17, g4_18, hd1, hd2])
        refine Ow.nilM ⟨nofun, ?_⟩
        show Cw _ _ _ _ _
        refine Cw.ret ?_
        simp only [Then, InBlock, Rnd, FnPost, resOf, tupled, S0, Nat.reduceEqDiff, Nat.reduceAdd, reduceIte, reduceCtorEq, g4_0, g4_1, g4_6, g4_17, g4_18, hd1, hd2]
        exact ⟨hx4, by rw [if_neg (by omega)]; exact ⟨_, rfl, hfin.isR hi3⟩⟩
/-- FromInt of the reference, of any width -/
theorem rFromInt_any (hx : Ext0 ext) {H : AH} {n w : Int} :
    Run (Cx ext) 44 [.int .i64 n, .int .i64 w] H fun r H' => AL.Ext H H' ∧ if w < 0 ∨ w > 128 then r = .tuple ⟨[.slice none 0 0, .int .i64 1]⟩ else ∃ v, r = .tuple ⟨[v, .int .i64 0]⟩ ∧ IsB H' v (ofI w.toNat n) := by
  by_cases hw : w < 0 ∨ w > 128
  · simp only [if_pos hw]
    refine Run.intro (fi := IR.fi44) (hx 44 (by decide)) (by kernel_rfl) ?_
    unfold IR.fi44
    simp only [envOf_cons, envOf_nil]
    refine Cw.seq (Cw.region ?_)
    iterate 2 (refine Ow.popM rfl ?_; simp only [S0, Nat.reduceEqDiff, Nat.reduceAdd, reduceIte, reduceCtorEq])
    refine Ow.nilM ⟨nofun, ?_⟩
    refine Cw.seq (Cw.seq (Cw.region ?_))
    have fin : ∀ E, E.get 13 = some (.bool true) → Cw (Cx ext) (match IR.fi44.code with | .seq _ (.seq (.seq _ c) _) => c | _ => .skip) E H fun c E' H' => c = .ret ∧ H' = H ∧ E'.get 4 = some (.slice none 0 0) ∧ E'.get 5 = some (.int .i64 1) := by
      intro E h
      unfold IR.fi44
      refine Cw.cond (t := true) (by simp only [S0, Nat.reduceEqDiff, Nat.reduceAdd, reduceIte, reduceCtorEq, h]) ?_
      refine Cw.seq (Cw.region ?_)
      iterate 2 (refine Ow.popM rfl ?_; simp only [S0, Nat.reduceEqDiff, Nat.reduceAdd, reduceIte, reduceCtorEq])
      refine Ow.nilM ⟨nofun, ?_⟩
      refine Cw.ret ⟨rfl, rfl, ?_, ?_⟩ <;> simp only [S0, Nat.reduceEqDiff, Nat.reduceAdd, reduceIte, reduceCtorEq]
    have done : ∀ (c : Ctl) (E' : Env) (H' : AH) (b : IC), (c = .ret ∧ H' = H ∧ E'.get 4 = some (.slice none 0 0) ∧ E'.get 5 = some (.int .i64 1)) → Then (Cx ext) b (FnPost [.tmp 4, .tmp 5] fun r H' => AL.Ext H H' ∧ r = .tuple ⟨[.slice none 0 0, .int .i64 1]⟩) c E' H' := by
      rintro c E' H' b ⟨rfl, rfl, h4, h5⟩
      simp only [Then, FnPost, resOf, tupled, S0, Nat.reduceEqDiff, Nat.reduceAdd, reduceIte, reduceCtorEq, h4, h5]
      exact ⟨AL.Ext.refl _, trivial⟩
    by_cases h0 : w < 0
    · have c1 : decide (w < 0) = true := decide_eq_true h0
      iterate 3 (refine Ow.popM rfl ?_; simp only [S0, Nat.reduceEqDiff, Nat.reduceAdd, reduceIte, reduceCtorEq, c1])
      iterate 2 refine Ow.pass (by simp only [S0, Nat.reduceEqDiff, Nat.reduceAdd, reduceIte, reduceCtorEq]) ?_
      (refine Ow.popM rfl ?_; simp only [S0, Nat.reduceEqDiff, Nat.reduceAdd, reduceIte, reduceCtorEq])
      refine Ow.nilM ⟨nofun, ?_⟩
      exact (fin _ (by simp only [S0, Nat.reduceEqDiff, Nat.reduceAdd, reduceIte, reduceCtorEq])).mono fun c E' H' h => done c E' H' _ h
    · have c1 : decide (w < 0) = false := decide_eq_false h0
      have c2 : decide (w > 128) = true := decide_eq_true (by omega)
      iterate 6 (refine Ow.popM rfl ?_; simp only [S0, Nat.reduceEqDiff, Nat.reduceAdd, reduceIte, reduceCtorEq, c1, c2])
      refine Ow.nilM ⟨nofun, ?_⟩
      exact (fin _ (by simp only [S0, Nat.reduceEqDiff, Nat.reduceAdd, reduceIte, reduceCtorEq])).mono fun c E' H' h => done c E' H' _ h
  · simp only [if_neg hw]
    have e : w = ((w.toNat : Nat) : Int) := by omega
    have h := FromInt_any hx (H := H) (x := n) (n := w.toNat) (by omega)
    rw [← e] at h
    exact h.mono fun r H' hr => ⟨hr.1, by obtain ⟨v, h1, h2⟩ := hr.2; exact ⟨v, h1, h2.isR.isB⟩⟩
end Go.Proofs.Yteeckncfllbokaa.X
