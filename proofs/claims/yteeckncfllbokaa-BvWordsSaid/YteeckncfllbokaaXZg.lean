/- Uint. -/
import Derived.Test.YteeckncfllbokaaXZf
set_option linter.unusedSimpArgs false
set_option linter.unusedVariables false
namespace Go.Proofs.Yteeckncfllbokaa.X
open Go Go.AL
variable {ext : Nat → Option (List Value → AH → Option (Value × AH))}
theorem wrap_u64 (x : Nat) : IntKind.wrap .u64 (x : Int) = ((x % 2 ^ 64 : Nat) : Int) := by
  have e : IntKind.wrap .u64 (x : Int) = (x : Int) % (2 : Int) ^ 64 := rfl
  rw [e]
  omega
theorem fwrap_u64 (x : Nat) : fwrap .u64 (x : Int) = ((x % 2 ^ 64 : Nat) : Int) := by rw [fwrap_eq, wrap_u64]
theorem shl_u64 {k : Nat} (h : k < 64) : aShift .shl .u64 1 (k : Int) = some (.int .u64 ((2 ^ k : Nat) : Int)) := by
  unfold aShift
  rw [if_neg (by omega)]
  simp only [Int.toNat_natCast, show Nat.min k (IntKind.bits .u64) = k from Nat.min_eq_left (by show k ≤ 64; omega), Int.one_mul]
  have e : ((2 : Int) ^ k) = ((2 ^ k : Nat) : Int) := by push_cast; rfl
  rw [e, wrap_u64, Nat.mod_eq_of_lt (Nat.pow_lt_pow_right (by decide) h)]
theorem or_bit {X k : Nat} (hX : X < 2 ^ k) : X ||| 2 ^ k = X + 2 ^ k := by
  have h := Nat.two_pow_add_eq_or_of_lt hX 1
  rw [Nat.mul_one] at h
  rw [Nat.or_comm, ← h, Nat.add_comm]
theorem or_u64 {X k : Nat} (hX : X < 2 ^ k) (hk : k < 64) : IntKind.wrap .u64 ((BitVec.ofInt (IntKind.bits .u64) (X : Int) ||| BitVec.ofInt (IntKind.bits .u64) ((2 ^ k : Nat) : Int)).toNat : Int) = ((X + 2 ^ k : Nat) : Int) := by
  have h64 : 2 ^ k < 2 ^ 64 := Nat.pow_lt_pow_right (by decide) hk
  have h2 : 2 ^ k + 2 ^ k ≤ 2 ^ 64 := by
    have : 2 ^ (k + 1) ≤ 2 ^ 64 := Nat.pow_le_pow_right (by decide) hk
    rw [Nat.pow_succ] at this
    omega
  have e : (BitVec.ofInt 64 (X : Int) ||| BitVec.ofInt 64 ((2 ^ k : Nat) : Int)).toNat = X + 2 ^ k := by
    rw [BitVec.toNat_or, BitVec.ofInt_natCast, BitVec.ofInt_natCast, BitVec.toNat_ofNat, BitVec.toNat_ofNat, Nat.mod_eq_of_lt (by omega), Nat.mod_eq_of_lt h64, or_bit hX]
  rw [show IntKind.bits .u64 = 64 from rfl, e, wrap_u64, Nat.mod_eq_of_lt (by omega)]
theorem mod_bit (X k : Nat) : X % 2 ^ (k + 1) = X % 2 ^ k + 2 ^ k * (X.testBit k).toNat := by
  rw [Nat.mod_pow_succ]
  congr 1
  rw [Nat.testBit_eq_decide_div_mod_eq]
  rcases Nat.mod_two_eq_zero_or_one (X / 2 ^ k) with h | h <;> rw [h] <;> simp
theorem bit_ge {X k : Nat} (h : X.testBit k = true) : 2 ^ k ≤ X := by
  rcases Nat.lt_or_ge X (2 ^ k) with h1 | h1
  · rw [Nat.testBit_lt_two_pow h1] at h; cases h
  · exact h1
theorem mod_64 {X k : Nat} (h : k < 64) : X % 2 ^ (k + 1) < 2 ^ 64 := Nat.lt_of_lt_of_le (Nat.mod_lt _ (Nat.two_pow_pos _)) (Nat.pow_le_pow_right (by decide) h)
theorem div_bit (X j : Nat) : X / 2 ^ j % 2 ^ 64 = ((X / 2 ^ (j + 1) % 2 ^ 64) * 2 + (X.testBit j).toNat) % 2 ^ 64 := by
  rw [div_step X j]
  omega
/-- What Uint answers. -/
def uintV (l : List Bool) : Value := if val l < 2 ^ 64 then .tuple ⟨[.int .u64 ((val l : Nat) : Int), .bool true]⟩ else .tuple ⟨[.int .u64 0, .bool false]⟩
/-- bv.Uint -/
theorem bUint_any (hx : Ext0 ext) {H : AH} {va : Value} {la : List Bool} (fa : IsB H va la) (hla : la.length < 2 ^ 34) :
    Run (Cx ext) 49 [va] H fun r H' => AL.Ext H H' ∧ r = uintV la := by
  refine Run.intro (fi := IR.fi49) (hx 49 (by decide)) (by kernel_rfl) ?_
  unfold IR.fi49
  simp only [envOf_cons, envOf_nil]
  refine Cw.seq ?_
  refine Cw.region ?_
  iterate 2 (refine Ow.popM rfl ?_; simp only [S0, Nat.reduceEqDiff, Nat.reduceAdd, reduceIte, reduceCtorEq, S1])
  refine Ow.nilM ⟨nofun, ?_⟩
  show Cw _ _ _ _ _
  refine Cw.seq ?_
  refine Cw.seq ?_
  refine Cw.region ?_
  (refine Ow.popM rfl ?_; simp only [S0, Nat.reduceEqDiff, Nat.reduceAdd, reduceIte, reduceCtorEq, S1])
  refine Ow.lenA rfl (by simp only [S0, Nat.reduceEqDiff, Nat.reduceAdd, reduceIte, reduceCtorEq, S1]) fa ?_
  (refine Ow.popM rfl ?_; simp only [S0, Nat.reduceEqDiff, Nat.reduceAdd, reduceIte, reduceCtorEq, S1])
  refine Ow.nilM ⟨nofun, ?_⟩
  show Cw _ _ _ _ _
  refine Cw.block ?_
  refine Cw.loopI (la.length) (fun k E Hq => (E.get 6 = some (va) ∧ E.get 7 = some (.int .i64 ((la.length : Nat) : Int)) ∧ E.get 8 = some (.int .i64 ((k : Nat) : Int)) ∧ E.get 2 = some (.int .u64 (((val la % 2 ^ k : Nat) : Int)))) ∧ AL.Ext H Hq ∧ val la % 2 ^ k < 2 ^ 64) ⟨⟨(by simp only [S0, Nat.reduceEqDiff, Nat.reduceAdd, reduceIte, reduceCtorEq, S1, and_self]), (by simp only [S0, Nat.reduceEqDiff, Nat.reduceAdd, reduceIte, reduceCtorEq, S1, and_self]), (by simp only [S0, Nat.reduceEqDiff, Nat.reduceAdd, reduceIte, reduceCtorEq, eq_self] <;> first | rfl | simp [Nat.mod_one]), (by simp only [S0, Nat.reduceEqDiff, Nat.reduceAdd, reduceIte, reduceCtorEq, eq_self] <;> first | rfl | simp [Nat.mod_one])⟩, (AL.Ext.refl _), (by rw [Nat.pow_zero, Nat.mod_one]; decide)⟩ ?_
  rintro k1 E1 H1 hk1 ⟨⟨g1_6, g1_7, g1_8, g1_2⟩, hx1, hsm⟩
  by_cases hlt1 : k1 < la.length
  · skip
    refine Cw.seq ?_
    refine Cw.region ?_
    (refine Ow.popM rfl ?_; simp only [S0, Nat.reduceEqDiff, Nat.reduceAdd, reduceIte, reduceCtorEq, S1, show decide ((((k1 : Nat) : Int) : Int) < (((la.length : Nat) : Int) : Int)) = decide (k1 < la.length) from lt_dec (k1) (la.length), show decide (k1 < la.length) = true from decide_eq_true (hlt1), g1_6, g1_7, g1_8, g1_2])
    refine Ow.nilM ⟨nofun, ?_⟩
    show Cw _ _ _ _ _
    refine Cw.seq ?_
    refine Cw.cond (t := true) (by simp only [S0, Nat.reduceEqDiff, Nat.reduceAdd, reduceIte, reduceCtorEq, S1, g1_6, g1_7, g1_8, g1_2]) ?_
    refine Cw.skip ?_
    show Cw _ _ _ _ _
    refine Cw.seq ?_
    refine Cw.block ?_
    refine Cw.seq ?_
    refine Cw.region ?_
    (refine Ow.popM rfl ?_; simp only [S0, Nat.reduceEqDiff, Nat.reduceAdd, reduceIte, reduceCtorEq, S1, g1_6, g1_7, g1_8, g1_2])
    have fa_2 := fa.ext hx1
    refine Ow.rdA (k := .i64) (b := bx la (k1)) (n := k1) rfl (fun p => rfl) (by simp only [S0, Nat.reduceEqDiff, Nat.reduceAdd, reduceIte, reduceCtorEq, S1, g1_6, g1_7, g1_8, g1_2]) (by simp only [S0, Nat.reduceEqDiff, Nat.reduceAdd, reduceIte, reduceCtorEq, S1, g1_6, g1_7, g1_8, g1_2]) fa_2 (bx_lt (by omega)) ?_
    intro p3
    iterate 2 (refine Ow.popM rfl ?_; simp only [S0, Nat.reduceEqDiff, Nat.reduceAdd, reduceIte, reduceCtorEq, S1, g1_6, g1_7, g1_8, g1_2])
    refine Ow.nilM ⟨nofun, ?_⟩
    show Cw _ _ _ _ _
    refine Cw.seq ?_
    refine Cw.seq ?_
    refine Cw.region ?_
    iterate 2 (refine Ow.popM rfl ?_; simp only [S0, Nat.reduceEqDiff, Nat.reduceAdd, reduceIte, reduceCtorEq, S1, g1_6, g1_7, g1_8, g1_2])
    cases hd4 : (bx la (k1))
    · skip
      refine Ow.pass (by simp only [S0, Nat.reduceEqDiff, Nat.reduceAdd, reduceIte, reduceCtorEq, S1, g1_6, g1_7, g1_8, g1_2, hd4]) ?_
      refine Ow.pass (by simp only [S0, Nat.reduceEqDiff, Nat.reduceAdd, reduceIte, reduceCtorEq, S1, g1_6, g1_7, g1_8, g1_2, hd4]) ?_
      (refine Ow.popM rfl ?_; simp only [S0, Nat.reduceEqDiff, Nat.reduceAdd, reduceIte, reduceCtorEq, S1, g1_6, g1_7, g1_8, g1_2, hd4])
      refine Ow.nilM ⟨nofun, ?_⟩
      show Cw _ _ _ _ _
      refine Cw.cond (t := false) (by simp only [S0, Nat.reduceEqDiff, Nat.reduceAdd, reduceIte, reduceCtorEq, S1, g1_6, g1_7, g1_8, g1_2, hd4]) ?_
      refine Cw.skip ?_
      show Cw _ _ _ _ _
      refine Cw.seq ?_
      refine Cw.region ?_
      (refine Ow.popM rfl ?_; simp only [S0, Nat.reduceEqDiff, Nat.reduceAdd, reduceIte, reduceCtorEq, S1, g1_6, g1_7, g1_8, g1_2, hd4])
      refine Ow.nilM ⟨nofun, ?_⟩
      show Cw _ _ _ _ _
      refine Cw.cond (t := false) (by simp only [S0, Nat.reduceEqDiff, Nat.reduceAdd, reduceIte, reduceCtorEq, S1, g1_6, g1_7, g1_8, g1_2, hd4]) ?_
      refine Cw.skip ?_
      show Cw _ _ _ _ _
      refine Cw.region ?_
      iterate 2 (refine Ow.popM rfl ?_; simp only [S0, Nat.reduceEqDiff, Nat.reduceAdd, reduceIte, reduceCtorEq, S1, show fwrap .i64 ((((k1 : Nat) : Int) : Int) + (1 : Int)) = ((k1 + 1 : Nat) : Int) from add_nat (a := k1) (b := 1) (by omega), g1_6, g1_7, g1_8, g1_2, hd4])
      refine Ow.nilM ⟨nofun, ?_⟩
      have e5 : val la % 2 ^ (k1 + 1) = val la % 2 ^ k1 := by rw [mod_bit, val_bit, hd4]; simp
      exact ⟨hlt1, ⟨(by simp only [S0, Nat.reduceEqDiff, Nat.reduceAdd, reduceIte, reduceCtorEq, S1, and_self, g1_6, g1_7, g1_8, g1_2, hd4, e5]), (by simp only [S0, Nat.reduceEqDiff, Nat.reduceAdd, reduceIte, reduceCtorEq, S1, and_self, g1_6, g1_7, g1_8, g1_2, hd4, e5]), (by simp only [S0, Nat.reduceEqDiff, Nat.reduceAdd, reduceIte, reduceCtorEq, S1, and_self, g1_6, g1_7, g1_8, g1_2, hd4, e5] <;> rfl), (by simp only [S0, Nat.reduceEqDiff, Nat.reduceAdd, reduceIte, reduceCtorEq, S1, and_self, g1_6, g1_7, g1_8, g1_2, hd4, e5] <;> rfl)⟩, hx1, (by rw [e5]; exact hsm)⟩
    · skip
      iterate 3 (refine Ow.popM rfl ?_; simp only [S0, Nat.reduceEqDiff, Nat.reduceAdd, reduceIte, reduceCtorEq, S1, show decide ((((k1 : Nat) : Int) : Int) ≥ (64 : Int)) = decide (64 ≤ k1) from ge_dec (k1) (64), g1_6, g1_7, g1_8, g1_2, hd4])
      refine Ow.nilM ⟨nofun, ?_⟩
      show Cw _ _ _ _ _
      by_cases hq6 : 64 ≤ k1
      · have hd6 : decide (64 ≤ k1) = true := decide_eq_true hq6
        refine Cw.cond (t := true) (by simp only [S0, Nat.reduceEqDiff, Nat.reduceAdd, reduceIte, reduceCtorEq, S1, g1_6, g1_7, g1_8, g1_2, hd4, hd6]) ?_
        refine Cw.seq ?_
        refine Cw.region ?_
        iterate 2 (refine Ow.popM rfl ?_; simp only [S0, Nat.reduceEqDiff, Nat.reduceAdd, reduceIte, reduceCtorEq, S1, g1_6, g1_7, g1_8, g1_2, hd4, hd6])
        refine Ow.nilM ⟨nofun, ?_⟩
        show Cw _ _ _ _ _
        refine Cw.ret ?_
        simp only [Then, InBlock, Rnd, FnPost, resOf, tupled, S0, Nat.reduceEqDiff, Nat.reduceAdd, reduceIte, reduceCtorEq, g1_6, g1_7, g1_8, g1_2, hd4, hd6]
        refine ⟨hx1, ?_⟩
        unfold uintV
        have hge := bit_ge (X := val la) (k := k1) (by rw [val_bit]; exact hd4)
        have h64 : 2 ^ 64 ≤ 2 ^ k1 := Nat.pow_le_pow_right (by decide) (by omega)
        rw [if_neg (by omega)]
      · have hd6 : decide (64 ≤ k1) = false := decide_eq_false hq6
        refine Cw.cond (t := false) (by simp only [S0, Nat.reduceEqDiff, Nat.reduceAdd, reduceIte, reduceCtorEq, S1, g1_6, g1_7, g1_8, g1_2, hd4, hd6]) ?_
        refine Cw.skip ?_
        show Cw _ _ _ _ _
        refine Cw.seq ?_
        refine Cw.region ?_
        (refine Ow.popM rfl ?_; simp only [S0, Nat.reduceEqDiff, Nat.reduceAdd, reduceIte, reduceCtorEq, S1, g1_6, g1_7, g1_8, g1_2, hd4, hd6])
        refine Ow.nilM ⟨nofun, ?_⟩
        show Cw _ _ _ _ _
        refine Cw.cond (t := true) (by simp only [S0, Nat.reduceEqDiff, Nat.reduceAdd, reduceIte, reduceCtorEq, S1, g1_6, g1_7, g1_8, g1_2, hd4, hd6]) ?_
        refine Cw.region ?_
        iterate 3 (refine Ow.popM rfl ?_; simp only [S0, Nat.reduceEqDiff, Nat.reduceAdd, reduceIte, reduceCtorEq, S1, shl_u64 (show k1 < 64 by omega), g1_6, g1_7, g1_8, g1_2, hd4, hd6])
        (refine Ow.popM rfl ?_; simp only [S0, Nat.reduceEqDiff, Nat.reduceAdd, reduceIte, reduceCtorEq, S1, or_u64 (Nat.mod_lt (val la) (Nat.two_pow_pos k1)) (show k1 < 64 by omega), g1_6, g1_7, g1_8, g1_2, hd4, hd6])
        (refine Ow.popM rfl ?_; simp only [S0, Nat.reduceEqDiff, Nat.reduceAdd, reduceIte, reduceCtorEq, S1, g1_6, g1_7, g1_8, g1_2, hd4, hd6])
        refine Ow.nilM ⟨nofun, ?_⟩
        show Cw _ _ _ _ _
        refine Cw.region ?_
        iterate 2 (refine Ow.popM rfl ?_; simp only [S0, Nat.reduceEqDiff, Nat.reduceAdd, reduceIte, reduceCtorEq, S1, show fwrap .i64 ((((k1 : Nat) : Int) : Int) + (1 : Int)) = ((k1 + 1 : Nat) : Int) from add_nat (a := k1) (b := 1) (by omega), g1_6, g1_7, g1_8, g1_2, hd4, hd6])
        refine Ow.nilM ⟨nofun, ?_⟩
        have e7 : val la % 2 ^ (k1 + 1) = val la % 2 ^ k1 + 2 ^ k1 := by rw [mod_bit, val_bit, hd4]; simp
        exact ⟨hlt1, ⟨(by simp only [S0, Nat.reduceEqDiff, Nat.reduceAdd, reduceIte, reduceCtorEq, S1, and_self, g1_6, g1_7, g1_8, g1_2, hd4, hd6, e7]), (by simp only [S0, Nat.reduceEqDiff, Nat.reduceAdd, reduceIte, reduceCtorEq, S1, and_self, g1_6, g1_7, g1_8, g1_2, hd4, hd6, e7]), (by simp only [S0, Nat.reduceEqDiff, Nat.reduceAdd, reduceIte, reduceCtorEq, S1, and_self, g1_6, g1_7, g1_8, g1_2, hd4, hd6, e7] <;> rfl), (by simp only [S0, Nat.reduceEqDiff, Nat.reduceAdd, reduceIte, reduceCtorEq, S1, and_self, g1_6, g1_7, g1_8, g1_2, hd4, hd6, e7] <;> rfl)⟩, hx1, (mod_64 (by omega))⟩
  · obtain rfl : la.length = k1 := by omega
    rw [Nat.mod_eq_of_lt (val_lt la)] at hsm g1_2
    refine Cw.seq ?_
    refine Cw.region ?_
    (refine Ow.popM rfl ?_; simp only [S0, Nat.reduceEqDiff, Nat.reduceAdd, reduceIte, reduceCtorEq, S1, show decide ((((la.length : Nat) : Int) : Int) < (((la.length : Nat) : Int) : Int)) = decide (la.length < la.length) from lt_dec (la.length) (la.length), show decide (la.length < la.length) = false from decide_eq_false (Nat.lt_irrefl _), g1_6, g1_7, g1_8, g1_2])
    refine Ow.nilM ⟨nofun, ?_⟩
    show Cw _ _ _ _ _
    refine Cw.seq ?_
    refine Cw.cond (t := false) (by simp only [S0, Nat.reduceEqDiff, Nat.reduceAdd, reduceIte, reduceCtorEq, S1, g1_6, g1_7, g1_8, g1_2]) ?_
    refine Cw.exit ?_
    show Cw _ _ _ _ _
    refine Cw.seq ?_
    refine Cw.region ?_
    iterate 3 (refine Ow.popM rfl ?_; simp only [S0, Nat.reduceEqDiff, Nat.reduceAdd, reduceIte, reduceCtorEq, S1, g1_6, g1_7, g1_8, g1_2])
    refine Ow.nilM ⟨nofun, ?_⟩
    show Cw _ _ _ _ _
    refine Cw.ret ?_
    simp only [Then, InBlock, Rnd, FnPost, resOf, tupled, S0, Nat.reduceEqDiff, Nat.reduceAdd, reduceIte, reduceCtorEq, g1_6, g1_7, g1_8, g1_2]
    refine ⟨hx1, ?_⟩
    unfold uintV
    rw [if_pos hsm]
/-- Uint of the reference -/
theorem rUint_any (hx : Ext0 ext) {H : AH} {va : Value} {la : List Bool} (fa : IsB H va la) (hla : la.length < 2 ^ 34) :
    Run (Cx ext) 50 [va] H fun r H' => AL.Ext H H' ∧ r = uintV la := by
  refine Run.intro (fi := IR.fi50) (hx 50 (by decide)) (by kernel_rfl) ?_
  unfold IR.fi50
  simp only [envOf_cons, envOf_nil]
  refine Cw.seq ?_
  refine Cw.region ?_
  iterate 2 (refine Ow.popM rfl ?_; simp only [S0, Nat.reduceEqDiff, Nat.reduceAdd, reduceIte, reduceCtorEq, S1])
  refine Ow.nilM ⟨nofun, ?_⟩
  show Cw _ _ _ _ _
  refine Cw.seq ?_
  refine Cw.region ?_
  (refine Ow.popM rfl ?_; simp only [S0, Nat.reduceEqDiff, Nat.reduceAdd, reduceIte, reduceCtorEq, S1])
  refine Ow.callA (k := 53) (fs := []) (cs := []) (vs := [va]) rfl rfl (by simp only [S0, Nat.reduceEqDiff, Nat.reduceAdd, reduceIte, reduceCtorEq, S1]) (trim_L hx fa.wl (by first | omega | (simp only [SL]; omega))) (fun _ _ _ h => h) ?_
  rintro v1 H1 hx1 ⟨t1, f1, tv1, tl1, th1⟩
  (refine Ow.popM rfl ?_; simp only [S0, Nat.reduceEqDiff, Nat.reduceAdd, reduceIte, reduceCtorEq, S1])
  refine Ow.nilM ⟨nofun, ?_⟩
  show Cw _ _ _ _ _
  refine Cw.seq ?_
  refine Cw.region ?_
  (refine Ow.popM rfl ?_; simp only [S0, Nat.reduceEqDiff, Nat.reduceAdd, reduceIte, reduceCtorEq, S1])
  refine Ow.nilM ⟨nofun, ?_⟩
  show Cw _ _ _ _ _
  refine Cw.seq ?_
  refine Cw.seq ?_
  refine Cw.region ?_
  (refine Ow.popM rfl ?_; simp only [S0, Nat.reduceEqDiff, Nat.reduceAdd, reduceIte, reduceCtorEq, S1])
  refine Ow.lenA rfl (by simp only [S0, Nat.reduceEqDiff, Nat.reduceAdd, reduceIte, reduceCtorEq, S1]) f1.isB ?_
  iterate 2 (refine Ow.popM rfl ?_; simp only [S0, Nat.reduceEqDiff, Nat.reduceAdd, reduceIte, reduceCtorEq, S1, show fwrap .i64 (((t1.length : Nat) : Int) - (1 : Int)) = (t1.length : Int) - 1 - ((0 : Nat) : Int) from (fw_int (by omega) (by omega)).trans (by omega)])
  refine Ow.nilM ⟨nofun, ?_⟩
  show Cw _ _ _ _ _
  refine Cw.block ?_
  refine Cw.loopI (t1.length) (fun k E Hq => (E.get 0 = some (v1) ∧ E.get 5 = some (.int .i64 ((t1.length : Int) - 1 - ((k : Nat) : Int))) ∧ E.get 4 = some (.int .u64 (((val t1 / 2 ^ (t1.length - k) % 2 ^ 64 : Nat) : Int)))) ∧ AL.Ext H1 Hq) ⟨⟨(by simp only [S0, Nat.reduceEqDiff, Nat.reduceAdd, reduceIte, reduceCtorEq, S1, and_self]), (by simp only [S0, Nat.reduceEqDiff, Nat.reduceAdd, reduceIte, reduceCtorEq, S1, and_self]), (by simp only [S0, Nat.reduceEqDiff, Nat.reduceAdd, reduceIte, reduceCtorEq, eq_self]; rw [Nat.sub_zero, Nat.div_eq_of_lt (val_lt t1)]; rfl)⟩, (AL.Ext.refl _)⟩ ?_
  rintro k2 E2 H2 hk2 ⟨⟨g2_0, g2_5, g2_4⟩, hx2⟩
  by_cases hlt2 : k2 < t1.length
  · skip
    rw [show (t1.length : Int) - 1 - ((k2 : Nat) : Int) = ((t1.length - (k2 + 1) : Nat) : Int) by omega] at g2_5
    refine Cw.seq ?_
    refine Cw.seq ?_
    refine Cw.region ?_
    iterate 2 (refine Ow.popM rfl ?_; simp only [S0, Nat.reduceEqDiff, Nat.reduceAdd, reduceIte, reduceCtorEq, S1, show decide (((t1.length - (k2 + 1) : Nat) : Int) ≥ 0) = true from decide_eq_true (by omega), g2_0, g2_5, g2_4])
    refine Ow.nilM ⟨nofun, ?_⟩
    show Cw _ _ _ _ _
    refine Cw.cond (t := true) (by simp only [S0, Nat.reduceEqDiff, Nat.reduceAdd, reduceIte, reduceCtorEq, S1, g2_0, g2_5, g2_4]) ?_
    refine Cw.skip ?_
    show Cw _ _ _ _ _
    refine Cw.seq ?_
    refine Cw.block ?_
    refine Cw.seq ?_
    refine Cw.region ?_
    iterate 3 (refine Ow.popM rfl ?_; simp only [S0, Nat.reduceEqDiff, Nat.reduceAdd, reduceIte, reduceCtorEq, S1, show fwrap .u64 (((val t1 / 2 ^ (t1.length - k2) % 2 ^ 64 : Nat) : Int) * (2 : Int)) = (((val t1 / 2 ^ (t1.length - k2) % 2 ^ 64) * 2 % 2 ^ 64 : Nat) : Int) from fwrap_u64 _, g2_0, g2_5, g2_4])
    refine Ow.nilM ⟨nofun, ?_⟩
    show Cw _ _ _ _ _
    refine Cw.seq ?_
    refine Cw.region ?_
    iterate 2 (refine Ow.popM rfl ?_; simp only [S0, Nat.reduceEqDiff, Nat.reduceAdd, reduceIte, reduceCtorEq, S1, g2_0, g2_5, g2_4])
    have f1_3 := f1.ext hx2
    refine Ow.rdA (k := .i64) (b := bx t1 (t1.length - (k2 + 1))) (n := t1.length - (k2 + 1)) rfl (fun p => rfl) (by simp only [S0, Nat.reduceEqDiff, Nat.reduceAdd, reduceIte, reduceCtorEq, S1, g2_0, g2_5, g2_4]) (by simp only [S0, Nat.reduceEqDiff, Nat.reduceAdd, reduceIte, reduceCtorEq, S1, g2_0, g2_5, g2_4]) f1_3.isB (bx_lt (by omega)) ?_
    intro p4
    refine Ow.nilM ⟨nofun, ?_⟩
    show Cw _ _ _ _ _
    cases hd5 : (bx t1 (t1.length - (k2 + 1)))
    · skip
      refine Cw.cond (t := false) (by simp only [S0, Nat.reduceEqDiff, Nat.reduceAdd, reduceIte, reduceCtorEq, S1, g2_0, g2_5, g2_4, hd5]) ?_
      refine Cw.skip ?_
      show Cw _ _ _ _ _
      refine Cw.region ?_
      iterate 3 (refine Ow.popM rfl ?_; simp only [S0, Nat.reduceEqDiff, Nat.reduceAdd, reduceIte, reduceCtorEq, S1, show fwrap .i64 (((t1.length - (k2 + 1) : Nat) : Int) - (1 : Int)) = (t1.length : Int) - 1 - ((k2 + 1 : Nat) : Int) from (fw_int (by omega) (by omega)).trans (by omega), g2_0, g2_5, g2_4, hd5])
      refine Ow.nilM ⟨nofun, ?_⟩
      have e6 := div_bit (val t1) (t1.length - (k2 + 1))
      rw [val_bit, hd5, show t1.length - (k2 + 1) + 1 = t1.length - k2 by omega] at e6
      simp only [Bool.toNat_true, Bool.toNat_false, Nat.add_zero] at e6
      exact ⟨hlt2, ⟨(by simp only [S0, Nat.reduceEqDiff, Nat.reduceAdd, reduceIte, reduceCtorEq, S1, and_self, g2_0, g2_5, g2_4, hd5, e6]), (by simp only [S0, Nat.reduceEqDiff, Nat.reduceAdd, reduceIte, reduceCtorEq, S1, and_self, g2_0, g2_5, g2_4, hd5, e6] <;> rfl), (by simp only [S0, Nat.reduceEqDiff, Nat.reduceAdd, reduceIte, reduceCtorEq, S1, and_self, g2_0, g2_5, g2_4, hd5, e6] <;> rfl)⟩, hx2⟩
    · skip
      refine Cw.cond (t := true) (by simp only [S0, Nat.reduceEqDiff, Nat.reduceAdd, reduceIte, reduceCtorEq, S1, g2_0, g2_5, g2_4, hd5]) ?_
      refine Cw.region ?_
      iterate 3 (refine Ow.popM rfl ?_; simp only [S0, Nat.reduceEqDiff, Nat.reduceAdd, reduceIte, reduceCtorEq, S1, show fwrap .u64 ((((val t1 / 2 ^ (t1.length - k2) % 2 ^ 64) * 2 % 2 ^ 64 : Nat) : Int) + (1 : Int)) = ((((val t1 / 2 ^ (t1.length - k2) % 2 ^ 64) * 2 % 2 ^ 64 + 1) % 2 ^ 64 : Nat) : Int) from fwrap_u64 _, g2_0, g2_5, g2_4, hd5])
      refine Ow.nilM ⟨nofun, ?_⟩
      show Cw _ _ _ _ _
      refine Cw.region ?_
      iterate 3 (refine Ow.popM rfl ?_; simp only [S0, Nat.reduceEqDiff, Nat.reduceAdd, reduceIte, reduceCtorEq, S1, show fwrap .i64 (((t1.length - (k2 + 1) : Nat) : Int) - (1 : Int)) = (t1.length : Int) - 1 - ((k2 + 1 : Nat) : Int) from (fw_int (by omega) (by omega)).trans (by omega), g2_0, g2_5, g2_4, hd5])
      refine Ow.nilM ⟨nofun, ?_⟩
      have e7 := div_bit (val t1) (t1.length - (k2 + 1))
      rw [val_bit, hd5, show t1.length - (k2 + 1) + 1 = t1.length - k2 by omega] at e7
      simp only [Bool.toNat_true, Bool.toNat_false, Nat.add_zero] at e7
      rw [← Nat.mod_add_mod] at e7
      exact ⟨hlt2, ⟨(by simp only [S0, Nat.reduceEqDiff, Nat.reduceAdd, reduceIte, reduceCtorEq, S1, and_self, g2_0, g2_5, g2_4, hd5, e7]), (by simp only [S0, Nat.reduceEqDiff, Nat.reduceAdd, reduceIte, reduceCtorEq, S1, and_self, g2_0, g2_5, g2_4, hd5, e7] <;> rfl), (by simp only [S0, Nat.reduceEqDiff, Nat.reduceAdd, reduceIte, reduceCtorEq, S1, and_self, g2_0, g2_5, g2_4, hd5, e7] <;> rfl)⟩, hx2⟩
  · obtain rfl : t1.length = k2 := by omega
    rw [Nat.sub_self, Nat.pow_zero, Nat.div_one] at g2_4
    refine Cw.seq ?_
    refine Cw.seq ?_
    refine Cw.region ?_
    iterate 2 (refine Ow.popM rfl ?_; simp only [S0, Nat.reduceEqDiff, Nat.reduceAdd, reduceIte, reduceCtorEq, S1, show decide ((t1.length : Int) - 1 - ((t1.length : Nat) : Int) ≥ 0) = false from decide_eq_false (by omega), g2_0, g2_5, g2_4])
    refine Ow.nilM ⟨nofun, ?_⟩
    show Cw _ _ _ _ _
    refine Cw.cond (t := false) (by simp only [S0, Nat.reduceEqDiff, Nat.reduceAdd, reduceIte, reduceCtorEq, S1, g2_0, g2_5, g2_4]) ?_
    refine Cw.exit ?_
    show Cw _ _ _ _ _
    refine Cw.seq ?_
    refine Cw.seq ?_
    refine Cw.region ?_
    (refine Ow.popM rfl ?_; simp only [S0, Nat.reduceEqDiff, Nat.reduceAdd, reduceIte, reduceCtorEq, S1, g2_0, g2_5, g2_4])
    have f1_8 := f1.ext hx2
    refine Ow.lenA rfl (by simp only [S0, Nat.reduceEqDiff, Nat.reduceAdd, reduceIte, reduceCtorEq, S1, g2_0, g2_5, g2_4]) f1_8.isB ?_
    (refine Ow.popM rfl ?_; simp only [S0, Nat.reduceEqDiff, Nat.reduceAdd, reduceIte, reduceCtorEq, S1, show decide ((((t1.length : Nat) : Int) : Int) > (64 : Int)) = decide (64 < t1.length) from gt_dec (t1.length) (64), g2_0, g2_5, g2_4])
    refine Ow.nilM ⟨nofun, ?_⟩
    show Cw _ _ _ _ _
    by_cases hq9 : 64 < t1.length
    · have hd9 : decide (64 < t1.length) = true := decide_eq_true hq9
      refine Cw.cond (t := true) (by simp only [S0, Nat.reduceEqDiff, Nat.reduceAdd, reduceIte, reduceCtorEq, S1, g2_0, g2_5, g2_4, hd9]) ?_
      refine Cw.seq ?_
      refine Cw.region ?_
      iterate 2 (refine Ow.popM rfl ?_; simp only [S0, Nat.reduceEqDiff, Nat.reduceAdd, reduceIte, reduceCtorEq, S1, g2_0, g2_5, g2_4, hd9])
      refine Ow.nilM ⟨nofun, ?_⟩
      show Cw _ _ _ _ _
      refine Cw.ret ?_
      simp only [Then, InBlock, Rnd, FnPost, resOf, tupled, S0, Nat.reduceEqDiff, Nat.reduceAdd, reduceIte, reduceCtorEq, g2_0, g2_5, g2_4, hd9]
      refine ⟨(hx1.trans hx2), ?_⟩
      unfold uintV
      rw [← tv1]
      have hv := val_lt t1
      have h64 : 2 ^ 64 ≤ 2 ^ (t1.length - 1) := Nat.pow_le_pow_right (by decide) (by omega)
      have hge : 2 ^ (t1.length - 1) ≤ val t1 := th1.resolve_left (by omega)
      rw [if_neg (by omega)]
    · have hd9 : decide (64 < t1.length) = false := decide_eq_false hq9
      refine Cw.cond (t := false) (by simp only [S0, Nat.reduceEqDiff, Nat.reduceAdd, reduceIte, reduceCtorEq, S1, g2_0, g2_5, g2_4, hd9]) ?_
      refine Cw.skip ?_
      show Cw _ _ _ _ _
      refine Cw.seq ?_
      refine Cw.region ?_
      iterate 3 (refine Ow.popM rfl ?_; simp only [S0, Nat.reduceEqDiff, Nat.reduceAdd, reduceIte, reduceCtorEq, S1, g2_0, g2_5, g2_4, hd9])
      refine Ow.nilM ⟨nofun, ?_⟩
      show Cw _ _ _ _ _
      refine Cw.ret ?_
      simp only [Then, InBlock, Rnd, FnPost, resOf, tupled, S0, Nat.reduceEqDiff, Nat.reduceAdd, reduceIte, reduceCtorEq, g2_0, g2_5, g2_4, hd9]
      refine ⟨(hx1.trans hx2), ?_⟩
      unfold uintV
      rw [← tv1]
      have hv := val_lt t1
      have h64 : 2 ^ t1.length ≤ 2 ^ 64 := Nat.pow_le_pow_right (by decide) (by omega)
      rw [if_pos (by omega), Nat.mod_eq_of_lt (by omega)]
end Go.Proofs.Yteeckncfllbokaa.X
