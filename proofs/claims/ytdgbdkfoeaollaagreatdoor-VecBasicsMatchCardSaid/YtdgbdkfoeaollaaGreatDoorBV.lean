/- Contracts of the two-state vectors' functions (written for another seat, turned to this one by program). -/
import Derived.Test.YtdgbdkfoeaollaaGreatDoorIR
import Derived.Test.YtdgbdkfoeaollaaGreatDoorALe
set_option linter.unusedSimpArgs false
set_option linter.unusedVariables false
namespace Go.Proofs.YtdgbdkfoeaollaaGreatDoor.X
section
open Go Go.AL
def bx (l : List Bool) (i : Nat) : Bool := l.getD i false
theorem bx_lt {l : List Bool} {n : Nat} (h : n < l.length) : l[n]? = some (bx l n) := by simp [bx, List.getD_eq_getElem?_getD, h]
theorem bx_ge {l : List Bool} {n : Nat} (h : ¬ n < l.length) : bx l n = false := by simp [bx, List.getD_eq_getElem?_getD, List.getElem?_eq_none (Nat.le_of_not_lt h)]
variable {ext : Nat → Option (List Value → AH → Option (Value × AH))}
abbrev Cx (ext : Nat → Option (List Value → AH → Option (Value × AH))) : Ctx := ⟨IR.ft, ext⟩
/-- Only awake is told from without. -/
def Ext0 (ext : Nat → Option (List Value → AH → Option (Value × AH))) : Prop := ∀ f, (f ≠ 24 ∧ f ≠ 11) → ext f = none
end
section
open Go Go.AL
/-- The number that a vector stands for. -/
def val : List Bool → Nat
  | [] => 0
  | b :: r => b.toNat + 2 * val r
/-- The lowest n bits of a number. -/
def ofN (n x : Nat) : List Bool := (List.range n).map fun i => x.testBit i
theorem ofN_length (n x : Nat) : (ofN n x).length = n := by simp [ofN]
theorem ofN_get {n x i : Nat} (h : i < n) : (ofN n x)[i]? = some (x.testBit i) := by simp [ofN, h]
theorem val_bit : ∀ (l : List Bool) (i : Nat), (val l).testBit i = bx l i
  | [], i => by simp [val, bx]
  | b :: r, 0 => by
    unfold val bx
    simp [Nat.testBit_zero]
    cases b <;> simp <;> omega
  | b :: r, i + 1 => by
    have h := val_bit r i
    unfold val
    have e : (b.toNat + 2 * val r) / 2 = val r := by cases b <;> simp <;> omega
    rw [Nat.testBit_succ, e, h]
    simp [bx]
theorem val_lt : ∀ (l : List Bool), val l < 2 ^ l.length
  | [] => by simp [val]
  | b :: r => by
    have h := val_lt r
    unfold val
    simp only [List.length_cons, Nat.pow_succ]
    cases b <;> simp <;> omega
theorem ext_bits {l m : List Bool} (hl : l.length = m.length) (h : ∀ i, i < l.length → bx l i = bx m i) : l = m := by
  apply List.ext_getElem?
  intro i
  by_cases hi : i < l.length
  · rw [bx_lt hi, bx_lt (by omega), h i hi]
  · rw [List.getElem?_eq_none (by omega), List.getElem?_eq_none (by omega)]
theorem bx_ofN {n x i : Nat} : bx (ofN n x) i = (decide (i < n) && x.testBit i) := by
  by_cases h : i < n
  · simp [bx, List.getD_eq_getElem?_getD, ofN_get h, h]
  · simp [bx, List.getD_eq_getElem?_getD, ofN, h]
theorem val_ofN (n x : Nat) : val (ofN n x) = x % 2 ^ n := by
  apply Nat.eq_of_testBit_eq
  intro i
  rw [val_bit, bx_ofN, Nat.testBit_mod_two_pow]
/-- The carry into place k of X + Y + c. -/
def cy (X Y : Nat) (c : Bool) (k : Nat) : Bool := decide (2 ^ k ≤ X % 2 ^ k + Y % 2 ^ k + c.toNat)
theorem cy_zero (X Y : Nat) (c : Bool) : cy X Y c 0 = c := by cases c <;> simp [cy, Nat.mod_one]
theorem full_add (X Y : Nat) (c : Bool) (k : Nat) : (X + Y + c.toNat).testBit k = ((X.testBit k != Y.testBit k) != cy X Y c k) ∧
    cy X Y c (k + 1) = (X.testBit k && Y.testBit k || (cy X Y c k && (X.testBit k || Y.testBit k))) := by
  have hx : X % 2 ^ (k + 1) = X % 2 ^ k + 2 ^ k * (X.testBit k).toNat := by
    rw [Nat.mod_pow_succ]
    congr 1
    rw [Nat.testBit_eq_decide_div_mod_eq]
    rcases Nat.mod_two_eq_zero_or_one (X / 2 ^ k) with h | h <;> rw [h] <;> simp
  have hy : Y % 2 ^ (k + 1) = Y % 2 ^ k + 2 ^ k * (Y.testBit k).toNat := by
    rw [Nat.mod_pow_succ]
    congr 1
    rw [Nat.testBit_eq_decide_div_mod_eq]
    rcases Nat.mod_two_eq_zero_or_one (Y / 2 ^ k) with h | h <;> rw [h] <;> simp
  have lx := Nat.mod_lt X (Nat.two_pow_pos k)
  have ly := Nat.mod_lt Y (Nat.two_pow_pos k)
  have hs : (X + Y + c.toNat).testBit k = ((X % 2 ^ (k + 1) + Y % 2 ^ (k + 1) + c.toNat).testBit k) := by
    have h1 := Nat.testBit_mod_two_pow (X + Y + c.toNat) (k + 1) k
    have h2 := Nat.testBit_mod_two_pow (X % 2 ^ (k + 1) + Y % 2 ^ (k + 1) + c.toNat) (k + 1) k
    simp only [Nat.lt_succ_self, decide_true, Bool.true_and] at h1 h2
    rw [← h1, ← h2]
    congr 1
    simp [Nat.add_mod]
  rw [hs, hx, hy]
  unfold cy
  rw [hx, hy, Nat.pow_succ]
  generalize hxm : X % 2 ^ k = x at *
  generalize hym : Y % 2 ^ k = y at *
  generalize hP : 2 ^ k = P at *
  have hdiv : ∀ z q, z < P → (z + P * q).testBit k = decide (q % 2 = 1) := by
    intro z q hz
    rw [Nat.testBit_eq_decide_div_mod_eq, hP]
    have : (z + P * q) / P = q := by
      rw [Nat.add_mul_div_left _ _ (by omega), Nat.div_eq_of_lt hz, Nat.zero_add]
    rw [this]
  have hc : c.toNat ≤ 1 := by cases c <;> simp
  by_cases hcar : P ≤ x + y + c.toNat
  · have e : ∀ m : Nat, x + P * (X.testBit k).toNat + (y + P * (Y.testBit k).toNat) + c.toNat = (x + y + c.toNat - P) + P * (1 + (X.testBit k).toNat + (Y.testBit k).toNat) := by
      intro m
      rw [Nat.mul_add, Nat.mul_add, Nat.mul_one]
      omega
    rw [e 0, hdiv _ _ (by omega)]
    cases X.testBit k <;> cases Y.testBit k <;> simp [hcar] <;> omega
  · have e : x + P * (X.testBit k).toNat + (y + P * (Y.testBit k).toNat) + c.toNat = (x + y + c.toNat) + P * ((X.testBit k).toNat + (Y.testBit k).toNat) := by
      rw [Nat.mul_add]
      omega
    rw [e, hdiv _ _ (by omega)]
    cases X.testBit k <;> cases Y.testBit k <;> simp [hcar] <;> omega
end
section
open Go Go.AL
variable {ext : Nat → Option (List Value → AH → Option (Value × AH))}
theorem ge0_true (n : Nat) : decide ((n : Int) ≥ 0) = true := by simp
/-- At, at an index that is not negative -/
theorem At_any (hx : Ext0 ext) {H : AH} {v : Value} {l : List Bool} {n : Nat} (hv : IsB H v l) : Run (Cx ext) 205 [v, .int .i64 n] H fun r H' => H' = H ∧ r = .bool (bx l n) := by
  refine Run.intro (fi := IR.fi205) (hx 205 (by decide)) (by kernel_rfl) ?_
  unfold IR.fi205
  simp only [envOf_cons, envOf_nil]
  refine Cw.seq (Cw.region ?_)
  (refine Ow.popM rfl ?_; simp only [S0, Nat.reduceEqDiff, Nat.reduceAdd, reduceIte, reduceCtorEq])
  refine Ow.nilM ⟨nofun, ?_⟩
  refine Cw.seq (Cw.region ?_)
  by_cases hlt : n < l.length
  · obtain ⟨ad, cap, bk, rfl, h1, h2, h3⟩ := hv.at (bx_lt hlt)
    iterate 12 (refine Ow.popM rfl ?_; simp only [S0, Nat.reduceEqDiff, Nat.reduceAdd, reduceIte, reduceCtorEq, ge0_true n, lt_true hlt, ix_ok hlt])
    (refine Ow.hopM rfl rfl ?_; simp only [S0, Nat.reduceEqDiff, Nat.reduceAdd, reduceIte, reduceCtorEq, h2, h3])
    iterate 2 (refine Ow.popM rfl ?_; simp only [S0, Nat.reduceEqDiff, Nat.reduceAdd, reduceIte, reduceCtorEq])
    refine Ow.nilM ⟨nofun, ?_⟩
    refine Cw.ret ?_
    simp only [Then, InBlock, Rnd, FnPost, resOf, tupled, S0, Nat.reduceEqDiff, Nat.reduceAdd, reduceIte, reduceCtorEq, and_self]
  · obtain ⟨a, cap, rfl⟩ := hv.shape
    iterate 12 (refine Ow.popM rfl ?_; simp only [S0, Nat.reduceEqDiff, Nat.reduceAdd, reduceIte, reduceCtorEq, ge0_true n, lt_false hlt])
    (refine Ow.hopM rfl rfl ?_; simp only [S0, Nat.reduceEqDiff, Nat.reduceAdd, reduceIte, reduceCtorEq])
    iterate 2 (refine Ow.popM rfl ?_; simp only [S0, Nat.reduceEqDiff, Nat.reduceAdd, reduceIte, reduceCtorEq])
    refine Ow.nilM ⟨nofun, ?_⟩
    refine Cw.ret ?_
    simp only [Then, InBlock, Rnd, FnPost, resOf, tupled, S0, Nat.reduceEqDiff, Nat.reduceAdd, reduceIte, reduceCtorEq, bx_ge hlt, and_self]
theorem ofN_succ (n x : Nat) : ofN (n + 1) x = ofN n x ++ [x.testBit n] := by simp [ofN, List.range_succ]
/-- A slice literal of one bool. -/
theorem lit1 {H : AH} (b : Bool) : IsB (H.new ⟨[.bool b], 0⟩) (.slice (some ⟨H.n, 0, none⟩) 1 1) [b] :=
  ⟨_, _, rfl, .inr (Nat.le_refl _), fun _ => ⟨_, ⟨[.bool b], 0⟩, rfl, Nat.lt_succ_self _, T.get_set_self _ _ _, fun i c hc => by
    cases i with
    | zero => simpa using hc
    | succ i => simp at hc⟩⟩
end
section
open Go Go.AL
variable {ext : Nat → Option (List Value → AH → Option (Value × AH))}
section
variable {C : Ctx} {E : Env} {H : AH} {d : Option Nat} {g : Option (Nat × Bool)} {os : List IOper} {Q : Env → AH → List (Bool × Bool) → Prop}
end
end
section
open Go Go.AL
variable {ext : Nat → Option (List Value → AH → Option (Value × AH))}
theorem wrap_small {x : Nat} (h : x < 2 ^ 63) : IntKind.wrap .i64 (x : Int) = (x : Int) := by
  have e : (x : Int) % 2 ^ 64 = x := Int.emod_eq_of_lt (by omega) (by omega)
  unfold IntKind.wrap
  simp only [show IntKind.bits .i64 = 64 from rfl, show IntKind.signed .i64 = true from rfl, e, Bool.true_and, decide_eq_true_eq, Nat.reduceSub]
  rw [if_neg (by omega)]
/-- The lowest n bits of an integer. -/
def ofI (n : Nat) (x : Int) : List Bool := (List.range n).map fun i => x.fdiv (2 ^ i) % 2 == 1
theorem ofI_length (n : Nat) (x : Int) : (ofI n x).length = n := by simp [ofI]
end
section
open Go Go.AL
variable {ext : Nat → Option (List Value → AH → Option (Value × AH))}
theorem gt0_true {n : Nat} (h : 0 < n) : decide ((n : Int) > 0) = true := by simp; omega
end
section
open Go Go.AL
variable {ext : Nat → Option (List Value → AH → Option (Value × AH))}
/-- A call that answers w and leaves the heap. -/
theorem Ow.callP {C : Ctx} {E : Env} {H : AH} {d : Option Nat} {g : Option (Nat × Bool)} {f : Operand} {args : List Operand} {os : List IOper} {k : Nat} {vs : List Value} {w : Value} {Q : Env → AH → List (Bool × Bool) → Prop} (hg : wanted E g = some true)
    (hf : ev E f = some (.func (.func k) ⟨[]⟩ ⟨[]⟩)) (ha : evs E args = some vs) (hc : Run C k vs { H with wl := H.n } fun v H1 => H1 = { H with wl := H.n } ∧ v = w)
    (h : ∀ wl, AL.Ext H { H with wl := wl } → Ow C os (put E d w) { H with wl := wl } fun E' H' fl => Q E' H' ((true, false) :: fl)) : Ow C (⟨d, g, .call f args⟩ :: os) E H Q := by
  refine Ow.callE (k := k) (fs := []) (cs := []) (vs := vs) (R := fun r H' => H' = { H with wl := H.n } ∧ r = w) hg hf ha ?_ ?_
  · rw [List.nil_append, List.append_nil]
    exact hc.mono fun r H' hr => ⟨by rw [hr.1]; exact AL.Ext.refl _, hr⟩
  · rintro v H1 wl hx ⟨rfl, rfl⟩
    exact h wl hx
theorem fw_nat {a : Nat} (h : a < 2 ^ 63) : fwrap .i64 (a : Int) = (a : Int) := by
  unfold fwrap
  have : inKind .i64 (a : Int) = true := by
    show Nat.blt a 9223372036854775808 = true
    exact Nat.ble_eq_true_of_le (by omega)
  rw [this]; rfl
/-! ## By their numbers -/
end
section
open Go Go.AL
variable {ext : Nat → Option (List Value → AH → Option (Value × AH))}
theorem fw_int {x : Int} (h1 : -(2 ^ 62) ≤ x) (h2 : x < 2 ^ 62) : fwrap .i64 x = x := by
  rw [fwrap_eq]
  unfold IntKind.wrap
  simp only [show IntKind.bits .i64 = 64 from rfl, show IntKind.signed .i64 = true from rfl, Bool.true_and, decide_eq_true_eq, Nat.reduceSub]
  split <;> omega
theorem val_append : ∀ (k : Nat) (l : List Bool), val (List.replicate k false ++ l) = 2 ^ k * val l
  | 0, l => by simp
  | k + 1, l => by
    rw [List.replicate_succ, List.cons_append]
    show (false).toNat + 2 * val (List.replicate k false ++ l) = _
    rw [val_append k l, Nat.pow_succ]
    simp only [Bool.toNat_false, Nat.zero_add]
    rw [← Nat.mul_assoc, Nat.mul_comm 2 (2 ^ k)]
theorem div_step (B j : Nat) : B / 2 ^ j = 2 * (B / 2 ^ (j + 1)) + (B.testBit j).toNat := by
  rw [Nat.testBit_eq_decide_div_mod_eq, Nat.pow_succ, ← Nat.div_div_eq_div_mul]
  have h := Nat.div_add_mod (B / 2 ^ j) 2
  rcases Nat.mod_two_eq_zero_or_one (B / 2 ^ j) with h1 | h1 <;> rw [h1] at h ⊢ <;> simp <;> omega
end
section
open Go Go.AL
variable {ext : Nat → Option (List Value → AH → Option (Value × AH))}
/-- bv.negative -/
theorem negative_any (hx : Ext0 ext) {H : AH} {v : Value} {l : List Bool} (hv : IsB H v l) (hl : l.length < 2 ^ 36) : Run (Cx ext) 174 [v] H fun r H' => H' = H ∧ r = .bool (bx l (l.length - 1)) := by
  refine Run.intro (fi := IR.fi174) (hx 174 (by decide)) (by kernel_rfl) ?_
  unfold IR.fi174
  simp only [envOf_cons, envOf_nil]
  refine Cw.seq (Cw.region ?_)
  (refine Ow.popM rfl ?_; simp only [S0, Nat.reduceEqDiff, Nat.reduceAdd, reduceIte, reduceCtorEq])
  refine Ow.nilM ⟨nofun, ?_⟩
  refine Cw.seq (Cw.region ?_)
  by_cases h0 : 0 < l.length
  · obtain ⟨ad, cap, bk, rfl, h1, h2, h3⟩ := hv.at (bx_lt (show l.length - 1 < l.length by omega))
    have e : (l.length : Int) - 1 = ((l.length - 1 : Nat) : Int) := by omega
    iterate 9 (refine Ow.popM rfl ?_; simp only [S0, Nat.reduceEqDiff, Nat.reduceAdd, reduceIte, reduceCtorEq, gt0_true h0, e, fw_nat (show l.length - 1 < 2 ^ 63 by omega), ix_ok (show l.length - 1 < l.length by omega)])
    (refine Ow.hopM rfl rfl ?_; simp only [S0, Nat.reduceEqDiff, Nat.reduceAdd, reduceIte, reduceCtorEq, h2, h3])
    iterate 2 (refine Ow.popM rfl ?_; simp only [S0, Nat.reduceEqDiff, Nat.reduceAdd, reduceIte, reduceCtorEq])
    refine Ow.nilM ⟨nofun, ?_⟩
    refine Cw.ret ?_
    simp only [Then, InBlock, Rnd, FnPost, resOf, tupled, S0, Nat.reduceEqDiff, Nat.reduceAdd, reduceIte, reduceCtorEq, and_self]
  · have hz : l = [] := List.length_eq_zero_iff.1 (by omega)
    subst hz
    obtain ⟨a, cap, rfl⟩ := hv.shape
    iterate 4 (refine Ow.popM rfl ?_; simp only [S0, Nat.reduceEqDiff, Nat.reduceAdd, reduceIte, reduceCtorEq, show decide ((([] : List Bool).length : Int) > 0) = false from rfl])
    iterate 6 refine Ow.pass (by simp only [S0, Nat.reduceEqDiff, Nat.reduceAdd, reduceIte, reduceCtorEq]) ?_
    iterate 2 (refine Ow.popM rfl ?_; simp only [S0, Nat.reduceEqDiff, Nat.reduceAdd, reduceIte, reduceCtorEq])
    refine Ow.nilM ⟨nofun, ?_⟩
    refine Cw.ret ?_
    simp only [Then, InBlock, Rnd, FnPost, resOf, tupled, S0, Nat.reduceEqDiff, Nat.reduceAdd, reduceIte, reduceCtorEq, true_and]
    rfl
/-- ref Negative -/
theorem Negative_any (hx : Ext0 ext) {H : AH} {v : Value} {l : List Bool} (hv : IsB H v l) (hl : l.length < 2 ^ 36) : Run (Cx ext) 178 [v] H fun r H' => H' = H ∧ r = .bool (bx l (l.length - 1)) := by
  refine Run.intro (fi := IR.fi178) (hx 178 (by decide)) (by kernel_rfl) ?_
  unfold IR.fi178
  simp only [envOf_cons, envOf_nil]
  refine Cw.seq (Cw.region ?_)
  (refine Ow.popM rfl ?_; simp only [S0, Nat.reduceEqDiff, Nat.reduceAdd, reduceIte, reduceCtorEq])
  refine Ow.nilM ⟨nofun, ?_⟩
  refine Cw.seq (Cw.region ?_)
  by_cases h0 : 0 < l.length
  · obtain ⟨ad, cap, bk, rfl, h1, h2, h3⟩ := hv.at (bx_lt (show l.length - 1 < l.length by omega))
    have e : (l.length : Int) - 1 = ((l.length - 1 : Nat) : Int) := by omega
    iterate 9 (refine Ow.popM rfl ?_; simp only [S0, Nat.reduceEqDiff, Nat.reduceAdd, reduceIte, reduceCtorEq, gt0_true h0, e, fw_nat (show l.length - 1 < 2 ^ 63 by omega), ix_ok (show l.length - 1 < l.length by omega)])
    (refine Ow.hopM rfl rfl ?_; simp only [S0, Nat.reduceEqDiff, Nat.reduceAdd, reduceIte, reduceCtorEq, h2, h3])
    iterate 2 (refine Ow.popM rfl ?_; simp only [S0, Nat.reduceEqDiff, Nat.reduceAdd, reduceIte, reduceCtorEq])
    refine Ow.nilM ⟨nofun, ?_⟩
    refine Cw.ret ?_
    simp only [Then, InBlock, Rnd, FnPost, resOf, tupled, S0, Nat.reduceEqDiff, Nat.reduceAdd, reduceIte, reduceCtorEq, and_self]
  · have hz : l = [] := List.length_eq_zero_iff.1 (by omega)
    subst hz
    obtain ⟨a, cap, rfl⟩ := hv.shape
    iterate 4 (refine Ow.popM rfl ?_; simp only [S0, Nat.reduceEqDiff, Nat.reduceAdd, reduceIte, reduceCtorEq, show decide ((([] : List Bool).length : Int) > 0) = false from rfl])
    iterate 6 refine Ow.pass (by simp only [S0, Nat.reduceEqDiff, Nat.reduceAdd, reduceIte, reduceCtorEq]) ?_
    iterate 2 (refine Ow.popM rfl ?_; simp only [S0, Nat.reduceEqDiff, Nat.reduceAdd, reduceIte, reduceCtorEq])
    refine Ow.nilM ⟨nofun, ?_⟩
    refine Cw.ret ?_
    simp only [Then, InBlock, Rnd, FnPost, resOf, tupled, S0, Nat.reduceEqDiff, Nat.reduceAdd, reduceIte, reduceCtorEq, true_and]
    rfl
end
section
open Go Go.AL
variable {ext : Nat → Option (List Value → AH → Option (Value × AH))}
/-- What right answers. -/
def shrF (la : List Bool) (s : Nat) (fill : Bool) : List Bool := (List.range la.length).map fun i => if i + s < la.length then bx la (i + s) else fill
theorem shrF_length (la : List Bool) (s : Nat) (fill : Bool) : (shrF la s fill).length = la.length := by simp [shrF]
end
section
open Go Go.AL
variable {ext : Nat → Option (List Value → AH → Option (Value × AH))}
theorem IsM_ext {H H' : AH} {v : Value} {l : List Bool} {id : Nat} (h : IsM H v l id) (he : AL.Ext H H') : IsM H' v l id := by
  obtain ⟨h1, h2, h3⟩ := h
  exact ⟨h1, Nat.lt_of_lt_of_le h2 he.n, by rw [he.get _ h2]; exact h3⟩
end
section
open Go Go.AL
variable {ext : Nat → Option (List Value → AH → Option (Value × AH))}
/-- The last bit. -/
def ng (l : List Bool) : Bool := bx l (l.length - 1)
/-- The absolute value. -/
def absN (l : List Bool) : Nat := if ng l then 2 ^ l.length - val l else val l
/-- What SDivMod answers. -/
def squo (la lb : List Bool) : List Bool := ofN la.length (if ng la != ng lb then 2 ^ la.length - (absN la / absN lb) % 2 ^ la.length else absN la / absN lb)
def srem (la lb : List Bool) : List Bool := ofN la.length (if ng la then 2 ^ la.length - (absN la % absN lb) % 2 ^ la.length else absN la % absN lb)
end
section
open Go Go.AL
variable {ext : Nat → Option (List Value → AH → Option (Value × AH))}
theorem val_power (n : Nat) : val (List.replicate n false ++ [true]) = 2 ^ n := by rw [val_append]; simp [val]
/-- power -/
theorem power_any (hx : Ext0 ext) {H : AH} {n : Nat} (hn : n < 2 ^ 34) : Run (Cx ext) 202 [.int .i64 n] H fun r H' => AL.Ext H H' ∧ IsR H H' r (List.replicate n false ++ [true]) := by
  refine Run.intro (fi := IR.fi202) (hx 202 (by decide)) (by kernel_rfl) ?_
  unfold IR.fi202
  simp only [envOf_cons, envOf_nil]
  refine Cw.seq (Cw.region ?_)
  (refine Ow.popM rfl ?_; simp only [S0, Nat.reduceEqDiff, Nat.reduceAdd, reduceIte, reduceCtorEq])
  refine Ow.nilM ⟨nofun, ?_⟩
  refine Cw.seq (Cw.region ?_)
  (refine Ow.popM rfl ?_; simp only [S0, Nat.reduceEqDiff, Nat.reduceAdd, reduceIte, reduceCtorEq])
  refine Ow.makeB (k := .i64) (n := n) rfl (by simp only [S0, Nat.reduceEqDiff, Nat.reduceAdd, reduceIte, reduceCtorEq]) (by omega) ?_
  have hx0 := (AL.Ext.refl H).new (⟨(List.replicate n false).map .bool, 0⟩ : Blk)
  have hM0 : IsM (H.new ⟨(List.replicate n false).map .bool, 0⟩) (.slice (some ⟨H.n, 0, none⟩) n n) (List.replicate n false) H.n := ⟨by rw [List.length_replicate], Nat.lt_succ_self _, T.get_set_self _ _ _⟩
  generalize hHa : H.new ⟨(List.replicate n false).map .bool, 0⟩ = Ha at *
  (refine Ow.hopM rfl rfl ?_; simp only [S0, Nat.reduceEqDiff, Nat.reduceAdd, reduceIte, reduceCtorEq, S2, show Nat.ble 1 1 = true from rfl])
  have hx1 := (AL.Ext.refl Ha).new (⟨[.bool true], 0⟩ : Blk)
  refine Ow.appX (H0 := H) rfl (by simp only [S0, Nat.reduceEqDiff, Nat.reduceAdd, reduceIte, reduceCtorEq]) (by simp only [S0, Nat.reduceEqDiff, Nat.reduceAdd, reduceIte, reduceCtorEq]) (IsM_ext hM0 hx1) (Nat.le_refl _) (lit1 (H := Ha) true) (by simp; omega) ?_
  intro r H1 w1 hx2 hr
  (refine Ow.popM rfl ?_; simp only [S0, Nat.reduceEqDiff, Nat.reduceAdd, reduceIte, reduceCtorEq])
  refine Ow.nilM ⟨nofun, ?_⟩
  refine Cw.ret ?_
  simp only [Then, InBlock, Rnd, FnPost, resOf, tupled, S0, Nat.reduceEqDiff, Nat.reduceAdd, reduceIte, reduceCtorEq]
  exact ⟨(hx0.trans hx1).trans hx2, hr⟩
end
section
open Go Go.AL
variable {ext : Nat → Option (List Value → AH → Option (Value × AH))}
/-- What one place of a difference comes to. -/
theorem minus_bit {A B k : Nat} (h : B ≤ A) : (A - B).testBit k = ((A.testBit k != B.testBit k) != cy B (A - B) false k) ∧
    cy B (A - B) false (k + 1) = decide ((A.testBit k).toNat < (B.testBit k).toNat + (cy B (A - B) false k).toNat) := by
  have hf := full_add B (A - B) false k
  simp only [Bool.toNat_false, Nat.add_zero, show B + (A - B) = A by omega] at hf
  obtain ⟨h1, h2⟩ := hf
  rw [h2, h1]
  cases B.testBit k <;> cases (A - B).testBit k <;> cases cy B (A - B) false k <;> exact ⟨rfl, rfl⟩
/-- minus, of a number that is not greater -/
theorem minus_any (hx : Ext0 ext) {H : AH} {va vb : Value} {la lb : List Bool} (ha : IsB H va la) (hb : IsB H vb lb) (hl : la.length < 2 ^ 34) (hle : val lb ≤ val la) :
    Run (Cx ext) 201 [va, vb] H fun r H' => AL.Ext H H' ∧ IsG H H' r (ofN la.length (val la - val lb)) := by
  refine Run.intro (fi := IR.fi201) (hx 201 (by decide)) (by kernel_rfl) ?_
  unfold IR.fi201
  simp only [envOf_cons, envOf_nil]
  obtain ⟨aa, ca, ea⟩ := ha.shape
  subst ea
  refine Cw.seq (Cw.region ?_)
  (refine Ow.popM rfl ?_; simp only [S0, Nat.reduceEqDiff, Nat.reduceAdd, reduceIte, reduceCtorEq])
  refine Ow.nilM ⟨nofun, ?_⟩
  refine Cw.seq (Cw.region ?_)
  (refine Ow.popM rfl ?_; simp only [S0, Nat.reduceEqDiff, Nat.reduceAdd, reduceIte, reduceCtorEq])
  refine Ow.nilM ⟨nofun, ?_⟩
  refine Cw.seq (Cw.region ?_)
  (refine Ow.popM rfl ?_; simp only [S0, Nat.reduceEqDiff, Nat.reduceAdd, reduceIte, reduceCtorEq])
  refine Ow.nilM ⟨nofun, ?_⟩
  refine Cw.seq (Cw.seq (Cw.region ?_))
  (refine Ow.popM rfl ?_; simp only [S0, Nat.reduceEqDiff, Nat.reduceAdd, reduceIte, reduceCtorEq])
  refine Ow.nilM ⟨nofun, ?_⟩
  refine Cw.block (Cw.loopI la.length (fun k E H2 => (E.get 0 = some (.slice aa la.length ca) ∧ E.get 1 = some vb ∧ E.get 7 = some (.int .i64 (k : Int)) ∧ E.get 6 = some (.int .i64 ((cy (val lb) (val la - val lb) false k).toNat : Int))) ∧ AL.Ext H H2 ∧ ∃ u, E.get 5 = some u ∧ IsG H H2 u (ofN k (val la - val lb))) ⟨?_, AL.Ext.refl _, .slice none 0 0, by simp only [S0, Nat.reduceEqDiff, Nat.reduceAdd, reduceIte, reduceCtorEq], .inl ⟨rfl, by simp [ofN]⟩⟩ ?_)
  · simp only [S0, Nat.reduceEqDiff, Nat.reduceAdd, reduceIte, reduceCtorEq, cy_zero]; exact ⟨trivial, trivial, rfl, rfl⟩
  rintro k E H2 hk ⟨⟨e0, e1, e7, e6⟩, hxt, u, e5, hu⟩
  refine Cw.seq (Cw.seq (Cw.region ?_))
  by_cases hlt : k < la.length
  · iterate 4 (refine Ow.popM rfl ?_; simp only [S0, Nat.reduceEqDiff, Nat.reduceAdd, reduceIte, reduceCtorEq, e0, e7, lt_true hlt])
    refine Ow.nilM ⟨nofun, ?_⟩
    refine Cw.cond (t := true) (by simp only [S0, Nat.reduceEqDiff, Nat.reduceAdd, reduceIte, reduceCtorEq]) ?_
    refine Cw.skip ?_
    have hmb := minus_bit (k := k) hle
    rw [val_bit la, val_bit lb] at hmb
    generalize cy (val lb) (val la - val lb) false k = c at *
    refine Cw.seq (Cw.block (Cw.seq (Cw.region ?_)))
    have n1 : fwrap .i64 (0 - (c.toNat : Int)) = -(c.toNat : Int) := by cases c <;> rfl
    iterate 3 (refine Ow.popM rfl ?_; simp only [S0, Nat.reduceEqDiff, Nat.reduceAdd, reduceIte, reduceCtorEq, e6, n1])
    refine Ow.nilM ⟨nofun, ?_⟩
    obtain ⟨ad, cap, bk, ee, h1, h2, h3⟩ := (ha.ext hxt).at (bx_lt hlt)
    simp only [Value.slice.injEq] at ee
    obtain ⟨rfl, -, rfl⟩ := ee
    refine Cw.seq (Cw.mono (Q := fun cc E' H' => cc = .normal ∧ H' = H2 ∧ E'.get 0 = some (.slice (some ad) la.length ca) ∧ E'.get 1 = some vb ∧ E'.get 5 = some u ∧ E'.get 7 = some (.int .i64 (k : Int)) ∧ E'.get 8 = some (.int .i64 ((bx la k).toNat - (c.toNat : Int)))) ?_ ?_)
    · refine Cw.seq (Cw.region ?_)
      iterate 3 (refine Ow.popM rfl ?_; simp only [S0, Nat.reduceEqDiff, Nat.reduceAdd, reduceIte, reduceCtorEq, e0, e7, ix_ok hlt])
      (refine Ow.hopM rfl rfl ?_; simp only [S0, Nat.reduceEqDiff, Nat.reduceAdd, reduceIte, reduceCtorEq, h2, h3])
      refine Ow.nilM ⟨nofun, ?_⟩
      cases hba : bx la k with
      | true =>
        have n2 : fwrap .i64 (-(c.toNat : Int) + 1) = (true.toNat : Int) - (c.toNat : Int) := by cases c <;> rfl
        refine Cw.cond (t := true) (by simp only [S0, Nat.reduceEqDiff, Nat.reduceAdd, reduceIte, reduceCtorEq, hba]) ?_
        refine Cw.region ?_
        iterate 3 (refine Ow.popM rfl ?_; simp only [S0, Nat.reduceEqDiff, Nat.reduceAdd, reduceIte, reduceCtorEq, n2])
        refine Ow.nilM ⟨nofun, ?_⟩
        simp only [S0, Nat.reduceEqDiff, Nat.reduceAdd, reduceIte, reduceCtorEq, e0, e1, e5, e7, and_self]
      | false =>
        have n2 : -(c.toNat : Int) = (false.toNat : Int) - (c.toNat : Int) := by cases c <;> rfl
        refine Cw.cond (t := false) (by simp only [S0, Nat.reduceEqDiff, Nat.reduceAdd, reduceIte, reduceCtorEq, hba]) ?_
        refine Cw.skip ?_
        simp only [S0, Nat.reduceEqDiff, Nat.reduceAdd, reduceIte, reduceCtorEq, e0, e1, e5, e7, n2, and_self]
    rintro cc E3 H3 ⟨rfl, rfl, g0, g1, g5, g7, g8⟩
    refine Cw.seq (Cw.mono (Q := fun cc E' H' => cc = .normal ∧ AL.Ext H3 H' ∧ E'.get 0 = some (.slice (some ad) la.length ca) ∧ E'.get 1 = some vb ∧ E'.get 5 = some u ∧ E'.get 7 = some (.int .i64 (k : Int)) ∧ E'.get 8 = some (.int .i64 ((bx la k).toNat - (c.toNat : Int) - ((bx lb k).toNat : Int)))) ?_ ?_)
    · refine Cw.seq (Cw.region ?_)
      iterate 2 (refine Ow.popM rfl ?_; simp only [S0, Nat.reduceEqDiff, Nat.reduceAdd, reduceIte, reduceCtorEq, g1, g7])
      refine Ow.callP (k := 205) (vs := [vb, .int .i64 k]) rfl rfl (by simp only [S0, Nat.reduceEqDiff, Nat.reduceAdd, reduceIte, reduceCtorEq]) (At_any hx (hb.ext hxt).wl) ?_
      intro w4 hx4
      refine Ow.nilM ⟨nofun, ?_⟩
      cases hbb : bx lb k with
      | true =>
        have n3 : fwrap .i64 ((bx la k).toNat - (c.toNat : Int) - 1) = (bx la k).toNat - (c.toNat : Int) - (true.toNat : Int) := by cases c <;> cases bx la k <;> rfl
        refine Cw.cond (t := true) (by simp only [S0, Nat.reduceEqDiff, Nat.reduceAdd, reduceIte, reduceCtorEq]) ?_
        refine Cw.region ?_
        iterate 3 (refine Ow.popM rfl ?_; simp only [S0, Nat.reduceEqDiff, Nat.reduceAdd, reduceIte, reduceCtorEq, g8, n3])
        refine Ow.nilM ⟨nofun, trivial, hx4, ?_⟩
        simp only [S0, Nat.reduceEqDiff, Nat.reduceAdd, reduceIte, reduceCtorEq, g0, g1, g5, g7, and_self]
      | false =>
        have n3 : (bx la k).toNat - (c.toNat : Int) = (bx la k).toNat - (c.toNat : Int) - (false.toNat : Int) := by cases c <;> cases bx la k <;> rfl
        refine Cw.cond (t := false) (by simp only [S0, Nat.reduceEqDiff, Nat.reduceAdd, reduceIte, reduceCtorEq]) ?_
        refine Cw.skip ⟨rfl, hx4, ?_⟩
        rw [← n3]
        simp only [S0, Nat.reduceEqDiff, Nat.reduceAdd, reduceIte, reduceCtorEq, g0, g1, g5, g7, g8, and_self]
    rintro cc E4 H4 ⟨rfl, hx4, i0, i1, i5, i7, i8⟩
    refine Cw.seq (Cw.region ?_)
    (refine Ow.popM rfl ?_; simp only [S0, Nat.reduceEqDiff, Nat.reduceAdd, reduceIte, reduceCtorEq])
    refine Ow.nilM ⟨nofun, ?_⟩
    refine Cw.seq (Cw.mono (Q := fun cc E' H' => cc = .normal ∧ H' = H4 ∧ E'.get 0 = some (.slice (some ad) la.length ca) ∧ E'.get 1 = some vb ∧ E'.get 5 = some u ∧ E'.get 7 = some (.int .i64 (k : Int)) ∧ E'.get 6 = some (.int .i64 ((cy (val lb) (val la - val lb) false (k + 1)).toNat : Int)) ∧ E'.get 8 = some (.int .i64 (((val la - val lb).testBit k).toNat : Int))) ?_ ?_)
    · rw [hmb.1, hmb.2]
      refine Cw.seq (Cw.region ?_)
      by_cases hneg : (bx la k).toNat < (bx lb k).toNat + c.toNat
      · have d1 : decide (((bx la k).toNat - (c.toNat : Int) - ((bx lb k).toNat : Int)) < 0) = true := decide_eq_true (by omega)
        have n5 : fwrap .i64 ((bx la k).toNat - (c.toNat : Int) - ((bx lb k).toNat : Int) + 2) = (((bx la k != bx lb k) != c).toNat : Int) := by
          revert hneg
          cases bx la k <;> cases bx lb k <;> cases c <;> decide
        iterate 2 (refine Ow.popM rfl ?_; simp only [S0, Nat.reduceEqDiff, Nat.reduceAdd, reduceIte, reduceCtorEq, i8, d1])
        refine Ow.nilM ⟨nofun, ?_⟩
        refine Cw.cond (t := true) (by simp only [S0, Nat.reduceEqDiff, Nat.reduceAdd, reduceIte, reduceCtorEq]) ?_
        refine Cw.seq (Cw.region ?_)
        iterate 3 (refine Ow.popM rfl ?_; simp only [S0, Nat.reduceEqDiff, Nat.reduceAdd, reduceIte, reduceCtorEq, i8, n5])
        refine Ow.nilM ⟨nofun, ?_⟩
        refine Cw.region ?_
        (refine Ow.popM rfl ?_; simp only [S0, Nat.reduceEqDiff, Nat.reduceAdd, reduceIte, reduceCtorEq])
        refine Ow.nilM ⟨nofun, ?_⟩
        simp only [S0, Nat.reduceEqDiff, Nat.reduceAdd, reduceIte, reduceCtorEq, i0, i1, i5, i7, decide_eq_true hneg, Bool.toNat_true, true_and, and_true]
        rfl
      · have d1 : decide (((bx la k).toNat - (c.toNat : Int) - ((bx lb k).toNat : Int)) < 0) = false := decide_eq_false (by omega)
        have n5 : ((bx la k).toNat - (c.toNat : Int) - ((bx lb k).toNat : Int)) = (((bx la k != bx lb k) != c).toNat : Int) := by
          revert hneg
          cases bx la k <;> cases bx lb k <;> cases c <;> decide
        iterate 2 (refine Ow.popM rfl ?_; simp only [S0, Nat.reduceEqDiff, Nat.reduceAdd, reduceIte, reduceCtorEq, i8, d1])
        refine Ow.nilM ⟨nofun, ?_⟩
        refine Cw.cond (t := false) (by simp only [S0, Nat.reduceEqDiff, Nat.reduceAdd, reduceIte, reduceCtorEq]) ?_
        refine Cw.skip ?_
        simp only [S0, Nat.reduceEqDiff, Nat.reduceAdd, reduceIte, reduceCtorEq, i0, i1, i5, i7, i8, n5, decide_eq_false hneg, Bool.toNat_false, true_and, and_true]
        rfl
    rintro cc E5 H5 ⟨rfl, rfl, j0, j1, j5, j7, j6, j8⟩
    refine Cw.region ?_
    generalize hD : (val la - val lb).testBit k = D at *
    have q : (((D.toNat : Nat) : Int) == 1) = D := by cases D <;> rfl
    iterate 3 (refine Ow.popM rfl ?_; simp only [S0, Nat.reduceEqDiff, Nat.reduceAdd, reduceIte, reduceCtorEq, j5, j8, q])
    (refine Ow.hopM rfl rfl ?_; simp only [S0, Nat.reduceEqDiff, Nat.reduceAdd, reduceIte, reduceCtorEq, S2, show Nat.ble 1 1 = true from rfl])
    have hx6 := hx4.new (⟨[.bool D], 0⟩ : Blk)
    refine Ow.appB (H0 := H) rfl (by simp only [S0, Nat.reduceEqDiff, Nat.reduceAdd, reduceIte, reduceCtorEq]) (by simp only [S0, Nat.reduceEqDiff, Nat.reduceAdd, reduceIte, reduceCtorEq]) (hu.ext hx6) (lit1 _) (hxt.trans hx6) (by simp [ofN_length]; omega) ?_
    intro r H7 b hx7 hr
    (refine Ow.popM rfl ?_; simp only [S0, Nat.reduceEqDiff, Nat.reduceAdd, reduceIte, reduceCtorEq])
    refine Ow.nilM ⟨nofun, ?_⟩
    show Cw _ _ _ _ _
    refine Cw.region ?_
    iterate 3 (refine Ow.popM rfl ?_; simp only [S0, Nat.reduceEqDiff, Nat.reduceAdd, reduceIte, reduceCtorEq, j7, fw_succ (show k < 2 ^ 62 by omega)])
    refine Ow.nilM ⟨nofun, hlt, ?_, hx7, r, ?_, ?_⟩
    · simp only [S0, Nat.reduceEqDiff, Nat.reduceAdd, reduceIte, reduceCtorEq, j0, j1, j6, and_self]
    · simp only [S0, Nat.reduceEqDiff, Nat.reduceAdd, reduceIte, reduceCtorEq]
    · rw [ofN_succ, hD]; exact hr
  · obtain rfl : k = la.length := by omega
    iterate 4 (refine Ow.popM rfl ?_; simp only [S0, Nat.reduceEqDiff, Nat.reduceAdd, reduceIte, reduceCtorEq, e0, e7, lt_false (Nat.lt_irrefl la.length)])
    refine Ow.nilM ⟨nofun, ?_⟩
    refine Cw.cond (t := false) (by simp only [S0, Nat.reduceEqDiff, Nat.reduceAdd, reduceIte, reduceCtorEq]) ?_
    refine Cw.exit ?_
    show Cw _ _ _ _ _
    refine Cw.seq (Cw.region ?_)
    iterate 2 (refine Ow.popM rfl ?_; simp only [S0, Nat.reduceEqDiff, Nat.reduceAdd, reduceIte, reduceCtorEq, e5])
    refine Ow.nilM ⟨nofun, ?_⟩
    refine Cw.ret ?_
    simp only [Then, InBlock, Rnd, FnPost, resOf, tupled, S0, Nat.reduceEqDiff, Nat.reduceAdd, reduceIte, reduceCtorEq]
    exact ⟨hxt, hu⟩
end
section
open Go Go.AL
variable {ext : Nat → Option (List Value → AH → Option (Value × AH))}
theorem lt_half {A n : Nat} (h : A < 2 ^ (n + 1)) (hb : A.testBit n = false) : A < 2 ^ n := by
  rw [Nat.testBit_eq_decide_div_mod_eq, decide_eq_false_iff_not] at hb
  rcases Nat.lt_or_ge A (2 ^ n) with h1 | h1
  · exact h1
  · have e : A / 2 ^ n = 1 := Nat.div_eq_of_lt_le (by omega) (by rw [Nat.pow_succ] at h; omega)
    rw [e] at hb
    exact absurd rfl hb
theorem take_ofN {l : List Bool} {n : Nat} (hn : n ≤ l.length) : l.take n = ofN n (val l) := by
  refine ext_bits (by rw [ofN_length, List.length_take]; omega) (fun i hi => ?_)
  have hi' : i < n := by rw [List.length_take] at hi; omega
  rw [bx_ofN, val_bit]
  simp [bx, List.getD_eq_getElem?_getD, List.getElem?_take, hi']
/-- Trim: the number without leading zeros. -/
theorem trim_any (hx : Ext0 ext) {H : AH} {v : Value} {l : List Bool} (hv : IsB H v l) (hl : l.length < 2 ^ 35) :
    Run (Cx ext) 200 [v] H fun r H' => AL.Ext H H' ∧ ∃ n, n ≤ l.length ∧ IsR H H' r (ofN n (val l)) ∧ val l < 2 ^ n ∧ (n = 0 ∨ 2 ^ (n - 1) ≤ val l) := by
  refine Run.intro (fi := IR.fi200) (hx 200 (by decide)) (by kernel_rfl) ?_
  unfold IR.fi200
  simp only [envOf_cons, envOf_nil]
  obtain ⟨aa, ca, ea⟩ := hv.shape
  subst ea
  refine Cw.seq (Cw.region ?_)
  (refine Ow.popM rfl ?_; simp only [S0, Nat.reduceEqDiff, Nat.reduceAdd, reduceIte, reduceCtorEq])
  refine Ow.nilM ⟨nofun, ?_⟩
  refine Cw.seq (Cw.region ?_)
  iterate 3 (refine Ow.popM rfl ?_; simp only [S0, Nat.reduceEqDiff, Nat.reduceAdd, reduceIte, reduceCtorEq])
  refine Ow.nilM ⟨nofun, ?_⟩
  -- the end, at n
  have fin : ∀ E H2 n, E.get 0 = some (.slice aa l.length ca) → E.get 3 = some (.int .i64 (n : Int)) → AL.Ext H H2 → n ≤ l.length → val l < 2 ^ n → (n = 0 ∨ 2 ^ (n - 1) ≤ val l) →
      Cw (Cx ext) (match IR.fi200.code with | .seq _ (.seq _ (.seq _ r)) => r | _ => .skip) E H2 (FnPost [.tmp 2] fun r H' => AL.Ext H H' ∧ ∃ n, n ≤ l.length ∧ IsR H H' r (ofN n (val l)) ∧ val l < 2 ^ n ∧ (n = 0 ∨ 2 ^ (n - 1) ≤ val l)) := by
    intro E H2 n e0 e3 hx2 hn h1 h2
    unfold IR.fi200
    refine Cw.seq (Cw.region ?_)
    (refine Ow.hopM rfl rfl ?_; simp only [S0, Nat.reduceEqDiff, Nat.reduceAdd, reduceIte, reduceCtorEq, AL.fillParts])
    have hx0 := (AL.Ext.refl H2).new (⟨[], 0⟩ : Blk)
    have hM : IsM (H2.new ⟨[], 0⟩) (.slice (some ⟨H2.n, 0, none⟩) 0 0) [] H2.n := ⟨rfl, Nat.lt_succ_self _, T.get_set_self _ _ _⟩
    obtain ⟨v', hv', hcut⟩ := cut_hi ((hv.ext hx2).ext hx0) hn
    iterate 2 (refine Ow.popM rfl ?_; simp only [S0, Nat.reduceEqDiff, Nat.reduceAdd, reduceIte, reduceCtorEq, e0, e3])
    (refine Ow.popM rfl ?_; simp only [S0, Nat.reduceEqDiff, Nat.reduceAdd, reduceIte, reduceCtorEq, evo, hv', show Nat.beq 1 0 = false from rfl])
    refine Ow.appX (H0 := H) rfl (by simp only [S0, Nat.reduceEqDiff, Nat.reduceAdd, reduceIte, reduceCtorEq]) (by simp only [S0, Nat.reduceEqDiff, Nat.reduceAdd, reduceIte, reduceCtorEq]) hM hx2.n hcut (by simp [List.length_take]; omega) ?_
    intro r H3 w3 hx3 hr
    (refine Ow.popM rfl ?_; simp only [S0, Nat.reduceEqDiff, Nat.reduceAdd, reduceIte, reduceCtorEq])
    refine Ow.nilM ⟨nofun, ?_⟩
    refine Cw.ret ?_
    simp only [Then, InBlock, Rnd, FnPost, resOf, tupled, S0, Nat.reduceEqDiff, Nat.reduceAdd, reduceIte, reduceCtorEq]
    rw [List.nil_append, take_ofN hn] at hr
    exact ⟨(hx2.trans hx0).trans hx3, n, hn, hr, h1, h2⟩
  refine Cw.seq (Cw.block (Cw.loopI l.length (fun k E H2 => (E.get 0 = some (.slice aa l.length ca) ∧ E.get 3 = some (.int .i64 ((l.length - k : Nat) : Int))) ∧ AL.Ext H H2 ∧ val l < 2 ^ (l.length - k)) ⟨?_, AL.Ext.refl _, val_lt l⟩ ?_))
  · simp only [S0, Nat.reduceEqDiff, Nat.reduceAdd, reduceIte, reduceCtorEq]; exact ⟨trivial, rfl⟩
  rintro k E H2 hk ⟨⟨e0, e3⟩, hxt, hval⟩
  refine Cw.seq (Cw.seq (Cw.region ?_))
  by_cases hlt : k < l.length
  · have hn : l.length - k = (l.length - (k + 1)) + 1 := by omega
    rw [hn] at e3 hval
    have hjl : l.length - (k + 1) < l.length := by omega
    generalize hj : l.length - (k + 1) = j at *
    have hjj : (((j + 1 : Nat) : Int) - 1) = (j : Int) := by omega
    obtain ⟨ad, cap, bk, ee, h1, h2, h3⟩ := (hv.ext hxt).at (bx_lt hjl)
    simp only [Value.slice.injEq] at ee
    obtain ⟨rfl, -, rfl⟩ := ee
    iterate 7 (refine Ow.popM rfl ?_; simp only [S0, Nat.reduceEqDiff, Nat.reduceAdd, reduceIte, reduceCtorEq, e0, e3, gt0_true (Nat.succ_pos j), hjj, fw_nat (show j < 2 ^ 63 by omega), ix_ok hjl])
    (refine Ow.hopM rfl rfl ?_; simp only [S0, Nat.reduceEqDiff, Nat.reduceAdd, reduceIte, reduceCtorEq, h2, h3])
    iterate 2 (refine Ow.popM rfl ?_; simp only [S0, Nat.reduceEqDiff, Nat.reduceAdd, reduceIte, reduceCtorEq])
    refine Ow.nilM ⟨nofun, ?_⟩
    have hvb := val_bit l j
    cases hb : bx l j with
    | true =>
      rw [hb] at hvb
      refine Cw.cond (t := false) (by simp only [S0, Nat.reduceEqDiff, Nat.reduceAdd, reduceIte, reduceCtorEq, hb]) ?_
      refine Cw.exit ?_
      show Cw _ _ _ _ _
      refine fin _ _ (j + 1) (by simp only [S0, Nat.reduceEqDiff, Nat.reduceAdd, reduceIte, reduceCtorEq, e0]) (by simp only [S0, Nat.reduceEqDiff, Nat.reduceAdd, reduceIte, reduceCtorEq, e3]) hxt (by omega) hval (.inr ?_)
      rw [Nat.add_sub_cancel]
      exact Nat.ge_two_pow_of_testBit hvb
    | false =>
      rw [hb] at hvb
      refine Cw.cond (t := true) (by simp only [S0, Nat.reduceEqDiff, Nat.reduceAdd, reduceIte, reduceCtorEq, hb]) ?_
      refine Cw.skip ?_
      refine Cw.block (Cw.region ?_)
      iterate 3 (refine Ow.popM rfl ?_; simp only [S0, Nat.reduceEqDiff, Nat.reduceAdd, reduceIte, reduceCtorEq, e3, hjj, fw_nat (show j < 2 ^ 63 by omega)])
      refine Ow.nilM ⟨nofun, hlt, ?_, hxt, ?_⟩
      · simp only [S0, Nat.reduceEqDiff, Nat.reduceAdd, reduceIte, reduceCtorEq, e0, hj, and_self]
      · rw [hj]; exact lt_half hval hvb
  · obtain rfl : k = l.length := by omega
    rw [Nat.sub_self] at e3 hval
    iterate 3 (refine Ow.popM rfl ?_; simp only [S0, Nat.reduceEqDiff, Nat.reduceAdd, reduceIte, reduceCtorEq, e3, show decide (((0 : Nat) : Int) > 0) = false from rfl])
    iterate 6 refine Ow.pass (by simp only [S0, Nat.reduceEqDiff, Nat.reduceAdd, reduceIte, reduceCtorEq]) ?_
    (refine Ow.popM rfl ?_; simp only [S0, Nat.reduceEqDiff, Nat.reduceAdd, reduceIte, reduceCtorEq])
    refine Ow.nilM ⟨nofun, ?_⟩
    refine Cw.cond (t := false) (by simp only [S0, Nat.reduceEqDiff, Nat.reduceAdd, reduceIte, reduceCtorEq]) ?_
    refine Cw.exit ?_
    show Cw _ _ _ _ _
    exact fin _ _ 0 (by simp only [S0, Nat.reduceEqDiff, Nat.reduceAdd, reduceIte, reduceCtorEq, e0]) (by simp only [S0, Nat.reduceEqDiff, Nat.reduceAdd, reduceIte, reduceCtorEq, e3]) hxt (Nat.zero_le _) hval (.inl rfl)
end
section
open Go Go.AL
variable {ext : Nat → Option (List Value → AH → Option (Value × AH))}
theorem Size_any (hx : Ext0 ext) {H : AH} {v : Value} {l : List Bool} (hv : IsB H v l) (hl : l.length < 2 ^ 33) :
    Run (Cx ext) 177 [v] H fun r H' => AL.Ext H H' ∧ ∃ m, IsB H' r m ∧ val m = absN l ∧ m.length ≤ l.length + 1 := by
  refine Run.intro (fi := IR.fi177) (hx 177 (by decide)) (by kernel_rfl) ?_
  unfold IR.fi177
  simp only [envOf_cons, envOf_nil]
  obtain ⟨aa, ca, ea⟩ := hv.shape
  subst ea
  refine Cw.seq (Cw.region ?_)
  (refine Ow.popM rfl ?_; simp only [S0, Nat.reduceEqDiff, Nat.reduceAdd, reduceIte, reduceCtorEq])
  refine Ow.nilM ⟨nofun, ?_⟩
  refine Cw.seq (Cw.seq (Cw.region ?_))
  (refine Ow.popM rfl ?_; simp only [S0, Nat.reduceEqDiff, Nat.reduceAdd, reduceIte, reduceCtorEq])
  refine Ow.callP (k := 178) (vs := [.slice aa l.length ca]) rfl rfl (by simp only [S0, Nat.reduceEqDiff, Nat.reduceAdd, reduceIte, reduceCtorEq]) (Negative_any hx hv.wl (by omega)) ?_
  intro w1 hx1
  have hv1 := hv.ext hx1
  refine Ow.nilM ⟨nofun, ?_⟩
  have hlt := val_lt l
  cases hn : bx l (l.length - 1) with
  | true =>
    refine Cw.cond (t := true) (by simp only [S0, Nat.reduceEqDiff, Nat.reduceAdd, reduceIte, reduceCtorEq]) ?_
    refine Cw.seq (Cw.region ?_)
    iterate 2 (refine Ow.popM rfl ?_; simp only [S0, Nat.reduceEqDiff, Nat.reduceAdd, reduceIte, reduceCtorEq])
    refine Ow.callE (k := 202) (fs := []) (cs := []) (vs := [.int .i64 l.length]) rfl rfl (by simp only [S0, Nat.reduceEqDiff, Nat.reduceAdd, reduceIte, reduceCtorEq]) (power_any hx (by omega)) ?_
    rintro p H2 w2 hx2 hp
    have hp2 : IsB { H2 with wl := w2 } p _ := hp.isB
    have hv2 := hv1.ext hx2
    (refine Ow.popM rfl ?_; simp only [S0, Nat.reduceEqDiff, Nat.reduceAdd, reduceIte, reduceCtorEq])
    refine Ow.callE (k := 201) (fs := []) (cs := []) (vs := [p, .slice aa l.length ca]) rfl rfl (by simp only [S0, Nat.reduceEqDiff, Nat.reduceAdd, reduceIte, reduceCtorEq]) (minus_any hx hp2.wl hv2.wl (by simp; omega) (by rw [val_power]; omega)) ?_
    rintro u H3 w3 hx3 hu
    (refine Ow.popM rfl ?_; simp only [S0, Nat.reduceEqDiff, Nat.reduceAdd, reduceIte, reduceCtorEq])
    refine Ow.nilM ⟨nofun, ?_⟩
    refine Cw.ret ?_
    simp only [Then, InBlock, Rnd, FnPost, resOf, tupled, S0, Nat.reduceEqDiff, Nat.reduceAdd, reduceIte, reduceCtorEq]
    refine ⟨(hx1.trans hx2).trans hx3, _, hu.isR.isB, ?_, ?_⟩
    · have e : (List.replicate l.length false ++ [true]).length = l.length + 1 := by simp
      unfold absN ng
      rw [hn, if_pos rfl, val_ofN, val_power, e, Nat.mod_eq_of_lt]
      rw [Nat.pow_succ]; omega
    · rw [ofN_length]; simp
  | false =>
    refine Cw.cond (t := false) (by simp only [S0, Nat.reduceEqDiff, Nat.reduceAdd, reduceIte, reduceCtorEq]) ?_
    refine Cw.skip ?_
    show Cw _ _ _ _ _
    refine Cw.seq (Cw.region ?_)
    (refine Ow.popM rfl ?_; simp only [S0, Nat.reduceEqDiff, Nat.reduceAdd, reduceIte, reduceCtorEq])
    refine Ow.callE (k := 200) (fs := []) (cs := []) (vs := [.slice aa l.length ca]) rfl rfl (by simp only [S0, Nat.reduceEqDiff, Nat.reduceAdd, reduceIte, reduceCtorEq]) (trim_any hx hv1.wl (by omega)) ?_
    rintro u H3 w3 hx3 ⟨n, hnl, hu, h1, h2⟩
    (refine Ow.popM rfl ?_; simp only [S0, Nat.reduceEqDiff, Nat.reduceAdd, reduceIte, reduceCtorEq])
    refine Ow.nilM ⟨nofun, ?_⟩
    refine Cw.ret ?_
    simp only [Then, InBlock, Rnd, FnPost, resOf, tupled, S0, Nat.reduceEqDiff, Nat.reduceAdd, reduceIte, reduceCtorEq]
    refine ⟨hx1.trans hx3, _, hu.isB, ?_, by rw [ofN_length]; omega⟩
    unfold absN ng
    rw [hn, if_neg (by decide), val_ofN, Nat.mod_eq_of_lt h1]
end
section
open Go Go.AL
theorem ng_nil {l : List Bool} (h : l.length = 0) : ng l = false := by
  unfold ng
  exact bx_ge (by omega)
/-- The signed value. -/
def sval (l : List Bool) : Int := if ng l then -(absN l : Int) else absN l
theorem val_pos' (n x : Nat) (hx : x < 2 ^ n) : val (ofN n x) = x := by rw [val_ofN, Nat.mod_eq_of_lt hx]
theorem srem_length (la lb : List Bool) : (srem la lb).length = la.length := by unfold srem; exact ofN_length _ _
theorem squo_length (la lb : List Bool) : (squo la lb).length = la.length := by unfold squo; exact ofN_length _ _
/-- The divisor, extended by its sign or shortened. -/
def extS (l : List Bool) (n : Nat) : List Bool := (List.range n).map fun i => if i < l.length then bx l i else ng l
theorem extS_length (l : List Bool) (n : Nat) : (extS l n).length = n := by simp [extS]
/-- Lengths. -/
theorem SL : type_of% (And.intro ofN_length <| And.intro ofI_length <| And.intro shrF_length <| And.intro squo_length <| And.intro srem_length <| And.intro extS_length <| And.intro @List.length_append.{0} <| And.intro @List.length_replicate.{0} <| And.intro @List.length_cons.{0} <| @List.length_nil.{0}) := And.intro ofN_length <| And.intro ofI_length <| And.intro shrF_length <| And.intro squo_length <| And.intro srem_length <| And.intro extS_length <| And.intro @List.length_append.{0} <| And.intro @List.length_replicate.{0} <| And.intro @List.length_cons.{0} <| @List.length_nil.{0}
variable {ext : Nat → Option (List Value → AH → Option (Value × AH))}
end
section
open Go Go.AL
variable {ext : Nat → Option (List Value → AH → Option (Value × AH))}
/-- Trim, in short. -/
theorem trim_L (hx : Ext0 ext) {H : AH} {v : Value} {l : List Bool} (hv : IsB H v l) (hl : l.length < 2 ^ 35) :
    Run (Cx ext) 200 [v] H fun r H' => AL.Ext H H' ∧ ∃ m, IsR H H' r m ∧ val m = val l ∧ m.length ≤ l.length ∧ (m.length = 0 ∨ 2 ^ (m.length - 1) ≤ val m) := by
  refine (trim_any hx hv hl).mono ?_
  rintro r H' ⟨he, n, hn, hr, h1, h2⟩
  have e : val (ofN n (val l)) = val l := val_pos' _ _ h1
  exact ⟨he, ofN n (val l), hr, e, by rw [ofN_length]; exact hn, by rw [ofN_length, e]; exact h2⟩
end
section
open Go Go.AL
variable {ext : Nat → Option (List Value → AH → Option (Value × AH))}
theorem wrap_u64 (x : Nat) : IntKind.wrap .u64 (x : Int) = ((x % 2 ^ 64 : Nat) : Int) := by
  have e : IntKind.wrap .u64 (x : Int) = (x : Int) % (2 : Int) ^ 64 := rfl
  rw [e]
  omega
theorem fwrap_u64 (x : Nat) : fwrap .u64 (x : Int) = ((x % 2 ^ 64 : Nat) : Int) := by rw [fwrap_eq, wrap_u64]
theorem shl_u64 {k : Nat} (h : k < 64) : aShift .shl .u64 1 (k : Int) = some (.int .u64 ((2 ^ k : Nat) : Int)) := by
  unfold aShift
  rw [if_neg (by omega)]
  simp only [Int.toNat_natCast, show Nat.min k (IntKind.bits .u64) = k from Nat.min_eq_left (by show k ≤ 64; omega), Int.one_mul]
  have e : ((2 : Int) ^ k) = ((2 ^ k : Nat) : Int) := by push_cast; rfl
  rw [e, wrap_u64, Nat.mod_eq_of_lt (Nat.pow_lt_pow_right (by decide) h)]
theorem or_bit {X k : Nat} (hX : X < 2 ^ k) : X ||| 2 ^ k = X + 2 ^ k := by
  have h := Nat.two_pow_add_eq_or_of_lt hX 1
  rw [Nat.mul_one] at h
  rw [Nat.or_comm, ← h, Nat.add_comm]
theorem or_u64 {X k : Nat} (hX : X < 2 ^ k) (hk : k < 64) : IntKind.wrap .u64 ((BitVec.ofInt (IntKind.bits .u64) (X : Int) ||| BitVec.ofInt (IntKind.bits .u64) ((2 ^ k : Nat) : Int)).toNat : Int) = ((X + 2 ^ k : Nat) : Int) := by
  have h64 : 2 ^ k < 2 ^ 64 := Nat.pow_lt_pow_right (by decide) hk
  have h2 : 2 ^ k + 2 ^ k ≤ 2 ^ 64 := by
    have : 2 ^ (k + 1) ≤ 2 ^ 64 := Nat.pow_le_pow_right (by decide) hk
    rw [Nat.pow_succ] at this
    omega
  have e : (BitVec.ofInt 64 (X : Int) ||| BitVec.ofInt 64 ((2 ^ k : Nat) : Int)).toNat = X + 2 ^ k := by
    rw [BitVec.toNat_or, BitVec.ofInt_natCast, BitVec.ofInt_natCast, BitVec.toNat_ofNat, BitVec.toNat_ofNat, Nat.mod_eq_of_lt (by omega), Nat.mod_eq_of_lt h64, or_bit hX]
  rw [show IntKind.bits .u64 = 64 from rfl, e, wrap_u64, Nat.mod_eq_of_lt (by omega)]
theorem mod_bit (X k : Nat) : X % 2 ^ (k + 1) = X % 2 ^ k + 2 ^ k * (X.testBit k).toNat := by
  rw [Nat.mod_pow_succ]
  congr 1
  rw [Nat.testBit_eq_decide_div_mod_eq]
  rcases Nat.mod_two_eq_zero_or_one (X / 2 ^ k) with h | h <;> rw [h] <;> simp
theorem bit_ge {X k : Nat} (h : X.testBit k = true) : 2 ^ k ≤ X := by
  rcases Nat.lt_or_ge X (2 ^ k) with h1 | h1
  · rw [Nat.testBit_lt_two_pow h1] at h; cases h
  · exact h1
theorem mod_64 {X k : Nat} (h : k < 64) : X % 2 ^ (k + 1) < 2 ^ 64 := Nat.lt_of_lt_of_le (Nat.mod_lt _ (Nat.two_pow_pos _)) (Nat.pow_le_pow_right (by decide) h)
theorem div_bit (X j : Nat) : X / 2 ^ j % 2 ^ 64 = ((X / 2 ^ (j + 1) % 2 ^ 64) * 2 + (X.testBit j).toNat) % 2 ^ 64 := by
  rw [div_step X j]
  omega
/-- What Uint answers. -/
def uintV (l : List Bool) : Value := if val l < 2 ^ 64 then .tuple ⟨[.int .u64 ((val l : Nat) : Int), .bool true]⟩ else .tuple ⟨[.int .u64 0, .bool false]⟩
/-- bv.Uint -/
theorem bUint_any (hx : Ext0 ext) {H : AH} {va : Value} {la : List Bool} (fa : IsB H va la) (hla : la.length < 2 ^ 34) :
    Run (Cx ext) 133 [va] H fun r H' => AL.Ext H H' ∧ r = uintV la := by
  refine Run.intro (fi := IR.fi133) (hx 133 (by decide)) (by kernel_rfl) ?_
  unfold IR.fi133
  simp only [envOf_cons, envOf_nil]
  refine Cw.seq ?_
  refine Cw.region ?_
  iterate 2 (refine Ow.popM rfl ?_; simp only [S0, Nat.reduceEqDiff, Nat.reduceAdd, reduceIte, reduceCtorEq, S1])
  refine Ow.nilM ⟨nofun, ?_⟩
  show Cw _ _ _ _ _
  refine Cw.seq ?_
  refine Cw.seq ?_
  refine Cw.region ?_
  (refine Ow.popM rfl ?_; simp only [S0, Nat.reduceEqDiff, Nat.reduceAdd, reduceIte, reduceCtorEq, S1])
  refine Ow.lenA rfl (by simp only [S0, Nat.reduceEqDiff, Nat.reduceAdd, reduceIte, reduceCtorEq, S1]) fa ?_
  (refine Ow.popM rfl ?_; simp only [S0, Nat.reduceEqDiff, Nat.reduceAdd, reduceIte, reduceCtorEq, S1])
  refine Ow.nilM ⟨nofun, ?_⟩
  show Cw _ _ _ _ _
  refine Cw.block ?_
  refine Cw.loopI (la.length) (fun k E Hq => (E.get 6 = some (va) ∧ E.get 7 = some (.int .i64 ((la.length : Nat) : Int)) ∧ E.get 8 = some (.int .i64 ((k : Nat) : Int)) ∧ E.get 2 = some (.int .u64 (((val la % 2 ^ k : Nat) : Int)))) ∧ AL.Ext H Hq ∧ val la % 2 ^ k < 2 ^ 64) ⟨⟨(by simp only [S0, Nat.reduceEqDiff, Nat.reduceAdd, reduceIte, reduceCtorEq, S1, and_self]), (by simp only [S0, Nat.reduceEqDiff, Nat.reduceAdd, reduceIte, reduceCtorEq, S1, and_self]), (by simp only [S0, Nat.reduceEqDiff, Nat.reduceAdd, reduceIte, reduceCtorEq, eq_self] <;> first | rfl | simp [Nat.mod_one]), (by simp only [S0, Nat.reduceEqDiff, Nat.reduceAdd, reduceIte, reduceCtorEq, eq_self] <;> first | rfl | simp [Nat.mod_one])⟩, (AL.Ext.refl _), (by rw [Nat.pow_zero, Nat.mod_one]; decide)⟩ ?_
  rintro k1 E1 H1 hk1 ⟨⟨g1_6, g1_7, g1_8, g1_2⟩, hx1, hsm⟩
  by_cases hlt1 : k1 < la.length
  · skip
    refine Cw.seq ?_
    refine Cw.region ?_
    (refine Ow.popM rfl ?_; simp only [S0, Nat.reduceEqDiff, Nat.reduceAdd, reduceIte, reduceCtorEq, S1, show decide ((((k1 : Nat) : Int) : Int) < (((la.length : Nat) : Int) : Int)) = decide (k1 < la.length) from lt_dec (k1) (la.length), show decide (k1 < la.length) = true from decide_eq_true (hlt1), g1_6, g1_7, g1_8, g1_2])
    refine Ow.nilM ⟨nofun, ?_⟩
    show Cw _ _ _ _ _
    refine Cw.seq ?_
    refine Cw.cond (t := true) (by simp only [S0, Nat.reduceEqDiff, Nat.reduceAdd, reduceIte, reduceCtorEq, S1, g1_6, g1_7, g1_8, g1_2]) ?_
    refine Cw.skip ?_
    show Cw _ _ _ _ _
    refine Cw.seq ?_
    refine Cw.block ?_
    refine Cw.seq ?_
    refine Cw.region ?_
    (refine Ow.popM rfl ?_; simp only [S0, Nat.reduceEqDiff, Nat.reduceAdd, reduceIte, reduceCtorEq, S1, g1_6, g1_7, g1_8, g1_2])
    have fa_2 := fa.ext hx1
    refine Ow.rdA (k := .i64) (b := bx la (k1)) (n := k1) rfl (fun p => rfl) (by simp only [S0, Nat.reduceEqDiff, Nat.reduceAdd, reduceIte, reduceCtorEq, S1, g1_6, g1_7, g1_8, g1_2]) (by simp only [S0, Nat.reduceEqDiff, Nat.reduceAdd, reduceIte, reduceCtorEq, S1, g1_6, g1_7, g1_8, g1_2]) fa_2 (bx_lt (by omega)) ?_
    intro p3
    iterate 2 (refine Ow.popM rfl ?_; simp only [S0, Nat.reduceEqDiff, Nat.reduceAdd, reduceIte, reduceCtorEq, S1, g1_6, g1_7, g1_8, g1_2])
    refine Ow.nilM ⟨nofun, ?_⟩
    show Cw _ _ _ _ _
    refine Cw.seq ?_
    refine Cw.seq ?_
    refine Cw.region ?_
    iterate 2 (refine Ow.popM rfl ?_; simp only [S0, Nat.reduceEqDiff, Nat.reduceAdd, reduceIte, reduceCtorEq, S1, g1_6, g1_7, g1_8, g1_2])
    cases hd4 : (bx la (k1))
    · skip
      refine Ow.pass (by simp only [S0, Nat.reduceEqDiff, Nat.reduceAdd, reduceIte, reduceCtorEq, S1, g1_6, g1_7, g1_8, g1_2, hd4]) ?_
      refine Ow.pass (by simp only [S0, Nat.reduceEqDiff, Nat.reduceAdd, reduceIte, reduceCtorEq, S1, g1_6, g1_7, g1_8, g1_2, hd4]) ?_
      (refine Ow.popM rfl ?_; simp only [S0, Nat.reduceEqDiff, Nat.reduceAdd, reduceIte, reduceCtorEq, S1, g1_6, g1_7, g1_8, g1_2, hd4])
      refine Ow.nilM ⟨nofun, ?_⟩
      show Cw _ _ _ _ _
      refine Cw.cond (t := false) (by simp only [S0, Nat.reduceEqDiff, Nat.reduceAdd, reduceIte, reduceCtorEq, S1, g1_6, g1_7, g1_8, g1_2, hd4]) ?_
      refine Cw.skip ?_
      show Cw _ _ _ _ _
      refine Cw.seq ?_
      refine Cw.region ?_
      (refine Ow.popM rfl ?_; simp only [S0, Nat.reduceEqDiff, Nat.reduceAdd, reduceIte, reduceCtorEq, S1, g1_6, g1_7, g1_8, g1_2, hd4])
      refine Ow.nilM ⟨nofun, ?_⟩
      show Cw _ _ _ _ _
      refine Cw.cond (t := false) (by simp only [S0, Nat.reduceEqDiff, Nat.reduceAdd, reduceIte, reduceCtorEq, S1, g1_6, g1_7, g1_8, g1_2, hd4]) ?_
      refine Cw.skip ?_
      show Cw _ _ _ _ _
      refine Cw.region ?_
      iterate 2 (refine Ow.popM rfl ?_; simp only [S0, Nat.reduceEqDiff, Nat.reduceAdd, reduceIte, reduceCtorEq, S1, show fwrap .i64 ((((k1 : Nat) : Int) : Int) + (1 : Int)) = ((k1 + 1 : Nat) : Int) from add_nat (a := k1) (b := 1) (by omega), g1_6, g1_7, g1_8, g1_2, hd4])
      refine Ow.nilM ⟨nofun, ?_⟩
      have e5 : val la % 2 ^ (k1 + 1) = val la % 2 ^ k1 := by rw [mod_bit, val_bit, hd4]; simp
      exact ⟨hlt1, ⟨(by simp only [S0, Nat.reduceEqDiff, Nat.reduceAdd, reduceIte, reduceCtorEq, S1, and_self, g1_6, g1_7, g1_8, g1_2, hd4, e5]), (by simp only [S0, Nat.reduceEqDiff, Nat.reduceAdd, reduceIte, reduceCtorEq, S1, and_self, g1_6, g1_7, g1_8, g1_2, hd4, e5]), (by simp only [S0, Nat.reduceEqDiff, Nat.reduceAdd, reduceIte, reduceCtorEq, S1, and_self, g1_6, g1_7, g1_8, g1_2, hd4, e5] <;> rfl), (by simp only [S0, Nat.reduceEqDiff, Nat.reduceAdd, reduceIte, reduceCtorEq, S1, and_self, g1_6, g1_7, g1_8, g1_2, hd4, e5] <;> rfl)⟩, hx1, (by rw [e5]; exact hsm)⟩
    · skip
      iterate 3 (refine Ow.popM rfl ?_; simp only [S0, Nat.reduceEqDiff, Nat.reduceAdd, reduceIte, reduceCtorEq, S1, show decide ((((k1 : Nat) : Int) : Int) ≥ (64 : Int)) = decide (64 ≤ k1) from ge_dec (k1) (64), g1_6, g1_7, g1_8, g1_2, hd4])
      refine Ow.nilM ⟨nofun, ?_⟩
      show Cw _ _ _ _ _
      by_cases hq6 : 64 ≤ k1
      · have hd6 : decide (64 ≤ k1) = true := decide_eq_true hq6
        refine Cw.cond (t := true) (by simp only [S0, Nat.reduceEqDiff, Nat.reduceAdd, reduceIte, reduceCtorEq, S1, g1_6, g1_7, g1_8, g1_2, hd4, hd6]) ?_
        refine Cw.seq ?_
        refine Cw.region ?_
        iterate 2 (refine Ow.popM rfl ?_; simp only [S0, Nat.reduceEqDiff, Nat.reduceAdd, reduceIte, reduceCtorEq, S1, g1_6, g1_7, g1_8, g1_2, hd4, hd6])
        refine Ow.nilM ⟨nofun, ?_⟩
        show Cw _ _ _ _ _
        refine Cw.ret ?_
        simp only [Then, InBlock, Rnd, FnPost, resOf, tupled, S0, Nat.reduceEqDiff, Nat.reduceAdd, reduceIte, reduceCtorEq, g1_6, g1_7, g1_8, g1_2, hd4, hd6]
        refine ⟨hx1, ?_⟩
        unfold uintV
        have hge := bit_ge (X := val la) (k := k1) (by rw [val_bit]; exact hd4)
        have h64 : 2 ^ 64 ≤ 2 ^ k1 := Nat.pow_le_pow_right (by decide) (by omega)
        rw [if_neg (by omega)]
      · have hd6 : decide (64 ≤ k1) = false := decide_eq_false hq6
        refine Cw.cond (t := false) (by simp only [S0, Nat.reduceEqDiff, Nat.reduceAdd, reduceIte, reduceCtorEq, S1, g1_6, g1_7, g1_8, g1_2, hd4, hd6]) ?_
        refine Cw.skip ?_
        show Cw _ _ _ _ _
        refine Cw.seq ?_
        refine Cw.region ?_
        (refine Ow.popM rfl ?_; simp only [S0, Nat.reduceEqDiff, Nat.reduceAdd, reduceIte, reduceCtorEq, S1, g1_6, g1_7, g1_8, g1_2, hd4, hd6])
        refine Ow.nilM ⟨nofun, ?_⟩
        show Cw _ _ _ _ _
        refine Cw.cond (t := true) (by simp only [S0, Nat.reduceEqDiff, Nat.reduceAdd, reduceIte, reduceCtorEq, S1, g1_6, g1_7, g1_8, g1_2, hd4, hd6]) ?_
        refine Cw.region ?_
        iterate 3 (refine Ow.popM rfl ?_; simp only [S0, Nat.reduceEqDiff, Nat.reduceAdd, reduceIte, reduceCtorEq, S1, shl_u64 (show k1 < 64 by omega), g1_6, g1_7, g1_8, g1_2, hd4, hd6])
        (refine Ow.popM rfl ?_; simp only [S0, Nat.reduceEqDiff, Nat.reduceAdd, reduceIte, reduceCtorEq, S1, or_u64 (Nat.mod_lt (val la) (Nat.two_pow_pos k1)) (show k1 < 64 by omega), g1_6, g1_7, g1_8, g1_2, hd4, hd6])
        (refine Ow.popM rfl ?_; simp only [S0, Nat.reduceEqDiff, Nat.reduceAdd, reduceIte, reduceCtorEq, S1, g1_6, g1_7, g1_8, g1_2, hd4, hd6])
        refine Ow.nilM ⟨nofun, ?_⟩
        show Cw _ _ _ _ _
        refine Cw.region ?_
        iterate 2 (refine Ow.popM rfl ?_; simp only [S0, Nat.reduceEqDiff, Nat.reduceAdd, reduceIte, reduceCtorEq, S1, show fwrap .i64 ((((k1 : Nat) : Int) : Int) + (1 : Int)) = ((k1 + 1 : Nat) : Int) from add_nat (a := k1) (b := 1) (by omega), g1_6, g1_7, g1_8, g1_2, hd4, hd6])
        refine Ow.nilM ⟨nofun, ?_⟩
        have e7 : val la % 2 ^ (k1 + 1) = val la % 2 ^ k1 + 2 ^ k1 := by rw [mod_bit, val_bit, hd4]; simp
        exact ⟨hlt1, ⟨(by simp only [S0, Nat.reduceEqDiff, Nat.reduceAdd, reduceIte, reduceCtorEq, S1, and_self, g1_6, g1_7, g1_8, g1_2, hd4, hd6, e7]), (by simp only [S0, Nat.reduceEqDiff, Nat.reduceAdd, reduceIte, reduceCtorEq, S1, and_self, g1_6, g1_7, g1_8, g1_2, hd4, hd6, e7]), (by simp only [S0, Nat.reduceEqDiff, Nat.reduceAdd, reduceIte, reduceCtorEq, S1, and_self, g1_6, g1_7, g1_8, g1_2, hd4, hd6, e7] <;> rfl), (by simp only [S0, Nat.reduceEqDiff, Nat.reduceAdd, reduceIte, reduceCtorEq, S1, and_self, g1_6, g1_7, g1_8, g1_2, hd4, hd6, e7] <;> rfl)⟩, hx1, (mod_64 (by omega))⟩
  · obtain rfl : la.length = k1 := by omega
    rw [Nat.mod_eq_of_lt (val_lt la)] at hsm g1_2
    refine Cw.seq ?_
    refine Cw.region ?_
    (refine Ow.popM rfl ?_; simp only [S0, Nat.reduceEqDiff, Nat.reduceAdd, reduceIte, reduceCtorEq, S1, show decide ((((la.length : Nat) : Int) : Int) < (((la.length : Nat) : Int) : Int)) = decide (la.length < la.length) from lt_dec (la.length) (la.length), show decide (la.length < la.length) = false from decide_eq_false (Nat.lt_irrefl _), g1_6, g1_7, g1_8, g1_2])
    refine Ow.nilM ⟨nofun, ?_⟩
    show Cw _ _ _ _ _
    refine Cw.seq ?_
    refine Cw.cond (t := false) (by simp only [S0, Nat.reduceEqDiff, Nat.reduceAdd, reduceIte, reduceCtorEq, S1, g1_6, g1_7, g1_8, g1_2]) ?_
    refine Cw.exit ?_
    show Cw _ _ _ _ _
    refine Cw.seq ?_
    refine Cw.region ?_
    iterate 3 (refine Ow.popM rfl ?_; simp only [S0, Nat.reduceEqDiff, Nat.reduceAdd, reduceIte, reduceCtorEq, S1, g1_6, g1_7, g1_8, g1_2])
    refine Ow.nilM ⟨nofun, ?_⟩
    show Cw _ _ _ _ _
    refine Cw.ret ?_
    simp only [Then, InBlock, Rnd, FnPost, resOf, tupled, S0, Nat.reduceEqDiff, Nat.reduceAdd, reduceIte, reduceCtorEq, g1_6, g1_7, g1_8, g1_2]
    refine ⟨hx1, ?_⟩
    unfold uintV
    rw [if_pos hsm]
/-- Uint of the reference -/
theorem rUint_any (hx : Ext0 ext) {H : AH} {va : Value} {la : List Bool} (fa : IsB H va la) (hla : la.length < 2 ^ 34) :
    Run (Cx ext) 176 [va] H fun r H' => AL.Ext H H' ∧ r = uintV la := by
  refine Run.intro (fi := IR.fi176) (hx 176 (by decide)) (by kernel_rfl) ?_
  unfold IR.fi176
  simp only [envOf_cons, envOf_nil]
  refine Cw.seq ?_
  refine Cw.region ?_
  iterate 2 (refine Ow.popM rfl ?_; simp only [S0, Nat.reduceEqDiff, Nat.reduceAdd, reduceIte, reduceCtorEq, S1])
  refine Ow.nilM ⟨nofun, ?_⟩
  show Cw _ _ _ _ _
  refine Cw.seq ?_
  refine Cw.region ?_
  (refine Ow.popM rfl ?_; simp only [S0, Nat.reduceEqDiff, Nat.reduceAdd, reduceIte, reduceCtorEq, S1])
  refine Ow.callA (k := 200) (fs := []) (cs := []) (vs := [va]) rfl rfl (by simp only [S0, Nat.reduceEqDiff, Nat.reduceAdd, reduceIte, reduceCtorEq, S1]) (trim_L hx fa.wl (by first | omega | (simp only [SL]; omega))) (fun _ _ _ h => h) ?_
  rintro v1 H1 hx1 ⟨t1, f1, tv1, tl1, th1⟩
  (refine Ow.popM rfl ?_; simp only [S0, Nat.reduceEqDiff, Nat.reduceAdd, reduceIte, reduceCtorEq, S1])
  refine Ow.nilM ⟨nofun, ?_⟩
  show Cw _ _ _ _ _
  refine Cw.seq ?_
  refine Cw.region ?_
  (refine Ow.popM rfl ?_; simp only [S0, Nat.reduceEqDiff, Nat.reduceAdd, reduceIte, reduceCtorEq, S1])
  refine Ow.nilM ⟨nofun, ?_⟩
  show Cw _ _ _ _ _
  refine Cw.seq ?_
  refine Cw.seq ?_
  refine Cw.region ?_
  (refine Ow.popM rfl ?_; simp only [S0, Nat.reduceEqDiff, Nat.reduceAdd, reduceIte, reduceCtorEq, S1])
  refine Ow.lenA rfl (by simp only [S0, Nat.reduceEqDiff, Nat.reduceAdd, reduceIte, reduceCtorEq, S1]) f1.isB ?_
  iterate 2 (refine Ow.popM rfl ?_; simp only [S0, Nat.reduceEqDiff, Nat.reduceAdd, reduceIte, reduceCtorEq, S1, show fwrap .i64 (((t1.length : Nat) : Int) - (1 : Int)) = (t1.length : Int) - 1 - ((0 : Nat) : Int) from (fw_int (by omega) (by omega)).trans (by omega)])
  refine Ow.nilM ⟨nofun, ?_⟩
  show Cw _ _ _ _ _
  refine Cw.block ?_
  refine Cw.loopI (t1.length) (fun k E Hq => (E.get 0 = some (v1) ∧ E.get 5 = some (.int .i64 ((t1.length : Int) - 1 - ((k : Nat) : Int))) ∧ E.get 4 = some (.int .u64 (((val t1 / 2 ^ (t1.length - k) % 2 ^ 64 : Nat) : Int)))) ∧ AL.Ext H1 Hq) ⟨⟨(by simp only [S0, Nat.reduceEqDiff, Nat.reduceAdd, reduceIte, reduceCtorEq, S1, and_self]), (by simp only [S0, Nat.reduceEqDiff, Nat.reduceAdd, reduceIte, reduceCtorEq, S1, and_self]), (by simp only [S0, Nat.reduceEqDiff, Nat.reduceAdd, reduceIte, reduceCtorEq, eq_self]; rw [Nat.sub_zero, Nat.div_eq_of_lt (val_lt t1)]; rfl)⟩, (AL.Ext.refl _)⟩ ?_
  rintro k2 E2 H2 hk2 ⟨⟨g2_0, g2_5, g2_4⟩, hx2⟩
  by_cases hlt2 : k2 < t1.length
  · skip
    rw [show (t1.length : Int) - 1 - ((k2 : Nat) : Int) = ((t1.length - (k2 + 1) : Nat) : Int) by omega] at g2_5
    refine Cw.seq ?_
    refine Cw.seq ?_
    refine Cw.region ?_
    iterate 2 (refine Ow.popM rfl ?_; simp only [S0, Nat.reduceEqDiff, Nat.reduceAdd, reduceIte, reduceCtorEq, S1, show decide (((t1.length - (k2 + 1) : Nat) : Int) ≥ 0) = true from decide_eq_true (by omega), g2_0, g2_5, g2_4])
    refine Ow.nilM ⟨nofun, ?_⟩
    show Cw _ _ _ _ _
    refine Cw.cond (t := true) (by simp only [S0, Nat.reduceEqDiff, Nat.reduceAdd, reduceIte, reduceCtorEq, S1, g2_0, g2_5, g2_4]) ?_
    refine Cw.skip ?_
    show Cw _ _ _ _ _
    refine Cw.seq ?_
    refine Cw.block ?_
    refine Cw.seq ?_
    refine Cw.region ?_
    iterate 3 (refine Ow.popM rfl ?_; simp only [S0, Nat.reduceEqDiff, Nat.reduceAdd, reduceIte, reduceCtorEq, S1, show fwrap .u64 (((val t1 / 2 ^ (t1.length - k2) % 2 ^ 64 : Nat) : Int) * (2 : Int)) = (((val t1 / 2 ^ (t1.length - k2) % 2 ^ 64) * 2 % 2 ^ 64 : Nat) : Int) from fwrap_u64 _, g2_0, g2_5, g2_4])
    refine Ow.nilM ⟨nofun, ?_⟩
    show Cw _ _ _ _ _
    refine Cw.seq ?_
    refine Cw.region ?_
    iterate 2 (refine Ow.popM rfl ?_; simp only [S0, Nat.reduceEqDiff, Nat.reduceAdd, reduceIte, reduceCtorEq, S1, g2_0, g2_5, g2_4])
    have f1_3 := f1.ext hx2
    refine Ow.rdA (k := .i64) (b := bx t1 (t1.length - (k2 + 1))) (n := t1.length - (k2 + 1)) rfl (fun p => rfl) (by simp only [S0, Nat.reduceEqDiff, Nat.reduceAdd, reduceIte, reduceCtorEq, S1, g2_0, g2_5, g2_4]) (by simp only [S0, Nat.reduceEqDiff, Nat.reduceAdd, reduceIte, reduceCtorEq, S1, g2_0, g2_5, g2_4]) f1_3.isB (bx_lt (by omega)) ?_
    intro p4
    refine Ow.nilM ⟨nofun, ?_⟩
    show Cw _ _ _ _ _
    cases hd5 : (bx t1 (t1.length - (k2 + 1)))
    · skip
      refine Cw.cond (t := false) (by simp only [S0, Nat.reduceEqDiff, Nat.reduceAdd, reduceIte, reduceCtorEq, S1, g2_0, g2_5, g2_4, hd5]) ?_
      refine Cw.skip ?_
      show Cw _ _ _ _ _
      refine Cw.region ?_
      iterate 3 (refine Ow.popM rfl ?_; simp only [S0, Nat.reduceEqDiff, Nat.reduceAdd, reduceIte, reduceCtorEq, S1, show fwrap .i64 (((t1.length - (k2 + 1) : Nat) : Int) - (1 : Int)) = (t1.length : Int) - 1 - ((k2 + 1 : Nat) : Int) from (fw_int (by omega) (by omega)).trans (by omega), g2_0, g2_5, g2_4, hd5])
      refine Ow.nilM ⟨nofun, ?_⟩
      have e6 := div_bit (val t1) (t1.length - (k2 + 1))
      rw [val_bit, hd5, show t1.length - (k2 + 1) + 1 = t1.length - k2 by omega] at e6
      simp only [Bool.toNat_true, Bool.toNat_false, Nat.add_zero] at e6
      exact ⟨hlt2, ⟨(by simp only [S0, Nat.reduceEqDiff, Nat.reduceAdd, reduceIte, reduceCtorEq, S1, and_self, g2_0, g2_5, g2_4, hd5, e6]), (by simp only [S0, Nat.reduceEqDiff, Nat.reduceAdd, reduceIte, reduceCtorEq, S1, and_self, g2_0, g2_5, g2_4, hd5, e6] <;> rfl), (by simp only [S0, Nat.reduceEqDiff, Nat.reduceAdd, reduceIte, reduceCtorEq, S1, and_self, g2_0, g2_5, g2_4, hd5, e6] <;> rfl)⟩, hx2⟩
    · skip
      refine Cw.cond (t := true) (by simp only [S0, Nat.reduceEqDiff, Nat.reduceAdd, reduceIte, reduceCtorEq, S1, g2_0, g2_5, g2_4, hd5]) ?_
      refine Cw.region ?_
      iterate 3 (refine Ow.popM rfl ?_; simp only [S0, Nat.reduceEqDiff, Nat.reduceAdd, reduceIte, reduceCtorEq, S1, show fwrap .u64 ((((val t1 / 2 ^ (t1.length - k2) % 2 ^ 64) * 2 % 2 ^ 64 : Nat) : Int) + (1 : Int)) = ((((val t1 / 2 ^ (t1.length - k2) % 2 ^ 64) * 2 % 2 ^ 64 + 1) % 2 ^ 64 : Nat) : Int) from fwrap_u64 _, g2_0, g2_5, g2_4, hd5])
      refine Ow.nilM ⟨nofun, ?_⟩
      show Cw _ _ _ _ _
      refine Cw.region ?_
      iterate 3 (refine Ow.popM rfl ?_; simp only [S0, Nat.reduceEqDiff, Nat.reduceAdd, reduceIte, reduceCtorEq, S1, show fwrap .i64 (((t1.length - (k2 + 1) : Nat) : Int) - (1 : Int)) = (t1.length : Int) - 1 - ((k2 + 1 : Nat) : Int) from (fw_int (by omega) (by omega)).trans (by omega), g2_0, g2_5, g2_4, hd5])
      refine Ow.nilM ⟨nofun, ?_⟩
      have e7 := div_bit (val t1) (t1.length - (k2 + 1))
      rw [val_bit, hd5, show t1.length - (k2 + 1) + 1 = t1.length - k2 by omega] at e7
      simp only [Bool.toNat_true, Bool.toNat_false, Nat.add_zero] at e7
      rw [← Nat.mod_add_mod] at e7
      exact ⟨hlt2, ⟨(by simp only [S0, Nat.reduceEqDiff, Nat.reduceAdd, reduceIte, reduceCtorEq, S1, and_self, g2_0, g2_5, g2_4, hd5, e7]), (by simp only [S0, Nat.reduceEqDiff, Nat.reduceAdd, reduceIte, reduceCtorEq, S1, and_self, g2_0, g2_5, g2_4, hd5, e7] <;> rfl), (by simp only [S0, Nat.reduceEqDiff, Nat.reduceAdd, reduceIte, reduceCtorEq, S1, and_self, g2_0, g2_5, g2_4, hd5, e7] <;> rfl)⟩, hx2⟩
  · obtain rfl : t1.length = k2 := by omega
    rw [Nat.sub_self, Nat.pow_zero, Nat.div_one] at g2_4
    refine Cw.seq ?_
    refine Cw.seq ?_
    refine Cw.region ?_
    iterate 2 (refine Ow.popM rfl ?_; simp only [S0, Nat.reduceEqDiff, Nat.reduceAdd, reduceIte, reduceCtorEq, S1, show decide ((t1.length : Int) - 1 - ((t1.length : Nat) : Int) ≥ 0) = false from decide_eq_false (by omega), g2_0, g2_5, g2_4])
    refine Ow.nilM ⟨nofun, ?_⟩
    show Cw _ _ _ _ _
    refine Cw.cond (t := false) (by simp only [S0, Nat.reduceEqDiff, Nat.reduceAdd, reduceIte, reduceCtorEq, S1, g2_0, g2_5, g2_4]) ?_
    refine Cw.exit ?_
    show Cw _ _ _ _ _
    refine Cw.seq ?_
    refine Cw.seq ?_
    refine Cw.region ?_
    (refine Ow.popM rfl ?_; simp only [S0, Nat.reduceEqDiff, Nat.reduceAdd, reduceIte, reduceCtorEq, S1, g2_0, g2_5, g2_4])
    have f1_8 := f1.ext hx2
    refine Ow.lenA rfl (by simp only [S0, Nat.reduceEqDiff, Nat.reduceAdd, reduceIte, reduceCtorEq, S1, g2_0, g2_5, g2_4]) f1_8.isB ?_
    (refine Ow.popM rfl ?_; simp only [S0, Nat.reduceEqDiff, Nat.reduceAdd, reduceIte, reduceCtorEq, S1, show decide ((((t1.length : Nat) : Int) : Int) > (64 : Int)) = decide (64 < t1.length) from gt_dec (t1.length) (64), g2_0, g2_5, g2_4])
    refine Ow.nilM ⟨nofun, ?_⟩
    show Cw _ _ _ _ _
    by_cases hq9 : 64 < t1.length
    · have hd9 : decide (64 < t1.length) = true := decide_eq_true hq9
      refine Cw.cond (t := true) (by simp only [S0, Nat.reduceEqDiff, Nat.reduceAdd, reduceIte, reduceCtorEq, S1, g2_0, g2_5, g2_4, hd9]) ?_
      refine Cw.seq ?_
      refine Cw.region ?_
      iterate 2 (refine Ow.popM rfl ?_; simp only [S0, Nat.reduceEqDiff, Nat.reduceAdd, reduceIte, reduceCtorEq, S1, g2_0, g2_5, g2_4, hd9])
      refine Ow.nilM ⟨nofun, ?_⟩
      show Cw _ _ _ _ _
      refine Cw.ret ?_
      simp only [Then, InBlock, Rnd, FnPost, resOf, tupled, S0, Nat.reduceEqDiff, Nat.reduceAdd, reduceIte, reduceCtorEq, g2_0, g2_5, g2_4, hd9]
      refine ⟨(hx1.trans hx2), ?_⟩
      unfold uintV
      rw [← tv1]
      have hv := val_lt t1
      have h64 : 2 ^ 64 ≤ 2 ^ (t1.length - 1) := Nat.pow_le_pow_right (by decide) (by omega)
      have hge : 2 ^ (t1.length - 1) ≤ val t1 := th1.resolve_left (by omega)
      rw [if_neg (by omega)]
    · have hd9 : decide (64 < t1.length) = false := decide_eq_false hq9
      refine Cw.cond (t := false) (by simp only [S0, Nat.reduceEqDiff, Nat.reduceAdd, reduceIte, reduceCtorEq, S1, g2_0, g2_5, g2_4, hd9]) ?_
      refine Cw.skip ?_
      show Cw _ _ _ _ _
      refine Cw.seq ?_
      refine Cw.region ?_
      iterate 3 (refine Ow.popM rfl ?_; simp only [S0, Nat.reduceEqDiff, Nat.reduceAdd, reduceIte, reduceCtorEq, S1, g2_0, g2_5, g2_4, hd9])
      refine Ow.nilM ⟨nofun, ?_⟩
      show Cw _ _ _ _ _
      refine Cw.ret ?_
      simp only [Then, InBlock, Rnd, FnPost, resOf, tupled, S0, Nat.reduceEqDiff, Nat.reduceAdd, reduceIte, reduceCtorEq, g2_0, g2_5, g2_4, hd9]
      refine ⟨(hx1.trans hx2), ?_⟩
      unfold uintV
      rw [← tv1]
      have hv := val_lt t1
      have h64 : 2 ^ t1.length ≤ 2 ^ 64 := Nat.pow_le_pow_right (by decide) (by omega)
      rw [if_pos (by omega), Nat.mod_eq_of_lt (by omega)]
end
section
open Go Go.AL
variable {ext : Nat → Option (List Value → AH → Option (Value × AH))}
/-- What Int answers. -/
def intV (l : List Bool) : Value := if -(2 : Int) ^ 63 ≤ sval l ∧ sval l < (2 : Int) ^ 63 then .tuple ⟨[.int .i64 (sval l), .bool true]⟩ else .tuple ⟨[.int .i64 0, .bool false]⟩
theorem neg_u64 {x : Nat} (h : x ≤ 2 ^ 63) : fwrap .i64 (fwrap .u64 (0 - (x : Int))) = -(x : Int) := by
  rw [fwrap_eq, fwrap_eq]
  have e : ∀ y : Int, IntKind.wrap .u64 y = y % (2 : Int) ^ 64 := fun y => rfl
  have e2 : ∀ y : Int, IntKind.wrap .i64 y = if y % (2 : Int) ^ 64 ≥ 2 ^ 63 then y % (2 : Int) ^ 64 - 2 ^ 64 else y % (2 : Int) ^ 64 := fun y => by
    unfold IntKind.wrap
    simp only [show IntKind.bits .i64 = 64 from rfl, show IntKind.signed .i64 = true from rfl, Bool.true_and, decide_eq_true_eq, Nat.reduceSub]
  rw [e2, e]
  split <;> omega
theorem shl_i64 {k : Nat} (h : k < 63) : aShift .shl .i64 1 (k : Int) = some (.int .i64 ((2 ^ k : Nat) : Int)) := by
  unfold aShift
  rw [if_neg (by omega)]
  simp only [Int.toNat_natCast, show Nat.min k (IntKind.bits .i64) = k from Nat.min_eq_left (by show k ≤ 64; omega), Int.one_mul]
  have e : ((2 : Int) ^ k) = ((2 ^ k : Nat) : Int) := by push_cast; rfl
  rw [e, wrap_small (Nat.pow_lt_pow_right (by decide) h)]
theorem or_i64 {X k : Nat} (hX : X < 2 ^ k) (hk : k < 63) : IntKind.wrap .i64 ((BitVec.ofInt (IntKind.bits .i64) (X : Int) ||| BitVec.ofInt (IntKind.bits .i64) ((2 ^ k : Nat) : Int)).toNat : Int) = ((X + 2 ^ k : Nat) : Int) := by
  have h2 : 2 ^ k + 2 ^ k ≤ 2 ^ 63 := by
    have : 2 ^ (k + 1) ≤ 2 ^ 63 := Nat.pow_le_pow_right (by decide) hk
    rw [Nat.pow_succ] at this
    omega
  have e : (BitVec.ofInt 64 (X : Int) ||| BitVec.ofInt 64 ((2 ^ k : Nat) : Int)).toNat = X + 2 ^ k := by
    rw [BitVec.toNat_or, BitVec.ofInt_natCast, BitVec.ofInt_natCast, BitVec.toNat_ofNat, BitVec.toNat_ofNat, Nat.mod_eq_of_lt (by omega), Nat.mod_eq_of_lt (by omega), or_bit hX]
  rw [show IntKind.bits .i64 = 64 from rfl, e, wrap_small (by omega)]
theorem bx_big {l : List Bool} {j : Nat} (h : l.length ≤ j) : bx l j = false := bx_ge (by omega)
theorem high_bits {l : List Bool} {n : Nat} (b : Bool) (h : ∀ j, n ≤ j → j < l.length → bx l j = b) : val l / 2 ^ n = if b then 2 ^ (l.length - n) - 1 else 0 := by
  apply Nat.eq_of_testBit_eq
  intro i
  rw [Nat.testBit_div_two_pow, val_bit]
  by_cases hi : i + n < l.length
  · rw [h _ (by omega) hi]
    cases b with
    | true => rw [if_pos rfl, Nat.testBit_two_pow_sub_one]; simp; omega
    | false => simp
  · rw [bx_big (by omega)]
    cases b with
    | true => rw [if_pos rfl, Nat.testBit_two_pow_sub_one]; simp; omega
    | false => simp
theorem sval_pos {l : List Bool} (h : ng l = false) : sval l = (val l : Int) := by unfold sval absN; rw [h]; rfl
theorem sval_neg {l : List Bool} (h : ng l = true) : sval l = (val l : Int) - ((2 ^ l.length : Nat) : Int) := by
  unfold sval absN
  have := val_lt l
  rw [h, if_pos rfl, if_pos rfl, Int.ofNat_sub (by omega)]
  omega
theorem sval_high {l : List Bool} (hl : 63 ≤ l.length) (h : ∀ j, 63 ≤ j → j < l.length → bx l j = ng l) : sval l = ((val l % 2 ^ 63 : Nat) : Int) - (if ng l then (2 : Int) ^ 63 else 0) := by
  have hb := high_bits (n := 63) (ng l) h
  have hd := Nat.div_add_mod (val l) (2 ^ 63)
  cases hn : ng l with
  | true =>
    rw [hn, if_pos rfl] at hb
    obtain ⟨d, hd2⟩ : ∃ d, l.length = 63 + d := ⟨l.length - 63, by omega⟩
    have hp := Nat.two_pow_pos d
    rw [sval_neg hn, if_pos rfl]
    have e : val l = 2 ^ 63 * 2 ^ d - 2 ^ 63 + val l % 2 ^ 63 := by
      rw [hb, hd2, Nat.add_sub_cancel_left, Nat.mul_sub, Nat.mul_one] at hd
      exact hd.symm
    rw [hd2, Nat.pow_add]
    have hge : 2 ^ 63 ≤ 2 ^ 63 * 2 ^ d := Nat.le_mul_of_pos_right _ hp
    generalize 2 ^ 63 * 2 ^ d = Q at *
    omega
  | false =>
    rw [hn] at hb
    rw [sval_pos hn]
    simp only [Bool.false_eq_true, if_false] at hb ⊢
    omega
theorem not_fit {l : List Bool} {k : Nat} (hk : 63 ≤ k) (hl : k < l.length) (h : (bx l k != bx l (l.length - 1)) = true) : ¬ (-(2 : Int) ^ 63 ≤ sval l ∧ sval l < (2 : Int) ^ 63) := by
  have h63 : 2 ^ 63 ≤ 2 ^ k := Nat.pow_le_pow_right (by decide) hk
  have hv := val_lt l
  have hng : bx l (l.length - 1) = ng l := rfl
  rw [hng] at h
  cases hn : ng l with
  | false =>
    rw [hn] at h
    have hb : bx l k = true := by simpa using h
    have := bit_ge (X := val l) (k := k) (by rw [val_bit]; exact hb)
    rw [sval_pos hn]
    omega
  | true =>
    rw [hn] at h
    have hb : bx l k = false := by simpa using h
    have hc : (2 ^ l.length - (val l + 1)).testBit k = true := by
      rw [Nat.testBit_two_pow_sub_succ hv, val_bit, hb]
      simp [hl]
    have := bit_ge hc
    rw [sval_neg hn]
    omega
theorem int_neg {n X : Nat} (h1 : 1 ≤ n) (h2 : n < 64) (hX : X < 2 ^ n) (h3 : 2 ^ (n - 1) ≤ X) : fwrap .i64 ((X : Int) - fwrap .i64 (((2 ^ (n - 1) : Nat) : Int) * 2)) = (X : Int) - ((2 ^ n : Nat) : Int) := by
  obtain ⟨m, rfl⟩ : ∃ m, n = m + 1 := ⟨n - 1, by omega⟩
  rw [Nat.add_sub_cancel] at h3 ⊢
  rw [Nat.pow_succ] at hX ⊢
  have hm : 2 ^ m ≤ 2 ^ 62 := Nat.pow_le_pow_right (by decide) (by omega)
  generalize 2 ^ m = Q at *
  have e2 : ∀ y : Int, fwrap .i64 y = if y % (2 : Int) ^ 64 ≥ 2 ^ 63 then y % (2 : Int) ^ 64 - 2 ^ 64 else y % (2 : Int) ^ 64 := fun y => by
    rw [fwrap_eq]
    unfold IntKind.wrap
    simp only [show IntKind.bits .i64 = 64 from rfl, show IntKind.signed .i64 = true from rfl, Bool.true_and, decide_eq_true_eq, Nat.reduceSub]
  rw [e2, e2]
  split <;> split <;> omega
theorem ng_half {l : List Bool} (h : ng l = true) : 2 ^ (l.length - 1) ≤ val l := bit_ge (by rw [val_bit]; exact h)
theorem ng_len {l : List Bool} (h : ng l = true) : 1 ≤ l.length := by
  rcases Nat.eq_zero_or_pos l.length with h0 | h0
  · rw [ng_nil h0] at h; cases h
  · exact h0
/-- Int of the reference -/
theorem rInt_any (hx : Ext0 ext) {H : AH} {va : Value} {la : List Bool} (fa : IsB H va la) (hla : la.length < 2 ^ 33) :
    Run (Cx ext) 139 [va] H fun r H' => AL.Ext H H' ∧ r = intV la := by
  refine Run.intro (fi := IR.fi139) (hx 139 (by decide)) (by kernel_rfl) ?_
  unfold IR.fi139
  simp only [envOf_cons, envOf_nil]
  by_cases hu : absN la < 2 ^ 64
  · have hd1 : decide (absN la < 2 ^ 64) = true := decide_eq_true hu
    refine Cw.seq ?_
    refine Cw.region ?_
    iterate 2 (refine Ow.popM rfl ?_; simp only [S0, Nat.reduceEqDiff, Nat.reduceAdd, reduceIte, reduceCtorEq, S1, hd1])
    refine Ow.nilM ⟨nofun, ?_⟩
    show Cw _ _ _ _ _
    refine Cw.seq ?_
    refine Cw.region ?_
    (refine Ow.popM rfl ?_; simp only [S0, Nat.reduceEqDiff, Nat.reduceAdd, reduceIte, reduceCtorEq, S1, hd1])
    refine Ow.callA (k := 177) (fs := []) (cs := []) (vs := [va]) rfl rfl (by simp only [S0, Nat.reduceEqDiff, Nat.reduceAdd, reduceIte, reduceCtorEq, S1, hd1]) (Size_any hx fa.wl (by first | omega | (simp only [SL]; omega))) (fun _ _ _ h => h) ?_
    rintro v2 H2 hx2 ⟨l2, f2, hv2, hl2⟩
    refine Ow.callA (k := 176) (fs := []) (cs := []) (vs := [v2]) rfl rfl (by simp only [S0, Nat.reduceEqDiff, Nat.reduceAdd, reduceIte, reduceCtorEq, S1, hd1]) (rUint_any hx f2.wl (by omega)) (fun _ _ _ h => h) ?_
    rintro v3 H3 hx3 r3
    unfold uintV at r3
    rw [hv2, if_pos hu] at r3
    subst r3
    iterate 5 (refine Ow.popM rfl ?_; simp only [S0, Nat.reduceEqDiff, Nat.reduceAdd, reduceIte, reduceCtorEq, S1, hd1])
    refine Ow.nilM ⟨nofun, ?_⟩
    show Cw _ _ _ _ _
    refine Cw.seq ?_
    refine Cw.seq ?_
    refine Cw.region ?_
    iterate 4 (refine Ow.popM rfl ?_; simp only [S0, Nat.reduceEqDiff, Nat.reduceAdd, reduceIte, reduceCtorEq, S1, hd1])
    have fa_5 := fa.ext hx2
    have fa_6 := fa_5.ext hx3
    refine Ow.callPA (k := 178) (fs := []) (cs := []) (vs := [va]) (by simp only [S0, Nat.reduceEqDiff, Nat.reduceAdd, reduceIte, reduceCtorEq, S1, hd1]) rfl (by simp only [S0, Nat.reduceEqDiff, Nat.reduceAdd, reduceIte, reduceCtorEq, S1, hd1]) (Negative_any hx fa_6.wl (by first | omega | (simp only [SL]; omega))) ?_
    intro H4 hx4
    iterate 2 (refine Ow.popM rfl ?_; simp only [S0, Nat.reduceEqDiff, Nat.reduceAdd, reduceIte, reduceCtorEq, S1, hd1])
    cases hd7 : (bx la (la.length - 1))
    · skip
      iterate 5 (refine Ow.popM rfl ?_; simp only [S0, Nat.reduceEqDiff, Nat.reduceAdd, reduceIte, reduceCtorEq, S1, show decide (((absN la : Nat) : Int) ≥ (9223372036854775808 : Int)) = decide (9223372036854775808 ≤ absN la) from ge_dec (absN la) 9223372036854775808, hd1, hd7])
      by_cases hq8 : 9223372036854775808 ≤ absN la
      · have hd8 : decide (9223372036854775808 ≤ absN la) = true := decide_eq_true hq8
        refine Ow.pass (by simp only [S0, Nat.reduceEqDiff, Nat.reduceAdd, reduceIte, reduceCtorEq, S1, hd1, hd7, hd8]) ?_
        refine Ow.pass (by simp only [S0, Nat.reduceEqDiff, Nat.reduceAdd, reduceIte, reduceCtorEq, S1, hd1, hd7, hd8]) ?_
        (refine Ow.popM rfl ?_; simp only [S0, Nat.reduceEqDiff, Nat.reduceAdd, reduceIte, reduceCtorEq, S1, hd1, hd7, hd8])
        refine Ow.nilM ⟨nofun, ?_⟩
        show Cw _ _ _ _ _
        refine Cw.cond (t := true) (by simp only [S0, Nat.reduceEqDiff, Nat.reduceAdd, reduceIte, reduceCtorEq, S1, hd1, hd7, hd8]) ?_
        refine Cw.seq ?_
        refine Cw.gen2 (fun E => E.get 0 = some (va) ∧ E.get 4 = some (.int .u64 (((absN la : Nat) : Int)))) ⟨(by simp only [S0, Nat.reduceEqDiff, Nat.reduceAdd, reduceIte, reduceCtorEq, S1, and_self, hd1, hd7, hd8]), (by simp only [S0, Nat.reduceEqDiff, Nat.reduceAdd, reduceIte, reduceCtorEq, S1, and_self, hd1, hd7, hd8])⟩ ?_
        rintro E9 ⟨g9_0, g9_4⟩
        refine Cw.region ?_
        iterate 2 (refine Ow.popM rfl ?_; simp only [S0, Nat.reduceEqDiff, Nat.reduceAdd, reduceIte, reduceCtorEq, S1, g9_0, g9_4, hd1, hd7, hd8])
        refine Ow.nilM ⟨nofun, ?_⟩
        show Cw _ _ _ _ _
        refine Cw.ret ?_
        simp only [Then, InBlock, Rnd, FnPost, resOf, tupled, S0, Nat.reduceEqDiff, Nat.reduceAdd, reduceIte, reduceCtorEq, g9_0, g9_4, hd1, hd7, hd8]
        refine ⟨((hx2.trans hx3).trans hx4), ?_⟩
        unfold intV sval
        rw [show ng la = false from hd7]
        simp only [if_true, if_false, Bool.false_eq_true]
        rw [if_neg (by omega)]
      · have hd8 : decide (9223372036854775808 ≤ absN la) = false := decide_eq_false hq8
        iterate 3 (refine Ow.popM rfl ?_; simp only [S0, Nat.reduceEqDiff, Nat.reduceAdd, reduceIte, reduceCtorEq, S1, show decide (((absN la : Nat) : Int) > (9223372036854775808 : Int)) = decide (9223372036854775808 < absN la) from gt_dec (absN la) 9223372036854775808, hd1, hd7, hd8])
        refine Ow.nilM ⟨nofun, ?_⟩
        show Cw _ _ _ _ _
        by_cases hq10 : 9223372036854775808 < absN la
        · have hd10 : decide (9223372036854775808 < absN la) = true := decide_eq_true hq10
          refine Cw.cond (t := true) (by simp only [S0, Nat.reduceEqDiff, Nat.reduceAdd, reduceIte, reduceCtorEq, S1, hd1, hd7, hd8, hd10]) ?_
          refine Cw.seq ?_
          refine Cw.gen2 (fun E => E.get 0 = some (va) ∧ E.get 4 = some (.int .u64 (((absN la : Nat) : Int)))) ⟨(by simp only [S0, Nat.reduceEqDiff, Nat.reduceAdd, reduceIte, reduceCtorEq, S1, and_self, hd1, hd7, hd8, hd10]), (by simp only [S0, Nat.reduceEqDiff, Nat.reduceAdd, reduceIte, reduceCtorEq, S1, and_self, hd1, hd7, hd8, hd10])⟩ ?_
          rintro E11 ⟨g11_0, g11_4⟩
          refine Cw.region ?_
          iterate 2 (refine Ow.popM rfl ?_; simp only [S0, Nat.reduceEqDiff, Nat.reduceAdd, reduceIte, reduceCtorEq, S1, g11_0, g11_4, hd1, hd7, hd8, hd10])
          refine Ow.nilM ⟨nofun, ?_⟩
          show Cw _ _ _ _ _
          refine Cw.ret ?_
          simp only [Then, InBlock, Rnd, FnPost, resOf, tupled, S0, Nat.reduceEqDiff, Nat.reduceAdd, reduceIte, reduceCtorEq, g11_0, g11_4, hd1, hd7, hd8, hd10]
          refine ⟨((hx2.trans hx3).trans hx4), ?_⟩
          unfold intV sval
          rw [show ng la = false from hd7]
          simp only [if_true, if_false, Bool.false_eq_true]
          rw [if_neg (by omega)]
        · have hd10 : decide (9223372036854775808 < absN la) = false := decide_eq_false hq10
          refine Cw.cond (t := false) (by simp only [S0, Nat.reduceEqDiff, Nat.reduceAdd, reduceIte, reduceCtorEq, S1, hd1, hd7, hd8, hd10]) ?_
          refine Cw.skip ?_
          show Cw _ _ _ _ _
          refine Cw.seq ?_
          refine Cw.seq ?_
          refine Cw.gen2 (fun E => E.get 0 = some (va) ∧ E.get 4 = some (.int .u64 (((absN la : Nat) : Int)))) ⟨(by simp only [S0, Nat.reduceEqDiff, Nat.reduceAdd, reduceIte, reduceCtorEq, S1, and_self, hd1, hd7, hd8, hd10]), (by simp only [S0, Nat.reduceEqDiff, Nat.reduceAdd, reduceIte, reduceCtorEq, S1, and_self, hd1, hd7, hd8, hd10])⟩ ?_
          rintro E12 ⟨g12_0, g12_4⟩
          refine Cw.region ?_
          (refine Ow.popM rfl ?_; simp only [S0, Nat.reduceEqDiff, Nat.reduceAdd, reduceIte, reduceCtorEq, S1, g12_0, g12_4, hd1, hd7, hd8, hd10])
          have fa_14 := fa_6.ext hx4
          refine Ow.callPA (k := 178) (fs := []) (cs := []) (vs := [va]) rfl rfl (by simp only [S0, Nat.reduceEqDiff, Nat.reduceAdd, reduceIte, reduceCtorEq, S1, g12_0, g12_4, hd1, hd7, hd8, hd10]) (Negative_any hx fa_14.wl (by first | omega | (simp only [SL]; omega))) ?_
          intro H13 hx13
          refine Ow.nilM ⟨nofun, ?_⟩
          show Cw _ _ _ _ _
          refine Cw.cond (t := false) (by simp only [S0, Nat.reduceEqDiff, Nat.reduceAdd, reduceIte, reduceCtorEq, S1, g12_0, g12_4, hd1, hd7, hd8, hd10]) ?_
          refine Cw.skip ?_
          show Cw _ _ _ _ _
          refine Cw.seq ?_
          refine Cw.region ?_
          iterate 4 (refine Ow.popM rfl ?_; simp only [S0, Nat.reduceEqDiff, Nat.reduceAdd, reduceIte, reduceCtorEq, S1, fw_nat (show absN la < 2 ^ 63 by omega), g12_0, g12_4, hd1, hd7, hd8, hd10])
          refine Ow.nilM ⟨nofun, ?_⟩
          show Cw _ _ _ _ _
          refine Cw.ret ?_
          simp only [Then, InBlock, Rnd, FnPost, resOf, tupled, S0, Nat.reduceEqDiff, Nat.reduceAdd, reduceIte, reduceCtorEq, g12_0, g12_4, hd1, hd7, hd8, hd10]
          refine ⟨(((hx2.trans hx3).trans hx4).trans hx13), ?_⟩
          unfold intV sval
          rw [show ng la = false from hd7]
          simp only [if_true, if_false, Bool.false_eq_true]
          rw [if_pos (by omega)]
    · skip
      refine Ow.pass (by simp only [S0, Nat.reduceEqDiff, Nat.reduceAdd, reduceIte, reduceCtorEq, S1, hd1, hd7]) ?_
      refine Ow.pass (by simp only [S0, Nat.reduceEqDiff, Nat.reduceAdd, reduceIte, reduceCtorEq, S1, hd1, hd7]) ?_
      iterate 6 (refine Ow.popM rfl ?_; simp only [S0, Nat.reduceEqDiff, Nat.reduceAdd, reduceIte, reduceCtorEq, S1, show decide (((absN la : Nat) : Int) > (9223372036854775808 : Int)) = decide (9223372036854775808 < absN la) from gt_dec (absN la) 9223372036854775808, hd1, hd7])
      refine Ow.nilM ⟨nofun, ?_⟩
      show Cw _ _ _ _ _
      by_cases hq15 : 9223372036854775808 < absN la
      · have hd15 : decide (9223372036854775808 < absN la) = true := decide_eq_true hq15
        refine Cw.cond (t := true) (by simp only [S0, Nat.reduceEqDiff, Nat.reduceAdd, reduceIte, reduceCtorEq, S1, hd1, hd7, hd15]) ?_
        refine Cw.seq ?_
        refine Cw.gen2 (fun E => E.get 0 = some (va) ∧ E.get 4 = some (.int .u64 (((absN la : Nat) : Int)))) ⟨(by simp only [S0, Nat.reduceEqDiff, Nat.reduceAdd, reduceIte, reduceCtorEq, S1, and_self, hd1, hd7, hd15]), (by simp only [S0, Nat.reduceEqDiff, Nat.reduceAdd, reduceIte, reduceCtorEq, S1, and_self, hd1, hd7, hd15])⟩ ?_
        rintro E16 ⟨g16_0, g16_4⟩
        refine Cw.region ?_
        iterate 2 (refine Ow.popM rfl ?_; simp only [S0, Nat.reduceEqDiff, Nat.reduceAdd, reduceIte, reduceCtorEq, S1, g16_0, g16_4, hd1, hd7, hd15])
        refine Ow.nilM ⟨nofun, ?_⟩
        show Cw _ _ _ _ _
        refine Cw.ret ?_
        simp only [Then, InBlock, Rnd, FnPost, resOf, tupled, S0, Nat.reduceEqDiff, Nat.reduceAdd, reduceIte, reduceCtorEq, g16_0, g16_4, hd1, hd7, hd15]
        refine ⟨((hx2.trans hx3).trans hx4), ?_⟩
        unfold intV sval
        rw [show ng la = true from hd7]
        simp only [if_true, if_false, Bool.false_eq_true]
        rw [if_neg (by omega)]
      · have hd15 : decide (9223372036854775808 < absN la) = false := decide_eq_false hq15
        refine Cw.cond (t := false) (by simp only [S0, Nat.reduceEqDiff, Nat.reduceAdd, reduceIte, reduceCtorEq, S1, hd1, hd7, hd15]) ?_
        refine Cw.skip ?_
        show Cw _ _ _ _ _
        refine Cw.seq ?_
        refine Cw.seq ?_
        refine Cw.gen2 (fun E => E.get 0 = some (va) ∧ E.get 4 = some (.int .u64 (((absN la : Nat) : Int)))) ⟨(by simp only [S0, Nat.reduceEqDiff, Nat.reduceAdd, reduceIte, reduceCtorEq, S1, and_self, hd1, hd7, hd15]), (by simp only [S0, Nat.reduceEqDiff, Nat.reduceAdd, reduceIte, reduceCtorEq, S1, and_self, hd1, hd7, hd15])⟩ ?_
        rintro E17 ⟨g17_0, g17_4⟩
        refine Cw.region ?_
        (refine Ow.popM rfl ?_; simp only [S0, Nat.reduceEqDiff, Nat.reduceAdd, reduceIte, reduceCtorEq, S1, g17_0, g17_4, hd1, hd7, hd15])
        have fa_19 := fa_6.ext hx4
        refine Ow.callPA (k := 178) (fs := []) (cs := []) (vs := [va]) rfl rfl (by simp only [S0, Nat.reduceEqDiff, Nat.reduceAdd, reduceIte, reduceCtorEq, S1, g17_0, g17_4, hd1, hd7, hd15]) (Negative_any hx fa_19.wl (by first | omega | (simp only [SL]; omega))) ?_
        intro H18 hx18
        refine Ow.nilM ⟨nofun, ?_⟩
        show Cw _ _ _ _ _
        refine Cw.cond (t := true) (by simp only [S0, Nat.reduceEqDiff, Nat.reduceAdd, reduceIte, reduceCtorEq, S1, g17_0, g17_4, hd1, hd7, hd15]) ?_
        refine Cw.seq ?_
        refine Cw.region ?_
        iterate 5 (refine Ow.popM rfl ?_; simp only [S0, Nat.reduceEqDiff, Nat.reduceAdd, reduceIte, reduceCtorEq, S1, neg_u64 (show absN la ≤ 2 ^ 63 by omega), g17_0, g17_4, hd1, hd7, hd15])
        refine Ow.nilM ⟨nofun, ?_⟩
        show Cw _ _ _ _ _
        refine Cw.ret ?_
        simp only [Then, InBlock, Rnd, FnPost, resOf, tupled, S0, Nat.reduceEqDiff, Nat.reduceAdd, reduceIte, reduceCtorEq, g17_0, g17_4, hd1, hd7, hd15]
        refine ⟨(((hx2.trans hx3).trans hx4).trans hx18), ?_⟩
        unfold intV sval
        rw [show ng la = true from hd7]
        simp only [if_true, if_false, Bool.false_eq_true]
        rw [if_pos (by omega)]
  · have hd20 : decide (absN la < 2 ^ 64) = false := decide_eq_false hu
    refine Cw.seq ?_
    refine Cw.region ?_
    iterate 2 (refine Ow.popM rfl ?_; simp only [S0, Nat.reduceEqDiff, Nat.reduceAdd, reduceIte, reduceCtorEq, S1, hd20])
    refine Ow.nilM ⟨nofun, ?_⟩
    show Cw _ _ _ _ _
    refine Cw.seq ?_
    refine Cw.region ?_
    (refine Ow.popM rfl ?_; simp only [S0, Nat.reduceEqDiff, Nat.reduceAdd, reduceIte, reduceCtorEq, S1, hd20])
    refine Ow.callA (k := 177) (fs := []) (cs := []) (vs := [va]) rfl rfl (by simp only [S0, Nat.reduceEqDiff, Nat.reduceAdd, reduceIte, reduceCtorEq, S1, hd20]) (Size_any hx fa.wl (by first | omega | (simp only [SL]; omega))) (fun _ _ _ h => h) ?_
    rintro v21 H21 hx21 ⟨l21, f21, hv21, hl21⟩
    refine Ow.callA (k := 176) (fs := []) (cs := []) (vs := [v21]) rfl rfl (by simp only [S0, Nat.reduceEqDiff, Nat.reduceAdd, reduceIte, reduceCtorEq, S1, hd20]) (rUint_any hx f21.wl (by omega)) (fun _ _ _ h => h) ?_
    rintro v22 H22 hx22 r22
    unfold uintV at r22
    rw [hv21, if_neg hu] at r22
    subst r22
    iterate 5 (refine Ow.popM rfl ?_; simp only [S0, Nat.reduceEqDiff, Nat.reduceAdd, reduceIte, reduceCtorEq, S1, hd20])
    refine Ow.nilM ⟨nofun, ?_⟩
    show Cw _ _ _ _ _
    refine Cw.seq ?_
    refine Cw.seq ?_
    refine Cw.region ?_
    iterate 3 (refine Ow.popM rfl ?_; simp only [S0, Nat.reduceEqDiff, Nat.reduceAdd, reduceIte, reduceCtorEq, S1, hd20])
    refine Ow.pass (by simp only [S0, Nat.reduceEqDiff, Nat.reduceAdd, reduceIte, reduceCtorEq, S1, hd20]) ?_
    refine Ow.pass (by simp only [S0, Nat.reduceEqDiff, Nat.reduceAdd, reduceIte, reduceCtorEq, S1, hd20]) ?_
    refine Ow.pass (by simp only [S0, Nat.reduceEqDiff, Nat.reduceAdd, reduceIte, reduceCtorEq, S1, hd20]) ?_
    refine Ow.pass (by simp only [S0, Nat.reduceEqDiff, Nat.reduceAdd, reduceIte, reduceCtorEq, S1, hd20]) ?_
    refine Ow.pass (by simp only [S0, Nat.reduceEqDiff, Nat.reduceAdd, reduceIte, reduceCtorEq, undefA, hd20]) ?_
    refine Ow.pass (by simp only [S0, Nat.reduceEqDiff, Nat.reduceAdd, reduceIte, reduceCtorEq, undefA, hd20]) ?_
    refine Ow.pass (by simp only [S0, Nat.reduceEqDiff, Nat.reduceAdd, reduceIte, reduceCtorEq, S1, hd20]) ?_
    iterate 2 (refine Ow.popM rfl ?_; simp only [S0, Nat.reduceEqDiff, Nat.reduceAdd, reduceIte, reduceCtorEq, S1, hd20])
    refine Ow.pass (by simp only [S0, Nat.reduceEqDiff, Nat.reduceAdd, reduceIte, reduceCtorEq, S1, hd20]) ?_
    refine Ow.pass (by simp only [S0, Nat.reduceEqDiff, Nat.reduceAdd, reduceIte, reduceCtorEq, S1, hd20]) ?_
    (refine Ow.popM rfl ?_; simp only [S0, Nat.reduceEqDiff, Nat.reduceAdd, reduceIte, reduceCtorEq, S1, hd20])
    refine Ow.nilM ⟨nofun, ?_⟩
    show Cw _ _ _ _ _
    refine Cw.cond (t := true) (by simp only [S0, Nat.reduceEqDiff, Nat.reduceAdd, reduceIte, reduceCtorEq, S1, hd20]) ?_
    refine Cw.seq ?_
    refine Cw.gen2 (fun E => E.get 0 = some (va) ∧ E.get 4 = some (.int .u64 (0))) ⟨(by simp only [S0, Nat.reduceEqDiff, Nat.reduceAdd, reduceIte, reduceCtorEq, S1, and_self, hd20]), (by simp only [S0, Nat.reduceEqDiff, Nat.reduceAdd, reduceIte, reduceCtorEq, S1, and_self, hd20])⟩ ?_
    rintro E23 ⟨g23_0, g23_4⟩
    refine Cw.region ?_
    iterate 2 (refine Ow.popM rfl ?_; simp only [S0, Nat.reduceEqDiff, Nat.reduceAdd, reduceIte, reduceCtorEq, S1, g23_0, g23_4, hd20])
    refine Ow.nilM ⟨nofun, ?_⟩
    show Cw _ _ _ _ _
    refine Cw.ret ?_
    simp only [Then, InBlock, Rnd, FnPost, resOf, tupled, S0, Nat.reduceEqDiff, Nat.reduceAdd, reduceIte, reduceCtorEq, g23_0, g23_4, hd20]
    refine ⟨(hx21.trans hx22), ?_⟩
    unfold intV sval
    cases ng la <;> simp only [if_true, if_false, Bool.false_eq_true] <;> rw [if_neg (by omega)]
theorem fw64 {x : Int} (h1 : -(2 ^ 63) ≤ x) (h2 : x < 2 ^ 63) : fwrap .i64 x = x := by
  rw [fwrap_eq]
  unfold IntKind.wrap
  simp only [show IntKind.bits .i64 = 64 from rfl, show IntKind.signed .i64 = true from rfl, Bool.true_and, decide_eq_true_eq, Nat.reduceSub]
  split <;> omega
/-- bv.Int -/
theorem bInt_any (hx : Ext0 ext) {H : AH} {va : Value} {la : List Bool} (fa : IsB H va la) (hla : la.length < 2 ^ 33) :
    Run (Cx ext) 132 [va] H fun r H' => AL.Ext H H' ∧ r = intV la := by
  refine Run.intro (fi := IR.fi132) (hx 132 (by decide)) (by kernel_rfl) ?_
  unfold IR.fi132
  simp only [envOf_cons, envOf_nil]
  refine Cw.seq ?_
  refine Cw.region ?_
  iterate 2 (refine Ow.popM rfl ?_; simp only [S0, Nat.reduceEqDiff, Nat.reduceAdd, reduceIte, reduceCtorEq, S1])
  refine Ow.nilM ⟨nofun, ?_⟩
  show Cw _ _ _ _ _
  refine Cw.seq ?_
  refine Cw.region ?_
  (refine Ow.popM rfl ?_; simp only [S0, Nat.reduceEqDiff, Nat.reduceAdd, reduceIte, reduceCtorEq, S1])
  refine Ow.nilM ⟨nofun, ?_⟩
  show Cw _ _ _ _ _
  refine Cw.seq ?_
  refine Cw.seq ?_
  refine Cw.region ?_
  (refine Ow.popM rfl ?_; simp only [S0, Nat.reduceEqDiff, Nat.reduceAdd, reduceIte, reduceCtorEq, S1])
  refine Ow.lenA rfl (by simp only [S0, Nat.reduceEqDiff, Nat.reduceAdd, reduceIte, reduceCtorEq, S1]) fa ?_
  (refine Ow.popM rfl ?_; simp only [S0, Nat.reduceEqDiff, Nat.reduceAdd, reduceIte, reduceCtorEq, S1])
  refine Ow.nilM ⟨nofun, ?_⟩
  show Cw _ _ _ _ _
  refine Cw.block ?_
  refine Cw.loopI (la.length) (fun k E Hq => (E.get 0 = some (va) ∧ E.get 7 = some (va) ∧ E.get 8 = some (.int .i64 ((la.length : Nat) : Int)) ∧ E.get 9 = some (.int .i64 ((k : Nat) : Int)) ∧ E.get 4 = some (.int .i64 (((val la % 2 ^ min k 63 : Nat) : Int)))) ∧ AL.Ext H Hq ∧ (∀ j, 63 ≤ j → j < k → bx la j = ng la)) ⟨⟨(by simp only [S0, Nat.reduceEqDiff, Nat.reduceAdd, reduceIte, reduceCtorEq, S1, and_self]), (by simp only [S0, Nat.reduceEqDiff, Nat.reduceAdd, reduceIte, reduceCtorEq, S1, and_self]), (by simp only [S0, Nat.reduceEqDiff, Nat.reduceAdd, reduceIte, reduceCtorEq, S1, and_self]), (by simp only [S0, Nat.reduceEqDiff, Nat.reduceAdd, reduceIte, reduceCtorEq, eq_self] <;> first | rfl | simp [Nat.mod_one]), (by simp only [S0, Nat.reduceEqDiff, Nat.reduceAdd, reduceIte, reduceCtorEq, eq_self]; simp [Nat.mod_one])⟩, (AL.Ext.refl _), (fun j h1 h2 => by omega)⟩ ?_
  rintro k1 E1 H1 hk1 ⟨⟨g1_0, g1_7, g1_8, g1_9, g1_4⟩, hx1, hs⟩
  by_cases hlt1 : k1 < la.length
  · skip
    refine Cw.seq ?_
    refine Cw.region ?_
    (refine Ow.popM rfl ?_; simp only [S0, Nat.reduceEqDiff, Nat.reduceAdd, reduceIte, reduceCtorEq, S1, show decide ((((k1 : Nat) : Int) : Int) < (((la.length : Nat) : Int) : Int)) = decide (k1 < la.length) from lt_dec (k1) (la.length), show decide (k1 < la.length) = true from decide_eq_true (hlt1), g1_0, g1_7, g1_8, g1_9, g1_4])
    refine Ow.nilM ⟨nofun, ?_⟩
    show Cw _ _ _ _ _
    refine Cw.seq ?_
    refine Cw.cond (t := true) (by simp only [S0, Nat.reduceEqDiff, Nat.reduceAdd, reduceIte, reduceCtorEq, S1, g1_0, g1_7, g1_8, g1_9, g1_4]) ?_
    refine Cw.skip ?_
    show Cw _ _ _ _ _
    refine Cw.seq ?_
    refine Cw.block ?_
    refine Cw.seq ?_
    refine Cw.region ?_
    (refine Ow.popM rfl ?_; simp only [S0, Nat.reduceEqDiff, Nat.reduceAdd, reduceIte, reduceCtorEq, S1, g1_0, g1_7, g1_8, g1_9, g1_4])
    have fa_2 := fa.ext hx1
    refine Ow.rdA (k := .i64) (b := bx la (k1)) (n := k1) rfl (fun p => rfl) (by simp only [S0, Nat.reduceEqDiff, Nat.reduceAdd, reduceIte, reduceCtorEq, S1, g1_0, g1_7, g1_8, g1_9, g1_4]) (by simp only [S0, Nat.reduceEqDiff, Nat.reduceAdd, reduceIte, reduceCtorEq, S1, g1_0, g1_7, g1_8, g1_9, g1_4]) fa_2 (bx_lt (by omega)) ?_
    intro p3
    iterate 2 (refine Ow.popM rfl ?_; simp only [S0, Nat.reduceEqDiff, Nat.reduceAdd, reduceIte, reduceCtorEq, S1, g1_0, g1_7, g1_8, g1_9, g1_4])
    refine Ow.nilM ⟨nofun, ?_⟩
    show Cw _ _ _ _ _
    refine Cw.seq ?_
    refine Cw.seq ?_
    refine Cw.region ?_
    iterate 3 (refine Ow.popM rfl ?_; simp only [S0, Nat.reduceEqDiff, Nat.reduceAdd, reduceIte, reduceCtorEq, S1, show decide ((((k1 : Nat) : Int) : Int) ≥ (63 : Int)) = decide (63 ≤ k1) from ge_dec (k1) (63), g1_0, g1_7, g1_8, g1_9, g1_4])
    by_cases hq4 : 63 ≤ k1
    · have hd4 : decide (63 ≤ k1) = true := decide_eq_true hq4
      iterate 3 (refine Ow.popM rfl ?_; simp only [S0, Nat.reduceEqDiff, Nat.reduceAdd, reduceIte, reduceCtorEq, S1, g1_0, g1_7, g1_8, g1_9, g1_4, hd4])
      refine Ow.lenA (by simp only [S0, Nat.reduceEqDiff, Nat.reduceAdd, reduceIte, reduceCtorEq, S1, g1_0, g1_7, g1_8, g1_9, g1_4, hd4]) (by simp only [S0, Nat.reduceEqDiff, Nat.reduceAdd, reduceIte, reduceCtorEq, S1, g1_0, g1_7, g1_8, g1_9, g1_4, hd4]) fa_2 ?_
      (refine Ow.popM rfl ?_; simp only [S0, Nat.reduceEqDiff, Nat.reduceAdd, reduceIte, reduceCtorEq, S1, show fwrap .i64 ((((la.length : Nat) : Int) : Int) - (1 : Int)) = ((la.length - 1 : Nat) : Int) from sub_nat (a := la.length) (b := 1) (by omega) (by omega), g1_0, g1_7, g1_8, g1_9, g1_4, hd4])
      refine Ow.rdA (k := .i64) (b := bx la (la.length - 1)) (n := la.length - 1) (by simp only [S0, Nat.reduceEqDiff, Nat.reduceAdd, reduceIte, reduceCtorEq, S1, g1_0, g1_7, g1_8, g1_9, g1_4, hd4]) (fun p => (by simp only [S0, Nat.reduceEqDiff, Nat.reduceAdd, reduceIte, reduceCtorEq, S1, g1_0, g1_7, g1_8, g1_9, g1_4, hd4])) (by simp only [S0, Nat.reduceEqDiff, Nat.reduceAdd, reduceIte, reduceCtorEq, S1, g1_0, g1_7, g1_8, g1_9, g1_4, hd4]) (by simp only [S0, Nat.reduceEqDiff, Nat.reduceAdd, reduceIte, reduceCtorEq, S1, g1_0, g1_7, g1_8, g1_9, g1_4, hd4]) fa_2 (bx_lt (by omega)) ?_
      intro p5
      iterate 2 (refine Ow.popM rfl ?_; simp only [S0, Nat.reduceEqDiff, Nat.reduceAdd, reduceIte, reduceCtorEq, S1, g1_0, g1_7, g1_8, g1_9, g1_4, hd4])
      refine Ow.nilM ⟨nofun, ?_⟩
      show Cw _ _ _ _ _
      cases hd6 : ((bx la (k1) != bx la (la.length - 1)))
      · skip
        refine Cw.cond (t := false) (by simp only [S0, Nat.reduceEqDiff, Nat.reduceAdd, reduceIte, reduceCtorEq, S1, g1_0, g1_7, g1_8, g1_9, g1_4, hd4, hd6]) ?_
        refine Cw.skip ?_
        show Cw _ _ _ _ _
        refine Cw.seq ?_
        refine Cw.region ?_
        iterate 2 (refine Ow.popM rfl ?_; simp only [S0, Nat.reduceEqDiff, Nat.reduceAdd, reduceIte, reduceCtorEq, S1, g1_0, g1_7, g1_8, g1_9, g1_4, hd4, hd6])
        cases hd7 : (bx la (k1))
        · skip
          refine Ow.pass (by simp only [S0, Nat.reduceEqDiff, Nat.reduceAdd, reduceIte, reduceCtorEq, S1, g1_0, g1_7, g1_8, g1_9, g1_4, hd4, hd6, hd7]) ?_
          refine Ow.pass (by simp only [S0, Nat.reduceEqDiff, Nat.reduceAdd, reduceIte, reduceCtorEq, S1, g1_0, g1_7, g1_8, g1_9, g1_4, hd4, hd6, hd7]) ?_
          (refine Ow.popM rfl ?_; simp only [S0, Nat.reduceEqDiff, Nat.reduceAdd, reduceIte, reduceCtorEq, S1, g1_0, g1_7, g1_8, g1_9, g1_4, hd4, hd6, hd7])
          refine Ow.nilM ⟨nofun, ?_⟩
          show Cw _ _ _ _ _
          refine Cw.cond (t := false) (by simp only [S0, Nat.reduceEqDiff, Nat.reduceAdd, reduceIte, reduceCtorEq, S1, g1_0, g1_7, g1_8, g1_9, g1_4, hd4, hd6, hd7]) ?_
          refine Cw.skip ?_
          show Cw _ _ _ _ _
          refine Cw.region ?_
          iterate 2 (refine Ow.popM rfl ?_; simp only [S0, Nat.reduceEqDiff, Nat.reduceAdd, reduceIte, reduceCtorEq, S1, show fwrap .i64 ((((k1 : Nat) : Int) : Int) + (1 : Int)) = ((k1 + 1 : Nat) : Int) from add_nat (a := k1) (b := 1) (by omega), g1_0, g1_7, g1_8, g1_9, g1_4, hd4, hd6, hd7])
          refine Ow.nilM ⟨nofun, ?_⟩
          have e8 : val la % 2 ^ min (k1 + 1) 63 = val la % 2 ^ min k1 63 := by rw [show min (k1 + 1) 63 = 63 by omega, show min k1 63 = 63 by omega]
          have hs : ∀ j, 63 ≤ j → j < k1 + 1 → bx la j = ng la := fun j h1 h2 => by
            by_cases hj : j < k1
            · exact hs j h1 hj
            · obtain rfl : j = k1 := by omega
              exact bne_eq_false_iff_eq.1 hd6
          exact ⟨hlt1, ⟨(by simp only [S0, Nat.reduceEqDiff, Nat.reduceAdd, reduceIte, reduceCtorEq, S1, and_self, g1_0, g1_7, g1_8, g1_9, g1_4, hd4, hd6, hd7, e8]), (by simp only [S0, Nat.reduceEqDiff, Nat.reduceAdd, reduceIte, reduceCtorEq, S1, and_self, g1_0, g1_7, g1_8, g1_9, g1_4, hd4, hd6, hd7, e8]), (by simp only [S0, Nat.reduceEqDiff, Nat.reduceAdd, reduceIte, reduceCtorEq, S1, and_self, g1_0, g1_7, g1_8, g1_9, g1_4, hd4, hd6, hd7, e8]), (by simp only [S0, Nat.reduceEqDiff, Nat.reduceAdd, reduceIte, reduceCtorEq, S1, and_self, g1_0, g1_7, g1_8, g1_9, g1_4, hd4, hd6, hd7, e8] <;> rfl), (by simp only [S0, Nat.reduceEqDiff, Nat.reduceAdd, reduceIte, reduceCtorEq, S1, and_self, g1_0, g1_7, g1_8, g1_9, g1_4, hd4, hd6, hd7, e8] <;> rfl)⟩, hx1, hs⟩
        · skip
          iterate 3 (refine Ow.popM rfl ?_; simp only [S0, Nat.reduceEqDiff, Nat.reduceAdd, reduceIte, reduceCtorEq, S1, show decide ((((k1 : Nat) : Int) : Int) < (63 : Int)) = decide (k1 < 63) from lt_dec (k1) (63), show decide (k1 < 63) = false from decide_eq_false (by omega), g1_0, g1_7, g1_8, g1_9, g1_4, hd4, hd6, hd7])
          refine Ow.nilM ⟨nofun, ?_⟩
          show Cw _ _ _ _ _
          refine Cw.cond (t := false) (by simp only [S0, Nat.reduceEqDiff, Nat.reduceAdd, reduceIte, reduceCtorEq, S1, g1_0, g1_7, g1_8, g1_9, g1_4, hd4, hd6, hd7]) ?_
          refine Cw.skip ?_
          show Cw _ _ _ _ _
          refine Cw.region ?_
          iterate 2 (refine Ow.popM rfl ?_; simp only [S0, Nat.reduceEqDiff, Nat.reduceAdd, reduceIte, reduceCtorEq, S1, show fwrap .i64 ((((k1 : Nat) : Int) : Int) + (1 : Int)) = ((k1 + 1 : Nat) : Int) from add_nat (a := k1) (b := 1) (by omega), g1_0, g1_7, g1_8, g1_9, g1_4, hd4, hd6, hd7])
          refine Ow.nilM ⟨nofun, ?_⟩
          have e9 : val la % 2 ^ min (k1 + 1) 63 = val la % 2 ^ min k1 63 := by rw [show min (k1 + 1) 63 = 63 by omega, show min k1 63 = 63 by omega]
          have hs : ∀ j, 63 ≤ j → j < k1 + 1 → bx la j = ng la := fun j h1 h2 => by
            by_cases hj : j < k1
            · exact hs j h1 hj
            · obtain rfl : j = k1 := by omega
              exact bne_eq_false_iff_eq.1 hd6
          exact ⟨hlt1, ⟨(by simp only [S0, Nat.reduceEqDiff, Nat.reduceAdd, reduceIte, reduceCtorEq, S1, and_self, g1_0, g1_7, g1_8, g1_9, g1_4, hd4, hd6, hd7, e9]), (by simp only [S0, Nat.reduceEqDiff, Nat.reduceAdd, reduceIte, reduceCtorEq, S1, and_self, g1_0, g1_7, g1_8, g1_9, g1_4, hd4, hd6, hd7, e9]), (by simp only [S0, Nat.reduceEqDiff, Nat.reduceAdd, reduceIte, reduceCtorEq, S1, and_self, g1_0, g1_7, g1_8, g1_9, g1_4, hd4, hd6, hd7, e9]), (by simp only [S0, Nat.reduceEqDiff, Nat.reduceAdd, reduceIte, reduceCtorEq, S1, and_self, g1_0, g1_7, g1_8, g1_9, g1_4, hd4, hd6, hd7, e9] <;> rfl), (by simp only [S0, Nat.reduceEqDiff, Nat.reduceAdd, reduceIte, reduceCtorEq, S1, and_self, g1_0, g1_7, g1_8, g1_9, g1_4, hd4, hd6, hd7, e9] <;> rfl)⟩, hx1, hs⟩
      · skip
        refine Cw.cond (t := true) (by simp only [S0, Nat.reduceEqDiff, Nat.reduceAdd, reduceIte, reduceCtorEq, S1, g1_0, g1_7, g1_8, g1_9, g1_4, hd4, hd6]) ?_
        refine Cw.seq ?_
        refine Cw.region ?_
        iterate 2 (refine Ow.popM rfl ?_; simp only [S0, Nat.reduceEqDiff, Nat.reduceAdd, reduceIte, reduceCtorEq, S1, g1_0, g1_7, g1_8, g1_9, g1_4, hd4, hd6])
        refine Ow.nilM ⟨nofun, ?_⟩
        show Cw _ _ _ _ _
        refine Cw.ret ?_
        simp only [Then, InBlock, Rnd, FnPost, resOf, tupled, S0, Nat.reduceEqDiff, Nat.reduceAdd, reduceIte, reduceCtorEq, g1_0, g1_7, g1_8, g1_9, g1_4, hd4, hd6]
        refine ⟨hx1, ?_⟩
        unfold intV
        rw [if_neg (not_fit (k := k1) (by omega) (by omega) hd6)]
    · have hd4 : decide (63 ≤ k1) = false := decide_eq_false hq4
      refine Ow.pass (by simp only [S0, Nat.reduceEqDiff, Nat.reduceAdd, reduceIte, reduceCtorEq, S1, g1_0, g1_7, g1_8, g1_9, g1_4, hd4]) ?_
      refine Ow.pass (by simp only [S0, Nat.reduceEqDiff, Nat.reduceAdd, reduceIte, reduceCtorEq, S1, g1_0, g1_7, g1_8, g1_9, g1_4, hd4]) ?_
      refine Ow.pass (by simp only [S0, Nat.reduceEqDiff, Nat.reduceAdd, reduceIte, reduceCtorEq, S1, g1_0, g1_7, g1_8, g1_9, g1_4, hd4]) ?_
      refine Ow.pass (by simp only [S0, Nat.reduceEqDiff, Nat.reduceAdd, reduceIte, reduceCtorEq, S1, g1_0, g1_7, g1_8, g1_9, g1_4, hd4]) ?_
      refine Ow.pass (by simp only [S0, Nat.reduceEqDiff, Nat.reduceAdd, reduceIte, reduceCtorEq, S1, g1_0, g1_7, g1_8, g1_9, g1_4, hd4]) ?_
      refine Ow.pass (by simp only [S0, Nat.reduceEqDiff, Nat.reduceAdd, reduceIte, reduceCtorEq, S1, g1_0, g1_7, g1_8, g1_9, g1_4, hd4]) ?_
      refine Ow.pass (by simp only [S0, Nat.reduceEqDiff, Nat.reduceAdd, reduceIte, reduceCtorEq, S1, g1_0, g1_7, g1_8, g1_9, g1_4, hd4]) ?_
      refine Ow.pass (by simp only [S0, Nat.reduceEqDiff, Nat.reduceAdd, reduceIte, reduceCtorEq, S1, g1_0, g1_7, g1_8, g1_9, g1_4, hd4]) ?_
      (refine Ow.popM rfl ?_; simp only [S0, Nat.reduceEqDiff, Nat.reduceAdd, reduceIte, reduceCtorEq, S1, g1_0, g1_7, g1_8, g1_9, g1_4, hd4])
      refine Ow.nilM ⟨nofun, ?_⟩
      show Cw _ _ _ _ _
      refine Cw.cond (t := false) (by simp only [S0, Nat.reduceEqDiff, Nat.reduceAdd, reduceIte, reduceCtorEq, S1, g1_0, g1_7, g1_8, g1_9, g1_4, hd4]) ?_
      refine Cw.skip ?_
      show Cw _ _ _ _ _
      refine Cw.seq ?_
      refine Cw.region ?_
      iterate 2 (refine Ow.popM rfl ?_; simp only [S0, Nat.reduceEqDiff, Nat.reduceAdd, reduceIte, reduceCtorEq, S1, g1_0, g1_7, g1_8, g1_9, g1_4, hd4])
      cases hd10 : (bx la (k1))
      · skip
        refine Ow.pass (by simp only [S0, Nat.reduceEqDiff, Nat.reduceAdd, reduceIte, reduceCtorEq, S1, g1_0, g1_7, g1_8, g1_9, g1_4, hd4, hd10]) ?_
        refine Ow.pass (by simp only [S0, Nat.reduceEqDiff, Nat.reduceAdd, reduceIte, reduceCtorEq, S1, g1_0, g1_7, g1_8, g1_9, g1_4, hd4, hd10]) ?_
        (refine Ow.popM rfl ?_; simp only [S0, Nat.reduceEqDiff, Nat.reduceAdd, reduceIte, reduceCtorEq, S1, g1_0, g1_7, g1_8, g1_9, g1_4, hd4, hd10])
        refine Ow.nilM ⟨nofun, ?_⟩
        show Cw _ _ _ _ _
        refine Cw.cond (t := false) (by simp only [S0, Nat.reduceEqDiff, Nat.reduceAdd, reduceIte, reduceCtorEq, S1, g1_0, g1_7, g1_8, g1_9, g1_4, hd4, hd10]) ?_
        refine Cw.skip ?_
        show Cw _ _ _ _ _
        refine Cw.region ?_
        iterate 2 (refine Ow.popM rfl ?_; simp only [S0, Nat.reduceEqDiff, Nat.reduceAdd, reduceIte, reduceCtorEq, S1, show fwrap .i64 ((((k1 : Nat) : Int) : Int) + (1 : Int)) = ((k1 + 1 : Nat) : Int) from add_nat (a := k1) (b := 1) (by omega), g1_0, g1_7, g1_8, g1_9, g1_4, hd4, hd10])
        refine Ow.nilM ⟨nofun, ?_⟩
        have e11 : val la % 2 ^ min (k1 + 1) 63 = val la % 2 ^ k1 := by rw [show min (k1 + 1) 63 = k1 + 1 by omega, mod_bit, val_bit, hd10]; simp
        have e11b : min k1 63 = k1 := by omega
        have hs : ∀ j, 63 ≤ j → j < k1 + 1 → bx la j = ng la := fun j h1 h2 => by omega
        exact ⟨hlt1, ⟨(by simp only [S0, Nat.reduceEqDiff, Nat.reduceAdd, reduceIte, reduceCtorEq, S1, and_self, g1_0, g1_7, g1_8, g1_9, g1_4, hd4, hd10, e11b, e11]), (by simp only [S0, Nat.reduceEqDiff, Nat.reduceAdd, reduceIte, reduceCtorEq, S1, and_self, g1_0, g1_7, g1_8, g1_9, g1_4, hd4, hd10, e11b, e11]), (by simp only [S0, Nat.reduceEqDiff, Nat.reduceAdd, reduceIte, reduceCtorEq, S1, and_self, g1_0, g1_7, g1_8, g1_9, g1_4, hd4, hd10, e11b, e11]), (by simp only [S0, Nat.reduceEqDiff, Nat.reduceAdd, reduceIte, reduceCtorEq, S1, and_self, g1_0, g1_7, g1_8, g1_9, g1_4, hd4, hd10, e11b, e11] <;> rfl), (by simp only [S0, Nat.reduceEqDiff, Nat.reduceAdd, reduceIte, reduceCtorEq, S1, and_self, g1_0, g1_7, g1_8, g1_9, g1_4, hd4, hd10, e11b, e11] <;> rfl)⟩, hx1, hs⟩
      · skip
        iterate 3 (refine Ow.popM rfl ?_; simp only [S0, Nat.reduceEqDiff, Nat.reduceAdd, reduceIte, reduceCtorEq, S1, show decide ((((k1 : Nat) : Int) : Int) < (63 : Int)) = decide (k1 < 63) from lt_dec (k1) (63), show decide (k1 < 63) = true from decide_eq_true (by omega), g1_0, g1_7, g1_8, g1_9, g1_4, hd4, hd10])
        refine Ow.nilM ⟨nofun, ?_⟩
        show Cw _ _ _ _ _
        refine Cw.cond (t := true) (by simp only [S0, Nat.reduceEqDiff, Nat.reduceAdd, reduceIte, reduceCtorEq, S1, g1_0, g1_7, g1_8, g1_9, g1_4, hd4, hd10]) ?_
        refine Cw.region ?_
        iterate 2 (refine Ow.popM rfl ?_; simp only [S0, Nat.reduceEqDiff, Nat.reduceAdd, reduceIte, reduceCtorEq, S1, g1_0, g1_7, g1_8, g1_9, g1_4, hd4, hd10])
        refine Ow.gen (fun E => E.get 0 = some (va) ∧ E.get 4 = some (.int .i64 (((val la % 2 ^ min k1 63 : Nat) : Int))) ∧ E.get 7 = some (va) ∧ E.get 8 = some (.int .i64 ((la.length : Nat) : Int)) ∧ E.get 9 = some (.int .i64 ((k1 : Nat) : Int)) ∧ E.get 31 = some (.int .i64 (((val la % 2 ^ min k1 63 : Nat) : Int))) ∧ E.get 32 = some (.int .i64 ((k1 : Nat) : Int))) ⟨(by simp only [S0, Nat.reduceEqDiff, Nat.reduceAdd, reduceIte, reduceCtorEq, S1, and_self, g1_0, g1_7, g1_8, g1_9, g1_4, hd4, hd10]), (by simp only [S0, Nat.reduceEqDiff, Nat.reduceAdd, reduceIte, reduceCtorEq, S1, and_self, g1_0, g1_7, g1_8, g1_9, g1_4, hd4, hd10]), (by simp only [S0, Nat.reduceEqDiff, Nat.reduceAdd, reduceIte, reduceCtorEq, S1, and_self, g1_0, g1_7, g1_8, g1_9, g1_4, hd4, hd10]), (by simp only [S0, Nat.reduceEqDiff, Nat.reduceAdd, reduceIte, reduceCtorEq, S1, and_self, g1_0, g1_7, g1_8, g1_9, g1_4, hd4, hd10]), (by simp only [S0, Nat.reduceEqDiff, Nat.reduceAdd, reduceIte, reduceCtorEq, S1, and_self, g1_0, g1_7, g1_8, g1_9, g1_4, hd4, hd10]), (by simp only [S0, Nat.reduceEqDiff, Nat.reduceAdd, reduceIte, reduceCtorEq, S1, and_self, g1_0, g1_7, g1_8, g1_9, g1_4, hd4, hd10]), (by simp only [S0, Nat.reduceEqDiff, Nat.reduceAdd, reduceIte, reduceCtorEq, S1, and_self, g1_0, g1_7, g1_8, g1_9, g1_4, hd4, hd10])⟩ ?_
        rintro E12 ⟨g12_0, g12_4, g12_7, g12_8, g12_9, g12_31, g12_32⟩
        (refine Ow.popM rfl ?_; simp only [S0, Nat.reduceEqDiff, Nat.reduceAdd, reduceIte, reduceCtorEq, S1, shl_i64 (show k1 < 63 by omega), g12_0, g12_4, g12_7, g12_8, g12_9, g12_31, g12_32, hd4, hd10])
        (refine Ow.popM rfl ?_; simp only [S0, Nat.reduceEqDiff, Nat.reduceAdd, reduceIte, reduceCtorEq, S1, show min k1 63 = k1 from Nat.min_eq_left (by omega), or_i64 (Nat.mod_lt (val la) (Nat.two_pow_pos k1)) (show k1 < 63 by omega), g12_0, g12_4, g12_7, g12_8, g12_9, g12_31, g12_32, hd4, hd10])
        (refine Ow.popM rfl ?_; simp only [S0, Nat.reduceEqDiff, Nat.reduceAdd, reduceIte, reduceCtorEq, S1, g12_0, g12_4, g12_7, g12_8, g12_9, g12_31, g12_32, hd4, hd10])
        refine Ow.nilM ⟨nofun, ?_⟩
        show Cw _ _ _ _ _
        refine Cw.region ?_
        iterate 2 (refine Ow.popM rfl ?_; simp only [S0, Nat.reduceEqDiff, Nat.reduceAdd, reduceIte, reduceCtorEq, S1, show fwrap .i64 ((((k1 : Nat) : Int) : Int) + (1 : Int)) = ((k1 + 1 : Nat) : Int) from add_nat (a := k1) (b := 1) (by omega), g12_0, g12_4, g12_7, g12_8, g12_9, g12_31, g12_32, hd4, hd10])
        refine Ow.nilM ⟨nofun, ?_⟩
        have e13 : val la % 2 ^ min (k1 + 1) 63 = val la % 2 ^ k1 + 2 ^ k1 := by rw [show min (k1 + 1) 63 = k1 + 1 by omega, mod_bit, val_bit, hd10]; simp
        have e13b : min k1 63 = k1 := by omega
        have hs : ∀ j, 63 ≤ j → j < k1 + 1 → bx la j = ng la := fun j h1 h2 => by omega
        exact ⟨hlt1, ⟨(by simp only [S0, Nat.reduceEqDiff, Nat.reduceAdd, reduceIte, reduceCtorEq, S1, and_self, g12_0, g12_4, g12_7, g12_8, g12_9, g12_31, g12_32, hd4, hd10, e13b, e13]), (by simp only [S0, Nat.reduceEqDiff, Nat.reduceAdd, reduceIte, reduceCtorEq, S1, and_self, g12_0, g12_4, g12_7, g12_8, g12_9, g12_31, g12_32, hd4, hd10, e13b, e13]), (by simp only [S0, Nat.reduceEqDiff, Nat.reduceAdd, reduceIte, reduceCtorEq, S1, and_self, g12_0, g12_4, g12_7, g12_8, g12_9, g12_31, g12_32, hd4, hd10, e13b, e13]), (by simp only [S0, Nat.reduceEqDiff, Nat.reduceAdd, reduceIte, reduceCtorEq, S1, and_self, g12_0, g12_4, g12_7, g12_8, g12_9, g12_31, g12_32, hd4, hd10, e13b, e13] <;> rfl), (by simp only [S0, Nat.reduceEqDiff, Nat.reduceAdd, reduceIte, reduceCtorEq, S1, and_self, g12_0, g12_4, g12_7, g12_8, g12_9, g12_31, g12_32, hd4, hd10, e13b, e13] <;> rfl)⟩, hx1, hs⟩
  · obtain rfl : la.length = k1 := by omega
    refine Cw.seq ?_
    refine Cw.region ?_
    (refine Ow.popM rfl ?_; simp only [S0, Nat.reduceEqDiff, Nat.reduceAdd, reduceIte, reduceCtorEq, S1, show decide ((((la.length : Nat) : Int) : Int) < (((la.length : Nat) : Int) : Int)) = decide (la.length < la.length) from lt_dec (la.length) (la.length), show decide (la.length < la.length) = false from decide_eq_false (Nat.lt_irrefl _), g1_0, g1_7, g1_8, g1_9, g1_4])
    refine Ow.nilM ⟨nofun, ?_⟩
    show Cw _ _ _ _ _
    refine Cw.seq ?_
    refine Cw.cond (t := false) (by simp only [S0, Nat.reduceEqDiff, Nat.reduceAdd, reduceIte, reduceCtorEq, S1, g1_0, g1_7, g1_8, g1_9, g1_4]) ?_
    refine Cw.exit ?_
    show Cw _ _ _ _ _
    refine Cw.seq ?_
    refine Cw.seq ?_
    refine Cw.region ?_
    (refine Ow.popM rfl ?_; simp only [S0, Nat.reduceEqDiff, Nat.reduceAdd, reduceIte, reduceCtorEq, S1, g1_0, g1_7, g1_8, g1_9, g1_4])
    have fa_15 := fa.ext hx1
    refine Ow.callPA (k := 174) (fs := []) (cs := []) (vs := [va]) rfl rfl (by simp only [S0, Nat.reduceEqDiff, Nat.reduceAdd, reduceIte, reduceCtorEq, S1, g1_0, g1_7, g1_8, g1_9, g1_4]) (negative_any hx fa_15.wl (by first | omega | (simp only [SL]; omega))) ?_
    intro H14 hx14
    (refine Ow.popM rfl ?_; simp only [S0, Nat.reduceEqDiff, Nat.reduceAdd, reduceIte, reduceCtorEq, S1, g1_0, g1_7, g1_8, g1_9, g1_4])
    cases hd16 : (bx la (la.length - 1))
    · skip
      refine Ow.pass (by simp only [S0, Nat.reduceEqDiff, Nat.reduceAdd, reduceIte, reduceCtorEq, S1, g1_0, g1_7, g1_8, g1_9, g1_4, hd16]) ?_
      refine Ow.pass (by simp only [S0, Nat.reduceEqDiff, Nat.reduceAdd, reduceIte, reduceCtorEq, S1, g1_0, g1_7, g1_8, g1_9, g1_4, hd16]) ?_
      refine Ow.pass (by simp only [S0, Nat.reduceEqDiff, Nat.reduceAdd, reduceIte, reduceCtorEq, S1, g1_0, g1_7, g1_8, g1_9, g1_4, hd16]) ?_
      (refine Ow.popM rfl ?_; simp only [S0, Nat.reduceEqDiff, Nat.reduceAdd, reduceIte, reduceCtorEq, S1, g1_0, g1_7, g1_8, g1_9, g1_4, hd16])
      refine Ow.nilM ⟨nofun, ?_⟩
      show Cw _ _ _ _ _
      refine Cw.cond (t := false) (by simp only [S0, Nat.reduceEqDiff, Nat.reduceAdd, reduceIte, reduceCtorEq, S1, g1_0, g1_7, g1_8, g1_9, g1_4, hd16]) ?_
      refine Cw.skip ?_
      show Cw _ _ _ _ _
      refine Cw.seq ?_
      refine Cw.seq ?_
      refine Cw.region ?_
      (refine Ow.popM rfl ?_; simp only [S0, Nat.reduceEqDiff, Nat.reduceAdd, reduceIte, reduceCtorEq, S1, g1_0, g1_7, g1_8, g1_9, g1_4, hd16])
      have fa_18 := fa_15.ext hx14
      refine Ow.callPA (k := 174) (fs := []) (cs := []) (vs := [va]) rfl rfl (by simp only [S0, Nat.reduceEqDiff, Nat.reduceAdd, reduceIte, reduceCtorEq, S1, g1_0, g1_7, g1_8, g1_9, g1_4, hd16]) (negative_any hx fa_18.wl (by first | omega | (simp only [SL]; omega))) ?_
      intro H17 hx17
      refine Ow.nilM ⟨nofun, ?_⟩
      show Cw _ _ _ _ _
      refine Cw.cond (t := false) (by simp only [S0, Nat.reduceEqDiff, Nat.reduceAdd, reduceIte, reduceCtorEq, S1, g1_0, g1_7, g1_8, g1_9, g1_4, hd16]) ?_
      refine Cw.skip ?_
      show Cw _ _ _ _ _
      refine Cw.seq ?_
      refine Cw.region ?_
      iterate 3 (refine Ow.popM rfl ?_; simp only [S0, Nat.reduceEqDiff, Nat.reduceAdd, reduceIte, reduceCtorEq, S1, g1_0, g1_7, g1_8, g1_9, g1_4, hd16])
      refine Ow.nilM ⟨nofun, ?_⟩
      show Cw _ _ _ _ _
      refine Cw.ret ?_
      simp only [Then, InBlock, Rnd, FnPost, resOf, tupled, S0, Nat.reduceEqDiff, Nat.reduceAdd, reduceIte, reduceCtorEq, g1_0, g1_7, g1_8, g1_9, g1_4, hd16]
      refine ⟨((hx1.trans hx14).trans hx17), ?_⟩
      unfold intV
      have hsg : ng la = false := hd16
      have hv := val_lt la
      by_cases h63 : 63 ≤ la.length
      · rw [sval_high h63 hs, hsg]
        have hmm := Nat.mod_lt (val la) (Nat.two_pow_pos 63)
        simp only [Bool.false_eq_true, if_false, Int.sub_zero, Nat.min_eq_right h63]
        rw [if_pos (by omega)]
      · have h62 : 2 ^ la.length ≤ 2 ^ 62 := Nat.pow_le_pow_right (by decide) (by omega)
        rw [sval_pos hsg, if_pos (by omega), Nat.min_eq_left (by omega), Nat.mod_eq_of_lt hv]
    · skip
      (refine Ow.popM rfl ?_; simp only [S0, Nat.reduceEqDiff, Nat.reduceAdd, reduceIte, reduceCtorEq, S1, g1_0, g1_7, g1_8, g1_9, g1_4, hd16])
      have fa_19 := fa_15.ext hx14
      refine Ow.lenA (by simp only [S0, Nat.reduceEqDiff, Nat.reduceAdd, reduceIte, reduceCtorEq, S1, g1_0, g1_7, g1_8, g1_9, g1_4, hd16]) (by simp only [S0, Nat.reduceEqDiff, Nat.reduceAdd, reduceIte, reduceCtorEq, S1, g1_0, g1_7, g1_8, g1_9, g1_4, hd16]) fa_19 ?_
      iterate 2 (refine Ow.popM rfl ?_; simp only [S0, Nat.reduceEqDiff, Nat.reduceAdd, reduceIte, reduceCtorEq, S1, show decide ((((la.length : Nat) : Int) : Int) < (64 : Int)) = decide (la.length < 64) from lt_dec (la.length) (64), g1_0, g1_7, g1_8, g1_9, g1_4, hd16])
      refine Ow.nilM ⟨nofun, ?_⟩
      show Cw _ _ _ _ _
      by_cases hq20 : la.length < 64
      · have hd20 : decide (la.length < 64) = true := decide_eq_true hq20
        refine Cw.cond (t := true) (by simp only [S0, Nat.reduceEqDiff, Nat.reduceAdd, reduceIte, reduceCtorEq, S1, g1_0, g1_7, g1_8, g1_9, g1_4, hd16, hd20]) ?_
        refine Cw.seq ?_
        refine Cw.region ?_
        iterate 2 (refine Ow.popM rfl ?_; simp only [S0, Nat.reduceEqDiff, Nat.reduceAdd, reduceIte, reduceCtorEq, S1, g1_0, g1_7, g1_8, g1_9, g1_4, hd16, hd20])
        refine Ow.lenA rfl (by simp only [S0, Nat.reduceEqDiff, Nat.reduceAdd, reduceIte, reduceCtorEq, S1, g1_0, g1_7, g1_8, g1_9, g1_4, hd16, hd20]) fa_19 ?_
        have hsl := ng_len (l := la) hd16
        iterate 2 (refine Ow.popM rfl ?_; simp only [S0, Nat.reduceEqDiff, Nat.reduceAdd, reduceIte, reduceCtorEq, S1, show fwrap .i64 ((((la.length : Nat) : Int) : Int) - (1 : Int)) = ((la.length - 1 : Nat) : Int) from sub_nat (a := la.length) (b := 1) (by omega) (by omega), shl_i64 (show la.length - 1 < 63 by omega), g1_0, g1_7, g1_8, g1_9, g1_4, hd16, hd20])
        (refine Ow.popM rfl ?_; simp only [S0, Nat.reduceEqDiff, Nat.reduceAdd, reduceIte, reduceCtorEq, S1, g1_0, g1_7, g1_8, g1_9, g1_4, hd16, hd20])
        have hsg : ng la = true := hd16
        have hm : val la % 2 ^ min la.length 63 = val la := by rw [show min la.length 63 = la.length by omega, Nat.mod_eq_of_lt (val_lt la)]
        iterate 3 (refine Ow.popM rfl ?_; simp only [S0, Nat.reduceEqDiff, Nat.reduceAdd, reduceIte, reduceCtorEq, S1, hm, int_neg (ng_len hsg) (by omega) (val_lt la) (ng_half hsg), g1_0, g1_7, g1_8, g1_9, g1_4, hd16, hd20])
        refine Ow.nilM ⟨nofun, ?_⟩
        show Cw _ _ _ _ _
        refine Cw.ret ?_
        simp only [Then, InBlock, Rnd, FnPost, resOf, tupled, S0, Nat.reduceEqDiff, Nat.reduceAdd, reduceIte, reduceCtorEq, g1_0, g1_7, g1_8, g1_9, g1_4, hd16, hd20]
        refine ⟨(hx1.trans hx14), ?_⟩
        unfold intV
        have hsg : ng la = true := hd16
        have hv := val_lt la
        have hh := ng_half hsg
        have h63 : 2 ^ la.length ≤ 2 ^ 63 := Nat.pow_le_pow_right (by decide) (by omega)
        have hp : 2 ^ la.length = 2 * 2 ^ (la.length - 1) := by rw [← Nat.pow_succ', Nat.succ_eq_add_one, Nat.sub_add_cancel (ng_len hsg)]
        rw [sval_neg hsg, if_pos (by omega)]
      · have hd20 : decide (la.length < 64) = false := decide_eq_false hq20
        refine Cw.cond (t := false) (by simp only [S0, Nat.reduceEqDiff, Nat.reduceAdd, reduceIte, reduceCtorEq, S1, g1_0, g1_7, g1_8, g1_9, g1_4, hd16, hd20]) ?_
        refine Cw.skip ?_
        show Cw _ _ _ _ _
        refine Cw.seq ?_
        refine Cw.seq ?_
        refine Cw.region ?_
        (refine Ow.popM rfl ?_; simp only [S0, Nat.reduceEqDiff, Nat.reduceAdd, reduceIte, reduceCtorEq, S1, g1_0, g1_7, g1_8, g1_9, g1_4, hd16, hd20])
        refine Ow.callPA (k := 174) (fs := []) (cs := []) (vs := [va]) rfl rfl (by simp only [S0, Nat.reduceEqDiff, Nat.reduceAdd, reduceIte, reduceCtorEq, S1, g1_0, g1_7, g1_8, g1_9, g1_4, hd16, hd20]) (negative_any hx fa_19.wl (by first | omega | (simp only [SL]; omega))) ?_
        intro H21 hx21
        refine Ow.nilM ⟨nofun, ?_⟩
        show Cw _ _ _ _ _
        refine Cw.cond (t := true) (by simp only [S0, Nat.reduceEqDiff, Nat.reduceAdd, reduceIte, reduceCtorEq, S1, g1_0, g1_7, g1_8, g1_9, g1_4, hd16, hd20]) ?_
        refine Cw.seq ?_
        refine Cw.region ?_
        (refine Ow.popM rfl ?_; simp only [S0, Nat.reduceEqDiff, Nat.reduceAdd, reduceIte, reduceCtorEq, S1, g1_0, g1_7, g1_8, g1_9, g1_4, hd16, hd20])
        have hmm := Nat.mod_lt (val la) (Nat.two_pow_pos (min la.length 63))
        rw [show min la.length 63 = 63 by omega] at hmm
        have hmin : min la.length 63 = 63 := by omega
        iterate 4 (refine Ow.popM rfl ?_; simp only [S0, Nat.reduceEqDiff, Nat.reduceAdd, reduceIte, reduceCtorEq, S1, show fwrap .i64 (((val la % 2 ^ 63 : Nat) : Int) - 4611686018427387904) = ((val la % 2 ^ 63 : Nat) : Int) - 4611686018427387904 from fw64 (by omega) (by omega), show fwrap .i64 (((val la % 2 ^ 63 : Nat) : Int) - 4611686018427387904 - 4611686018427387904) = ((val la % 2 ^ 63 : Nat) : Int) - 4611686018427387904 - 4611686018427387904 from fw64 (by omega) (by omega), g1_0, g1_7, g1_8, g1_9, g1_4, hd16, hd20, hmin])
        refine Ow.nilM ⟨nofun, ?_⟩
        show Cw _ _ _ _ _
        refine Cw.ret ?_
        simp only [Then, InBlock, Rnd, FnPost, resOf, tupled, S0, Nat.reduceEqDiff, Nat.reduceAdd, reduceIte, reduceCtorEq, g1_0, g1_7, g1_8, g1_9, g1_4, hd16, hd20, hmin]
        refine ⟨((hx1.trans hx14).trans hx21), ?_⟩
        unfold intV
        have hsg : ng la = true := hd16
        have hv := val_lt la
        have hh := ng_half hsg
        rw [sval_high (by omega) hs, hsg]
        simp only [if_true]
        rw [if_pos (by omega)]
        rw [show ((val la % 2 ^ 63 : Nat) : Int) - (2 : Int) ^ 63 = ((val la % 2 ^ 63 : Nat) : Int) - 4611686018427387904 - 4611686018427387904 by omega]
end
end Go.Proofs.YtdgbdkfoeaollaaGreatDoor.X
