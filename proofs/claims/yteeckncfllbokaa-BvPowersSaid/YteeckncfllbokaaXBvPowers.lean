/- BvPowers: the interpreter answers true. -/
import Derived.Test.YteeckncfllbokaaXW
import Derived.Test.YteeckncfllbokaaXI
set_option linter.unusedSimpArgs false
set_option linter.unusedVariables false
namespace Go.Proofs.Yteeckncfllbokaa.X
open Go Go.AL
/-- A call that answers w and leaves the heap. -/
theorem Ow.callP {C : Ctx} {E : Env} {H : AH} {d : Option Nat} {g : Option (Nat × Bool)} {f : Operand} {args : List Operand} {os : List IOper} {k : Nat} {vs : List Value} {w : Value} {Q : Env → AH → List (Bool × Bool) → Prop} (hg : wanted E g = some true)
    (hf : ev E f = some (.func (.func k) ⟨[]⟩ ⟨[]⟩)) (ha : evs E args = some vs) (hc : Run C k vs { H with wl := H.n } fun v H1 => H1 = { H with wl := H.n } ∧ v = w)
    (h : ∀ wl, AL.Ext H { H with wl := wl } → Ow C os (put E d w) { H with wl := wl } fun E' H' fl => Q E' H' ((true, false) :: fl)) : Ow C (⟨d, g, .call f args⟩ :: os) E H Q := by
  refine Ow.callE (k := k) (fs := []) (cs := []) (vs := vs) (R := fun r H' => H' = { H with wl := H.n } ∧ r = w) hg hf ha ?_ ?_
  · rw [List.nil_append, List.append_nil]
    exact hc.mono fun r H' hr => ⟨by rw [hr.1]; exact AL.Ext.refl _, hr⟩
  · rintro v H1 wl hx ⟨rfl, rfl⟩
    exact h wl hx
theorem gt_true {a : Nat} {b : Int} (h : b < (a : Int)) : decide ((a : Int) > b) = true := decide_eq_true h
theorem gt_false {a : Nat} {b : Int} (h : (a : Int) ≤ b) : decide ((a : Int) > b) = false := decide_eq_false (by omega)
theorem fw_nat {a : Nat} (h : a < 2 ^ 63) : fwrap .i64 (a : Int) = (a : Int) := by
  unfold fwrap
  have : inKind .i64 (a : Int) = true := by
    show Nat.blt a 9223372036854775808 = true
    exact Nat.ble_eq_true_of_le (by omega)
  rw [this]; rfl
theorem val_ofI {n x : Nat} (h : x < 2 ^ n) : val (ofI n (x : Int)) = x := by rw [ofI_nat, val_ofN, Nat.mod_eq_of_lt h]
theorem BvPowers_run {H : AH} {va : Value} {la : List Bool} {m n : Nat} (ha : IsB H va la) (hm : m < 256) (hn : n < 256) : Run (Cx ext0) 7 [va, .int .u8 m, .int .u8 n] H fun r _ => r = .bool true := by
  refine Run.intro (fi := IR.fi7) (ext0_ok 7 (by decide)) (by kernel_rfl) ?_
  unfold IR.fi7
  simp only [envOf_cons, envOf_nil]
  obtain ⟨aa, ca, ea⟩ := ha.shape
  subst ea
  refine Cw.seq (Cw.region ?_)
  (refine Ow.popM rfl ?_; simp only [wanted, AL.pop, AL.hop, ev, evs, get_putS, get_putN, get_nilS, Nat.reduceEqDiff, Nat.reduceAdd, if_true, if_false, reduceIte, reduceCtorEq, abin, intArith, aun, beq_self_eq_true, Bool.true_beq, Bool.false_beq, Bool.not_true, Bool.not_false, AL.part, addOff, Int.toNat_natCast, Nat.mul_one, Nat.add_zero, Nat.zero_add, cond_true, cond_false, show Nat.beq 1 1 = true from rfl, show Nat.beq 0 1 = false from rfl])
  refine Ow.nilM ⟨nofun, ?_⟩
  refine Cw.seq (Cw.seq (Cw.region ?_))
  iterate 2 (refine Ow.popM rfl ?_; simp only [wanted, AL.pop, AL.hop, ev, evs, get_putS, get_putN, get_nilS, Nat.reduceEqDiff, Nat.reduceAdd, if_true, if_false, reduceIte, reduceCtorEq, abin, intArith, aun, beq_self_eq_true, Bool.true_beq, Bool.false_beq, Bool.not_true, Bool.not_false, AL.part, addOff, Int.toNat_natCast, Nat.mul_one, Nat.add_zero, Nat.zero_add, cond_true, cond_false, show Nat.beq 1 1 = true from rfl, show Nat.beq 0 1 = false from rfl])
  by_cases hl : 40 < la.length
  · iterate 2 (refine Ow.popM rfl ?_; simp only [wanted, AL.pop, AL.hop, ev, evs, get_putS, get_putN, get_nilS, Nat.reduceEqDiff, Nat.reduceAdd, if_true, if_false, reduceIte, reduceCtorEq, abin, intArith, aun, beq_self_eq_true, Bool.true_beq, Bool.false_beq, Bool.not_true, Bool.not_false, AL.part, addOff, Int.toNat_natCast, Nat.mul_one, Nat.add_zero, Nat.zero_add, cond_true, cond_false, show Nat.beq 1 1 = true from rfl, show Nat.beq 0 1 = false from rfl, gt_true (show (40 : Int) < (la.length : Int) by omega)])
    refine Ow.pass (by simp only [wanted, AL.pop, AL.hop, ev, evs, get_putS, get_putN, get_nilS, Nat.reduceEqDiff, Nat.reduceAdd, if_true, if_false, reduceIte, reduceCtorEq, abin, intArith, aun, beq_self_eq_true, Bool.true_beq, Bool.false_beq, Bool.not_true, Bool.not_false, AL.part, addOff, Int.toNat_natCast, Nat.mul_one, Nat.add_zero, Nat.zero_add, cond_true, cond_false, show Nat.beq 1 1 = true from rfl, show Nat.beq 0 1 = false from rfl]) ?_
    iterate 2 (refine Ow.popM rfl ?_; simp only [wanted, AL.pop, AL.hop, ev, evs, get_putS, get_putN, get_nilS, Nat.reduceEqDiff, Nat.reduceAdd, if_true, if_false, reduceIte, reduceCtorEq, abin, intArith, aun, beq_self_eq_true, Bool.true_beq, Bool.false_beq, Bool.not_true, Bool.not_false, AL.part, addOff, Int.toNat_natCast, Nat.mul_one, Nat.add_zero, Nat.zero_add, cond_true, cond_false, show Nat.beq 1 1 = true from rfl, show Nat.beq 0 1 = false from rfl])
    refine Ow.nilM ⟨nofun, ?_⟩
    refine Cw.cond (t := true) (by simp only [wanted, AL.pop, AL.hop, ev, evs, get_putS, get_putN, get_nilS, Nat.reduceEqDiff, Nat.reduceAdd, if_true, if_false, reduceIte, reduceCtorEq, abin, intArith, aun, beq_self_eq_true, Bool.true_beq, Bool.false_beq, Bool.not_true, Bool.not_false, AL.part, addOff, Int.toNat_natCast, Nat.mul_one, Nat.add_zero, Nat.zero_add, cond_true, cond_false, show Nat.beq 1 1 = true from rfl, show Nat.beq 0 1 = false from rfl]) ?_
    refine Cw.seq (Cw.region ?_)
    refine Ow.callP (k := 14) (vs := []) rfl rfl rfl awake_any ?_
    intro wl hx
    (refine Ow.popM rfl ?_; simp only [wanted, AL.pop, AL.hop, ev, evs, get_putS, get_putN, get_nilS, Nat.reduceEqDiff, Nat.reduceAdd, if_true, if_false, reduceIte, reduceCtorEq, abin, intArith, aun, beq_self_eq_true, Bool.true_beq, Bool.false_beq, Bool.not_true, Bool.not_false, AL.part, addOff, Int.toNat_natCast, Nat.mul_one, Nat.add_zero, Nat.zero_add, cond_true, cond_false, show Nat.beq 1 1 = true from rfl, show Nat.beq 0 1 = false from rfl])
    refine Ow.nilM ⟨nofun, ?_⟩
    refine Cw.ret ?_
    simp only [Then, InBlock, Rnd, FnPost, resOf, tupled, wanted, AL.pop, AL.hop, ev, evs, get_putS, get_putN, get_nilS, Nat.reduceEqDiff, Nat.reduceAdd, if_true, if_false, reduceIte, reduceCtorEq, abin, intArith, aun, beq_self_eq_true, Bool.true_beq, Bool.false_beq, Bool.not_true, Bool.not_false, AL.part, addOff, Int.toNat_natCast, Nat.mul_one, Nat.add_zero, Nat.zero_add, cond_true, cond_false, show Nat.beq 1 1 = true from rfl, show Nat.beq 0 1 = false from rfl]
  · have hl36 : la.length < 2 ^ 36 := by omega
    iterate 2 (refine Ow.popM rfl ?_; simp only [wanted, AL.pop, AL.hop, ev, evs, get_putS, get_putN, get_nilS, Nat.reduceEqDiff, Nat.reduceAdd, if_true, if_false, reduceIte, reduceCtorEq, abin, intArith, aun, beq_self_eq_true, Bool.true_beq, Bool.false_beq, Bool.not_true, Bool.not_false, AL.part, addOff, Int.toNat_natCast, Nat.mul_one, Nat.add_zero, Nat.zero_add, cond_true, cond_false, show Nat.beq 1 1 = true from rfl, show Nat.beq 0 1 = false from rfl, gt_false (show (la.length : Int) ≤ 40 by omega)])
    refine Ow.callP (k := 14) (vs := []) (by simp only [wanted, AL.pop, AL.hop, ev, evs, get_putS, get_putN, get_nilS, Nat.reduceEqDiff, Nat.reduceAdd, if_true, if_false, reduceIte, reduceCtorEq, abin, intArith, aun, beq_self_eq_true, Bool.true_beq, Bool.false_beq, Bool.not_true, Bool.not_false, AL.part, addOff, Int.toNat_natCast, Nat.mul_one, Nat.add_zero, Nat.zero_add, cond_true, cond_false, show Nat.beq 1 1 = true from rfl, show Nat.beq 0 1 = false from rfl]) rfl rfl awake_any ?_
    intro wl0 hx0
    have ha0 := ha.ext hx0
    iterate 2 (refine Ow.popM rfl ?_; simp only [wanted, AL.pop, AL.hop, ev, evs, get_putS, get_putN, get_nilS, Nat.reduceEqDiff, Nat.reduceAdd, if_true, if_false, reduceIte, reduceCtorEq, abin, intArith, aun, beq_self_eq_true, Bool.true_beq, Bool.false_beq, Bool.not_true, Bool.not_false, AL.part, addOff, Int.toNat_natCast, Nat.mul_one, Nat.add_zero, Nat.zero_add, cond_true, cond_false, show Nat.beq 1 1 = true from rfl, show Nat.beq 0 1 = false from rfl])
    refine Ow.nilM ⟨nofun, ?_⟩
    refine Cw.cond (t := false) (by simp only [wanted, AL.pop, AL.hop, ev, evs, get_putS, get_putN, get_nilS, Nat.reduceEqDiff, Nat.reduceAdd, if_true, if_false, reduceIte, reduceCtorEq, abin, intArith, aun, beq_self_eq_true, Bool.true_beq, Bool.false_beq, Bool.not_true, Bool.not_false, AL.part, addOff, Int.toNat_natCast, Nat.mul_one, Nat.add_zero, Nat.zero_add, cond_true, cond_false, show Nat.beq 1 1 = true from rfl, show Nat.beq 0 1 = false from rfl]) ?_
    refine Cw.skip ?_
    refine Cw.seq (Cw.region ?_)
    (refine Ow.popM rfl ?_; simp only [wanted, AL.pop, AL.hop, ev, evs, get_putS, get_putN, get_nilS, Nat.reduceEqDiff, Nat.reduceAdd, if_true, if_false, reduceIte, reduceCtorEq, abin, intArith, aun, beq_self_eq_true, Bool.true_beq, Bool.false_beq, Bool.not_true, Bool.not_false, AL.part, addOff, Int.toNat_natCast, Nat.mul_one, Nat.add_zero, Nat.zero_add, cond_true, cond_false, show Nat.beq 1 1 = true from rfl, show Nat.beq 0 1 = false from rfl])
    refine Ow.nilM ⟨nofun, ?_⟩
    refine Cw.seq (Cw.region ?_)
    iterate 3 (refine Ow.popM rfl ?_; simp only [wanted, AL.pop, AL.hop, ev, evs, get_putS, get_putN, get_nilS, Nat.reduceEqDiff, Nat.reduceAdd, if_true, if_false, reduceIte, reduceCtorEq, abin, intArith, aun, beq_self_eq_true, Bool.true_beq, Bool.false_beq, Bool.not_true, Bool.not_false, AL.part, addOff, Int.toNat_natCast, Nat.mul_one, Nat.add_zero, Nat.zero_add, cond_true, cond_false, show Nat.beq 1 1 = true from rfl, show Nat.beq 0 1 = false from rfl, fw_nat (show m < 2 ^ 63 by omega)])
    -- x
    refine Ow.callE (k := 29) (fs := []) (cs := []) (vs := [.int .i64 m, .int .i64 (8 : Nat)]) rfl rfl (by simp only [wanted, AL.pop, AL.hop, ev, evs, get_putS, get_putN, get_nilS, Nat.reduceEqDiff, Nat.reduceAdd, if_true, if_false, reduceIte, reduceCtorEq, abin, intArith, aun, beq_self_eq_true, Bool.true_beq, Bool.false_beq, Bool.not_true, Bool.not_false, AL.part, addOff, Int.toNat_natCast, Nat.mul_one, Nat.add_zero, Nat.zero_add, cond_true, cond_false, show Nat.beq 1 1 = true from rfl, show Nat.beq 0 1 = false from rfl]; rfl) (of_any ext0_ok (by omega)) ?_
    rintro e1 H1 w1 hx1 he1
    have ha1 := ha0.ext hx1
    have hb1 := he1.isR.isB
    refine Ow.callE (k := 22) (fs := []) (cs := []) (vs := [.slice aa la.length ca, e1]) rfl rfl (by simp only [wanted, AL.pop, AL.hop, ev, evs, get_putS, get_putN, get_nilS, Nat.reduceEqDiff, Nat.reduceAdd, if_true, if_false, reduceIte, reduceCtorEq, abin, intArith, aun, beq_self_eq_true, Bool.true_beq, Bool.false_beq, Bool.not_true, Bool.not_false, AL.part, addOff, Int.toNat_natCast, Nat.mul_one, Nat.add_zero, Nat.zero_add, cond_true, cond_false, show Nat.beq 1 1 = true from rfl, show Nat.beq 0 1 = false from rfl]) (pow_any ext0_ok ha1.wl hb1.wl hl36 (by rw [ofI_length]; omega)) ?_
    rintro x H2 w2 hx2 ⟨ix, hix, hxx⟩
    rw [val_ofI (by omega)] at hxx
    have ha2 := ha1.ext hx2
    have hX2 : IsB { H2 with wl := w2 } x _ := hxx.isB
    iterate 3 (refine Ow.popM rfl ?_; simp only [wanted, AL.pop, AL.hop, ev, evs, get_putS, get_putN, get_nilS, Nat.reduceEqDiff, Nat.reduceAdd, if_true, if_false, reduceIte, reduceCtorEq, abin, intArith, aun, beq_self_eq_true, Bool.true_beq, Bool.false_beq, Bool.not_true, Bool.not_false, AL.part, addOff, Int.toNat_natCast, Nat.mul_one, Nat.add_zero, Nat.zero_add, cond_true, cond_false, show Nat.beq 1 1 = true from rfl, show Nat.beq 0 1 = false from rfl, fw_nat (show n < 2 ^ 63 by omega)])
    -- y
    refine Ow.callE (k := 29) (fs := []) (cs := []) (vs := [.int .i64 n, .int .i64 (8 : Nat)]) rfl rfl (by simp only [wanted, AL.pop, AL.hop, ev, evs, get_putS, get_putN, get_nilS, Nat.reduceEqDiff, Nat.reduceAdd, if_true, if_false, reduceIte, reduceCtorEq, abin, intArith, aun, beq_self_eq_true, Bool.true_beq, Bool.false_beq, Bool.not_true, Bool.not_false, AL.part, addOff, Int.toNat_natCast, Nat.mul_one, Nat.add_zero, Nat.zero_add, cond_true, cond_false, show Nat.beq 1 1 = true from rfl, show Nat.beq 0 1 = false from rfl]; rfl) (of_any ext0_ok (by omega)) ?_
    rintro e3 H3 w3 hx3 he3
    have ha3 := ha2.ext hx3
    have hX3 := hX2.ext hx3
    have hb3 := he3.isR.isB
    refine Ow.callE (k := 22) (fs := []) (cs := []) (vs := [.slice aa la.length ca, e3]) rfl rfl (by simp only [wanted, AL.pop, AL.hop, ev, evs, get_putS, get_putN, get_nilS, Nat.reduceEqDiff, Nat.reduceAdd, if_true, if_false, reduceIte, reduceCtorEq, abin, intArith, aun, beq_self_eq_true, Bool.true_beq, Bool.false_beq, Bool.not_true, Bool.not_false, AL.part, addOff, Int.toNat_natCast, Nat.mul_one, Nat.add_zero, Nat.zero_add, cond_true, cond_false, show Nat.beq 1 1 = true from rfl, show Nat.beq 0 1 = false from rfl]) (pow_any ext0_ok ha3.wl hb3.wl hl36 (by rw [ofI_length]; omega)) ?_
    rintro y H4 w4 hx4 ⟨iy, hiy, hyy⟩
    rw [val_ofI (by omega)] at hyy
    have ha4 := ha3.ext hx4
    have hX4 := hX3.ext hx4
    have hY4 : IsB { H4 with wl := w4 } y _ := hyy.isB
    iterate 6 (refine Ow.popM rfl ?_; simp only [wanted, AL.pop, AL.hop, ev, evs, get_putS, get_putN, get_nilS, Nat.reduceEqDiff, Nat.reduceAdd, if_true, if_false, reduceIte, reduceCtorEq, abin, intArith, aun, beq_self_eq_true, Bool.true_beq, Bool.false_beq, Bool.not_true, Bool.not_false, AL.part, addOff, Int.toNat_natCast, Nat.mul_one, Nat.add_zero, Nat.zero_add, cond_true, cond_false, show Nat.beq 1 1 = true from rfl, show Nat.beq 0 1 = false from rfl, fw_nat (show m < 2 ^ 63 by omega), fw_nat (show n < 2 ^ 63 by omega), show (m : Int) + (n : Int) = ((m + n : Nat) : Int) from rfl, fw_nat (show m + n < 2 ^ 63 by omega)])
    -- z
    refine Ow.callE (k := 29) (fs := []) (cs := []) (vs := [.int .i64 ((m + n : Nat) : Int), .int .i64 (9 : Nat)]) rfl rfl (by simp only [wanted, AL.pop, AL.hop, ev, evs, get_putS, get_putN, get_nilS, Nat.reduceEqDiff, Nat.reduceAdd, if_true, if_false, reduceIte, reduceCtorEq, abin, intArith, aun, beq_self_eq_true, Bool.true_beq, Bool.false_beq, Bool.not_true, Bool.not_false, AL.part, addOff, Int.toNat_natCast, Nat.mul_one, Nat.add_zero, Nat.zero_add, cond_true, cond_false, show Nat.beq 1 1 = true from rfl, show Nat.beq 0 1 = false from rfl]; rfl) (of_any ext0_ok (by omega)) ?_
    rintro e5 H5 w5 hx5 he5
    have ha5 := ha4.ext hx5
    have hX5 := hX4.ext hx5
    have hY5 := hY4.ext hx5
    have hb5 := he5.isR.isB
    refine Ow.callE (k := 22) (fs := []) (cs := []) (vs := [.slice aa la.length ca, e5]) rfl rfl (by simp only [wanted, AL.pop, AL.hop, ev, evs, get_putS, get_putN, get_nilS, Nat.reduceEqDiff, Nat.reduceAdd, if_true, if_false, reduceIte, reduceCtorEq, abin, intArith, aun, beq_self_eq_true, Bool.true_beq, Bool.false_beq, Bool.not_true, Bool.not_false, AL.part, addOff, Int.toNat_natCast, Nat.mul_one, Nat.add_zero, Nat.zero_add, cond_true, cond_false, show Nat.beq 1 1 = true from rfl, show Nat.beq 0 1 = false from rfl]) (pow_any ext0_ok ha5.wl hb5.wl hl36 (by rw [ofI_length]; omega)) ?_
    rintro z H6 w6 hx6 ⟨iz, hiz, hzz⟩
    rw [val_ofI (by omega)] at hzz
    have ha6 := ha5.ext hx6
    have hX6 := hX5.ext hx6
    have hY6 := hY5.ext hx6
    have hZ6 : IsB { H6 with wl := w6 } z _ := hzz.isB
    iterate 3 (refine Ow.popM rfl ?_; simp only [wanted, AL.pop, AL.hop, ev, evs, get_putS, get_putN, get_nilS, Nat.reduceEqDiff, Nat.reduceAdd, if_true, if_false, reduceIte, reduceCtorEq, abin, intArith, aun, beq_self_eq_true, Bool.true_beq, Bool.false_beq, Bool.not_true, Bool.not_false, AL.part, addOff, Int.toNat_natCast, Nat.mul_one, Nat.add_zero, Nat.zero_add, cond_true, cond_false, show Nat.beq 1 1 = true from rfl, show Nat.beq 0 1 = false from rfl])
    refine Ow.nilM ⟨nofun, ?_⟩
    refine Cw.seq (Cw.region ?_)
    iterate 4 (refine Ow.popM rfl ?_; simp only [wanted, AL.pop, AL.hop, ev, evs, get_putS, get_putN, get_nilS, Nat.reduceEqDiff, Nat.reduceAdd, if_true, if_false, reduceIte, reduceCtorEq, abin, intArith, aun, beq_self_eq_true, Bool.true_beq, Bool.false_beq, Bool.not_true, Bool.not_false, AL.part, addOff, Int.toNat_natCast, Nat.mul_one, Nat.add_zero, Nat.zero_add, cond_true, cond_false, show Nat.beq 1 1 = true from rfl, show Nat.beq 0 1 = false from rfl])
    refine Ow.callE (k := 26) (fs := []) (cs := []) (vs := [x, y]) rfl rfl (by simp only [wanted, AL.pop, AL.hop, ev, evs, get_putS, get_putN, get_nilS, Nat.reduceEqDiff, Nat.reduceAdd, if_true, if_false, reduceIte, reduceCtorEq, abin, intArith, aun, beq_self_eq_true, Bool.true_beq, Bool.false_beq, Bool.not_true, Bool.not_false, AL.part, addOff, Int.toNat_natCast, Nat.mul_one, Nat.add_zero, Nat.zero_add, cond_true, cond_false, show Nat.beq 1 1 = true from rfl, show Nat.beq 0 1 = false from rfl]) (mul_any ext0_ok hX6.wl hY6.wl (by rw [ofN_length]; exact hl36)) ?_
    rintro p H7 w7 hx7 ⟨ip, hip, hpp⟩
    rw [ofN_length, val_ofN, val_ofN, ofN_mul, ← Nat.pow_add] at hpp
    have ha7 := ha6.ext hx7
    have hZ7 := hZ6.ext hx7
    have hP7 : IsB { H7 with wl := w7 } p _ := hpp.isB
    refine Ow.callP (k := 20) (vs := [z, p]) rfl (by simp only [wanted, AL.pop, AL.hop, ev, evs, get_putS, get_putN, get_nilS, Nat.reduceEqDiff, Nat.reduceAdd, if_true, if_false, reduceIte, reduceCtorEq, abin, intArith, aun, beq_self_eq_true, Bool.true_beq, Bool.false_beq, Bool.not_true, Bool.not_false, AL.part, addOff, Int.toNat_natCast, Nat.mul_one, Nat.add_zero, Nat.zero_add, cond_true, cond_false, show Nat.beq 1 1 = true from rfl, show Nat.beq 0 1 = false from rfl]) (by simp only [wanted, AL.pop, AL.hop, ev, evs, get_putS, get_putN, get_nilS, Nat.reduceEqDiff, Nat.reduceAdd, if_true, if_false, reduceIte, reduceCtorEq, abin, intArith, aun, beq_self_eq_true, Bool.true_beq, Bool.false_beq, Bool.not_true, Bool.not_false, AL.part, addOff, Int.toNat_natCast, Nat.mul_one, Nat.add_zero, Nat.zero_add, cond_true, cond_false, show Nat.beq 1 1 = true from rfl, show Nat.beq 0 1 = false from rfl]) (same_any ext0_ok hZ7.wl hP7.wl (by rw [ofN_length]; exact hl36)) ?_
    intro w8 hx8
    have ha8 := ha7.ext hx8
    iterate 3 (refine Ow.popM rfl ?_; simp only [wanted, AL.pop, AL.hop, ev, evs, get_putS, get_putN, get_nilS, Nat.reduceEqDiff, Nat.reduceAdd, if_true, if_false, reduceIte, reduceCtorEq, abin, intArith, aun, beq_self_eq_true, Bool.true_beq, Bool.false_beq, Bool.not_true, Bool.not_false, AL.part, addOff, Int.toNat_natCast, Nat.mul_one, Nat.add_zero, Nat.zero_add, cond_true, cond_false, show Nat.beq 1 1 = true from rfl, show Nat.beq 0 1 = false from rfl, eq_self, decide_true])
    refine Ow.callE (k := 22) (fs := []) (cs := []) (vs := [.slice aa la.length ca, .slice none 0 0]) (by simp only [wanted, AL.pop, AL.hop, ev, evs, get_putS, get_putN, get_nilS, Nat.reduceEqDiff, Nat.reduceAdd, if_true, if_false, reduceIte, reduceCtorEq, abin, intArith, aun, beq_self_eq_true, Bool.true_beq, Bool.false_beq, Bool.not_true, Bool.not_false, AL.part, addOff, Int.toNat_natCast, Nat.mul_one, Nat.add_zero, Nat.zero_add, cond_true, cond_false, show Nat.beq 1 1 = true from rfl, show Nat.beq 0 1 = false from rfl]) rfl (by simp only [wanted, AL.pop, AL.hop, ev, evs, get_putS, get_putN, get_nilS, Nat.reduceEqDiff, Nat.reduceAdd, if_true, if_false, reduceIte, reduceCtorEq, abin, intArith, aun, beq_self_eq_true, Bool.true_beq, Bool.false_beq, Bool.not_true, Bool.not_false, AL.part, addOff, Int.toNat_natCast, Nat.mul_one, Nat.add_zero, Nat.zero_add, cond_true, cond_false, show Nat.beq 1 1 = true from rfl, show Nat.beq 0 1 = false from rfl]) (pow_any ext0_ok ha8.wl (IsB.nil _) hl36 (by decide)) ?_
    rintro q H9 w9 hx9 ⟨iq, hiq, hqq⟩
    have ha9 := ha8.ext hx9
    have hQ9 : IsB { H9 with wl := w9 } q _ := hqq.isB
    (refine Ow.hopM rfl rfl ?_; simp only [wanted, AL.pop, AL.hop, ev, evs, get_putS, get_putN, get_nilS, Nat.reduceEqDiff, Nat.reduceAdd, if_true, if_false, reduceIte, reduceCtorEq, abin, intArith, aun, beq_self_eq_true, Bool.true_beq, Bool.false_beq, Bool.not_true, Bool.not_false, AL.part, addOff, Int.toNat_natCast, Nat.mul_one, Nat.add_zero, Nat.zero_add, cond_true, cond_false, show Nat.beq 1 1 = true from rfl, show Nat.beq 0 1 = false from rfl, AL.fillParts, putCells, AL.cellsOf, junk, List.length_cons, List.length_nil, Nat.beq_refl, Nat.ble_self_eq_true, show Nat.ble 1 1 = true from rfl, Bool.and_self, Bool.and_true, Bool.true_and, List.take_zero, List.nil_append, List.drop_succ_cons, List.drop_zero, List.drop_nil, List.append_nil, Nat.sub_zero])
    have hx10 := (AL.Ext.refl { H9 with wl := w9 }).new (⟨[.bool true], 0⟩ : Blk)
    have ha10 := ha9.ext hx10
    have hQ10 := hQ9.ext hx10
    have hT10 := lit1 (H := { H9 with wl := w9 }) true
    iterate 2 (refine Ow.popM rfl ?_; simp only [wanted, AL.pop, AL.hop, ev, evs, get_putS, get_putN, get_nilS, Nat.reduceEqDiff, Nat.reduceAdd, if_true, if_false, reduceIte, reduceCtorEq, abin, intArith, aun, beq_self_eq_true, Bool.true_beq, Bool.false_beq, Bool.not_true, Bool.not_false, AL.part, addOff, Int.toNat_natCast, Nat.mul_one, Nat.add_zero, Nat.zero_add, cond_true, cond_false, show Nat.beq 1 1 = true from rfl, show Nat.beq 0 1 = false from rfl])
    refine Ow.callE (k := 31) (fs := []) (cs := []) (vs := [.slice (some ⟨H9.n, 0, none⟩) 1 1, .int .i64 la.length]) (by simp only [wanted, AL.pop, AL.hop, ev, evs, get_putS, get_putN, get_nilS, Nat.reduceEqDiff, Nat.reduceAdd, if_true, if_false, reduceIte, reduceCtorEq, abin, intArith, aun, beq_self_eq_true, Bool.true_beq, Bool.false_beq, Bool.not_true, Bool.not_false, AL.part, addOff, Int.toNat_natCast, Nat.mul_one, Nat.add_zero, Nat.zero_add, cond_true, cond_false, show Nat.beq 1 1 = true from rfl, show Nat.beq 0 1 = false from rfl]) rfl (by simp only [wanted, AL.pop, AL.hop, ev, evs, get_putS, get_putN, get_nilS, Nat.reduceEqDiff, Nat.reduceAdd, if_true, if_false, reduceIte, reduceCtorEq, abin, intArith, aun, beq_self_eq_true, Bool.true_beq, Bool.false_beq, Bool.not_true, Bool.not_false, AL.part, addOff, Int.toNat_natCast, Nat.mul_one, Nat.add_zero, Nat.zero_add, cond_true, cond_false, show Nat.beq 1 1 = true from rfl, show Nat.beq 0 1 = false from rfl]) (Fit_any ext0_ok hT10.wl (by omega)) ?_
    rintro r H11 w11 hx11 hrr
    have ha11 := ha10.ext hx11
    have hQ11 := hQ10.ext hx11
    have hR11 : IsB { H11 with wl := w11 } r _ := hrr.isR.isB
    refine Ow.callP (k := 20) (vs := [q, r]) (by simp only [wanted, AL.pop, AL.hop, ev, evs, get_putS, get_putN, get_nilS, Nat.reduceEqDiff, Nat.reduceAdd, if_true, if_false, reduceIte, reduceCtorEq, abin, intArith, aun, beq_self_eq_true, Bool.true_beq, Bool.false_beq, Bool.not_true, Bool.not_false, AL.part, addOff, Int.toNat_natCast, Nat.mul_one, Nat.add_zero, Nat.zero_add, cond_true, cond_false, show Nat.beq 1 1 = true from rfl, show Nat.beq 0 1 = false from rfl]) (by simp only [wanted, AL.pop, AL.hop, ev, evs, get_putS, get_putN, get_nilS, Nat.reduceEqDiff, Nat.reduceAdd, if_true, if_false, reduceIte, reduceCtorEq, abin, intArith, aun, beq_self_eq_true, Bool.true_beq, Bool.false_beq, Bool.not_true, Bool.not_false, AL.part, addOff, Int.toNat_natCast, Nat.mul_one, Nat.add_zero, Nat.zero_add, cond_true, cond_false, show Nat.beq 1 1 = true from rfl, show Nat.beq 0 1 = false from rfl]) (by simp only [wanted, AL.pop, AL.hop, ev, evs, get_putS, get_putN, get_nilS, Nat.reduceEqDiff, Nat.reduceAdd, if_true, if_false, reduceIte, reduceCtorEq, abin, intArith, aun, beq_self_eq_true, Bool.true_beq, Bool.false_beq, Bool.not_true, Bool.not_false, AL.part, addOff, Int.toNat_natCast, Nat.mul_one, Nat.add_zero, Nat.zero_add, cond_true, cond_false, show Nat.beq 1 1 = true from rfl, show Nat.beq 0 1 = false from rfl]) (same_any ext0_ok hQ11.wl hR11.wl (by rw [ofN_length]; exact hl36)) ?_
    intro w12 hx12
    have ha12 := ha11.ext hx12
    iterate 4 (refine Ow.popM rfl ?_; simp only [wanted, AL.pop, AL.hop, ev, evs, get_putS, get_putN, get_nilS, Nat.reduceEqDiff, Nat.reduceAdd, if_true, if_false, reduceIte, reduceCtorEq, abin, intArith, aun, beq_self_eq_true, Bool.true_beq, Bool.false_beq, Bool.not_true, Bool.not_false, AL.part, addOff, Int.toNat_natCast, Nat.mul_one, Nat.add_zero, Nat.zero_add, cond_true, cond_false, show Nat.beq 1 1 = true from rfl, show Nat.beq 0 1 = false from rfl, show val [] = 0 from rfl, show val [true] = 1 from rfl, Nat.pow_zero, eq_self, decide_true])
    refine Ow.callE (k := 29) (fs := []) (cs := []) (vs := [.int .i64 (1 : Nat), .int .i64 (3 : Nat)]) (by simp only [wanted, AL.pop, AL.hop, ev, evs, get_putS, get_putN, get_nilS, Nat.reduceEqDiff, Nat.reduceAdd, if_true, if_false, reduceIte, reduceCtorEq, abin, intArith, aun, beq_self_eq_true, Bool.true_beq, Bool.false_beq, Bool.not_true, Bool.not_false, AL.part, addOff, Int.toNat_natCast, Nat.mul_one, Nat.add_zero, Nat.zero_add, cond_true, cond_false, show Nat.beq 1 1 = true from rfl, show Nat.beq 0 1 = false from rfl]) rfl rfl (of_any ext0_ok (by omega)) ?_
    rintro e13 H13 w13 hx13 he13
    have ha13 := ha12.ext hx13
    have hb13 := he13.isR.isB
    refine Ow.callE (k := 22) (fs := []) (cs := []) (vs := [.slice aa la.length ca, e13]) (by simp only [wanted, AL.pop, AL.hop, ev, evs, get_putS, get_putN, get_nilS, Nat.reduceEqDiff, Nat.reduceAdd, if_true, if_false, reduceIte, reduceCtorEq, abin, intArith, aun, beq_self_eq_true, Bool.true_beq, Bool.false_beq, Bool.not_true, Bool.not_false, AL.part, addOff, Int.toNat_natCast, Nat.mul_one, Nat.add_zero, Nat.zero_add, cond_true, cond_false, show Nat.beq 1 1 = true from rfl, show Nat.beq 0 1 = false from rfl]) rfl (by simp only [wanted, AL.pop, AL.hop, ev, evs, get_putS, get_putN, get_nilS, Nat.reduceEqDiff, Nat.reduceAdd, if_true, if_false, reduceIte, reduceCtorEq, abin, intArith, aun, beq_self_eq_true, Bool.true_beq, Bool.false_beq, Bool.not_true, Bool.not_false, AL.part, addOff, Int.toNat_natCast, Nat.mul_one, Nat.add_zero, Nat.zero_add, cond_true, cond_false, show Nat.beq 1 1 = true from rfl, show Nat.beq 0 1 = false from rfl]) (pow_any ext0_ok ha13.wl hb13.wl hl36 (by rw [ofI_length]; omega)) ?_
    rintro s H14 w14 hx14 ⟨is, his, hss⟩
    rw [val_ofI (by omega), Nat.pow_one, ofN_val] at hss
    have ha14 := ha13.ext hx14
    have hS14 : IsB { H14 with wl := w14 } s _ := hss.isB
    (refine Ow.popM rfl ?_; simp only [wanted, AL.pop, AL.hop, ev, evs, get_putS, get_putN, get_nilS, Nat.reduceEqDiff, Nat.reduceAdd, if_true, if_false, reduceIte, reduceCtorEq, abin, intArith, aun, beq_self_eq_true, Bool.true_beq, Bool.false_beq, Bool.not_true, Bool.not_false, AL.part, addOff, Int.toNat_natCast, Nat.mul_one, Nat.add_zero, Nat.zero_add, cond_true, cond_false, show Nat.beq 1 1 = true from rfl, show Nat.beq 0 1 = false from rfl])
    refine Ow.callP (k := 20) (vs := [s, .slice aa la.length ca]) (by simp only [wanted, AL.pop, AL.hop, ev, evs, get_putS, get_putN, get_nilS, Nat.reduceEqDiff, Nat.reduceAdd, if_true, if_false, reduceIte, reduceCtorEq, abin, intArith, aun, beq_self_eq_true, Bool.true_beq, Bool.false_beq, Bool.not_true, Bool.not_false, AL.part, addOff, Int.toNat_natCast, Nat.mul_one, Nat.add_zero, Nat.zero_add, cond_true, cond_false, show Nat.beq 1 1 = true from rfl, show Nat.beq 0 1 = false from rfl]) (by simp only [wanted, AL.pop, AL.hop, ev, evs, get_putS, get_putN, get_nilS, Nat.reduceEqDiff, Nat.reduceAdd, if_true, if_false, reduceIte, reduceCtorEq, abin, intArith, aun, beq_self_eq_true, Bool.true_beq, Bool.false_beq, Bool.not_true, Bool.not_false, AL.part, addOff, Int.toNat_natCast, Nat.mul_one, Nat.add_zero, Nat.zero_add, cond_true, cond_false, show Nat.beq 1 1 = true from rfl, show Nat.beq 0 1 = false from rfl]) (by simp only [wanted, AL.pop, AL.hop, ev, evs, get_putS, get_putN, get_nilS, Nat.reduceEqDiff, Nat.reduceAdd, if_true, if_false, reduceIte, reduceCtorEq, abin, intArith, aun, beq_self_eq_true, Bool.true_beq, Bool.false_beq, Bool.not_true, Bool.not_false, AL.part, addOff, Int.toNat_natCast, Nat.mul_one, Nat.add_zero, Nat.zero_add, cond_true, cond_false, show Nat.beq 1 1 = true from rfl, show Nat.beq 0 1 = false from rfl]) (same_any ext0_ok hS14.wl ha14.wl hl36) ?_
    intro w15 hx15
    iterate 2 (refine Ow.popM rfl ?_; simp only [wanted, AL.pop, AL.hop, ev, evs, get_putS, get_putN, get_nilS, Nat.reduceEqDiff, Nat.reduceAdd, if_true, if_false, reduceIte, reduceCtorEq, abin, intArith, aun, beq_self_eq_true, Bool.true_beq, Bool.false_beq, Bool.not_true, Bool.not_false, AL.part, addOff, Int.toNat_natCast, Nat.mul_one, Nat.add_zero, Nat.zero_add, cond_true, cond_false, show Nat.beq 1 1 = true from rfl, show Nat.beq 0 1 = false from rfl, eq_self, decide_true])
    refine Ow.nilM ⟨nofun, ?_⟩
    refine Cw.ret ?_
    simp only [Then, InBlock, Rnd, FnPost, resOf, tupled, wanted, AL.pop, AL.hop, ev, evs, get_putS, get_putN, get_nilS, Nat.reduceEqDiff, Nat.reduceAdd, if_true, if_false, reduceIte, reduceCtorEq, abin, intArith, aun, beq_self_eq_true, Bool.true_beq, Bool.false_beq, Bool.not_true, Bool.not_false, AL.part, addOff, Int.toNat_natCast, Nat.mul_one, Nat.add_zero, Nat.zero_add, cond_true, cond_false, show Nat.beq 1 1 = true from rfl, show Nat.beq 0 1 = false from rfl]
theorem BvPowers_calls (W : World) (A0 : Option Addr) (c0 : Nat) (l0 : List Bool) (a1 a2 : Int) (h0 : RowAt W A0 l0.length c0 (l0.map .bool)) (w1 : (Lit.int .u8 a1).wf = true) (w2 : (Lit.int .u8 a2).wf = true) :
    Calls Try.prog 7 #[.slice A0 l0.length c0, .int .u8 a1, .int .u8 a2] W fun e W' => e = .returned (.bool true) ∧ Go.RowKit.Below W.heap.size W W' := by
  have hrows : RowsAt W [⟨A0, l0.length, c0, l0.map .bool⟩] := fun i r hr => by
    match i, hr with
    | 0, hr => obtain rfl := Option.some.inj hr; exact h0
  have b1 : 0 ≤ a1 ∧ a1 ≤ 255 := by simpa [Lit.wf, IntKind.min, IntKind.max, IntKind.signed, IntKind.bits] using w1
  have b2 : 0 ≤ a2 ∧ a2 ≤ 255 := by simpa [Lit.wf, IntKind.min, IntKind.max, IntKind.signed, IntKind.bits] using w2
  obtain ⟨m, rfl⟩ := Int.eq_ofNat_of_zero_le b1.1
  obtain ⟨n, rfl⟩ := Int.eq_ofNat_of_zero_le b2.1
  refine law_calls (C := Cx ext0) IR.mixed IR.ft_ok ext0_sim no_glob hrows (args := [Row.val 0 ⟨A0, l0.length, c0, l0.map .bool⟩, .int .u8 m, .int .u8 n]) ?_ ?_
  · exact .cons (row_val hrows (i := 0) rfl) (.cons (.int _ _) (.cons (.int _ _) .nil))
  · exact BvPowers_run (row_isB hrows (i := 0) rfl rfl rfl) (by omega) (by omega)
end Go.Proofs.Yteeckncfllbokaa.X
