/- own, and the reference's power. -/
import Derived.Test.YteeckncfllbokaaXS
set_option linter.unusedSimpArgs false
set_option linter.unusedVariables false
namespace Go.Proofs.Yteeckncfllbokaa.X
open Go Go.AL
variable {ext : Nat → Option (List Value → AH → Option (Value × AH))}
/-- own -/
theorem own_any (hx : Ext0 ext) {H : AH} {v : Value} {l : List Bool} (hv : IsB H v l) (hl : l.length < 2 ^ 35) : Run (Cx ext) 15 [v] H fun r H' => AL.Ext H H' ∧ IsR H H' r l := by
  refine Run.intro (fi := IR.fi15) (hx 15 (by decide)) (by kernel_rfl) ?_
  unfold IR.fi15
  simp only [envOf_cons, envOf_nil]
  refine Cw.seq (Cw.region ?_)
  (refine Ow.popM rfl ?_; simp only [wanted, AL.pop, AL.hop, ev, evs, get_putS, get_putN, get_nilS, Nat.reduceEqDiff, Nat.reduceAdd, if_true, if_false, reduceIte, reduceCtorEq, abin, intArith, aun, beq_self_eq_true, Bool.true_beq, Bool.false_beq, Bool.not_true, Bool.not_false, AL.part, addOff, Int.toNat_natCast, Nat.mul_one, Nat.add_zero, Nat.zero_add, cond_true, cond_false, show Nat.beq 1 1 = true from rfl, show Nat.beq 0 1 = false from rfl])
  refine Ow.nilM ⟨nofun, ?_⟩
  refine Cw.seq (Cw.region ?_)
  (refine Ow.hopM rfl rfl ?_; simp only [wanted, AL.pop, AL.hop, ev, evs, get_putS, get_putN, get_nilS, Nat.reduceEqDiff, Nat.reduceAdd, if_true, if_false, reduceIte, reduceCtorEq, abin, intArith, aun, beq_self_eq_true, Bool.true_beq, Bool.false_beq, Bool.not_true, Bool.not_false, AL.part, addOff, Int.toNat_natCast, Nat.mul_one, Nat.add_zero, Nat.zero_add, cond_true, cond_false, show Nat.beq 1 1 = true from rfl, show Nat.beq 0 1 = false from rfl, AL.fillParts])
  have hx0 := (AL.Ext.refl H).new (⟨[], 0⟩ : Blk)
  have hM : IsM (H.new ⟨[], 0⟩) (.slice (some ⟨H.n, 0, none⟩) 0 0) [] H.n := ⟨rfl, Nat.lt_succ_self _, T.get_set_self _ _ _⟩
  (refine Ow.popM rfl ?_; simp only [wanted, AL.pop, AL.hop, ev, evs, get_putS, get_putN, get_nilS, Nat.reduceEqDiff, Nat.reduceAdd, if_true, if_false, reduceIte, reduceCtorEq, abin, intArith, aun, beq_self_eq_true, Bool.true_beq, Bool.false_beq, Bool.not_true, Bool.not_false, AL.part, addOff, Int.toNat_natCast, Nat.mul_one, Nat.add_zero, Nat.zero_add, cond_true, cond_false, show Nat.beq 1 1 = true from rfl, show Nat.beq 0 1 = false from rfl])
  refine Ow.appX (H0 := H) rfl (by simp only [wanted, AL.pop, AL.hop, ev, evs, get_putS, get_putN, get_nilS, Nat.reduceEqDiff, Nat.reduceAdd, if_true, if_false, reduceIte, reduceCtorEq, abin, intArith, aun, beq_self_eq_true, Bool.true_beq, Bool.false_beq, Bool.not_true, Bool.not_false, AL.part, addOff, Int.toNat_natCast, Nat.mul_one, Nat.add_zero, Nat.zero_add, cond_true, cond_false, show Nat.beq 1 1 = true from rfl, show Nat.beq 0 1 = false from rfl]) (by simp only [wanted, AL.pop, AL.hop, ev, evs, get_putS, get_putN, get_nilS, Nat.reduceEqDiff, Nat.reduceAdd, if_true, if_false, reduceIte, reduceCtorEq, abin, intArith, aun, beq_self_eq_true, Bool.true_beq, Bool.false_beq, Bool.not_true, Bool.not_false, AL.part, addOff, Int.toNat_natCast, Nat.mul_one, Nat.add_zero, Nat.zero_add, cond_true, cond_false, show Nat.beq 1 1 = true from rfl, show Nat.beq 0 1 = false from rfl]) hM (Nat.le_refl _) (hv.ext hx0) (by simp; omega) ?_
  intro r H1 w1 hx1 hr
  (refine Ow.popM rfl ?_; simp only [wanted, AL.pop, AL.hop, ev, evs, get_putS, get_putN, get_nilS, Nat.reduceEqDiff, Nat.reduceAdd, if_true, if_false, reduceIte, reduceCtorEq, abin, intArith, aun, beq_self_eq_true, Bool.true_beq, Bool.false_beq, Bool.not_true, Bool.not_false, AL.part, addOff, Int.toNat_natCast, Nat.mul_one, Nat.add_zero, Nat.zero_add, cond_true, cond_false, show Nat.beq 1 1 = true from rfl, show Nat.beq 0 1 = false from rfl])
  refine Ow.nilM ⟨nofun, ?_⟩
  refine Cw.ret ?_
  simp only [Then, InBlock, Rnd, FnPost, resOf, tupled, wanted, AL.pop, AL.hop, ev, evs, get_putS, get_putN, get_nilS, Nat.reduceEqDiff, Nat.reduceAdd, if_true, if_false, reduceIte, reduceCtorEq, abin, intArith, aun, beq_self_eq_true, Bool.true_beq, Bool.false_beq, Bool.not_true, Bool.not_false, AL.part, addOff, Int.toNat_natCast, Nat.mul_one, Nat.add_zero, Nat.zero_add, cond_true, cond_false, show Nat.beq 1 1 = true from rfl, show Nat.beq 0 1 = false from rfl]
  exact ⟨hx0.trans hx1, hr⟩
theorem val_power (n : Nat) : val (List.replicate n false ++ [true]) = 2 ^ n := by rw [val_append]; simp [val]
/-- power -/
theorem power_any (hx : Ext0 ext) {H : AH} {n : Nat} (hn : n < 2 ^ 34) : Run (Cx ext) 62 [.int .i64 n] H fun r H' => AL.Ext H H' ∧ IsR H H' r (List.replicate n false ++ [true]) := by
  refine Run.intro (fi := IR.fi62) (hx 62 (by decide)) (by kernel_rfl) ?_
  unfold IR.fi62
  simp only [envOf_cons, envOf_nil]
  refine Cw.seq (Cw.region ?_)
  (refine Ow.popM rfl ?_; simp only [wanted, AL.pop, AL.hop, ev, evs, get_putS, get_putN, get_nilS, Nat.reduceEqDiff, Nat.reduceAdd, if_true, if_false, reduceIte, reduceCtorEq, abin, intArith, aun, beq_self_eq_true, Bool.true_beq, Bool.false_beq, Bool.not_true, Bool.not_false, AL.part, addOff, Int.toNat_natCast, Nat.mul_one, Nat.add_zero, Nat.zero_add, cond_true, cond_false, show Nat.beq 1 1 = true from rfl, show Nat.beq 0 1 = false from rfl])
  refine Ow.nilM ⟨nofun, ?_⟩
  refine Cw.seq (Cw.region ?_)
  (refine Ow.popM rfl ?_; simp only [wanted, AL.pop, AL.hop, ev, evs, get_putS, get_putN, get_nilS, Nat.reduceEqDiff, Nat.reduceAdd, if_true, if_false, reduceIte, reduceCtorEq, abin, intArith, aun, beq_self_eq_true, Bool.true_beq, Bool.false_beq, Bool.not_true, Bool.not_false, AL.part, addOff, Int.toNat_natCast, Nat.mul_one, Nat.add_zero, Nat.zero_add, cond_true, cond_false, show Nat.beq 1 1 = true from rfl, show Nat.beq 0 1 = false from rfl])
  refine Ow.makeB (k := .i64) (n := n) rfl (by simp only [wanted, AL.pop, AL.hop, ev, evs, get_putS, get_putN, get_nilS, Nat.reduceEqDiff, Nat.reduceAdd, if_true, if_false, reduceIte, reduceCtorEq, abin, intArith, aun, beq_self_eq_true, Bool.true_beq, Bool.false_beq, Bool.not_true, Bool.not_false, AL.part, addOff, Int.toNat_natCast, Nat.mul_one, Nat.add_zero, Nat.zero_add, cond_true, cond_false, show Nat.beq 1 1 = true from rfl, show Nat.beq 0 1 = false from rfl]) (by omega) ?_
  have hx0 := (AL.Ext.refl H).new (⟨(List.replicate n false).map .bool, 0⟩ : Blk)
  have hM0 : IsM (H.new ⟨(List.replicate n false).map .bool, 0⟩) (.slice (some ⟨H.n, 0, none⟩) n n) (List.replicate n false) H.n := ⟨by rw [List.length_replicate], Nat.lt_succ_self _, T.get_set_self _ _ _⟩
  generalize hHa : H.new ⟨(List.replicate n false).map .bool, 0⟩ = Ha at *
  (refine Ow.hopM rfl rfl ?_; simp only [wanted, AL.pop, AL.hop, ev, evs, get_putS, get_putN, get_nilS, Nat.reduceEqDiff, Nat.reduceAdd, if_true, if_false, reduceIte, reduceCtorEq, abin, intArith, aun, beq_self_eq_true, Bool.true_beq, Bool.false_beq, Bool.not_true, Bool.not_false, AL.part, addOff, Int.toNat_natCast, Nat.mul_one, Nat.add_zero, Nat.zero_add, cond_true, cond_false, show Nat.beq 1 1 = true from rfl, show Nat.beq 0 1 = false from rfl, AL.fillParts, putCells, AL.cellsOf, junk, List.length_cons, List.length_nil, Nat.beq_refl, Nat.ble_self_eq_true, show Nat.ble 1 1 = true from rfl, Bool.and_self, Bool.and_true, Bool.true_and, List.take_zero, List.nil_append, List.drop_succ_cons, List.drop_zero, List.drop_nil, List.append_nil, Nat.sub_zero])
  have hx1 := (AL.Ext.refl Ha).new (⟨[.bool true], 0⟩ : Blk)
  refine Ow.appX (H0 := H) rfl (by simp only [wanted, AL.pop, AL.hop, ev, evs, get_putS, get_putN, get_nilS, Nat.reduceEqDiff, Nat.reduceAdd, if_true, if_false, reduceIte, reduceCtorEq, abin, intArith, aun, beq_self_eq_true, Bool.true_beq, Bool.false_beq, Bool.not_true, Bool.not_false, AL.part, addOff, Int.toNat_natCast, Nat.mul_one, Nat.add_zero, Nat.zero_add, cond_true, cond_false, show Nat.beq 1 1 = true from rfl, show Nat.beq 0 1 = false from rfl]) (by simp only [wanted, AL.pop, AL.hop, ev, evs, get_putS, get_putN, get_nilS, Nat.reduceEqDiff, Nat.reduceAdd, if_true, if_false, reduceIte, reduceCtorEq, abin, intArith, aun, beq_self_eq_true, Bool.true_beq, Bool.false_beq, Bool.not_true, Bool.not_false, AL.part, addOff, Int.toNat_natCast, Nat.mul_one, Nat.add_zero, Nat.zero_add, cond_true, cond_false, show Nat.beq 1 1 = true from rfl, show Nat.beq 0 1 = false from rfl]) (IsM_ext hM0 hx1) (Nat.le_refl _) (lit1 (H := Ha) true) (by simp; omega) ?_
  intro r H1 w1 hx2 hr
  (refine Ow.popM rfl ?_; simp only [wanted, AL.pop, AL.hop, ev, evs, get_putS, get_putN, get_nilS, Nat.reduceEqDiff, Nat.reduceAdd, if_true, if_false, reduceIte, reduceCtorEq, abin, intArith, aun, beq_self_eq_true, Bool.true_beq, Bool.false_beq, Bool.not_true, Bool.not_false, AL.part, addOff, Int.toNat_natCast, Nat.mul_one, Nat.add_zero, Nat.zero_add, cond_true, cond_false, show Nat.beq 1 1 = true from rfl, show Nat.beq 0 1 = false from rfl])
  refine Ow.nilM ⟨nofun, ?_⟩
  refine Cw.ret ?_
  simp only [Then, InBlock, Rnd, FnPost, resOf, tupled, wanted, AL.pop, AL.hop, ev, evs, get_putS, get_putN, get_nilS, Nat.reduceEqDiff, Nat.reduceAdd, if_true, if_false, reduceIte, reduceCtorEq, abin, intArith, aun, beq_self_eq_true, Bool.true_beq, Bool.false_beq, Bool.not_true, Bool.not_false, AL.part, addOff, Int.toNat_natCast, Nat.mul_one, Nat.add_zero, Nat.zero_add, cond_true, cond_false, show Nat.beq 1 1 = true from rfl, show Nat.beq 0 1 = false from rfl]
  exact ⟨(hx0.trans hx1).trans hx2, hr⟩
end Go.Proofs.Yteeckncfllbokaa.X
