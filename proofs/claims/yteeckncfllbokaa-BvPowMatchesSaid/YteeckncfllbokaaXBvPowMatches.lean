/- BvPowMatches: the interpreter answers true. -/
import Derived.Test.YteeckncfllbokaaXW
import Derived.Test.YteeckncfllbokaaXK
set_option linter.unusedSimpArgs false
set_option linter.unusedVariables false
namespace Go.Proofs.Yteeckncfllbokaa.X
open Go Go.AL
theorem BvPowMatches_run {H : AH} {va vb : Value} {la lb : List Bool} (ha : IsB H va la) (hb : IsB H vb lb) : Run (Cx ext0) 4 [va, vb] H fun r _ => r = .bool true := by
  refine Run.intro (fi := IR.fi4) (ext0_ok 4 (by decide)) (by kernel_rfl) ?_
  unfold IR.fi4
  simp only [envOf_cons, envOf_nil]
  obtain ⟨aa, ca, ea⟩ := ha.shape
  obtain ⟨ab, cb, eb⟩ := hb.shape
  subst ea
  subst eb
  have fin : ∀ E H1, E.get 12 = some (.bool true) → Cw (Cx ext0) (.cond (.tmp 12) (.seq (.region false [⟨some 13, none, .call (.func 14) []⟩, ⟨some 4, none, .mov (.tmp 13)⟩] []) .ret) .skip) E H1 fun c E' H' => c = .ret ∧ E'.get 4 = some (.bool true) := by
    intro E H1 h
    refine Cw.cond (t := true) (by simp only [wanted, AL.pop, AL.hop, ev, evs, get_putS, get_putN, get_nilS, Nat.reduceEqDiff, Nat.reduceAdd, if_true, if_false, reduceIte, reduceCtorEq, abin, intArith, aun, beq_self_eq_true, Bool.true_beq, Bool.false_beq, Bool.not_true, Bool.not_false, AL.part, addOff, Int.toNat_natCast, Nat.mul_one, Nat.add_zero, Nat.zero_add, cond_true, cond_false, show Nat.beq 1 1 = true from rfl, show Nat.beq 0 1 = false from rfl, h]) ?_
    refine Cw.seq (Cw.region ?_)
    refine Ow.callP (k := 14) (vs := []) rfl rfl rfl awake_any ?_
    intro w2 hx2
    (refine Ow.popM rfl ?_; simp only [wanted, AL.pop, AL.hop, ev, evs, get_putS, get_putN, get_nilS, Nat.reduceEqDiff, Nat.reduceAdd, if_true, if_false, reduceIte, reduceCtorEq, abin, intArith, aun, beq_self_eq_true, Bool.true_beq, Bool.false_beq, Bool.not_true, Bool.not_false, AL.part, addOff, Int.toNat_natCast, Nat.mul_one, Nat.add_zero, Nat.zero_add, cond_true, cond_false, show Nat.beq 1 1 = true from rfl, show Nat.beq 0 1 = false from rfl])
    refine Ow.nilM ⟨nofun, ?_⟩
    refine Cw.ret ⟨rfl, ?_⟩
    simp only [wanted, AL.pop, AL.hop, ev, evs, get_putS, get_putN, get_nilS, Nat.reduceEqDiff, Nat.reduceAdd, if_true, if_false, reduceIte, reduceCtorEq, abin, intArith, aun, beq_self_eq_true, Bool.true_beq, Bool.false_beq, Bool.not_true, Bool.not_false, AL.part, addOff, Int.toNat_natCast, Nat.mul_one, Nat.add_zero, Nat.zero_add, cond_true, cond_false, show Nat.beq 1 1 = true from rfl, show Nat.beq 0 1 = false from rfl]
  have done : ∀ (c : Ctl) (E' : Env) (H' : AH) (b : IC), (c = .ret ∧ E'.get 4 = some (.bool true)) → Then (Cx ext0) b (FnPost [.tmp 4] fun r _ => r = .bool true) c E' H' := by
    rintro c E' H' b ⟨rfl, h6⟩
    simp only [Then, FnPost, resOf, tupled, wanted, AL.pop, AL.hop, ev, evs, get_putS, get_putN, get_nilS, Nat.reduceEqDiff, Nat.reduceAdd, if_true, if_false, reduceIte, reduceCtorEq, abin, intArith, aun, beq_self_eq_true, Bool.true_beq, Bool.false_beq, Bool.not_true, Bool.not_false, AL.part, addOff, Int.toNat_natCast, Nat.mul_one, Nat.add_zero, Nat.zero_add, cond_true, cond_false, show Nat.beq 1 1 = true from rfl, show Nat.beq 0 1 = false from rfl, h6]
  refine Cw.seq (Cw.region ?_)
  (refine Ow.popM rfl ?_; simp only [wanted, AL.pop, AL.hop, ev, evs, get_putS, get_putN, get_nilS, Nat.reduceEqDiff, Nat.reduceAdd, if_true, if_false, reduceIte, reduceCtorEq, abin, intArith, aun, beq_self_eq_true, Bool.true_beq, Bool.false_beq, Bool.not_true, Bool.not_false, AL.part, addOff, Int.toNat_natCast, Nat.mul_one, Nat.add_zero, Nat.zero_add, cond_true, cond_false, show Nat.beq 1 1 = true from rfl, show Nat.beq 0 1 = false from rfl])
  refine Ow.nilM ⟨nofun, ?_⟩
  refine Cw.seq (Cw.seq (Cw.region ?_))
  by_cases h1 : 40 < la.length
  · iterate 4 (refine Ow.popM rfl ?_; simp only [wanted, AL.pop, AL.hop, ev, evs, get_putS, get_putN, get_nilS, Nat.reduceEqDiff, Nat.reduceAdd, if_true, if_false, reduceIte, reduceCtorEq, abin, intArith, aun, beq_self_eq_true, Bool.true_beq, Bool.false_beq, Bool.not_true, Bool.not_false, AL.part, addOff, Int.toNat_natCast, Nat.mul_one, Nat.add_zero, Nat.zero_add, cond_true, cond_false, show Nat.beq 1 1 = true from rfl, show Nat.beq 0 1 = false from rfl, gt_true (show (40 : Int) < (la.length : Int) by omega)])
    iterate 3 refine Ow.pass (by simp only [wanted, AL.pop, AL.hop, ev, evs, get_putS, get_putN, get_nilS, Nat.reduceEqDiff, Nat.reduceAdd, if_true, if_false, reduceIte, reduceCtorEq, abin, intArith, aun, beq_self_eq_true, Bool.true_beq, Bool.false_beq, Bool.not_true, Bool.not_false, AL.part, addOff, Int.toNat_natCast, Nat.mul_one, Nat.add_zero, Nat.zero_add, cond_true, cond_false, show Nat.beq 1 1 = true from rfl, show Nat.beq 0 1 = false from rfl]) ?_
    (refine Ow.popM rfl ?_; simp only [wanted, AL.pop, AL.hop, ev, evs, get_putS, get_putN, get_nilS, Nat.reduceEqDiff, Nat.reduceAdd, if_true, if_false, reduceIte, reduceCtorEq, abin, intArith, aun, beq_self_eq_true, Bool.true_beq, Bool.false_beq, Bool.not_true, Bool.not_false, AL.part, addOff, Int.toNat_natCast, Nat.mul_one, Nat.add_zero, Nat.zero_add, cond_true, cond_false, show Nat.beq 1 1 = true from rfl, show Nat.beq 0 1 = false from rfl])
    refine Ow.nilM ⟨nofun, ?_⟩
    exact (fin _ _ (by simp only [wanted, AL.pop, AL.hop, ev, evs, get_putS, get_putN, get_nilS, Nat.reduceEqDiff, Nat.reduceAdd, if_true, if_false, reduceIte, reduceCtorEq, abin, intArith, aun, beq_self_eq_true, Bool.true_beq, Bool.false_beq, Bool.not_true, Bool.not_false, AL.part, addOff, Int.toNat_natCast, Nat.mul_one, Nat.add_zero, Nat.zero_add, cond_true, cond_false, show Nat.beq 1 1 = true from rfl, show Nat.beq 0 1 = false from rfl])).mono fun c E' H' h => done c E' H' _ h
  by_cases h2 : 40 < lb.length
  · iterate 8 (refine Ow.popM rfl ?_; simp only [wanted, AL.pop, AL.hop, ev, evs, get_putS, get_putN, get_nilS, Nat.reduceEqDiff, Nat.reduceAdd, if_true, if_false, reduceIte, reduceCtorEq, abin, intArith, aun, beq_self_eq_true, Bool.true_beq, Bool.false_beq, Bool.not_true, Bool.not_false, AL.part, addOff, Int.toNat_natCast, Nat.mul_one, Nat.add_zero, Nat.zero_add, cond_true, cond_false, show Nat.beq 1 1 = true from rfl, show Nat.beq 0 1 = false from rfl, gt_false (show (la.length : Int) ≤ 40 by omega), gt_true (show (40 : Int) < (lb.length : Int) by omega)])
    refine Ow.nilM ⟨nofun, ?_⟩
    exact (fin _ _ (by simp only [wanted, AL.pop, AL.hop, ev, evs, get_putS, get_putN, get_nilS, Nat.reduceEqDiff, Nat.reduceAdd, if_true, if_false, reduceIte, reduceCtorEq, abin, intArith, aun, beq_self_eq_true, Bool.true_beq, Bool.false_beq, Bool.not_true, Bool.not_false, AL.part, addOff, Int.toNat_natCast, Nat.mul_one, Nat.add_zero, Nat.zero_add, cond_true, cond_false, show Nat.beq 1 1 = true from rfl, show Nat.beq 0 1 = false from rfl])).mono fun c E' H' h => done c E' H' _ h
  iterate 8 (refine Ow.popM rfl ?_; simp only [wanted, AL.pop, AL.hop, ev, evs, get_putS, get_putN, get_nilS, Nat.reduceEqDiff, Nat.reduceAdd, if_true, if_false, reduceIte, reduceCtorEq, abin, intArith, aun, beq_self_eq_true, Bool.true_beq, Bool.false_beq, Bool.not_true, Bool.not_false, AL.part, addOff, Int.toNat_natCast, Nat.mul_one, Nat.add_zero, Nat.zero_add, cond_true, cond_false, show Nat.beq 1 1 = true from rfl, show Nat.beq 0 1 = false from rfl, gt_false (show (la.length : Int) ≤ 40 by omega), gt_false (show (lb.length : Int) ≤ 40 by omega)])
  refine Ow.nilM ⟨nofun, ?_⟩
  refine Cw.cond (t := false) (by simp only [wanted, AL.pop, AL.hop, ev, evs, get_putS, get_putN, get_nilS, Nat.reduceEqDiff, Nat.reduceAdd, if_true, if_false, reduceIte, reduceCtorEq, abin, intArith, aun, beq_self_eq_true, Bool.true_beq, Bool.false_beq, Bool.not_true, Bool.not_false, AL.part, addOff, Int.toNat_natCast, Nat.mul_one, Nat.add_zero, Nat.zero_add, cond_true, cond_false, show Nat.beq 1 1 = true from rfl, show Nat.beq 0 1 = false from rfl]) ?_
  refine Cw.skip ?_
  refine Cw.seq (Cw.region ?_)
  iterate 2 (refine Ow.popM rfl ?_; simp only [wanted, AL.pop, AL.hop, ev, evs, get_putS, get_putN, get_nilS, Nat.reduceEqDiff, Nat.reduceAdd, if_true, if_false, reduceIte, reduceCtorEq, abin, intArith, aun, beq_self_eq_true, Bool.true_beq, Bool.false_beq, Bool.not_true, Bool.not_false, AL.part, addOff, Int.toNat_natCast, Nat.mul_one, Nat.add_zero, Nat.zero_add, cond_true, cond_false, show Nat.beq 1 1 = true from rfl, show Nat.beq 0 1 = false from rfl])
  refine Ow.callE (k := 22) (fs := []) (cs := []) (vs := [.slice aa la.length ca, .slice ab lb.length cb]) rfl rfl (by simp only [wanted, AL.pop, AL.hop, ev, evs, get_putS, get_putN, get_nilS, Nat.reduceEqDiff, Nat.reduceAdd, if_true, if_false, reduceIte, reduceCtorEq, abin, intArith, aun, beq_self_eq_true, Bool.true_beq, Bool.false_beq, Bool.not_true, Bool.not_false, AL.part, addOff, Int.toNat_natCast, Nat.mul_one, Nat.add_zero, Nat.zero_add, cond_true, cond_false, show Nat.beq 1 1 = true from rfl, show Nat.beq 0 1 = false from rfl]) (pow_any ext0_ok ha.wl hb.wl (by omega) (by omega)) ?_
  rintro x H1 w1 hx1 ⟨ix, hix, hxx⟩
  have hX : IsB { H1 with wl := w1 } x _ := hxx.isB
  iterate 2 (refine Ow.popM rfl ?_; simp only [wanted, AL.pop, AL.hop, ev, evs, get_putS, get_putN, get_nilS, Nat.reduceEqDiff, Nat.reduceAdd, if_true, if_false, reduceIte, reduceCtorEq, abin, intArith, aun, beq_self_eq_true, Bool.true_beq, Bool.false_beq, Bool.not_true, Bool.not_false, AL.part, addOff, Int.toNat_natCast, Nat.mul_one, Nat.add_zero, Nat.zero_add, cond_true, cond_false, show Nat.beq 1 1 = true from rfl, show Nat.beq 0 1 = false from rfl])
  refine Ow.callE (k := 23) (fs := []) (cs := []) (vs := [.slice aa la.length ca, .slice ab lb.length cb]) rfl rfl (by simp only [wanted, AL.pop, AL.hop, ev, evs, get_putS, get_putN, get_nilS, Nat.reduceEqDiff, Nat.reduceAdd, if_true, if_false, reduceIte, reduceCtorEq, abin, intArith, aun, beq_self_eq_true, Bool.true_beq, Bool.false_beq, Bool.not_true, Bool.not_false, AL.part, addOff, Int.toNat_natCast, Nat.mul_one, Nat.add_zero, Nat.zero_add, cond_true, cond_false, show Nat.beq 1 1 = true from rfl, show Nat.beq 0 1 = false from rfl]) (rpow_any ext0_ok (ha.ext hx1).wl (hb.ext hx1).wl (by omega) (by omega)) ?_
  rintro y H2 w2 hx2 hY
  have hX2 := hX.ext hx2
  have hY2 : IsB { H2 with wl := w2 } y _ := hY
  refine Ow.callP (k := 20) (vs := [x, y]) rfl rfl (by simp only [wanted, AL.pop, AL.hop, ev, evs, get_putS, get_putN, get_nilS, Nat.reduceEqDiff, Nat.reduceAdd, if_true, if_false, reduceIte, reduceCtorEq, abin, intArith, aun, beq_self_eq_true, Bool.true_beq, Bool.false_beq, Bool.not_true, Bool.not_false, AL.part, addOff, Int.toNat_natCast, Nat.mul_one, Nat.add_zero, Nat.zero_add, cond_true, cond_false, show Nat.beq 1 1 = true from rfl, show Nat.beq 0 1 = false from rfl]) (same_N ext0_ok hX2.wl hY2.wl (by omega) rfl) ?_
  intro w3 hx3
  (refine Ow.popM rfl ?_; simp only [wanted, AL.pop, AL.hop, ev, evs, get_putS, get_putN, get_nilS, Nat.reduceEqDiff, Nat.reduceAdd, if_true, if_false, reduceIte, reduceCtorEq, abin, intArith, aun, beq_self_eq_true, Bool.true_beq, Bool.false_beq, Bool.not_true, Bool.not_false, AL.part, addOff, Int.toNat_natCast, Nat.mul_one, Nat.add_zero, Nat.zero_add, cond_true, cond_false, show Nat.beq 1 1 = true from rfl, show Nat.beq 0 1 = false from rfl])
  refine Ow.callP (k := 14) (vs := []) (by simp only [wanted, AL.pop, AL.hop, ev, evs, get_putS, get_putN, get_nilS, Nat.reduceEqDiff, Nat.reduceAdd, if_true, if_false, reduceIte, reduceCtorEq, abin, intArith, aun, beq_self_eq_true, Bool.true_beq, Bool.false_beq, Bool.not_true, Bool.not_false, AL.part, addOff, Int.toNat_natCast, Nat.mul_one, Nat.add_zero, Nat.zero_add, cond_true, cond_false, show Nat.beq 1 1 = true from rfl, show Nat.beq 0 1 = false from rfl]) rfl rfl awake_any ?_
  intro w4 hx4
  iterate 2 (refine Ow.popM rfl ?_; simp only [wanted, AL.pop, AL.hop, ev, evs, get_putS, get_putN, get_nilS, Nat.reduceEqDiff, Nat.reduceAdd, if_true, if_false, reduceIte, reduceCtorEq, abin, intArith, aun, beq_self_eq_true, Bool.true_beq, Bool.false_beq, Bool.not_true, Bool.not_false, AL.part, addOff, Int.toNat_natCast, Nat.mul_one, Nat.add_zero, Nat.zero_add, cond_true, cond_false, show Nat.beq 1 1 = true from rfl, show Nat.beq 0 1 = false from rfl])
  refine Ow.nilM ⟨nofun, ?_⟩
  refine Cw.ret ?_
  simp only [Then, InBlock, Rnd, FnPost, resOf, tupled, wanted, AL.pop, AL.hop, ev, evs, get_putS, get_putN, get_nilS, Nat.reduceEqDiff, Nat.reduceAdd, if_true, if_false, reduceIte, reduceCtorEq, abin, intArith, aun, beq_self_eq_true, Bool.true_beq, Bool.false_beq, Bool.not_true, Bool.not_false, AL.part, addOff, Int.toNat_natCast, Nat.mul_one, Nat.add_zero, Nat.zero_add, cond_true, cond_false, show Nat.beq 1 1 = true from rfl, show Nat.beq 0 1 = false from rfl]
theorem BvPowMatches_calls (W : World) (A0 : Option Addr) (c0 : Nat) (l0 : List Bool) (A1 : Option Addr) (c1 : Nat) (l1 : List Bool) (h0 : RowAt W A0 l0.length c0 (l0.map .bool)) (h1 : RowAt W A1 l1.length c1 (l1.map .bool)) :
    Calls Try.prog 4 #[.slice A0 l0.length c0, .slice A1 l1.length c1] W fun e W' => e = .returned (.bool true) ∧ Go.RowKit.Below W.heap.size W W' := by
  have hrows : RowsAt W [⟨A0, l0.length, c0, l0.map .bool⟩, ⟨A1, l1.length, c1, l1.map .bool⟩] := fun i r hr => by
    match i, hr with
    | 0, hr => obtain rfl := Option.some.inj hr; exact h0
    | 1, hr => obtain rfl := Option.some.inj hr; exact h1
  refine law_calls (C := Cx ext0) IR.mixed IR.ft_ok ext0_sim no_glob hrows (args := [Row.val 0 ⟨A0, l0.length, c0, l0.map .bool⟩, Row.val 1 ⟨A1, l1.length, c1, l1.map .bool⟩]) ?_ ?_
  · exact .cons (row_val hrows (i := 0) rfl) (.cons (row_val hrows (i := 1) rfl) .nil)
  · exact BvPowMatches_run (row_isB hrows (i := 0) rfl rfl rfl) (row_isB hrows (i := 1) rfl rfl rfl)
end Go.Proofs.Yteeckncfllbokaa.X
