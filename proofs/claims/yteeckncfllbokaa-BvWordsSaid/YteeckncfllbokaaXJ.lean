/- The reference's sum. -/
import Derived.Test.YteeckncfllbokaaXL
set_option linter.unusedSimpArgs false
set_option linter.unusedVariables false
namespace Go.Proofs.Yteeckncfllbokaa.X
open Go Go.AL
variable {ext : Nat → Option (List Value → AH → Option (Value × AH))}
theorem fw_one {a : Nat} (h : a < 2 ^ 62) : fwrap .i64 ((a : Int) + 1) = ((a + 1 : Nat) : Int) := fw_succ h
/-- if At(x, i) { n++ } -/
theorem sum_piece (hx : Ext0 ext) {E : Env} {H : AH} {x t1 t2 t3 t4 t5 k n : Nat} {v va vb u : Value} {l : List Bool} (hd : t1 = 26 ∧ t2 = 27 ∧ t3 = 28 ∧ t4 = 29 ∧ t5 = 30 ∧ x = 0 ∧ v = va ∨ t1 = 31 ∧ t2 = 32 ∧ t3 = 33 ∧ t4 = 34 ∧ t5 = 35 ∧ x = 1 ∧ v = vb) (hv : IsB H v l)
    (e0 : E.get 0 = some va) (e1 : E.get 1 = some vb) (e5 : E.get 5 = some u) (e7 : E.get 7 = some (.int .i64 (k : Int))) (e8 : E.get 8 = some (.int .i64 (n : Int))) (hn : n < 10) :
    Cw (Cx ext) (.seq (.region false [⟨some t1, none, .mov (.tmp x)⟩, ⟨some t2, none, .mov (.tmp 7)⟩, ⟨some t3, none, .call (.func 60) [.tmp t1, .tmp t2]⟩] [])
      (.cond (.tmp t3) (.region false [⟨some t4, none, .mov (.tmp 8)⟩, ⟨some t5, none, .bin 0 .add (.tmp t4) (.const (.int .i64 1))⟩, ⟨some 8, none, .mov (.tmp t5)⟩] []) .skip)) E H
      fun c E' H' => c = .normal ∧ AL.Ext H H' ∧ E'.get 0 = some va ∧ E'.get 1 = some vb ∧ E'.get 5 = some u ∧ E'.get 7 = some (.int .i64 (k : Int)) ∧ E'.get 8 = some (.int .i64 ((n + (bx l k).toNat : Nat) : Int)) := by
  rcases hd with ⟨rfl, rfl, rfl, rfl, rfl, rfl, rfl⟩ | ⟨rfl, rfl, rfl, rfl, rfl, rfl, rfl⟩
  all_goals
    refine Cw.seq (Cw.region ?_)
    iterate 2 (refine Ow.popM rfl ?_; simp only [S0, Nat.reduceEqDiff, Nat.reduceAdd, reduceIte, reduceCtorEq, e0, e1, e7])
    refine Ow.callP (k := 60) (vs := [v, .int .i64 k]) rfl rfl (by simp only [S0, Nat.reduceEqDiff, Nat.reduceAdd, reduceIte, reduceCtorEq]) (At_any hx hv.wl) ?_
    intro wl hw
    refine Ow.nilM ⟨nofun, ?_⟩
    cases hb : bx l k with
    | true =>
      refine Cw.cond (t := true) (by simp only [S0, Nat.reduceEqDiff, Nat.reduceAdd, reduceIte, reduceCtorEq]) ?_
      refine Cw.region ?_
      iterate 3 (refine Ow.popM rfl ?_; simp only [S0, Nat.reduceEqDiff, Nat.reduceAdd, reduceIte, reduceCtorEq, e8, fw_one (show n < 2 ^ 62 by omega)])
      refine Ow.nilM ⟨nofun, ?_⟩
      simp only [S0, Nat.reduceEqDiff, Nat.reduceAdd, reduceIte, reduceCtorEq, e0, e1, e5, e7, Bool.toNat_true, true_and, and_true]
      exact hw
    | false =>
      refine Cw.cond (t := false) (by simp only [S0, Nat.reduceEqDiff, Nat.reduceAdd, reduceIte, reduceCtorEq]) ?_
      refine Cw.skip ?_
      simp only [S0, Nat.reduceEqDiff, Nat.reduceAdd, reduceIte, reduceCtorEq, e0, e1, e5, e7, e8, Bool.toNat_false, Nat.add_zero, true_and, and_true]
      exact hw
theorem rem_quo {n : Nat} (h : n < 4) : (fwrap .i64 (Int.tdiv (n : Int) 2) = ((n / 2 : Nat) : Int)) ∧ ((Int.tmod (n : Int) 2 == 1) = decide (n % 2 = 1)) := by
  match n, h with
  | 0, _ => exact ⟨rfl, rfl⟩
  | 1, _ => exact ⟨rfl, rfl⟩
  | 2, _ => exact ⟨rfl, rfl⟩
  | 3, _ => exact ⟨rfl, rfl⟩
theorem cy_end {A B m : Nat} (ha : A < 2 ^ m) (hb : B < 2 ^ m) : cy A B false (m + 1) = false := by
  unfold cy
  rw [decide_eq_false_iff_not]
  have : 2 ^ (m + 1) = 2 * 2 ^ m := by rw [Nat.pow_succ]; omega
  rw [Nat.mod_eq_of_lt (show A < 2 ^ (m + 1) by omega), Nat.mod_eq_of_lt (show B < 2 ^ (m + 1) by omega)]
  simp only [Bool.toNat_false]
  omega
theorem cy_none {A B k : Nat} (ha : A < 2 ^ k) (hb : B < 2 ^ k) (h : cy A B false k = false) : A + B < 2 ^ k := by
  unfold cy at h
  rw [decide_eq_false_iff_not, Nat.mod_eq_of_lt ha, Nat.mod_eq_of_lt hb] at h
  simp only [Bool.toNat_false] at h
  omega
theorem val_lt' {l : List Bool} {k : Nat} (h : l.length ≤ k) : val l < 2 ^ k := Nat.lt_of_lt_of_le (val_lt l) (Nat.pow_le_pow_right (by decide) h)
/-- sum -/
theorem sum_any (hx : Ext0 ext) {H : AH} {va vb : Value} {la lb : List Bool} (ha : IsB H va la) (hb : IsB H vb lb) (hla : la.length < 2 ^ 34) (hlb : lb.length < 2 ^ 34) :
    Run (Cx ext) 64 [va, vb] H fun r H' => AL.Ext H H' ∧ ∃ l, IsG H H' r l ∧ val l = val la + val lb ∧ l.length ≤ max la.length lb.length + 1 := by
  refine Run.intro (fi := IR.fi64) (hx 64 (by decide)) (by kernel_rfl) ?_
  unfold IR.fi64
  simp only [envOf_cons, envOf_nil]
  obtain ⟨aa, ca, ea⟩ := ha.shape
  obtain ⟨ab, cb, eb⟩ := hb.shape
  subst ea
  subst eb
  refine Cw.seq (Cw.region ?_)
  (refine Ow.popM rfl ?_; simp only [S0, Nat.reduceEqDiff, Nat.reduceAdd, reduceIte, reduceCtorEq])
  refine Ow.nilM ⟨nofun, ?_⟩
  refine Cw.seq (Cw.region ?_)
  (refine Ow.popM rfl ?_; simp only [S0, Nat.reduceEqDiff, Nat.reduceAdd, reduceIte, reduceCtorEq])
  refine Ow.nilM ⟨nofun, ?_⟩
  refine Cw.seq (Cw.region ?_)
  (refine Ow.popM rfl ?_; simp only [S0, Nat.reduceEqDiff, Nat.reduceAdd, reduceIte, reduceCtorEq])
  refine Ow.nilM ⟨nofun, ?_⟩
  refine Cw.seq (Cw.seq (Cw.region ?_))
  (refine Ow.popM rfl ?_; simp only [S0, Nat.reduceEqDiff, Nat.reduceAdd, reduceIte, reduceCtorEq])
  refine Ow.nilM ⟨nofun, ?_⟩
  refine Cw.block (Cw.loopI (max la.length lb.length + 1) (fun k E H2 => (E.get 0 = some (.slice aa la.length ca) ∧ E.get 1 = some (.slice ab lb.length cb) ∧ E.get 7 = some (.int .i64 (k : Int)) ∧ E.get 6 = some (.int .i64 ((cy (val la) (val lb) false k).toNat : Int))) ∧ AL.Ext H H2 ∧ ∃ u, E.get 5 = some u ∧ IsG H H2 u (ofN k (val la + val lb))) ⟨?_, AL.Ext.refl _, .slice none 0 0, by simp only [S0, Nat.reduceEqDiff, Nat.reduceAdd, reduceIte, reduceCtorEq], .inl ⟨rfl, by simp [ofN]⟩⟩ ?_)
  · simp only [S0, Nat.reduceEqDiff, Nat.reduceAdd, reduceIte, reduceCtorEq, cy_zero]; exact ⟨trivial, trivial, rfl, rfl⟩
  rintro k E H2 hk ⟨⟨e0, e1, e7, e6⟩, hxt, u, e5, hu⟩
  refine Cw.seq (Cw.seq (Cw.region ?_))
  have cond : ∀ (a b c : Bool), a = decide (k < la.length) → b = decide (k < lb.length) → c = cy (val la) (val lb) false k → Ow (Cx ext) [⟨some 9, none, .mov (.tmp 7)⟩, ⟨some 10, none, .mov (.tmp 0)⟩, ⟨some 11, none, .len false (.tmp 10)⟩, ⟨some 12, none, .bin 0 .lss (.tmp 9) (.tmp 11)⟩, ⟨some 13, none, .mov (.tmp 12)⟩, ⟨some 14, some (13, false), .mov (.tmp 7)⟩, ⟨some 15, some (13, false), .mov (.tmp 1)⟩, ⟨some 16, some (13, false), .len false (.tmp 15)⟩, ⟨some 17, some (13, false), .bin 0 .lss (.tmp 14) (.tmp 16)⟩, ⟨some 18, none, .pick (.tmp 13) (.const (.bool true)) (.tmp 17)⟩, ⟨some 19, none, .mov (.tmp 18)⟩, ⟨some 20, some (19, false), .mov (.tmp 6)⟩, ⟨some 21, some (19, false), .bin 0 .gtr (.tmp 20) (.const (.int .i64 0))⟩, ⟨some 22, none, .pick (.tmp 19) (.const (.bool true)) (.tmp 21)⟩] E H2
      fun E' H' _ => H' = H2 ∧ E'.get 0 = some (.slice aa la.length ca) ∧ E'.get 1 = some (.slice ab lb.length cb) ∧ E'.get 7 = some (.int .i64 (k : Int)) ∧ E'.get 6 = some (.int .i64 (c.toNat : Int)) ∧ E'.get 5 = some u ∧ E'.get 22 = some (.bool (a || b || c)) := by
    intro a b c hA hB hC
    rw [← hC] at e6
    have d1 : decide ((k : Int) < (la.length : Int)) = a := by rw [hA]; exact decide_eq_decide.2 (by omega)
    have d2 : decide ((k : Int) < (lb.length : Int)) = b := by rw [hB]; exact decide_eq_decide.2 (by omega)
    cases a with
    | true =>
      iterate 5 (refine Ow.popM rfl ?_; simp only [S0, Nat.reduceEqDiff, Nat.reduceAdd, reduceIte, reduceCtorEq, e0, e7, d1])
      iterate 4 refine Ow.pass (by simp only [S0, Nat.reduceEqDiff, Nat.reduceAdd, reduceIte, reduceCtorEq]) ?_
      iterate 2 (refine Ow.popM rfl ?_; simp only [S0, Nat.reduceEqDiff, Nat.reduceAdd, reduceIte, reduceCtorEq])
      iterate 2 refine Ow.pass (by simp only [S0, Nat.reduceEqDiff, Nat.reduceAdd, reduceIte, reduceCtorEq]) ?_
      (refine Ow.popM rfl ?_; simp only [S0, Nat.reduceEqDiff, Nat.reduceAdd, reduceIte, reduceCtorEq])
      refine Ow.nilM ?_
      simp only [S0, Nat.reduceEqDiff, Nat.reduceAdd, reduceIte, reduceCtorEq, e0, e1, e5, e6, e7, Bool.true_or, and_self]
    | false =>
      cases b with
      | true =>
        iterate 11 (refine Ow.popM rfl ?_; simp only [S0, Nat.reduceEqDiff, Nat.reduceAdd, reduceIte, reduceCtorEq, e0, e1, e7, d1, d2])
        iterate 2 refine Ow.pass (by simp only [S0, Nat.reduceEqDiff, Nat.reduceAdd, reduceIte, reduceCtorEq]) ?_
        (refine Ow.popM rfl ?_; simp only [S0, Nat.reduceEqDiff, Nat.reduceAdd, reduceIte, reduceCtorEq])
        refine Ow.nilM ?_
        simp only [S0, Nat.reduceEqDiff, Nat.reduceAdd, reduceIte, reduceCtorEq, e0, e1, e5, e6, e7, Bool.true_or, Bool.or_true, and_self]
      | false =>
        cases c with
        | true =>
          iterate 14 (refine Ow.popM rfl ?_; simp only [S0, Nat.reduceEqDiff, Nat.reduceAdd, reduceIte, reduceCtorEq, e0, e1, e6, e7, d1, d2, Bool.toNat_true, show decide (((1 : Nat) : Int) > 0) = true from rfl])
          refine Ow.nilM ?_
          simp only [S0, Nat.reduceEqDiff, Nat.reduceAdd, reduceIte, reduceCtorEq, e0, e1, e5, e6, e7, Bool.or_true, Bool.toNat_true, and_self]
        | false =>
          iterate 14 (refine Ow.popM rfl ?_; simp only [S0, Nat.reduceEqDiff, Nat.reduceAdd, reduceIte, reduceCtorEq, e0, e1, e6, e7, d1, d2, Bool.toNat_false, show decide (((0 : Nat) : Int) > 0) = false from rfl])
          refine Ow.nilM ?_
          simp only [S0, Nat.reduceEqDiff, Nat.reduceAdd, reduceIte, reduceCtorEq, e0, e1, e5, e6, e7, Bool.or_self, Bool.toNat_false, and_self]
  refine (cond _ _ _ rfl rfl rfl).mono ?_
  rintro E1 H1 fl ⟨rfl, f0, f1, f7, f6, f5, f22⟩
  refine ⟨nofun, ?_⟩
  generalize hc : cy (val la) (val lb) false k = c at *
  cases hgo : (decide (k < la.length) || decide (k < lb.length) || c) with
  | true =>
    have hkm : k < max la.length lb.length + 1 := by
      refine Nat.lt_of_le_of_ne hk (fun e => ?_)
      have h1 := cy_end (val_lt' (l := la) (Nat.le_max_left la.length lb.length)) (val_lt' (l := lb) (Nat.le_max_right la.length lb.length))
      rw [← e, hc] at h1
      subst h1
      simp only [Bool.or_false, Bool.or_eq_true, decide_eq_true_eq] at hgo
      omega
    rw [hgo] at f22
    refine Cw.cond (t := true) (by simp only [S0, Nat.reduceEqDiff, Nat.reduceAdd, reduceIte, reduceCtorEq, f22]) ?_
    refine Cw.skip ?_
    refine Cw.seq (Cw.block (Cw.seq (Cw.region ?_)))
    iterate 2 (refine Ow.popM rfl ?_; simp only [S0, Nat.reduceEqDiff, Nat.reduceAdd, reduceIte, reduceCtorEq, f6])
    refine Ow.nilM ⟨nofun, ?_⟩
    refine Cw.seq ((sum_piece hx (n := c.toNat) (k := k) (u := u) (.inl ⟨rfl, rfl, rfl, rfl, rfl, rfl, rfl⟩) (ha.ext hxt) (vb := .slice ab lb.length cb) (by simp only [S0, Nat.reduceEqDiff, Nat.reduceAdd, reduceIte, reduceCtorEq, f0]) (by simp only [S0, Nat.reduceEqDiff, Nat.reduceAdd, reduceIte, reduceCtorEq, f1]) (by simp only [S0, Nat.reduceEqDiff, Nat.reduceAdd, reduceIte, reduceCtorEq, f5]) (by simp only [S0, Nat.reduceEqDiff, Nat.reduceAdd, reduceIte, reduceCtorEq, f7]) (by simp only [S0, Nat.reduceEqDiff, Nat.reduceAdd, reduceIte, reduceCtorEq]) (by cases c <;> decide)).mono ?_)
    rintro cc E3 H3 ⟨rfl, hx3, g0, g1, g5, g7, g8⟩
    refine Cw.seq ((sum_piece hx (n := c.toNat + (bx la k).toNat) (k := k) (u := u) (.inr ⟨rfl, rfl, rfl, rfl, rfl, rfl, rfl⟩) ((hb.ext hxt).ext hx3) (va := .slice aa la.length ca) (by simp only [S0, Nat.reduceEqDiff, Nat.reduceAdd, reduceIte, reduceCtorEq, g0]) (by simp only [S0, Nat.reduceEqDiff, Nat.reduceAdd, reduceIte, reduceCtorEq, g1]) (by simp only [S0, Nat.reduceEqDiff, Nat.reduceAdd, reduceIte, reduceCtorEq, g5]) (by simp only [S0, Nat.reduceEqDiff, Nat.reduceAdd, reduceIte, reduceCtorEq, g7]) (by simp only [S0, Nat.reduceEqDiff, Nat.reduceAdd, reduceIte, reduceCtorEq, g8]) (by cases c <;> cases bx la k <;> decide)).mono ?_)
    rintro cc E4 H4 ⟨rfl, hx4, i0, i1, i5, i7, i8⟩
    have hfa := full_add (val la) (val lb) false k
    rw [val_bit la, val_bit lb, hc] at hfa
    simp only [Bool.toNat_false, Nat.add_zero] at hfa
    have hn4 : c.toNat + (bx la k).toNat + (bx lb k).toNat < 4 := by cases c <;> cases bx la k <;> cases bx lb k <;> decide
    have hbit : decide ((c.toNat + (bx la k).toNat + (bx lb k).toNat) % 2 = 1) = (val la + val lb).testBit k := by
      rw [hfa.1]; cases c <;> cases bx la k <;> cases bx lb k <;> rfl
    have hcar : (c.toNat + (bx la k).toNat + (bx lb k).toNat) / 2 = (cy (val la) (val lb) false (k + 1)).toNat := by
      rw [hfa.2]; cases c <;> cases bx la k <;> cases bx lb k <;> rfl
    have hrq := rem_quo hn4
    rw [hbit, hcar] at hrq
    generalize c.toNat + (bx la k).toNat + (bx lb k).toNat = nn at *
    refine Cw.seq (Cw.region ?_)
    iterate 4 (refine Ow.popM rfl ?_; simp only [S0, Nat.reduceEqDiff, Nat.reduceAdd, reduceIte, reduceCtorEq, i5, i8, hrq.2, show ¬ ((2 : Int) = 0) from by decide])
    (refine Ow.hopM rfl rfl ?_; simp only [S0, Nat.reduceEqDiff, Nat.reduceAdd, reduceIte, reduceCtorEq, S2, show Nat.ble 1 1 = true from rfl])
    have hx34 := (hx3.trans hx4).new (⟨[.bool ((val la + val lb).testBit k)], 0⟩ : Blk)
    refine Ow.appB (H0 := H) rfl (by simp only [S0, Nat.reduceEqDiff, Nat.reduceAdd, reduceIte, reduceCtorEq]) (by simp only [S0, Nat.reduceEqDiff, Nat.reduceAdd, reduceIte, reduceCtorEq]) (hu.ext hx34) (lit1 _) (hxt.trans hx34) (by simp [ofN_length]; omega) ?_
    intro r H5 b hx5 hr
    (refine Ow.popM rfl ?_; simp only [S0, Nat.reduceEqDiff, Nat.reduceAdd, reduceIte, reduceCtorEq])
    refine Ow.nilM ⟨nofun, ?_⟩
    show Cw _ _ _ _ _
    refine Cw.region ?_
    iterate 3 (refine Ow.popM rfl ?_; simp only [S0, Nat.reduceEqDiff, Nat.reduceAdd, reduceIte, reduceCtorEq, i8, hrq.1, show ¬ ((2 : Int) = 0) from by decide])
    refine Ow.nilM ⟨nofun, ?_⟩
    show Cw _ _ _ _ _
    refine Cw.region ?_
    iterate 3 (refine Ow.popM rfl ?_; simp only [S0, Nat.reduceEqDiff, Nat.reduceAdd, reduceIte, reduceCtorEq, i7, fw_succ (show k < 2 ^ 62 by omega)])
    refine Ow.nilM ⟨nofun, hkm, ?_, hx5, r, ?_, ?_⟩
    · simp only [S0, Nat.reduceEqDiff, Nat.reduceAdd, reduceIte, reduceCtorEq, i0, i1, and_self]
    · simp only [S0, Nat.reduceEqDiff, Nat.reduceAdd, reduceIte, reduceCtorEq]
    · rw [ofN_succ]; exact hr
  | false =>
    rw [hgo] at f22
    simp only [Bool.or_eq_false_iff, decide_eq_false_iff_not] at hgo
    obtain ⟨⟨h1, h2⟩, h3⟩ := hgo
    subst h3
    refine Cw.cond (t := false) (by simp only [S0, Nat.reduceEqDiff, Nat.reduceAdd, reduceIte, reduceCtorEq, f22]) ?_
    refine Cw.exit ?_
    show Cw _ _ _ _ _
    refine Cw.seq (Cw.region ?_)
    iterate 2 (refine Ow.popM rfl ?_; simp only [S0, Nat.reduceEqDiff, Nat.reduceAdd, reduceIte, reduceCtorEq, f5])
    refine Ow.nilM ⟨nofun, ?_⟩
    refine Cw.ret ?_
    simp only [Then, InBlock, Rnd, FnPost, resOf, tupled, S0, Nat.reduceEqDiff, Nat.reduceAdd, reduceIte, reduceCtorEq]
    refine ⟨hxt, _, hu, ?_, by rw [ofN_length]; exact hk⟩
    rw [val_ofN, Nat.mod_eq_of_lt (cy_none (val_lt' (by omega)) (val_lt' (by omega)) hc)]
end Go.Proofs.Yteeckncfllbokaa.X
