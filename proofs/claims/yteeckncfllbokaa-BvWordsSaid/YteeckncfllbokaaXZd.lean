/- The reference's divisions. -/
import Derived.Test.YteeckncfllbokaaXZc
set_option linter.unusedSimpArgs false
set_option linter.unusedVariables false
namespace Go.Proofs.Yteeckncfllbokaa.X
open Go Go.AL
variable {ext : Nat → Option (List Value → AH → Option (Value × AH))}
theorem dv_yes {A B n k : Nat} (hk : k < n) (hB : 0 < B) (hc : B ≤ (A.testBit (n - (k + 1))).toNat + 2 * (A / 2 ^ (n - k) % B)) : (ofN n (A / 2 ^ (n - k) / B * 2 ^ (n - k))).set (n - (k + 1)) true = ofN n (A / 2 ^ (n - (k + 1)) / B * 2 ^ (n - (k + 1))) ∧ A / 2 ^ (n - (k + 1)) % B = (A.testBit (n - (k + 1))).toNat + 2 * (A / 2 ^ (n - k) % B) - B := by
  obtain ⟨j, hj⟩ : ∃ j, n - (k + 1) = j := ⟨_, rfl⟩
  have hj1 : n - k = j + 1 := by omega
  rw [hj1, hj] at hc ⊢
  have hs := div_step A j
  have hr := div_round (P := A / 2 ^ (j + 1)) (B := B) (a := (A.testBit j).toNat) hB (by cases A.testBit j <;> simp)
  rw [← hs] at hr
  rw [if_pos (by omega), if_pos (by omega)] at hr
  refine ⟨?_, by rw [hr.2]; omega⟩
  rw [set_bitj (by omega), hr.1, Nat.add_mul, Nat.one_mul, Nat.pow_succ, Nat.mul_comm 2, Nat.mul_assoc, Nat.mul_comm 2]
theorem dv_no {A B n k : Nat} (hk : k < n) (hB : 0 < B) (hc : (A.testBit (n - (k + 1))).toNat + 2 * (A / 2 ^ (n - k) % B) < B) : ofN n (A / 2 ^ (n - k) / B * 2 ^ (n - k)) = ofN n (A / 2 ^ (n - (k + 1)) / B * 2 ^ (n - (k + 1))) ∧ A / 2 ^ (n - (k + 1)) % B = (A.testBit (n - (k + 1))).toNat + 2 * (A / 2 ^ (n - k) % B) := by
  obtain ⟨j, hj⟩ : ∃ j, n - (k + 1) = j := ⟨_, rfl⟩
  have hj1 : n - k = j + 1 := by omega
  rw [hj1, hj] at hc ⊢
  have hs := div_step A j
  have hr := div_round (P := A / 2 ^ (j + 1)) (B := B) (a := (A.testBit j).toNat) hB (by cases A.testBit j <;> simp)
  rw [← hs] at hr
  rw [if_neg (by omega), if_neg (by omega)] at hr
  refine ⟨?_, by rw [hr.2]; omega⟩
  rw [hr.1, Nat.pow_succ, Nat.mul_comm (2 ^ j) 2]
  simp only [Nat.add_zero]
  generalize A / (2 * 2 ^ j) / B = Z
  rw [Nat.mul_comm 2 Z, Nat.mul_assoc]
theorem val_cons (b : Bool) (l : List Bool) : val ([b] ++ l) = b.toNat + 2 * val l := rfl
/-- divide: quotient and remainder of two numbers -/
theorem rdivide_any (hx : Ext0 ext) {H : AH} {va vb : Value} {la lb : List Bool} (fa : IsB H va la) (fb : IsB H vb lb) (hla : la.length < 2 ^ 33) (hlb : lb.length < 2 ^ 33) (hz : val lb ≠ 0) :
    Run (Cx ext) 54 [va, vb] H fun r H' => AL.Ext H H' ∧ ∃ u w, r = .tuple ⟨[u, w]⟩ ∧ (∃ id, H.n ≤ id ∧ IsM H' u (ofN la.length (val la / val lb)) id) ∧ ∃ m, IsB H' w m ∧ val m = val la % val lb ∧ m.length ≤ la.length := by
  refine Run.intro (fi := IR.fi54) (hx 54 (by decide)) (by kernel_rfl) ?_
  unfold IR.fi54
  simp only [envOf_cons, envOf_nil]
  refine Cw.seq ?_
  refine Cw.region ?_
  iterate 2 (refine Ow.popM rfl ?_; simp only [S0, Nat.reduceEqDiff, Nat.reduceAdd, reduceIte, reduceCtorEq, S1])
  refine Ow.nilM ⟨nofun, ?_⟩
  show Cw _ _ _ _ _
  refine Cw.seq ?_
  refine Cw.region ?_
  (refine Ow.popM rfl ?_; simp only [S0, Nat.reduceEqDiff, Nat.reduceAdd, reduceIte, reduceCtorEq, S1])
  refine Ow.lenA rfl (by simp only [S0, Nat.reduceEqDiff, Nat.reduceAdd, reduceIte, reduceCtorEq, S1]) fa ?_
  refine Ow.makeA (k := .i64) (n := la.length) rfl (by simp only [S0, Nat.reduceEqDiff, Nat.reduceAdd, reduceIte, reduceCtorEq, S1]) (by omega) ?_
  intro H1 id1 hx1 hi1 m1
  (refine Ow.popM rfl ?_; simp only [S0, Nat.reduceEqDiff, Nat.reduceAdd, reduceIte, reduceCtorEq, S1])
  refine Ow.nilM ⟨nofun, ?_⟩
  show Cw _ _ _ _ _
  refine Cw.seq ?_
  refine Cw.region ?_
  (refine Ow.popM rfl ?_; simp only [S0, Nat.reduceEqDiff, Nat.reduceAdd, reduceIte, reduceCtorEq, S1])
  refine Ow.nilM ⟨nofun, ?_⟩
  show Cw _ _ _ _ _
  refine Cw.seq ?_
  refine Cw.seq ?_
  refine Cw.region ?_
  (refine Ow.popM rfl ?_; simp only [S0, Nat.reduceEqDiff, Nat.reduceAdd, reduceIte, reduceCtorEq, S1])
  have fa_2 := fa.ext hx1
  refine Ow.lenA rfl (by simp only [S0, Nat.reduceEqDiff, Nat.reduceAdd, reduceIte, reduceCtorEq, S1]) fa_2 ?_
  iterate 2 (refine Ow.popM rfl ?_; simp only [S0, Nat.reduceEqDiff, Nat.reduceAdd, reduceIte, reduceCtorEq, S1, show fwrap .i64 (((la.length : Nat) : Int) - (1 : Int)) = (la.length : Int) - 1 - ((0 : Nat) : Int) from (fw_int (by omega) (by omega)).trans (by omega)])
  refine Ow.nilM ⟨nofun, ?_⟩
  show Cw _ _ _ _ _
  refine Cw.block ?_
  refine Cw.loopI (la.length) (fun k E Hq => (E.get 0 = some (va) ∧ E.get 1 = some (vb) ∧ E.get 6 = some (.slice (some ⟨id1, 0, none⟩) (la.length) (la.length)) ∧ E.get 8 = some (.int .i64 ((la.length : Int) - 1 - ((k : Nat) : Int)))) ∧ AL.Ext H Hq ∧ IsM Hq (.slice (some ⟨id1, 0, none⟩) (la.length) (la.length)) (ofN la.length (val la / 2 ^ (la.length - k) / val lb * 2 ^ (la.length - k))) id1 ∧ (∃ u, E.get 7 = some u ∧ ∃ rr, IsB Hq u rr ∧ val rr = val la / 2 ^ (la.length - k) % val lb ∧ rr.length ≤ k)) ⟨⟨(by simp only [S0, Nat.reduceEqDiff, Nat.reduceAdd, reduceIte, reduceCtorEq, S1, and_self]), (by simp only [S0, Nat.reduceEqDiff, Nat.reduceAdd, reduceIte, reduceCtorEq, S1, and_self]), (by simp only [S0, Nat.reduceEqDiff, Nat.reduceAdd, reduceIte, reduceCtorEq, S1, and_self]), (by simp only [S0, Nat.reduceEqDiff, Nat.reduceAdd, reduceIte, reduceCtorEq, S1, and_self])⟩, hx1, (by rw [Nat.sub_zero, Nat.div_eq_of_lt (val_lt la), Nat.zero_div, Nat.zero_mul, ← rep_N]; exact m1), ⟨.slice none 0 0, (by simp only [S0, Nat.reduceEqDiff, Nat.reduceAdd, reduceIte, reduceCtorEq, S1]), [], IsB.nil _, by rw [Nat.sub_zero, Nat.div_eq_of_lt (val_lt la), Nat.zero_mod]; rfl, Nat.le_refl _⟩⟩ ?_
  rintro k3 E3 H3 hk3 ⟨⟨g3_0, g3_1, g3_6, g3_8⟩, hx3, m1, ⟨u, g3_7, rr, frr, hrr, hlr⟩⟩
  by_cases hlt3 : k3 < la.length
  · skip
    rw [show (la.length : Int) - 1 - ((k3 : Nat) : Int) = ((la.length - (k3 + 1) : Nat) : Int) by omega] at g3_8
    refine Cw.seq ?_
    refine Cw.seq ?_
    refine Cw.region ?_
    iterate 2 (refine Ow.popM rfl ?_; simp only [S0, Nat.reduceEqDiff, Nat.reduceAdd, reduceIte, reduceCtorEq, S1, show decide (((la.length - (k3 + 1) : Nat) : Int) ≥ 0) = true from decide_eq_true (by omega), g3_0, g3_1, g3_6, g3_8, g3_7])
    refine Ow.nilM ⟨nofun, ?_⟩
    show Cw _ _ _ _ _
    refine Cw.cond (t := true) (by simp only [S0, Nat.reduceEqDiff, Nat.reduceAdd, reduceIte, reduceCtorEq, S1, g3_0, g3_1, g3_6, g3_8, g3_7]) ?_
    refine Cw.skip ?_
    show Cw _ _ _ _ _
    refine Cw.seq ?_
    refine Cw.block ?_
    refine Cw.seq ?_
    refine Cw.region ?_
    iterate 2 (refine Ow.popM rfl ?_; simp only [S0, Nat.reduceEqDiff, Nat.reduceAdd, reduceIte, reduceCtorEq, S1, g3_0, g3_1, g3_6, g3_8, g3_7])
    have fa_4 := fa.ext hx3
    refine Ow.rdA (k := .i64) (b := bx la (la.length - (k3 + 1))) (n := la.length - (k3 + 1)) rfl (fun p => rfl) (by simp only [S0, Nat.reduceEqDiff, Nat.reduceAdd, reduceIte, reduceCtorEq, S1, g3_0, g3_1, g3_6, g3_8, g3_7]) (by simp only [S0, Nat.reduceEqDiff, Nat.reduceAdd, reduceIte, reduceCtorEq, S1, g3_0, g3_1, g3_6, g3_8, g3_7]) fa_4 (bx_lt (by omega)) ?_
    intro p5
    refine Ow.lit1A (b := bx la (la.length - (k3 + 1))) rfl (by simp only [S0, Nat.reduceEqDiff, Nat.reduceAdd, reduceIte, reduceCtorEq, S1, g3_0, g3_1, g3_6, g3_8, g3_7]) ?_
    intro H6 id6 hx6 hi6 m6
    (refine Ow.popM rfl ?_; simp only [S0, Nat.reduceEqDiff, Nat.reduceAdd, reduceIte, reduceCtorEq, S1, g3_0, g3_1, g3_6, g3_8, g3_7])
    have frr_8 := frr.ext hx6
    refine Ow.appXA rfl (by simp only [S0, Nat.reduceEqDiff, Nat.reduceAdd, reduceIte, reduceCtorEq, S1, g3_0, g3_1, g3_6, g3_8, g3_7]) (by simp only [S0, Nat.reduceEqDiff, Nat.reduceAdd, reduceIte, reduceCtorEq, S1, g3_0, g3_1, g3_6, g3_8, g3_7]) m6 hi6 frr_8 (by simp only [List.length_cons, List.length_nil]; omega) ?_
    intro v7 H7 hx7 r7
    (refine Ow.popM rfl ?_; simp only [S0, Nat.reduceEqDiff, Nat.reduceAdd, reduceIte, reduceCtorEq, S1, g3_0, g3_1, g3_6, g3_8, g3_7])
    refine Ow.nilM ⟨nofun, ?_⟩
    show Cw _ _ _ _ _
    refine Cw.seq ?_
    refine Cw.region ?_
    iterate 2 (refine Ow.popM rfl ?_; simp only [S0, Nat.reduceEqDiff, Nat.reduceAdd, reduceIte, reduceCtorEq, S1, g3_0, g3_1, g3_6, g3_8, g3_7])
    have fb_10 := fb.ext hx3
    have fb_11 := fb_10.ext hx6
    have fb_12 := fb_11.ext hx7
    refine Ow.callA (k := 67) (fs := []) (cs := []) (vs := [v7, vb]) rfl rfl (by simp only [S0, Nat.reduceEqDiff, Nat.reduceAdd, reduceIte, reduceCtorEq, S1, g3_0, g3_1, g3_6, g3_8, g3_7]) (less_any hx r7.isB.wl fb_12.wl (by simp only [List.length_append, List.length_cons, List.length_nil]; omega) (by omega)) (fun _ _ _ h => h) ?_
    rintro _ H9 hx9 rfl
    (refine Ow.popM rfl ?_; simp only [S0, Nat.reduceEqDiff, Nat.reduceAdd, reduceIte, reduceCtorEq, S1, g3_0, g3_1, g3_6, g3_8, g3_7])
    refine Ow.nilM ⟨nofun, ?_⟩
    show Cw _ _ _ _ _
    by_cases hq13 : val (([bx la (la.length - (k3 + 1))]) ++ (rr)) < val lb
    · have hd13 : decide (val (([bx la (la.length - (k3 + 1))]) ++ (rr)) < val lb) = true := decide_eq_true hq13
      refine Cw.cond (t := false) (by simp only [S0, Nat.reduceEqDiff, Nat.reduceAdd, reduceIte, reduceCtorEq, S1, g3_0, g3_1, g3_6, g3_8, g3_7, hd13]) ?_
      refine Cw.skip ?_
      show Cw _ _ _ _ _
      refine Cw.region ?_
      iterate 3 (refine Ow.popM rfl ?_; simp only [S0, Nat.reduceEqDiff, Nat.reduceAdd, reduceIte, reduceCtorEq, S1, show fwrap .i64 (((la.length - (k3 + 1) : Nat) : Int) - (1 : Int)) = (la.length : Int) - 1 - ((k3 + 1 : Nat) : Int) from (fw_int (by omega) (by omega)).trans (by omega), g3_0, g3_1, g3_6, g3_8, g3_7, hd13])
      refine Ow.nilM ⟨nofun, ?_⟩
      rw [val_cons, hrr, ← val_bit] at hq13
      have hdv := dv_no (A := val la) (n := la.length) hlt3 (Nat.pos_of_ne_zero hz) hq13
      rw [hdv.1] at m1
      have m1_14 := m1.ext hx6
      have m1_15 := m1_14.ext hx7
      have m1_16 := m1_15.ext hx9
      have r7_17 := r7.ext hx9
      exact ⟨hlt3, ⟨(by simp only [S0, Nat.reduceEqDiff, Nat.reduceAdd, reduceIte, reduceCtorEq, S1, and_self, g3_0, g3_1, g3_6, g3_8, g3_7, hd13]), (by simp only [S0, Nat.reduceEqDiff, Nat.reduceAdd, reduceIte, reduceCtorEq, S1, and_self, g3_0, g3_1, g3_6, g3_8, g3_7, hd13]), (by simp only [S0, Nat.reduceEqDiff, Nat.reduceAdd, reduceIte, reduceCtorEq, S1, and_self, g3_0, g3_1, g3_6, g3_8, g3_7, hd13]), (by simp only [S0, Nat.reduceEqDiff, Nat.reduceAdd, reduceIte, reduceCtorEq, S1, and_self, g3_0, g3_1, g3_6, g3_8, g3_7, hd13] <;> rfl)⟩, (((hx3.trans hx6).trans hx7).trans hx9), m1_16, ⟨v7, (by simp only [S0, Nat.reduceEqDiff, Nat.reduceAdd, reduceIte, reduceCtorEq, S1, g3_0, g3_1, g3_6, g3_8, g3_7, hd13]), _, r7_17.isB, by rw [hdv.2, val_cons, hrr, ← val_bit], by simp only [List.length_append, List.length_cons, List.length_nil, ofN_length]; omega⟩⟩
    · have hd13 : decide (val (([bx la (la.length - (k3 + 1))]) ++ (rr)) < val lb) = false := decide_eq_false hq13
      refine Cw.cond (t := true) (by simp only [S0, Nat.reduceEqDiff, Nat.reduceAdd, reduceIte, reduceCtorEq, S1, g3_0, g3_1, g3_6, g3_8, g3_7, hd13]) ?_
      refine Cw.seq ?_
      refine Cw.region ?_
      iterate 2 (refine Ow.popM rfl ?_; simp only [S0, Nat.reduceEqDiff, Nat.reduceAdd, reduceIte, reduceCtorEq, S1, g3_0, g3_1, g3_6, g3_8, g3_7, hd13])
      have r7_19 := r7.ext hx9
      have fb_20 := fb_12.ext hx9
      refine Ow.callA (k := 61) (fs := []) (cs := []) (vs := [v7, vb]) rfl rfl (by simp only [S0, Nat.reduceEqDiff, Nat.reduceAdd, reduceIte, reduceCtorEq, S1, g3_0, g3_1, g3_6, g3_8, g3_7, hd13]) (minus_any hx r7_19.isB.wl fb_20.wl (by simp only [List.length_append, List.length_cons, List.length_nil]; omega) (Nat.le_of_not_lt hq13)) (fun _ _ _ h => h) ?_
      rintro v18 H18 hx18 m18
      (refine Ow.popM rfl ?_; simp only [S0, Nat.reduceEqDiff, Nat.reduceAdd, reduceIte, reduceCtorEq, S1, g3_0, g3_1, g3_6, g3_8, g3_7, hd13])
      refine Ow.nilM ⟨nofun, ?_⟩
      show Cw _ _ _ _ _
      refine Cw.region ?_
      iterate 3 (refine Ow.popM rfl ?_; simp only [S0, Nat.reduceEqDiff, Nat.reduceAdd, reduceIte, reduceCtorEq, S1, ix_ok (show la.length - (k3 + 1) < (la.length) by omega), g3_0, g3_1, g3_6, g3_8, g3_7, hd13])
      have m1_22 := m1.ext hx6
      have m1_23 := m1_22.ext hx7
      have m1_24 := m1_23.ext hx9
      have m1_25 := m1_24.ext hx18
      refine Ow.storeA (H0 := H) (j := la.length - (k3 + 1)) (bb := true) rfl (by simp only [S0, Nat.reduceEqDiff, Nat.reduceAdd, reduceIte, reduceCtorEq, S1, g3_0, g3_1, g3_6, g3_8, g3_7, hd13]) rfl m1_25 (by rw [ofN_length]; omega) ((((hx3.trans hx6).trans hx7).trans hx9).trans hx18) hi1 ?_
      intro H21 b21 hx21 hn21 hk21 m1_21
      have m6_26 := m6.ext hx7
      have m6_27 := m6_26.ext hx9
      have m6_28 := m6_27.ext hx18
      have r7_29 := r7_19.ext hx18
      have m18_30 := IsG.keep m18 hn21 hk21 (Nat.lt_of_lt_of_le m1_24.2.1 (Nat.le_refl _))
      have m6_31 := IsM.keep m6_28 hn21 hk21 (Nat.ne_of_gt (Nat.lt_of_lt_of_le (Nat.lt_of_lt_of_le m1.2.1 (Nat.le_refl _)) hi6))
      have r7_32 := IsR.keep r7_29 hn21 hk21 (Nat.lt_of_lt_of_le m1.2.1 (Nat.le_refl _))
      refine Ow.nilM ⟨nofun, ?_⟩
      show Cw _ _ _ _ _
      refine Cw.region ?_
      iterate 3 (refine Ow.popM rfl ?_; simp only [S0, Nat.reduceEqDiff, Nat.reduceAdd, reduceIte, reduceCtorEq, S1, show fwrap .i64 (((la.length - (k3 + 1) : Nat) : Int) - (1 : Int)) = (la.length : Int) - 1 - ((k3 + 1 : Nat) : Int) from (fw_int (by omega) (by omega)).trans (by omega), g3_0, g3_1, g3_6, g3_8, g3_7, hd13])
      refine Ow.nilM ⟨nofun, ?_⟩
      rw [val_cons, hrr, ← val_bit] at hq13
      have hdv := dv_yes (A := val la) (n := la.length) hlt3 (Nat.pos_of_ne_zero hz) (Nat.le_of_not_lt hq13)
      rw [hdv.1] at m1_21
      exact ⟨hlt3, ⟨(by simp only [S0, Nat.reduceEqDiff, Nat.reduceAdd, reduceIte, reduceCtorEq, S1, and_self, g3_0, g3_1, g3_6, g3_8, g3_7, hd13]), (by simp only [S0, Nat.reduceEqDiff, Nat.reduceAdd, reduceIte, reduceCtorEq, S1, and_self, g3_0, g3_1, g3_6, g3_8, g3_7, hd13]), (by simp only [S0, Nat.reduceEqDiff, Nat.reduceAdd, reduceIte, reduceCtorEq, S1, and_self, g3_0, g3_1, g3_6, g3_8, g3_7, hd13]), (by simp only [S0, Nat.reduceEqDiff, Nat.reduceAdd, reduceIte, reduceCtorEq, S1, and_self, g3_0, g3_1, g3_6, g3_8, g3_7, hd13] <;> rfl)⟩, hx21, m1_21, ⟨v18, (by simp only [S0, Nat.reduceEqDiff, Nat.reduceAdd, reduceIte, reduceCtorEq, S1, g3_0, g3_1, g3_6, g3_8, g3_7, hd13]), _, m18_30.isR.isB, by rw [hdv.2, val_pos' _ _ (Nat.lt_of_le_of_lt (Nat.sub_le _ _) (val_lt _)), val_cons, hrr, ← val_bit], by simp only [List.length_append, List.length_cons, List.length_nil, ofN_length]; omega⟩⟩
  · obtain rfl : la.length = k3 := by omega
    rw [Nat.sub_self, Nat.pow_zero, Nat.div_one, Nat.mul_one] at m1
    rw [Nat.sub_self, Nat.pow_zero, Nat.div_one] at hrr
    refine Cw.seq ?_
    refine Cw.seq ?_
    refine Cw.region ?_
    iterate 2 (refine Ow.popM rfl ?_; simp only [S0, Nat.reduceEqDiff, Nat.reduceAdd, reduceIte, reduceCtorEq, S1, show decide ((la.length : Int) - 1 - ((la.length : Nat) : Int) ≥ 0) = false from decide_eq_false (by omega), g3_0, g3_1, g3_6, g3_8, g3_7])
    refine Ow.nilM ⟨nofun, ?_⟩
    show Cw _ _ _ _ _
    refine Cw.cond (t := false) (by simp only [S0, Nat.reduceEqDiff, Nat.reduceAdd, reduceIte, reduceCtorEq, S1, g3_0, g3_1, g3_6, g3_8, g3_7]) ?_
    refine Cw.exit ?_
    show Cw _ _ _ _ _
    refine Cw.seq ?_
    refine Cw.region ?_
    iterate 4 (refine Ow.popM rfl ?_; simp only [S0, Nat.reduceEqDiff, Nat.reduceAdd, reduceIte, reduceCtorEq, S1, g3_0, g3_1, g3_6, g3_8, g3_7])
    refine Ow.nilM ⟨nofun, ?_⟩
    show Cw _ _ _ _ _
    refine Cw.ret ?_
    simp only [Then, InBlock, Rnd, FnPost, resOf, tupled, S0, Nat.reduceEqDiff, Nat.reduceAdd, reduceIte, reduceCtorEq, g3_0, g3_1, g3_6, g3_8, g3_7]
    exact ⟨hx3, _, _, rfl, ⟨_, hi1, m1⟩, rr, frr, hrr, hlr⟩
theorem trim0 {m : List Bool} {x : Nat} (h : m.length = 0 ∨ 2 ^ (m.length - 1) ≤ val m) (hx : val m = x) : decide (m.length = 0) = decide (x = 0) := by
  subst hx
  by_cases h0 : m.length = 0
  · have := val_lt m
    rw [h0] at this
    rw [decide_eq_true h0, decide_eq_true (by omega)]
  · have hp := Nat.two_pow_pos (m.length - 1)
    rw [decide_eq_false h0, decide_eq_false (by omega)]
/-- DivMod of the reference -/
theorem rdivmod_any (hx : Ext0 ext) {H : AH} {va vb : Value} {la lb : List Bool} (fa : IsB H va la) (fb : IsB H vb lb) (hla : la.length < 2 ^ 33) (hlb : lb.length < 2 ^ 33) :
    Run (Cx ext) 16 [va, vb] H fun r H' => AL.Ext H H' ∧ if val lb = 0 then r = .tuple ⟨[.slice none 0 0, .slice none 0 0, .int .i64 7]⟩ else ∃ u w, r = .tuple ⟨[u, w, .int .i64 0]⟩ ∧ IsB H' u (ofN la.length (val la / val lb)) ∧ IsB H' w (ofN la.length (val la % val lb)) := by
  refine Run.intro (fi := IR.fi16) (hx 16 (by decide)) (by kernel_rfl) ?_
  unfold IR.fi16
  simp only [envOf_cons, envOf_nil]
  by_cases hz : val lb = 0
  · have hd1 : decide (val lb = 0) = true := decide_eq_true hz
    refine Cw.seq ?_
    refine Cw.region ?_
    iterate 3 (refine Ow.popM rfl ?_; simp only [S0, Nat.reduceEqDiff, Nat.reduceAdd, reduceIte, reduceCtorEq, S1, hd1])
    refine Ow.nilM ⟨nofun, ?_⟩
    show Cw _ _ _ _ _
    refine Cw.seq ?_
    refine Cw.seq ?_
    refine Cw.region ?_
    (refine Ow.popM rfl ?_; simp only [S0, Nat.reduceEqDiff, Nat.reduceAdd, reduceIte, reduceCtorEq, S1, hd1])
    refine Ow.callA (k := 53) (fs := []) (cs := []) (vs := [vb]) rfl rfl (by simp only [S0, Nat.reduceEqDiff, Nat.reduceAdd, reduceIte, reduceCtorEq, S1, hd1]) (trim_L hx fb.wl (by first | omega | (simp only [SL]; omega))) (fun _ _ _ h => h) ?_
    rintro v2 H2 hx2 ⟨t2, f2, tv2, tl2, th2⟩
    refine Ow.lenA rfl (by simp only [S0, Nat.reduceEqDiff, Nat.reduceAdd, reduceIte, reduceCtorEq, S1, hd1]) f2.isB ?_
    (refine Ow.popM rfl ?_; simp only [S0, Nat.reduceEqDiff, Nat.reduceAdd, reduceIte, reduceCtorEq, S1, show (((t2.length : Nat) : Int) == (0 : Int)) = true from (eq_dec t2.length 0).trans ((trim0 th2 tv2).trans (decide_eq_true hz)), hd1])
    refine Ow.nilM ⟨nofun, ?_⟩
    show Cw _ _ _ _ _
    refine Cw.cond (t := true) (by simp only [S0, Nat.reduceEqDiff, Nat.reduceAdd, reduceIte, reduceCtorEq, S1, hd1]) ?_
    refine Cw.seq ?_
    refine Cw.region ?_
    iterate 3 (refine Ow.popM rfl ?_; simp only [S0, Nat.reduceEqDiff, Nat.reduceAdd, reduceIte, reduceCtorEq, S1, hd1])
    refine Ow.nilM ⟨nofun, ?_⟩
    show Cw _ _ _ _ _
    refine Cw.ret ?_
    simp only [Then, InBlock, Rnd, FnPost, resOf, tupled, S0, Nat.reduceEqDiff, Nat.reduceAdd, reduceIte, reduceCtorEq, hd1]
    refine ⟨hx2, ?_⟩
    rw [if_pos hz]
    trivial
  · have hd3 : decide (val lb = 0) = false := decide_eq_false hz
    refine Cw.seq ?_
    refine Cw.region ?_
    iterate 3 (refine Ow.popM rfl ?_; simp only [S0, Nat.reduceEqDiff, Nat.reduceAdd, reduceIte, reduceCtorEq, S1, hd3])
    refine Ow.nilM ⟨nofun, ?_⟩
    show Cw _ _ _ _ _
    refine Cw.seq ?_
    refine Cw.seq ?_
    refine Cw.region ?_
    (refine Ow.popM rfl ?_; simp only [S0, Nat.reduceEqDiff, Nat.reduceAdd, reduceIte, reduceCtorEq, S1, hd3])
    refine Ow.callA (k := 53) (fs := []) (cs := []) (vs := [vb]) rfl rfl (by simp only [S0, Nat.reduceEqDiff, Nat.reduceAdd, reduceIte, reduceCtorEq, S1, hd3]) (trim_L hx fb.wl (by first | omega | (simp only [SL]; omega))) (fun _ _ _ h => h) ?_
    rintro v4 H4 hx4 ⟨t4, f4, tv4, tl4, th4⟩
    refine Ow.lenA rfl (by simp only [S0, Nat.reduceEqDiff, Nat.reduceAdd, reduceIte, reduceCtorEq, S1, hd3]) f4.isB ?_
    (refine Ow.popM rfl ?_; simp only [S0, Nat.reduceEqDiff, Nat.reduceAdd, reduceIte, reduceCtorEq, S1, show (((t4.length : Nat) : Int) == (0 : Int)) = false from (eq_dec t4.length 0).trans ((trim0 th4 tv4).trans (decide_eq_false hz)), hd3])
    refine Ow.nilM ⟨nofun, ?_⟩
    show Cw _ _ _ _ _
    refine Cw.cond (t := false) (by simp only [S0, Nat.reduceEqDiff, Nat.reduceAdd, reduceIte, reduceCtorEq, S1, hd3]) ?_
    refine Cw.skip ?_
    show Cw _ _ _ _ _
    refine Cw.seq ?_
    refine Cw.region ?_
    iterate 2 (refine Ow.popM rfl ?_; simp only [S0, Nat.reduceEqDiff, Nat.reduceAdd, reduceIte, reduceCtorEq, S1, hd3])
    have fa_6 := fa.ext hx4
    have fb_7 := fb.ext hx4
    refine Ow.callA (k := 54) (fs := []) (cs := []) (vs := [va, vb]) rfl rfl (by simp only [S0, Nat.reduceEqDiff, Nat.reduceAdd, reduceIte, reduceCtorEq, S1, hd3]) (rdivide_any hx fa_6.wl fb_7.wl (by first | omega | (simp only [SL]; omega)) (by first | omega | (simp only [SL]; omega)) hz) (fun _ _ _ h => h) ?_
    rintro v5 H5 hx5 r5
    obtain ⟨u5, w5, rfl, ⟨iu5, hiu5, mu5⟩, rr5, fr5, hr5, hl5⟩ := r5
    iterate 5 (refine Ow.popM rfl ?_; simp only [S0, Nat.reduceEqDiff, Nat.reduceAdd, reduceIte, reduceCtorEq, S1, hd3])
    refine Ow.nilM ⟨nofun, ?_⟩
    show Cw _ _ _ _ _
    refine Cw.seq ?_
    refine Cw.region ?_
    iterate 2 (refine Ow.popM rfl ?_; simp only [S0, Nat.reduceEqDiff, Nat.reduceAdd, reduceIte, reduceCtorEq, S1, hd3])
    have fa_8 := fa_6.ext hx5
    refine Ow.lenA rfl (by simp only [S0, Nat.reduceEqDiff, Nat.reduceAdd, reduceIte, reduceCtorEq, S1, hd3]) fa_8 ?_
    refine Ow.callA (k := 31) (fs := []) (cs := []) (vs := [u5, .int .i64 ((la.length : Nat) : Int)]) rfl rfl (by simp only [S0, Nat.reduceEqDiff, Nat.reduceAdd, reduceIte, reduceCtorEq, S1, hd3]) (Fit_any hx mu5.isB.wl (by omega)) (fun _ _ _ h => h) ?_
    rintro v9 H9 hx9 m9
    iterate 2 (refine Ow.popM rfl ?_; simp only [S0, Nat.reduceEqDiff, Nat.reduceAdd, reduceIte, reduceCtorEq, S1, hd3])
    have fa_10 := fa_8.ext hx9
    refine Ow.lenA rfl (by simp only [S0, Nat.reduceEqDiff, Nat.reduceAdd, reduceIte, reduceCtorEq, S1, hd3]) fa_10 ?_
    have fr5_12 := fr5.ext hx9
    refine Ow.callA (k := 31) (fs := []) (cs := []) (vs := [w5, .int .i64 ((la.length : Nat) : Int)]) rfl rfl (by simp only [S0, Nat.reduceEqDiff, Nat.reduceAdd, reduceIte, reduceCtorEq, S1, hd3]) (Fit_any hx fr5_12.wl (by omega)) (fun _ _ _ h => h) ?_
    rintro v11 H11 hx11 m11
    iterate 2 (refine Ow.popM rfl ?_; simp only [S0, Nat.reduceEqDiff, Nat.reduceAdd, reduceIte, reduceCtorEq, S1, hd3])
    (refine Ow.popM rfl ?_; simp only [S0, Nat.reduceEqDiff, Nat.reduceAdd, reduceIte, reduceCtorEq, S1, hd3])
    refine Ow.nilM ⟨nofun, ?_⟩
    show Cw _ _ _ _ _
    refine Cw.ret ?_
    simp only [Then, InBlock, Rnd, FnPost, resOf, tupled, S0, Nat.reduceEqDiff, Nat.reduceAdd, reduceIte, reduceCtorEq, hd3]
    refine ⟨(((hx4.trans hx5).trans hx9).trans hx11), ?_⟩
    rw [if_neg hz]
    refine ⟨_, _, rfl, ?_, ?_⟩
    have m9_14 := m9.ext hx11
    · have e := m9_14.isR.isB
      rwa [val_pos' _ _ (Nat.lt_of_le_of_lt (Nat.div_le_self _ _) (val_lt la))] at e
    · have e := m11.isR.isB
      rwa [hr5] at e
theorem ofN_val' (n x : Nat) : ofN n (val (ofN n x)) = ofN n x := by rw [val_ofN, ofN_mod]
/-- SDivMod of the reference -/
theorem rsdivmod_any (hx : Ext0 ext) {H : AH} {va vb : Value} {la lb : List Bool} (fa : IsB H va la) (fb : IsB H vb lb) (hla : la.length < 2 ^ 32) (hlb : lb.length < 2 ^ 32) :
    Run (Cx ext) 17 [va, vb] H fun r H' => AL.Ext H H' ∧ if val lb = 0 then r = .tuple ⟨[.slice none 0 0, .slice none 0 0, .int .i64 7]⟩ else ∃ u w, r = .tuple ⟨[u, w, .int .i64 0]⟩ ∧ IsB H' u (squo la lb) ∧ IsB H' w (srem la lb) := by
  refine Run.intro (fi := IR.fi17) (hx 17 (by decide)) (by kernel_rfl) ?_
  unfold IR.fi17
  simp only [envOf_cons, envOf_nil]
  by_cases hz : val lb = 0
  · have hd1 : decide (val lb = 0) = true := decide_eq_true hz
    refine Cw.seq ?_
    refine Cw.region ?_
    iterate 3 (refine Ow.popM rfl ?_; simp only [S0, Nat.reduceEqDiff, Nat.reduceAdd, reduceIte, reduceCtorEq, S1, hd1])
    refine Ow.nilM ⟨nofun, ?_⟩
    show Cw _ _ _ _ _
    refine Cw.seq ?_
    refine Cw.seq ?_
    refine Cw.region ?_
    (refine Ow.popM rfl ?_; simp only [S0, Nat.reduceEqDiff, Nat.reduceAdd, reduceIte, reduceCtorEq, S1, hd1])
    refine Ow.callA (k := 53) (fs := []) (cs := []) (vs := [vb]) rfl rfl (by simp only [S0, Nat.reduceEqDiff, Nat.reduceAdd, reduceIte, reduceCtorEq, S1, hd1]) (trim_L hx fb.wl (by first | omega | (simp only [SL]; omega))) (fun _ _ _ h => h) ?_
    rintro v2 H2 hx2 ⟨t2, f2, tv2, tl2, th2⟩
    refine Ow.lenA rfl (by simp only [S0, Nat.reduceEqDiff, Nat.reduceAdd, reduceIte, reduceCtorEq, S1, hd1]) f2.isB ?_
    (refine Ow.popM rfl ?_; simp only [S0, Nat.reduceEqDiff, Nat.reduceAdd, reduceIte, reduceCtorEq, S1, show (((t2.length : Nat) : Int) == (0 : Int)) = true from (eq_dec t2.length 0).trans ((trim0 th2 tv2).trans (decide_eq_true hz)), hd1])
    refine Ow.nilM ⟨nofun, ?_⟩
    show Cw _ _ _ _ _
    refine Cw.cond (t := true) (by simp only [S0, Nat.reduceEqDiff, Nat.reduceAdd, reduceIte, reduceCtorEq, S1, hd1]) ?_
    refine Cw.seq ?_
    refine Cw.region ?_
    iterate 3 (refine Ow.popM rfl ?_; simp only [S0, Nat.reduceEqDiff, Nat.reduceAdd, reduceIte, reduceCtorEq, S1, hd1])
    refine Ow.nilM ⟨nofun, ?_⟩
    show Cw _ _ _ _ _
    refine Cw.ret ?_
    simp only [Then, InBlock, Rnd, FnPost, resOf, tupled, S0, Nat.reduceEqDiff, Nat.reduceAdd, reduceIte, reduceCtorEq, hd1]
    refine ⟨hx2, ?_⟩
    rw [if_pos hz]
    trivial
  · have hd3 : decide (val lb = 0) = false := decide_eq_false hz
    refine Cw.seq ?_
    refine Cw.region ?_
    iterate 3 (refine Ow.popM rfl ?_; simp only [S0, Nat.reduceEqDiff, Nat.reduceAdd, reduceIte, reduceCtorEq, S1, hd3])
    refine Ow.nilM ⟨nofun, ?_⟩
    show Cw _ _ _ _ _
    refine Cw.seq ?_
    refine Cw.seq ?_
    refine Cw.region ?_
    (refine Ow.popM rfl ?_; simp only [S0, Nat.reduceEqDiff, Nat.reduceAdd, reduceIte, reduceCtorEq, S1, hd3])
    refine Ow.callA (k := 53) (fs := []) (cs := []) (vs := [vb]) rfl rfl (by simp only [S0, Nat.reduceEqDiff, Nat.reduceAdd, reduceIte, reduceCtorEq, S1, hd3]) (trim_L hx fb.wl (by first | omega | (simp only [SL]; omega))) (fun _ _ _ h => h) ?_
    rintro v4 H4 hx4 ⟨t4, f4, tv4, tl4, th4⟩
    refine Ow.lenA rfl (by simp only [S0, Nat.reduceEqDiff, Nat.reduceAdd, reduceIte, reduceCtorEq, S1, hd3]) f4.isB ?_
    (refine Ow.popM rfl ?_; simp only [S0, Nat.reduceEqDiff, Nat.reduceAdd, reduceIte, reduceCtorEq, S1, show (((t4.length : Nat) : Int) == (0 : Int)) = false from (eq_dec t4.length 0).trans ((trim0 th4 tv4).trans (decide_eq_false hz)), hd3])
    refine Ow.nilM ⟨nofun, ?_⟩
    show Cw _ _ _ _ _
    refine Cw.cond (t := false) (by simp only [S0, Nat.reduceEqDiff, Nat.reduceAdd, reduceIte, reduceCtorEq, S1, hd3]) ?_
    refine Cw.skip ?_
    show Cw _ _ _ _ _
    refine Cw.seq ?_
    refine Cw.region ?_
    (refine Ow.popM rfl ?_; simp only [S0, Nat.reduceEqDiff, Nat.reduceAdd, reduceIte, reduceCtorEq, S1, hd3])
    have fa_6 := fa.ext hx4
    refine Ow.callA (k := 33) (fs := []) (cs := []) (vs := [va]) rfl rfl (by simp only [S0, Nat.reduceEqDiff, Nat.reduceAdd, reduceIte, reduceCtorEq, S1, hd3]) (Size_any hx fa_6.wl (by first | omega | (simp only [SL]; omega))) (fun _ _ _ h => h) ?_
    rintro v5 H5 hx5 ⟨l5, f5, hv5, hl5⟩
    (refine Ow.popM rfl ?_; simp only [S0, Nat.reduceEqDiff, Nat.reduceAdd, reduceIte, reduceCtorEq, S1, hd3])
    have fb_8 := fb.ext hx4
    have fb_9 := fb_8.ext hx5
    refine Ow.callA (k := 33) (fs := []) (cs := []) (vs := [vb]) rfl rfl (by simp only [S0, Nat.reduceEqDiff, Nat.reduceAdd, reduceIte, reduceCtorEq, S1, hd3]) (Size_any hx fb_9.wl (by first | omega | (simp only [SL]; omega))) (fun _ _ _ h => h) ?_
    rintro v7 H7 hx7 ⟨l7, f7, hv7, hl7⟩
    have f5_11 := f5.ext hx7
    refine Ow.callA (k := 54) (fs := []) (cs := []) (vs := [v5, v7]) rfl rfl (by simp only [S0, Nat.reduceEqDiff, Nat.reduceAdd, reduceIte, reduceCtorEq, S1, hd3]) (rdivide_any hx f5_11.wl f7.wl (by first | omega | (simp only [SL]; omega)) (by first | omega | (simp only [SL]; omega)) (by rw [hv7]; exact fun h => hz (absN_zero.1 h))) (fun _ _ _ h => h) ?_
    rintro v10 H10 hx10 r10
    obtain ⟨u10, w10, rfl, ⟨iu10, hiu10, mu10⟩, rr10, fr10, hr10, hl10⟩ := r10
    iterate 5 (refine Ow.popM rfl ?_; simp only [S0, Nat.reduceEqDiff, Nat.reduceAdd, reduceIte, reduceCtorEq, S1, hd3])
    refine Ow.nilM ⟨nofun, ?_⟩
    show Cw _ _ _ _ _
    refine Cw.seq ?_
    refine Cw.region ?_
    iterate 2 (refine Ow.popM rfl ?_; simp only [S0, Nat.reduceEqDiff, Nat.reduceAdd, reduceIte, reduceCtorEq, S1, hd3])
    have fa_12 := fa_6.ext hx5
    have fa_13 := fa_12.ext hx7
    have fa_14 := fa_13.ext hx10
    refine Ow.lenA rfl (by simp only [S0, Nat.reduceEqDiff, Nat.reduceAdd, reduceIte, reduceCtorEq, S1, hd3]) fa_14 ?_
    refine Ow.callA (k := 31) (fs := []) (cs := []) (vs := [u10, .int .i64 ((la.length : Nat) : Int)]) rfl rfl (by simp only [S0, Nat.reduceEqDiff, Nat.reduceAdd, reduceIte, reduceCtorEq, S1, hd3]) (Fit_any hx mu10.isB.wl (by omega)) (fun _ _ _ h => h) ?_
    rintro v15 H15 hx15 m15
    iterate 2 (refine Ow.popM rfl ?_; simp only [S0, Nat.reduceEqDiff, Nat.reduceAdd, reduceIte, reduceCtorEq, S1, hd3])
    have fa_16 := fa_14.ext hx15
    refine Ow.lenA rfl (by simp only [S0, Nat.reduceEqDiff, Nat.reduceAdd, reduceIte, reduceCtorEq, S1, hd3]) fa_16 ?_
    have fr10_18 := fr10.ext hx15
    refine Ow.callA (k := 31) (fs := []) (cs := []) (vs := [w10, .int .i64 ((la.length : Nat) : Int)]) rfl rfl (by simp only [S0, Nat.reduceEqDiff, Nat.reduceAdd, reduceIte, reduceCtorEq, S1, hd3]) (Fit_any hx fr10_18.wl (by omega)) (fun _ _ _ h => h) ?_
    rintro v17 H17 hx17 m17
    refine Ow.gen (fun E => E.get 0 = some (va) ∧ E.get 1 = some (vb) ∧ E.get 7 = some (u10) ∧ E.get 8 = some (w10) ∧ E.get 24 = some (v15) ∧ E.get 28 = some (v17)) ⟨(by simp only [S0, Nat.reduceEqDiff, Nat.reduceAdd, reduceIte, reduceCtorEq, S1, and_self, hd3]), (by simp only [S0, Nat.reduceEqDiff, Nat.reduceAdd, reduceIte, reduceCtorEq, S1, and_self, hd3]), (by simp only [S0, Nat.reduceEqDiff, Nat.reduceAdd, reduceIte, reduceCtorEq, S1, and_self, hd3]), (by simp only [S0, Nat.reduceEqDiff, Nat.reduceAdd, reduceIte, reduceCtorEq, S1, and_self, hd3]), (by simp only [S0, Nat.reduceEqDiff, Nat.reduceAdd, reduceIte, reduceCtorEq, S1, and_self, hd3]), (by simp only [S0, Nat.reduceEqDiff, Nat.reduceAdd, reduceIte, reduceCtorEq, S1, and_self, hd3])⟩ ?_
    rintro E19 ⟨g19_0, g19_1, g19_7, g19_8, g19_24, g19_28⟩
    iterate 2 (refine Ow.popM rfl ?_; simp only [S0, Nat.reduceEqDiff, Nat.reduceAdd, reduceIte, reduceCtorEq, S1, g19_0, g19_1, g19_7, g19_8, g19_24, g19_28, hd3])
    refine Ow.nilM ⟨nofun, ?_⟩
    show Cw _ _ _ _ _
    refine Cw.seq ?_
    refine Cw.seq ?_
    refine Cw.region ?_
    (refine Ow.popM rfl ?_; simp only [S0, Nat.reduceEqDiff, Nat.reduceAdd, reduceIte, reduceCtorEq, S1, g19_0, g19_1, g19_7, g19_8, g19_24, g19_28, hd3])
    have fa_21 := fa_16.ext hx17
    refine Ow.callPA (k := 32) (fs := []) (cs := []) (vs := [va]) rfl rfl (by simp only [S0, Nat.reduceEqDiff, Nat.reduceAdd, reduceIte, reduceCtorEq, S1, g19_0, g19_1, g19_7, g19_8, g19_24, g19_28, hd3]) (Negative_any hx fa_21.wl (by first | omega | (simp only [SL]; omega))) ?_
    intro H20 hx20
    (refine Ow.popM rfl ?_; simp only [S0, Nat.reduceEqDiff, Nat.reduceAdd, reduceIte, reduceCtorEq, S1, g19_0, g19_1, g19_7, g19_8, g19_24, g19_28, hd3])
    have fb_23 := fb_9.ext hx7
    have fb_24 := fb_23.ext hx10
    have fb_25 := fb_24.ext hx15
    have fb_26 := fb_25.ext hx17
    have fb_27 := fb_26.ext hx20
    refine Ow.callPA (k := 32) (fs := []) (cs := []) (vs := [vb]) rfl rfl (by simp only [S0, Nat.reduceEqDiff, Nat.reduceAdd, reduceIte, reduceCtorEq, S1, g19_0, g19_1, g19_7, g19_8, g19_24, g19_28, hd3]) (Negative_any hx fb_27.wl (by first | omega | (simp only [SL]; omega))) ?_
    intro H22 hx22
    (refine Ow.popM rfl ?_; simp only [S0, Nat.reduceEqDiff, Nat.reduceAdd, reduceIte, reduceCtorEq, S1, g19_0, g19_1, g19_7, g19_8, g19_24, g19_28, hd3])
    refine Ow.nilM ⟨nofun, ?_⟩
    show Cw _ _ _ _ _
    cases hd28 : ((bx la (la.length - 1) != bx lb (lb.length - 1)))
    · skip
      refine Cw.cond (t := false) (by simp only [S0, Nat.reduceEqDiff, Nat.reduceAdd, reduceIte, reduceCtorEq, S1, g19_0, g19_1, g19_7, g19_8, g19_24, g19_28, hd3, hd28]) ?_
      refine Cw.skip ?_
      show Cw _ _ _ _ _
      refine Cw.seq ?_
      refine Cw.seq ?_
      refine Cw.region ?_
      (refine Ow.popM rfl ?_; simp only [S0, Nat.reduceEqDiff, Nat.reduceAdd, reduceIte, reduceCtorEq, S1, g19_0, g19_1, g19_7, g19_8, g19_24, g19_28, hd3, hd28])
      have fa_30 := fa_21.ext hx20
      have fa_31 := fa_30.ext hx22
      refine Ow.callPA (k := 32) (fs := []) (cs := []) (vs := [va]) rfl rfl (by simp only [S0, Nat.reduceEqDiff, Nat.reduceAdd, reduceIte, reduceCtorEq, S1, g19_0, g19_1, g19_7, g19_8, g19_24, g19_28, hd3, hd28]) (Negative_any hx fa_31.wl (by first | omega | (simp only [SL]; omega))) ?_
      intro H29 hx29
      refine Ow.nilM ⟨nofun, ?_⟩
      show Cw _ _ _ _ _
      cases hd32 : (bx la (la.length - 1))
      · skip
        refine Cw.cond (t := false) (by simp only [S0, Nat.reduceEqDiff, Nat.reduceAdd, reduceIte, reduceCtorEq, S1, g19_0, g19_1, g19_7, g19_8, g19_24, g19_28, hd3, hd28, hd32]) ?_
        refine Cw.skip ?_
        show Cw _ _ _ _ _
        refine Cw.seq ?_
        refine Cw.region ?_
        iterate 5 (refine Ow.popM rfl ?_; simp only [S0, Nat.reduceEqDiff, Nat.reduceAdd, reduceIte, reduceCtorEq, S1, g19_0, g19_1, g19_7, g19_8, g19_24, g19_28, hd3, hd28, hd32])
        refine Ow.nilM ⟨nofun, ?_⟩
        show Cw _ _ _ _ _
        refine Cw.ret ?_
        simp only [Then, InBlock, Rnd, FnPost, resOf, tupled, S0, Nat.reduceEqDiff, Nat.reduceAdd, reduceIte, reduceCtorEq, g19_0, g19_1, g19_7, g19_8, g19_24, g19_28, hd3, hd28, hd32]
        refine ⟨((((((((hx4.trans hx5).trans hx7).trans hx10).trans hx15).trans hx17).trans hx20).trans hx22).trans hx29), ?_⟩
        rw [if_neg hz]
        have hQ : val (ofN la.length (val (ofN l5.length (val l5 / val l7)))) = absN la / absN lb := by rw [val_pos' l5.length _ (Nat.lt_of_le_of_lt (Nat.div_le_self _ _) (val_lt l5)), hv5, hv7, val_pos' _ _ (squo_lt la lb)]
        have hR : val (ofN la.length (val rr10)) = absN la % absN lb := by rw [hr10, hv5, hv7, val_pos' _ _ (srem_lt la lb)]
        refine ⟨_, _, rfl, ?_, ?_⟩
        have m15_33 := m15.ext hx17
        have m15_34 := m15_33.ext hx20
        have m15_35 := m15_34.ext hx22
        have m15_36 := m15_35.ext hx29
        · have e := m15_36.isR.isB
          refine Eq.mp (congrArg (IsB _ _) ?_) e
          unfold squo
          rw [show (ng la != ng lb) = false from hd28]
          rw [if_neg (by decide), ← hQ, ofN_val']
        have m17_37 := m17.ext hx20
        have m17_38 := m17_37.ext hx22
        have m17_39 := m17_38.ext hx29
        · have e := m17_39.isR.isB
          refine Eq.mp (congrArg (IsB _ _) ?_) e
          unfold srem
          rw [show ng la = false from hd32]
          rw [if_neg (by decide), ← hR, ofN_val']
      · skip
        refine Cw.cond (t := true) (by simp only [S0, Nat.reduceEqDiff, Nat.reduceAdd, reduceIte, reduceCtorEq, S1, g19_0, g19_1, g19_7, g19_8, g19_24, g19_28, hd3, hd28, hd32]) ?_
        refine Cw.region ?_
        (refine Ow.popM rfl ?_; simp only [S0, Nat.reduceEqDiff, Nat.reduceAdd, reduceIte, reduceCtorEq, S1, g19_0, g19_1, g19_7, g19_8, g19_24, g19_28, hd3, hd28, hd32])
        have m17_41 := m17.ext hx20
        have m17_42 := m17_41.ext hx22
        have m17_43 := m17_42.ext hx29
        refine Ow.callA (k := 39) (fs := []) (cs := []) (vs := [v17]) rfl rfl (by simp only [S0, Nat.reduceEqDiff, Nat.reduceAdd, reduceIte, reduceCtorEq, S1, g19_0, g19_1, g19_7, g19_8, g19_24, g19_28, hd3, hd28, hd32]) (rneg_any hx m17_43.isR.isB.wl (by first | omega | (simp only [SL]; omega))) (fun _ _ _ h => h) ?_
        rintro v40 H40 hx40 f40
        (refine Ow.popM rfl ?_; simp only [S0, Nat.reduceEqDiff, Nat.reduceAdd, reduceIte, reduceCtorEq, S1, g19_0, g19_1, g19_7, g19_8, g19_24, g19_28, hd3, hd28, hd32])
        refine Ow.nilM ⟨nofun, ?_⟩
        show Cw _ _ _ _ _
        refine Cw.seq ?_
        refine Cw.region ?_
        iterate 5 (refine Ow.popM rfl ?_; simp only [S0, Nat.reduceEqDiff, Nat.reduceAdd, reduceIte, reduceCtorEq, S1, g19_0, g19_1, g19_7, g19_8, g19_24, g19_28, hd3, hd28, hd32])
        refine Ow.nilM ⟨nofun, ?_⟩
        show Cw _ _ _ _ _
        refine Cw.ret ?_
        simp only [Then, InBlock, Rnd, FnPost, resOf, tupled, S0, Nat.reduceEqDiff, Nat.reduceAdd, reduceIte, reduceCtorEq, g19_0, g19_1, g19_7, g19_8, g19_24, g19_28, hd3, hd28, hd32]
        refine ⟨(((((((((hx4.trans hx5).trans hx7).trans hx10).trans hx15).trans hx17).trans hx20).trans hx22).trans hx29).trans hx40), ?_⟩
        rw [if_neg hz]
        have hQ : val (ofN la.length (val (ofN l5.length (val l5 / val l7)))) = absN la / absN lb := by rw [val_pos' l5.length _ (Nat.lt_of_le_of_lt (Nat.div_le_self _ _) (val_lt l5)), hv5, hv7, val_pos' _ _ (squo_lt la lb)]
        have hR : val (ofN la.length (val rr10)) = absN la % absN lb := by rw [hr10, hv5, hv7, val_pos' _ _ (srem_lt la lb)]
        refine ⟨_, _, rfl, ?_, ?_⟩
        have m15_44 := m15.ext hx17
        have m15_45 := m15_44.ext hx20
        have m15_46 := m15_45.ext hx22
        have m15_47 := m15_46.ext hx29
        have m15_48 := m15_47.ext hx40
        · have e := m15_48.isR.isB
          refine Eq.mp (congrArg (IsB _ _) ?_) e
          unfold squo
          rw [show (ng la != ng lb) = false from hd28]
          rw [if_neg (by decide), ← hQ, ofN_val']
        · have e := f40
          refine Eq.mp (congrArg (IsB _ _) ?_) e
          unfold srem
          rw [show ng la = true from hd32]
          rw [hR, ofN_length, if_pos rfl, Nat.mod_eq_of_lt (srem_lt la lb)]
    · skip
      refine Cw.cond (t := true) (by simp only [S0, Nat.reduceEqDiff, Nat.reduceAdd, reduceIte, reduceCtorEq, S1, g19_0, g19_1, g19_7, g19_8, g19_24, g19_28, hd3, hd28]) ?_
      refine Cw.region ?_
      (refine Ow.popM rfl ?_; simp only [S0, Nat.reduceEqDiff, Nat.reduceAdd, reduceIte, reduceCtorEq, S1, g19_0, g19_1, g19_7, g19_8, g19_24, g19_28, hd3, hd28])
      have m15_50 := m15.ext hx17
      have m15_51 := m15_50.ext hx20
      have m15_52 := m15_51.ext hx22
      refine Ow.callA (k := 39) (fs := []) (cs := []) (vs := [v15]) rfl rfl (by simp only [S0, Nat.reduceEqDiff, Nat.reduceAdd, reduceIte, reduceCtorEq, S1, g19_0, g19_1, g19_7, g19_8, g19_24, g19_28, hd3, hd28]) (rneg_any hx m15_52.isR.isB.wl (by first | omega | (simp only [SL]; omega))) (fun _ _ _ h => h) ?_
      rintro v49 H49 hx49 f49
      (refine Ow.popM rfl ?_; simp only [S0, Nat.reduceEqDiff, Nat.reduceAdd, reduceIte, reduceCtorEq, S1, g19_0, g19_1, g19_7, g19_8, g19_24, g19_28, hd3, hd28])
      refine Ow.nilM ⟨nofun, ?_⟩
      show Cw _ _ _ _ _
      refine Cw.seq ?_
      refine Cw.seq ?_
      refine Cw.region ?_
      (refine Ow.popM rfl ?_; simp only [S0, Nat.reduceEqDiff, Nat.reduceAdd, reduceIte, reduceCtorEq, S1, g19_0, g19_1, g19_7, g19_8, g19_24, g19_28, hd3, hd28])
      have fa_54 := fa_21.ext hx20
      have fa_55 := fa_54.ext hx22
      have fa_56 := fa_55.ext hx49
      refine Ow.callPA (k := 32) (fs := []) (cs := []) (vs := [va]) rfl rfl (by simp only [S0, Nat.reduceEqDiff, Nat.reduceAdd, reduceIte, reduceCtorEq, S1, g19_0, g19_1, g19_7, g19_8, g19_24, g19_28, hd3, hd28]) (Negative_any hx fa_56.wl (by first | omega | (simp only [SL]; omega))) ?_
      intro H53 hx53
      refine Ow.nilM ⟨nofun, ?_⟩
      show Cw _ _ _ _ _
      cases hd57 : (bx la (la.length - 1))
      · skip
        refine Cw.cond (t := false) (by simp only [S0, Nat.reduceEqDiff, Nat.reduceAdd, reduceIte, reduceCtorEq, S1, g19_0, g19_1, g19_7, g19_8, g19_24, g19_28, hd3, hd28, hd57]) ?_
        refine Cw.skip ?_
        show Cw _ _ _ _ _
        refine Cw.seq ?_
        refine Cw.region ?_
        iterate 5 (refine Ow.popM rfl ?_; simp only [S0, Nat.reduceEqDiff, Nat.reduceAdd, reduceIte, reduceCtorEq, S1, g19_0, g19_1, g19_7, g19_8, g19_24, g19_28, hd3, hd28, hd57])
        refine Ow.nilM ⟨nofun, ?_⟩
        show Cw _ _ _ _ _
        refine Cw.ret ?_
        simp only [Then, InBlock, Rnd, FnPost, resOf, tupled, S0, Nat.reduceEqDiff, Nat.reduceAdd, reduceIte, reduceCtorEq, g19_0, g19_1, g19_7, g19_8, g19_24, g19_28, hd3, hd28, hd57]
        refine ⟨(((((((((hx4.trans hx5).trans hx7).trans hx10).trans hx15).trans hx17).trans hx20).trans hx22).trans hx49).trans hx53), ?_⟩
        rw [if_neg hz]
        have hQ : val (ofN la.length (val (ofN l5.length (val l5 / val l7)))) = absN la / absN lb := by rw [val_pos' l5.length _ (Nat.lt_of_le_of_lt (Nat.div_le_self _ _) (val_lt l5)), hv5, hv7, val_pos' _ _ (squo_lt la lb)]
        have hR : val (ofN la.length (val rr10)) = absN la % absN lb := by rw [hr10, hv5, hv7, val_pos' _ _ (srem_lt la lb)]
        refine ⟨_, _, rfl, ?_, ?_⟩
        have f49_58 := f49.ext hx53
        · have e := f49_58
          refine Eq.mp (congrArg (IsB _ _) ?_) e
          unfold squo
          rw [show (ng la != ng lb) = true from hd28]
          rw [hQ, ofN_length, if_pos rfl, Nat.mod_eq_of_lt (squo_lt la lb)]
        have m17_59 := m17.ext hx20
        have m17_60 := m17_59.ext hx22
        have m17_61 := m17_60.ext hx49
        have m17_62 := m17_61.ext hx53
        · have e := m17_62.isR.isB
          refine Eq.mp (congrArg (IsB _ _) ?_) e
          unfold srem
          rw [show ng la = false from hd57]
          rw [if_neg (by decide), ← hR, ofN_val']
      · skip
        refine Cw.cond (t := true) (by simp only [S0, Nat.reduceEqDiff, Nat.reduceAdd, reduceIte, reduceCtorEq, S1, g19_0, g19_1, g19_7, g19_8, g19_24, g19_28, hd3, hd28, hd57]) ?_
        refine Cw.region ?_
        (refine Ow.popM rfl ?_; simp only [S0, Nat.reduceEqDiff, Nat.reduceAdd, reduceIte, reduceCtorEq, S1, g19_0, g19_1, g19_7, g19_8, g19_24, g19_28, hd3, hd28, hd57])
        have m17_64 := m17.ext hx20
        have m17_65 := m17_64.ext hx22
        have m17_66 := m17_65.ext hx49
        have m17_67 := m17_66.ext hx53
        refine Ow.callA (k := 39) (fs := []) (cs := []) (vs := [v17]) rfl rfl (by simp only [S0, Nat.reduceEqDiff, Nat.reduceAdd, reduceIte, reduceCtorEq, S1, g19_0, g19_1, g19_7, g19_8, g19_24, g19_28, hd3, hd28, hd57]) (rneg_any hx m17_67.isR.isB.wl (by first | omega | (simp only [SL]; omega))) (fun _ _ _ h => h) ?_
        rintro v63 H63 hx63 f63
        (refine Ow.popM rfl ?_; simp only [S0, Nat.reduceEqDiff, Nat.reduceAdd, reduceIte, reduceCtorEq, S1, g19_0, g19_1, g19_7, g19_8, g19_24, g19_28, hd3, hd28, hd57])
        refine Ow.nilM ⟨nofun, ?_⟩
        show Cw _ _ _ _ _
        refine Cw.seq ?_
        refine Cw.region ?_
        iterate 5 (refine Ow.popM rfl ?_; simp only [S0, Nat.reduceEqDiff, Nat.reduceAdd, reduceIte, reduceCtorEq, S1, g19_0, g19_1, g19_7, g19_8, g19_24, g19_28, hd3, hd28, hd57])
        refine Ow.nilM ⟨nofun, ?_⟩
        show Cw _ _ _ _ _
        refine Cw.ret ?_
        simp only [Then, InBlock, Rnd, FnPost, resOf, tupled, S0, Nat.reduceEqDiff, Nat.reduceAdd, reduceIte, reduceCtorEq, g19_0, g19_1, g19_7, g19_8, g19_24, g19_28, hd3, hd28, hd57]
        refine ⟨((((((((((hx4.trans hx5).trans hx7).trans hx10).trans hx15).trans hx17).trans hx20).trans hx22).trans hx49).trans hx53).trans hx63), ?_⟩
        rw [if_neg hz]
        have hQ : val (ofN la.length (val (ofN l5.length (val l5 / val l7)))) = absN la / absN lb := by rw [val_pos' l5.length _ (Nat.lt_of_le_of_lt (Nat.div_le_self _ _) (val_lt l5)), hv5, hv7, val_pos' _ _ (squo_lt la lb)]
        have hR : val (ofN la.length (val rr10)) = absN la % absN lb := by rw [hr10, hv5, hv7, val_pos' _ _ (srem_lt la lb)]
        refine ⟨_, _, rfl, ?_, ?_⟩
        have f49_68 := f49.ext hx53
        have f49_69 := f49_68.ext hx63
        · have e := f49_69
          refine Eq.mp (congrArg (IsB _ _) ?_) e
          unfold squo
          rw [show (ng la != ng lb) = true from hd28]
          rw [hQ, ofN_length, if_pos rfl, Nat.mod_eq_of_lt (squo_lt la lb)]
        · have e := f63
          refine Eq.mp (congrArg (IsB _ _) ?_) e
          unfold srem
          rw [show ng la = true from hd57]
          rw [hR, ofN_length, if_pos rfl, Nat.mod_eq_of_lt (srem_lt la lb)]
end Go.Proofs.Yteeckncfllbokaa.X
