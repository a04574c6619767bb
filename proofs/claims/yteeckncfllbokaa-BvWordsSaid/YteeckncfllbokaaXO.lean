/- bv.DivMod -/
import Derived.Test.YteeckncfllbokaaXN
set_option linter.unusedSimpArgs false
set_option linter.unusedVariables false
namespace Go.Proofs.Yteeckncfllbokaa.X
open Go Go.AL
variable {ext : Nat → Option (List Value → AH → Option (Value × AH))}
theorem set_bit0 {n X : Nat} {b : Bool} (h : 0 < n) : (ofN n (2 * X)).set 0 b = ofN n (2 * X + b.toNat) := by
  apply List.ext_getElem?
  intro i
  rw [List.getElem?_set]
  cases i with
  | zero =>
    rw [if_pos rfl, if_pos (by rw [ofN_length]; exact h), ofN_get h, Nat.testBit_zero]
    cases b <;> simp <;> omega
  | succ i =>
    rw [if_neg (by omega)]
    by_cases hi : i + 1 < n
    · rw [ofN_get hi, ofN_get hi, Nat.testBit_succ, Nat.testBit_succ]
      have e1 : 2 * X / 2 = X := by omega
      have e2 : (2 * X + b.toNat) / 2 = X := by cases b <;> simp <;> omega
      rw [e1, e2]
    · simp [ofN, hi]
theorem set_bitj {n Y j : Nat} (h : j < n) : (ofN n (Y * 2 ^ (j + 1))).set j true = ofN n (Y * 2 ^ (j + 1) + 2 ^ j) := by
  have e0 : Y * 2 ^ (j + 1) = 2 ^ j * (2 * Y) := by rw [Nat.pow_succ, Nat.mul_comm (2 ^ j) 2, ← Nat.mul_assoc, Nat.mul_comm Y 2, Nat.mul_comm]
  have e : Y * 2 ^ (j + 1) + 2 ^ j = 2 ^ j * (2 * Y + 1) := by rw [e0, Nat.mul_add, Nat.mul_one]
  rw [e, e0]
  apply List.ext_getElem?
  intro i
  rw [List.getElem?_set]
  by_cases hij : j = i
  · subst hij
    rw [if_pos rfl, if_pos (by rw [ofN_length]; exact h), ofN_get h, Nat.testBit_two_pow_mul]
    simp
  · rw [if_neg hij]
    by_cases hi : i < n
    · rw [ofN_get hi, ofN_get hi, Nat.testBit_two_pow_mul, Nat.testBit_two_pow_mul]
      by_cases hji : j ≤ i
      · obtain ⟨d, hd⟩ : ∃ d, i - j = d + 1 := ⟨i - j - 1, by omega⟩
        rw [hd, Nat.testBit_succ, Nat.testBit_succ, show 2 * Y / 2 = Y by omega, show (2 * Y + 1) / 2 = Y by omega]
      · simp [hji]
    · simp [ofN, hi]
theorem div_round {P B a : Nat} (hB : 0 < B) (ha : a ≤ 1) : (2 * P + a) / B = 2 * (P / B) + (if B ≤ 2 * (P % B) + a then 1 else 0) ∧ (2 * P + a) % B = (if B ≤ 2 * (P % B) + a then 2 * (P % B) + a - B else 2 * (P % B) + a) := by
  have h1 := Nat.div_add_mod P B
  have h2 := Nat.mod_lt P hB
  generalize P / B = q at *
  generalize P % B = r at *
  by_cases h : B ≤ 2 * r + a
  · rw [if_pos h, if_pos h]
    have e3 : B * (2 * q + 1) = 2 * (B * q) + B := by rw [Nat.mul_add, Nat.mul_one, Nat.mul_left_comm]
    have e : 2 * P + a = (2 * r + a - B) + B * (2 * q + 1) := by rw [e3, ← h1]; omega
    rw [e, Nat.add_mul_div_left _ _ hB, Nat.add_mul_mod_self_left, Nat.div_eq_of_lt (by omega), Nat.mod_eq_of_lt (by omega)]
    omega
  · rw [if_neg h, if_neg h]
    have e3 : B * (2 * q) = 2 * (B * q) := Nat.mul_left_comm _ _ _
    have e : 2 * P + a = (2 * r + a) + B * (2 * q) := by rw [e3, ← h1]; omega
    rw [e, Nat.add_mul_div_left _ _ hB, Nat.add_mul_mod_self_left, Nat.div_eq_of_lt (by omega), Nat.mod_eq_of_lt (by omega)]
    omega
theorem IsM_ext {H H' : AH} {v : Value} {l : List Bool} {id : Nat} (h : IsM H v l id) (he : AL.Ext H H') : IsM H' v l id := by
  obtain ⟨h1, h2, h3⟩ := h
  exact ⟨h1, Nat.lt_of_lt_of_le h2 he.n, by rw [he.get _ h2]; exact h3⟩
theorem cmp_ge {A B : Nat} : decide (cmpN A B ≥ 0) = decide (B ≤ A) := by
  unfold cmpN
  by_cases h : A < B
  · rw [if_pos h, decide_eq_false (show ¬ B ≤ A by omega)]; rfl
  · rw [if_neg h, decide_eq_true (show B ≤ A by omega)]
    by_cases h2 : A = B
    · rw [if_pos h2]; rfl
    · rw [if_neg h2]; rfl
/-- The heap is forgotten, but for what P says of it. -/
theorem Cw.genH {C : Ctx} {ic : IC} {E : Env} {H : AH} {Q : Ctl → Env → AH → Prop} (P : AH → Prop) (h : P H) (k : ∀ H, P H → Cw C ic E H Q) : Cw C ic E H Q := k H h
theorem cut_3 {R L id : Nat} (h : L ≤ R) (hR : R < 2 ^ 36) : aslice 1 (some ⟨id, 0, none⟩) R R none (some (.int .i64 (L : Int))) (some (.int .i64 (L : Int))) = some (.slice (some ⟨id, 0, none⟩) L L) := by
  have e1 : (0 : Int) ≤ (L : Int) ∧ (L : Int) ≤ (R : Int) := by omega
  have e2 : (0 : Int) ≤ (L : Int) ∧ (L : Int) ≤ (L : Int) := by omega
  have e3 : R.beq UC = false := beq_false (by unfold UC; omega)
  have e4 : Nat.ble UC L = false := ble_false (by unfold UC; omega)
  simp only [aslice, asNat, optNat, e1, e2, and_self, if_true, Int.toNat_natCast, e3, e4, Bool.false_and, Bool.or_self, cond_false, Option.map_some, addOff, Nat.zero_mul, Nat.add_zero, Nat.sub_zero]
  cases L.beq 0 <;> rfl
theorem isR_cut {H0 H : AH} {R L X id : Nat} (h : IsM H (.slice (some ⟨id, 0, none⟩) R R) (ofN R X) id) (h0 : H0.n ≤ id) (hl : L ≤ R) : IsR H0 H (.slice (some ⟨id, 0, none⟩) L L) (ofN L X) := by
  obtain ⟨-, h2, h3⟩ := h
  refine .inr ⟨id, 0, L, _, by rw [ofN_length], .inr (by rw [ofN_length]; exact Nat.le_refl _), h0, h2, h3, by simp, by simp [ofN_length]; exact hl, fun i b hb => ?_, fun c hc => ?_⟩
  · have hi : i < L := by have := (List.getElem?_eq_some_iff.1 hb).1; rwa [ofN_length] at this
    rw [ofN_get hi] at hb
    show ((ofN R X).map Value.bool)[0 + i]? = _
    rw [Nat.zero_add, List.getElem?_map, ofN_get (by omega : i < R), ← Option.some.inj hb]
    rfl
  · obtain ⟨b, _, rfl⟩ := List.mem_map.1 hc
    exact ⟨b, rfl⟩
/-- bv.DivMod -/
theorem divmod_any (hx : Ext0 ext) {H : AH} {va vb : Value} {la lb : List Bool} (ha : IsB H va la) (hb : IsB H vb lb) (hla : la.length < 2 ^ 34) (hlb : lb.length < 2 ^ 34) :
    Run (Cx ext) 18 [va, vb] H fun r H' => AL.Ext H H' ∧ if val lb = 0 then r = .tuple ⟨[.slice none 0 0, .slice none 0 0, .int .i64 7]⟩ else
      ∃ u w, r = .tuple ⟨[u, w, .int .i64 0]⟩ ∧ (∃ id, H.n ≤ id ∧ IsM H' u (ofN la.length (val la / val lb)) id) ∧ IsR H H' w (ofN la.length (val la % val lb)) := by
  refine Run.intro (fi := IR.fi18) (hx 18 (by decide)) (by kernel_rfl) ?_
  unfold IR.fi18
  simp only [envOf_cons, envOf_nil]
  obtain ⟨aa, ca, ea⟩ := ha.shape
  obtain ⟨ab, cb, eb⟩ := hb.shape
  subst ea
  subst eb
  refine Cw.seq (Cw.region ?_)
  iterate 3 (refine Ow.popM rfl ?_; simp only [S0, Nat.reduceEqDiff, Nat.reduceAdd, reduceIte, reduceCtorEq])
  refine Ow.nilM ⟨nofun, ?_⟩
  refine Cw.seq (Cw.seq (Cw.region ?_))
  (refine Ow.popM rfl ?_; simp only [S0, Nat.reduceEqDiff, Nat.reduceAdd, reduceIte, reduceCtorEq])
  refine Ow.callE (k := 55) (fs := []) (cs := []) (vs := [.slice ab lb.length cb]) rfl rfl (by simp only [S0, Nat.reduceEqDiff, Nat.reduceAdd, reduceIte, reduceCtorEq]) (zero_any hx hb.wl (by omega)) ?_
  rintro _ H0 w0 hx0 rfl
  refine Ow.nilM ⟨nofun, ?_⟩
  by_cases hz : val lb = 0
  · refine Cw.cond (t := true) (by simp only [S0, Nat.reduceEqDiff, Nat.reduceAdd, reduceIte, reduceCtorEq, hz, decide_true]) ?_
    refine Cw.seq (Cw.region ?_)
    iterate 3 (refine Ow.popM rfl ?_; simp only [S0, Nat.reduceEqDiff, Nat.reduceAdd, reduceIte, reduceCtorEq])
    refine Ow.nilM ⟨nofun, ?_⟩
    refine Cw.ret ?_
    simp only [Then, InBlock, Rnd, FnPost, resOf, tupled, S0, Nat.reduceEqDiff, Nat.reduceAdd, reduceIte, reduceCtorEq]
    refine ⟨hx0, ?_⟩
    rw [if_pos hz]
    exact trivial
  have hB : 0 < val lb := Nat.pos_of_ne_zero hz
  refine Cw.cond (t := false) (by simp only [S0, Nat.reduceEqDiff, Nat.reduceAdd, reduceIte, reduceCtorEq, hz, decide_false]) ?_
  refine Cw.skip ?_
  refine Cw.seq (Cw.region ?_)
  iterate 2 (refine Ow.popM rfl ?_; simp only [S0, Nat.reduceEqDiff, Nat.reduceAdd, reduceIte, reduceCtorEq])
  refine Ow.makeB (k := .i64) (n := la.length) rfl (by simp only [S0, Nat.reduceEqDiff, Nat.reduceAdd, reduceIte, reduceCtorEq]) (by omega) ?_
  have hx1 := hx0.new (⟨(List.replicate la.length false).map .bool, 0⟩ : Blk)
  have hq1 : IsM (AH.new { H0 with wl := w0 } ⟨(List.replicate la.length false).map .bool, 0⟩) (.slice (some ⟨H0.n, 0, none⟩) la.length la.length) (List.replicate la.length false) H0.n := ⟨by rw [List.length_replicate], Nat.lt_succ_self _, T.get_set_self _ _ _⟩
  have hn0 : H.n ≤ H0.n := hx0.n
  (refine Ow.popM rfl ?_; simp only [S0, Nat.reduceEqDiff, Nat.reduceAdd, reduceIte, reduceCtorEq])
  refine Ow.nilM ⟨nofun, ?_⟩
  refine Cw.seq (Cw.region ?_)
  iterate 5 (refine Ow.popM rfl ?_; simp only [S0, Nat.reduceEqDiff, Nat.reduceAdd, reduceIte, reduceCtorEq, AL.foldV, amax2, max_nat])
  have hR1 : la.length < max la.length lb.length + 1 := by omega
  have hR2 : lb.length < max la.length lb.length + 1 := by omega
  have hR3 : max la.length lb.length + 1 < 2 ^ 35 := by omega
  have hfs : fwrap .i64 (((max la.length lb.length : Nat) : Int) + 1) = ((max la.length lb.length + 1 : Nat) : Int) := fw_succ (by omega)
  (refine Ow.popM rfl ?_; simp only [S0, Nat.reduceEqDiff, Nat.reduceAdd, reduceIte, reduceCtorEq, hfs])
  generalize max la.length lb.length + 1 = R at *
  have hzl : List.replicate la.length false = ofN la.length 0 := by have := big_zero la.length la.length 0 (Nat.le_refl _); rwa [Nat.zero_mul] at this
  have hzr : List.replicate R false = ofN R 0 := by have := big_zero R R 0 (Nat.le_refl _); rwa [Nat.zero_mul] at this
  rw [hzl] at hq1 hx1
  rw [hzl]
  have hiq : H.n ≤ H0.n := hn0
  generalize AH.new { H0 with wl := w0 } ⟨(ofN la.length 0).map .bool, 0⟩ = Ha at *
  generalize H0.n = iq at *
  have hAL := val_lt la
  have hBM := val_lt lb
  have hBR : 2 * val lb ≤ 2 ^ R := by
    have h1 : 2 ^ (lb.length + 1) ≤ 2 ^ R := Nat.pow_le_pow_right (by decide) hR2
    rw [Nat.pow_succ] at h1
    omega
  generalize hA : val la = A at *
  generalize hvb : val lb = B at *
  refine Ow.makeB (k := .i64) (n := R) rfl (by simp only [S0, Nat.reduceEqDiff, Nat.reduceAdd, reduceIte, reduceCtorEq]) (by omega) ?_
  rw [hzr]
  have hxa := (AL.Ext.refl Ha).new (⟨(ofN R 0).map .bool, 0⟩ : Blk)
  have hr1 : IsM (Ha.new ⟨(ofN R 0).map .bool, 0⟩) (.slice (some ⟨Ha.n, 0, none⟩) R R) (ofN R 0) Ha.n := ⟨by rw [ofN_length], Nat.lt_succ_self _, T.get_set_self _ _ _⟩
  have hq2 := IsM_ext hq1 hxa
  have hx2 := hx1.trans hxa
  have hne : Ha.n ≠ iq := by have := hq1.2.1; omega
  have hHn := hx1.n
  (refine Ow.popM rfl ?_; simp only [S0, Nat.reduceEqDiff, Nat.reduceAdd, reduceIte, reduceCtorEq])
  refine Ow.nilM ⟨nofun, ?_⟩
  refine Cw.seq (Cw.seq (Cw.region ?_))
  iterate 4 (refine Ow.popM rfl ?_; simp only [S0, Nat.reduceEqDiff, Nat.reduceAdd, reduceIte, reduceCtorEq, fw_int (show -(2 ^ 62) ≤ (la.length : Int) - 1 by omega) (by omega)])
  refine Ow.nilM ⟨nofun, ?_⟩
  refine Cw.block (Cw.loopI la.length (fun k E H2 => (E.get 0 = some (.slice aa la.length ca) ∧ E.get 1 = some (.slice ab lb.length cb) ∧ E.get 4 = some (.slice (some ⟨iq, 0, none⟩) la.length la.length) ∧ E.get 8 = some (.int .i64 ((la.length : Int) - 1 - (k : Int)))) ∧ AL.Ext H H2 ∧ IsM H2 (.slice (some ⟨iq, 0, none⟩) la.length la.length) (ofN la.length (A / 2 ^ (la.length - k) / B * 2 ^ (la.length - k))) iq ∧ ∃ u id, E.get 7 = some u ∧ id ≠ iq ∧ H.n ≤ id ∧ IsM H2 u (ofN R (A / 2 ^ (la.length - k) % B)) id) ⟨?_, hx2, ?_, .slice (some ⟨Ha.n, 0, none⟩) R R, Ha.n, by simp only [S0, Nat.reduceEqDiff, Nat.reduceAdd, reduceIte, reduceCtorEq], hne, hHn, ?_⟩ ?_)
  · simp only [S0, Nat.reduceEqDiff, Nat.reduceAdd, reduceIte, reduceCtorEq]; exact ⟨trivial, trivial, trivial, by simp⟩
  · rw [Nat.sub_zero, Nat.div_eq_of_lt hAL, Nat.zero_div, Nat.zero_mul]; exact hq2
  · rw [Nat.sub_zero, Nat.div_eq_of_lt hAL, Nat.zero_mod]; exact hr1
  clear hq1 hq2 hr1 hx1 hx2 hxa hne hx0
  rintro k E H2 hk ⟨⟨e0, e1, e4, e8⟩, hxt, hq, u, id, e7, hne, hid, hu⟩
  refine Cw.seq (Cw.seq (Cw.region ?_))
  by_cases hlt : k < la.length
  · have hi : ((la.length : Int) - 1 - (k : Int)) = ((la.length - (k + 1) : Nat) : Int) := by omega
    have hst := div_step A (la.length - (k + 1))
    rw [show la.length - (k + 1) + 1 = la.length - k by omega, ← hA, val_bit, hA] at hst
    rw [show la.length - k = la.length - (k + 1) + 1 by omega] at hst hq hu
    have hjl : la.length - (k + 1) < la.length := by omega
    have hj1 : ((la.length - (k + 1) : Nat) : Int) - 1 = (la.length : Int) - 1 - ((k + 1 : Nat) : Int) := by omega
    rw [hi] at e8
    generalize hj : la.length - (k + 1) = j at *
    generalize hP : A / 2 ^ (j + 1) = P at *
    have hab : (bx la j).toNat ≤ 1 := by cases bx la j <;> decide
    have hdr := div_round (P := P) (B := B) hB hab
    rw [← hst] at hdr
    have hmB := Nat.mod_lt P hB
    iterate 2 (refine Ow.popM rfl ?_; simp only [S0, Nat.reduceEqDiff, Nat.reduceAdd, reduceIte, reduceCtorEq, e8, ge0_true j])
    refine Ow.nilM ⟨nofun, ?_⟩
    refine Cw.cond (t := true) (by simp only [S0, Nat.reduceEqDiff, Nat.reduceAdd, reduceIte, reduceCtorEq]) ?_
    refine Cw.skip ?_
    refine Cw.seq (Cw.block (Cw.seq (Cw.region ?_)))
    (refine Ow.popM rfl ?_; simp only [S0, Nat.reduceEqDiff, Nat.reduceAdd, reduceIte, reduceCtorEq, e7])
    refine Ow.callE (k := 34) (fs := []) (cs := []) (vs := [u, .int .i64 1]) rfl rfl (by simp only [S0, Nat.reduceEqDiff, Nat.reduceAdd, reduceIte, reduceCtorEq]) (shl_any hx hu.isB.wl (by rw [ofN_length]; omega)) ?_
    rintro v H3 w3 hx3 ⟨id3, hid3, hv⟩
    rw [ofN_length, val_ofN, Nat.mod_eq_of_lt (by omega), show (2 : Nat) ^ Int.toNat 1 = 2 from rfl, Nat.mul_comm] at hv
    have hid3' : H2.n ≤ id3 := hid3
    have hq3 := IsM_ext hq hx3
    have hx13 := hxt.trans hx3
    (refine Ow.popM rfl ?_; simp only [S0, Nat.reduceEqDiff, Nat.reduceAdd, reduceIte, reduceCtorEq])
    refine Ow.nilM ⟨nofun, ?_⟩
    refine Cw.seq (Cw.region ?_)
    obtain ⟨ad, cap, bk, ee, h1, h2, h3⟩ := (ha.ext hx13).at (bx_lt hjl)
    simp only [Value.slice.injEq] at ee
    obtain ⟨rfl, -, rfl⟩ := ee
    obtain ⟨rfl, q2, q3⟩ := hv
    iterate 4 (refine Ow.popM rfl ?_; simp only [S0, Nat.reduceEqDiff, Nat.reduceAdd, reduceIte, reduceCtorEq, e0, e8, ix_ok hjl])
    (refine Ow.hopM rfl rfl ?_; simp only [S0, Nat.reduceEqDiff, Nat.reduceAdd, reduceIte, reduceCtorEq, h2, h3])
    rw [ofN_length] at *
    (refine Ow.popM rfl ?_; simp only [S0, Nat.reduceEqDiff, Nat.reduceAdd, reduceIte, reduceCtorEq, show ((0 : Int) ≤ 0 ∧ (0 : Int) < (R : Int)) = True from eq_true ⟨by omega, by omega⟩, show Int.toNat 0 = 0 from rfl])
    have hlow := hxt.n
    have hqlt := hq.2.1
    refine Ow.store1 (b := Nat.blt (min H3.n id3) H3.n) (ad := ⟨id3, 0, none⟩) (v := .bool (bx la j)) rfl (by simp only [S0, Nat.reduceEqDiff, Nat.reduceAdd, reduceIte, reduceCtorEq]) (by simp only [S0, Nat.reduceEqDiff, Nat.reduceAdd, reduceIte, reduceCtorEq]) rfl rfl q3 (by simp) (by simp [ofN_length]; omega) rfl ?_
    intro wl hwl
    refine Ow.nil ⟨nofun, ?_⟩
    have hset : ((ofN R (2 * (P % B))).map Value.bool).set 0 (.bool (bx la j)) = (ofN R (2 * (P % B) + (bx la j).toNat)).map .bool := by rw [← List.map_set, set_bit0 (by omega)]
    have h3w := hx13.wl
    have h3w' : min H.wl H.n ≤ w3 := h3w
    have hn3 : H2.n ≤ H3.n := hx3.n
    show Cw _ _ _ _ _
    refine Cw.genH (fun H4 => AL.Ext H H4 ∧ IsM H4 (.slice (some ⟨iq, 0, none⟩) la.length la.length) (ofN la.length (P / B * 2 ^ (j + 1))) iq ∧ IsM H4 (.slice (some ⟨id3, 0, none⟩) R R) (ofN R (2 * (P % B) + (bx la j).toNat)) id3) ⟨⟨?_, ?_, ?_⟩, ⟨by rw [ofN_length], ?_, ?_⟩, ⟨by rw [ofN_length], ?_, ?_⟩⟩ ?_
    · exact hx13.n
    · intro i hi
      show (H3.t.set id3 _).get i = _
      rw [T.get_set_ne _ _ (by omega)]; exact hx13.get i hi
    · show _ ≤ wl
      rw [hwl]
      show min H.wl H.n ≤ min w3 (min H3.n id3)
      omega
    · exact hq3.2.1
    · show (H3.t.set id3 _).get iq = _
      rw [T.get_set_ne _ _ (by omega)]; exact hq3.2.2
    · exact q2
    · show (H3.t.set id3 _).get id3 = _
      rw [T.get_set_self, hset]
    rintro H4 ⟨hx4, hq4, hr4⟩
    generalize hX : 2 * (P % B) + (bx la j).toNat = X at *
    have hXR : X < 2 ^ R := by omega
    refine Cw.seq (Cw.region ?_)
    iterate 2 (refine Ow.popM rfl ?_; simp only [S0, Nat.reduceEqDiff, Nat.reduceAdd, reduceIte, reduceCtorEq, e1])
    refine Ow.callE (k := 30) (fs := []) (cs := []) (vs := [.slice (some ⟨id3, 0, none⟩) R R, .slice ab lb.length cb]) rfl rfl (by simp only [S0, Nat.reduceEqDiff, Nat.reduceAdd, reduceIte, reduceCtorEq]) (cmp_any hx hr4.isB.wl (hb.ext hx4).wl (by rw [ofN_length]; omega) (by omega)) ?_
    rintro _ H5 w5 hx5 rfl
    rw [val_ofN, Nat.mod_eq_of_lt hXR, hvb]
    (refine Ow.popM rfl ?_; simp only [S0, Nat.reduceEqDiff, Nat.reduceAdd, reduceIte, reduceCtorEq, cmp_ge])
    refine Ow.nilM ⟨nofun, ?_⟩
    have hx5' := hx4.trans hx5
    have hq5 := IsM_ext hq4 hx5
    have hr5 := IsM_ext hr4 hx5
    by_cases hge : B ≤ X
    · rw [if_pos hge, if_pos hge] at hdr
      refine Cw.cond (t := true) (by simp only [S0, Nat.reduceEqDiff, Nat.reduceAdd, reduceIte, reduceCtorEq, hge, decide_true]) ?_
      refine Cw.region ?_
      iterate 4 (refine Ow.popM rfl ?_; simp only [S0, Nat.reduceEqDiff, Nat.reduceAdd, reduceIte, reduceCtorEq, e1, e4, e8])
      refine Ow.callE (k := 27) (fs := []) (cs := []) (vs := [.slice (some ⟨id3, 0, none⟩) R R, .slice ab lb.length cb]) rfl rfl (by simp only [S0, Nat.reduceEqDiff, Nat.reduceAdd, reduceIte, reduceCtorEq]) (sub_any hx hr5.isB.wl (hb.ext hx5').wl (by rw [ofN_length]; omega)) ?_
      rintro y H6 w6 hx6 ⟨id6, hid6, hy⟩
      rw [ofN_length, val_ofN, Nat.mod_eq_of_lt hXR, hvb, Nat.mod_eq_of_lt (by omega : B < 2 ^ R), ofN_eq (show (X + (2 ^ R - B)) % 2 ^ R = (X - B) % 2 ^ R by rw [show X + (2 ^ R - B) = (X - B) + 2 ^ R by omega, Nat.add_mod_right]), ← hdr.2] at hy
      have hq6 := IsM_ext hq5 hx6
      have hx6' := hx5'.trans hx6
      have hid6' : H5.n ≤ id6 := hid6
      have hq5n := hq5.2.1
      have hq5n' : iq < H5.n := hq5n
      obtain ⟨-, p2, p3⟩ := hq6
      have hy6 := hy
      iterate 2 (refine Ow.popM rfl ?_; simp only [S0, Nat.reduceEqDiff, Nat.reduceAdd, reduceIte, reduceCtorEq, ix_ok hjl])
      refine Ow.store1 (b := Nat.blt (min H6.n iq) H6.n) (ad := ⟨iq, j, none⟩) (v := .bool true) rfl (by simp only [S0, Nat.reduceEqDiff, Nat.reduceAdd, reduceIte, reduceCtorEq]) rfl rfl rfl p3 (by simp) (by simp [ofN_length]; omega) rfl ?_
      intro wl2 hwl2
      refine Ow.nil ⟨nofun, ?_⟩
      have hset2 : ((ofN la.length (P / B * 2 ^ (j + 1))).map Value.bool).set j (.bool true) = (ofN la.length (A / 2 ^ j / B * 2 ^ j)).map .bool := by
        rw [← List.map_set, set_bitj hjl, hdr.1, Nat.add_mul, Nat.one_mul, Nat.pow_succ, ← Nat.mul_assoc, Nat.mul_right_comm, Nat.mul_comm 2 (P / B)]
      have h6w' : min H.wl H.n ≤ w6 := hx6'.wl
      show Cw _ _ _ _ _
      refine Cw.genH (fun H7 => AL.Ext H H7 ∧ IsM H7 (.slice (some ⟨iq, 0, none⟩) la.length la.length) (ofN la.length (A / 2 ^ j / B * 2 ^ j)) iq ∧ IsM H7 y (ofN R (A / 2 ^ j % B)) id6) ⟨⟨?_, ?_, ?_⟩, ⟨by rw [ofN_length], ?_, ?_⟩, ⟨hy6.1, hy6.2.1, ?_⟩⟩ ?_
      · exact hx6'.n
      · intro i hi
        show (H6.t.set iq _).get i = _
        rw [T.get_set_ne _ _ (by omega)]; exact hx6'.get i hi
      · show _ ≤ wl2
        rw [hwl2]
        show min H.wl H.n ≤ min w6 (min H6.n iq)
        have : H.n ≤ H6.n := hx6'.n
        omega
      · exact p2
      · show (H6.t.set iq _).get iq = _
        rw [T.get_set_self, hset2]
      · show (H6.t.set iq _).get id6 = _
        rw [T.get_set_ne _ _ (by omega)]; exact hy6.2.2
      rintro H7 ⟨hx7, hq7, hr7⟩
      refine Cw.region ?_
      iterate 3 (refine Ow.popM rfl ?_; simp only [S0, Nat.reduceEqDiff, Nat.reduceAdd, reduceIte, reduceCtorEq, e8, fw_int (show -(2 ^ 62) ≤ (j : Int) - 1 by omega) (by omega)])
      refine Ow.nilM ⟨nofun, hlt, ?_, hx7, ?_, y, id6, ?_, ?_, ?_, ?_⟩
      · simp only [S0, Nat.reduceEqDiff, Nat.reduceAdd, reduceIte, reduceCtorEq, e0, e1, e4, hj1, and_self]
      · rw [hj]; exact hq7
      · simp only [S0, Nat.reduceEqDiff, Nat.reduceAdd, reduceIte, reduceCtorEq]
      · omega
      · have := hx4.n; have := hx5.n; have h45 : H4.n ≤ H5.n := this; omega
      · rw [hj]; exact hr7
    · rw [if_neg hge, if_neg hge] at hdr
      refine Cw.cond (t := false) (by simp only [S0, Nat.reduceEqDiff, Nat.reduceAdd, reduceIte, reduceCtorEq, hge, decide_false]) ?_
      refine Cw.skip ?_
      show Cw _ _ _ _ _
      refine Cw.region ?_
      iterate 3 (refine Ow.popM rfl ?_; simp only [S0, Nat.reduceEqDiff, Nat.reduceAdd, reduceIte, reduceCtorEq, e8, fw_int (show -(2 ^ 62) ≤ (j : Int) - 1 by omega) (by omega)])
      refine Ow.nilM ⟨nofun, hlt, ?_, hx5', ?_, .slice (some ⟨id3, 0, none⟩) R R, id3, ?_, ?_, ?_, ?_⟩
      · simp only [S0, Nat.reduceEqDiff, Nat.reduceAdd, reduceIte, reduceCtorEq, e0, e1, e4, hj1, and_self]
      · rw [hj, hdr.1, Nat.add_zero, Nat.mul_comm 2 (P / B), Nat.mul_assoc, ← Nat.pow_succ']; exact hq5
      · simp only [S0, Nat.reduceEqDiff, Nat.reduceAdd, reduceIte, reduceCtorEq]
      · omega
      · omega
      · rw [hj, hdr.2]; exact hr5
  · obtain rfl : k = la.length := by omega
    iterate 2 (refine Ow.popM rfl ?_; simp only [S0, Nat.reduceEqDiff, Nat.reduceAdd, reduceIte, reduceCtorEq, e8, ge0_neg (show (la.length : Int) - 1 - (la.length : Int) < 0 by omega)])
    refine Ow.nilM ⟨nofun, ?_⟩
    refine Cw.cond (t := false) (by simp only [S0, Nat.reduceEqDiff, Nat.reduceAdd, reduceIte, reduceCtorEq]) ?_
    refine Cw.exit ?_
    show Cw _ _ _ _ _
    rw [Nat.sub_self, Nat.pow_zero, Nat.div_one] at hq hu
    rw [Nat.mul_one] at hq
    have hu1 := hu.1
    rw [ofN_length] at hu1
    subst hu1
    refine Cw.seq (Cw.region ?_)
    iterate 6 (refine Ow.popM rfl ?_; simp only [S0, Nat.reduceEqDiff, Nat.reduceAdd, reduceIte, reduceCtorEq, e0, e4, e7])
    (refine Ow.popM rfl ?_; simp only [S0, Nat.reduceEqDiff, Nat.reduceAdd, reduceIte, reduceCtorEq, evo, cut_3 (show la.length ≤ R by omega) (by omega), show Nat.beq 1 0 = false from rfl])
    iterate 3 (refine Ow.popM rfl ?_; simp only [S0, Nat.reduceEqDiff, Nat.reduceAdd, reduceIte, reduceCtorEq])
    refine Ow.nilM ⟨fun _ => by rfl, ?_⟩
    refine Cw.ret ?_
    simp only [Then, InBlock, Rnd, FnPost, resOf, tupled, S0, Nat.reduceEqDiff, Nat.reduceAdd, reduceIte, reduceCtorEq]
    refine ⟨hxt, ?_⟩
    rw [if_neg hz]
    exact ⟨_, _, rfl, ⟨iq, hiq, hq⟩, isR_cut hu hid (by omega)⟩
end Go.Proofs.Yteeckncfllbokaa.X
