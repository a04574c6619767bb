/- Long and equal; the sums and products of vectors told by their numbers. -/
import Derived.Test.YteeckncfllbokaaXI
set_option linter.unusedSimpArgs false
set_option linter.unusedVariables false
namespace Go.Proofs.Yteeckncfllbokaa.X
open Go Go.AL
variable {ext : Nat → Option (List Value → AH → Option (Value × AH))}
/-- A call that answers w and leaves the heap. -/
theorem Ow.callP {C : Ctx} {E : Env} {H : AH} {d : Option Nat} {g : Option (Nat × Bool)} {f : Operand} {args : List Operand} {os : List IOper} {k : Nat} {vs : List Value} {w : Value} {Q : Env → AH → List (Bool × Bool) → Prop} (hg : wanted E g = some true)
    (hf : ev E f = some (.func (.func k) ⟨[]⟩ ⟨[]⟩)) (ha : evs E args = some vs) (hc : Run C k vs { H with wl := H.n } fun v H1 => H1 = { H with wl := H.n } ∧ v = w)
    (h : ∀ wl, AL.Ext H { H with wl := wl } → Ow C os (put E d w) { H with wl := wl } fun E' H' fl => Q E' H' ((true, false) :: fl)) : Ow C (⟨d, g, .call f args⟩ :: os) E H Q := by
  refine Ow.callE (k := k) (fs := []) (cs := []) (vs := vs) (R := fun r H' => H' = { H with wl := H.n } ∧ r = w) hg hf ha ?_ ?_
  · rw [List.nil_append, List.append_nil]
    exact hc.mono fun r H' hr => ⟨by rw [hr.1]; exact AL.Ext.refl _, hr⟩
  · rintro v H1 wl hx ⟨rfl, rfl⟩
    exact h wl hx
theorem gt_true {a : Nat} {b : Int} (h : b < (a : Int)) : decide ((a : Int) > b) = true := decide_eq_true h
theorem gt_false {a : Nat} {b : Int} (h : (a : Int) ≤ b) : decide ((a : Int) > b) = false := decide_eq_false (by omega)
theorem fw_nat {a : Nat} (h : a < 2 ^ 63) : fwrap .i64 (a : Int) = (a : Int) := by
  unfold fwrap
  have : inKind .i64 (a : Int) = true := by
    show Nat.blt a 9223372036854775808 = true
    exact Nat.ble_eq_true_of_le (by omega)
  rw [this]; rfl
theorem val_ofI {n x : Nat} (h : x < 2 ^ n) : val (ofI n (x : Int)) = x := by rw [ofI_nat, val_ofN, Nat.mod_eq_of_lt h]
/-- Long: is one of the slices in block id too long? -/
theorem Long_any (hx : Ext0 ext) {H : AH} {id cap : Nat} {vs : List Value} {ns : List Nat} (hb : H.t.get id = some ⟨vs, 0⟩) (hn : vs.length = ns.length) (hs : ∀ (i n : Nat), ns[i]? = some n → ∃ a c, vs[i]? = some (Value.slice a n c)) (hl : vs.length < 2 ^ 36) :
    Run (Cx ext) 13 [.slice (some ⟨id, 0, none⟩) vs.length cap] H fun r H' => H' = H ∧ r = .bool (ns.any fun n => decide (140 < n)) := by
  refine Run.intro (fi := IR.fi13) (hx 13 (by decide)) (by kernel_rfl) ?_
  unfold IR.fi13
  simp only [envOf_cons, envOf_nil]
  refine Cw.seq (Cw.region ?_)
  (refine Ow.popM rfl ?_; simp only [S0, Nat.reduceEqDiff, Nat.reduceAdd, reduceIte, reduceCtorEq])
  refine Ow.nilM ⟨nofun, ?_⟩
  refine Cw.seq (Cw.seq (Cw.region ?_))
  (refine Ow.popM rfl ?_; simp only [S0, Nat.reduceEqDiff, Nat.reduceAdd, reduceIte, reduceCtorEq])
  refine Ow.nilM ⟨nofun, ?_⟩
  refine Cw.block (Cw.loopI ns.length (fun k E H2 => (E.get 0 = some (.slice (some ⟨id, 0, none⟩) vs.length cap) ∧ E.get 3 = some (.int .i64 (k : Int))) ∧ H2 = H ∧ ∀ (i n : Nat), i < k → ns[i]? = some n → n ≤ 140) ⟨?_, rfl, fun i n hi => by omega⟩ ?_)
  · simp only [S0, Nat.reduceEqDiff, Nat.reduceAdd, reduceIte, reduceCtorEq]; exact ⟨trivial, rfl⟩
  rintro k E H2 hk ⟨⟨e0, e3⟩, rfl, hh⟩
  refine Cw.seq (Cw.seq (Cw.region ?_))
  by_cases hlt : k < ns.length
  · iterate 4 (refine Ow.popM rfl ?_; simp only [S0, Nat.reduceEqDiff, Nat.reduceAdd, reduceIte, reduceCtorEq, e0, e3, lt_true (show k < vs.length by omega)])
    refine Ow.nilM ⟨nofun, ?_⟩
    refine Cw.cond (t := true) (by simp only [S0, Nat.reduceEqDiff, Nat.reduceAdd, reduceIte, reduceCtorEq]) ?_
    refine Cw.skip ?_
    refine Cw.seq (Cw.block (Cw.seq (Cw.region ?_)))
    obtain ⟨a, c, hv⟩ := hs k (ns[k]) (List.getElem?_eq_getElem hlt)
    iterate 3 (refine Ow.popM rfl ?_; simp only [S0, Nat.reduceEqDiff, Nat.reduceAdd, reduceIte, reduceCtorEq, e0, e3, ix_ok (show k < vs.length by omega)])
    (refine Ow.hopM rfl rfl ?_; simp only [S0, Nat.reduceEqDiff, Nat.reduceAdd, reduceIte, reduceCtorEq, hb, hv])
    (refine Ow.popM rfl ?_; simp only [S0, Nat.reduceEqDiff, Nat.reduceAdd, reduceIte, reduceCtorEq])
    by_cases h140 : 140 < ns[k]
    · (refine Ow.popM rfl ?_; simp only [S0, Nat.reduceEqDiff, Nat.reduceAdd, reduceIte, reduceCtorEq, gt_true (show (140 : Int) < ((ns[k] : Nat) : Int) by omega)])
      refine Ow.nilM ⟨nofun, ?_⟩
      refine Cw.cond (t := true) (by simp only [S0, Nat.reduceEqDiff, Nat.reduceAdd, reduceIte, reduceCtorEq]) ?_
      refine Cw.seq (Cw.region ?_)
      (refine Ow.popM rfl ?_; simp only [S0, Nat.reduceEqDiff, Nat.reduceAdd, reduceIte, reduceCtorEq])
      refine Ow.nilM ⟨nofun, ?_⟩
      refine Cw.ret ?_
      simp only [Then, InBlock, Rnd, FnPost, resOf, tupled, S0, Nat.reduceEqDiff, Nat.reduceAdd, reduceIte, reduceCtorEq]
      have : (ns.any fun n => decide (140 < n)) = true := by
        rw [List.any_eq_true]
        exact ⟨ns[k], List.getElem_mem hlt, by simpa using h140⟩
      simp only [this, and_self]
    · (refine Ow.popM rfl ?_; simp only [S0, Nat.reduceEqDiff, Nat.reduceAdd, reduceIte, reduceCtorEq, gt_false (show ((ns[k] : Nat) : Int) ≤ 140 by omega)])
      refine Ow.nilM ⟨nofun, ?_⟩
      refine Cw.cond (t := false) (by simp only [S0, Nat.reduceEqDiff, Nat.reduceAdd, reduceIte, reduceCtorEq]) ?_
      refine Cw.skip ?_
      show Cw _ _ _ _ _
      refine Cw.region ?_
      iterate 3 (refine Ow.popM rfl ?_; simp only [S0, Nat.reduceEqDiff, Nat.reduceAdd, reduceIte, reduceCtorEq, e3, fw_succ (show k < 2 ^ 62 by omega)])
      refine Ow.nilM ⟨nofun, hlt, ?_, rfl, ?_⟩
      · simp only [S0, Nat.reduceEqDiff, Nat.reduceAdd, reduceIte, reduceCtorEq, e0, and_self]
      · intro i n hi hn'
        by_cases hik : i = k
        · subst hik
          rw [List.getElem?_eq_getElem hlt] at hn'
          obtain rfl := Option.some.inj hn'
          omega
        · exact hh i n (by omega) hn'
  · obtain rfl : k = ns.length := by omega
    iterate 4 (refine Ow.popM rfl ?_; simp only [S0, Nat.reduceEqDiff, Nat.reduceAdd, reduceIte, reduceCtorEq, e0, e3, lt_false (show ¬ ns.length < vs.length by omega)])
    refine Ow.nilM ⟨nofun, ?_⟩
    refine Cw.cond (t := false) (by simp only [S0, Nat.reduceEqDiff, Nat.reduceAdd, reduceIte, reduceCtorEq]) ?_
    refine Cw.exit ?_
    show Cw _ _ _ _ _
    refine Cw.seq (Cw.region ?_)
    (refine Ow.popM rfl ?_; simp only [S0, Nat.reduceEqDiff, Nat.reduceAdd, reduceIte, reduceCtorEq])
    refine Ow.nilM ⟨nofun, ?_⟩
    refine Cw.ret ?_
    simp only [Then, InBlock, Rnd, FnPost, resOf, tupled, S0, Nat.reduceEqDiff, Nat.reduceAdd, reduceIte, reduceCtorEq]
    have : (ns.any fun n => decide (140 < n)) = false := by
      rw [List.any_eq_false]
      intro n hn'
      obtain ⟨i, hi⟩ := List.getElem?_of_mem hn'
      have := hh i n (List.getElem?_eq_some_iff.1 hi).1 hi
      simpa using this
    simp only [this, and_self]
/-- equal -/
theorem equal_any (hx : Ext0 ext) {H : AH} {va vb vc : Value} {la lb lc : List Bool} (ha : IsB H va la) (hb : IsB H vb lb) (hc : IsB H vc lc) (hl : la.length < 2 ^ 34) :
    Run (Cx ext) 24 [va, vb, vc] H fun r H' => AL.Ext H H' ∧ ∃ u w, r = .tuple ⟨[va, u, w]⟩ ∧ IsB H' u (ofN la.length (val lb)) ∧ IsB H' w (ofN la.length (val lc)) := by
  refine Run.intro (fi := IR.fi24) (hx 24 (by decide)) (by kernel_rfl) ?_
  unfold IR.fi24
  simp only [envOf_cons, envOf_nil]
  obtain ⟨aa, ca, ea⟩ := ha.shape
  subst ea
  refine Cw.seq (Cw.region ?_)
  iterate 3 (refine Ow.popM rfl ?_; simp only [S0, Nat.reduceEqDiff, Nat.reduceAdd, reduceIte, reduceCtorEq])
  refine Ow.nilM ⟨nofun, ?_⟩
  refine Cw.seq (Cw.region ?_)
  iterate 4 (refine Ow.popM rfl ?_; simp only [S0, Nat.reduceEqDiff, Nat.reduceAdd, reduceIte, reduceCtorEq])
  refine Ow.callE (k := 31) (fs := []) (cs := []) (vs := [vb, .int .i64 la.length]) rfl rfl (by simp only [S0, Nat.reduceEqDiff, Nat.reduceAdd, reduceIte, reduceCtorEq]) (Fit_any hx hb.wl hl) ?_
  rintro u H1 w1 hx1 hu
  have hc1 := hc.ext hx1
  iterate 3 (refine Ow.popM rfl ?_; simp only [S0, Nat.reduceEqDiff, Nat.reduceAdd, reduceIte, reduceCtorEq])
  refine Ow.callE (k := 31) (fs := []) (cs := []) (vs := [vc, .int .i64 la.length]) rfl rfl (by simp only [S0, Nat.reduceEqDiff, Nat.reduceAdd, reduceIte, reduceCtorEq]) (Fit_any hx hc1.wl hl) ?_
  rintro w H2 w2 hx2 hw
  have hu1 : IsB { H1 with wl := w1 } u _ := hu.isR.isB
  have hu2 := hu1.ext hx2
  iterate 3 (refine Ow.popM rfl ?_; simp only [S0, Nat.reduceEqDiff, Nat.reduceAdd, reduceIte, reduceCtorEq])
  refine Ow.nilM ⟨nofun, ?_⟩
  refine Cw.ret ?_
  simp only [Then, InBlock, Rnd, FnPost, resOf, tupled, S0, Nat.reduceEqDiff, Nat.reduceAdd, reduceIte, reduceCtorEq]
  exact ⟨hx1.trans hx2, u, w, rfl, hu2, hw.isR.isB⟩
/-! ## By their numbers -/
theorem add_N (hx : Ext0 ext) {H : AH} {va vb : Value} {n X Y : Nat} (ha : IsB H va (ofN n X)) (hb : IsB H vb (ofN n Y)) (hl : n < 2 ^ 34) : Run (Cx ext) 25 [va, vb] H fun r H' => AL.Ext H H' ∧ ∃ id, H.n ≤ id ∧ IsM H' r (ofN n (X + Y)) id := by
  have h := add_any hx ha hb (by rw [ofN_length]; omega)
  rw [ofN_length, val_ofN, val_ofN, ofN_eq (show (X % 2 ^ n + Y % 2 ^ n) % 2 ^ n = (X + Y) % 2 ^ n by rw [← Nat.add_mod])] at h
  exact h
theorem mul_N (hx : Ext0 ext) {H : AH} {va vb : Value} {n X Y : Nat} (ha : IsB H va (ofN n X)) (hb : IsB H vb (ofN n Y)) (hl : n < 2 ^ 34) : Run (Cx ext) 26 [va, vb] H fun r H' => AL.Ext H H' ∧ ∃ id, H.n ≤ id ∧ IsM H' r (ofN n (X * Y)) id := by
  have h := mul_any hx ha hb (by rw [ofN_length]; omega)
  rw [ofN_length, val_ofN, val_ofN, ofN_mul] at h
  exact h
theorem mul_V (hx : Ext0 ext) {H : AH} {va vb : Value} {n X : Nat} {lb : List Bool} (ha : IsB H va (ofN n X)) (hb : IsB H vb lb) (hl : n < 2 ^ 34) : Run (Cx ext) 26 [va, vb] H fun r H' => AL.Ext H H' ∧ ∃ id, H.n ≤ id ∧ IsM H' r (ofN n (X * val lb)) id := by
  have h := mul_any hx ha hb (by rw [ofN_length]; omega)
  rw [ofN_length, val_ofN, ofN_eq (show (X % 2 ^ n * val lb) % 2 ^ n = (X * val lb) % 2 ^ n by rw [Nat.mod_mul_mod])] at h
  exact h
theorem sub_N (hx : Ext0 ext) {H : AH} {va vb : Value} {n X Y : Nat} (ha : IsB H va (ofN n X)) (hb : IsB H vb (ofN n Y)) (hl : n < 2 ^ 34) : Run (Cx ext) 27 [va, vb] H fun r H' => AL.Ext H H' ∧ ∃ id, H.n ≤ id ∧ IsM H' r (ofN n (X + (2 ^ n - Y % 2 ^ n))) id := by
  have h := sub_any hx ha hb (by rw [ofN_length]; omega)
  rw [ofN_length, val_ofN, val_ofN, Nat.mod_mod, ofN_eq (show (X % 2 ^ n + (2 ^ n - Y % 2 ^ n)) % 2 ^ n = (X + (2 ^ n - Y % 2 ^ n)) % 2 ^ n by rw [Nat.mod_add_mod])] at h
  exact h
theorem neg_N (hx : Ext0 ext) {H : AH} {va : Value} {n X : Nat} (ha : IsB H va (ofN n X)) (hl : n < 2 ^ 34) : Run (Cx ext) 28 [va] H fun r H' => AL.Ext H H' ∧ ∃ id, H.n ≤ id ∧ IsM H' r (ofN n (2 ^ n - X % 2 ^ n)) id := by
  have h := neg_any hx ha (by rw [ofN_length]; omega)
  rw [ofN_length, val_ofN, Nat.mod_mod] at h
  exact h
theorem same_N (hx : Ext0 ext) {H : AH} {va vb : Value} {n X Y : Nat} (ha : IsB H va (ofN n X)) (hb : IsB H vb (ofN n Y)) (hl : n < 2 ^ 34) (h : X % 2 ^ n = Y % 2 ^ n) : Run (Cx ext) 20 [va, vb] H fun r H' => H' = H ∧ r = .bool true := by
  have h1 := same_any hx ha hb (by rw [ofN_length]; omega)
  rw [ofN_eq h] at h1
  simp only [decide_true] at h1
  exact h1
end Go.Proofs.Yteeckncfllbokaa.X
