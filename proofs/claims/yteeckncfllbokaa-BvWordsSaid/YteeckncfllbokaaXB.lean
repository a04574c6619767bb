/- Sums and differences. -/
import Derived.Test.YteeckncfllbokaaXP
import Derived.Test.YteeckncfllbokaaALc
set_option linter.unusedSimpArgs false
set_option linter.unusedVariables false
namespace Go.Proofs.Yteeckncfllbokaa.X
open Go Go.AL
variable {ext : Nat → Option (List Value → AH → Option (Value × AH))}
/-- The heap in a sum's loop: the result lies in block io, the carry in block ic. -/
structure AddH (H : AH) (H1 : AH) (n S k io ic : Nat) (c : Bool) : Prop where
  ext : AL.Ext H H1
  hio : H.n ≤ io ∧ io < H1.n
  hic : H.n ≤ ic ∧ ic < H1.n
  ne : io ≠ ic
  out : H1.t.get io = some ⟨(outk n S k).map .bool, 0⟩
  car : H1.t.get ic = some ⟨[.bool c], 0⟩
/-- bv.Add: the sum's low bits, in a fresh block. -/
theorem add_raw (hx : Ext0 ext) {H : AH} {va vb : Value} {la lb : List Bool} {Y : Nat} (hY : ∀ k, k < la.length → Y.testBit k = bx lb k) (ha : IsB H va la) (hb : IsB H vb lb) (hl : la.length < 2 ^ 36) :
    Run (Cx ext) 25 [va, vb] H fun r H' => AL.Ext H H' ∧ ∃ id, H.n ≤ id ∧ IsM H' r (ofN la.length (val la + Y + false.toNat)) id := by
  refine Run.intro (fi := IR.fi25) (hx 25 (by decide)) (by kernel_rfl) ?_
  unfold IR.fi25
  simp only [envOf_cons, envOf_nil]
  refine Cw.seq (Cw.region ?_)
  (refine Ow.popM rfl ?_; simp only [S0, Nat.reduceEqDiff, Nat.reduceAdd, reduceIte, reduceCtorEq])
  refine Ow.nilM ⟨nofun, ?_⟩
  refine Cw.seq (Cw.region ?_)
  refine Ow.callE (k := 58) (fs := []) (cs := []) (vs := [.bool false]) rfl rfl rfl ((adder_any hx).mono (Q' := fun r H' => AL.Ext { H with wl := H.n } H' ∧ (H'.n = H.n + 1 ∧ H'.t = H.t.set H.n ⟨[.bool false], 0⟩ ∧ r = .func (.func 68) ⟨[]⟩ ⟨[.pointer (some ⟨H.n, 0, none⟩)]⟩)) ?_) ?_
  · rintro r H' ⟨rfl, rfl⟩
    exact ⟨(AL.Ext.refl _).new _, rfl, rfl, rfl⟩
  rintro v H1 w hx1 ⟨hn1, ht1, rfl⟩
  obtain ⟨aa, acap, ea⟩ := ha.shape
  subst ea
  iterate 2 (refine Ow.popM rfl ?_; simp only [S0, Nat.reduceEqDiff, Nat.reduceAdd, reduceIte, reduceCtorEq])
  refine Ow.makeB (k := .i64) (n := la.length) rfl (by simp only [S0, Nat.reduceEqDiff, Nat.reduceAdd, reduceIte, reduceCtorEq]) (by omega) ?_
  iterate 2 (refine Ow.popM rfl ?_; simp only [S0, Nat.reduceEqDiff, Nat.reduceAdd, reduceIte, reduceCtorEq])
  refine Ow.nilM ⟨fun _ => by rfl, ?_⟩
  refine Cw.seq (Cw.seq (Cw.region ?_))
  iterate 3 (refine Ow.popM rfl ?_; simp only [S0, Nat.reduceEqDiff, Nat.reduceAdd, reduceIte, reduceCtorEq])
  refine Ow.nilM ⟨nofun, ?_⟩
  have hn1' : H1.n = H.n + 1 := hn1
  have hI : ∀ k, k < la.length → (val la + Y + false.toNat).testBit k = ((bx la k != bx lb k) != cy (val la) Y false k) ∧ cy (val la) Y false (k + 1) = (bx la k && bx lb k || (cy (val la) Y false k && (bx la k || bx lb k))) := by
    intro k hk
    have := full_add (val la) Y false k
    rw [hY k hk, val_bit la] at this
    exact this
  generalize hS : val la + Y + false.toNat = S at *
  refine Cw.block (Cw.loopI la.length (fun k E H2 => (E.get 0 = some (.slice aa la.length acap) ∧ E.get 1 = some vb ∧ E.get 5 = some (.func (.func 68) ⟨[]⟩ ⟨[.pointer (some ⟨H.n, 0, none⟩)]⟩) ∧ E.get 6 = some (.slice (some ⟨H.n + 1, 0, none⟩) la.length la.length) ∧ E.get 13 = some (.int .i64 (la.length : Int)) ∧ E.get 14 = some (.int .i64 (k : Int))) ∧ AddH H H2 la.length S k (H.n + 1) H.n (cy (val la) Y false k)) ⟨?_, ?_⟩ ?_)
  · simp only [S0, Nat.reduceEqDiff, Nat.reduceAdd, reduceIte, reduceCtorEq, hn1', and_self]; exact ⟨trivial, trivial, trivial, trivial, trivial, rfl⟩
  · have hxn := hx1.new (⟨(List.replicate la.length false).map .bool, 0⟩ : Blk)
    refine ⟨hxn, ⟨by omega, ?_⟩, ⟨Nat.le_refl _, ?_⟩, by omega, ?_, ?_⟩
    · show H.n + 1 < H1.n + 1; omega
    · show H.n < H1.n + 1; omega
    · show (H1.t.set H1.n _).get (H.n + 1) = _
      rw [hn1', T.get_set_self, outk_zero]
    · show (H1.t.set H1.n _).get H.n = _
      rw [T.get_set_ne _ _ (by omega), ht1, T.get_set_self, cy_zero]
  clear hx1 hn1 hn1' ht1
  rintro k E H1 hk ⟨⟨e0, e1, e5, e6, e13, e14⟩, hh⟩
  refine Cw.seq (Cw.region ?_)
  by_cases hlt : k < la.length
  · obtain ⟨x1, x2, x3, x4, x5, x6⟩ := id hh
    have ha1 : IsB H1 (.slice aa la.length acap) la := ha.ext x1
    have hb1 : IsB H1 vb lb := hb.ext x1
    obtain ⟨ad, cap, bk, ee, h1, h2, h3⟩ := ha1.at (bx_lt hlt)
    simp only [Value.slice.injEq] at ee
    obtain ⟨rfl, -, rfl⟩ := ee
    (refine Ow.popM rfl ?_; simp only [S0, Nat.reduceEqDiff, Nat.reduceAdd, reduceIte, reduceCtorEq, e14, e13, lt_true hlt])
    refine Ow.nilM ⟨nofun, ?_⟩
    refine Cw.seq (Cw.cond (t := true) (by simp only [S0, Nat.reduceEqDiff, Nat.reduceAdd, reduceIte, reduceCtorEq]) ?_)
    refine Cw.skip ?_
    refine Cw.seq (Cw.block (Cw.seq (Cw.region ?_)))
    iterate 2 (refine Ow.popM rfl ?_; simp only [S0, Nat.reduceEqDiff, Nat.reduceAdd, reduceIte, reduceCtorEq, e14])
    refine Ow.nilM ⟨nofun, ?_⟩
    refine Cw.region ?_
    iterate 6 (refine Ow.popM rfl ?_; simp only [S0, Nat.reduceEqDiff, Nat.reduceAdd, reduceIte, reduceCtorEq, e0, e5, e6, ix_ok hlt])
    (refine Ow.hopM rfl rfl ?_; simp only [S0, Nat.reduceEqDiff, Nat.reduceAdd, reduceIte, reduceCtorEq, h2, h3])
    iterate 2 (refine Ow.popM rfl ?_; simp only [S0, Nat.reduceEqDiff, Nat.reduceAdd, reduceIte, reduceCtorEq, e1])
    refine Ow.callE (k := 59) (fs := []) (cs := []) (vs := [vb, .int .i64 k]) (R := fun r H' => H' = { H1 with wl := H1.n } ∧ r = .bool (bx lb k)) rfl rfl (by simp only [S0, Nat.reduceEqDiff, Nat.reduceAdd, reduceIte, reduceCtorEq]) ((at_any hx (hb1.wl)).mono fun r H' hr => ⟨by rw [hr.1]; exact AL.Ext.refl _, hr⟩) ?_
    rintro v H2 wl hx2 ⟨rfl, rfl⟩
    have hcar : ∀ x, ({ H1 with wl := x } : AH).t.get H.n = some ⟨[.bool (cy (val la) Y false k)], 0⟩ := fun _ => x6
    refine Ow.call (k := 68) (fs := []) (cs := [.pointer (some ⟨H.n, 0, none⟩)]) (vs := [.bool (bx la k), .bool (bx lb k)]) rfl (by simp only [S0, Nat.reduceEqDiff, Nat.reduceAdd, reduceIte, reduceCtorEq, e5]) (by simp only [S0, Nat.reduceEqDiff, Nat.reduceAdd, reduceIte, reduceCtorEq]) (step_any hx (id := H.n) (c := cy (val la) Y false k) (H := { H1 with wl := H1.n }) x3.2 x6) ?_
    rintro v H3 ⟨g1, g2, g3, rfl⟩
    have hfa := hI k hlt
    have g3' : H3.wl = H.n := by rw [g3]; exact Nat.min_eq_right (Nat.le_of_lt x3.2)
    refine ⟨true, by rw [g3']; exact Nat.ble_eq_true_of_le x3.2, ?_⟩
    have g1' : H3.n = H1.n := g1
    have g2' : H3.t = H1.t.set H.n ⟨[.bool (cy (val la) Y false (k + 1))], 0⟩ := by rw [hfa.2]; exact g2
    rw [← hfa.1]
    (refine Ow.popM rfl ?_; simp only [S0, Nat.reduceEqDiff, Nat.reduceAdd, reduceIte, reduceCtorEq, ix_ok hlt])
    have hout : H3.t.get (H.n + 1) = some ⟨(outk la.length S k).map .bool, 0⟩ := by rw [g2', T.get_set_ne _ _ x4]; exact x5
    refine Ow.store1 (b := true) (ad := ⟨H.n + 1, k, none⟩) (v := .bool (S.testBit k)) rfl (by simp only [S0, Nat.reduceEqDiff, Nat.reduceAdd, reduceIte, reduceCtorEq]) (by simp only [S0, Nat.reduceEqDiff, Nat.reduceAdd, reduceIte, reduceCtorEq]) rfl rfl hout (by simp) (by simp [outk_length]; exact hlt) ?_ ?_
    · show Nat.blt (min H3.n (H.n + 1)) H3.n = true
      rw [g1', Nat.min_eq_right (Nat.le_of_lt x2.2)]
      exact Nat.ble_eq_true_of_le x2.2
    · intro wl2 hwl2
      refine Ow.nil ⟨fun _ => by rfl, ?_⟩
      show Cw _ _ _ _ _
      refine Cw.region ?_
      iterate 2 (refine Ow.popM rfl ?_; simp only [S0, Nat.reduceEqDiff, Nat.reduceAdd, reduceIte, reduceCtorEq, e14, fw_succ (show k < 2 ^ 62 by omega)])
      refine Ow.nilM ⟨nofun, hlt, ?_, ?_⟩
      · simp only [S0, Nat.reduceEqDiff, Nat.reduceAdd, reduceIte, reduceCtorEq, e0, e1, e5, e6, e13, and_self]
      refine ⟨⟨?_, ?_, ?_⟩, ⟨x2.1, ?_⟩, ⟨x3.1, ?_⟩, x4, ?_, ?_⟩
      · have := x1.n; show H.n ≤ H3.n; omega
      · intro id hid
        show (H3.t.set (H.n + 1) _).get id = _
        rw [T.get_set_ne _ _ (by omega), g2', T.get_set_ne _ _ (by omega)]
        exact x1.get id hid
      · show _ ≤ wl2
        have := x1.wl
        have := x1.n
        have y : min H1.wl H1.n ≤ wl := hx2.wl
        rw [hwl2]
        show min H.wl H.n ≤ min (min wl H3.wl) (min H3.n (H.n + 1))
        omega
      · show H.n + 1 < H3.n; omega
      · show H.n < H3.n; omega
      · show (H3.t.set (H.n + 1) _).get (H.n + 1) = _
        rw [T.get_set_self, ← outk_set hlt, List.map_set]
      · show (H3.t.set (H.n + 1) _).get H.n = _
        rw [T.get_set_ne _ _ (Ne.symm x4), g2', T.get_set_self]
  · obtain rfl : k = la.length := by omega
    obtain ⟨x1, x2, x3, x4, x5, x6⟩ := id hh
    (refine Ow.popM rfl ?_; simp only [S0, Nat.reduceEqDiff, Nat.reduceAdd, reduceIte, reduceCtorEq, e14, e13, lt_false (Nat.lt_irrefl la.length)])
    refine Ow.nilM ⟨nofun, ?_⟩
    refine Cw.seq (Cw.cond (t := false) (by simp only [S0, Nat.reduceEqDiff, Nat.reduceAdd, reduceIte, reduceCtorEq]) ?_)
    refine Cw.exit ?_
    show Cw _ _ _ _ _
    refine Cw.seq (Cw.region ?_)
    iterate 2 (refine Ow.popM rfl ?_; simp only [S0, Nat.reduceEqDiff, Nat.reduceAdd, reduceIte, reduceCtorEq, e6])
    refine Ow.nilM ⟨nofun, ?_⟩
    refine Cw.ret ?_
    simp only [FnPost, resOf, tupled, S0, Nat.reduceEqDiff, Nat.reduceAdd, reduceIte, reduceCtorEq]
    refine ⟨x1, H.n + 1, x2.1, ?_, x2.2, ?_⟩
    · rw [ofN_length]
    · rw [x5, outk_full]
/-- bv.Sub: the difference's low bits, in a fresh block. -/
theorem sub_raw (hx : Ext0 ext) {H : AH} {va vb : Value} {la lb : List Bool} {Y : Nat} (hY : ∀ k, k < la.length → Y.testBit k = (!bx lb k)) (ha : IsB H va la) (hb : IsB H vb lb) (hl : la.length < 2 ^ 36) :
    Run (Cx ext) 27 [va, vb] H fun r H' => AL.Ext H H' ∧ ∃ id, H.n ≤ id ∧ IsM H' r (ofN la.length (val la + Y + true.toNat)) id := by
  refine Run.intro (fi := IR.fi27) (hx 27 (by decide)) (by kernel_rfl) ?_
  unfold IR.fi27
  simp only [envOf_cons, envOf_nil]
  refine Cw.seq (Cw.region ?_)
  (refine Ow.popM rfl ?_; simp only [S0, Nat.reduceEqDiff, Nat.reduceAdd, reduceIte, reduceCtorEq])
  refine Ow.nilM ⟨nofun, ?_⟩
  refine Cw.seq (Cw.region ?_)
  refine Ow.callE (k := 58) (fs := []) (cs := []) (vs := [.bool true]) rfl rfl rfl ((adder_any hx).mono (Q' := fun r H' => AL.Ext { H with wl := H.n } H' ∧ (H'.n = H.n + 1 ∧ H'.t = H.t.set H.n ⟨[.bool true], 0⟩ ∧ r = .func (.func 68) ⟨[]⟩ ⟨[.pointer (some ⟨H.n, 0, none⟩)]⟩)) ?_) ?_
  · rintro r H' ⟨rfl, rfl⟩
    exact ⟨(AL.Ext.refl _).new _, rfl, rfl, rfl⟩
  rintro v H1 w hx1 ⟨hn1, ht1, rfl⟩
  obtain ⟨aa, acap, ea⟩ := ha.shape
  subst ea
  iterate 2 (refine Ow.popM rfl ?_; simp only [S0, Nat.reduceEqDiff, Nat.reduceAdd, reduceIte, reduceCtorEq])
  refine Ow.makeB (k := .i64) (n := la.length) rfl (by simp only [S0, Nat.reduceEqDiff, Nat.reduceAdd, reduceIte, reduceCtorEq]) (by omega) ?_
  iterate 2 (refine Ow.popM rfl ?_; simp only [S0, Nat.reduceEqDiff, Nat.reduceAdd, reduceIte, reduceCtorEq])
  refine Ow.nilM ⟨fun _ => by rfl, ?_⟩
  refine Cw.seq (Cw.seq (Cw.region ?_))
  iterate 3 (refine Ow.popM rfl ?_; simp only [S0, Nat.reduceEqDiff, Nat.reduceAdd, reduceIte, reduceCtorEq])
  refine Ow.nilM ⟨nofun, ?_⟩
  have hn1' : H1.n = H.n + 1 := hn1
  have hI : ∀ k, k < la.length → (val la + Y + true.toNat).testBit k = ((bx la k != (!bx lb k)) != cy (val la) Y true k) ∧ cy (val la) Y true (k + 1) = (bx la k && (!bx lb k) || (cy (val la) Y true k && (bx la k || (!bx lb k)))) := by
    intro k hk
    have := full_add (val la) Y true k
    rw [hY k hk, val_bit la] at this
    exact this
  generalize hS : val la + Y + true.toNat = S at *
  refine Cw.block (Cw.loopI la.length (fun k E H2 => (E.get 0 = some (.slice aa la.length acap) ∧ E.get 1 = some vb ∧ E.get 5 = some (.func (.func 68) ⟨[]⟩ ⟨[.pointer (some ⟨H.n, 0, none⟩)]⟩) ∧ E.get 6 = some (.slice (some ⟨H.n + 1, 0, none⟩) la.length la.length) ∧ E.get 13 = some (.int .i64 (la.length : Int)) ∧ E.get 14 = some (.int .i64 (k : Int))) ∧ AddH H H2 la.length S k (H.n + 1) H.n (cy (val la) Y true k)) ⟨?_, ?_⟩ ?_)
  · simp only [S0, Nat.reduceEqDiff, Nat.reduceAdd, reduceIte, reduceCtorEq, hn1', and_self]; exact ⟨trivial, trivial, trivial, trivial, trivial, rfl⟩
  · have hxn := hx1.new (⟨(List.replicate la.length false).map .bool, 0⟩ : Blk)
    refine ⟨hxn, ⟨by omega, ?_⟩, ⟨Nat.le_refl _, ?_⟩, by omega, ?_, ?_⟩
    · show H.n + 1 < H1.n + 1; omega
    · show H.n < H1.n + 1; omega
    · show (H1.t.set H1.n _).get (H.n + 1) = _
      rw [hn1', T.get_set_self, outk_zero]
    · show (H1.t.set H1.n _).get H.n = _
      rw [T.get_set_ne _ _ (by omega), ht1, T.get_set_self, cy_zero]
  clear hx1 hn1 hn1' ht1
  rintro k E H1 hk ⟨⟨e0, e1, e5, e6, e13, e14⟩, hh⟩
  refine Cw.seq (Cw.region ?_)
  by_cases hlt : k < la.length
  · obtain ⟨x1, x2, x3, x4, x5, x6⟩ := id hh
    have ha1 : IsB H1 (.slice aa la.length acap) la := ha.ext x1
    have hb1 : IsB H1 vb lb := hb.ext x1
    obtain ⟨ad, cap, bk, ee, h1, h2, h3⟩ := ha1.at (bx_lt hlt)
    simp only [Value.slice.injEq] at ee
    obtain ⟨rfl, -, rfl⟩ := ee
    (refine Ow.popM rfl ?_; simp only [S0, Nat.reduceEqDiff, Nat.reduceAdd, reduceIte, reduceCtorEq, e14, e13, lt_true hlt])
    refine Ow.nilM ⟨nofun, ?_⟩
    refine Cw.seq (Cw.cond (t := true) (by simp only [S0, Nat.reduceEqDiff, Nat.reduceAdd, reduceIte, reduceCtorEq]) ?_)
    refine Cw.skip ?_
    refine Cw.seq (Cw.block (Cw.seq (Cw.region ?_)))
    iterate 2 (refine Ow.popM rfl ?_; simp only [S0, Nat.reduceEqDiff, Nat.reduceAdd, reduceIte, reduceCtorEq, e14])
    refine Ow.nilM ⟨nofun, ?_⟩
    refine Cw.region ?_
    iterate 6 (refine Ow.popM rfl ?_; simp only [S0, Nat.reduceEqDiff, Nat.reduceAdd, reduceIte, reduceCtorEq, e0, e5, e6, ix_ok hlt])
    (refine Ow.hopM rfl rfl ?_; simp only [S0, Nat.reduceEqDiff, Nat.reduceAdd, reduceIte, reduceCtorEq, h2, h3])
    iterate 2 (refine Ow.popM rfl ?_; simp only [S0, Nat.reduceEqDiff, Nat.reduceAdd, reduceIte, reduceCtorEq, e1])
    refine Ow.callE (k := 59) (fs := []) (cs := []) (vs := [vb, .int .i64 k]) (R := fun r H' => H' = { H1 with wl := H1.n } ∧ r = .bool (bx lb k)) rfl rfl (by simp only [S0, Nat.reduceEqDiff, Nat.reduceAdd, reduceIte, reduceCtorEq]) ((at_any hx (hb1.wl)).mono fun r H' hr => ⟨by rw [hr.1]; exact AL.Ext.refl _, hr⟩) ?_
    rintro v H2 wl hx2 ⟨rfl, rfl⟩
    (refine Ow.popM rfl ?_; simp only [S0, Nat.reduceEqDiff, Nat.reduceAdd, reduceIte, reduceCtorEq])
    have hcar : ∀ x, ({ H1 with wl := x } : AH).t.get H.n = some ⟨[.bool (cy (val la) Y true k)], 0⟩ := fun _ => x6
    refine Ow.call (k := 68) (fs := []) (cs := [.pointer (some ⟨H.n, 0, none⟩)]) (vs := [.bool (bx la k), .bool ((!bx lb k))]) rfl (by simp only [S0, Nat.reduceEqDiff, Nat.reduceAdd, reduceIte, reduceCtorEq, e5]) (by simp only [S0, Nat.reduceEqDiff, Nat.reduceAdd, reduceIte, reduceCtorEq]) (step_any hx (id := H.n) (c := cy (val la) Y true k) (H := { H1 with wl := H1.n }) x3.2 x6) ?_
    rintro v H3 ⟨g1, g2, g3, rfl⟩
    have hfa := hI k hlt
    have g3' : H3.wl = H.n := by rw [g3]; exact Nat.min_eq_right (Nat.le_of_lt x3.2)
    refine ⟨true, by rw [g3']; exact Nat.ble_eq_true_of_le x3.2, ?_⟩
    have g1' : H3.n = H1.n := g1
    have g2' : H3.t = H1.t.set H.n ⟨[.bool (cy (val la) Y true (k + 1))], 0⟩ := by rw [hfa.2]; exact g2
    rw [← hfa.1]
    (refine Ow.popM rfl ?_; simp only [S0, Nat.reduceEqDiff, Nat.reduceAdd, reduceIte, reduceCtorEq, ix_ok hlt])
    have hout : H3.t.get (H.n + 1) = some ⟨(outk la.length S k).map .bool, 0⟩ := by rw [g2', T.get_set_ne _ _ x4]; exact x5
    refine Ow.store1 (b := true) (ad := ⟨H.n + 1, k, none⟩) (v := .bool (S.testBit k)) rfl (by simp only [S0, Nat.reduceEqDiff, Nat.reduceAdd, reduceIte, reduceCtorEq]) (by simp only [S0, Nat.reduceEqDiff, Nat.reduceAdd, reduceIte, reduceCtorEq]) rfl rfl hout (by simp) (by simp [outk_length]; exact hlt) ?_ ?_
    · show Nat.blt (min H3.n (H.n + 1)) H3.n = true
      rw [g1', Nat.min_eq_right (Nat.le_of_lt x2.2)]
      exact Nat.ble_eq_true_of_le x2.2
    · intro wl2 hwl2
      refine Ow.nil ⟨fun _ => by rfl, ?_⟩
      show Cw _ _ _ _ _
      refine Cw.region ?_
      iterate 2 (refine Ow.popM rfl ?_; simp only [S0, Nat.reduceEqDiff, Nat.reduceAdd, reduceIte, reduceCtorEq, e14, fw_succ (show k < 2 ^ 62 by omega)])
      refine Ow.nilM ⟨nofun, hlt, ?_, ?_⟩
      · simp only [S0, Nat.reduceEqDiff, Nat.reduceAdd, reduceIte, reduceCtorEq, e0, e1, e5, e6, e13, and_self]
      refine ⟨⟨?_, ?_, ?_⟩, ⟨x2.1, ?_⟩, ⟨x3.1, ?_⟩, x4, ?_, ?_⟩
      · have := x1.n; show H.n ≤ H3.n; omega
      · intro id hid
        show (H3.t.set (H.n + 1) _).get id = _
        rw [T.get_set_ne _ _ (by omega), g2', T.get_set_ne _ _ (by omega)]
        exact x1.get id hid
      · show _ ≤ wl2
        have := x1.wl
        have := x1.n
        have y : min H1.wl H1.n ≤ wl := hx2.wl
        rw [hwl2]
        show min H.wl H.n ≤ min (min wl H3.wl) (min H3.n (H.n + 1))
        omega
      · show H.n + 1 < H3.n; omega
      · show H.n < H3.n; omega
      · show (H3.t.set (H.n + 1) _).get (H.n + 1) = _
        rw [T.get_set_self, ← outk_set hlt, List.map_set]
      · show (H3.t.set (H.n + 1) _).get H.n = _
        rw [T.get_set_ne _ _ (Ne.symm x4), g2', T.get_set_self]
  · obtain rfl : k = la.length := by omega
    obtain ⟨x1, x2, x3, x4, x5, x6⟩ := id hh
    (refine Ow.popM rfl ?_; simp only [S0, Nat.reduceEqDiff, Nat.reduceAdd, reduceIte, reduceCtorEq, e14, e13, lt_false (Nat.lt_irrefl la.length)])
    refine Ow.nilM ⟨nofun, ?_⟩
    refine Cw.seq (Cw.cond (t := false) (by simp only [S0, Nat.reduceEqDiff, Nat.reduceAdd, reduceIte, reduceCtorEq]) ?_)
    refine Cw.exit ?_
    show Cw _ _ _ _ _
    refine Cw.seq (Cw.region ?_)
    iterate 2 (refine Ow.popM rfl ?_; simp only [S0, Nat.reduceEqDiff, Nat.reduceAdd, reduceIte, reduceCtorEq, e6])
    refine Ow.nilM ⟨nofun, ?_⟩
    refine Cw.ret ?_
    simp only [FnPost, resOf, tupled, S0, Nat.reduceEqDiff, Nat.reduceAdd, reduceIte, reduceCtorEq]
    refine ⟨x1, H.n + 1, x2.1, ?_, x2.2, ?_⟩
    · rw [ofN_length]
    · rw [x5, outk_full]
theorem add_any (hx : Ext0 ext) {H : AH} {va vb : Value} {la lb : List Bool} (ha : IsB H va la) (hb : IsB H vb lb) (hl : la.length < 2 ^ 36) :
    Run (Cx ext) 25 [va, vb] H fun r H' => AL.Ext H H' ∧ ∃ id, H.n ≤ id ∧ IsM H' r (ofN la.length (val la + val lb)) id :=
  add_raw hx (fun k _ => val_bit lb k) ha hb hl
/-- The number of the first n bits turned over. -/
theorem not_bits (n : Nat) (l : List Bool) : ∀ k, k < n → (2 ^ n - 1 - val l % 2 ^ n).testBit k = !bx l k := by
  intro k hk
  have h := Nat.testBit_two_pow_sub_succ (Nat.mod_lt (val l) (Nat.two_pow_pos n)) k
  rw [show 2 ^ n - 1 - val l % 2 ^ n = 2 ^ n - (val l % 2 ^ n + 1) by omega, h, Nat.testBit_mod_two_pow, val_bit]
  simp [hk]
theorem sub_any (hx : Ext0 ext) {H : AH} {va vb : Value} {la lb : List Bool} (ha : IsB H va la) (hb : IsB H vb lb) (hl : la.length < 2 ^ 36) :
    Run (Cx ext) 27 [va, vb] H fun r H' => AL.Ext H H' ∧ ∃ id, H.n ≤ id ∧ IsM H' r (ofN la.length (val la + (2 ^ la.length - val lb % 2 ^ la.length))) id := by
  have h := sub_raw hx (not_bits la.length lb) ha hb hl
  have : val la + (2 ^ la.length - 1 - val lb % 2 ^ la.length) + true.toNat = val la + (2 ^ la.length - val lb % 2 ^ la.length) := by
    have := Nat.mod_lt (val lb) (Nat.two_pow_pos la.length)
    simp only [Bool.toNat_true]
    omega
  rw [this] at h
  exact h
end Go.Proofs.Yteeckncfllbokaa.X
