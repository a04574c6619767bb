/- Shifts to the right. -/
import Derived.Test.YteeckncfllbokaaXM
set_option linter.unusedSimpArgs false
set_option linter.unusedVariables false
namespace Go.Proofs.Yteeckncfllbokaa.X
open Go Go.AL
variable {ext : Nat → Option (List Value → AH → Option (Value × AH))}
/-- copy(out, a) for a fresh out that is not shorter. -/
theorem Ow.copyS {C : Ctx} {E : Env} {H : AH} {d : Option Nat} {g : Option (Nat × Bool)} {os : List IOper} {Q : Env → AH → List (Bool × Bool) → Prop} {x y : Operand} {v u : Value} {l o : List Bool} {id : Nat} (hg : wanted E g = some true) (hx : ev E x = some v) (hv : IsM H v o id) (hy : ev E y = some u) (hu : IsB H u l) (hle : l.length ≤ o.length)
    (h : ∀ H' b w, H'.n = H.n → (∀ j, j ≠ id → H'.t.get j = H.t.get j) → min H.wl id ≤ H'.wl → IsM H' v (l ++ o.drop l.length) id → Ow C os (put E d w) H' fun E' H'' fl => Q E' H'' ((true, b) :: fl)) : Ow C (⟨d, g, .copy 1 x y⟩ :: os) E H Q := by
  obtain ⟨a, uc, rfl, hrd⟩ := rdSlice_B hu
  have hv0 := hv
  obtain ⟨rfl, hid, hb⟩ := hv
  have hmin : Nat.min l.length o.length = l.length := Nat.min_eq_left hle
  by_cases hz : l = []
  · subst hz
    refine Ow.wop (v := .int .i64 0) (H1 := { H with wl := H.n }) (b := Nat.blt H.n H.n) hg rfl rfl ?_ rfl ?_
    · simp only [AL.hop, hx, hy, hmin]; rfl
    · refine h _ _ _ rfl (fun _ _ => rfl) ?_ ⟨by simp, hid, by simpa using hb⟩
      show min H.wl id ≤ min H.wl H.n
      omega
  · have hl0 : l.length ≠ 0 := fun e => hz (List.length_eq_zero_iff.1 e)
    have hput : putCells (o.map .bool) 0 (l.map .bool) = some ((l ++ o.drop l.length).map .bool) := by
      unfold putCells
      have : Nat.ble l.length o.length = true := Nat.ble_eq_true_of_le hle
      simp only [List.length_map, Nat.zero_add, this, cond_true, List.take_zero, List.nil_append, List.map_append, List.map_drop]
    refine Ow.wop (v := .int .i64 l.length) (H1 := ({ H with wl := H.n } : AH).write id ⟨(l ++ o.drop l.length).map .bool, 0⟩) (b := Nat.blt (min H.n id) H.n) hg rfl rfl ?_ rfl ?_
    · have e : rdSlice { H with wl := H.n } (l.length * 1) a = some (l.map .bool) := hrd
      simp only [AL.hop, hx, hy, hmin, beq_zero hl0, cond_false, e, hb, all_bools, hput, Bool.not_true, Bool.or_false, show Nat.beq 0 1 = false from rfl]
    · refine h _ _ _ rfl (fun j hj => ?_) ?_ ⟨?_, hid, ?_⟩
      · show (H.t.set id _).get j = _
        rw [T.get_set_ne _ _ hj]
      · show min H.wl id ≤ min H.wl (min H.n id)
        omega
      · have : (l ++ o.drop l.length).length = o.length := by simp; omega
        rw [this]
      · show (H.t.set id _).get id = _
        rw [T.get_set_self]
/-- The vector in right's loop. -/
def shrk (la : List Bool) (s k : Nat) (fill : Bool) : List Bool := (List.range la.length).map fun i => if i + s < la.length then bx la (i + s) else (decide (la.length ≤ i + k) && fill)
theorem shrk_length (la : List Bool) (s k : Nat) (fill : Bool) : (shrk la s k fill).length = la.length := by simp [shrk]
theorem shrk_zero {la : List Bool} {s : Nat} {fill : Bool} (hs : s ≤ la.length) : la.drop s ++ (List.replicate la.length false).drop (la.drop s).length = shrk la s 0 fill := by
  refine ext_bits (by simp [shrk_length] <;> omega) (fun i hi => ?_)
  have hi' : i < la.length := by simp at hi; omega
  have e : bx (shrk la s 0 fill) i = if i + s < la.length then bx la (i + s) else (decide (la.length ≤ i + 0) && fill) := by
    simp [bx, shrk, List.getD_eq_getElem?_getD, hi']
  rw [e]
  simp only [bx, List.getD_eq_getElem?_getD]
  by_cases h : i + s < la.length
  · rw [List.getElem?_append_left (by simp; omega), List.getElem?_drop, if_pos h, Nat.add_comm s i]
  · rw [List.getElem?_append_right (by simp; omega), if_neg h]
    have : decide (la.length ≤ i + 0) = false := decide_eq_false (by omega)
    rw [this, Bool.false_and, List.getElem?_drop, List.getElem?_replicate]
    split <;> rfl
theorem shrk_set {la : List Bool} {s k : Nat} {fill : Bool} (hs : s ≤ la.length) (hk : k < s) : (shrk la s k fill).set (la.length - 1 - k) fill = shrk la s (k + 1) fill := by
  apply List.ext_getElem?
  intro i
  rw [List.getElem?_set]
  by_cases hik : la.length - 1 - k = i
  · rw [if_pos hik, if_pos (by rw [shrk_length]; omega)]
    have hi : i < la.length := by omega
    simp [shrk, hi, show ¬ i + s < la.length by omega, show la.length ≤ i + (k + 1) by omega]
  · rw [if_neg hik]
    by_cases hi : i < la.length
    · have : (la.length ≤ i + k) ↔ (la.length ≤ i + (k + 1)) := by omega
      simp only [shrk, List.getElem?_map, List.getElem?_range hi, Option.map_some, this]
    · simp [shrk, hi]
/-- What right answers. -/
def shrF (la : List Bool) (s : Nat) (fill : Bool) : List Bool := (List.range la.length).map fun i => if i + s < la.length then bx la (i + s) else fill
theorem shrF_length (la : List Bool) (s : Nat) (fill : Bool) : (shrF la s fill).length = la.length := by simp [shrF]
theorem shrk_full (la : List Bool) (s : Nat) (fill : Bool) : shrk la s s fill = shrF la s fill := by
  refine List.map_congr_left fun i _ => ?_
  by_cases h : i + s < la.length
  · simp [h]
  · simp [h, show la.length ≤ i + s by omega]
theorem shrF_min (la : List Bool) (s : Nat) (fill : Bool) : shrF la (min s la.length) fill = shrF la s fill := by
  refine List.map_congr_left fun i hi => ?_
  have hi := List.mem_range.1 hi
  by_cases h : i + s < la.length
  · rw [show min s la.length = s by omega]
  · rw [if_neg h, if_neg (by omega)]
/-- right -/
theorem right_any (hx : Ext0 ext) {H : AH} {va : Value} {la : List Bool} {n : Int} {fill : Bool} (ha : IsB H va la) (hl : la.length < 2 ^ 36) :
    Run (Cx ext) 63 [va, .int .i64 n, .bool fill] H fun r H' => AL.Ext H H' ∧ ∃ id, H.n ≤ id ∧ IsM H' r (shrF la n.toNat fill) id := by
  refine Run.intro (fi := IR.fi63) (hx 63 (by decide)) (by kernel_rfl) ?_
  unfold IR.fi63
  simp only [envOf_cons, envOf_nil]
  obtain ⟨aa, ca, ea⟩ := ha.shape
  subst ea
  refine Cw.seq (Cw.region ?_)
  (refine Ow.popM rfl ?_; simp only [S0, Nat.reduceEqDiff, Nat.reduceAdd, reduceIte, reduceCtorEq])
  refine Ow.nilM ⟨nofun, ?_⟩
  refine Cw.seq (Cw.region ?_)
  iterate 2 (refine Ow.popM rfl ?_; simp only [S0, Nat.reduceEqDiff, Nat.reduceAdd, reduceIte, reduceCtorEq])
  refine Ow.makeB (k := .i64) (n := la.length) rfl (by simp only [S0, Nat.reduceEqDiff, Nat.reduceAdd, reduceIte, reduceCtorEq]) (by omega) ?_
  have hx1 := (AL.Ext.refl H).new (⟨(List.replicate la.length false).map .bool, 0⟩ : Blk)
  have hM : IsM (H.new ⟨(List.replicate la.length false).map .bool, 0⟩) (.slice (some ⟨H.n, 0, none⟩) la.length la.length) (List.replicate la.length false) H.n := ⟨by rw [List.length_replicate], Nat.lt_succ_self _, T.get_set_self _ _ _⟩
  have ha1 := ha.ext hx1
  (refine Ow.popM rfl ?_; simp only [S0, Nat.reduceEqDiff, Nat.reduceAdd, reduceIte, reduceCtorEq])
  refine Ow.nilM ⟨nofun, ?_⟩
  refine Cw.seq (Cw.region ?_)
  iterate 6 (refine Ow.popM rfl ?_; simp only [S0, Nat.reduceEqDiff, Nat.reduceAdd, reduceIte, reduceCtorEq, AL.foldV, amax2, amin2, max0, min_nat])
  refine Ow.nilM ⟨nofun, ?_⟩
  have hs : min n.toNat la.length ≤ la.length := Nat.min_le_right _ _
  have hfin := shrF_min la n.toNat fill
  generalize min n.toNat la.length = s at *
  refine Cw.seq (Cw.region ?_)
  iterate 3 (refine Ow.popM rfl ?_; simp only [S0, Nat.reduceEqDiff, Nat.reduceAdd, reduceIte, reduceCtorEq])
  obtain ⟨v', hv', hcut⟩ := cut_lo ha1 hs
  (refine Ow.popM rfl ?_; simp only [S0, Nat.reduceEqDiff, Nat.reduceAdd, reduceIte, reduceCtorEq, evo, hv', show Nat.beq 1 0 = false from rfl])
  refine Ow.copyS rfl (by simp only [S0, Nat.reduceEqDiff, Nat.reduceAdd, reduceIte, reduceCtorEq]) hM (by simp only [S0, Nat.reduceEqDiff, Nat.reduceAdd, reduceIte, reduceCtorEq]) hcut (by simp) ?_
  intro H2 b w hn2 hg2 hw2 hM2
  rw [shrk_zero (fill := fill) hs] at hM2
  have hn2' : H2.n = H.n + 1 := hn2
  have hx2 : AL.Ext H H2 := ⟨by omega, fun i hi => by rw [hg2 i (by omega)]; exact hx1.get i hi, by
    have : min H.wl H.n ≤ H2.wl := hw2
    exact this⟩
  refine Ow.nilM ⟨nofun, ?_⟩
  refine Cw.seq (Cw.seq (Cw.region ?_))
  iterate 2 (refine Ow.popM rfl ?_; simp only [S0, Nat.reduceEqDiff, Nat.reduceAdd, reduceIte, reduceCtorEq])
  refine Ow.nilM ⟨nofun, ?_⟩
  refine Cw.block (Cw.loopI s (fun k E H3 => (E.get 0 = some (.slice aa la.length ca) ∧ E.get 2 = some (.bool fill) ∧ E.get 7 = some (.slice (some ⟨H.n, 0, none⟩) la.length la.length) ∧ E.get 22 = some (.int .i64 (s : Int)) ∧ E.get 23 = some (.int .i64 (k : Int))) ∧ AL.Ext H H3 ∧ IsM H3 (.slice (some ⟨H.n, 0, none⟩) la.length la.length) (shrk la s k fill) H.n) ⟨?_, hx2, hM2⟩ ?_)
  · simp only [S0, Nat.reduceEqDiff, Nat.reduceAdd, reduceIte, reduceCtorEq]; exact ⟨trivial, trivial, trivial, trivial, rfl⟩
  rintro k E H3 hk ⟨⟨e0, e2, e7, e22, e23⟩, hxt, hm⟩
  refine Cw.seq (Cw.region ?_)
  by_cases hlt : k < s
  · (refine Ow.popM rfl ?_; simp only [S0, Nat.reduceEqDiff, Nat.reduceAdd, reduceIte, reduceCtorEq, e22, e23, lt_true hlt])
    refine Ow.nilM ⟨nofun, ?_⟩
    refine Cw.seq (Cw.cond (t := true) (by simp only [S0, Nat.reduceEqDiff, Nat.reduceAdd, reduceIte, reduceCtorEq]) ?_)
    refine Cw.skip ?_
    refine Cw.seq (Cw.block (Cw.seq (Cw.region ?_)))
    iterate 2 (refine Ow.popM rfl ?_; simp only [S0, Nat.reduceEqDiff, Nat.reduceAdd, reduceIte, reduceCtorEq, e23])
    refine Ow.nilM ⟨nofun, ?_⟩
    refine Cw.region ?_
    have i1 : fwrap .i64 ((la.length : Int) - 1) = ((la.length - 1 : Nat) : Int) := by rw [fw_int (by omega) (by omega)]; omega
    have i2 : fwrap .i64 (((la.length - 1 : Nat) : Int) - (k : Int)) = ((la.length - 1 - k : Nat) : Int) := by rw [fw_int (by omega) (by omega)]; omega
    iterate 8 (refine Ow.popM rfl ?_; simp only [S0, Nat.reduceEqDiff, Nat.reduceAdd, reduceIte, reduceCtorEq, e0, e2, e7, i1, i2, ix_ok (show la.length - 1 - k < la.length by omega)])
    obtain ⟨q1, q2, q3⟩ := hm
    refine Ow.store1 (b := Nat.blt (min H3.n H.n) H3.n) (ad := ⟨H.n, la.length - 1 - k, none⟩) (v := .bool fill) rfl (by simp only [S0, Nat.reduceEqDiff, Nat.reduceAdd, reduceIte, reduceCtorEq]) (by simp only [S0, Nat.reduceEqDiff, Nat.reduceAdd, reduceIte, reduceCtorEq]) rfl rfl q3 (by simp) (by simp [shrk_length]; omega) rfl ?_
    intro wl hwl
    refine Ow.nil ⟨nofun, ?_⟩
    show Cw _ _ _ _ _
    refine Cw.region ?_
    iterate 2 (refine Ow.popM rfl ?_; simp only [S0, Nat.reduceEqDiff, Nat.reduceAdd, reduceIte, reduceCtorEq, e23, fw_succ (show k < 2 ^ 62 by omega)])
    refine Ow.nilM ⟨nofun, hlt, ?_, ⟨?_, ?_, ?_⟩, ?_, q2, ?_⟩
    · simp only [S0, Nat.reduceEqDiff, Nat.reduceAdd, reduceIte, reduceCtorEq, e0, e2, e7, e22, and_self]
    · exact hxt.n
    · intro i hi
      show (H3.t.set H.n _).get i = _
      rw [T.get_set_ne _ _ (by omega)]; exact hxt.get i hi
    · show _ ≤ wl
      have := hxt.wl
      have := hxt.n
      rw [hwl]
      show min H.wl H.n ≤ min H3.wl (min H3.n H.n)
      omega
    · rw [shrk_length]
    · show (H3.t.set H.n _).get H.n = _
      rw [T.get_set_self, ← shrk_set hs hlt, List.map_set]
  · obtain rfl : k = s := by omega
    (refine Ow.popM rfl ?_; simp only [S0, Nat.reduceEqDiff, Nat.reduceAdd, reduceIte, reduceCtorEq, e22, e23, lt_false (Nat.lt_irrefl k)])
    refine Ow.nilM ⟨nofun, ?_⟩
    refine Cw.seq (Cw.cond (t := false) (by simp only [S0, Nat.reduceEqDiff, Nat.reduceAdd, reduceIte, reduceCtorEq]) ?_)
    refine Cw.exit ?_
    show Cw _ _ _ _ _
    refine Cw.seq (Cw.region ?_)
    iterate 2 (refine Ow.popM rfl ?_; simp only [S0, Nat.reduceEqDiff, Nat.reduceAdd, reduceIte, reduceCtorEq, e7])
    refine Ow.nilM ⟨nofun, ?_⟩
    refine Cw.ret ?_
    simp only [Then, InBlock, Rnd, FnPost, resOf, tupled, S0, Nat.reduceEqDiff, Nat.reduceAdd, reduceIte, reduceCtorEq]
    rw [shrk_full, hfin] at hm
    exact ⟨hxt, H.n, Nat.le_refl _, hm⟩
theorem shr_any (hx : Ext0 ext) {H : AH} {va : Value} {la : List Bool} {n : Int} (ha : IsB H va la) (hl : la.length < 2 ^ 36) :
    Run (Cx ext) 35 [va, .int .i64 n] H fun r H' => AL.Ext H H' ∧ ∃ id, H.n ≤ id ∧ IsM H' r (shrF la n.toNat false) id := by
  refine Run.intro (fi := IR.fi35) (hx 35 (by decide)) (by kernel_rfl) ?_
  unfold IR.fi35
  simp only [envOf_cons, envOf_nil]
  refine Cw.seq (Cw.region ?_)
  (refine Ow.popM rfl ?_; simp only [S0, Nat.reduceEqDiff, Nat.reduceAdd, reduceIte, reduceCtorEq])
  refine Ow.nilM ⟨nofun, ?_⟩
  refine Cw.seq (Cw.region ?_)
  iterate 2 (refine Ow.popM rfl ?_; simp only [S0, Nat.reduceEqDiff, Nat.reduceAdd, reduceIte, reduceCtorEq])
  refine Ow.callE (k := 63) (fs := []) (cs := []) (vs := [va, .int .i64 n, .bool false]) rfl rfl (by simp only [S0, Nat.reduceEqDiff, Nat.reduceAdd, reduceIte, reduceCtorEq]) (right_any hx ha.wl hl) ?_
  rintro v H1 w1 hx1 ⟨id, hid, hv⟩
  (refine Ow.popM rfl ?_; simp only [S0, Nat.reduceEqDiff, Nat.reduceAdd, reduceIte, reduceCtorEq])
  refine Ow.nilM ⟨nofun, ?_⟩
  refine Cw.ret ?_
  simp only [Then, InBlock, Rnd, FnPost, resOf, tupled, S0, Nat.reduceEqDiff, Nat.reduceAdd, reduceIte, reduceCtorEq]
  exact ⟨hx1, id, hid, hv⟩
theorem sar_any (hx : Ext0 ext) {H : AH} {va : Value} {la : List Bool} {n : Int} (ha : IsB H va la) (hl : la.length < 2 ^ 36) :
    Run (Cx ext) 36 [va, .int .i64 n] H fun r H' => AL.Ext H H' ∧ ∃ id, H.n ≤ id ∧ IsM H' r (shrF la n.toNat (bx la (la.length - 1))) id := by
  refine Run.intro (fi := IR.fi36) (hx 36 (by decide)) (by kernel_rfl) ?_
  unfold IR.fi36
  simp only [envOf_cons, envOf_nil]
  refine Cw.seq (Cw.region ?_)
  (refine Ow.popM rfl ?_; simp only [S0, Nat.reduceEqDiff, Nat.reduceAdd, reduceIte, reduceCtorEq])
  refine Ow.nilM ⟨nofun, ?_⟩
  refine Cw.seq (Cw.region ?_)
  iterate 3 (refine Ow.popM rfl ?_; simp only [S0, Nat.reduceEqDiff, Nat.reduceAdd, reduceIte, reduceCtorEq])
  refine Ow.callP (k := 57) (vs := [va]) rfl rfl (by simp only [S0, Nat.reduceEqDiff, Nat.reduceAdd, reduceIte, reduceCtorEq]) (negative_any hx ha.wl hl) ?_
  intro w0 hx0
  refine Ow.callE (k := 63) (fs := []) (cs := []) (vs := [va, .int .i64 n, .bool (bx la (la.length - 1))]) rfl rfl (by simp only [S0, Nat.reduceEqDiff, Nat.reduceAdd, reduceIte, reduceCtorEq]) (right_any hx (ha.ext hx0).wl hl) ?_
  rintro v H1 w1 hx1 ⟨id, hid, hv⟩
  (refine Ow.popM rfl ?_; simp only [S0, Nat.reduceEqDiff, Nat.reduceAdd, reduceIte, reduceCtorEq])
  refine Ow.nilM ⟨nofun, ?_⟩
  refine Cw.ret ?_
  simp only [Then, InBlock, Rnd, FnPost, resOf, tupled, S0, Nat.reduceEqDiff, Nat.reduceAdd, reduceIte, reduceCtorEq]
  exact ⟨hx0.trans hx1, id, hid, hv⟩
end Go.Proofs.Yteeckncfllbokaa.X
