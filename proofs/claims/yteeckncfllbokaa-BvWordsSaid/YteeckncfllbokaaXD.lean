/- Shl; the vectors of integers. -/
import Derived.Test.YteeckncfllbokaaXC
set_option linter.unusedSimpArgs false
set_option linter.unusedVariables false
namespace Go.Proofs.Yteeckncfllbokaa.X
open Go Go.AL
variable {ext : Nat → Option (List Value → AH → Option (Value × AH))}
section
variable {C : Ctx} {E : Env} {H : AH} {d : Option Nat} {g : Option (Nat × Bool)} {os : List IOper} {Q : Env → AH → List (Bool × Bool) → Prop}
/-- copy(out[k:], a) for a fresh out of a's length. -/
theorem Ow.copyB {x y : Operand} {u : Value} {l o : List Bool} {id k m cap : Nat} (hg : wanted E g = some true) (hx : ev E x = some (.slice (some ⟨id, k, none⟩) m cap)) (hy : ev E y = some u) (hu : IsB H u l) (hm : k + m ≤ o.length)
    (hid : id < H.n) (hb : H.t.get id = some ⟨o.map .bool, 0⟩) (hml : m ≤ l.length) (hm0 : 0 < m)
    (h : ∀ wl v, min H.wl id = wl → Ow C os (put E d v) { (H.write id ⟨(o.take k ++ (l.take m ++ o.drop (k + m))).map .bool, 0⟩) with wl := wl } fun E' H' fl => Q E' H' ((true, true) :: fl)) : Ow C (⟨d, g, .copy 1 x y⟩ :: os) E H Q := by
  obtain ⟨a, uc, rfl, _, h2⟩ := hu
  obtain ⟨ad, bk, rfl, h4, h5, h6⟩ := h2 (by rintro rfl; simp at hml; omega)
  have hmin : min H.n id = id := Nat.min_eq_right (Nat.le_of_lt hid)
  refine Ow.wop (v := .int .i64 m) (H1 := ({ H with wl := H.n } : AH).write id ⟨(o.take k ++ (l.take m ++ o.drop (k + m))).map .bool, 0⟩) (b := true) hg rfl rfl ?_ ?_ (h _ _ ?_)
  · have hmin : Nat.min l.length m = m := Nat.min_eq_right hml
    have hz : m.beq 0 = false := beq_zero (by omega)
    have hrd : rdSlice { H with wl := H.n } (m * 1) (some ad) = some ((l.take m).map .bool) := by
      rw [Nat.mul_one]
      simp only [rdSlice, hz, cond_false, h5]
      have := takeCells_eq (cs := bk.cells) (off := ad.off) (l := (l.take m).map .bool) (fun i hi => by
        rw [List.length_map, List.length_take, Nat.min_eq_left hml] at hi
        rw [h6 i _ (List.getElem?_eq_getElem (by omega : i < l.length)), List.getElem?_map, List.getElem?_take, if_pos hi, List.getElem?_eq_getElem (by omega : i < l.length)]; rfl)
      rwa [List.length_map, List.length_take, Nat.min_eq_left hml] at this
    have hput : putCells (o.map .bool) k ((l.take m).map .bool) = some ((o.take k ++ (l.take m ++ o.drop (k + m))).map .bool) := by
      unfold putCells
      have : Nat.ble (k + m) o.length = true := Nat.ble_eq_true_of_le hm
      simp only [List.length_map, List.length_take, Nat.min_eq_left hml, this, cond_true, List.map_append, List.map_take, List.map_drop]
    simp only [AL.hop, hx, hy, hmin, hz, cond_false, hrd, hb, all_bools, hput, Bool.not_true, Bool.or_false, show Nat.beq 0 1 = false from rfl]
  · show Nat.blt (min H.n id) H.n = true
    rw [hmin]; exact Nat.ble_eq_true_of_le hid
  · show min H.wl id = min H.wl (min H.n id)
    rw [hmin]
end
theorem shl_list {n k : Nat} {l : List Bool} (hl : l.length = n) (hk : k < n) : (List.replicate n false).take k ++ (l.take (n - k) ++ (List.replicate n false).drop (k + (n - k))) = ofN n (val l * 2 ^ k) := by
  have e : k + (n - k) = n := by omega
  rw [e]
  refine ext_bits ?_ (fun i hi => ?_)
  · simp [ofN_length]; omega
  · have hi' : i < n := by simpa [show min k n = k by omega, show min (n - k) l.length = n - k by omega, show k + (n - k) = n by omega] using hi
    rw [bx_ofN, Nat.testBit_mul_two_pow, val_bit]
    simp only [hi', decide_true, Bool.true_and, bx, List.getD_eq_getElem?_getD]
    simp only [List.take_replicate, Nat.min_eq_left (Nat.le_of_lt hk), List.drop_replicate, Nat.sub_self, List.replicate_zero, List.append_nil]
    by_cases hik : i < k
    · rw [List.getElem?_append_left (by simpa using hik)]
      simp [hik, show ¬ k ≤ i by omega]
    · rw [List.getElem?_append_right (by simpa using hik), List.length_replicate, List.getElem?_take, if_pos (by omega)]
      simp [show k ≤ i by omega]
theorem big_zero (n k x : Nat) (h : n ≤ k) : List.replicate n false = ofN n (x * 2 ^ k) := by
  refine ext_bits (by simp [ofN_length]) (fun i hi => ?_)
  rw [List.length_replicate] at hi
  rw [bx_ofN, Nat.testBit_mul_two_pow]
  simp [bx, List.getD_eq_getElem?_getD, hi, show ¬ k ≤ i by omega]
theorem max0 (n : Int) : (if (0 : Int) > n then (0 : Int) else n) = (n.toNat : Int) := by split <;> omega
/-- bv.Shl -/
theorem shl_any (hx : Ext0 ext) {H : AH} {v : Value} {l : List Bool} {n : Int} (hv : IsB H v l) (hl : l.length < 2 ^ 36) :
    Run (Cx ext) 34 [v, .int .i64 n] H fun r H' => AL.Ext H H' ∧ ∃ id, H.n ≤ id ∧ IsM H' r (ofN l.length (val l * 2 ^ n.toNat)) id := by
  refine Run.intro (fi := IR.fi34) (hx 34 (by decide)) (by kernel_rfl) ?_
  unfold IR.fi34
  simp only [envOf_cons, envOf_nil]
  obtain ⟨aa, ca, ea⟩ := hv.shape
  subst ea
  refine Cw.seq (Cw.region ?_)
  (refine Ow.popM rfl ?_; simp only [S0, Nat.reduceEqDiff, Nat.reduceAdd, reduceIte, reduceCtorEq])
  refine Ow.nilM ⟨nofun, ?_⟩
  refine Cw.seq (Cw.region ?_)
  iterate 2 (refine Ow.popM rfl ?_; simp only [S0, Nat.reduceEqDiff, Nat.reduceAdd, reduceIte, reduceCtorEq])
  refine Ow.makeB (k := .i64) (n := l.length) rfl (by simp only [S0, Nat.reduceEqDiff, Nat.reduceAdd, reduceIte, reduceCtorEq]) (by omega) ?_
  (refine Ow.popM rfl ?_; simp only [S0, Nat.reduceEqDiff, Nat.reduceAdd, reduceIte, reduceCtorEq])
  refine Ow.nilM ⟨nofun, ?_⟩
  have hx1 : AL.Ext H (H.new ⟨(List.replicate l.length false).map .bool, 0⟩) := (AL.Ext.refl H).new _
  refine Cw.seq (Cw.seq (Cw.region ?_))
  iterate 3 (refine Ow.popM rfl ?_; simp only [S0, Nat.reduceEqDiff, Nat.reduceAdd, reduceIte, reduceCtorEq, AL.foldV, amax2, max0])
  refine Ow.nilM ⟨nofun, ?_⟩
  refine Cw.seq (Cw.region ?_)
  iterate 3 (refine Ow.popM rfl ?_; simp only [S0, Nat.reduceEqDiff, Nat.reduceAdd, reduceIte, reduceCtorEq])
  by_cases hlt : n.toNat < l.length
  · (refine Ow.popM rfl ?_; simp only [S0, Nat.reduceEqDiff, Nat.reduceAdd, reduceIte, reduceCtorEq, lt_true hlt])
    refine Ow.nilM ⟨nofun, ?_⟩
    refine Cw.cond (t := true) (by simp only [S0, Nat.reduceEqDiff, Nat.reduceAdd, reduceIte, reduceCtorEq]) ?_
    refine Cw.region ?_
    iterate 2 (refine Ow.popM rfl ?_; simp only [S0, Nat.reduceEqDiff, Nat.reduceAdd, reduceIte, reduceCtorEq])
    have hls : AL.pop (put (put (put (put (put (put .nil (some 1) (.int .i64 n)) (some 0) (.slice aa l.length ca)) (some 4) (.slice none 0 0)) (some 5) (.slice (some ⟨H.n, 0, none⟩) l.length l.length)) (some 1) (.int .i64 (n.toNat : Int))) (some 16) (.int .i64 (n.toNat : Int))) (.mov (.tmp 16)) = some (.int .i64 (n.toNat : Int)) := by simp only [S0, Nat.reduceEqDiff, Nat.reduceAdd, reduceIte, reduceCtorEq]
    have e1 : (0 : Int) ≤ (n.toNat : Int) ∧ (n.toNat : Int) ≤ (l.length : Int) := by omega
    have e2 : l.length.beq UC = false := by
      cases hq : l.length.beq UC with
      | false => rfl
      | true => have := Nat.eq_of_beq_eq_true hq; unfold UC at this; omega
    have e3 : l.length.beq n.toNat = false := by
      cases hq : l.length.beq n.toNat with
      | false => rfl
      | true => have := Nat.eq_of_beq_eq_true hq; omega
    (refine Ow.popM rfl ?_; simp only [S0, Nat.reduceEqDiff, Nat.reduceAdd, reduceIte, reduceCtorEq, evo, aslice, optNat, asNat, e1, e2, e3, and_self, Option.map_some, show Nat.beq 1 0 = false from rfl])
    (refine Ow.popM rfl ?_; simp only [S0, Nat.reduceEqDiff, Nat.reduceAdd, reduceIte, reduceCtorEq])
    refine Ow.copyB (id := H.n) (k := n.toNat) (m := l.length - n.toNat) (cap := l.length - n.toNat) (o := List.replicate l.length false) rfl (by simp only [S0, Nat.reduceEqDiff, Nat.reduceAdd, reduceIte, reduceCtorEq]) (by simp only [S0, Nat.reduceEqDiff, Nat.reduceAdd, reduceIte, reduceCtorEq]) (hv.ext hx1) (by simp; omega) (Nat.lt_succ_self _) (T.get_set_self _ _ _) (by omega) (by omega) ?_
    intro wl w hwl
    refine Ow.nilM ⟨nofun, ?_⟩
    show Cw _ _ _ _ _
    refine Cw.seq (Cw.region ?_)
    iterate 2 (refine Ow.popM rfl ?_; simp only [S0, Nat.reduceEqDiff, Nat.reduceAdd, reduceIte, reduceCtorEq])
    refine Ow.nilM ⟨nofun, ?_⟩
    refine Cw.ret ?_
    simp only [Then, InBlock, Rnd, FnPost, resOf, tupled, S0, Nat.reduceEqDiff, Nat.reduceAdd, reduceIte, reduceCtorEq]
    refine ⟨⟨Nat.le_succ _, fun i hi => ?_, ?_⟩, H.n, Nat.le_refl _, by rw [ofN_length], Nat.lt_succ_self _, ?_⟩
    · show ((H.t.set H.n _).set H.n _).get i = _
      rw [T.get_set_ne _ _ (by omega), T.get_set_ne _ _ (by omega)]
    · show min H.wl H.n ≤ wl
      rw [← hwl]; exact Nat.le_refl _
    · show ((H.t.set H.n _).set H.n _).get H.n = _
      rw [T.get_set_self, shl_list rfl hlt]
  · (refine Ow.popM rfl ?_; simp only [S0, Nat.reduceEqDiff, Nat.reduceAdd, reduceIte, reduceCtorEq, lt_false hlt])
    refine Ow.nilM ⟨nofun, ?_⟩
    refine Cw.cond (t := false) (by simp only [S0, Nat.reduceEqDiff, Nat.reduceAdd, reduceIte, reduceCtorEq]) ?_
    refine Cw.skip ?_
    show Cw _ _ _ _ _
    refine Cw.seq (Cw.region ?_)
    iterate 2 (refine Ow.popM rfl ?_; simp only [S0, Nat.reduceEqDiff, Nat.reduceAdd, reduceIte, reduceCtorEq])
    refine Ow.nilM ⟨nofun, ?_⟩
    refine Cw.ret ?_
    simp only [Then, InBlock, Rnd, FnPost, resOf, tupled, S0, Nat.reduceEqDiff, Nat.reduceAdd, reduceIte, reduceCtorEq]
    refine ⟨hx1, H.n, Nat.le_refl _, by rw [ofN_length], Nat.lt_succ_self _, ?_⟩
    rw [← big_zero _ _ _ (by omega)]
    exact T.get_set_self _ _ _
end Go.Proofs.Yteeckncfllbokaa.X
