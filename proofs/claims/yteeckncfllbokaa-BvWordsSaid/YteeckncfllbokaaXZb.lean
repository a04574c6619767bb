/- Overwriting; what is trimmed; comparing bit by bit. -/
import Derived.Test.YteeckncfllbokaaXZa
set_option linter.unusedSimpArgs false
set_option linter.unusedVariables false
namespace Go.Proofs.Yteeckncfllbokaa.X
open Go Go.AL
variable {ext : Nat → Option (List Value → AH → Option (Value × AH))}
/-- Trim, in short. -/
theorem trim_L (hx : Ext0 ext) {H : AH} {v : Value} {l : List Bool} (hv : IsB H v l) (hl : l.length < 2 ^ 35) :
    Run (Cx ext) 53 [v] H fun r H' => AL.Ext H H' ∧ ∃ m, IsR H H' r m ∧ val m = val l ∧ m.length ≤ l.length ∧ (m.length = 0 ∨ 2 ^ (m.length - 1) ≤ val m) := by
  refine (trim_any hx hv hl).mono ?_
  rintro r H' ⟨he, n, hn, hr, h1, h2⟩
  have e : val (ofN n (val l)) = val l := val_pos' _ _ h1
  exact ⟨he, ofN n (val l), hr, e, by rw [ofN_length]; exact hn, by rw [ofN_length, e]; exact h2⟩
theorem shorter_lt {l m : List Bool} (h : l.length < m.length) (hm : m.length = 0 ∨ 2 ^ (m.length - 1) ≤ val m) : val l < val m := by
  have h1 := val_lt l
  rcases hm with h2 | h2
  · omega
  · have : 2 ^ l.length ≤ 2 ^ (m.length - 1) := Nat.pow_le_pow_right (by decide) (by omega)
    omega
theorem div_same {X Y j : Nat} (h : X / 2 ^ (j + 1) = Y / 2 ^ (j + 1)) (hb : (X.testBit j != Y.testBit j) = false) : X / 2 ^ j = Y / 2 ^ j := by
  rw [div_step X j, div_step Y j, h, bne_eq_false_iff_eq.1 hb]
theorem div_less {X Y j : Nat} (h : X / 2 ^ (j + 1) = Y / 2 ^ (j + 1)) (hb : (X.testBit j != Y.testBit j) = true) (hy : Y.testBit j = true) : X < Y := by
  refine div_lt (j := j) ?_
  rw [div_step X j, div_step Y j, h, hy]
  rw [hy] at hb
  cases hx : X.testBit j with
  | true => rw [hx] at hb; cases hb
  | false => simp
theorem div_more {X Y j : Nat} (h : X / 2 ^ (j + 1) = Y / 2 ^ (j + 1)) (hb : (X.testBit j != Y.testBit j) = true) (hy : Y.testBit j = false) : Y < X := by
  refine div_lt (j := j) ?_
  rw [div_step X j, div_step Y j, h, hy]
  rw [hy] at hb
  cases hx : X.testBit j with
  | false => rw [hx] at hb; cases hb
  | true => simp
theorem cmp_lt {A B : Nat} (h : A < B) : cmpN A B = -1 := if_pos h
theorem cmp_gt {A B : Nat} (h : B < A) : cmpN A B = 1 := by unfold cmpN; rw [if_neg (by omega), if_neg (by omega)]
theorem cmp_same {A B : Nat} (h : A = B) : cmpN A B = 0 := by unfold cmpN; rw [if_neg (by omega), if_pos h]
/-- vs are slices of bools, behind H0, that may be overwritten. -/
def Spo (H0 H : AH) (vs : List Value) : Prop := ∀ v, v ∈ vs → v = .slice none 0 0 ∨ ∃ id off n cap bk, v = .slice (some ⟨id, off, none⟩) n cap ∧ H0.n ≤ id ∧ id < H.n ∧ H.t.get id = some bk ∧ bk.kind ≠ 1 ∧ off + n ≤ bk.cells.length ∧ n < 2 ^ 62 ∧ ∀ c ∈ bk.cells, ∃ b, c = .bool b
theorem Spo.nil (H0 H : AH) : Spo H0 H [] := fun v h => absurd h (by simp)
theorem Spo.cons {H0 H : AH} {v : Value} {l : List Bool} {vs : List Value} (h : IsR H0 H v l) (hl : l.length < 2 ^ 62) (hs : Spo H0 H vs) : Spo H0 H (v :: vs) := by
  intro w hw
  rcases List.mem_cons.1 hw with rfl | hw
  · rcases h with ⟨h, _⟩ | ⟨id, off, cap, bk, h, _, h1, h2, h3, h4, h5, _, h6⟩
    · exact .inl h
    · exact .inr ⟨id, off, _, cap, bk, h, h1, h2, h3, h4, h5, hl, h6⟩
  · exact hs w hw
/-- spoil -/
theorem spoil_any (hx : Ext0 ext) {H0 H : AH} {id : Nat} {vs : List Value} (h0 : AL.Ext H0 H) (hid : H0.n ≤ id) (hb : H.t.get id = some ⟨vs, 0⟩) (hne : ∀ v ∈ vs, ∀ a n c, v = .slice (some a) n c → a.block ≠ id) (hlen : vs.length < 2 ^ 36) (hs : Spo H0 H vs) :
    Run (Cx ext) 21 [.slice (some ⟨id, 0, none⟩) vs.length vs.length] H fun r H' => AL.Ext H0 H' := by
  refine Run.intro (fi := IR.fi21) (hx 21 (by decide)) (by kernel_rfl) ?_
  unfold IR.fi21
  simp only [envOf_cons, envOf_nil]
  refine Cw.seq (Cw.region ?_)
  (refine Ow.popM rfl ?_; simp only [S0, Nat.reduceEqDiff, Nat.reduceAdd, reduceIte, reduceCtorEq])
  refine Ow.nilM ⟨nofun, ?_⟩
  show Cw _ _ _ _ _
  refine Cw.block (Cw.loopI vs.length (fun k E H2 => (E.get 0 = some (.slice (some ⟨id, 0, none⟩) vs.length vs.length) ∧ E.get 2 = some (.int .i64 (k : Int))) ∧ AL.Ext H0 H2 ∧ H2.t.get id = some ⟨vs, 0⟩ ∧ Spo H0 H2 vs) ⟨?_, h0, hb, hs⟩ ?_)
  · simp only [S0, Nat.reduceEqDiff, Nat.reduceAdd, reduceIte, reduceCtorEq]; exact ⟨trivial, rfl⟩
  rintro k E H2 hk ⟨⟨e0, e2⟩, hx2, hb2, hs2⟩
  refine Cw.seq (Cw.seq (Cw.region ?_))
  by_cases hlt : k < vs.length
  · iterate 4 (refine Ow.popM rfl ?_; simp only [S0, Nat.reduceEqDiff, Nat.reduceAdd, reduceIte, reduceCtorEq, e0, e2, lt_true hlt])
    refine Ow.nilM ⟨nofun, ?_⟩
    refine Cw.cond (t := true) (by simp only [S0, Nat.reduceEqDiff, Nat.reduceAdd, reduceIte, reduceCtorEq]) ?_
    refine Cw.skip ?_
    show Cw _ _ _ _ _
    have hget : vs[k]? = some vs[k] := List.getElem?_eq_getElem hlt
    have hmem : vs[k] ∈ vs := List.getElem_mem hlt
    generalize vs[k] = v at *
    obtain ⟨a, n, c, rfl⟩ : ∃ a n c, v = Value.slice a n c := by
      rcases hs2 v hmem with h | ⟨_, _, _, _, _, h, _⟩
      · exact ⟨_, _, _, h⟩
      · exact ⟨_, _, _, h⟩
    have hn : n < 2 ^ 62 := by
      rcases hs2 _ hmem with h | ⟨_, _, _, _, _, h, _, _, _, _, _, h8, _⟩
      · simp only [Value.slice.injEq] at h; omega
      · simp only [Value.slice.injEq] at h; omega
    refine Cw.seq (Cw.block (Cw.seq (Cw.region ?_)))
    (refine Ow.popM rfl ?_; simp only [S0, Nat.reduceEqDiff, Nat.reduceAdd, reduceIte, reduceCtorEq])
    refine Ow.nilM ⟨nofun, ?_⟩
    show Cw _ _ _ _ _
    refine Cw.block (Cw.loopI n (fun j E H3 => (E.get 0 = some (.slice (some ⟨id, 0, none⟩) vs.length vs.length) ∧ E.get 2 = some (.int .i64 (k : Int)) ∧ E.get 3 = some (.int .i64 (j : Int))) ∧ AL.Ext H0 H3 ∧ H3.t.get id = some ⟨vs, 0⟩ ∧ Spo H0 H3 vs) ⟨?_, hx2, hb2, hs2⟩ ?_)
    · simp only [S0, Nat.reduceEqDiff, Nat.reduceAdd, reduceIte, reduceCtorEq, e0, e2]; exact ⟨trivial, trivial, rfl⟩
    rintro j E3 H3 hj ⟨⟨i0, i2, i3⟩, hx3, hb3, hs3⟩
    refine Cw.seq (Cw.seq (Cw.region ?_))
    iterate 4 (refine Ow.popM rfl ?_; simp only [S0, Nat.reduceEqDiff, Nat.reduceAdd, reduceIte, reduceCtorEq, i0, i2, i3, ix_ok hlt])
    (refine Ow.hopM rfl rfl ?_; simp only [S0, Nat.reduceEqDiff, Nat.reduceAdd, reduceIte, reduceCtorEq, hb3, hget])
    by_cases hjn : j < n
    · iterate 2 (refine Ow.popM rfl ?_; simp only [S0, Nat.reduceEqDiff, Nat.reduceAdd, reduceIte, reduceCtorEq, i3, lt_true hjn])
      refine Ow.nilM ⟨nofun, ?_⟩
      refine Cw.cond (t := true) (by simp only [S0, Nat.reduceEqDiff, Nat.reduceAdd, reduceIte, reduceCtorEq]) ?_
      refine Cw.skip ?_
      show Cw _ _ _ _ _
      rcases hs3 _ hmem with h | ⟨id', off, n', cap, bk, h, h1, h2, h3, h4, h5, h8, h6⟩
      · simp only [Value.slice.injEq] at h
        omega
      simp only [Value.slice.injEq] at h
      obtain ⟨rfl, rfl, rfl⟩ := h
      have hoff : off + j < bk.cells.length := by omega
      obtain ⟨b, hbb⟩ := h6 bk.cells[off + j] (List.getElem_mem hoff)
      have hcell : bk.cells[off + j]? = some (.bool b) := by rw [List.getElem?_eq_getElem hoff, hbb]
      have hidne : id' ≠ id := hne _ hmem _ _ _ rfl
      refine Cw.seq (Cw.block (Cw.region ?_))
      iterate 3 (refine Ow.popM rfl ?_; simp only [S0, Nat.reduceEqDiff, Nat.reduceAdd, reduceIte, reduceCtorEq, i0, i2, i3, ix_ok hlt])
      (refine Ow.hopM rfl rfl ?_; simp only [S0, Nat.reduceEqDiff, Nat.reduceAdd, reduceIte, reduceCtorEq, hb3, hget])
      iterate 4 (refine Ow.popM rfl ?_; simp only [S0, Nat.reduceEqDiff, Nat.reduceAdd, reduceIte, reduceCtorEq, i0, i2, i3, ix_ok hlt])
      (refine Ow.hopM rfl rfl ?_; simp only [S0, Nat.reduceEqDiff, Nat.reduceAdd, reduceIte, reduceCtorEq, hb3, hget])
      iterate 2 (refine Ow.popM rfl ?_; simp only [S0, Nat.reduceEqDiff, Nat.reduceAdd, reduceIte, reduceCtorEq, i0, i2, i3, ix_ok hjn])
      (refine Ow.hopM rfl rfl ?_; simp only [S0, Nat.reduceEqDiff, Nat.reduceAdd, reduceIte, reduceCtorEq, h3, hcell])
      iterate 2 (refine Ow.popM rfl ?_; simp only [S0, Nat.reduceEqDiff, Nat.reduceAdd, reduceIte, reduceCtorEq, i0, i2, i3, ix_ok hjn])
      have hmin : min H3.n id' = id' := Nat.min_eq_right (Nat.le_of_lt h2)
      refine Ow.store1 (b := true) (ad := ⟨id', off + j, none⟩) (v := .bool (!b)) rfl (by simp only [S0, Nat.reduceEqDiff, Nat.reduceAdd, reduceIte, reduceCtorEq]) (by simp only [S0, Nat.reduceEqDiff, Nat.reduceAdd, reduceIte, reduceCtorEq]) rfl rfl h3 h4 hoff (by
        show Nat.blt (min H3.n id') H3.n = true
        rw [hmin]; exact Nat.ble_eq_true_of_le h2) ?_
      intro wl hwl
      refine Ow.nil ⟨fun _ => by rfl, ?_⟩
      show Cw _ _ _ _ _
      have n0 := hx3.n
      have w0 := hx3.wl
      refine Cw.genH (fun H4 => AL.Ext H0 H4 ∧ H4.t.get id = some ⟨vs, 0⟩ ∧ Spo H0 H4 vs) ⟨⟨n0, ?_, ?_⟩, ?_, ?_⟩ ?_
      · intro i hi
        show (H3.t.set id' _).get i = _
        rw [T.get_set_ne _ _ (by omega)]; exact hx3.get i hi
      · show _ ≤ wl
        rw [hwl]
        show min H0.wl H0.n ≤ min H3.wl (min H3.n id')
        omega
      · show (H3.t.set id' _).get id = _
        rw [T.get_set_ne _ _ (fun e => hidne e.symm)]; exact hb3
      · intro w hw
        rcases hs3 w hw with h | ⟨id2, off2, m2, cap2, bk2, h, p1, p2, p3, p4, p5, p8, p6⟩
        · exact .inl h
        · by_cases he : id2 = id'
          · subst he
            rw [p3] at h3
            obtain rfl := Option.some.inj h3
            refine .inr ⟨id2, off2, m2, cap2, { bk2 with cells := bk2.cells.set (off + j) (.bool !b) }, h, p1, p2, T.get_set_self _ _ _, p4, by simpa using p5, p8, fun c hc => ?_⟩
            rcases List.mem_or_eq_of_mem_set hc with hc | rfl
            · exact p6 c hc
            · exact ⟨_, rfl⟩
          · refine .inr ⟨id2, off2, m2, cap2, bk2, h, p1, p2, ?_, p4, p5, p8, p6⟩
            show (H3.t.set id' _).get id2 = _
            rw [T.get_set_ne _ _ he]; exact p3
      rintro H4 ⟨hx4, hb4, hs4⟩
      refine Cw.region ?_
      iterate 3 (refine Ow.popM rfl ?_; simp only [S0, Nat.reduceEqDiff, Nat.reduceAdd, reduceIte, reduceCtorEq, i3, fw_succ (show j < 2 ^ 62 by omega)])
      refine Ow.nilM ⟨nofun, hjn, ?_, hx4, hb4, hs4⟩
      simp only [S0, Nat.reduceEqDiff, Nat.reduceAdd, reduceIte, reduceCtorEq, i0, i2, and_self]
    · obtain rfl : j = n := by omega
      iterate 2 (refine Ow.popM rfl ?_; simp only [S0, Nat.reduceEqDiff, Nat.reduceAdd, reduceIte, reduceCtorEq, i3, lt_false hjn])
      refine Ow.nilM ⟨nofun, ?_⟩
      refine Cw.cond (t := false) (by simp only [S0, Nat.reduceEqDiff, Nat.reduceAdd, reduceIte, reduceCtorEq]) ?_
      refine Cw.exit ?_
      show Cw _ _ _ _ _
      refine Cw.region ?_
      iterate 3 (refine Ow.popM rfl ?_; simp only [S0, Nat.reduceEqDiff, Nat.reduceAdd, reduceIte, reduceCtorEq, i2, fw_succ (show k < 2 ^ 62 by omega)])
      refine Ow.nilM ⟨nofun, hlt, ?_, hx3, hb3, hs3⟩
      simp only [S0, Nat.reduceEqDiff, Nat.reduceAdd, reduceIte, reduceCtorEq, i0, and_self]
  · obtain rfl : k = vs.length := by omega
    iterate 4 (refine Ow.popM rfl ?_; simp only [S0, Nat.reduceEqDiff, Nat.reduceAdd, reduceIte, reduceCtorEq, e0, e2, lt_false hlt])
    refine Ow.nilM ⟨nofun, ?_⟩
    refine Cw.cond (t := false) (by simp only [S0, Nat.reduceEqDiff, Nat.reduceAdd, reduceIte, reduceCtorEq]) ?_
    refine Cw.exit ?_
    simp only [Then, InBlock, Rnd, FnPost, resOf, tupled, S0, Nat.reduceEqDiff, Nat.reduceAdd, reduceIte, reduceCtorEq]
    exact hx2
/-- spoil, of a slice literal -/
theorem spoil_L (hx : Ext0 ext) {H0 Hn H : AH} {vs : List Value} (h0 : AL.Ext H0 Hn) (he : AL.Ext Hn H) (hb : H.t.get Hn.n = some ⟨vs, 0⟩) (hlen : vs.length < 2 ^ 36) (hs : Spo H0 Hn vs) :
    Run (Cx ext) 21 [.slice (some ⟨Hn.n, 0, none⟩) vs.length vs.length] { H with wl := H.n } fun r H' => AL.Ext H0 H' := by
  refine spoil_any hx (H0 := H0) (h0.trans he).mark h0.n hb ?_ hlen ?_
  · rintro v hv a n c rfl
    rcases hs _ hv with h | ⟨_, _, _, _, _, h, _, h2, _⟩
    · cases h
    · simp only [Value.slice.injEq] at h
      obtain ⟨h, -, -⟩ := h
      obtain rfl := Option.some.inj h
      exact Nat.ne_of_lt h2
  · intro v hv
    rcases hs _ hv with h | ⟨id, off, n, cap, bk, h, h1, h2, h3, h4, h5, h8, h6⟩
    · exact .inl h
    · exact .inr ⟨id, off, n, cap, bk, h, h1, Nat.lt_of_lt_of_le h2 he.n, by rw [show ({ H with wl := H.n } : AH).t.get id = H.t.get id from rfl, he.get _ h2]; exact h3, h4, h5, h8, h6⟩
end Go.Proofs.Yteeckncfllbokaa.X
