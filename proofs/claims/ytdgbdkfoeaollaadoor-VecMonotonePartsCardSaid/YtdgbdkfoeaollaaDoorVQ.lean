/- vec.Concat of any list of vectors. -/
import Derived.Test.YtdgbdkfoeaollaaDoorV0
import Derived.Test.YtdgbdkfoeaollaaDoorVF
import Derived.Test.YtdgbdkfoeaollaaDoorALe
set_option linter.unusedSimpArgs false
set_option linter.unusedVariables false
namespace Go.Proofs.YtdgbdkfoeaollaaDoor.V0
open Go Go.AL Go.SX Go.Proofs.YtdgbdkfoeaollaaDoor.V
/-- The cells of a slice of vectors. -/
def flat : List (List Int × Bool) → List SV
  | [] => []
  | p :: r => .u p.1 :: .b p.2 :: flat r
/-- The concatenation, the last one first. -/
def catL : List (List Int × Bool) → List Int
  | [] => []
  | p :: r => catL r ++ nB p.1
theorem flat_len : ∀ L, (flat L).length = L.length * 2
  | [] => rfl
  | p :: r => by simp only [flat, List.length_cons, flat_len r]; omega
theorem flat_get : ∀ {L : List (List Int × Bool)} {i : Nat} {p : List Int × Bool}, L[i]? = some p → (flat L)[i * 2]? = some (.u p.1) ∧ (flat L)[i * 2 + 1]? = some (.b p.2)
  | [], i, p, h => by simp at h
  | q :: r, 0, p, h => by simp at h; subst h; exact ⟨rfl, rfl⟩
  | q :: r, i + 1, p, h => by
    have := flat_get (L := r) (i := i) (by simpa using h)
    rw [show (i + 1) * 2 = i * 2 + 1 + 1 by omega]
    exact this
theorem flat_men : ∀ L j, menL j (flat L) = false
  | [], j => rfl
  | p :: r, j => by simp only [flat, menL, men, flat_men r j, Bool.or_self]
theorem catL_drop : ∀ {L : List (List Int × Bool)} {k : Nat} {p : List Int × Bool}, L[k]? = some p → catL (L.drop k) = catL (L.drop (k + 1)) ++ nB p.1
  | [], k, p, h => by simp at h
  | q :: r, 0, p, h => by simp at h; subst h; rfl
  | q :: r, k + 1, p, h => catL_drop (L := r) (by simpa using h)
theorem catL_le : ∀ (L : List (List Int × Bool)) (k : Nat), (catL (L.drop k)).length ≤ (catL L).length
  | [], k => by simp
  | p :: r, 0 => Nat.le_refl _
  | p :: r, k + 1 => by
    have := catL_le r k
    simp only [List.drop_succ_cons, catL, List.length_append]; omega
def env4 : T SV := ((T.nil.set 2 (SV.o 0 0)).set 3 (.o 1 0)).set 4 (.o 2 0)
def objC (out : List Int) : List SX.Obj := [.x [.nil, .kb false], .x [.n .i64 0], .x [.s 3, .kb false], .u out]
def objF : List SX.Obj := [.x [.nil, .kb false], .x [.n .i64 12]]
/-- The boxes that stay. -/
structure Fx (D : Bs) (E4 : Env) : Prop where
  ids : ∃ i2 i3 i4, D.m0 0 = some (.pointer (some ⟨i2, 0, none⟩)) ∧ D.m0 1 = some (.pointer (some ⟨i3, 0, none⟩)) ∧ D.m0 2 = some (.pointer (some ⟨i4, 0, none⟩)) ∧ E4.get 2 = some (.pointer (some ⟨i2, 0, none⟩)) ∧ E4.get 3 = some (.pointer (some ⟨i3, 0, none⟩)) ∧ E4.get 4 = some (.pointer (some ⟨i4, 0, none⟩))
theorem Fx.env {D : Bs} {E4 E : Env} {m : List Value} {objs : List SX.Obj} {e : T SV} {H B : AH} (h : Fx D E4) (hs : Sat TB B D m ⟨e, objs⟩ E H) : Sat TB B D m ⟨env4, objs⟩ E4 H := by
  obtain ⟨i2, i3, i4, h2, h3, h4, g2, g3, g4⟩ := h.ids
  refine hs.reEnv fun t x hx => ?_
  simp only [env4, T.get_set] at hx
  split at hx
  · cases hx; rename_i e; subst e; exact ⟨_, g4, _, (hs.fix 2 _ h4).1, rfl⟩
  split at hx
  · cases hx; rename_i e; subst e; exact ⟨_, g3, _, (hs.fix 1 _ h3).1, rfl⟩
  split at hx
  · cases hx; rename_i e; subst e; exact ⟨_, g2, _, (hs.fix 0 _ h2).1, rfl⟩
  · simp at hx
theorem round {B : AH} {D : Bs} {m : List Value} {E4 : Env} {H : AH} {out l : List Int} {s : Bool} {j : Int} {x : Value} (hf : Fx D E4) (hm : ∀ i v, D.m0 i = some v → i < 3) (hs : Sat TB B D m ⟨env4, objC out⟩ E4 H) (hl : l.length < 2 ^ 15) (ho : out.length ≤ 128)
    (hx : Den (Own m (objC out)) m H (.a [.u l, .b s]) x) : Yw CX IR.cat E4 (.int .i64 j) x H fun b H' => (b = true ∧ (out ++ nB l).length ≤ 128 ∧ ∃ m', Sat TB B D m' ⟨env4, objC (out ++ nB l)⟩ E4 H') ∨ (b = false ∧ 128 < (out ++ nB l).length ∧ ∃ m', Sat TB B ⟨D.d, fun _ => none⟩ m' ⟨(T.nil.set 2 (SV.o 0 0)).set 3 (.o 1 0), objF⟩ E4 H') := by
  have hs1 : Sat TB B D m ⟨(env4.set 13 (.i .i64 j)).set 14 (.a [.u l, .b s]), objC out⟩ (AL.put (AL.put E4 (some 13) (.int .i64 j)) (some 14) x) H := by
    refine hs.reEnv fun t y hy => ?_
    rw [T.get_set] at hy
    split at hy
    · cases hy; rename_i e; subst e; exact ⟨x, by rw [get_putS, if_pos rfl], hx⟩
    · rw [T.get_set] at hy
      split at hy
      · cases hy; rename_i e; subst e; exact ⟨_, by rw [get_putS, if_neg (by decide), get_putS, if_pos rfl], rfl⟩
      · rename_i n1 n2
        obtain ⟨w, e1, e2⟩ := hs.env t y hy
        exact ⟨w, by rw [get_putS, if_neg (Ne.symm n1), get_putS, if_neg (Ne.symm n2)]; exact e1, e2⟩
  obtain ⟨G, hG⟩ : ∃ G, G = std CX TB B D := ⟨_, rfl⟩
  refine Yw.intro ?_
  refine (W_ok (ic := IR.cat.iasg) (k := fun c s1 => c = .normal ∧ s1 = ⟨((env4.set 13 (.i .i64 j)).set 14 (.a [.u l, .b s])).set 6 (.o 4 0), objC out ++ [.x [.u l, .b s]]⟩) (by rw [← hG]; cbv) hs1).mono ?_
  rintro c E1 H1 ⟨s1, m1, ⟨rfl, rfl⟩, hs2⟩
  refine ⟨rfl, ?_⟩
  have hwl : out.length < 2 ^ 20 := by omega
  have hnl : (nB l).length ≤ 128 := by
    unfold nB; split
    · exact (chk_zero (by assumption)).2.1
    · decide
  have hne : nB l ≠ [] := by
    unfold nB; split
    · exact (chk_zero (by assumption)).1
    · decide
  have hk : ∀ kk : Ctl → SX.St → Prop, (∀ s1, (out ++ nB l).length ≤ 128 → Le s1 ⟨T.nil, objC (out ++ nB l)⟩ → kk .normal s1) → (∀ s1, 128 < (out ++ nB l).length → Le s1 ⟨T.nil, objF⟩ → kk .ret s1) →
      W (std CX TB B D) TB IR.cat.ibody ⟨((env4.set 13 (.i .i64 j)).set 14 (.a [.u l, .b s])).set 6 (.o 4 0), objC out ++ [.x [.u l, .b s]]⟩ kk := by
    intro kk k1 k2
    rw [← hG]
    cbv
    refine call hG [] (norm_ok l s hl) ⟨rfl, rfl, rfl⟩ ?_
    rintro _ _ ⟨M, t, rfl, rfl, hM, ht⟩
    cbv
    rw [← hM] at hnl hne k1 k2
    have hap : G.ap (G.lu out) (G.lu M) := by rw [hG]; simp only [std]; omega
    have eap : G.apu out M = out ++ M := by rw [hG]; rfl
    have hMp := List.length_pos_iff.2 hne
    refine ⟨hap, okd hG (by kernel_rfl) ?_⟩
    refine call hG [] (width_ok (G.lu (G.apu out M))) ⟨rfl, rfl, rfl⟩ ?_
    rintro _ _ ⟨c, rfl, rfl, hc⟩
    cbv
    have ec : c = decide ((out ++ M).length ≤ 128) := by
      rw [hc, eap, hG]
      show (decide (1 ≤ ((out ++ M).length : Int)) && decide (((out ++ M).length : Int) ≤ 128)) = _
      have h1 : 1 ≤ (out ++ M).length := by rw [List.length_append]; omega
      by_cases h2 : (out ++ M).length ≤ 128
      · simp only [decide_eq_true h2, Bool.and_eq_true, decide_eq_true_eq]; omega
      · simp only [decide_eq_false h2, Bool.and_eq_false_iff, decide_eq_false_iff_not]; omega
    refine SX.ite hG (fun h1 => ?_) (fun h1 => ?_)
    · have e : c = false := by rw [hG] at h1; simpa [std] using h1
      have h2 : ¬ (out ++ M).length ≤ 128 := of_decide_eq_false (by rw [← ec, e])
      exact k2 _ (Nat.lt_of_not_le h2) (by constructor <;> cbv <;> simp)
    · have e : c = true := by rw [hG] at h1; simpa [std] using h1
      have h2 : (out ++ M).length ≤ 128 := of_decide_eq_true (by rw [← ec, e])
      rw [← eap] at h2 k1
      exact k1 _ h2 (by constructor <;> cbv <;> simp)
  refine (W_ok (ic := IR.cat.ibody) (k := fun c s1 => (c = .normal ∧ (out ++ nB l).length ≤ 128 ∧ Le s1 ⟨T.nil, objC (out ++ nB l)⟩) ∨ (c = .ret ∧ 128 < (out ++ nB l).length ∧ Le s1 ⟨T.nil, objF⟩)) (hk _ (fun s1 h1 h2 => .inl ⟨rfl, h1, h2⟩) (fun s1 h1 h2 => .inr ⟨rfl, h1, h2⟩)) hs2).mono ?_
  · rintro c E2 H2 ⟨s2, m2, ⟨rfl, h1, h2⟩ | ⟨rfl, h1, h2⟩, hs3⟩
    · refine .inl ⟨rfl, .inl ⟨rfl, h1, _, hf.env (hs3.leD h2 fun i v hv => ?_)⟩⟩
      match i, hm i v hv with
      | 0, _ => exact ⟨_, rfl⟩
      | 1, _ => exact ⟨_, rfl⟩
      | 2, _ => exact ⟨_, rfl⟩
    · have h3 := hs3.noFix.le h2
      obtain ⟨i2, i3, i4, k2, k3, k4, g2, g3, g4⟩ := hf.ids
      refine .inr ⟨rfl, .inr ⟨rfl, h1, _, h3.reEnv fun t x hx => ?_⟩⟩
      have f2 := (hs3.fix 0 _ k2).1
      have f3 := (hs3.fix 1 _ k3).1
      simp only [T.get_set] at hx
      split at hx
      · cases hx; rename_i e; subst e; exact ⟨_, g3, _, by rw [List.getElem?_take, if_pos (by decide)]; exact f3, rfl⟩
      split at hx
      · cases hx; rename_i e; subst e; exact ⟨_, g2, _, by rw [List.getElem?_take, if_pos (by decide)]; exact f2, rfl⟩
      · simp at hx
theorem take2 {cs : List Value} {o : Nat} {a b : Value} (h1 : cs[o]? = some a) (h2 : cs[o + 1]? = some b) : AL.part (some 2) cs o = some (.agg ⟨[a, b]⟩) := by
  obtain ⟨l1, e1⟩ := List.getElem?_eq_some_iff.1 h1
  obtain ⟨l2, e2⟩ := List.getElem?_eq_some_iff.1 h2
  have e : (cs.drop o).take 2 = [a, b] := by rw [List.drop_eq_getElem_cons l1, List.drop_eq_getElem_cons l2, e1, e2]; rfl
  simp only [AL.part, takeCells, e]; rfl
/-- What the range comes to. -/
def RgQ (B : AH) (D : Bs) (E4 : Env) (out : List Int) (b : Bool) (H' : AH) : Prop := (b = true ∧ out.length ≤ 128 ∧ ∃ m', Sat TB B D m' ⟨env4, objC out⟩ E4 H') ∨ (b = false ∧ 128 < out.length ∧ ∃ m', Sat TB B ⟨D.d, fun _ => none⟩ m' ⟨(T.nil.set 2 (SV.o 0 0)).set 3 (.o 1 0), objF⟩ E4 H')
theorem loop_ok {B : AH} {D : Bs} {E4 : Env} {L : List (List Int × Bool)} {v : Value} {cb : Nat} (hf : Fx D E4) (hm : ∀ i v, D.m0 i = some v → i < 3) (hcb : B.t.get cb = some ⟨[v], 0⟩) (hcb2 : cb < B.n) (hcb3 : ¬ D.d cb) (hv : Den D.d [] B (.r 2 (flat L)) v) (hl : ∀ p ∈ L, p.1.length < 2 ^ 15) (hn : L.length < 2 ^ 20) :
    ∀ k, k ≤ L.length → ∀ m E H, E.get 1 = some (.pointer (some ⟨cb, 0, none⟩)) → E.get 3 = some (.int .i64 ((k : Int) - 1)) → Sat TB B D m ⟨env4, objC (catL (L.drop k))⟩ E4 H → (catL (L.drop k)).length ≤ 128 → Bl CX IR.cat IR.back E4 E H (RgQ B D E4 (catL L)) := by
  intro k
  induction k with
  | zero =>
    intro _ m E H h1 h3 hs hlen
    refine Bl.done ?_
    show Ow CX [⟨some 7, none, .mov (.tmp 3)⟩, ⟨some 8, none, .bin 0 .geq (.tmp 7) (.const (.int .i64 0))⟩] E H _
    (refine Ow.popM rfl ?_; simp only [S0, Nat.reduceEqDiff, Nat.reduceAdd, reduceIte, reduceCtorEq, h3])
    (refine Ow.popM rfl ?_; simp only [S0, Nat.reduceEqDiff, Nat.reduceAdd, reduceIte, reduceCtorEq, h3])
    refine Ow.nilM ⟨?_, .inl ⟨rfl, hlen, m, hs⟩⟩
    simp only [S0, Nat.reduceEqDiff, Nat.reduceAdd, reduceIte, reduceCtorEq]
    rfl
  | succ k ih =>
    intro hk m E H h1 h3 hs hlen
    have e0 : ((k + 1 : Nat) : Int) - 1 = (k : Int) := by omega
    rw [e0] at h3
    obtain ⟨p, hp⟩ : ∃ p, L[k]? = some p := ⟨L[k], List.getElem?_eq_getElem hk⟩
    have hpl : p.1.length < 2 ^ 15 := hl p (List.mem_of_getElem? hp)
    obtain ⟨f1, f2⟩ := flat_get hp
    have hcbH : H.t.get cb = some ⟨[v], 0⟩ := by rw [hs.fr.get cb hcb2 hcb3]; exact hcb
    have hv2 := hs.old (x := .r 2 (flat L)) (fun j => by simp only [men]; exact flat_men L j) hv
    simp only [Den] at hv2
    obtain ⟨a, n, cap, vs, rfl, en, -, hd, had⟩ := hv2
    obtain ⟨w1, g1, d1⟩ := hd.get f1
    obtain ⟨w2, g2, rfl⟩ := hd.get f2
    obtain ⟨ad, rfl, bk, b1, b2, b3, b4⟩ := had (fun e => by rw [e] at g1; simp at g1)
    rw [flat_len] at en
    have en : n = L.length := by omega
    have c1 := b4 _ _ g1
    have c2 := b4 _ _ g2
    have hlt : k < n := by omega
    refine Bl.step ?_
    show Ow CX [⟨some 7, none, .mov (.tmp 3)⟩, ⟨some 8, none, .bin 0 .geq (.tmp 7) (.const (.int .i64 0))⟩] E H _
    (refine Ow.popM rfl ?_; simp only [S0, Nat.reduceEqDiff, Nat.reduceAdd, reduceIte, reduceCtorEq, h3])
    (refine Ow.popM rfl ?_; simp only [S0, Nat.reduceEqDiff, Nat.reduceAdd, reduceIte, reduceCtorEq, h3])
    have hge : decide ((k : Int) ≥ 0) = true := by simp
    refine Ow.nilM ⟨by simp only [S0, Nat.reduceEqDiff, Nat.reduceAdd, reduceIte, reduceCtorEq, hge], ?_⟩
    show Ow CX [⟨some 12, none, .mov (.tmp 3)⟩, ⟨some 13, none, .load none (.tmp 1)⟩, ⟨some 14, none, .mov (.tmp 3)⟩, ⟨some 15, none, .indexAddr 2 none (.tmp 13) (.tmp 14)⟩, ⟨some 16, none, .load (some 2) (.tmp 15)⟩] _ H _
    (refine Ow.popM rfl ?_; simp only [S0, Nat.reduceEqDiff, Nat.reduceAdd, reduceIte, reduceCtorEq, h3])
    (refine Ow.hopM rfl rfl ?_; simp only [S0, Nat.reduceEqDiff, Nat.reduceAdd, reduceIte, reduceCtorEq, h1, hcbH, List.getElem?_cons_zero])
    (refine Ow.popM rfl ?_; simp only [S0, Nat.reduceEqDiff, Nat.reduceAdd, reduceIte, reduceCtorEq, h3])
    (refine Ow.popM rfl ?_; simp only [S0, Nat.reduceEqDiff, Nat.reduceAdd, reduceIte, reduceCtorEq, ix_ok hlt])
    (refine Ow.hopM rfl rfl ?_; simp only [S0, Nat.reduceEqDiff, Nat.reduceAdd, reduceIte, reduceCtorEq, b3, take2 c1 c2])
    refine Ow.nilM ⟨.int .i64 (k : Int), .agg ⟨[w1, .bool p.2]⟩, by simp only [S0, Nat.reduceEqDiff, Nat.reduceAdd, reduceIte, reduceCtorEq], by simp only [S0, Nat.reduceEqDiff, Nat.reduceAdd, reduceIte, reduceCtorEq], ?_⟩
    obtain ⟨N, b, H', hy, hq⟩ := round (x := .agg ⟨[w1, .bool p.2]⟩) (s := p.2) (j := (k : Int)) hf hm hs hpl hlen ⟨_, rfl, _, _, rfl, d1, _, _, rfl, rfl, rfl⟩
    refine ⟨N, b, H', hy, ?_⟩
    rw [← catL_drop hp] at hq
    show Ow CX [⟨some 18, none, .un .not (.tmp 17)⟩] _ H' _
    (refine Ow.popM rfl ?_; simp only [S0, Nat.reduceEqDiff, Nat.reduceAdd, reduceIte, reduceCtorEq])
    refine Ow.nilM ?_
    rcases hq with ⟨rfl, q1, m', q2⟩ | ⟨rfl, q1, m', q2⟩
    · refine .inr ⟨rfl, by simp only [S0, Nat.reduceEqDiff, Nat.reduceAdd, reduceIte, reduceCtorEq], ?_⟩
      show Ow CX [⟨some 9, none, .mov (.tmp 3)⟩, ⟨some 10, none, .bin 0 .sub (.tmp 9) (.const (.int .i64 1))⟩, ⟨some 3, none, .mov (.tmp 10)⟩] _ H' _
      have e1 : fwrap .i64 ((k : Int) - 1) = (k : Int) - 1 := fwi (by omega)
      (refine Ow.popM rfl ?_; simp only [S0, Nat.reduceEqDiff, Nat.reduceAdd, reduceIte, reduceCtorEq, h3])
      (refine Ow.popM rfl ?_; simp only [S0, Nat.reduceEqDiff, Nat.reduceAdd, reduceIte, reduceCtorEq, h3, e1])
      (refine Ow.popM rfl ?_; simp only [S0, Nat.reduceEqDiff, Nat.reduceAdd, reduceIte, reduceCtorEq, h3])
      refine Ow.nilM (ih (by omega) m' _ H' ?_ ?_ q2 q1)
      · simp only [S0, Nat.reduceEqDiff, Nat.reduceAdd, reduceIte, reduceCtorEq, h1]
      · simp only [S0, Nat.reduceEqDiff, Nat.reduceAdd, reduceIte, reduceCtorEq]
    · refine .inl ⟨rfl, by simp only [S0, Nat.reduceEqDiff, Nat.reduceAdd, reduceIte, reduceCtorEq], .inr ⟨rfl, Nat.lt_of_lt_of_le q1 (catL_le L k), m', q2⟩⟩
theorem backward_any {H : AH} {a : Option Addr} {n cap : Nat} : Run CX 48 [.slice a n cap] H fun r H' => H' = H.new ⟨[.slice a n cap], 0⟩ ∧ r = .func (.func 91) ⟨[]⟩ ⟨[.pointer (some ⟨H.n, 0, none⟩)]⟩ := by
  refine Run.intro (fi := IR.fi48) rfl (by kernel_rfl) ?_
  unfold IR.fi48
  simp only [envOf_cons, envOf_nil]
  refine Cw.seq (Cw.region ?_)
  (refine Ow.hopM rfl rfl ?_; simp only [S0, Nat.reduceEqDiff, Nat.reduceAdd, reduceIte, reduceCtorEq, junk, AL.cellsOf])
  (refine Ow.popM rfl ?_; simp only [S0, Nat.reduceEqDiff, Nat.reduceAdd, reduceIte, reduceCtorEq])
  refine Ow.nilM ⟨nofun, ?_⟩
  refine Cw.seq (Cw.region ?_)
  iterate 2 (refine Ow.popM rfl ?_; simp only [S0, Nat.reduceEqDiff, Nat.reduceAdd, reduceIte, reduceCtorEq])
  refine Ow.nilM ⟨nofun, ?_⟩
  refine Cw.ret ?_
  simp only [FnPost, resOf, tupled, S0, Nat.reduceEqDiff, Nat.reduceAdd, reduceIte, reduceCtorEq, and_self]
theorem fin_of {K : CatIR} {Q : Value → AH → Prop} {E : Env} {H : AH} (h : FnPost K.res Q .ret E H) : Fin K Q E H := by
  unfold FnPost at h
  cases hr : resOf E H K.res with
  | none => simp only [hr] at h
  | some vs => simp only [hr] at h; exact ⟨vs, hr, h⟩
theorem bl_mono {C : Ctx} {K : CatIR} {B : BackIR} {E0 E : Env} {H : AH} {Q Q' : Bool → AH → Prop} (h : Bl C K B E0 E H Q) (hq : ∀ b H', Q b H' → Q' b H') : Bl C K B E0 E H Q' := by
  obtain ⟨N, r, hr, hQ⟩ := h
  exact ⟨N, r, hr, hq _ _ hQ⟩
theorem boxM_lt {m : List Value} {out : List Int} : ∀ i v, boxM m (objC out) i = some v → i < 3 := by
  intro i v h
  match i, h with
  | 0, _ => decide
  | 1, _ => decide
  | 2, _ => decide
  | 3, h => exact absurd h (by simp [boxM, objC])
  | i + 4, h => exact absurd h (by simp [boxM, objC])
theorem concat_ok (L : List (List Int × Bool)) (hl : ∀ p ∈ L, p.1.length < 2 ^ 15) (hn : L.length < 2 ^ 20) : FvC V.CX TB (.f 15 [] []) [.r 2 (flat L)] [] (RE (decide (L ≠ [] ∧ (catL L).length ≤ 128)) (catL L) false (if L = [] then 4 else 12)) := by
  intro H m vf vs ho hgl hdf hda
  obtain rfl : m = [] := List.length_eq_zero_iff.1 ho.len
  simp only [Den, DenL] at hdf
  obtain ⟨vf', vc, rfl, rfl, rfl⟩ := hdf
  refine ⟨15, [], [], rfl, ?_⟩
  have e2 : ([] : List Value) ++ (vs ++ []) = vs := by simp
  rw [e2]
  suffices key : ∃ n v H', catN n vs H = some (v, H') ∧ ∃ m' r ro, RE (decide (L ≠ [] ∧ (catL L).length ≤ 128)) (catL L) false (if L = [] then 4 else 12) r ro ∧ Obs m' ro H' ∧ ro.all okO = true ∧ Den (fun id => Own m' ro id ∨ id < H.n) m' H' r v ∧ (∀ id, Own m' ro id → H.n ≤ id ∨ Own [] [] id) ∧ Frm (Own [] []) H H' by
    obtain ⟨n, v, H', e, q⟩ := key
    exact Run.ext (g := anyN catN) rfl (anyN_eq (f := catN) (fun n m args H r h he => catEv_mono (evF_mono h) h he) e) q
  obtain ⟨q, hq⟩ : ∃ q, q = RE (decide (L ≠ [] ∧ (catL L).length ≤ 128)) (catL L) false (if L = [] then 4 else 12) := ⟨_, rfl⟩
  rw [← hq]
  have hs0 : Sat TB H ⟨Own [] [], fun _ => none⟩ [] ⟨envS [.r 2 (flat L)] 0, []⟩ (envOf vs 0) H :=
    ⟨ho, fun id h => .inr h, fun t x hx => envS_ok 0 t x hda hx, ⟨Nat.le_refl _, fun _ _ _ => rfl, fun x h _ _ => h⟩, (fun i v h => by cases h), hgl⟩
  obtain ⟨F, hF⟩ : ∃ F, F = flat L := ⟨_, rfl⟩
  rw [← hF] at hs0
  have hA : W (std CX TB H ⟨Own [] [], fun _ => none⟩) TB IR.cat.iA ⟨envS [.r 2 F] 0, []⟩ fun c s => c = .normal ∧ s = ⟨((envS [.r 2 F] 0).set 2 (.o 0 0)).set 3 (.o 1 0), [.x [.nil, .kb false], .x [.n .i64 0]]⟩ := by
    generalize std CX TB H ⟨Own [] [], fun _ => none⟩ = G
    cbv
  refine cat_intro (C := CX) (K := IR.cat) (B := IR.back) ((W_ok hA hs0).mono ?_)
  rintro c E1 H1 ⟨s1, m1, ⟨rfl, rfl⟩, hs1⟩
  refine ⟨rfl, ?_⟩
  clear hA
  by_cases hne : L = []
  · subst hne
    subst hF
    have hX : W (std CX TB H ⟨Own [] [], fun _ => none⟩) TB IR.cat.iX ⟨((envS [.r 2 (flat [])] 0).set 2 (.o 0 0)).set 3 (.o 1 0), [.x [.nil, .kb false], .x [.n .i64 0]]⟩ fun c s => c = .ret ∧ post IR.cat.res q c s := by
      generalize std CX TB H ⟨Own [] [], fun _ => none⟩ = G
      have h4 : ∀ sg e, sg = false → e = 4 → q (.t [.a [.nil, .b sg], .i .i64 e]) [] := fun sg e h1 h2 => by rw [hq]; exact .inr ⟨rfl, _, _, rfl, rfl, h1, h2⟩
      clear hq
      cbv
      exact h4 _ _ rfl rfl
    refine (W_ok hX hs1).mono ?_
    rintro c E2 H2 ⟨s2, m2, ⟨rfl, hp⟩, hs2⟩
    exact .inl ⟨rfl, fin_of (post_ok hs2 hp)⟩
  obtain ⟨w, hw0, hwd⟩ := hs1.env 0 (.r 2 F) rfl
  have hmF : ∀ j, men j (.r 2 F) = false := fun j => by rw [hF]; simp only [men]; exact flat_men L j
  have hwd1 := hwd
  simp only [Den] at hwd1
  obtain ⟨a, n, cap, ws, rfl, en, -⟩ := hwd1
  rw [hF, flat_len] at en
  have en : n = L.length := by omega
  have hLp : 0 < L.length := List.length_pos_iff.2 hne
  have hn0 : ((n : Int) == 0) = false := by rw [beq_eq_false_iff_ne]; omega
  refine Cw.seq (Cw.region ?_)
  (refine Ow.popM rfl ?_; simp only [S0, Nat.reduceEqDiff, Nat.reduceAdd, reduceIte, reduceCtorEq, hw0])
  (refine Ow.popM rfl ?_; simp only [S0, Nat.reduceEqDiff, Nat.reduceAdd, reduceIte, reduceCtorEq])
  (refine Ow.popM rfl ?_; simp only [S0, Nat.reduceEqDiff, Nat.reduceAdd, reduceIte, reduceCtorEq, hn0])
  refine Ow.nilM ⟨nofun, ?_⟩
  refine Cw.cond (t := false) (by simp only [S0, Nat.reduceEqDiff, Nat.reduceAdd, reduceIte, reduceCtorEq, hn0]) ?_
  rw [if_neg (by decide)]
  refine Cw.skip (.inr ⟨rfl, ?_⟩)
  generalize hE2 : (AL.put (AL.put (AL.put E1 (some 7) _) (some 8) _) (some 9) _) = E2
  have keep : ∀ t, t < 4 → E2.get t = E1.get t := fun t ht => by
    rw [← hE2]
    rw [get_putS, if_neg (by omega), get_putS, if_neg (by omega), get_putS, if_neg (by omega)]
  have hs2 : Sat TB H ⟨Own [] [], fun _ => none⟩ m1 ⟨((T.nil.set 0 (SV.r 2 F)).set 2 (.o 0 0)).set 3 (.o 1 0), [.x [.nil, .kb false], .x [.n .i64 0]]⟩ E2 H1 := by
    refine hs1.reEnv fun t x hx => ?_
    simp only [T.get_set] at hx
    split at hx
    · cases hx; rename_i e; subst e; rw [keep 3 (by decide)]; exact hs1.env 3 (.o 1 0) rfl
    split at hx
    · cases hx; rename_i e; subst e; rw [keep 2 (by decide)]; exact hs1.env 2 (.o 0 0) rfl
    split at hx
    · cases hx; rename_i e; subst e; exact ⟨_, by rw [keep 0 (by decide)]; exact hw0, hwd⟩
    · simp at hx
  have hD : W (std CX TB H ⟨Own [] [], fun _ => none⟩) TB IR.cat.iD ⟨((T.nil.set 0 (SV.r 2 F)).set 2 (.o 0 0)).set 3 (.o 1 0), [.x [.nil, .kb false], .x [.n .i64 0]]⟩ fun c s => c = .normal ∧ s = ⟨(((T.nil.set 0 (SV.r 2 F)).set 2 (.o 0 0)).set 3 (.o 1 0)).set 4 (.o 2 0), [.x [.nil, .kb false], .x [.n .i64 0], .x [.nil, .kb false]]⟩ := by
    generalize std CX TB H ⟨Own [] [], fun _ => none⟩ = G
    cbv
  refine (W_ok hD hs2).mono ?_
  rintro c E3 H3 ⟨s3, m3, ⟨rfl, rfl⟩, hs3⟩
  refine ⟨rfl, ?_⟩
  clear hD
  have hs3' := hs3.regB 2 0 (.u []) rfl rfl
  clear hwd hw0 hn0 en
  obtain ⟨w3, hw3, hwd3⟩ := hs3'.env 0 (.r 2 F) rfl
  have hwd1 := hwd3
  simp only [Den] at hwd1
  obtain ⟨a, n, cap, ws, rfl, en, -⟩ := hwd1
  rw [hF, flat_len] at en
  have en : n = L.length := by omega
  have hs4 := (hs3'.wl (y := min H3.wl H3.n) fun x h1 h2 => Nat.le_min.2 ⟨h1, h2⟩).new ⟨[.slice a n cap], 0⟩
  generalize hmm : m3 ++ [Value.slice none 0 0] = mm at *
  refine Cw.region ?_
  (refine Ow.popM rfl ?_; simp only [S0, Nat.reduceEqDiff, Nat.reduceAdd, reduceIte, reduceCtorEq, hw3])
  refine Ow.call (R := fun r H' => H' = AH.new { H3 with wl := H3.n } ⟨[.slice a n cap], 0⟩ ∧ r = .func (.func 91) ⟨[]⟩ ⟨[.pointer (some ⟨H3.n, 0, none⟩)]⟩) (k := 48) (fs := []) (cs := []) (vs := [.slice a n cap]) rfl rfl (by simp only [S0, Nat.reduceEqDiff, Nat.reduceAdd, reduceIte, reduceCtorEq]) backward_any ?_
  rintro _ _ ⟨rfl, rfl⟩
  refine ⟨_, rfl, ?_⟩
  refine Ow.nilM ⟨nofun, trivial, ?_⟩
  change Rg CX IR.cat IR.back 91 _ (AH.new { H3 with wl := min H3.wl H3.n } ⟨[.slice a n cap], 0⟩) _
  have hlt : ∀ id, Own mm (objC []) id → id < H3.n := by
    rintro id ⟨i, o, v, h1, h2, h3, h4⟩
    exact (hs3'.obs.ok i o v h1 h3).lt h2 h4
  have hcb : (AH.new { H3 with wl := min H3.wl H3.n } ⟨[.slice a n cap], 0⟩).t.get H3.n = some ⟨[.slice a n cap], 0⟩ := T.get_set_self _ _ _
  have hcb2 : H3.n < (AH.new { H3 with wl := min H3.wl H3.n } ⟨[.slice a n cap], 0⟩).n := Nat.lt_succ_self _
  generalize AH.new { H3 with wl := min H3.wl H3.n } ⟨[.slice a n cap], 0⟩ = H4 at *
  generalize hE4 : AL.put (AL.put E3 (some 11) (.slice a n cap)) (some 12) (.func (.func 91) ⟨[]⟩ ⟨[.pointer (some ⟨H3.n, 0, none⟩)]⟩) = E4
  have keep : ∀ t, t < 5 → E4.get t = E3.get t := fun t ht => by
    rw [← hE4]
    rw [get_putS, if_neg (by omega), get_putS, if_neg (by omega)]
  have hE12 : E4.get 12 = some (.func (.func 91) ⟨[]⟩ ⟨[.pointer (some ⟨H3.n, 0, none⟩)]⟩) := by rw [← hE4, get_putS, if_pos rfl]
  have hs5 : Sat TB H ⟨Own [] [], fun _ => none⟩ mm ⟨env4, objC []⟩ E4 H4 := by
    refine hs4.reEnv fun t x hx => ?_
    simp only [env4, T.get_set] at hx
    split at hx
    · cases hx; rename_i e; subst e; rw [keep 4 (by decide)]; exact hs4.env 4 (.o 2 0) rfl
    split at hx
    · cases hx; rename_i e; subst e; rw [keep 3 (by decide)]; exact hs4.env 3 (.o 1 0) rfl
    split at hx
    · cases hx; rename_i e; subst e; rw [keep 2 (by decide)]; exact hs4.env 2 (.o 0 0) rfl
    · simp at hx
  have hv : Den (Own mm (objC [])) [] H4 (.r 2 (flat L)) (.slice a n cap) := by
    obtain ⟨w4, hw4, hwd4⟩ := hs4.env 0 (.r 2 F) rfl
    rw [hw3] at hw4; cases hw4
    rw [← hF]
    exact hwd4.mono (fun _ _ h => h) (Nat.le_refl _) (fun _ _ _ => rfl) _ _ (fun j v hj => by rw [hmF j] at hj; cases hj)
  have hs6 : Sat TB H4 ⟨Own mm (objC []), boxM mm (objC [])⟩ mm ⟨env4, objC []⟩ E4 H4 := by
    refine ⟨hs5.obs, fun id h => .inr h, hs5.env, ⟨Nat.le_refl _, fun _ _ _ => rfl, fun x h _ _ => h⟩, fun i v hv => ?_, hs5.gl⟩
    change boxM mm (objC []) i = some v at hv
    unfold boxM at hv
    split at hv
    · rename_i cs hc; exact ⟨hv, cs, hc⟩
    · cases hv
  have fx : Fx ⟨Own mm (objC []), boxM mm (objC [])⟩ E4 := by
    obtain ⟨v2, k2, i2, j2, rfl⟩ := hs5.env 2 (.o 0 0) rfl
    obtain ⟨v3, k3, i3, j3, rfl⟩ := hs5.env 3 (.o 1 0) rfl
    obtain ⟨v4, k4, i4, j4, rfl⟩ := hs5.env 4 (.o 2 0) rfl
    exact ⟨i2, i3, i4, j2, j3, j4, k2, k3, k4⟩
  have hBl := loop_ok (B := H4) (D := ⟨Own mm (objC []), boxM mm (objC [])⟩) (L := L) (v := .slice a n cap) (cb := H3.n) fx boxM_lt hcb hcb2 (fun h => absurd (hlt _ h) (Nat.lt_irrefl _)) hv hl hn L.length (Nat.le_refl _)
  rw [List.drop_length] at hBl
  refine Rg.intro (cap := .pointer (some ⟨H3.n, 0, none⟩)) hE12 ?_
  simp only [envOf_cons, envOf_nil]
  show Ow CX [⟨some 4, none, .load none (.tmp 1)⟩, ⟨some 5, none, .len false (.tmp 4)⟩, ⟨some 6, none, .bin 0 .sub (.tmp 5) (.const (.int .i64 1))⟩, ⟨some 3, none, .mov (.tmp 6)⟩] _ H4 _
  have e1 : fwrap .i64 ((n : Int) - 1) = (n : Int) - 1 := fwi (by omega)
  (refine Ow.hopM rfl rfl ?_; simp only [S0, Nat.reduceEqDiff, Nat.reduceAdd, reduceIte, reduceCtorEq, hcb, List.getElem?_cons_zero])
  (refine Ow.popM rfl ?_; simp only [S0, Nat.reduceEqDiff, Nat.reduceAdd, reduceIte, reduceCtorEq])
  (refine Ow.popM rfl ?_; simp only [S0, Nat.reduceEqDiff, Nat.reduceAdd, reduceIte, reduceCtorEq, e1])
  (refine Ow.popM rfl ?_; simp only [S0, Nat.reduceEqDiff, Nat.reduceAdd, reduceIte, reduceCtorEq])
  refine Ow.nilM ?_
  refine bl_mono (hBl mm _ H4 ?_ ?_ hs6 (by decide)) fun b H5 hQ => ?_
  · simp only [S0, Nat.reduceEqDiff, Nat.reduceAdd, reduceIte, reduceCtorEq]
  · simp only [S0, Nat.reduceEqDiff, Nat.reduceAdd, reduceIte, reduceCtorEq]; rw [en]
  rcases hQ with ⟨h1, h2, m', h3⟩ | ⟨h1, h2, m', h3⟩
  · refine .inl ⟨h1, ?_⟩
    have h4 := hs5.trans h3.noFix fun id h => h
    have hG : W (std CX TB H ⟨Own [] [], fun _ => none⟩) TB IR.cat.iG ⟨env4, objC (catL L)⟩ fun c s => c = .ret ∧ post IR.cat.res q c s := by
      have h4 : ∀ O sg e, O = catL L → sg = false → e = 0 → q (.t [.a [.s 0, .b sg], .i .i64 e]) [.u O] := fun O sg e h1 h5 h6 => by rw [hq]; exact .inl ⟨decide_eq_true ⟨hne, h2⟩, _, _, _, rfl, rfl, h1, h5, h6⟩
      generalize std CX TB H ⟨Own [] [], fun _ => none⟩ = G
      have h5 := h4 (catL L) false 0 rfl rfl rfl
      generalize catL L = O at h5 ⊢
      clear hq h4
      cbv
      exact h5
    refine (W_ok hG h4).mono ?_
    rintro c E6 H6 ⟨s6, m6, ⟨rfl, hp⟩, hs7⟩
    exact ⟨rfl, fin_of (post_ok hs7 hp)⟩
  · refine .inr ⟨h1, ?_⟩
    have h4 := hs5.trans h3 fun id h => h
    have hp : post IR.cat.res q .ret ⟨(T.nil.set 2 (SV.o 0 0)).set 3 (.o 1 0), objF⟩ := by
      have h5 : ∀ sg e, sg = false → e = 12 → q (.t [.a [.nil, .b sg], .i .i64 e]) [] := fun sg e h5 h6 => by
        rw [hq]; exact .inr ⟨decide_eq_false (fun h => absurd h.2 (by omega)), _, _, rfl, rfl, h5, by rw [if_neg hne]; exact h6⟩
      clear hq
      cbv
      exact h5 _ _ rfl rfl
    exact fin_of (post_ok h4 hp)
end Go.Proofs.YtdgbdkfoeaollaaDoor.V0
