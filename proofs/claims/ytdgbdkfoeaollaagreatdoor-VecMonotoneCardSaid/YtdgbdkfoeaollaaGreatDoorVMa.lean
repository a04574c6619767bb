/- Plain laws: refining the operands refines the results. -/
import Derived.Test.YtdgbdkfoeaollaaGreatDoorVV
import Derived.Test.YtdgbdkfoeaollaaGreatDoorVZe
set_option linter.unusedSimpArgs false
set_option linter.unusedVariables false
set_option maxRecDepth 100000
namespace Go.Proofs.YtdgbdkfoeaollaaGreatDoor.V
open Go Go.AL Go.SX
/-- Bit by bit, m refines l, z counted as x. -/
def RB4 (l m : List Int) : Prop := l.length = m.length ∧ ∀ i : Nat, i < l.length → blwF (gu l i) (gu m i) = true
theorem blwF_refl (x : Int) : blwF x x = true := by unfold blwF; exact bLeq_refl _
theorem RB4.refl (l : List Int) : RB4 l l := ⟨rfl, fun _ _ => blwF_refl _⟩
theorem Rf.rb {l m : List Int} (h : Rf l m) (hl : NV l) (hm : NV m) : RB4 l m := ⟨h.1, fun i hi => bLeq_blw (hl.v _ (gu_mem hi)) (hm.v _ (gu_mem (by rw [← h.1]; exact hi))) (h.2 i hi)⟩
theorem RB4.blw {l m : List Int} (h : RB4 l m) (s : Bool) : blw l s m s = true := by
  unfold V.blw
  rw [beq_self_eq_true, Bool.true_and]
  exact (eqF_iff h.1).2 h.2
theorem RB4.one {x y : Int} (h : blwF x y = true) : RB4 [x] [y] := ⟨rfl, fun i hi => by
  have : i = 0 := by simpa using hi
  subst this; exact h⟩
theorem blw2 {y : Int} (h : V4 y) : blwF 2 y = true := by rcases h.cases with rfl | rfl | rfl | rfl <;> decide
theorem RB4.unk {n : Nat} {m : List Int} (h : m.length = n) (hm : ∀ x ∈ m, V4 x) : RB4 (List.replicate n 2) m := by
  refine ⟨by rw [List.length_replicate]; exact h.symm, fun i hi => ?_⟩
  rw [List.length_replicate] at hi
  have e : gu (List.replicate n 2) i = 2 := by unfold gu; rw [Int.toNat_natCast, List.getElem?_replicate, if_pos hi]; rfl
  rw [e]
  exact blw2 (hm _ (gu_mem (by omega)))
/-- A function of two bits that keeps the order. -/
def Mn2 (f : Int → Int → Int) : Prop := ∀ x x' y y', V4 x → V4 x' → V4 y → V4 y' → blwF x x' = true → blwF y y' = true → blwF (f x y) (f x' y') = true
theorem mn2_of {f : Int → Int → Int} (h : ([0, 1, 2, 3] : List Int).all (fun x => ([0, 1, 2, 3] : List Int).all fun x' => ([0, 1, 2, 3] : List Int).all fun y => ([0, 1, 2, 3] : List Int).all fun y' => !blwF x x' || !blwF y y' || blwF (f x y) (f x' y')) = true) : Mn2 f := by
  intro x x' y y' hx hx' hy hy' h1 h2
  have mem : ∀ {z : Int}, V4 z → z ∈ ([0, 1, 2, 3] : List Int) := fun h => by rcases h.cases with rfl | rfl | rfl | rfl <;> simp
  have := List.all_eq_true.1 (List.all_eq_true.1 (List.all_eq_true.1 (List.all_eq_true.1 h x (mem hx)) x' (mem hx')) y (mem hy)) y' (mem hy')
  rw [h1, h2] at this
  simpa using this
theorem mnAnd : Mn2 bAnd := mn2_of (by decide)
theorem mnOr : Mn2 bOr := mn2_of (by decide)
theorem mnXor : Mn2 bXor := mn2_of (by decide)
theorem mnEq : Mn2 bEq := mn2_of (by decide)
theorem mnMux : Mn2 (bMux 2) := mn2_of (by decide)
theorem mnNot {x x' : Int} (h1 : V4 x) (h2 : V4 x') (h : blwF x x' = true) : blwF (bNot x) (bNot x') = true := by
  rcases h1.cases with rfl | rfl | rfl | rfl <;> rcases h2.cases with rfl | rfl | rfl | rfl <;> revert h <;> decide
theorem muxL {x y x' : Int} (hx : V4 x) (hy : V4 y) (hx' : V4 x') (h : blwF x x' = true) : blwF (bMux 2 x y) x' = true := by
  rcases hx.cases with rfl | rfl | rfl | rfl <;> rcases hy.cases with rfl | rfl | rfl | rfl <;> rcases hx'.cases with rfl | rfl | rfl | rfl <;> revert h <;> decide
theorem muxR {x y y' : Int} (hx : V4 x) (hy : V4 y) (hy' : V4 y') (h : blwF y y' = true) : blwF (bMux 2 x y) y' = true := by
  rcases hx.cases with rfl | rfl | rfl | rfl <;> rcases hy.cases with rfl | rfl | rfl | rfl <;> rcases hy'.cases with rfl | rfl | rfl | rfl <;> revert h <;> decide
theorem RB4.zip {f : Int → Int → Int} (hf : Mn2 f) {l l' m m' : List Int} (hl : NV l) (hl' : NV l') (hm : NV m) (hm' : NV m') (e : l.length = m.length) (h1 : RB4 l l') (h2 : RB4 m m') : RB4 (zipW f l m) (zipW f l' m') := by
  refine ⟨by rw [zipW_len, zipW_len, h1.1], fun i hi => ?_⟩
  rw [zipW_len] at hi
  have hi' : i < l'.length := by rw [← h1.1]; exact hi
  rw [zipW_get hi, zipW_get hi']
  exact hf _ _ _ _ (hl.v _ (gu_mem hi)) (hl'.v _ (gu_mem hi')) (hm.v _ (gu_mem (by omega))) (hm'.v _ (gu_mem (by rw [← h2.1]; omega))) (h1.2 i hi) (h2.2 i (by omega))
theorem RB4.map {l m : List Int} (hl : NV l) (hm : NV m) (h : RB4 l m) : RB4 (l.map bNot) (m.map bNot) := by
  refine ⟨by simp [h.1], fun i hi => ?_⟩
  have hi : i < l.length := by simpa using hi
  rw [gu_map hi, gu_map (by rw [← h.1]; exact hi)]
  exact mnNot (hl.v _ (gu_mem hi)) (hm.v _ (gu_mem (by rw [← h.1]; exact hi))) (h.2 i hi)
theorem foldl_mn {f : Int → Int → Int} (hf : Mn2 f) (h4 : ∀ x y, V4 x → V4 y → V4 (f x y)) : ∀ {l m : List Int} {a b : Int}, V4 a → V4 b → (∀ x ∈ l, V4 x) → (∀ x ∈ m, V4 x) → RB4 l m → blwF a b = true → blwF (l.foldl f a) (m.foldl f b) = true
  | [], [], a, b, _, _, _, _, _, h => h
  | [], y :: m, a, b, _, _, _, _, h, _ => by cases h.1
  | x :: l, [], a, b, _, _, _, _, h, _ => by cases h.1
  | x :: l, y :: m, a, b, ha, hb, hl, hm, h, hab => by
    rw [List.foldl_cons, List.foldl_cons]
    have h0 : blwF x y = true := h.2 0 (by simp)
    refine foldl_mn hf h4 (h4 _ _ ha (hl x (by simp))) (h4 _ _ hb (hm y (by simp))) (fun z hz => hl z (by simp [hz])) (fun z hz => hm z (by simp [hz])) ⟨by simpa using h.1, fun i hi => ?_⟩ (hf _ _ _ _ ha hb (hl x (by simp)) (hm y (by simp)) hab h0)
    have := h.2 (i + 1) (by simpa using hi)
    have g : ∀ (z : Int) (k : List Int), gu (z :: k) ((i + 1 : Nat) : Int) = gu k i := fun z k => by unfold gu; rw [Int.toNat_natCast, Int.toNat_natCast, List.getElem?_cons_succ]
    rw [g, g] at this
    exact this
theorem blwBuf {x y : Int} (hx : V4 x) (hy : V4 y) (h : blwF x y = true) : blwF (bBuf x) (bBuf y) = true := by
  rcases hx.cases with rfl | rfl | rfl | rfl <;> rcases hy.cases with rfl | rfl | rfl | rfl <;> revert h <;> decide
theorem RB4.drop {l m : List Int} (h : RB4 l m) (k : Nat) : RB4 (l.drop k) (m.drop k) := by
  refine ⟨by rw [List.length_drop, List.length_drop, h.1], fun i hi => ?_⟩
  rw [List.length_drop] at hi
  rw [gu_drop, gu_drop]
  exact h.2 _ (by omega)
theorem RB4.fld {f : Int → Int → Int} (hf : Mn2 f) (h4 : ∀ x y, V4 x → V4 y → V4 (f x y)) {l m : List Int} (hl : NV l) (hm : NV m) (h : RB4 l m) : blwF (fld f l) (fld f m) = true := by
  have pl := List.length_pos_iff.2 hl.ne
  have pm := List.length_pos_iff.2 hm.ne
  have a := hl.v _ (gu_mem (n := 0) pl)
  have b := hm.v _ (gu_mem (n := 0) pm)
  exact foldl_mn hf h4 (bBuf_4 a.1) (bBuf_4 b.1) (fun x hx => hl.v x (List.mem_of_mem_drop hx)) (fun x hx => hm.v x (List.mem_of_mem_drop hx)) (h.drop 1) (blwBuf a b (h.2 0 pl))
theorem RB4.rsz {l m : List Int} (h : RB4 l m) (hl : l ≠ []) (s : Bool) (w : Nat) : RB4 (rsz l s w) (rsz m s w) := by
  refine ⟨by rw [rsz_len, rsz_len], fun i hi => ?_⟩
  rw [rsz_len] at hi
  rw [gu_rsz hi, gu_rsz hi, ← h.1]
  split
  · exact h.2 i (by assumption)
  · unfold top
    split
    · rw [← h.1]; exact h.2 _ (by have := List.length_pos_iff.2 hl; omega)
    · exact blwF_refl _
/-- What refined operands are. -/
structure Op2 (l l' m m' : List Int) : Prop where
  nl : NV l
  nl' : NV l'
  nm : NV m
  nm' : NV m'
  rl : Rf l l'
  rm : Rf m m'
section
variable {l l' m m' : List Int} {s t : Bool} (o : Op2 l l' m m')
include o
theorem o_wd : bwd l m = bwd l' m' := by unfold bwd; rw [nB_id o.nl, nB_id o.nl', nB_id o.nm, nB_id o.nm', o.rl.1, o.rm.1]
theorem o_g : bg l s m t = bg l' s m' t := by unfold bg; rw [nS_id o.nl, nS_id o.nl', nS_id o.nm, nS_id o.nm']
theorem o_X : RB4 (bX l s m t) (bX l' s m' t) := by
  unfold bX
  rw [← o_wd o, ← o_g (s := s) (t := t) o, nB_id o.nl, nB_id o.nl']
  exact (o.rl.rb o.nl o.nl').rsz o.nl.ne _ _
theorem o_Y : RB4 (bY l s m t) (bY l' s m' t) := by
  unfold bY
  rw [← o_wd o, ← o_g (s := s) (t := t) o, nB_id o.nm, nB_id o.nm']
  exact (o.rm.rb o.nm o.nm').rsz o.nm.ne _ _
theorem o_bw {f : Int → Int → Int} (hf : Mn2 f) : RB4 (bwF f l s m t) (bwF f l' s m' t) :=
  RB4.zip hf (bX_nv (byt_nv o.nl) (byt_nv o.nm)) (bX_nv (byt_nv o.nl') (byt_nv o.nm')) (bY_nv (byt_nv o.nl) (byt_nv o.nm)) (bY_nv (byt_nv o.nl') (byt_nv o.nm')) mXY (o_X o) (o_Y o)
theorem o_nv {f : Int → Int → Int} (h4 : ∀ x y, V4 x → V4 y → V4 (f x y)) : NV (bwF f l s m t) ∧ NV (bwF f l' s m' t) :=
  ⟨zipW_nv (bX_nv (byt_nv o.nl) (byt_nv o.nm)) (bY_nv (byt_nv o.nl) (byt_nv o.nm)) mXY h4, zipW_nv (bX_nv (byt_nv o.nl') (byt_nv o.nm')) (bY_nv (byt_nv o.nl') (byt_nv o.nm')) mXY h4⟩
theorem o_eq : blwF (eqB l s m t) (eqB l' s m' t) = true := by
  unfold eqB
  exact (o_bw o mnEq).fld mnAnd bAnd_44 (o_nv o bEq_44).1 (o_nv o bEq_44).2
end
/-- Known bits are refined by themselves alone. -/
theorem rf_known {l m : List Int} (h : Rf l m) (hl : NV l) (hm : NV m) (hk : kn l = true) : m = l := by
  refine gu_ext h.1.symm fun i hi => ?_
  have hi' : i < l.length := by rw [h.1]; exact hi
  have a := h.2 i hi'
  have b := List.all_eq_true.1 hk _ (gu_mem hi')
  have c := hl.v _ (gu_mem hi')
  have d := hm.v _ (gu_mem hi)
  generalize gu l i = x at *
  generalize gu m i = y at *
  rcases c.cases with rfl | rfl | rfl | rfl <;> rcases d.cases with rfl | rfl | rfl | rfl <;> revert a b <;> decide
theorem intL_v4 (l : List Bool) : ∀ x ∈ intL l, V4 x := fun x hx => by
  obtain ⟨b, _, rfl⟩ := List.mem_map.1 hx
  exact ofB_4 b
theorem rep_v4 {n : Nat} {y : Int} (h : V4 y) : ∀ x ∈ List.replicate n y, V4 x := fun x hx => by rw [(List.mem_replicate.1 hx).2]; exact h
theorem v4_2 : V4 2 := by constructor <;> decide
theorem v4_0 : V4 0 := by constructor <;> decide
theorem arL_v4 {F : List Bool → List Bool → Bool → List Bool} {O : List Bool → List Bool → Bool → Bool} (hF : ∀ x y g, O x y g = true → (F x y g).length = x.length) (l m : List Int) (s t : Bool) : (arL F O l s m t).length = bwd l m ∧ ∀ x ∈ arL F O l s m t, V4 x := by
  unfold arL
  split
  · rename_i h
    simp only [Bool.and_eq_true] at h
    exact ⟨by rw [intL_len, hF _ _ _ h.2, boolL_len, bX_len], intL_v4 _⟩
  · exact ⟨List.length_replicate, rep_v4 v4_2⟩
theorem ar_mn {F : List Bool → List Bool → Bool → List Bool} {O : List Bool → List Bool → Bool → Bool} (hF : ∀ x y g, O x y g = true → (F x y g).length = x.length) {l l' m m' : List Int} {s t : Bool} (o : Op2 l l' m m') : RB4 (arL F O l s m t) (arL F O l' s m' t) := by
  cases h : (kn (nB l) && kn (nB m)) with
  | true =>
    rw [nB_id o.nl, nB_id o.nm] at h
    simp only [Bool.and_eq_true] at h
    rw [rf_known o.rl o.nl o.nl' h.1, rf_known o.rm o.nm o.nm' h.2]
    exact RB4.refl _
  | false =>
    rw [arL_unk (byt_nv o.nl) (byt_nv o.nm) h]
    have := arL_v4 hF l' m' s t
    exact RB4.unk (by rw [this.1, o_wd o]) this.2
theorem cp_mn {is : Int → Bool} {l l' m m' : List Int} {s t : Bool} (o : Op2 l l' m m') : blwF (cpB is l s m t) (cpB is l' s m' t) = true := by
  cases h : (kn (nB l) && kn (nB m)) with
  | true =>
    rw [nB_id o.nl, nB_id o.nm] at h
    simp only [Bool.and_eq_true] at h
    rw [rf_known o.rl o.nl o.nl' h.1, rf_known o.rm o.nm o.nm' h.2]
    exact blwF_refl _
  | false =>
    rw [cpB_unk (byt_nv o.nl) (byt_nv o.nm) h]
    refine blw2 ?_
    unfold cpB
    split
    · exact ofB_4 _
    · exact v4_2
end Go.Proofs.YtdgbdkfoeaollaaGreatDoor.V
