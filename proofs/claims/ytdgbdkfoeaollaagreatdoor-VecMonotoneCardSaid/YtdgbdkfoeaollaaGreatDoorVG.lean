/- Reductions; balance and what stands on it. -/
import Derived.Test.YtdgbdkfoeaollaaGreatDoorVR
import Derived.Test.YtdgbdkfoeaollaaGreatDoorALe
set_option linter.unusedSimpArgs false
set_option linter.unusedVariables false
namespace Go.Proofs.YtdgbdkfoeaollaaGreatDoor.V
open Go Go.AL Go.SX
def bg (l : List Int) (s : Bool) (m : List Int) (t : Bool) : Bool := nS l s && nS m t
def bwd (l m : List Int) : Nat := Nat.max (nB l).length (nB m).length
def bX (l : List Int) (s : Bool) (m : List Int) (t : Bool) : List Int := rsz (nB l) (bg l s m t) (bwd l m)
def bY (l : List Int) (s : Bool) (m : List Int) (t : Bool) : List Int := rsz (nB m) (bg l s m t) (bwd l m)
def RP (L M : List Int) (g : Bool) (r : SV) (ro : List SX.Obj) : Prop := ∃ L' M' g' h', r = .t [.a [.s 0, .b g'], .a [.s 1, .b h']] ∧ ro = [.u L', .u M'] ∧ L' = L ∧ M' = M ∧ g' = g ∧ h' = g
def balOps : List IOper := [⟨(some 29), none, (.load (some 2) (.tmp 2))⟩, ⟨(some 30), none, (.mov (.tmp 7))⟩, ⟨(some 31), none, (.call (.func 106) [(.tmp 29), (.tmp 30)])⟩, ⟨(some 32), none, (.load (some 2) (.tmp 3))⟩, ⟨(some 33), none, (.mov (.tmp 7))⟩, ⟨(some 34), none, (.call (.func 106) [(.tmp 32), (.tmp 33)])⟩, ⟨none, none, (.store 2 (.tmp 4) (.tmp 31))⟩, ⟨none, none, (.store 2 (.tmp 5) (.tmp 34))⟩]
def tailB : IC := .seq (.region true balOps [0, 0, 3, 0, 0, 31, 63, 127]) .ret
def stB (X Y : List Int) (g : Bool) (w : Int) : St := ⟨((((T.nil.set 2 (SV.o 0 0)).set 3 (.o 1 0)).set 4 (.o 2 0)).set 5 (.o 3 0)).set 7 (.i .i64 w), [.x [.s 4, .b g], .x [.s 5, .b g], .x [.nil, .kb false], .x [.nil, .kb false], .u X, .u Y]⟩
def obB (X Y : List Int) : List SX.Obj := [.dead, .dead, .x [.nil, .kb false], .x [.nil, .kb false], .u X, .u Y]
def stB2 (X Y : List Int) (g : Bool) (w : Int) : St := ⟨((((T.nil.set 2 (SV.p [.s 4, .b g])).set 3 (.p [.s 5, .b g])).set 4 (.o 2 0)).set 5 (.o 3 0)).set 7 (.i .i64 w), obB X Y⟩
def balK (q : SV → List SX.Obj → Prop) : St → List (Bool × Bool) → Prop := fun s' fl => fl = [(true,false),(false,false),(true,true),(true,false),(false,false),(true,true),(true,true),(true,true)] ∧ post [.cell 4 (some 2), .cell 5 (some 2)] q .ret s'
theorem bal_wo {B : AH} {D : Bs} {G : Sg} (hG : G = std CX TB B D) (X Y : List Int) (g : Bool) (w : Int) (hX : X ≠ []) (hY : Y ≠ []) (lX : X.length < 2 ^ 14) (lY : Y.length < 2 ^ 14) (hw : 1 ≤ w ∧ w < 2 ^ 14) (q : SV → List SX.Obj → Prop)
    (hq : ∀ L M g' h', L = rsz X g w.toNat → M = rsz Y g w.toNat → g' = g → h' = g → q (.t [.a [.s 0, .b g'], .a [.s 1, .b h']]) [.u L, .u M]) : WO G TB balOps (stB2 X Y g w) [] (balK q) := by
  cbv
  refine call hG [4] (resize_ok X g w hX lX hw) ⟨rfl, rfl, rfl⟩ ?_
  rintro _ _ ⟨L, g1, rfl, rfl, hL, hg1⟩
  cbv
  refine call hG [5] (resize_ok Y g w hY lY hw) ⟨rfl, rfl, rfl⟩ ?_
  rintro _ _ ⟨M, g2, rfl, rfl, hM, hg2⟩
  cbv
  exact hq L M g1 g2 hL hM hg1 hg2
theorem obB_sub {X Y : List Int} {g : Bool} {w : Int} : ∀ (i : Nat) (o : SX.Obj), (obB X Y)[i]? = some o → o = SX.Obj.dead ∨ (stB X Y g w).objs[i]? = some o := by
  intro i o h
  match i, h with
  | 0, h => cases h; exact .inl rfl
  | 1, h => cases h; exact .inl rfl
  | i + 2, h => exact .inr h
theorem obB_own {m : List Value} {X Y : List Int} {g : Bool} {w : Int} : ∀ id, Own m (obB X Y) id → Own m (stB X Y g w).objs id := by
  rintro id ⟨i, o, v, h1, h2, h3, h4⟩
  rcases obB_sub i o h1 with h | h
  · exact absurd h h2
  · exact ⟨i, o, v, h, h2, h3, h4⟩
theorem bal_tail {B : AH} {D : Bs} {m : List Value} {E : Env} {H : AH} (X Y : List Int) (g : Bool) (w : Int) (hs : Sat TB B D m (stB X Y g w) E H) (id3 : Nat) (hi : m[1]? = some (.pointer (some ⟨id3, 0, none⟩))) (hlow : ∀ id, Own m (obB X Y) id → id3 < id) (hX : X ≠ []) (hY : Y ≠ []) (lX : X.length < 2 ^ 14) (lY : Y.length < 2 ^ 14) (hw : 1 ≤ w ∧ w < 2 ^ 14) (q : SV → List SX.Obj → Prop)
    (hq : ∀ L M g' h', L = rsz X g w.toNat → M = rsz Y g w.toNat → g' = g → h' = g → q (.t [.a [.s 0, .b g'], .a [.s 1, .b h']]) [.u L, .u M]) : Cw CX tailB E H fun c E' H' => ∃ s' m', post [.cell 4 (some 2), .cell 5 (some 2)] q c s' ∧ Sat TB B ⟨D.d, fun _ => none⟩ m' s' E' H' := by
  have hsub := obB_sub (X := X) (Y := Y) (g := g) (w := w)
  have hO0 := obB_own (m := m) (X := X) (Y := Y) (g := g) (w := w)
  have box : ∀ (t i c : Nat), (stB X Y g w).env.get t = some (.o i 0) → (stB X Y g w).objs[i]? = some (.x [.s c, .b g]) → (obB X Y)[i]? = some SX.Obj.dead → ∃ v, E.get t = some v ∧ Den (Own m (obB X Y)) m H (.p [.s c, .b g]) v := by
    intro t i c h1 h2 h3
    obtain ⟨v, e1, id, e2, rfl⟩ := hs.env t _ h1
    obtain ⟨id', vs, h4, h5, h6, h7⟩ := hs.obs.ok i _ _ h2 e2
    cases h4
    refine ⟨_, e1, ⟨id, 0, none⟩, vs, rfl, DenL.mono (H := H) (H' := H) (fun id _ h => hO0 id h) (Nat.le_refl _) (fun _ _ _ => rfl) _ _ (fun _ _ _ h => h) h7, ⟨vs, 0⟩, h5, ?_, h6, ?_⟩
    · rintro ⟨j, o, v, k1, k2, k3, k4⟩
      have := hs.obs.dis i j _ o _ v id h2 (by intro h; cases h) ((hsub j o k1).resolve_left k2) k2 e2 k3 rfl k4
      subst this
      rw [h3] at k1; cases k1; exact k2 rfl
    · intro j v hv
      show vs[0 + j]? = some v
      rw [Nat.zero_add]; exact hv
  obtain ⟨hO, hk⟩ := hs.kill (env' := (stB2 X Y g w).env) (objs' := obB X Y) rfl hsub (by
      intro t x h
      simp only [stB2, T.get_set] at h
      split at h
      · cases h; rename_i e; subst e
        obtain ⟨v, e1, e2⟩ := hs.env 7 (.i .i64 w) rfl
        exact ⟨v, e1, e2⟩
      split at h
      · cases h; rename_i e; subst e
        obtain ⟨v, e1, e2⟩ := hs.env 5 (.o 3 0) rfl
        exact ⟨v, e1, e2⟩
      split at h
      · cases h; rename_i e; subst e
        obtain ⟨v, e1, e2⟩ := hs.env 4 (.o 2 0) rfl
        exact ⟨v, e1, e2⟩
      split at h
      · cases h; rename_i e; subst e
        exact box 3 1 5 rfl rfl rfl
      split at h
      · cases h; rename_i e; subst e
        exact box 2 0 4 rfl rfl rfl
      · cases h)
  refine Cw.seq (Cw.region3 ?_)
  refine (Ow.len (Ow.unset (t := 3) rfl (WO_ok (fl := []) (os := balOps) (K := balK q) (bal_wo rfl X Y g w hX hY lX lY hw q hq) hk))).mono ?_
  rintro E' H' fl ⟨⟨⟨s', m', f, ⟨hf, hp⟩, hle, hs'⟩, q3⟩, hlen⟩
  subst hf
  obtain ⟨p3, e3, i3, k3, rfl⟩ := hs.env 3 (.o 1 0) rfl
  rw [hi] at k3; cases k3
  obtain ⟨b3, _⟩ : id3 < H.n ∧ True := by
    obtain ⟨id', vs, h1, h2, -⟩ := hs.obs.ok 1 (.x [.s 5, .b g]) _ rfl hi
    cases h1; exact ⟨h2, trivial⟩
  have q3' : T.get E' 3 = some (.pointer (some ⟨id3, 0, none⟩)) := by rw [q3]; exact e3
  have hwl : id3 + 1 ≤ H'.wl := hs'.fr.wl (id3 + 1) b3 b3 fun id h => hlow id h
  refine ⟨mark2_ok 3 (by simp [hlen]) hle ?_ (by decide), fun y hy => ?_⟩
  · simp only [balOps, List.drop_succ_cons, List.drop_zero, markC, Bool.and_eq_true]
    refine ⟨?_, ?_⟩
    · simp only [oldLoad, q3', Bool.and_eq_true]
      exact ⟨Nat.ble_eq_true_of_le b3, by decide⟩
    · simp only [loadBlk, q3']
      exact missed_ok fun i o os' h1 h2 => .inl hwl
  · exact Cw.ret ⟨s', m', hp, hs.back2 hs' hO hy⟩
theorem nB_any (l : List Int) : nB l ≠ [] ∧ (nB l).length ≤ 128 := by
  unfold nB
  split
  · rename_i h
    unfold chk at h
    split at h
    · cases h
    · split at h
      · cases h
      · rename_i h1 h2
        exact ⟨fun e => h1 (by rw [e]; rfl), by omega⟩
  · exact ⟨by simp, by simp⟩
theorem balance_ok (l m : List Int) (s t : Bool) (hl : l.length < 2 ^ 14) (hm : m.length < 2 ^ 14) : FvC CX TB (.f 98 [] []) [.a [.u l, .b s], .a [.u m, .b t]] [] (RP (bX l s m t) (bY l s m t) (bg l s m t)) := by
  refine fn_sws rfl rfl fun B d q hq m0 E H hs => ?_
  refine Cw.seq (Cw.region ?_)
  refine wop_ok (K := fun x s' f => x = .o 0 0 ∧ s' = ⟨envS [.a [.u l, .b s], .a [.u m, .b t]] 0, [.x [.u l, .b s]]⟩) rfl (by cbv) hs fun x s1 f E1 H1 m1 b ⟨hx, hs'⟩ hs1 _ => ?_
  subst hx hs'
  refine wop_ok (K := fun x s' f => x = .o 1 0 ∧ s' = ⟨((envS [.a [.u l, .b s], .a [.u m, .b t]] 0).set 2 (.o 0 0)), [.x [.u l, .b s], .x [.u m, .b t]]⟩) rfl (by cbv) hs1 fun x s2 f E2 H2 m2 b ⟨hx, hs'⟩ hs2 _ => ?_
  subst hx hs'
  obtain ⟨p2, e2, id2, k2, rfl⟩ := hs2.env 2 (.o 0 0) rfl
  obtain ⟨p3, e3, id3, k3, rfl⟩ := hs2.env 3 (.o 1 0) rfl
  have b3 : id3 < H2.n := by
    obtain ⟨id', vs, h1, h2, -⟩ := hs2.obs.ok 1 (.x [.u m, .b t]) _ rfl k3
    cases h1; exact h2
  obtain ⟨D, hD⟩ : ∃ D : Bs, D = ⟨Own m2 [.x [.u l, .b s], .x [.u m, .b t]], boxM m2 [.x [.u l, .b s], .x [.u m, .b t]]⟩ := ⟨_, rfl⟩
  have hs3 : Sat TB H2 D m2 (SX.St.put ⟨((envS [.a [.u l, .b s], .a [.u m, .b t]] 0).set 2 (.o 0 0)), [.x [.u l, .b s], .x [.u m, .b t]]⟩ (some 3) (.o 1 0)) E2 H2 := by
    subst hD
    refine ⟨hs2.obs, fun id h => .inr h, hs2.env, ⟨Nat.le_refl _, fun _ _ _ => rfl, fun x h _ _ => h⟩, fun i v hv => ?_, hs2.gl⟩
    change boxM m2 [.x [.u l, .b s], .x [.u m, .b t]] i = some v at hv
    unfold boxM at hv
    split at hv
    · rename_i cs hc; exact ⟨hv, cs, hc⟩
    · exact (by cases hv)
  have f2 : ∀ {m : List Value} {s : St} {E : Env} {H : AH}, Sat TB H2 D m s E H → m[0]? = some (.pointer (some ⟨id2, 0, none⟩)) ∧ m[1]? = some (.pointer (some ⟨id3, 0, none⟩)) := by
    intro m s E H hs
    subst hD
    exact ⟨(hs.fix 0 _ k2).1, (hs.fix 1 _ k3).1⟩
  obtain ⟨G, hG⟩ : ∃ G, G = std CX TB H2 D := ⟨_, rfl⟩
  refine (WO_ok (fl := []) (K := fun s' fl => s' = ⟨((((envS [.a [.u l, .b s], .a [.u m, .b t]] 0).set 2 (.o 0 0)).set 3 (.o 1 0)).set 4 (.o 2 0)).set 5 (.o 3 0), [.x [.u l, .b s], .x [.u m, .b t], .x [.nil, .kb false], .x [.nil, .kb false]]⟩) (by cbv) hs3).mono ?_
  rintro E4 H4 fl ⟨s4, m4, fl4, hK, -, hs4⟩
  subst hK
  refine ⟨fun h => (by cases h), ?_⟩
  have h2own : ∀ id, D.d id → Own m2 [.x [.u l, .b s], .x [.u m, .b t]] id := by subst hD; exact fun _ h => h
  refine Cw.mono (Q := fun c E' H' => ∃ s' m', post [.cell 4 (some 2), .cell 5 (some 2)] q c s' ∧ Sat TB H2 ⟨D.d, fun _ => none⟩ m' s' E' H') ?_ fun c E' H' ⟨s', m', hp, hs'⟩ => ⟨s', m', hp, hs2.trans hs' h2own⟩
  refine cw_seq hG hs4 fun R hR => ?_
  cbv
  refine call hG [] (norm_ok l s (by omega)) ⟨rfl, rfl, rfl⟩ ?_
  rintro _ _ ⟨X, g1, rfl, rfl, hX, hg1⟩
  cbv
  refine call hG [] (norm_ok m t (by omega)) ⟨rfl, rfl, rfl⟩ ?_
  rintro _ _ ⟨Y, g2, rfl, rfl, hY, hg2⟩
  cbv
  refine okd hG rfl ?_
  refine hR _ ?_
  clear hR R hs4
  intro m4 E4 H4 hs4
  have aX := nB_any l
  have aY := nB_any m
  rw [← hX] at aX
  rw [← hY] at aY
  have em : G.mx (G.lu X) (G.lu Y) = (bwd l m : Int) := by
    unfold bwd
    rw [← hX, ← hY]
    subst hG
    show AL.mx ((X.length : Nat) : Int) ((Y.length : Nat) : Int) = ((max X.length Y.length : Nat) : Int)
    unfold AL.mx
    simp
    omega
  have hw : 1 ≤ G.mx (G.lu X) (G.lu Y) ∧ G.mx (G.lu X) (G.lu Y) < 2 ^ 14 := by
    rw [em]
    unfold bwd
    rw [← hX, ← hY]
    have := List.length_pos_iff.2 aX.1
    have h1 := aX.2; have h2 := aY.2
    show 1 ≤ ((max X.length Y.length : Nat) : Int) ∧ ((max X.length Y.length : Nat) : Int) < 2 ^ 14
    omega
  have lX : X.length < 2 ^ 14 := by have := aX.2; omega
  have lY : Y.length < 2 ^ 14 := by have := aY.2; omega
  have hq2 : ∀ g, g = (g1 && g2) → ∀ L M g' h', L = rsz X g (G.mx (G.lu X) (G.lu Y)).toNat → M = rsz Y g (G.mx (G.lu X) (G.lu Y)).toNat → g' = g → h' = g → q (.t [.a [.s 0, .b g'], .a [.s 1, .b h']]) [.u L, .u M] := by
    intro g hg L M g' h' e1 e2 e3 e4
    rw [em, hX, hg, hg1, hg2] at e1
    rw [em, hY, hg, hg1, hg2] at e2
    rw [hg, hg1, hg2] at e3 e4
    exact hq _ _ ⟨L, M, g', h', rfl, rfl, e1, e2, e3, e4⟩
  have hlow : ∀ {m4 : List Value} {E4 : Env} {H4 : AH} {g : Bool} {w : Int}, Sat TB H2 D m4 (stB X Y g w) E4 H4 → m4[0]? = some (.pointer (some ⟨id2, 0, none⟩)) → m4[1]? = some (.pointer (some ⟨id3, 0, none⟩)) → ∀ id, Own m4 (obB X Y) id → id3 < id := by
    intro m4 E4 H4 g w hs c2 c3 id ho
    rcases hs.own id (obB_own id ho) with h | h
    · omega
    · exfalso
      obtain ⟨i, o, v, a1, a2, a3, a4⟩ := ho
      have a5 := (obB_sub (g := g) (w := w) i o a1).resolve_left a2
      obtain ⟨j, o', v', d1, d2, d3, d4⟩ := h2own id h
      match j, d1, d3 with
      | 0, d1, d3 =>
        rw [k2] at d3; cases d3; cases d4
        have := hs.obs.dis 0 i _ o _ v id2 rfl (by intro h; cases h) a5 a2 c2 a3 rfl a4
        subst this
        cases a1; exact a2 rfl
      | 1, d1, d3 =>
        rw [k3] at d3; cases d3; cases d4
        have := hs.obs.dis 1 i _ o _ v id3 rfl (by intro h; cases h) a5 a2 c3 a3 rfl a4
        subst this
        cases a1; exact a2 rfl
      | j + 2, d1, d3 => cases d1
  refine cw_seqP hG hs4 fun P R hP hR => ?_
  have key : ∀ g, g = (g1 && g2) → P ⟨(((((T.nil.set 2 (SV.o 0 0)).set 3 (.o 1 0)).set 4 (.o 2 0)).set 5 (.o 3 0)).set 6 (.b g)), [.x [.s 4, .b g1], .x [.s 5, .b g2], .x [.nil, .kb false], .x [.nil, .kb false], .u X, .u Y]⟩ := by
    intro g hg
    rw [hP]
    clear hP hR P R hs4
    intro m4 E4 H4 hs4
    refine cw_seq hG hs4 fun R hR => ?_
    cbv
    refine hR _ ?_
    clear hR R hs4
    intro m4 E4 H4 hs4
    refine cw_seq hG hs4 fun R hR => ?_
    cbv
    refine hR _ ?_
    clear hR R hs4
    intro m4 E4 H4 hs4
    have hs5 := hs4.less (stB X Y g (G.mx (G.lu X) (G.lu Y))).env (by cbv <;> simp)
    obtain ⟨c2, c3⟩ := f2 hs4
    exact bal_tail X Y g (G.mx (G.lu X) (G.lu Y)) hs5 id3 c3 (hlow hs5 c2 c3) aX.1 aY.1 lX lY hw q (hq2 g hg)
  cbv
  refine SX.ite hG (fun h1 => ?_) (fun h1 => ?_)
  · exact hR _ (lessP hP _ (by cbv <;> simp) (key g2 (by rw [h1]; rfl)))
  · exact hR _ (lessP hP _ (by cbv <;> simp) (key false (by rw [h1]; rfl)))
theorem bwd_r {l m : List Int} (hl : Byt l) (hm : Byt m) : 1 ≤ bwd l m ∧ bwd l m ≤ 128 := by
  have h1 := nB_nv hl
  have h2 := nB_nv hm
  have := h1.len; have := h2.len; have := List.length_pos_iff.2 h1.ne
  unfold bwd
  show 1 ≤ max _ _ ∧ max _ _ ≤ _
  omega
theorem bX_nv {l m : List Int} {s t : Bool} (hl : Byt l) (hm : Byt m) : NV (bX l s m t) := rsz_nv (nB_nv hl) (bwd_r hl hm).1 (bwd_r hl hm).2
theorem bY_nv {l m : List Int} {s t : Bool} (hl : Byt l) (hm : Byt m) : NV (bY l s m t) := rsz_nv (nB_nv hm) (bwd_r hl hm).1 (bwd_r hl hm).2
theorem bX_len {l m : List Int} {s t : Bool} : (bX l s m t).length = bwd l m := rsz_len
theorem bY_len {l m : List Int} {s t : Bool} : (bY l s m t).length = bwd l m := rsz_len
/-- f of all pairs. -/
def zipW (f : Int → Int → Int) (l m : List Int) : List Int := (List.range l.length).map fun i => f (gu l (i : Nat)) (gu m (i : Nat))
theorem zipW_len {f : Int → Int → Int} {l m : List Int} : (zipW f l m).length = l.length := by simp [zipW]
theorem zipW_get {f : Int → Int → Int} {l m : List Int} {i : Nat} (h : i < l.length) : gu (zipW f l m) i = f (gu l i) (gu m i) := by
  unfold zipW
  show ((((List.range l.length).map fun i => f (gu l (i : Nat)) (gu m (i : Nat)))[((i : Nat) : Int).toNat]?).getD 0) = _
  rw [Int.toNat_natCast, List.getElem?_map, List.getElem?_range h]; rfl
theorem zipW_nv {f : Int → Int → Int} {l m : List Int} (hl : NV l) (hm : NV m) (he : l.length = m.length) (hf4 : ∀ x y, V4 x → V4 y → V4 (f x y)) : NV (zipW f l m) := by
  refine ⟨fun e => ?_, by rw [zipW_len]; exact hl.len, fun x hx => ?_⟩
  · have := congrArg List.length e
    rw [zipW_len] at this
    exact hl.ne (List.length_eq_zero_iff.1 this)
  · obtain ⟨i, hi, rfl⟩ := List.mem_map.1 hx
    rw [List.mem_range] at hi
    exact hf4 _ _ (hl.v _ (gu_mem hi)) (hm.v _ (gu_mem (by omega)))
theorem bitwise_ok (l m : List Int) (s t : Bool) (hl : l.length < 2 ^ 14) (hm : m.length < 2 ^ 14) (bl : Byt l) (bm : Byt m) (k : Nat) (fs cs : List SV) (f : Int → Int → Int) (hf4 : ∀ x y, V4 x → V4 y → V4 (f x y)) (hf : ∀ x y, V4 x → V4 y → FvC CX TB (.fq k fs cs) [.i .u8 x, .i .u8 y] [] (RI .u8 (f x y))) :
    FvC CX TB (.f 99 [] []) [.a [.u l, .b s], .a [.u m, .b t], .fq k fs cs] [] (RV (zipW f (bX l s m t) (bY l s m t)) (bg l s m t)) := by
  have nX := bX_nv (s := s) (t := t) bl bm
  have nY := bY_nv (s := s) (t := t) bl bm
  have hXY : (bX l s m t).length = (bY l s m t).length := by rw [bX_len, bY_len]
  refine fn_ok rfl rfl fun B D G hG q hq => ?_
  cbv
  refine call hG [] (balance_ok l m s t hl hm) ⟨rfl, rfl, rfl⟩ ?_
  rintro _ _ ⟨X, Y, g, h, rfl, rfl, hX, hY, hg, hh⟩
  cbv
  rw [← hX] at nX
  rw [← hY] at nY
  rw [← hX, ← hY] at hXY
  have hlen := nX.len
  refine lp hG (α := Int × List Int) (fun p => ∃ n : Nat, p.1 = (n : Int) ∧ n ≤ X.length ∧ p.2.length = X.length ∧ ∀ i : Nat, i < X.length → gu p.2 i = if i < n then f (gu X i) (gu Y i) else gu X i) (fun p => X.length - p.1.toNat) (fun s p => (s.put (some 20) (.i .i64 p.1)).setO 3 (.u p.2)) (0, X) ⟨0, rfl, Nat.zero_le _, rfl, by simp⟩ (by constructor <;> cbv <;> simp) ?_
  rintro ⟨j, L⟩ ⟨n, hj, hn, hL, hi⟩
  have hL : L.length = X.length := hL
  cbv
  have hj : j = (n : Int) := hj
  have hi : ∀ i : Nat, i < X.length → gu L i = if i < n then f (gu X i) (gu Y i) else gu X i := hi
  refine SX.ite hG (fun h3 => ?_) (fun h3 => ?_)
  · have h3 : n < X.length := by
      rw [hG, hj] at h3
      have h3 : (n : Int) < (Y.length : Int) := of_decide_eq_true h3
      omega
    have v1 : G.ix j (G.lu Y) := by rw [hG, hj]; show 0 ≤ (n : Int) ∧ (n : Int) < (Y.length : Int); omega
    have v2 : G.ix j (G.lu L) := by rw [hG, hj]; show 0 ≤ (n : Int) ∧ (n : Int) < (L.length : Int); omega
    refine ⟨v1, v1, v2, v2, ?_⟩
    have e1 : G.gu L j = gu X n := by rw [hG, hj]; show gu L n = _; rw [hi n h3, if_neg (by omega)]
    have e2 : G.gu Y j = gu Y n := by rw [hG, hj]; rfl
    have m1 : V4 (G.gu L j) := by rw [e1]; exact nX.v _ (gu_mem h3)
    have m2 : V4 (G.gu Y j) := by rw [e2]; exact nY.v _ (gu_mem (by omega))
    refine callQ hG [] (hf _ _ m1 m2) ⟨rfl, rfl, rfl⟩ ?_
    rintro _ _ ⟨c, rfl, rfl, hc⟩
    cbv
    rw [e1, e2] at hc
    have hj : j = (n : Int) := hj
    have hnx : G.su L j c = L.set n (f (gu X n) (gu Y n)) := by rw [hc, hG, hj]; rfl
    have hi2 : ∀ i : Nat, i < X.length → gu (G.su L j c) i = if i < n + 1 then f (gu X i) (gu Y i) else gu X i := fun i hlt => by
      rw [hnx, gu_set (by omega)]
      split
      · rename_i e; rw [e, if_pos (by omega)]
      · rw [hi i hlt]
        by_cases h5 : i < n
        · rw [if_pos h5, if_pos (by omega)]
        · rw [if_neg h5, if_neg (by omega)]
    refine ⟨v2, v2, okd hG rfl ?_⟩
    exact ⟨(G.ar .add .i64 j (Int.ofNat 1), G.su L j c), ⟨n + 1, inc hG hj (by omega), h3, by show (G.su _ _ _).length = _; rw [hnx]; simp [hL], hi2⟩, mu hj (inc hG hj (by omega)) h3, by constructor <;> cbv <;> simp⟩
  · have h3 : X.length ≤ n := by
      rw [hG, hj] at h3
      have h3 : ¬ (n : Int) < (Y.length : Int) := of_decide_eq_false h3
      omega
    refine hq _ _ ⟨_, _, rfl, rfl, ?_, hg⟩
    rw [← hX, ← hY]
    refine gu_ext (by rw [hL, zipW_len]) fun i hlt => ?_
    rw [hi i (by omega), if_pos (by omega), zipW_get (by omega)]
theorem RP.nv {l m : List Int} {s t : Bool} (bl : Byt l) (bm : Byt m) : NV (bX l s m t) ∧ NV (bY l s m t) ∧ (bX l s m t).length = (bY l s m t).length := ⟨bX_nv bl bm, bY_nv bl bm, by rw [bX_len, bY_len]⟩
/-- A function of two vectors by pairs of bits. -/
def bwF (f : Int → Int → Int) (l : List Int) (s : Bool) (m : List Int) (t : Bool) : List Int := zipW f (bX l s m t) (bY l s m t)
section
variable (l m : List Int) (s t : Bool) (hl : l.length < 2 ^ 14) (hm : m.length < 2 ^ 14) (bl : Byt l) (bm : Byt m)
include hl hm bl bm
theorem vAnd_ok : FvC CX TB (.f 82 [] []) [.a [.u l, .b s], .a [.u m, .b t]] [] (RV (bwF bAnd l s m t) (bg l s m t)) := by
  refine fn_ok rfl rfl fun B D G hG q hq => ?_
  cbv
  refine call hG [] (bitwise_ok l m s t hl hm bl bm 124 [] [] bAnd bAnd_44 (fun x y hx hy => fq_ok (bAnd_ok x y hx.1 hy.1))) ⟨rfl, rfl, rfl⟩ ?_
  rintro _ _ ⟨L, g, rfl, rfl, hL, hg⟩
  cbv
  exact hq _ _ ⟨_, _, rfl, rfl, hL, hg⟩
theorem vOr_ok : FvC CX TB (.f 31 [] []) [.a [.u l, .b s], .a [.u m, .b t]] [] (RV (bwF bOr l s m t) (bg l s m t)) := by
  refine fn_ok rfl rfl fun B D G hG q hq => ?_
  cbv
  refine call hG [] (bitwise_ok l m s t hl hm bl bm 97 [] [] bOr bOr_44 (fun x y hx hy => fq_ok (bOr_ok x y hx.1 hy.1))) ⟨rfl, rfl, rfl⟩ ?_
  rintro _ _ ⟨L, g, rfl, rfl, hL, hg⟩
  cbv
  exact hq _ _ ⟨_, _, rfl, rfl, hL, hg⟩
theorem vXor_ok : FvC CX TB (.f 83 [] []) [.a [.u l, .b s], .a [.u m, .b t]] [] (RV (bwF bXor l s m t) (bg l s m t)) := by
  refine fn_ok rfl rfl fun B D G hG q hq => ?_
  cbv
  refine call hG [] (bitwise_ok l m s t hl hm bl bm 125 [] [] bXor bXor_44 (fun x y hx hy => fq_ok (bXor_ok x y hx.1 hy.1))) ⟨rfl, rfl, rfl⟩ ?_
  rintro _ _ ⟨L, g, rfl, rfl, hL, hg⟩
  cbv
  exact hq _ _ ⟨_, _, rfl, rfl, hL, hg⟩
theorem vXnor_ok : FvC CX TB (.f 84 [] []) [.a [.u l, .b s], .a [.u m, .b t]] [] (RV (bwF bEq l s m t) (bg l s m t)) := by
  refine fn_ok rfl rfl fun B D G hG q hq => ?_
  cbv
  refine call hG [] (bitwise_ok l m s t hl hm bl bm 150 [] [] bEq bEq_44 (fun x y hx hy => fq_ok (bEq_ok x y hx.1 hy.1))) ⟨rfl, rfl, rfl⟩ ?_
  rintro _ _ ⟨L, g, rfl, rfl, hL, hg⟩
  cbv
  exact hq _ _ ⟨_, _, rfl, rfl, hL, hg⟩
def eqB (l : List Int) (s : Bool) (m : List Int) (t : Bool) : Int := fld bAnd (bwF bEq l s m t)
end
theorem redAnd_ok (l : List Int) (s : Bool) (hl : l.length < 2 ^ 15) (hb : Byt l) : FvC CX TB (.f 40 [] []) [.a [.u l, .b s]] [] (RV1 (fld bAnd (nB l)) false) := by
  have nv := nB_nv hb
  refine fn_ok rfl rfl fun B D G hG q hq => ?_
  cbv
  refine call hG [] (norm_ok l s hl) ⟨rfl, rfl, rfl⟩ ?_
  rintro _ _ ⟨L, t, rfl, rfl, hL, ht⟩
  cbv
  have nvL : NV L := by rw [hL]; exact nv
  refine call hG [] (fold_ok L t nvL.ne (by have := nvL.len; omega) nvL.v 124 [] [] bAnd bAnd_44 (fun x y hx hy => fq_ok (bAnd_ok x y hx.1 hy.1))) ⟨rfl, rfl, rfl⟩ ?_
  rintro _ _ ⟨c, rfl, rfl, hc⟩
  cbv
  refine call hG [] (single_ok c) ⟨rfl, rfl, rfl⟩ ?_
  rintro _ _ ⟨M, g, rfl, rfl, hM, hg⟩
  cbv
  exact hq _ _ ⟨_, _, rfl, rfl, by rw [hM, hc, hL], hg⟩
theorem redOr_ok (l : List Int) (s : Bool) (hl : l.length < 2 ^ 15) (hb : Byt l) : FvC CX TB (.f 41 [] []) [.a [.u l, .b s]] [] (RV1 (fld bOr (nB l)) false) := by
  have nv := nB_nv hb
  refine fn_ok rfl rfl fun B D G hG q hq => ?_
  cbv
  refine call hG [] (norm_ok l s hl) ⟨rfl, rfl, rfl⟩ ?_
  rintro _ _ ⟨L, t, rfl, rfl, hL, ht⟩
  cbv
  have nvL : NV L := by rw [hL]; exact nv
  refine call hG [] (fold_ok L t nvL.ne (by have := nvL.len; omega) nvL.v 97 [] [] bOr bOr_44 (fun x y hx hy => fq_ok (bOr_ok x y hx.1 hy.1))) ⟨rfl, rfl, rfl⟩ ?_
  rintro _ _ ⟨c, rfl, rfl, hc⟩
  cbv
  refine call hG [] (single_ok c) ⟨rfl, rfl, rfl⟩ ?_
  rintro _ _ ⟨M, g, rfl, rfl, hM, hg⟩
  cbv
  exact hq _ _ ⟨_, _, rfl, rfl, by rw [hM, hc, hL], hg⟩
theorem redXor_ok (l : List Int) (s : Bool) (hl : l.length < 2 ^ 15) (hb : Byt l) : FvC CX TB (.f 42 [] []) [.a [.u l, .b s]] [] (RV1 (fld bXor (nB l)) false) := by
  have nv := nB_nv hb
  refine fn_ok rfl rfl fun B D G hG q hq => ?_
  cbv
  refine call hG [] (norm_ok l s hl) ⟨rfl, rfl, rfl⟩ ?_
  rintro _ _ ⟨L, t, rfl, rfl, hL, ht⟩
  cbv
  have nvL : NV L := by rw [hL]; exact nv
  refine call hG [] (fold_ok L t nvL.ne (by have := nvL.len; omega) nvL.v 125 [] [] bXor bXor_44 (fun x y hx hy => fq_ok (bXor_ok x y hx.1 hy.1))) ⟨rfl, rfl, rfl⟩ ?_
  rintro _ _ ⟨c, rfl, rfl, hc⟩
  cbv
  refine call hG [] (single_ok c) ⟨rfl, rfl, rfl⟩ ?_
  rintro _ _ ⟨M, g, rfl, rfl, hM, hg⟩
  cbv
  exact hq _ _ ⟨_, _, rfl, rfl, by rw [hM, hc, hL], hg⟩
theorem fld_4 {f : Int → Int → Int} (hf4 : ∀ x y, V4 x → V4 y → V4 (f x y)) {l : List Int} (h : NV l) : V4 (fld f l) := fold_4 hf4 (bBuf_4 (h.v _ (gu_mem (n := 0) (List.length_pos_iff.2 h.ne))).1) (fun y hy => h.v y (List.mem_of_mem_drop hy))
theorem redNand_ok (l : List Int) (s : Bool) (hl : l.length < 2 ^ 15) (hb : Byt l) : FvC CX TB (.f 43 [] []) [.a [.u l, .b s]] [] (RV1 (bNot (fld bAnd (nB l))) false) := by
  have h4 := fld_4 bAnd_44 (nB_nv hb)
  refine fn_ok rfl rfl fun B D G hG q hq => ?_
  cbv
  refine call hG [] (redAnd_ok l s hl hb) ⟨rfl, rfl, rfl⟩ ?_
  rintro _ _ ⟨L, t, rfl, rfl, hL, ht⟩
  cbv
  rw [← hL] at h4
  refine call hG [] (vnot1_ok L t h4) ⟨rfl, rfl, rfl⟩ ?_
  rintro _ _ ⟨M, g, rfl, rfl, hM, hg⟩
  cbv
  exact hq _ _ ⟨_, _, rfl, rfl, by rw [hM, hL], by rw [hg, ht]⟩
theorem redNor_ok (l : List Int) (s : Bool) (hl : l.length < 2 ^ 15) (hb : Byt l) : FvC CX TB (.f 44 [] []) [.a [.u l, .b s]] [] (RV1 (bNot (fld bOr (nB l))) false) := by
  have h4 := fld_4 bOr_44 (nB_nv hb)
  refine fn_ok rfl rfl fun B D G hG q hq => ?_
  cbv
  refine call hG [] (redOr_ok l s hl hb) ⟨rfl, rfl, rfl⟩ ?_
  rintro _ _ ⟨L, t, rfl, rfl, hL, ht⟩
  cbv
  rw [← hL] at h4
  refine call hG [] (vnot1_ok L t h4) ⟨rfl, rfl, rfl⟩ ?_
  rintro _ _ ⟨M, g, rfl, rfl, hM, hg⟩
  cbv
  exact hq _ _ ⟨_, _, rfl, rfl, by rw [hM, hL], by rw [hg, ht]⟩
theorem redXnor_ok (l : List Int) (s : Bool) (hl : l.length < 2 ^ 15) (hb : Byt l) : FvC CX TB (.f 45 [] []) [.a [.u l, .b s]] [] (RV1 (bNot (fld bXor (nB l))) false) := by
  have h4 := fld_4 bXor_44 (nB_nv hb)
  refine fn_ok rfl rfl fun B D G hG q hq => ?_
  cbv
  refine call hG [] (redXor_ok l s hl hb) ⟨rfl, rfl, rfl⟩ ?_
  rintro _ _ ⟨L, t, rfl, rfl, hL, ht⟩
  cbv
  rw [← hL] at h4
  refine call hG [] (vnot1_ok L t h4) ⟨rfl, rfl, rfl⟩ ?_
  rintro _ _ ⟨M, g, rfl, rfl, hM, hg⟩
  cbv
  exact hq _ _ ⟨_, _, rfl, rfl, by rw [hM, hL], by rw [hg, ht]⟩
end Go.Proofs.YtdgbdkfoeaollaaGreatDoor.V
