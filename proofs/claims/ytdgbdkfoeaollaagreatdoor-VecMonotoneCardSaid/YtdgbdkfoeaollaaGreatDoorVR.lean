/- resize: a slice that came in is grown. -/
import Derived.Test.YtdgbdkfoeaollaaGreatDoorVF
set_option linter.unusedSimpArgs false
set_option linter.unusedVariables false
namespace Go.Proofs.YtdgbdkfoeaollaaGreatDoor.V
open Go Go.AL Go.SX
def top (l : List Int) (s : Bool) : Int := if s then gu l (l.length - 1 : Nat) else 0
def rsz (l : List Int) (s : Bool) (w : Nat) : List Int := if w ≤ l.length then l.take w else l ++ List.replicate (w - l.length) (top l s)
theorem rsz_len {l : List Int} {s : Bool} {w : Nat} : (rsz l s w).length = w := by
  unfold rsz; split <;> simp <;> omega
theorem top_4 {l : List Int} (h : NV l) (s : Bool) : V4 (top l s) := by
  unfold top
  split
  · exact h.v _ (gu_mem (by have := List.length_pos_iff.2 h.ne; omega))
  · constructor <;> decide
theorem rsz_nv {l : List Int} {s : Bool} {w : Nat} (h : NV l) (h1 : 1 ≤ w) (h2 : w ≤ 128) : NV (rsz l s w) := by
  refine ⟨fun e => ?_, by rw [rsz_len]; exact h2, fun x hx => ?_⟩
  · have := congrArg List.length e
    rw [rsz_len] at this; simp at this; omega
  · unfold rsz at hx
    split at hx
    · exact h.v x (List.mem_of_mem_take hx)
    · rcases List.mem_append.1 hx with hx | hx
      · exact h.v x hx
      · rw [(List.mem_replicate.1 hx).2]; exact top_4 h s
/-- The last region of resize, and what is behind it. -/
def tailR : IC := (.seq (.region true [⟨(some 29), none, (.fieldAddr 0 (.tmp 2))⟩, ⟨(some 30), none, (.load none (.tmp 29))⟩, ⟨(some 31), none, (.mov (.tmp 6))⟩, ⟨(some 32), none, (.buildSlice [(.int .u8 0)] 1 [(0, (1, (.tmp 31)))])⟩, ⟨(some 33), none, (.mov (.tmp 1))⟩, ⟨(some 34), none, (.mov (.tmp 5))⟩, ⟨(some 35), none, (.bin 0 .sub (.tmp 33) (.tmp 34))⟩, ⟨(some 36), none, (.call (.func 108) [(.tmp 32), (.tmp 35)])⟩, ⟨(some 37), none, (.append 1 1 (.tmp 30) (.tmp 36))⟩, ⟨(some 38), none, (.fieldAddr 1 (.tmp 2))⟩, ⟨(some 39), none, (.load none (.tmp 38))⟩, ⟨(some 40), none, (.build [(.slice none 0 0), (.bool false)] [(0, (1, (.tmp 37))), (1, (1, (.tmp 39)))])⟩, ⟨none, none, (.store 2 (.tmp 4) (.tmp 40))⟩] [0, 1, 0, 4, 0, 0, 48, 124, 255, 0, 512, 2047, 4095]) .ret)
def stR (l : List Int) (sg : Bool) (w n x : Int) : St := ⟨((((T.nil.set 1 (SV.i .i64 w)).set 2 (.o 1 0)).set 4 (.o 2 0)).set 5 (.i .i64 n)).set 6 (.i .u8 x), [.u l, .x [.s 0, .b sg], .x [.nil, .kb false]]⟩
theorem fl_cons2 {a c : Bool × Bool} {xs ys : List (Bool × Bool)} (h : FlLe xs ys) : FlLe (a :: c :: xs) (a :: c :: ys) := ⟨⟨rfl, fun h => h⟩, ⟨rfl, fun h => h⟩, h⟩
def tailOps : List IOper := [⟨(some 31), none, (.mov (.tmp 6))⟩, ⟨(some 32), none, (.buildSlice [(.int .u8 0)] 1 [(0, (1, (.tmp 31)))])⟩, ⟨(some 33), none, (.mov (.tmp 1))⟩, ⟨(some 34), none, (.mov (.tmp 5))⟩, ⟨(some 35), none, (.bin 0 .sub (.tmp 33) (.tmp 34))⟩, ⟨(some 36), none, (.call (.func 108) [(.tmp 32), (.tmp 35)])⟩, ⟨(some 37), none, (.append 1 1 (.tmp 30) (.tmp 36))⟩, ⟨(some 38), none, (.fieldAddr 1 (.tmp 2))⟩, ⟨(some 39), none, (.load none (.tmp 38))⟩, ⟨(some 40), none, (.build [(.slice none 0 0), (.bool false)] [(0, (1, (.tmp 37))), (1, (1, (.tmp 39)))])⟩, ⟨none, none, (.store 2 (.tmp 4) (.tmp 40))⟩]
def tailK (q : SV → List SX.Obj → Prop) : St → List (Bool × Bool) → Prop := fun s' fl => (s'.env.get 38 = some (.o 1 1) ∧ s'.env.get 4 = some (.o 2 0) ∧ fl = [(false,false),(true,false),(false,false),(false,false),(false,false),(true,false),(true,true),(false,false),(true,false),(false,false),(true,true)]) ∧ post [.cell 4 (some 2)] q .ret s'
theorem tail_wo {B : AH} {D : Bs} {G : Sg} (hG : G = std CX TB B D) (l : List Int) (sg : Bool) (w n x : Int) (hn : n = (l.length : Int)) (hl : l.length < 2 ^ 14) (hw : n < w ∧ w < 2 ^ 14) (q : SV → List SX.Obj → Prop)
    (hq : ∀ L, L = l ++ List.replicate (w.toNat - l.length) x → q (.a [.s 0, .b sg]) [.u L]) : WO G TB tailOps (((stR l sg w n x).put (some 29) (SV.o 1 0)).put (some 30) (SV.s 0)) [] (tailK q) := by
  have hb : -(2 ^ 62) ≤ w - n ∧ w - n < 2 ^ 62 := by omega
  have hc : 0 ≤ w - n ∧ w - n < 2 ^ 15 := by omega
  have he : (w - n).toNat = w.toNat - l.length := by omega
  clear hn
  cbv
  refine call hG [] (repeat_ok [x] (G.ar .sub .i64 w n) (by simp) (by rw [subi hG hb]; exact hc)) ⟨rfl, rfl, rfl⟩ ?_
  rintro _ _ ⟨L, rfl, rfl, hL⟩
  cbv
  have eL : L = List.replicate (w.toNat - l.length) x := by
    rw [hL, subi hG hb, he]
    refine gu_ext (by rw [repL_len]; simp) fun i hi => ?_
    rw [repL_len] at hi
    rw [repL_get hi]
    simp only [List.length_cons, List.length_nil, Nat.zero_add, Nat.mod_one, Nat.one_mul] at hi ⊢
    unfold gu
    simp only [Int.toNat_natCast]
    rw [List.getElem?_replicate, if_pos (by omega)]
    rfl
  have hq2 := hq _ (congrArg (l ++ ·) eL)
  have hlen : L.length < 2 ^ 14 := by rw [eL, List.length_replicate]; omega
  subst hG
  refine ⟨?_, hq2⟩
  simp only [std]
  omega
theorem resize_tail {B : AH} {d : Nat → Prop} (m0 : List Value) (h0 : m0.length = 3) (l : List Int) (sg : Bool) (w n x : Int) (hne : l ≠ []) (hn : n = (l.length : Int)) (hl : l.length < 2 ^ 14) (hw : n < w ∧ w < 2 ^ 14) (q : SV → List SX.Obj → Prop)
    (hq : ∀ L, L = l ++ List.replicate (w.toNat - l.length) x → q (.a [.s 0, .b sg]) [.u L]) : SWs CX TB B ⟨d, boxM m0 [.u l, .x [.s 0, .b sg], .x [.nil, .kb false]]⟩ tailR (stR l sg w n x) (post [.cell 4 (some 2)] q) := by
  intro m E H hs
  obtain ⟨p1, e1, id1, k1, rfl⟩ := hs.env 2 (.o 1 0) rfl
  obtain ⟨p2, e2, id2, k2, rfl⟩ := hs.env 4 (.o 2 0) rfl
  obtain ⟨v0, k0⟩ : ∃ v, m[0]? = some v := ⟨m[0]'(by rw [hs.obs.len]; exact (by decide : 0 < 3)), List.getElem?_eq_getElem _⟩
  have o0 := hs.obs.ok 0 (.u l) v0 rfl k0
  obtain ⟨i0, c0, kd0, rfl, -, b0, g0⟩ : ∃ id c kd, v0 = .slice (some ⟨id, 0, none⟩) (intV l).length c ∧ ((c = UC ∧ kd = 3) ∨ (c = (intV l).length ∧ kd = 0)) ∧ id < H.n ∧ H.t.get id = some ⟨intV l, kd⟩ := by
    rcases o0 with ⟨rfl, h⟩ | h
    · exfalso; cases l with
      | nil => exact hne rfl
      | cons a l => simp [intV] at h
    · exact h
  obtain ⟨id1', vs1, hv1, b1, g1, w0, ws1, rfl, hw0, wb, ws2, rfl, hwb, rfl⟩ := hs.obs.ok 1 (.x [.s 0, .b sg]) _ rfl k1
  cases hv1
  obtain ⟨hw0, -⟩ := hw0
  rw [k0] at hw0; cases hw0
  obtain ⟨id2', vs2, hv2, b2, -⟩ := hs.obs.ok 2 (.x [.nil, .kb false]) _ rfl k2
  cases hv2
  have n01 : i0 ≠ id1 := fun e => by
    subst e
    exact absurd (hs.obs.dis 0 1 _ _ _ _ i0 rfl (by intro h; cases h) rfl (by intro h; cases h) k0 k1 rfl rfl) (by decide)
  have n12 : id2 ≠ id1 := fun e => by
    subst e
    exact absurd (hs.obs.dis 2 1 _ _ _ _ id2 rfl (by intro h; cases h) rfl (by intro h; cases h) k2 k1 rfl rfl) (by decide)
  have f1 : m0[1]? = some (.pointer (some ⟨id1, 0, none⟩)) := by
    obtain ⟨v, hv⟩ : ∃ v, m0[1]? = some v := ⟨m0[1]'(by omega), List.getElem?_eq_getElem _⟩
    have := (hs.fix 1 v (by simpa [boxM] using hv)).1
    rw [k1] at this; cases this; exact hv
  have f2 : m0[2]? = some (.pointer (some ⟨id2, 0, none⟩)) := by
    obtain ⟨v, hv⟩ : ∃ v, m0[2]? = some v := ⟨m0[2]'(by omega), List.getElem?_eq_getElem _⟩
    have := (hs.fix 2 v (by simpa [boxM] using hv)).1
    rw [k2] at this; cases this; exact hv
  have hs1 := hs.rebase
  refine Cw.seq (Cw.region3 ?_)
  refine Ow.pop (v := .pointer (some ⟨id1, 0, none⟩)) rfl rfl (by simp only [AL.pop, ev, e1]; rfl) ?_
  have hs2 := hs1.put (d := some 29) (x := .o 1 0) (w := .pointer (some ⟨id1, 0, none⟩)) ⟨id1, k1, rfl⟩
  refine Ow.hop (v := .slice (some ⟨i0, 0, none⟩) (intV l).length c0) (H1 := { H with wl := H.n }) rfl rfl rfl (by simp [AL.hop, ev, AL.put, T.get_set, g1, AL.part]) ?_
  have hs3 := hs2.put (d := some 30) (x := .s 0) (w := .slice (some ⟨i0, 0, none⟩) (intV l).length c0) ⟨k0, _, _, _, rfl⟩
  have key := Ow.len (Ow.unset (t := 30) rfl (WO_ok (fl := []) (os := tailOps) (K := tailK q) (tail_wo rfl l sg w n x hn hl hw q hq) hs3))
  refine key.mono ?_
  rintro E' H' fl ⟨⟨⟨s', m', f, ⟨⟨q38, q4, hf⟩, hp⟩, hle, hs'⟩, q30⟩, hlen⟩
  subst hf
  obtain ⟨p38, e38, i38, k38, rfl⟩ := hs'.env 38 (.o 1 1) q38
  obtain ⟨p4, e4, i4, k4, rfl⟩ := hs'.env 4 (.o 2 0) q4
  have g1' := (hs'.fix 1 (.pointer (some ⟨id1, 0, none⟩)) (by simpa [boxM] using f1)).1
  rw [k38] at g1'; cases g1'
  have g2' := (hs'.fix 2 (.pointer (some ⟨id2, 0, none⟩)) (by simpa [boxM] using f2)).1
  rw [k4] at g2'; cases g2'
  have q30' : T.get E' 30 = some (.slice (some ⟨i0, 0, none⟩) (intV l).length c0) := by
    rw [q30]; show (T.set _ 30 _).get 30 = _; rw [T.get_set, if_pos rfl]
  refine ⟨mark2_ok 10 (by simp [hlen]; rfl) (fl_cons2 hle) ?_ (by decide), fun y hy => ?_⟩
  · simp only [tailOps, List.drop_succ_cons, List.drop_zero, markC, Bool.and_eq_true]
    refine ⟨?_, ?_⟩
    · simp only [oldLoad, e38, Bool.and_eq_true]
      exact ⟨Nat.ble_eq_true_of_le b1, by decide⟩
    · simp only [loadBlk, e38]
      refine missed_ok fun i o os' h1 h2 => ?_
      have h3 := ((fl_cons2 (a := (false, false)) (c := (true, false)) hle).get i).2 h2
      have hi : i = 8 ∨ i = 12 := by
        by_cases hlt : i < 13
        · clear h1 h2
          revert h3
          have : ∀ j : Fin 13, ((((false, false) :: (true, false) :: [(false,false),(true,false),(false,false),(false,false),(false,false),(true,false),(true,true),(false,false),(true,false),(false,false),(true,true)]) : List (Bool × Bool)).getD j.val (false, false)).2 = true → j.val = 8 ∨ j.val = 12 := by decide
          exact this ⟨i, hlt⟩
        · rw [List.getD_eq_getElem?_getD, List.getElem?_eq_none (by simp; omega)] at h3
          cases h3
      rcases hi with rfl | rfl
      · simp only [tailOps, List.drop_succ_cons, List.drop_zero, List.cons.injEq] at h1
        obtain ⟨rfl, rfl⟩ := h1
        exact .inr ⟨30, i0, by simp only [tgtOf, q30'], n01, by decide⟩
      · simp only [tailOps, List.drop_succ_cons, List.drop_zero, List.cons.injEq] at h1
        obtain ⟨rfl, rfl⟩ := h1
        exact .inr ⟨4, id2, by simp only [tgtOf, e4], n12, by decide⟩
  · exact Cw.ret ⟨s', m', hp, hs.back hs' hy⟩
theorem resize_ok (l : List Int) (s : Bool) (w : Int) (hne : l ≠ []) (hl : l.length < 2 ^ 14) (hw : 1 ≤ w ∧ w < 2 ^ 14) : FvC CX TB (.f 106 [] []) [.a [.s 0, .b s], .i .i64 w] [.u l] (RV (rsz l s w.toNat) s) := by
  refine fn_sws rfl rfl fun B d q hq => ?_
  obtain ⟨G0, hG0⟩ : ∃ G, G = std CX TB B ⟨d, fun _ => none⟩ := ⟨_, rfl⟩
  refine sws_seq hG0 fun R hR => ?_
  cbv
  refine hR _ ?_
  clear hR R hG0 G0
  refine sws_fix fun m0 h0 => ?_
  obtain ⟨D, hD⟩ : ∃ D : Bs, D = ⟨d, boxM m0 [.u l, .x [.s 0, .b s], .x [.nil, .kb false]]⟩ := ⟨_, rfl⟩
  have hq' : ∀ L, L = rsz l s w.toNat → q (.a [.s 0, .b s]) [.u L] := fun L hL => hq _ _ ⟨L, s, rfl, rfl, hL, rfl⟩
  show SWs CX TB B ⟨d, boxM m0 [.u l, .x [.s 0, .b s], .x [.nil, .kb false]]⟩ _ _ _
  rw [← hD]
  obtain ⟨G, hG⟩ : ∃ G, G = std CX TB B D := ⟨_, rfl⟩
  refine sws_seq hG fun R hR => ?_
  cbv
  refine hR _ ?_
  clear hR R
  refine sws_seq hG fun R hR => ?_
  cbv
  have e1 : G.lu l = (l.length : Int) := by subst hG; rfl
  have hcm : ∀ b, G.cmp .leq w (G.lu l) = b → decide (w ≤ (l.length : Int)) = b := fun b hb => by rw [← hb, e1]; subst hG; rfl
  have hs1 : G.ar .sub .i64 (G.lu l) 1 = ((l.length - 1 : Nat) : Int) := by
    have := List.length_pos_iff.2 hne
    rw [subi hG (by rw [e1]; omega), e1]; omega
  have i1 : G.ix (G.ar .sub .i64 (G.lu l) 1) (G.lu l) := by
    have := List.length_pos_iff.2 hne
    have h2 : (0 : Int) ≤ ((l.length - 1 : Nat) : Int) ∧ ((l.length - 1 : Nat) : Int) < (l.length : Int) := by omega
    rw [hs1, e1]; subst hG
    exact h2
  refine SX.ite hG (fun h1 => ?_) (fun h1 => ?_)
  · have c1 : w ≤ (l.length : Int) := of_decide_eq_true (hcm _ h1)
    have et : G.tu (G.du l 0) w = l.take w.toNat := by subst hG; simp [std]
    refine ⟨by subst hG; simp only [std]; omega, ?_⟩
    have c2 : w.toNat ≤ l.length := by omega
    refine call hG [] (clone_ok (G.tu (G.du l 0) w) (by rw [et]; intro e; have := congrArg List.length e; rw [List.length_take] at this; cases l with | nil => exact hne rfl | cons a l => simp at this; omega) (by rw [et, List.length_take]; omega)) ⟨rfl, rfl, rfl⟩ ?_
    rintro _ _ ⟨L, rfl, rfl, hL⟩
    cbv
    refine okd hG rfl ?_
    exact hq' _ (by rw [hL, et, rsz, if_pos c2])
  · have c1 : ¬ w ≤ (l.length : Int) := of_decide_eq_false (hcm _ h1)
    have c2 : ¬ w.toNat ≤ l.length := by omega
    have c3 : G.lu l < w ∧ w < 2 ^ 14 := by rw [e1]; omega
    refine hR _ ?_
    clear hR R
    refine sws_seq hG fun R hR => ?_
    cbv
    refine hR _ ?_
    clear hR R
    refine sws_seq hG fun R hR => ?_
    cbv
    refine SX.ite hG (fun h2 => ?_) (fun h2 => ?_)
    · refine ⟨i1, i1, ?_⟩
      refine hR _ ?_
      refine sws_env (stR l s w (G.lu l) (G.gu l (G.ar .sub .i64 (G.lu l) 1))).env ?_ ?_
      · cbv <;> simp
      · subst hD
        refine resize_tail m0 h0 l s w (G.lu l) _ hne e1 hl c3 q fun L hL => hq' L ?_
        rw [hL, rsz, if_neg c2, top, if_pos h2, hs1]
        subst hG; rfl
    · refine hR _ ?_
      refine sws_env (stR l s w (G.lu l) 0).env ?_ ?_
      · cbv <;> simp
      · subst hD
        refine resize_tail m0 h0 l s w (G.lu l) 0 hne e1 hl c3 q fun L hL => hq' L ?_
        rw [hL, rsz, if_neg c2, top, if_neg (by rw [h2]; decide)]
end Go.Proofs.YtdgbdkfoeaollaaGreatDoor.V
