/- VecCases. -/
import Derived.Test.YtdgbdkfoeaollaaDoorVI
import Derived.Test.YtdgbdkfoeaollaaDoorVP
import Derived.Test.YtdgbdkfoeaollaaDoorVW
import Derived.Test.YtdgbdkfoeaollaaDoorALe
set_option linter.unusedSimpArgs false
set_option linter.unusedVariables false
set_option cbv.maxSteps 1000000
namespace Go.Proofs.YtdgbdkfoeaollaaDoor.V
open Go Go.AL Go.SX
/-- The result is known. -/
theorem kbr {k : Nat} {args : List SV} {ao : List SX.Obj} {p c : Bool} (h : FvC CX TB (.f k [] []) args ao (RB p)) (e : p = c) : FvC CX TB (.f k [] []) args ao (fun r ro => r = .kb c ∧ ro = []) := by
  intro H m vf vs h1 h2 h3 h4
  obtain ⟨k', fs, cs, e', hr⟩ := h H m vf vs h1 h2 h3 h4
  refine ⟨k', fs, cs, e', hr.mono ?_⟩
  rintro v H' ⟨m', r, ro, ⟨x, rfl, rfl, hx⟩, q1, q2, q3, q4, q5⟩
  exact ⟨m', .kb c, [], ⟨rfl, rfl⟩, q1, q2, by rw [hx, e] at q3; exact q3, q4, q5⟩
def T_ (l : List Int) (s : Bool) (m : List Int) (t : Bool) : Bool := bX l s m t == bY l s m t
/-- What is behind the first n pieces. -/
def dropC : Nat → IC → IC
  | n + 1, .seq _ b => dropC n b
  | _, c => c
def stC (l m O C1 C0 Z : List Int) (s t o c1 c0 : Bool) : SX.St := ⟨(((((T.nil.set 2 (SV.o 0 0)).set 3 (.o 1 0)).set 5 (.o 4 0)).set 6 (.o 8 0)).set 7 (.o 9 0)),
  [.x [.u l, .b s], .x [.u m, .b t], .x [.u l, .b s, .u m, .b t], .u O, .x [.s 3, .b o], .u C1, .u Z, .u C0, .x [.s 5, .b c1], .x [.s 7, .b c0]]⟩
theorem tail_ok {B : AH} {d : Nat → Prop} (l m O C1 C0 Z : List Int) (s t o c1 c0 : Bool) (bl : Byt l) (bm : Byt m) (hl : l.length < 2 ^ 14) (hm : m.length < 2 ^ 14) (eO : O = [1]) (ho : o = false) (eC1 : C1 = bX l s m t) (eC0 : C0 = bY l s m t) (hc : c1 = c0) (q : SV → List SX.Obj → Prop) (hq : ∀ x, x = true → q (.b x) []) :
    SWs CX TB B ⟨d, fun _ => none⟩ (dropC 4 IR.fi5.code) (stC l m O C1 C0 Z s t o c1 c0) (post [.tmp 4] q) := by
  obtain ⟨G, hG⟩ : ∃ G, G = std CX TB B ⟨d, fun _ => none⟩ := ⟨_, rfl⟩
  have lX := (bX_nv (s := s) (t := t) bl bm).len
  have lY := (bY_nv (s := s) (t := t) bl bm).len
  have lC1 : C1.length < 2 ^ 20 := by rw [eC1]; omega
  have lC0 : C0.length < 2 ^ 20 := by rw [eC0]; omega
  have l1 : ∀ {x : Int}, [x].length < 2 ^ 20 := by intro x; exact (by decide : 1 < 2 ^ 20)
  have lO : O.length < 2 ^ 20 := by rw [eO]; decide
  have eS : (c1 == c0 && C1 == C0) = T_ l s m t := by rw [hc, eC1, eC0, T_]; simp
  have sm : ∀ b : Bool, (false == o && [ofB b] == O) = b := fun b => by rw [ho, eO]; cases b <;> rfl
  have sn : ∀ b : Bool, (false == o && [bNot (ofB b)] == O) = !b := fun b => by rw [ho, eO]; cases b <;> rfl
  have lk : l.length < 2 ^ 15 := by omega
  have mk : m.length < 2 ^ 15 := by omega
  cases hT : T_ l s m t with
  | true =>
    refine sws_seq hG fun R hR => ?_
    cbv
    refine call hG [] (vcaseEq_ok l m s t hl hm bl bm) ⟨rfl, rfl, rfl⟩ ?_
    rintro _ _ ⟨d1, h, rfl, rfl, hd, hh⟩
    cbv
    refine call hG [] (kbr (c := true) (rsame_ok [d1] O h o l1 lO) (by rw [hh, hd]; exact (sm _).trans hT)) ⟨rfl, rfl, rfl⟩ ?_
    rintro _ _ ⟨rfl, rfl⟩
    cbv
    refine okd hG (by kernel_rfl) ?_
    refine hR _ ?_
    clear hR R
    refine sws_seq hG fun R hR => ?_
    cbv
    refine call hG [] (kbr (c := true) (rsame_ok C1 C0 c1 c0 lC1 lC0) (by rw [eS, hT])) ⟨rfl, rfl, rfl⟩ ?_
    rintro _ _ ⟨rfl, rfl⟩
    cbv
    refine call hG [] (vcaseNe_ok l m s t hl hm bl bm) ⟨rfl, rfl, rfl⟩ ?_
    rintro _ _ ⟨d2, k2, rfl, rfl, hd2, hk2⟩
    cbv
    refine call hG [] (kbr (c := false) (rsame_ok [d2] O k2 o l1 lO) (by rw [hk2, hd2, show (bX l s m t == bY l s m t) = true from hT]; exact sn _)) ⟨rfl, rfl, rfl⟩ ?_
    rintro _ _ ⟨rfl, rfl⟩
    cbv
    have hz : mZ l s m t = true := mZ_T (eq_of_beq hT)
    refine call hG [] (kbr (c := true) (vmatchZ_ok l m s t hl hm bl bm) hz) ⟨rfl, rfl, rfl⟩ ?_
    rintro _ _ ⟨rfl, rfl⟩
    cbv
    refine call hG [] (kbr (c := true) (vmatchZ_ok l m s t hl hm bl bm) hz) ⟨rfl, rfl, rfl⟩ ?_
    rintro _ _ ⟨rfl, rfl⟩
    cbv
    refine call hG [] (kbr (c := true) (vmatchX_ok l m s t hl hm bl bm) (mX_mZ hz)) ⟨rfl, rfl, rfl⟩ ?_
    rintro _ _ ⟨rfl, rfl⟩
    cbv
    refine okd hG (by kernel_rfl) ?_
    refine hR _ ?_
    clear hR R
    refine sws_seq hG fun R hR => ?_
    cbv
    cases hkx : kn (nB l) with
    | false =>
      refine call hG [] (kbr (c := false) (vknown_ok l s lk) hkx) ⟨rfl, rfl, rfl⟩ ?_
      rintro _ _ ⟨rfl, rfl⟩
      cbv
      exact hq _ rfl
    | true =>
      refine call hG [] (kbr (c := true) (vknown_ok l s lk) hkx) ⟨rfl, rfl, rfl⟩ ?_
      rintro _ _ ⟨rfl, rfl⟩
      cbv
      cases hky : kn (nB m) with
      | false =>
        refine call hG [] (kbr (c := false) (vknown_ok m t mk) hky) ⟨rfl, rfl, rfl⟩ ?_
        rintro _ _ ⟨rfl, rfl⟩
        cbv
        exact hq _ rfl
      | true =>
        refine call hG [] (kbr (c := true) (vknown_ok m t mk) hky) ⟨rfl, rfl, rfl⟩ ?_
        rintro _ _ ⟨rfl, rfl⟩
        cbv
        have x01 : B01 (bX l s m t) := rsz_01 (nB_nv bl) (kn_01 (nB_nv bl) hkx)
        have y01 : B01 (bY l s m t) := rsz_01 (nB_nv bm) (kn_01 (nB_nv bm) hky)
        have eqd : eqB l s m t = ofB true := by rw [← hT]; exact eqB_T x01 y01 (bX_nv bl bm).ne
        refine hR _ ?_
        clear hR R
        refine sws_W hG ?_
        cbv
        refine call hG [] (kbr (c := true) (vmatchX_ok l m s t hl hm bl bm) (by rw [mX_T x01 y01]; exact hT)) ⟨rfl, rfl, rfl⟩ ?_
        rintro _ _ ⟨rfl, rfl⟩
        cbv
        refine call hG [] (veq_ok l m s t hl hm bl bm) ⟨rfl, rfl, rfl⟩ ?_
        rintro _ _ ⟨d3, k3, rfl, rfl, hd3, hk3⟩
        cbv
        refine call hG [] (kbr (c := true) (rsame_ok [d3] O k3 o l1 lO) (by rw [hk3, hd3, eqd]; exact sm _)) ⟨rfl, rfl, rfl⟩ ?_
        rintro _ _ ⟨rfl, rfl⟩
        cbv
        refine call hG [] (veq_ok l m s t hl hm bl bm) ⟨rfl, rfl, rfl⟩ ?_
        rintro _ _ ⟨d4, k4, rfl, rfl, hd4, hk4⟩
        cbv
        have n4 : NV [d4] := by rw [hd4]; exact nv1 (eqB_4 l m s t hl hm bl bm)
        refine call hG [] (kbr (c := true) (vknown_ok [d4] k4 (by simp)) (by rw [nB_id n4, hd4, eqd]; rfl)) ⟨rfl, rfl, rfl⟩ ?_
        rintro _ _ ⟨rfl, rfl⟩
        cbv
        refine okd hG (by kernel_rfl) ?_
        exact hq _ rfl
  | false =>
    refine sws_seq hG fun R hR => ?_
    cbv
    refine call hG [] (vcaseEq_ok l m s t hl hm bl bm) ⟨rfl, rfl, rfl⟩ ?_
    rintro _ _ ⟨d1, h, rfl, rfl, hd, hh⟩
    cbv
    refine call hG [] (kbr (c := false) (rsame_ok [d1] O h o l1 lO) (by rw [hh, hd]; exact (sm _).trans hT)) ⟨rfl, rfl, rfl⟩ ?_
    rintro _ _ ⟨rfl, rfl⟩
    cbv
    refine okd hG (by kernel_rfl) ?_
    refine hR _ ?_
    clear hR R
    refine sws_seq hG fun R hR => ?_
    cbv
    refine call hG [] (kbr (c := false) (rsame_ok C1 C0 c1 c0 lC1 lC0) (by rw [eS, hT])) ⟨rfl, rfl, rfl⟩ ?_
    rintro _ _ ⟨rfl, rfl⟩
    cbv
    refine call hG [] (vcaseNe_ok l m s t hl hm bl bm) ⟨rfl, rfl, rfl⟩ ?_
    rintro _ _ ⟨d2, k2, rfl, rfl, hd2, hk2⟩
    cbv
    refine call hG [] (kbr (c := true) (rsame_ok [d2] O k2 o l1 lO) (by rw [hk2, hd2, show (bX l s m t == bY l s m t) = false from hT]; exact sn _)) ⟨rfl, rfl, rfl⟩ ?_
    rintro _ _ ⟨rfl, rfl⟩
    cbv
    cases hz : mZ l s m t with
    | true =>
      refine call hG [] (kbr (c := true) (vmatchZ_ok l m s t hl hm bl bm) hz) ⟨rfl, rfl, rfl⟩ ?_
      rintro _ _ ⟨rfl, rfl⟩
      cbv
      refine call hG [] (kbr (c := true) (vmatchX_ok l m s t hl hm bl bm) (mX_mZ hz)) ⟨rfl, rfl, rfl⟩ ?_
      rintro _ _ ⟨rfl, rfl⟩
      cbv
      refine okd hG (by kernel_rfl) ?_
      refine hR _ ?_
      clear hR R
      refine sws_seq hG fun R hR => ?_
      cbv
      cases hkx : kn (nB l) with
      | false =>
        refine call hG [] (kbr (c := false) (vknown_ok l s lk) hkx) ⟨rfl, rfl, rfl⟩ ?_
        rintro _ _ ⟨rfl, rfl⟩
        cbv
        exact hq _ rfl
      | true =>
        refine call hG [] (kbr (c := true) (vknown_ok l s lk) hkx) ⟨rfl, rfl, rfl⟩ ?_
        rintro _ _ ⟨rfl, rfl⟩
        cbv
        cases hky : kn (nB m) with
        | false =>
          refine call hG [] (kbr (c := false) (vknown_ok m t mk) hky) ⟨rfl, rfl, rfl⟩ ?_
          rintro _ _ ⟨rfl, rfl⟩
          cbv
          exact hq _ rfl
        | true =>
          refine call hG [] (kbr (c := true) (vknown_ok m t mk) hky) ⟨rfl, rfl, rfl⟩ ?_
          rintro _ _ ⟨rfl, rfl⟩
          cbv
          have x01 : B01 (bX l s m t) := rsz_01 (nB_nv bl) (kn_01 (nB_nv bl) hkx)
          have y01 : B01 (bY l s m t) := rsz_01 (nB_nv bm) (kn_01 (nB_nv bm) hky)
          have eqd : eqB l s m t = ofB false := by rw [← hT]; exact eqB_T x01 y01 (bX_nv bl bm).ne
          refine hR _ ?_
          clear hR R
          refine sws_W hG ?_
          cbv
          refine call hG [] (kbr (c := false) (vmatchX_ok l m s t hl hm bl bm) (by rw [mX_T x01 y01]; exact hT)) ⟨rfl, rfl, rfl⟩ ?_
          rintro _ _ ⟨rfl, rfl⟩
          cbv
          refine call hG [] (veq_ok l m s t hl hm bl bm) ⟨rfl, rfl, rfl⟩ ?_
          rintro _ _ ⟨d3, k3, rfl, rfl, hd3, hk3⟩
          cbv
          refine call hG [] (kbr (c := false) (rsame_ok [d3] O k3 o l1 lO) (by rw [hk3, hd3, eqd]; exact sm _)) ⟨rfl, rfl, rfl⟩ ?_
          rintro _ _ ⟨rfl, rfl⟩
          cbv
          refine call hG [] (veq_ok l m s t hl hm bl bm) ⟨rfl, rfl, rfl⟩ ?_
          rintro _ _ ⟨d4, k4, rfl, rfl, hd4, hk4⟩
          cbv
          have n4 : NV [d4] := by rw [hd4]; exact nv1 (eqB_4 l m s t hl hm bl bm)
          refine call hG [] (kbr (c := true) (vknown_ok [d4] k4 (by simp)) (by rw [nB_id n4, hd4, eqd]; rfl)) ⟨rfl, rfl, rfl⟩ ?_
          rintro _ _ ⟨rfl, rfl⟩
          cbv
          refine okd hG (by kernel_rfl) ?_
          exact hq _ rfl
    | false =>
      refine call hG [] (kbr (c := false) (vmatchZ_ok l m s t hl hm bl bm) hz) ⟨rfl, rfl, rfl⟩ ?_
      rintro _ _ ⟨rfl, rfl⟩
      cbv
      refine okd hG (by kernel_rfl) ?_
      refine hR _ ?_
      clear hR R
      refine sws_seq hG fun R hR => ?_
      cbv
      cases hkx : kn (nB l) with
      | false =>
        refine call hG [] (kbr (c := false) (vknown_ok l s lk) hkx) ⟨rfl, rfl, rfl⟩ ?_
        rintro _ _ ⟨rfl, rfl⟩
        cbv
        exact hq _ rfl
      | true =>
        refine call hG [] (kbr (c := true) (vknown_ok l s lk) hkx) ⟨rfl, rfl, rfl⟩ ?_
        rintro _ _ ⟨rfl, rfl⟩
        cbv
        cases hky : kn (nB m) with
        | false =>
          refine call hG [] (kbr (c := false) (vknown_ok m t mk) hky) ⟨rfl, rfl, rfl⟩ ?_
          rintro _ _ ⟨rfl, rfl⟩
          cbv
          exact hq _ rfl
        | true =>
          refine call hG [] (kbr (c := true) (vknown_ok m t mk) hky) ⟨rfl, rfl, rfl⟩ ?_
          rintro _ _ ⟨rfl, rfl⟩
          cbv
          have x01 : B01 (bX l s m t) := rsz_01 (nB_nv bl) (kn_01 (nB_nv bl) hkx)
          have y01 : B01 (bY l s m t) := rsz_01 (nB_nv bm) (kn_01 (nB_nv bm) hky)
          have eqd : eqB l s m t = ofB false := by rw [← hT]; exact eqB_T x01 y01 (bX_nv bl bm).ne
          refine hR _ ?_
          clear hR R
          refine sws_W hG ?_
          cbv
          refine call hG [] (kbr (c := false) (vmatchX_ok l m s t hl hm bl bm) (by rw [mX_T x01 y01]; exact hT)) ⟨rfl, rfl, rfl⟩ ?_
          rintro _ _ ⟨rfl, rfl⟩
          cbv
          refine call hG [] (veq_ok l m s t hl hm bl bm) ⟨rfl, rfl, rfl⟩ ?_
          rintro _ _ ⟨d3, k3, rfl, rfl, hd3, hk3⟩
          cbv
          refine call hG [] (kbr (c := false) (rsame_ok [d3] O k3 o l1 lO) (by rw [hk3, hd3, eqd]; exact sm _)) ⟨rfl, rfl, rfl⟩ ?_
          rintro _ _ ⟨rfl, rfl⟩
          cbv
          refine call hG [] (veq_ok l m s t hl hm bl bm) ⟨rfl, rfl, rfl⟩ ?_
          rintro _ _ ⟨d4, k4, rfl, rfl, hd4, hk4⟩
          cbv
          have n4 : NV [d4] := by rw [hd4]; exact nv1 (eqB_4 l m s t hl hm bl bm)
          refine call hG [] (kbr (c := true) (vknown_ok [d4] k4 (by simp)) (by rw [nB_id n4, hd4, eqd]; rfl)) ⟨rfl, rfl, rfl⟩ ?_
          rintro _ _ ⟨rfl, rfl⟩
          cbv
          refine okd hG (by kernel_rfl) ?_
          exact hq _ rfl
theorem law_ok (l m : List Int) (s t : Bool) (bl : Byt l) (bm : Byt m) : FvC CX TB (.f 5 [] []) [.a [.u l, .b s], .a [.u m, .b t]] [] (RB true) := by
  refine fn_sws rfl rfl fun B d q hq => ?_
  obtain ⟨G, hG⟩ : ∃ G, G = std CX TB B ⟨d, fun _ => none⟩ := ⟨_, rfl⟩
  refine sws_seq hG fun R hR => ?_
  cbv
  refine hR _ ?_
  clear hR R
  refine sws_seq hG fun R hR => ?_
  cbv
  cases hg : (decide (140 < l.length) || decide (140 < m.length)) with
  | true =>
    refine call hG [] (kbr (c := true) (long2_ok l m s t) hg) ⟨rfl, rfl, rfl⟩ ?_
    rintro _ _ ⟨rfl, rfl⟩
    cbv
    refine call hG [] (kbr (c := true) awake_ok rfl) ⟨rfl, rfl, rfl⟩ ?_
    rintro _ _ ⟨rfl, rfl⟩
    cbv
    exact hq _ _ ⟨_, rfl, rfl, rfl⟩
  | false =>
    refine call hG [] (kbr (c := false) (long2_ok l m s t) hg) ⟨rfl, rfl, rfl⟩ ?_
    rintro _ _ ⟨rfl, rfl⟩
    cbv
    refine call hG [] (kbr (c := true) awake_ok rfl) ⟨rfl, rfl, rfl⟩ ?_
    rintro _ _ ⟨rfl, rfl⟩
    cbv
    have hgl : l.length ≤ 140 ∧ m.length ≤ 140 := by
      rw [Bool.or_eq_false_iff] at hg
      have a := of_decide_eq_false hg.1
      have b := of_decide_eq_false hg.2
      exact ⟨Nat.le_of_not_lt a, Nat.le_of_not_lt b⟩
    have hl : l.length < 2 ^ 14 := by omega
    have hm : m.length < 2 ^ 14 := by omega
    refine hR _ ?_
    clear hR R
    refine sws_seq hG fun R hR => ?_
    cbv
    refine call hG [] (of_ok ⟨#[49]⟩ (by decide)) ⟨rfl, rfl, rfl⟩ ?_
    rintro _ _ ⟨O, o, rfl, rfl, hO, ho⟩
    cbv
    have eO : O = [1] := hO
    have lO : O.length < 2 ^ 14 := by rw [eO]; decide
    have bO : Byt O := by rw [eO]; intro x hx; simp at hx; omega
    refine hR _ ?_
    clear hR R
    refine sws_seq hG fun R hR => ?_
    cbv
    refine call hG [] (vcond_ok l m s t hl hm bl bm O o lO bO) ⟨rfl, rfl, rfl⟩ ?_
    rintro _ _ ⟨C1, c1, rfl, rfl, hC1, hc1⟩
    cbv
    refine call hG [] (of_ok ⟨#[48]⟩ (by decide)) ⟨rfl, rfl, rfl⟩ ?_
    rintro _ _ ⟨Z, z, rfl, rfl, hZ, hz⟩
    cbv
    have eZ : Z = [0] := hZ
    have lZ : Z.length < 2 ^ 14 := by rw [eZ]; decide
    have bZ : Byt Z := by rw [eZ]; intro x hx; simp at hx; omega
    refine call hG [] (vcond_ok l m s t hl hm bl bm Z z lZ bZ) ⟨rfl, rfl, rfl⟩ ?_
    rintro _ _ ⟨C0, c0, rfl, rfl, hC0, hc0⟩
    cbv
    refine okd hG (by kernel_rfl) ?_
    have eC1 : C1 = bX l s m t := by rw [hC1, eO, condL, if_pos (by decide)]
    have eC0 : C0 = bY l s m t := by rw [hC0, eZ, condL, if_neg (by decide), if_pos (by decide)]
    refine hR _ ?_
    clear hR R
    refine sws_env (stC l m O C1 C0 Z s t o c1 c0).env (by cbv) ?_
    exact tail_ok l m O C1 C0 Z s t o c1 c0 bl bm hl hm eO ho eC1 eC0 (by rw [hc1, hc0]) q fun x hx => hq _ _ ⟨x, rfl, rfl, hx⟩
end Go.Proofs.YtdgbdkfoeaollaaDoor.V
