/- VecStructure. -/
import Derived.Test.YtdgbdkfoeaollaaDoorVT
import Derived.Test.YtdgbdkfoeaollaaDoorVW
import Derived.Test.YtdgbdkfoeaollaaDoorALe
set_option linter.unusedSimpArgs false
set_option linter.unusedVariables false
set_option cbv.maxSteps 1000000
set_option maxRecDepth 100000
namespace Go.Proofs.YtdgbdkfoeaollaaDoor.V
open Go Go.AL Go.SX
def stT (X : List Int) (x : Bool) (p q0 : Int) : SX.St := ⟨((T.nil.set 2 (SV.i .u8 p)).set 3 (.i .u8 q0)).set 9 (.o 5 0), [.dead, .dead, .dead, .u X, .dead, .x [.s 3, .b x]]⟩
theorem struct_tail {B : AH} {d : Nat → Prop} (X : List Int) (x : Bool) (p q0 : Int) (nX : NV X) (hp : 0 ≤ p ∧ p < 256) (hq0 : 0 ≤ q0 ∧ q0 < 256) (q : SV → List SX.Obj → Prop) (hq : ∀ x, x = true → q (.b x) []) :
    SWs CX TB B ⟨d, fun _ => none⟩ (dropC 5 IR.fi4.code) (stT X x p q0) (post [.tmp 8] q) := by
  obtain ⟨G, hG⟩ : ∃ G, G = std CX TB B ⟨d, fun _ => none⟩ := ⟨_, rfl⟩
  have lX := nX.len
  have pX := List.length_pos_iff.2 nX.ne
  refine sws_seq hG fun R hR => ?_
  cbv
  have n0 : G.ne0 (G.lu X) := by rw [hG]; show ((X.length : Nat) : Int) ≠ 0; omega
  refine ⟨n0, n0, okd hG (by kernel_rfl) ?_⟩
  have eP : ∀ z : Int, 0 ≤ z ∧ z < 256 → G.ar .rem .i64 (G.cv .i64 z) (G.lu X) = ((z.toNat % X.length : Nat) : Int) := fun z hz => by
    rw [hG]
    show (fwrap .i64 z).tmod ((X.length : Nat) : Int) = _
    rw [fwi (by omega), Int.tmod_eq_emod_of_nonneg hz.1, Int.natCast_emod, Int.toNat_of_nonneg hz.1]
  obtain ⟨I, hI⟩ : ∃ I, I = G.ar .rem .i64 (G.cv .i64 p) (G.lu X) := ⟨_, rfl⟩
  obtain ⟨K, hK⟩ : ∃ K, K = G.ar .rem .i64 (G.cv .i64 q0) (G.lu X) := ⟨_, rfl⟩
  have iI : 0 ≤ I ∧ I < (X.length : Int) := by rw [hI, eP p hp]; have := Nat.mod_lt p.toNat pX; omega
  have iK : 0 ≤ K ∧ K < (X.length : Int) := by rw [hK, eP q0 hq0]; have := Nat.mod_lt q0.toNat pX; omega
  refine hR _ ?_
  clear hR R
  refine sws_env ((((T.nil.set 2 (SV.i .u8 p)).set 9 (.o 5 0)).set 18 (.i .i64 I)).set 19 (.i .i64 K)) (by rw [hI, hK]; cbv <;> simp) ?_
  clear hI hK
  obtain ⟨hi, hhi⟩ : ∃ hi, hi = G.mx I K := ⟨_, rfl⟩
  obtain ⟨lo, hlo⟩ : ∃ lo, lo = G.mn I K := ⟨_, rfl⟩
  have hhl : 0 ≤ lo ∧ lo ≤ hi ∧ hi < (X.length : Int) := by
    have e1 : G.mx I K = AL.mx I K := by rw [hG]; rfl
    have e2 : G.mn I K = AL.mn I K := by rw [hG]; rfl
    rw [hhi, hlo, e1, e2]
    unfold AL.mx AL.mn
    split <;> split <;> omega
  subst hhi hlo
  have ih : I64 (G.mx I K) := by unfold I64; omega
  have il : I64 (G.mn I K) := by unfold I64; omega
  have hw0 : win (G.mx I K) (G.mn I K) = 0 := win_ok hhl.2.1 (by omega)
  refine sws_seq hG fun R hR => ?_
  cbv
  refine call hG [] (kre (slice_ok X x (G.mx I K) (G.mn I K) (by omega) (byt_nv nX) ih il) (decide_eq_true hw0)) ⟨rfl, rfl, rfl⟩ ?_
  rintro _ _ ⟨P, g, rfl, rfl, hP, hg⟩
  cbv
  rw [nB_id nX] at hP
  have nP : NV P := by rw [hP]; exact slc_nv nX hw0
  have lP := nP.len
  refine hR _ ?_
  clear hR R
  refine sws_seq hG fun R hR => ?_
  cbv
  refine call hG [] (kre (put_ok X P x g (G.mx I K) (G.mn I K) (by omega) (by omega) (byt_nv nX) (byt_nv nP) ih il) (decide_eq_true hw0)) ⟨rfl, rfl, rfl⟩ ?_
  rintro _ _ ⟨Q, h, rfl, rfl, hQ, hh⟩
  cbv
  rw [nB_id nX, nB_id nP, hP, put_slc nX hhl.1 hhl.2.1 hhl.2.2] at hQ
  rw [nS_id nX] at hh
  refine hR _ ?_
  clear hR R
  refine sws_seq hG fun R hR => ?_
  cbv
  have e3 : G.ar .sub .i64 (Int.ofNat 129) (G.lu X) = ((129 - X.length : Nat) : Int) := by
    rw [subi hG (by rw [hG]; show _ ≤ (129 : Int) - ((X.length : Nat) : Int) ∧ (129 : Int) - ((X.length : Nat) : Int) < _; omega), hG]
    show (129 : Int) - ((X.length : Nat) : Int) = _
    omega
  have n1 : G.ne0 (G.ar .sub .i64 (Int.ofNat 129) (G.lu X)) := by rw [e3, hG]; show ((129 - X.length : Nat) : Int) ≠ 0; omega
  refine ⟨n1, okd hG (by kernel_rfl) ?_⟩
  obtain ⟨W, hW⟩ : ∃ W, W = G.ar .add .i64 (G.lu X) (G.ar .rem .i64 (G.cv .i64 p) (G.ar .sub .i64 (Int.ofNat 129) (G.lu X))) := ⟨_, rfl⟩
  have e4 : G.ar .rem .i64 (G.cv .i64 p) (G.ar .sub .i64 (Int.ofNat 129) (G.lu X)) = ((p.toNat % (129 - X.length) : Nat) : Int) := by
    rw [e3, hG]
    show (fwrap .i64 p).tmod (((129 - X.length : Nat)) : Int) = _
    rw [fwi (by omega), Int.tmod_eq_emod_of_nonneg hp.1, Int.natCast_emod, Int.toNat_of_nonneg hp.1]
  have iW : (X.length : Int) ≤ W ∧ W ≤ 128 := by
    have hlt : p.toNat % (129 - X.length) < 129 - X.length := Nat.mod_lt _ (by omega)
    rw [hW, e4]
    have : G.lu X = (X.length : Int) := by rw [hG]; rfl
    rw [this, addi hG (by omega)]
    omega
  have hWn : X.length ≤ W.toNat := by omega
  have oW : okW W = true := by unfold okW; simp only [Bool.and_eq_true, decide_eq_true_eq]; omega
  refine hR _ ?_
  clear hR R
  refine sws_env (((((((T.nil.set 9 (SV.o 5 0)).set 20 (.o 7 0)).set 21 (.n .i64 0)).set 22 (.o 9 0)).set 23 (.n .i64 0)).set 24 (.i .i64 W))) (by rw [hW]; cbv <;> simp) ?_
  clear hW
  refine sws_seq hG fun R hR => ?_
  cbv
  refine call hG [] (kre (vresize_ok X x W (by omega) (byt_nv nX)) oW) ⟨rfl, rfl, rfl⟩ ?_
  rintro _ _ ⟨M, u, rfl, rfl, hM, hu⟩
  cbv
  rw [nB_id nX, nS_id nX] at hM
  rw [nS_id nX] at hu
  have nM : NV M := by rw [hM]; exact rsz_nv nX (by omega) (by omega)
  have lM := nM.len
  refine hR _ ?_
  clear hR R
  refine sws_seq hG fun R hR => ?_
  cbv
  have e5 : G.lu X = (X.length : Int) := by rw [hG]; rfl
  refine call hG [] (kre (vresize_ok M u (G.lu X) (by omega) (byt_nv nM)) (by rw [e5]; unfold okW; simp only [Bool.and_eq_true, decide_eq_true_eq]; omega)) ⟨rfl, rfl, rfl⟩ ?_
  rintro _ _ ⟨N, v, rfl, rfl, hN, hv⟩
  cbv
  rw [nB_id nM, nS_id nM, e5, Int.toNat_natCast, hM, rsz_back hWn] at hN
  rw [nS_id nM, hu] at hv
  refine hR _ ?_
  clear hR R
  refine sws_seq hG fun R hR => ?_
  cbv
  refine call hG [] (vint_ok X x (by omega) (byt_nv nX)) ⟨rfl, rfl, rfl⟩ ?_
  rintro _ _ ⟨i1, b1, rfl, rfl, hi1, hb1⟩
  cbv
  refine hR _ ?_
  clear hR R
  refine sws_seq hG fun R hR => ?_
  cbv
  refine call hG [] (vint_ok M u (by omega) (byt_nv nM)) ⟨rfl, rfl, rfl⟩ ?_
  rintro _ _ ⟨i2, b2, rfl, rfl, hi2, hb2⟩
  cbv
  rw [nB_id nX, nS_id nX] at hi1 hb1
  rw [nB_id nM, nS_id nM, hu, hM, rsz_kn nX hWn, vval_rsz nX hWn] at hi2 hb2
  have ei : i1 = i2 := by rw [hi1, hi2]
  have eb : b1 = b2 := by rw [hb1, hb2]
  refine hR _ ?_
  clear hR R
  refine sws_W hG ?_
  cbv
  refine call hG [] (kbr (c := true) (rsame_ok Q X h x (by rw [hQ]; omega) (by omega)) (by rw [hQ, hh]; simp)) ⟨rfl, rfl, rfl⟩ ?_
  rintro _ _ ⟨rfl, rfl⟩
  cbv
  refine call hG [] (kbr (c := true) (rsame_ok N X v x (by rw [hN]; omega) (by omega)) (by rw [hN, hv]; simp)) ⟨rfl, rfl, rfl⟩ ?_
  rintro _ _ ⟨rfl, rfl⟩
  cbv
  refine SX.ite hG (fun h1 => ?_) (fun h1 => ?_)
  · have h2 : G.beq .eql b1 b2 = true := by rw [eb, hG]; show (b2 == b2) = true; simp
    exact hq _ h2
  · exfalso
    have h2 : G.cmp .eql i1 i2 = false := h1
    rw [ei, hG] at h2
    have h3 : (i2 == i2) = false := h2
    simp at h3
theorem struct_law (l m : List Int) (s t : Bool) (p q0 : Int) (bl : Byt l) (bm : Byt m) (hp : 0 ≤ p ∧ p < 256) (hq0 : 0 ≤ q0 ∧ q0 < 256) : FvC CX TB (.f 4 [] []) [.a [.u l, .b s], .a [.u m, .b t], .i .u8 p, .i .u8 q0] [] (RB true) := by
  refine fn_sws rfl rfl fun B d q hq => ?_
  obtain ⟨G, hG⟩ : ∃ G, G = std CX TB B ⟨d, fun _ => none⟩ := ⟨_, rfl⟩
  refine sws_seq hG fun R hR => ?_
  cbv
  refine hR _ ?_
  clear hR R
  refine sws_seq hG fun R hR => ?_
  cbv
  cases hg : (decide (140 < l.length) || decide (140 < m.length)) with
  | true =>
    refine call hG [] (kbr (c := true) (long2_ok l m s t) hg) ⟨rfl, rfl, rfl⟩ ?_
    rintro _ _ ⟨rfl, rfl⟩
    cbv
    refine call hG [] (kbr (c := true) awake_ok rfl) ⟨rfl, rfl, rfl⟩ ?_
    rintro _ _ ⟨rfl, rfl⟩
    cbv
    exact hq _ _ ⟨_, rfl, rfl, rfl⟩
  | false =>
    refine call hG [] (kbr (c := false) (long2_ok l m s t) hg) ⟨rfl, rfl, rfl⟩ ?_
    rintro _ _ ⟨rfl, rfl⟩
    cbv
    refine call hG [] (kbr (c := true) awake_ok rfl) ⟨rfl, rfl, rfl⟩ ?_
    rintro _ _ ⟨rfl, rfl⟩
    cbv
    have hgl : l.length ≤ 140 ∧ m.length ≤ 140 := by
      rw [Bool.or_eq_false_iff] at hg
      have a := of_decide_eq_false hg.1
      have b := of_decide_eq_false hg.2
      exact ⟨Nat.le_of_not_lt a, Nat.le_of_not_lt b⟩
    have hl : l.length < 2 ^ 15 := by omega
    have hm : m.length < 2 ^ 15 := by omega
    have kl : l.length < 2 ^ 20 := by omega
    have km : m.length < 2 ^ 20 := by omega
    refine hR _ ?_
    clear hR R
    refine sws_seq hG fun R hR => ?_
    cbv
    refine call hG [] (rnorm_ok l s kl) ⟨rfl, rfl, rfl⟩ ?_
    rintro _ _ ⟨X, x, rfl, rfl, hX, hx⟩
    cbv
    refine call hG [] (rnorm_ok m t km) ⟨rfl, rfl, rfl⟩ ?_
    rintro _ _ ⟨Y, y, rfl, rfl, hY, hy⟩
    cbv
    refine okd hG (by kernel_rfl) ?_
    refine hR _ ?_
    clear hR R
    refine sws_seq hG fun R hR => ?_
    cbv
    have nX : NV X := by rw [hX]; exact nB_nv bl
    have nY : NV Y := by rw [hY]; exact nB_nv bm
    have lX := nX.len
    have lY := nY.len
    have pX := List.length_pos_iff.2 nX.ne
    have pY := List.length_pos_iff.2 nY.ne
    by_cases hc : Y.length + X.length ≤ 128
    · refine call hG [] (kre (concat2_ok l m s t hl hm) (decide_eq_true (by rw [← hX, ← hY]; exact hc))) ⟨rfl, rfl, rfl⟩ ?_
      rintro _ _ ⟨A, a, rfl, rfl, hA, ha⟩
      cbv
      rw [← hX, ← hY] at hA
      refine hR _ ?_
      clear hR R
      refine sws_seq hG fun R hR => ?_
      cbv
      have nA : NV A := by rw [hA]; exact app_nv nY nX hc
      have lA := nA.len
      have e1 : G.ar .sub .i64 (G.lu Y) (Int.ofNat 1) = (Y.length : Int) - 1 := by
        rw [subi hG (by rw [hG]; show _ ≤ ((Y.length : Nat) : Int) - 1 ∧ ((Y.length : Nat) : Int) - 1 < _; omega), hG]; rfl
      have e2 : G.ar .add .i64 (G.lu Y) (G.lu X) = (Y.length : Int) + (X.length : Int) := by
        rw [addi hG (by rw [hG]; show _ ≤ ((Y.length : Nat) : Int) + ((X.length : Nat) : Int) ∧ ((Y.length : Nat) : Int) + ((X.length : Nat) : Int) < _; omega), hG]; rfl
      have e3 : G.ar .sub .i64 (G.ar .add .i64 (G.lu Y) (G.lu X)) (Int.ofNat 1) = (Y.length : Int) + (X.length : Int) - 1 := by
        rw [e2, subi hG (by show _ ≤ (Y.length : Int) + (X.length : Int) - 1 ∧ (Y.length : Int) + (X.length : Int) - 1 < _; omega)]; rfl
      have e4 : G.lu Y = (Y.length : Int) := by rw [hG]; rfl
      have w1 : win (G.ar .sub .i64 (G.lu Y) (Int.ofNat 1)) (Int.ofNat 0) = 0 := by rw [e1]; exact win_ok (show (0 : Int) ≤ _ by omega) (show (Y.length : Int) - 1 - 0 < 128 by omega)
      have w2 : win (G.ar .sub .i64 (G.ar .add .i64 (G.lu Y) (G.lu X)) (Int.ofNat 1)) (G.lu Y) = 0 := by rw [e3, e4]; exact win_ok (by omega) (by omega)
      have s1 : slc (nB A) (G.ar .sub .i64 (G.lu Y) (Int.ofNat 1)) (Int.ofNat 0) = Y := by
        rw [nB_id nA, e1, hA, slc_in (lo := Int.ofNat 0) (hi := (Y.length : Int) - 1) (a := 0) (b := Y.length) rfl (by omega) (by rw [List.length_append]; omega), List.drop_zero, List.take_left]
      have s2 : slc (nB A) (G.ar .sub .i64 (G.ar .add .i64 (G.lu Y) (G.lu X)) (Int.ofNat 1)) (G.lu Y) = X := by
        rw [nB_id nA, e3, e4, hA, slc_in (a := Y.length) (b := X.length) rfl (by omega) (by rw [List.length_append]; omega), List.drop_left, List.take_of_length_le (Nat.le_refl _)]
      have i1 : I64 (G.ar .sub .i64 (G.lu Y) (Int.ofNat 1)) := by rw [e1]; unfold I64; omega
      have i2 : I64 (Int.ofNat 0) := by constructor <;> decide
      have i3 : I64 (G.ar .sub .i64 (G.ar .add .i64 (G.lu Y) (G.lu X)) (Int.ofNat 1)) := by rw [e3]; unfold I64; omega
      have i4 : I64 (G.lu Y) := by rw [e4]; unfold I64; omega
      clear e1 e2 e3 e4
      refine SX.ite hG (fun h1 => ?_) (fun h1 => ?_)
      · refine call hG [] (kre (slice_ok A a _ _ (by omega) (byt_nv nA) i1 i2) (decide_eq_true w1)) ⟨rfl, rfl, rfl⟩ ?_
        rintro _ _ ⟨L1, g1, rfl, rfl, hL1, hg1⟩
        cbv
        refine call hG [] (kre (slice_ok A a _ _ (by omega) (byt_nv nA) i3 i4) (decide_eq_true w2)) ⟨rfl, rfl, rfl⟩ ?_
        rintro _ _ ⟨L2, g2, rfl, rfl, hL2, hg2⟩
        cbv
        refine call hG [] (withSign_ok Y y false (by omega)) ⟨rfl, rfl, rfl⟩ ?_
        rintro _ _ ⟨Y2, y2, rfl, rfl, hY2, hy2⟩
        cbv
        refine call hG [] (kbr (c := true) (rsame_ok L1 Y2 g1 y2 (by rw [hL1, s1]; omega) (by rw [hY2, nB_id nY]; omega)) (by rw [hL1, s1, hY2, nB_id nY, hg1, hy2]; simp)) ⟨rfl, rfl, rfl⟩ ?_
        rintro _ _ ⟨rfl, rfl⟩
        cbv
        refine call hG [] (withSign_ok X x false (by omega)) ⟨rfl, rfl, rfl⟩ ?_
        rintro _ _ ⟨X2, x2, rfl, rfl, hX2, hx2⟩
        cbv
        refine call hG [] (kbr (c := true) (rsame_ok L2 X2 g2 x2 (by rw [hL2, s2]; omega) (by rw [hX2, nB_id nX]; omega)) (by rw [hL2, s2, hX2, nB_id nX, hg2, hx2]; simp)) ⟨rfl, rfl, rfl⟩ ?_
        rintro _ _ ⟨rfl, rfl⟩
        cbv
        refine okd hG (by kernel_rfl) ?_
        refine hR _ (sws_le (s' := stT X x p q0) (by constructor <;> cbv <;> simp) ?_)
        exact struct_tail X x p q0 nX hp hq0 q fun x hx => hq _ _ ⟨x, rfl, rfl, hx⟩
      · exfalso
        have h2 : G.cmp .leq (G.ar .add .i64 (G.lu X) (G.lu Y)) 128 = false := h1
        rw [addi hG (by rw [hG]; show _ ≤ ((X.length : Nat) : Int) + ((Y.length : Nat) : Int) ∧ ((X.length : Nat) : Int) + ((Y.length : Nat) : Int) < _; omega), hG] at h2
        have h3 : ¬ ((X.length : Nat) : Int) + ((Y.length : Nat) : Int) ≤ 128 := of_decide_eq_false h2
        omega
    · refine call hG [] (kre_f 12 (concat2_ok l m s t hl hm) (decide_eq_false (by rw [← hX, ← hY]; exact hc)) rfl) ⟨rfl, rfl, rfl⟩ ?_
      rintro _ _ ⟨rfl, rfl⟩
      cbv
      refine hR _ ?_
      clear hR R
      refine sws_seq hG fun R hR => ?_
      cbv
      refine SX.ite hG (fun h1 => ?_) (fun h1 => ?_)
      · exfalso
        have h2 : G.cmp .leq (G.ar .add .i64 (G.lu X) (G.lu Y)) 128 = true := h1
        rw [addi hG (by rw [hG]; show _ ≤ ((X.length : Nat) : Int) + ((Y.length : Nat) : Int) ∧ ((X.length : Nat) : Int) + ((Y.length : Nat) : Int) < _; omega), hG] at h2
        have h3 : ((X.length : Nat) : Int) + ((Y.length : Nat) : Int) ≤ 128 := of_decide_eq_true h2
        omega
      refine hR _ (sws_le (s' := stT X x p q0) (by constructor <;> cbv <;> simp) ?_)
      exact struct_tail X x p q0 nX hp hq0 q fun x hx => hq _ _ ⟨x, rfl, rfl, hx⟩
end Go.Proofs.YtdgbdkfoeaollaaDoor.V
