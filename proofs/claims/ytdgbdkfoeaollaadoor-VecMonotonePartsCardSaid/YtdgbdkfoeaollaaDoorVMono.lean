/- VecMonotoneParts. -/
import Derived.Test.YtdgbdkfoeaollaaDoorVV
import Derived.Test.YtdgbdkfoeaollaaDoorVT
import Derived.Test.YtdgbdkfoeaollaaDoorVW
import Derived.Test.YtdgbdkfoeaollaaDoorALe
set_option linter.unusedSimpArgs false
set_option linter.unusedVariables false
set_option cbv.maxSteps 1000000
set_option maxRecDepth 100000
namespace Go.Proofs.YtdgbdkfoeaollaaDoor.V
open Go Go.AL Go.SX
theorem okW_r {n : Int} (h : okW n = true) : 1 ≤ n ∧ n ≤ 128 := by
  unfold okW at h
  simpa using h
theorem if_byt {c : Bool} {l : List Int} (h : c = true → NV l) : Byt (if c then l else []) ∧ (if c then l else []).length < 2 ^ 20 := by
  cases c with
  | true => exact ⟨byt_nv (h rfl), by have := (h rfl).len; show l.length < _; omega⟩
  | false => exact ⟨fun x hx => by simp at hx, (by decide : 0 < 2 ^ 20)⟩
theorem parts_law (a b c d : List Int) (s t u v : Bool) (m n : Int) (ba : Byt a) (bb : Byt b) (bc : Byt c) (bd : Byt d) (hm : I64 m) (hn : I64 n) : FvC CX TB (.f 6 [] []) [.a [.u a, .b s], .a [.u b, .b t], .a [.u c, .b u], .a [.u d, .b v], .i .i64 m, .i .i64 n] [] (RB true) := by
  refine fn_sws rfl rfl fun B d0 q hq => ?_
  obtain ⟨G, hG⟩ : ∃ G, G = std CX TB B ⟨d0, fun _ => none⟩ := ⟨_, rfl⟩
  refine sws_seq hG fun R hR => ?_
  cbv
  refine hR _ ?_
  clear hR R
  refine sws_seq hG fun R hR => ?_
  cbv
  cases hg : (decide (140 < a.length) || decide (140 < b.length) || decide (140 < c.length) || decide (140 < d.length)) with
  | true =>
    refine call hG [] (kbr (c := true) (long4_ok a b c d s t u v) hg) ⟨rfl, rfl, rfl⟩ ?_
    rintro _ _ ⟨rfl, rfl⟩
    cbv
    refine call hG [] (kbr (c := true) awake_ok rfl) ⟨rfl, rfl, rfl⟩ ?_
    rintro _ _ ⟨rfl, rfl⟩
    cbv
    exact hq _ _ ⟨_, rfl, rfl, rfl⟩
  | false =>
    refine call hG [] (kbr (c := false) (long4_ok a b c d s t u v) hg) ⟨rfl, rfl, rfl⟩ ?_
    rintro _ _ ⟨rfl, rfl⟩
    cbv
    refine call hG [] (kbr (c := true) awake_ok rfl) ⟨rfl, rfl, rfl⟩ ?_
    rintro _ _ ⟨rfl, rfl⟩
    cbv
    have hgl : a.length ≤ 140 ∧ b.length ≤ 140 ∧ c.length ≤ 140 ∧ d.length ≤ 140 := by
      simp only [Bool.or_eq_false_iff, decide_eq_false_iff_not, Nat.not_lt] at hg
      exact ⟨hg.1.1.1, hg.1.1.2, hg.1.2, hg.2⟩
    have la : a.length < 2 ^ 15 := by omega
    have lb : b.length < 2 ^ 15 := by omega
    have lc : c.length < 2 ^ 15 := by omega
    have ld : d.length < 2 ^ 15 := by omega
    refine hR _ ?_
    clear hR R
    refine sws_seq hG fun R hR => ?_
    cbv
    cases hr1 : rfn c u a s with
    | false =>
      refine call hG [] (kbr (c := false) (refines_ok c a u s la lc) hr1) ⟨rfl, rfl, rfl⟩ ?_
      rintro _ _ ⟨rfl, rfl⟩
      cbv
      exact hq _ _ ⟨_, rfl, rfl, rfl⟩
    | true =>
      refine call hG [] (kbr (c := true) (refines_ok c a u s la lc) hr1) ⟨rfl, rfl, rfl⟩ ?_
      rintro _ _ ⟨rfl, rfl⟩
      cbv
      cases hr2 : rfn d v b t with
      | false =>
        refine call hG [] (kbr (c := false) (refines_ok d b v t lb ld) hr2) ⟨rfl, rfl, rfl⟩ ?_
        rintro _ _ ⟨rfl, rfl⟩
        cbv
        exact hq _ _ ⟨_, rfl, rfl, rfl⟩
      | true =>
        refine call hG [] (kbr (c := true) (refines_ok d b v t lb ld) hr2) ⟨rfl, rfl, rfl⟩ ?_
        rintro _ _ ⟨rfl, rfl⟩
        cbv
        obtain ⟨na, nc, rfl, rac⟩ := rfn_out ba bc hr1
        obtain ⟨nb, nd, rfl, rbd⟩ := rfn_out bb bd hr2
        refine hR _ ?_
        clear hR R
        refine sws_seq hG fun R hR => ?_
        cbv
        refine hR _ ?_
        clear hR R
        refine sws_seq hG fun R hR => ?_
        cbv
        refine hR _ ?_
        clear hR R
        refine sws_seq hG fun R hR => ?_
        cbv
        refine call hG [] (kru (vresize_ok a s m la ba)) ⟨rfl, rfl, rfl⟩ ?_
        rintro _ _ ⟨x0, gx0, ex0, rfl, rfl, hx0, hgx0, hex0⟩
        cbv
        refine hR _ ?_
        clear hR R
        refine sws_seq hG fun R hR => ?_
        cbv
        refine call hG [] (kru (vresize_ok c s m lc bc)) ⟨rfl, rfl, rfl⟩ ?_
        rintro _ _ ⟨y0, gy0, ey0, rfl, rfl, hy0, hgy0, hey0⟩
        cbv
        refine hR _ ?_
        clear hR R
        refine sws_seq hG fun R hR => ?_
        cbv
        refine call hG [] (kru (concat2_ok a b s t la lb)) ⟨rfl, rfl, rfl⟩ ?_
        rintro _ _ ⟨x1, gx1, ex1, rfl, rfl, hx1, hgx1, hex1⟩
        cbv
        refine hR _ ?_
        clear hR R
        refine sws_seq hG fun R hR => ?_
        cbv
        refine call hG [] (kru (concat2_ok c d s t lc ld)) ⟨rfl, rfl, rfl⟩ ?_
        rintro _ _ ⟨y1, gy1, ey1, rfl, rfl, hy1, hgy1, hey1⟩
        cbv
        refine hR _ ?_
        clear hR R
        refine sws_seq hG fun R hR => ?_
        cbv
        refine call hG [] (kru (repeat2_ok a s m la ba)) ⟨rfl, rfl, rfl⟩ ?_
        rintro _ _ ⟨x2, gx2, ex2, rfl, rfl, hx2, hgx2, hex2⟩
        cbv
        refine hR _ ?_
        clear hR R
        refine sws_seq hG fun R hR => ?_
        cbv
        refine call hG [] (kru (repeat2_ok c s m lc bc)) ⟨rfl, rfl, rfl⟩ ?_
        rintro _ _ ⟨y2, gy2, ey2, rfl, rfl, hy2, hgy2, hey2⟩
        cbv
        refine hR _ ?_
        clear hR R
        refine sws_seq hG fun R hR => ?_
        cbv
        refine call hG [] (kru (slice_ok a s m n la ba hm hn)) ⟨rfl, rfl, rfl⟩ ?_
        rintro _ _ ⟨x3, gx3, ex3, rfl, rfl, hx3, hgx3, hex3⟩
        cbv
        refine hR _ ?_
        clear hR R
        refine sws_seq hG fun R hR => ?_
        cbv
        refine call hG [] (kru (slice_ok c s m n lc bc hm hn)) ⟨rfl, rfl, rfl⟩ ?_
        rintro _ _ ⟨y3, gy3, ey3, rfl, rfl, hy3, hgy3, hey3⟩
        cbv
        refine hR _ ?_
        clear hR R
        refine sws_seq hG fun R hR => ?_
        cbv
        refine call hG [] (kru (put_ok a b s t m n la lb ba bb hm hn)) ⟨rfl, rfl, rfl⟩ ?_
        rintro _ _ ⟨x4, gx4, ex4, rfl, rfl, hx4, hgx4, hex4⟩
        cbv
        refine hR _ ?_
        clear hR R
        refine sws_seq hG fun R hR => ?_
        cbv
        refine call hG [] (kru (put_ok c d s t m n lc ld bc bd hm hn)) ⟨rfl, rfl, rfl⟩ ?_
        rintro _ _ ⟨y4, gy4, ey4, rfl, rfl, hy4, hgy4, hey4⟩
        cbv
        refine hR _ ?_
        clear hR R
        refine sws_seq hG fun R hR => ?_
        cbv
        simp only [nB_id na, nB_id nb, nB_id nc, nB_id nd, nS_id na, nS_id nb, nS_id nc, nS_id nd] at hx0 hgx0 hex0 hy0 hgy0 hey0 hx1 hgx1 hex1 hy1 hgy1 hey1 hx2 hgx2 hex2 hy2 hgy2 hey2 hx3 hgx3 hex3 hy3 hgy3 hey3 hx4 hgx4 hex4 hy4 hgy4 hey4
        rw [← rac.1, ← rbd.1] at hey1 hy1 hgy1
        have erep : repC c m = repC a m := by unfold repC; rw [rac.1]
        rw [erep] at hy2 hey2 hgy2
        have ee0 : ex0 = ey0 := by rw [hex0, hey0]
        have ee1 : ex1 = ey1 := by rw [hex1, hey1]
        have ee2 : ex2 = ey2 := by rw [hex2, hey2]
        have ee3 : ex3 = ey3 := by rw [hex3, hey3]
        have ee4 : ex4 = ey4 := by rw [hex4, hey4]
        have b0 : blw x0 gx0 y0 gy0 = true := by
          rw [hx0, hgx0, hy0, hgy0]
          exact blw_if fun h => (rac.rsz na.ne s m.toNat).blw (rsz_nv na (by have := okW_r h; omega) (by have := okW_r h; omega)) (rsz_nv nc (by have := okW_r h; omega) (by have := okW_r h; omega)) s
        have b1 : blw x1 gx1 y1 gy1 = true := by
          rw [hx1, hgx1, hy1, hgy1]
          exact blw_if fun h => (rbd.app rac).blw (app_nv nb na (of_decide_eq_true h)) (app_nv nd nc (by rw [← rac.1, ← rbd.1]; exact of_decide_eq_true h)) false
        have b2 : blw x2 gx2 y2 gy2 = true := by
          rw [hx2, hgx2, hy2, hgy2]
          exact blw_if fun h => (rac.repL na.ne m.toNat).blw (repL_nv na h) (repL_nv nc (by rw [erep]; exact h)) false
        have b3 : blw x3 gx3 y3 gy3 = true := by
          rw [hx3, hgx3, hy3, hgy3]
          exact blw_if fun h => (rac.slc m n).blw (slc_nv na (of_decide_eq_true h)) (slc_nv nc (of_decide_eq_true h)) false
        have b4 : blw x4 gx4 y4 gy4 = true := by
          rw [hx4, hgx4, hy4, hgy4]
          exact blw_if fun h => (rac.putL (rbd.rsz nb.ne t (m - n + 1).toNat) n).blw (putL_nv na (rsz_nv nb (by have := win_zero (of_decide_eq_true h); omega) (by have := win_zero (of_decide_eq_true h); omega))) (putL_nv nc (rsz_nv nd (by have := win_zero (of_decide_eq_true h); omega) (by have := win_zero (of_decide_eq_true h); omega))) s
        have v0 := if_byt (c := okW m) (l := rsz a s m.toNat) fun h => rsz_nv na (by have := okW_r h; omega) (by have := okW_r h; omega)
        have w0 := if_byt (c := okW m) (l := rsz c s m.toNat) fun h => rsz_nv nc (by have := okW_r h; omega) (by have := okW_r h; omega)
        have v1 := if_byt (c := decide (b.length + a.length ≤ 128)) (l := b ++ a) fun h => app_nv nb na (of_decide_eq_true h)
        have w1 := if_byt (c := decide (b.length + a.length ≤ 128)) (l := d ++ c) fun h => app_nv nd nc (by rw [← rac.1, ← rbd.1]; exact of_decide_eq_true h)
        have v2 := if_byt (c := repC a m) (l := repL a m.toNat) fun h => repL_nv na h
        have w2 := if_byt (c := repC a m) (l := repL c m.toNat) fun h => repL_nv nc (by rw [erep]; exact h)
        have v3 := if_byt (c := decide (win m n = 0)) (l := slc a m n) fun h => slc_nv na (of_decide_eq_true h)
        have w3 := if_byt (c := decide (win m n = 0)) (l := slc c m n) fun h => slc_nv nc (of_decide_eq_true h)
        have v4 := if_byt (c := decide (win m n = 0)) (l := putL a n (rsz b t (m - n + 1).toNat)) fun h => putL_nv na (rsz_nv nb (by have := win_zero (of_decide_eq_true h); omega) (by have := win_zero (of_decide_eq_true h); omega))
        have w4 := if_byt (c := decide (win m n = 0)) (l := putL c n (rsz d t (m - n + 1).toNat)) fun h => putL_nv nc (rsz_nv nd (by have := win_zero (of_decide_eq_true h); omega) (by have := win_zero (of_decide_eq_true h); omega))
        rw [← hx0] at v0
        rw [← hy0] at w0
        rw [← hx1] at v1
        rw [← hy1] at w1
        rw [← hx2] at v2
        rw [← hy2] at w2
        rw [← hx3] at v3
        rw [← hy3] at w3
        rw [← hx4] at v4
        rw [← hy4] at w4
        clear hx0 hy0 hx1 hy1 hx2 hy2 hx3 hy3 hx4 hy4 hgx0 hgy0 hgx1 hgy1 hgx2 hgy2 hgx3 hgy3 hgx4 hgy4 hex0 hey0 hex1 hey1 hex2 hey2 hex3 hey3 hex4 hey4
        refine SX.ite hG (fun h1 => ?_) (fun h1 => ?_)
        · exfalso
          have h2 : (!((ex0 == ey0) && ((ex1 == ey1) && ((ex2 == ey2) && ((ex3 == ey3) && ((ex4 == ey4) && true)))))) = true := by rw [hG] at h1; exact h1
          rw [ee0, ee1, ee2, ee3, ee4] at h2
          simp at h2
        refine hR _ ?_
        clear hR R
        refine sws_env ((T.nil.set 13 (SV.o 5 0)).set 14 (.o 6 0)) (by cbv <;> simp) ?_
        refine sws_seq hG fun R hR => ?_
        cbv
        refine lp_one hG ?_
        cbv
        refine call hG [] (kbr (c := true) (below_ok x0 y0 gx0 gy0 v0.2 v0.1 w0.1) b0) ⟨rfl, rfl, rfl⟩ ?_
        rintro _ _ ⟨rfl, rfl⟩
        cbv
        refine okd hG (by kernel_rfl) ?_
        refine lp_one hG ?_
        cbv
        refine call hG [] (kbr (c := true) (below_ok x1 y1 gx1 gy1 v1.2 v1.1 w1.1) b1) ⟨rfl, rfl, rfl⟩ ?_
        rintro _ _ ⟨rfl, rfl⟩
        cbv
        refine okd hG (by kernel_rfl) ?_
        refine lp_one hG ?_
        cbv
        refine call hG [] (kbr (c := true) (below_ok x2 y2 gx2 gy2 v2.2 v2.1 w2.1) b2) ⟨rfl, rfl, rfl⟩ ?_
        rintro _ _ ⟨rfl, rfl⟩
        cbv
        refine okd hG (by kernel_rfl) ?_
        refine lp_one hG ?_
        cbv
        refine call hG [] (kbr (c := true) (below_ok x3 y3 gx3 gy3 v3.2 v3.1 w3.1) b3) ⟨rfl, rfl, rfl⟩ ?_
        rintro _ _ ⟨rfl, rfl⟩
        cbv
        refine okd hG (by kernel_rfl) ?_
        refine lp_one hG ?_
        cbv
        refine call hG [] (kbr (c := true) (below_ok x4 y4 gx4 gy4 v4.2 v4.1 w4.1) b4) ⟨rfl, rfl, rfl⟩ ?_
        rintro _ _ ⟨rfl, rfl⟩
        cbv
        refine okd hG (by kernel_rfl) ?_
        refine lp_one hG ?_
        cbv
        refine hR _ ?_
        clear hR R
        refine sws_W hG ?_
        cbv
        exact hq _ _ ⟨_, rfl, rfl, rfl⟩
end Go.Proofs.YtdgbdkfoeaollaaDoor.V
