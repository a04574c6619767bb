/- VecCondMatches. -/
import Derived.Test.YtdgbdkfoeaollaaDoorVK
import Derived.Test.YtdgbdkfoeaollaaDoorVW
import Derived.Test.YtdgbdkfoeaollaaDoorALe
set_option linter.unusedSimpArgs false
set_option linter.unusedVariables false
set_option cbv.maxSteps 1000000
namespace Go.Proofs.YtdgbdkfoeaollaaDoor.V
open Go Go.AL Go.SX
theorem cond_law (e l m : List Int) (r s t : Bool) (be : Byt e) (bl : Byt l) (bm : Byt m) : FvC CX TB (.f 3 [] []) [.a [.u e, .b r], .a [.u l, .b s], .a [.u m, .b t]] [] (RB true) := by
  refine fn_sws rfl rfl fun B d q hq => ?_
  obtain ⟨G, hG⟩ : ∃ G, G = std CX TB B ⟨d, fun _ => none⟩ := ⟨_, rfl⟩
  refine sws_seq hG fun R hR => ?_
  cbv
  refine hR _ ?_
  clear hR R
  refine sws_seq hG fun R hR => ?_
  cbv
  cases hg : (decide (140 < e.length) || decide (140 < l.length) || decide (140 < m.length)) with
  | true =>
    refine call hG [] (kbr (c := true) (long3_ok e l m r s t) hg) ⟨rfl, rfl, rfl⟩ ?_
    rintro _ _ ⟨rfl, rfl⟩
    cbv
    refine call hG [] (kbr (c := true) awake_ok rfl) ⟨rfl, rfl, rfl⟩ ?_
    rintro _ _ ⟨rfl, rfl⟩
    cbv
    exact hq _ _ ⟨_, rfl, rfl, rfl⟩
  | false =>
    refine call hG [] (kbr (c := false) (long3_ok e l m r s t) hg) ⟨rfl, rfl, rfl⟩ ?_
    rintro _ _ ⟨rfl, rfl⟩
    cbv
    have hgl : e.length ≤ 140 ∧ l.length ≤ 140 ∧ m.length ≤ 140 := by
      rw [Bool.or_eq_false_iff, Bool.or_eq_false_iff] at hg
      have a := of_decide_eq_false hg.1.1
      have b := of_decide_eq_false hg.1.2
      have c := of_decide_eq_false hg.2
      exact ⟨Nat.le_of_not_lt a, Nat.le_of_not_lt b, Nat.le_of_not_lt c⟩
    have he : e.length < 2 ^ 14 := by omega
    have hl : l.length < 2 ^ 14 := by omega
    have hm : m.length < 2 ^ 14 := by omega
    have kl : l.length < 2 ^ 20 := by omega
    have km : m.length < 2 ^ 20 := by omega
    refine hR _ ?_
    clear hR R
    refine sws_seq hG fun R hR => ?_
    cbv
    refine call hG [] (own_ok l s kl) ⟨rfl, rfl, rfl⟩ ?_
    rintro _ _ ⟨X, x, rfl, rfl, hX, hx⟩
    cbv
    refine call hG [] (own_ok m t km) ⟨rfl, rfl, rfl⟩ ?_
    rintro _ _ ⟨Y, y, rfl, rfl, hY, hy⟩
    cbv
    refine okd hG (by kernel_rfl) ?_
    refine hR _ ?_
    clear hR R
    refine sws_seq hG fun R hR => ?_
    subst hX hx hY hy
    have hc := bX_nv (s := x) (t := y) bl bm
    have lc : (condL e X x Y y).length < 2 ^ 20 := by
      unfold condL
      have h1 := bX_nv (s := x) (t := y) bl bm
      have h2 := bY_nv (s := x) (t := y) bl bm
      have := h1.len; have := h2.len
      split
      · omega
      · split
        · omega
        · rw [zipW_len]; omega
    cbv
    refine lp_one hG ?_
    cbv
    refine call hG [] (vcond_ok X Y x y hl hm bl bm e r he be) ⟨rfl, rfl, rfl⟩ ?_
    rintro _ _ ⟨C1, c1, rfl, rfl, hC1, hc1⟩
    cbv
    refine call hG [] (rcond_ok X Y x y hl hm bl bm e r he be) ⟨rfl, rfl, rfl⟩ ?_
    rintro _ _ ⟨D1, d1, rfl, rfl, hD1, hd1⟩
    cbv
    refine call hG [] (kbr (c := true) (rsame_ok C1 D1 c1 d1 (by rw [hC1]; exact lc) (by rw [hD1]; exact lc)) (by rw [hC1, hc1, hD1, hd1]; simp)) ⟨rfl, rfl, rfl⟩ ?_
    rintro _ _ ⟨rfl, rfl⟩
    cbv
    refine okd hG (by kernel_rfl) ?_
    refine call hG [8] (spoil1_ok C1 c1 (by rw [hC1]; exact lc)) ⟨rfl, rfl, rfl⟩ ?_
    rintro _ _ ⟨rfl, rfl⟩
    cbv
    refine lp_one hG ?_
    cbv
    refine call hG [] (vcond_ok X Y x y hl hm bl bm e r he be) ⟨rfl, rfl, rfl⟩ ?_
    rintro _ _ ⟨C2, c2, rfl, rfl, hC2, hc2⟩
    cbv
    refine call hG [] (rcond_ok X Y x y hl hm bl bm e r he be) ⟨rfl, rfl, rfl⟩ ?_
    rintro _ _ ⟨D2, d2, rfl, rfl, hD2, hd2⟩
    cbv
    refine call hG [] (kbr (c := true) (rsame_ok C2 D2 c2 d2 (by rw [hC2]; exact lc) (by rw [hD2]; exact lc)) (by rw [hC2, hc2, hD2, hd2]; simp)) ⟨rfl, rfl, rfl⟩ ?_
    rintro _ _ ⟨rfl, rfl⟩
    cbv
    refine okd hG (by kernel_rfl) ?_
    refine call hG [12] (spoil1_ok C2 c2 (by rw [hC2]; exact lc)) ⟨rfl, rfl, rfl⟩ ?_
    rintro _ _ ⟨rfl, rfl⟩
    cbv
    refine lp_one hG ?_
    cbv
    refine hR _ ?_
    clear hR R
    refine sws_W hG ?_
    cbv
    refine call hG [] (kbr (c := true) (rsame_ok X X x x kl kl) (by simp)) ⟨rfl, rfl, rfl⟩ ?_
    rintro _ _ ⟨rfl, rfl⟩
    cbv
    refine call hG [] (kbr (c := true) (rsame_ok Y Y y y km km) (by simp)) ⟨rfl, rfl, rfl⟩ ?_
    rintro _ _ ⟨rfl, rfl⟩
    cbv
    refine call hG [] (kbr (c := true) awake_ok rfl) ⟨rfl, rfl, rfl⟩ ?_
    rintro _ _ ⟨rfl, rfl⟩
    cbv
    exact hq _ _ ⟨_, rfl, rfl, rfl⟩
end Go.Proofs.YtdgbdkfoeaollaaDoor.V
