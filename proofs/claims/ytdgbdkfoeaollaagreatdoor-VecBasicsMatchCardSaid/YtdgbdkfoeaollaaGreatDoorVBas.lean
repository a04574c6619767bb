/- VecBasicsMatch. -/
import Derived.Test.YtdgbdkfoeaollaaGreatDoorVY
import Derived.Test.YtdgbdkfoeaollaaGreatDoorVK
import Derived.Test.YtdgbdkfoeaollaaGreatDoorVW
import Derived.Test.YtdgbdkfoeaollaaGreatDoorALe
set_option linter.unusedSimpArgs false
set_option linter.unusedVariables false
set_option cbv.maxSteps 1000000
set_option maxRecDepth 100000
set_option maxHeartbeats 4000000
namespace Go.Proofs.YtdgbdkfoeaollaaGreatDoor.V
open Go Go.AL Go.SX
theorem cmp_eq {B : AH} {D : Bs} {G : Sg} (hG : G = std CX TB B D) {a b : Int} (h : a = b) (hf : G.cmp .eql a b = false) : False := by
  subst h
  rw [hG] at hf
  have h3 : (a == a) = false := hf
  simp at h3
theorem beq_eq {B : AH} {D : Bs} {G : Sg} (hG : G = std CX TB B D) {a b : Bool} (h : a = b) (hf : G.beq .eql a b = false) : False := by
  subst h
  rw [hG] at hf
  have h3 : (a == a) = false := hf
  simp at h3
theorem basics_law (l m : List Int) (s t u : Bool) (bl : Byt l) (bm : Byt m) : FvC CX TB (.f 5 [] []) [.a [.u l, .b s], .a [.u m, .b t], .b u] [] (RB true) := by
  refine fn_sws rfl rfl fun B d q hq => ?_
  obtain ⟨G, hG⟩ : ∃ G, G = std CX TB B ⟨d, fun _ => none⟩ := ⟨_, rfl⟩
  refine sws_seq hG fun R hR => ?_
  cbv
  refine hR _ ?_
  clear hR R
  refine sws_seq hG fun R hR => ?_
  cbv
  cases hg : (decide (140 < l.length) || decide (140 < m.length)) with
  | true =>
    refine call hG [] (kbr (c := true) (long2_ok l m s t) hg) ⟨rfl, rfl, rfl⟩ ?_
    rintro _ _ ⟨rfl, rfl⟩
    cbv
    refine call hG [] (kbr (c := true) awake_ok rfl) ⟨rfl, rfl, rfl⟩ ?_
    rintro _ _ ⟨rfl, rfl⟩
    cbv
    exact hq _ _ ⟨_, rfl, rfl, rfl⟩
  | false =>
    refine call hG [] (kbr (c := false) (long2_ok l m s t) hg) ⟨rfl, rfl, rfl⟩ ?_
    rintro _ _ ⟨rfl, rfl⟩
    cbv
    have hgl : l.length ≤ 140 ∧ m.length ≤ 140 := by
      rw [Bool.or_eq_false_iff] at hg
      have a := of_decide_eq_false hg.1
      have b := of_decide_eq_false hg.2
      exact ⟨Nat.le_of_not_lt a, Nat.le_of_not_lt b⟩
    have ll : l.length < 2 ^ 15 := by omega
    have lm : m.length < 2 ^ 15 := by omega
    have kl : l.length < 2 ^ 20 := by omega
    have km : m.length < 2 ^ 20 := by omega
    have nl := (nB_nv bl).len
    refine hR _ ?_
    clear hR R
    refine sws_seq hG fun R hR => ?_
    cbv
    refine call hG [] (vint_ok l s ll bl) ⟨rfl, rfl, rfl⟩ ?_
    rintro _ _ ⟨i1, b1, rfl, rfl, hi1, hb1⟩
    cbv
    refine hR _ ?_
    clear hR R
    refine sws_seq hG fun R hR => ?_
    cbv
    refine call hG [] (rint_ok l s kl bl) ⟨rfl, rfl, rfl⟩ ?_
    rintro _ _ ⟨i2, b2, rfl, rfl, hi2, hb2⟩
    cbv
    have ei : i1 = i2 := by rw [hi1, hi2]
    have eb : b1 = b2 := by rw [hb1, hb2]
    clear hi1 hi2 hb1 hb2
    refine hR _ ?_
    clear hR R
    refine sws_seq hG fun R hR => ?_
    cbv
    refine call hG [] (withSign_ok l s u ll) ⟨rfl, rfl, rfl⟩ ?_
    rintro _ _ ⟨W, w, rfl, rfl, hW, hw⟩
    cbv
    refine hR _ ?_
    clear hR R
    refine sws_seq hG fun R hR => ?_
    cbv
    refine call hG [] (rwithSign_ok l s u kl) ⟨rfl, rfl, rfl⟩ ?_
    rintro _ _ ⟨Z, z, rfl, rfl, hZ, hz⟩
    cbv
    refine call hG [] (kbr (c := true) (rsame_ok W Z w z (by rw [hW]; omega) (by rw [hZ]; omega)) (by rw [hW, hw, hZ, hz]; simp)) ⟨rfl, rfl, rfl⟩ ?_
    rintro _ _ ⟨rfl, rfl⟩
    cbv
    refine okd hG (by kernel_rfl) ?_
    refine hR _ ?_
    clear hR R
    refine sws_seq hG fun R hR => ?_
    cbv
    refine call hG [3] (spoil1_ok W w (by rw [hW]; omega)) ⟨rfl, rfl, rfl⟩ ?_
    rintro _ _ ⟨rfl, rfl⟩
    cbv
    refine hR _ ?_
    clear hR R
    refine sws_env ((((((((T.nil.set 2 (SV.b u)).set 3 (.o 0 0)).set 4 (.o 1 0)).set 7 (.i .i64 i1)).set 8 (.b b1)).set 9 (.i .i64 i2)).set 10 (.b b2))) (by cbv <;> simp) ?_
    clear hW hw hZ hz
    refine sws_W hG ?_
    cbv
    refine call hG [] (check_ok l s) ⟨rfl, rfl, rfl⟩ ?_
    rintro _ _ ⟨c1, rfl, rfl, hc1⟩
    cbv
    refine call hG [] (rcheck_ok l s) ⟨rfl, rfl, rfl⟩ ?_
    rintro _ _ ⟨c2, rfl, rfl, hc2⟩
    cbv
    refine SX.ite hG (fun h1 => ?_) (fun h1 => (cmp_eq hG (by rw [hc1, hc2]) h1).elim)
    refine call hG [] (vsame_ok l m s t kl) ⟨rfl, rfl, rfl⟩ ?_
    rintro _ _ ⟨a1, rfl, rfl, ha1⟩
    cbv
    refine call hG [] (rsame_ok l m s t kl km) ⟨rfl, rfl, rfl⟩ ?_
    rintro _ _ ⟨a2, rfl, rfl, ha2⟩
    cbv
    refine SX.ite hG (fun h2 => ?_) (fun h2 => (beq_eq hG (by rw [ha1, ha2]) h2).elim)
    refine call hG [] (vknown_ok l s ll) ⟨rfl, rfl, rfl⟩ ?_
    rintro _ _ ⟨k1, rfl, rfl, hk1⟩
    cbv
    refine call hG [] (rknown4_ok l s kl bl) ⟨rfl, rfl, rfl⟩ ?_
    rintro _ _ ⟨k2, rfl, rfl, hk2⟩
    cbv
    refine SX.ite hG (fun h3 => ?_) (fun h3 => (beq_eq hG (by rw [hk1, hk2]) h3).elim)
    refine call hG [] (vleq_ok l m s t ll lm) ⟨rfl, rfl, rfl⟩ ?_
    rintro _ _ ⟨e1, rfl, rfl, he1⟩
    cbv
    refine call hG [] (rleq4_ok l m s t kl km bl bm) ⟨rfl, rfl, rfl⟩ ?_
    rintro _ _ ⟨e2, rfl, rfl, he2⟩
    cbv
    refine SX.ite hG (fun h4 => ?_) (fun h4 => (beq_eq hG (by rw [he1, he2]) h4).elim)
    refine SX.ite hG (fun h5 => ?_) (fun h5 => (cmp_eq hG ei h5).elim)
    refine SX.ite hG (fun h6 => ?_) (fun h6 => (beq_eq hG eb h6).elim)
    refine call hG [] (truth_ok l s ll bl) ⟨rfl, rfl, rfl⟩ ?_
    rintro _ _ ⟨f1, rfl, rfl, hf1⟩
    cbv
    refine call hG [] (rtruth_ok l s kl bl) ⟨rfl, rfl, rfl⟩ ?_
    rintro _ _ ⟨f2, rfl, rfl, hf2⟩
    cbv
    refine SX.ite hG (fun h7 => ?_) (fun h7 => (cmp_eq hG (by rw [hf1, hf2]) h7).elim)
    refine call hG [] (withSign_ok l s u ll) ⟨rfl, rfl, rfl⟩ ?_
    rintro _ _ ⟨W, w, rfl, rfl, hW, hw⟩
    cbv
    refine call hG [] (rwithSign_ok l s u kl) ⟨rfl, rfl, rfl⟩ ?_
    rintro _ _ ⟨Z, z, rfl, rfl, hZ, hz⟩
    cbv
    refine call hG [] (kbr (c := true) (rsame_ok W Z w z (by rw [hW]; omega) (by rw [hZ]; omega)) (by rw [hW, hw, hZ, hz]; simp)) ⟨rfl, rfl, rfl⟩ ?_
    rintro _ _ ⟨rfl, rfl⟩
    cbv
    refine call hG [] (kbr (c := true) awake_ok rfl) ⟨rfl, rfl, rfl⟩ ?_
    rintro _ _ ⟨rfl, rfl⟩
    cbv
    refine okd hG (by kernel_rfl) ?_
    exact hq _ _ ⟨_, rfl, rfl, rfl⟩
end Go.Proofs.YtdgbdkfoeaollaaGreatDoor.V
