/- VecUnknown: the law (printed by VUnk.py). -/
import Derived.Test.YtdgbdkfoeaollaaGreatDoorVUnk1
import Derived.Test.YtdgbdkfoeaollaaGreatDoorVUnk2
import Derived.Test.YtdgbdkfoeaollaaGreatDoorVUnk3
import Derived.Test.YtdgbdkfoeaollaaGreatDoorVUnk4
import Derived.Test.YtdgbdkfoeaollaaGreatDoorVZe
import Derived.Test.YtdgbdkfoeaollaaGreatDoorVJ
import Derived.Test.YtdgbdkfoeaollaaGreatDoorVW
import Derived.Test.YtdgbdkfoeaollaaGreatDoorALe
set_option linter.unusedSimpArgs false
set_option linter.unusedVariables false
set_option cbv.maxSteps 4000000
set_option maxRecDepth 100000
set_option maxHeartbeats 4000000
namespace Go.Proofs.YtdgbdkfoeaollaaGreatDoor.V
open Go Go.AL Go.SX
theorem unk_law (l m : List Int) (s t : Bool) (bl : Byt l) (bm : Byt m) : FvC CX TB (.f 8 [] []) [.a [.u l, .b s], .a [.u m, .b t]] [] (RB true) := by
  refine fn_sws rfl rfl fun B d q hq0 => ?_
  have hq : ∀ x, x = true → q (.b x) [] := fun x hx => hq0 _ _ ⟨x, rfl, rfl, hx⟩
  obtain ⟨G, hG⟩ : ∃ G, G = std CX TB B ⟨d, fun _ => none⟩ := ⟨_, rfl⟩
  refine sws_seq hG fun R hR => ?_
  cbv
  refine hR _ ?_
  clear hR R
  refine sws_seq hG fun R hR => ?_
  cbv
  cases hg : (decide (140 < l.length) || decide (140 < m.length)) with
  | true =>
    refine call hG [] (kbr (c := true) (long2_ok l m s t) hg) ⟨rfl, rfl, rfl⟩ ?_
    rintro _ _ ⟨rfl, rfl⟩
    cbv
    refine call hG [] (kbr (c := true) awake_ok rfl) ⟨rfl, rfl, rfl⟩ ?_
    rintro _ _ ⟨rfl, rfl⟩
    cbv
    exact hq _ rfl
  | false =>
    refine call hG [] (kbr (c := false) (long2_ok l m s t) hg) ⟨rfl, rfl, rfl⟩ ?_
    rintro _ _ ⟨rfl, rfl⟩
    cbv
    refine call hG [] (kbr (c := true) awake_ok rfl) ⟨rfl, rfl, rfl⟩ ?_
    rintro _ _ ⟨rfl, rfl⟩
    cbv
    have hgl : l.length ≤ 140 ∧ m.length ≤ 140 := by
      rw [Bool.or_eq_false_iff] at hg
      have a := of_decide_eq_false hg.1
      have b := of_decide_eq_false hg.2
      exact ⟨Nat.le_of_not_lt a, Nat.le_of_not_lt b⟩
    have hl : l.length < 2 ^ 14 := by omega
    have hm : m.length < 2 ^ 14 := by omega
    refine hR _ ?_
    clear hR R
    refine sws_seq hG fun R hR => ?_
    cbv
    refine call hG [] (of_ok ⟨#[49]⟩ (by decide)) ⟨rfl, rfl, rfl⟩ ?_
    rintro _ _ ⟨O, o, rfl, rfl, hO, ho⟩
    cbv
    have eO : O = [1] := hO
    have lO : O.length < 2 ^ 14 := by rw [eO]; decide
    have bO : Byt O := by rw [eO]; intro x hx; simp at hx; omega
    refine call hG [] (vcond_ok l m s t hl hm bl bm O o lO bO) ⟨rfl, rfl, rfl⟩ ?_
    rintro _ _ ⟨X, x, rfl, rfl, hX, hx⟩
    cbv
    refine call hG [] (rnorm_ok l s (by omega)) ⟨rfl, rfl, rfl⟩ ?_
    rintro _ _ ⟨N, n, rfl, rfl, hN, hn⟩
    cbv
    refine okd hG (by kernel_rfl) ?_
    have hX : X = bX l s m t := by rw [hX, eO, condL, if_pos (by decide)]
    have nX : NV X := by rw [hX]; exact bX_nv bl bm
    have nN : NV N := by rw [hN]; exact nB_nv bl
    have eX : List.replicate (bwd l m) (2 : Int) = List.replicate X.length 2 := by rw [hX, bX_len]
    have eN : List.replicate (nB l).length (2 : Int) = List.replicate N.length 2 := by rw [hN]
    clear hO ho hX hx hN hn
    refine hR _ (sws_le (s' := stV l m X N s t x n) (by constructor <;> cbv <;> simp) ?_)
    clear hR R
    cases ha : kn (nB l) with
    | false =>
      cases hb : kn (nB m) with
      | false => exact unk1 l m X N s t x n hl hm bl bm nX nN eX eN ha hb q hq
      | true => exact unk2 l m X N s t x n hl hm bl bm nX nN eX eN ha hb q hq
    | true =>
      cases hb : kn (nB m) with
      | false => exact unk3 l m X N s t x n hl hm bl bm nX nN eX eN ha hb q hq
      | true => exact unk4 l m X N s t x n hl hm bl bm nX nN eX eN ha hb q hq
end Go.Proofs.YtdgbdkfoeaollaaGreatDoor.V
