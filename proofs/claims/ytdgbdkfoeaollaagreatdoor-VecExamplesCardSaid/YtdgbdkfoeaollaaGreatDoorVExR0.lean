/- VecExamples: the rounds (printed by VEx.py). -/
import Derived.Test.YtdgbdkfoeaollaaGreatDoorVExR1
set_option linter.unusedSimpArgs false
set_option linter.unusedVariables false
set_option cbv.maxSteps 4000000
set_option maxRecDepth 100000
set_option maxHeartbeats 8000000
namespace Go.Proofs.YtdgbdkfoeaollaaGreatDoor.V
open Go Go.AL Go.SX
theorem ex_r0 {B:AH} {d:Nat→Prop} (Z:Nat→List Int) (S:Nat→Bool) (hl:∀ i,(Z i).length<2^20) (K:Ctl→SX.St→Prop) (hK:∀ s',Le s' stEF→K (.exit 0) s'):SWs CX TB B ⟨d,fun _=>none⟩ (.loop exLp) (stEL Z S 0) K:=by
 obtain ⟨G,hG⟩:∃ G,G=std CX TB B ⟨d,fun _=>none⟩:=⟨_,rfl⟩
 refine sws_W hG ?_
 cbv
 refine lp_le hG (s':=stEL Z S 0) (by constructor<;>cbv<;>simp) ?_
 refine lp_one hG ?_
 cbv
 refine call hG [] (kbr (c:=true) (rsame_ok (Z 0) (Z 0) (S 0) (S 0) (hl 0) (hl 0)) (by simp)) ⟨rfl,rfl,rfl⟩ ?_
 rintro _ _ ⟨rfl,rfl⟩
 cbv
 refine lp_le hG (s':=stEL Z S 1) (by constructor<;>cbv<;>simp) ?_
 refine lp_one hG ?_
 cbv
 refine call hG [] (kbr (c:=true) (rsame_ok (Z 1) (Z 1) (S 1) (S 1) (hl 1) (hl 1)) (by simp)) ⟨rfl,rfl,rfl⟩ ?_
 rintro _ _ ⟨rfl,rfl⟩
 cbv
 refine lp_le hG (s':=stEL Z S 2) (by constructor<;>cbv<;>simp) ?_
 refine lp_one hG ?_
 cbv
 refine call hG [] (kbr (c:=true) (rsame_ok (Z 2) (Z 2) (S 2) (S 2) (hl 2) (hl 2)) (by simp)) ⟨rfl,rfl,rfl⟩ ?_
 rintro _ _ ⟨rfl,rfl⟩
 cbv
 refine lp_le hG (s':=stEL Z S 3) (by constructor<;>cbv<;>simp) ?_
 refine lp_one hG ?_
 cbv
 refine call hG [] (kbr (c:=true) (rsame_ok (Z 3) (Z 3) (S 3) (S 3) (hl 3) (hl 3)) (by simp)) ⟨rfl,rfl,rfl⟩ ?_
 rintro _ _ ⟨rfl,rfl⟩
 cbv
 refine lp_le hG (s':=stEL Z S 4) (by constructor<;>cbv<;>simp) ?_
 refine lp_one hG ?_
 cbv
 refine call hG [] (kbr (c:=true) (rsame_ok (Z 4) (Z 4) (S 4) (S 4) (hl 4) (hl 4)) (by simp)) ⟨rfl,rfl,rfl⟩ ?_
 rintro _ _ ⟨rfl,rfl⟩
 cbv
 refine lp_le hG (s':=stEL Z S 5) (by constructor<;>cbv<;>simp) ?_
 refine lp_one hG ?_
 cbv
 refine call hG [] (kbr (c:=true) (rsame_ok (Z 5) (Z 5) (S 5) (S 5) (hl 5) (hl 5)) (by simp)) ⟨rfl,rfl,rfl⟩ ?_
 rintro _ _ ⟨rfl,rfl⟩
 cbv
 refine lp_le hG (s':=stEL Z S 6) (by constructor<;>cbv<;>simp) ?_
 refine lp_one hG ?_
 cbv
 refine call hG [] (kbr (c:=true) (rsame_ok (Z 6) (Z 6) (S 6) (S 6) (hl 6) (hl 6)) (by simp)) ⟨rfl,rfl,rfl⟩ ?_
 rintro _ _ ⟨rfl,rfl⟩
 cbv
 refine lp_le hG (s':=stEL Z S 7) (by constructor<;>cbv<;>simp) ?_
 refine lp_one hG ?_
 cbv
 refine call hG [] (kbr (c:=true) (rsame_ok (Z 7) (Z 7) (S 7) (S 7) (hl 7) (hl 7)) (by simp)) ⟨rfl,rfl,rfl⟩ ?_
 rintro _ _ ⟨rfl,rfl⟩
 cbv
 refine lp_le hG (s':=stEL Z S 8) (by constructor<;>cbv<;>simp) ?_
 refine lp_one hG ?_
 cbv
 refine call hG [] (kbr (c:=true) (rsame_ok (Z 8) (Z 8) (S 8) (S 8) (hl 8) (hl 8)) (by simp)) ⟨rfl,rfl,rfl⟩ ?_
 rintro _ _ ⟨rfl,rfl⟩
 cbv
 refine lp_le hG (s':=stEL Z S 9) (by constructor<;>cbv<;>simp) ?_
 refine lp_one hG ?_
 cbv
 refine call hG [] (kbr (c:=true) (rsame_ok (Z 9) (Z 9) (S 9) (S 9) (hl 9) (hl 9)) (by simp)) ⟨rfl,rfl,rfl⟩ ?_
 rintro _ _ ⟨rfl,rfl⟩
 cbv
 refine lp_le hG (s':=stEL Z S 10) (by constructor<;>cbv<;>simp) ?_
 refine lp_one hG ?_
 cbv
 refine call hG [] (kbr (c:=true) (rsame_ok (Z 10) (Z 10) (S 10) (S 10) (hl 10) (hl 10)) (by simp)) ⟨rfl,rfl,rfl⟩ ?_
 rintro _ _ ⟨rfl,rfl⟩
 cbv
 refine lp_le hG (s':=stEL Z S 11) (by constructor<;>cbv<;>simp) ?_
 refine lp_one hG ?_
 cbv
 refine call hG [] (kbr (c:=true) (rsame_ok (Z 11) (Z 11) (S 11) (S 11) (hl 11) (hl 11)) (by simp)) ⟨rfl,rfl,rfl⟩ ?_
 rintro _ _ ⟨rfl,rfl⟩
 cbv
 refine lp_le hG (s':=stEL Z S 12) (by constructor<;>cbv<;>simp) ?_
 exact lp_sws hG (ex_r1 Z S hl K hK)
end Go.Proofs.YtdgbdkfoeaollaaGreatDoor.V
