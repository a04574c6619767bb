/- VecExamples: the rounds (printed by VEx.py). -/
import Derived.Test.YtdgbdkfoeaollaaGreatDoorVExR3
set_option linter.unusedSimpArgs false
set_option linter.unusedVariables false
set_option cbv.maxSteps 4000000
set_option maxRecDepth 100000
set_option maxHeartbeats 8000000
namespace Go.Proofs.YtdgbdkfoeaollaaGreatDoor.V
open Go Go.AL Go.SX
theorem ex_r2 {B:AH} {d:Nat→Prop} (Z:Nat→List Int) (S:Nat→Bool) (hl:∀ i,(Z i).length<2^20) (K:Ctl→SX.St→Prop) (hK:∀ s',Le s' stEF→K (.exit 0) s'):SWs CX TB B ⟨d,fun _=>none⟩ (.loop exLp) (stEL Z S 24) K:=by
 obtain ⟨G,hG⟩:∃ G,G=std CX TB B ⟨d,fun _=>none⟩:=⟨_,rfl⟩
 refine sws_W hG ?_
 cbv
 refine lp_le hG (s':=stEL Z S 24) (by constructor<;>cbv<;>simp) ?_
 refine lp_one hG ?_
 cbv
 refine call hG [] (kbr (c:=true) (rsame_ok (Z 24) (Z 24) (S 24) (S 24) (hl 24) (hl 24)) (by simp)) ⟨rfl,rfl,rfl⟩ ?_
 rintro _ _ ⟨rfl,rfl⟩
 cbv
 refine lp_le hG (s':=stEL Z S 25) (by constructor<;>cbv<;>simp) ?_
 refine lp_one hG ?_
 cbv
 refine call hG [] (kbr (c:=true) (rsame_ok (Z 25) (Z 25) (S 25) (S 25) (hl 25) (hl 25)) (by simp)) ⟨rfl,rfl,rfl⟩ ?_
 rintro _ _ ⟨rfl,rfl⟩
 cbv
 refine lp_le hG (s':=stEL Z S 26) (by constructor<;>cbv<;>simp) ?_
 refine lp_one hG ?_
 cbv
 refine call hG [] (kbr (c:=true) (rsame_ok (Z 26) (Z 26) (S 26) (S 26) (hl 26) (hl 26)) (by simp)) ⟨rfl,rfl,rfl⟩ ?_
 rintro _ _ ⟨rfl,rfl⟩
 cbv
 refine lp_le hG (s':=stEL Z S 27) (by constructor<;>cbv<;>simp) ?_
 refine lp_one hG ?_
 cbv
 refine call hG [] (kbr (c:=true) (rsame_ok (Z 27) (Z 27) (S 27) (S 27) (hl 27) (hl 27)) (by simp)) ⟨rfl,rfl,rfl⟩ ?_
 rintro _ _ ⟨rfl,rfl⟩
 cbv
 refine lp_le hG (s':=stEL Z S 28) (by constructor<;>cbv<;>simp) ?_
 refine lp_one hG ?_
 cbv
 refine call hG [] (kbr (c:=true) (rsame_ok (Z 28) (Z 28) (S 28) (S 28) (hl 28) (hl 28)) (by simp)) ⟨rfl,rfl,rfl⟩ ?_
 rintro _ _ ⟨rfl,rfl⟩
 cbv
 refine lp_le hG (s':=stEL Z S 29) (by constructor<;>cbv<;>simp) ?_
 refine lp_one hG ?_
 cbv
 refine call hG [] (kbr (c:=true) (rsame_ok (Z 29) (Z 29) (S 29) (S 29) (hl 29) (hl 29)) (by simp)) ⟨rfl,rfl,rfl⟩ ?_
 rintro _ _ ⟨rfl,rfl⟩
 cbv
 refine lp_le hG (s':=stEL Z S 30) (by constructor<;>cbv<;>simp) ?_
 refine lp_one hG ?_
 cbv
 refine call hG [] (kbr (c:=true) (rsame_ok (Z 30) (Z 30) (S 30) (S 30) (hl 30) (hl 30)) (by simp)) ⟨rfl,rfl,rfl⟩ ?_
 rintro _ _ ⟨rfl,rfl⟩
 cbv
 refine lp_le hG (s':=stEL Z S 31) (by constructor<;>cbv<;>simp) ?_
 refine lp_one hG ?_
 cbv
 refine call hG [] (kbr (c:=true) (rsame_ok (Z 31) (Z 31) (S 31) (S 31) (hl 31) (hl 31)) (by simp)) ⟨rfl,rfl,rfl⟩ ?_
 rintro _ _ ⟨rfl,rfl⟩
 cbv
 refine lp_le hG (s':=stEL Z S 32) (by constructor<;>cbv<;>simp) ?_
 refine lp_one hG ?_
 cbv
 refine call hG [] (kbr (c:=true) (rsame_ok (Z 32) (Z 32) (S 32) (S 32) (hl 32) (hl 32)) (by simp)) ⟨rfl,rfl,rfl⟩ ?_
 rintro _ _ ⟨rfl,rfl⟩
 cbv
 refine lp_le hG (s':=stEL Z S 33) (by constructor<;>cbv<;>simp) ?_
 refine lp_one hG ?_
 cbv
 refine call hG [] (kbr (c:=true) (rsame_ok (Z 33) (Z 33) (S 33) (S 33) (hl 33) (hl 33)) (by simp)) ⟨rfl,rfl,rfl⟩ ?_
 rintro _ _ ⟨rfl,rfl⟩
 cbv
 refine lp_le hG (s':=stEL Z S 34) (by constructor<;>cbv<;>simp) ?_
 refine lp_one hG ?_
 cbv
 refine call hG [] (kbr (c:=true) (rsame_ok (Z 34) (Z 34) (S 34) (S 34) (hl 34) (hl 34)) (by simp)) ⟨rfl,rfl,rfl⟩ ?_
 rintro _ _ ⟨rfl,rfl⟩
 cbv
 refine lp_le hG (s':=stEL Z S 35) (by constructor<;>cbv<;>simp) ?_
 refine lp_one hG ?_
 cbv
 refine call hG [] (kbr (c:=true) (rsame_ok (Z 35) (Z 35) (S 35) (S 35) (hl 35) (hl 35)) (by simp)) ⟨rfl,rfl,rfl⟩ ?_
 rintro _ _ ⟨rfl,rfl⟩
 cbv
 refine lp_le hG (s':=stEL Z S 36) (by constructor<;>cbv<;>simp) ?_
 exact lp_sws hG (ex_r3 Z S hl K hK)
end Go.Proofs.YtdgbdkfoeaollaaGreatDoor.V
