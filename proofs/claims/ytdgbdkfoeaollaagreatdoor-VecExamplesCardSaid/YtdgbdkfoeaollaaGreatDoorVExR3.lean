/- VecExamples: the rounds (printed by VEx.py). -/
import Derived.Test.YtdgbdkfoeaollaaGreatDoorVExS
set_option linter.unusedSimpArgs false
set_option linter.unusedVariables false
set_option cbv.maxSteps 4000000
set_option maxRecDepth 100000
set_option maxHeartbeats 8000000
namespace Go.Proofs.YtdgbdkfoeaollaaGreatDoor.V
open Go Go.AL Go.SX
def exLp:IC:=match dropC 14 IR.fi4.code with | .seq (.seq _ (.block _ (.loop b))) _=>b | _=>.skip
def stEF:SX.St:=⟨T.nil,[]⟩
theorem ex_r3 {B:AH} {d:Nat→Prop} (Z:Nat→List Int) (S:Nat→Bool) (hl:∀ i,(Z i).length<2^20) (K:Ctl→SX.St→Prop) (hK:∀ s',Le s' stEF→K (.exit 0) s'):SWs CX TB B ⟨d,fun _=>none⟩ (.loop exLp) (stEL Z S 36) K:=by
 obtain ⟨G,hG⟩:∃ G,G=std CX TB B ⟨d,fun _=>none⟩:=⟨_,rfl⟩
 refine sws_W hG ?_
 cbv
 refine lp_le hG (s':=stEL Z S 36) (by constructor<;>cbv<;>simp) ?_
 refine lp_one hG ?_
 cbv
 refine call hG [] (kbr (c:=true) (rsame_ok (Z 36) (Z 36) (S 36) (S 36) (hl 36) (hl 36)) (by simp)) ⟨rfl,rfl,rfl⟩ ?_
 rintro _ _ ⟨rfl,rfl⟩
 cbv
 refine lp_le hG (s':=stEL Z S 37) (by constructor<;>cbv<;>simp) ?_
 refine lp_one hG ?_
 cbv
 refine call hG [] (kbr (c:=true) (rsame_ok (Z 37) (Z 37) (S 37) (S 37) (hl 37) (hl 37)) (by simp)) ⟨rfl,rfl,rfl⟩ ?_
 rintro _ _ ⟨rfl,rfl⟩
 cbv
 refine lp_le hG (s':=stEL Z S 38) (by constructor<;>cbv<;>simp) ?_
 refine lp_one hG ?_
 cbv
 refine call hG [] (kbr (c:=true) (rsame_ok (Z 38) (Z 38) (S 38) (S 38) (hl 38) (hl 38)) (by simp)) ⟨rfl,rfl,rfl⟩ ?_
 rintro _ _ ⟨rfl,rfl⟩
 cbv
 refine lp_le hG (s':=stEL Z S 39) (by constructor<;>cbv<;>simp) ?_
 refine lp_one hG ?_
 cbv
 refine call hG [] (kbr (c:=true) (rsame_ok (Z 39) (Z 39) (S 39) (S 39) (hl 39) (hl 39)) (by simp)) ⟨rfl,rfl,rfl⟩ ?_
 rintro _ _ ⟨rfl,rfl⟩
 cbv
 refine lp_le hG (s':=stEL Z S 40) (by constructor<;>cbv<;>simp) ?_
 refine lp_one hG ?_
 cbv
 refine call hG [] (kbr (c:=true) (rsame_ok (Z 40) (Z 40) (S 40) (S 40) (hl 40) (hl 40)) (by simp)) ⟨rfl,rfl,rfl⟩ ?_
 rintro _ _ ⟨rfl,rfl⟩
 cbv
 refine lp_le hG (s':=stEL Z S 41) (by constructor<;>cbv<;>simp) ?_
 refine lp_one hG ?_
 cbv
 refine call hG [] (kbr (c:=true) (rsame_ok (Z 41) (Z 41) (S 41) (S 41) (hl 41) (hl 41)) (by simp)) ⟨rfl,rfl,rfl⟩ ?_
 rintro _ _ ⟨rfl,rfl⟩
 cbv
 refine lp_le hG (s':=stEL Z S 42) (by constructor<;>cbv<;>simp) ?_
 refine lp_one hG ?_
 cbv
 refine call hG [] (kbr (c:=true) (rsame_ok (Z 42) (Z 42) (S 42) (S 42) (hl 42) (hl 42)) (by simp)) ⟨rfl,rfl,rfl⟩ ?_
 rintro _ _ ⟨rfl,rfl⟩
 cbv
 refine lp_le hG (s':=stEL Z S 43) (by constructor<;>cbv<;>simp) ?_
 refine lp_one hG ?_
 cbv
 refine call hG [] (kbr (c:=true) (rsame_ok (Z 43) (Z 43) (S 43) (S 43) (hl 43) (hl 43)) (by simp)) ⟨rfl,rfl,rfl⟩ ?_
 rintro _ _ ⟨rfl,rfl⟩
 cbv
 refine lp_le hG (s':=stEL Z S 44) (by constructor<;>cbv<;>simp) ?_
 refine lp_one hG ?_
 cbv
 refine call hG [] (kbr (c:=true) (rsame_ok (Z 44) (Z 44) (S 44) (S 44) (hl 44) (hl 44)) (by simp)) ⟨rfl,rfl,rfl⟩ ?_
 rintro _ _ ⟨rfl,rfl⟩
 cbv
 refine lp_le hG (s':=stEL Z S 45) (by constructor<;>cbv<;>simp) ?_
 refine lp_one hG ?_
 cbv
 refine call hG [] (kbr (c:=true) (rsame_ok (Z 45) (Z 45) (S 45) (S 45) (hl 45) (hl 45)) (by simp)) ⟨rfl,rfl,rfl⟩ ?_
 rintro _ _ ⟨rfl,rfl⟩
 cbv
 refine lp_le hG (s':=stEL Z S 46) (by constructor<;>cbv<;>simp) ?_
 refine lp_one hG ?_
 cbv
 refine call hG [] (kbr (c:=true) (rsame_ok (Z 46) (Z 46) (S 46) (S 46) (hl 46) (hl 46)) (by simp)) ⟨rfl,rfl,rfl⟩ ?_
 rintro _ _ ⟨rfl,rfl⟩
 cbv
 refine lp_le hG (s':=stEL Z S 47) (by constructor<;>cbv<;>simp) ?_
 refine lp_one hG ?_
 cbv
 refine call hG [] (kbr (c:=true) (rsame_ok (Z 47) (Z 47) (S 47) (S 47) (hl 47) (hl 47)) (by simp)) ⟨rfl,rfl,rfl⟩ ?_
 rintro _ _ ⟨rfl,rfl⟩
 cbv
 refine lp_le hG (s':=stEL Z S 48) (by constructor<;>cbv<;>simp) ?_
 refine lp_one hG ?_
 cbv
 refine call hG [] (kbr (c:=true) (rsame_ok (Z 48) (Z 48) (S 48) (S 48) (hl 48) (hl 48)) (by simp)) ⟨rfl,rfl,rfl⟩ ?_
 rintro _ _ ⟨rfl,rfl⟩
 cbv
 refine lp_le hG (s':=stEL Z S 49) (by constructor<;>cbv<;>simp) ?_
 refine lp_one hG ?_
 cbv
 exact hK _ (by constructor<;>cbv<;>simp)
end Go.Proofs.YtdgbdkfoeaollaaGreatDoor.V
