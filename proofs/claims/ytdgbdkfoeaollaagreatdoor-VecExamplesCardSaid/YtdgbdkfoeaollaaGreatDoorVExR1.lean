/- VecExamples: the rounds (printed by VEx.py). -/
import Derived.Test.YtdgbdkfoeaollaaGreatDoorVExR2
set_option linter.unusedSimpArgs false
set_option linter.unusedVariables false
set_option cbv.maxSteps 4000000
set_option maxRecDepth 100000
set_option maxHeartbeats 8000000
namespace Go.Proofs.YtdgbdkfoeaollaaGreatDoor.V
open Go Go.AL Go.SX
theorem ex_r1 {B:AH} {d:Nat→Prop} (Z:Nat→List Int) (S:Nat→Bool) (hl:∀ i,(Z i).length<2^20) (K:Ctl→SX.St→Prop) (hK:∀ s',Le s' stEF→K (.exit 0) s'):SWs CX TB B ⟨d,fun _=>none⟩ (.loop exLp) (stEL Z S 12) K:=by
 obtain ⟨G,hG⟩:∃ G,G=std CX TB B ⟨d,fun _=>none⟩:=⟨_,rfl⟩
 refine sws_W hG ?_
 cbv
 refine lp_le hG (s':=stEL Z S 12) (by constructor<;>cbv<;>simp) ?_
 refine lp_one hG ?_
 cbv
 refine call hG [] (kbr (c:=true) (rsame_ok (Z 12) (Z 12) (S 12) (S 12) (hl 12) (hl 12)) (by simp)) ⟨rfl,rfl,rfl⟩ ?_
 rintro _ _ ⟨rfl,rfl⟩
 cbv
 refine lp_le hG (s':=stEL Z S 13) (by constructor<;>cbv<;>simp) ?_
 refine lp_one hG ?_
 cbv
 refine call hG [] (kbr (c:=true) (rsame_ok (Z 13) (Z 13) (S 13) (S 13) (hl 13) (hl 13)) (by simp)) ⟨rfl,rfl,rfl⟩ ?_
 rintro _ _ ⟨rfl,rfl⟩
 cbv
 refine lp_le hG (s':=stEL Z S 14) (by constructor<;>cbv<;>simp) ?_
 refine lp_one hG ?_
 cbv
 refine call hG [] (kbr (c:=true) (rsame_ok (Z 14) (Z 14) (S 14) (S 14) (hl 14) (hl 14)) (by simp)) ⟨rfl,rfl,rfl⟩ ?_
 rintro _ _ ⟨rfl,rfl⟩
 cbv
 refine lp_le hG (s':=stEL Z S 15) (by constructor<;>cbv<;>simp) ?_
 refine lp_one hG ?_
 cbv
 refine call hG [] (kbr (c:=true) (rsame_ok (Z 15) (Z 15) (S 15) (S 15) (hl 15) (hl 15)) (by simp)) ⟨rfl,rfl,rfl⟩ ?_
 rintro _ _ ⟨rfl,rfl⟩
 cbv
 refine lp_le hG (s':=stEL Z S 16) (by constructor<;>cbv<;>simp) ?_
 refine lp_one hG ?_
 cbv
 refine call hG [] (kbr (c:=true) (rsame_ok (Z 16) (Z 16) (S 16) (S 16) (hl 16) (hl 16)) (by simp)) ⟨rfl,rfl,rfl⟩ ?_
 rintro _ _ ⟨rfl,rfl⟩
 cbv
 refine lp_le hG (s':=stEL Z S 17) (by constructor<;>cbv<;>simp) ?_
 refine lp_one hG ?_
 cbv
 refine call hG [] (kbr (c:=true) (rsame_ok (Z 17) (Z 17) (S 17) (S 17) (hl 17) (hl 17)) (by simp)) ⟨rfl,rfl,rfl⟩ ?_
 rintro _ _ ⟨rfl,rfl⟩
 cbv
 refine lp_le hG (s':=stEL Z S 18) (by constructor<;>cbv<;>simp) ?_
 refine lp_one hG ?_
 cbv
 refine call hG [] (kbr (c:=true) (rsame_ok (Z 18) (Z 18) (S 18) (S 18) (hl 18) (hl 18)) (by simp)) ⟨rfl,rfl,rfl⟩ ?_
 rintro _ _ ⟨rfl,rfl⟩
 cbv
 refine lp_le hG (s':=stEL Z S 19) (by constructor<;>cbv<;>simp) ?_
 refine lp_one hG ?_
 cbv
 refine call hG [] (kbr (c:=true) (rsame_ok (Z 19) (Z 19) (S 19) (S 19) (hl 19) (hl 19)) (by simp)) ⟨rfl,rfl,rfl⟩ ?_
 rintro _ _ ⟨rfl,rfl⟩
 cbv
 refine lp_le hG (s':=stEL Z S 20) (by constructor<;>cbv<;>simp) ?_
 refine lp_one hG ?_
 cbv
 refine call hG [] (kbr (c:=true) (rsame_ok (Z 20) (Z 20) (S 20) (S 20) (hl 20) (hl 20)) (by simp)) ⟨rfl,rfl,rfl⟩ ?_
 rintro _ _ ⟨rfl,rfl⟩
 cbv
 refine lp_le hG (s':=stEL Z S 21) (by constructor<;>cbv<;>simp) ?_
 refine lp_one hG ?_
 cbv
 refine call hG [] (kbr (c:=true) (rsame_ok (Z 21) (Z 21) (S 21) (S 21) (hl 21) (hl 21)) (by simp)) ⟨rfl,rfl,rfl⟩ ?_
 rintro _ _ ⟨rfl,rfl⟩
 cbv
 refine lp_le hG (s':=stEL Z S 22) (by constructor<;>cbv<;>simp) ?_
 refine lp_one hG ?_
 cbv
 refine call hG [] (kbr (c:=true) (rsame_ok (Z 22) (Z 22) (S 22) (S 22) (hl 22) (hl 22)) (by simp)) ⟨rfl,rfl,rfl⟩ ?_
 rintro _ _ ⟨rfl,rfl⟩
 cbv
 refine lp_le hG (s':=stEL Z S 23) (by constructor<;>cbv<;>simp) ?_
 refine lp_one hG ?_
 cbv
 refine call hG [] (kbr (c:=true) (rsame_ok (Z 23) (Z 23) (S 23) (S 23) (hl 23) (hl 23)) (by simp)) ⟨rfl,rfl,rfl⟩ ?_
 rintro _ _ ⟨rfl,rfl⟩
 cbv
 refine lp_le hG (s':=stEL Z S 24) (by constructor<;>cbv<;>simp) ?_
 exact lp_sws hG (ex_r2 Z S hl K hK)
end Go.Proofs.YtdgbdkfoeaollaaGreatDoor.V
