/- VecMonotone: the operators with two operands, and what is behind (printed by VMon.py). -/
import Derived.Test.YtdgbdkfoeaollaaGreatDoorVMonA
import Derived.Test.YtdgbdkfoeaollaaGreatDoorVMc
import Derived.Test.YtdgbdkfoeaollaaGreatDoorVU
import Derived.Test.YtdgbdkfoeaollaaGreatDoorVW
import Derived.Test.YtdgbdkfoeaollaaGreatDoorALe
set_option linter.unusedSimpArgs false
set_option linter.unusedVariables false
set_option cbv.maxSteps 4000000
set_option maxRecDepth 100000
set_option maxHeartbeats 4000000
namespace Go.Proofs.YtdgbdkfoeaollaaGreatDoor.V
open Go Go.AL Go.SX
theorem condL_len {e l m : List Int} {s t : Bool} : (condL e l s m t).length = bwd l m := by
  unfold condL
  split
  · exact bX_len
  · split
    · exact bY_len
    · rw [zipW_len]; exact bX_len
theorem condL_v4 {e l m : List Int} {s t : Bool} (bl : Byt l) (bm : Byt m) : ∀ x ∈ condL e l s m t, V4 x := by
  unfold condL
  split
  · exact (bX_nv bl bm).v
  · split
    · exact (bY_nv bl bm).v
    · exact (zipW_nv (bX_nv bl bm) (bY_nv bl bm) mXY bMux_44).v
theorem monE {B : AH} {d : Nat → Prop} (e a b e' a' b' : List Int) (r s t : Bool) (nE : NV e) (nE' : NV e') (rE : Rf e e') (nA : NV a) (nC : NV a') (rA : Rf a a') (nB' : NV b) (nD : NV b') (rB : Rf b b') (q : SV → List SX.Obj → Prop) (hq : ∀ x, x = true → q (.b x) []) : SWs CX TB B ⟨d, fun _ => none⟩ (dropC 5 IR.fi3.code) (stM e a b e' a' b' r s t) (post [.tmp 12] q) := by
  have o : Op2 a a' b b' := ⟨nA, nC, nB', nD, rA, rB⟩
  have la : a.length < 2 ^ 14 := by have := nA.len; omega
  have lb : b.length < 2 ^ 14 := by have := nB'.len; omega
  have la' : a'.length < 2 ^ 14 := by have := nC.len; omega
  have lb' : b'.length < 2 ^ 14 := by have := nD.len; omega
  have ka : a.length < 2 ^ 15 := by omega
  have kb : b.length < 2 ^ 15 := by omega
  have ka' : a'.length < 2 ^ 15 := by omega
  have kb' : b'.length < 2 ^ 15 := by omega
  have ba := byt_nv nA
  have bb := byt_nv nB'
  have ba' := byt_nv nC
  have bb' := byt_nv nD
  obtain ⟨G, hG⟩ : ∃ G, G = std CX TB B ⟨d, fun _ => none⟩ := ⟨_, rfl⟩
  refine sws_W hG ?_
  cbv
  refine call hG [] (truth_ok a s ka ba) ⟨rfl, rfl, rfl⟩ ?_
  rintro _ _ ⟨x, rfl, rfl, hx⟩
  cbv
  refine call hG [] (truth_ok a' s ka' ba') ⟨rfl, rfl, rfl⟩ ?_
  rintro _ _ ⟨y, rfl, rfl, hy⟩
  cbv
  refine call hG [] (kbr (c := true) (bLeq_ok x y) (by rw [hx, hy, nB_id nA, nB_id nC]; exact leq3 (truth_3 nA) (truth_3 nC) (truth_mn nA nC rA))) ⟨rfl, rfl, rfl⟩ ?_
  rintro _ _ ⟨rfl, rfl⟩
  cbv
  refine call hG [] (vcond_ok a b s t la lb ba bb e r (by have := nE.len; omega) (byt_nv nE)) ⟨rfl, rfl, rfl⟩ ?_
  rintro _ _ ⟨Z, z, rfl, rfl, hZ, hz⟩
  cbv
  refine call hG [] (vcond_ok a' b' s t la' lb' ba' bb' e' r (by have := nE'.len; omega) (byt_nv nE')) ⟨rfl, rfl, rfl⟩ ?_
  rintro _ _ ⟨Y, y, rfl, rfl, hY, hy⟩
  cbv
  have P : Pk Z z Y y := by rw [hZ, hz, hY, hy]; exact pk_mk (cond_mn o nE nE' rE) (o_g o) (condL_v4 ba bb) (condL_v4 ba' bb') (by rw [condL_len]; have := wd128 o; omega)
  refine call hG [] (kbr (c := true) (below_ok Z Y z y P.2.2.2 P.2.1 P.2.2.1) P.1) ⟨rfl, rfl, rfl⟩ ?_
  rintro _ _ ⟨rfl, rfl⟩
  cbv
  refine okd hG (by kernel_rfl) ?_
  exact hq _ rfl
theorem monT {B : AH} {d : Nat → Prop} (e a b e' a' b' : List Int) (r s t : Bool) (nE : NV e) (nE' : NV e') (rE : Rf e e') (nA : NV a) (nC : NV a') (rA : Rf a a') (nB' : NV b) (nD : NV b') (rB : Rf b b') (q : SV → List SX.Obj → Prop) (hq : ∀ x, x = true → q (.b x) []) : SWs CX TB B ⟨d, fun _ => none⟩ (dropC 4 IR.fi3.code) (stM e a b e' a' b' r s t) (post [.tmp 12] q) := by
  have o : Op2 a a' b b' := ⟨nA, nC, nB', nD, rA, rB⟩
  have la : a.length < 2 ^ 14 := by have := nA.len; omega
  have lb : b.length < 2 ^ 14 := by have := nB'.len; omega
  have la' : a'.length < 2 ^ 14 := by have := nC.len; omega
  have lb' : b'.length < 2 ^ 14 := by have := nD.len; omega
  have ka : a.length < 2 ^ 15 := by omega
  have kb : b.length < 2 ^ 15 := by omega
  have ka' : a'.length < 2 ^ 15 := by omega
  have kb' : b'.length < 2 ^ 15 := by omega
  have ba := byt_nv nA
  have bb := byt_nv nB'
  have ba' := byt_nv nC
  have bb' := byt_nv nD
  obtain ⟨G, hG⟩ : ∃ G, G = std CX TB B ⟨d, fun _ => none⟩ := ⟨_, rfl⟩
  refine sws_seq hG fun R hR => ?_
  cbv
  refine call hG [] (twos_ok) ⟨rfl, rfl, rfl⟩ ?_
  rintro _ _ ⟨rfl, rfl⟩
  cbv
  refine lp_le hG (s' := stM2 e a b e' a' b' r s t 0) (by constructor <;> cbv <;> simp) ?_
  refine lp_one hG ?_
  cbv
  refine call hG [] (vAnd_ok a b s t la lb ba bb) ⟨rfl, rfl, rfl⟩ ?_
  rintro _ _ ⟨Z, z, rfl, rfl, hZ, hz⟩
  cbv
  refine call hG [] (vAnd_ok a' b' s t la' lb' ba' bb') ⟨rfl, rfl, rfl⟩ ?_
  rintro _ _ ⟨Y, y, rfl, rfl, hY, hy⟩
  cbv
  have P : Pk Z z Y y := by rw [hZ, hz, hY, hy]; exact pk_bw o mnAnd bAnd_44
  refine call hG [] (kbr (c := true) (below_ok Z Y z y P.2.2.2 P.2.1 P.2.2.1) P.1) ⟨rfl, rfl, rfl⟩ ?_
  rintro _ _ ⟨rfl, rfl⟩
  cbv
  refine okd hG (by kernel_rfl) ?_
  refine lp_le hG (s' := stM2 e a b e' a' b' r s t 1) (by constructor <;> cbv <;> simp) ?_
  refine lp_one hG ?_
  cbv
  refine call hG [] (vOr_ok a b s t la lb ba bb) ⟨rfl, rfl, rfl⟩ ?_
  rintro _ _ ⟨Z, z, rfl, rfl, hZ, hz⟩
  cbv
  refine call hG [] (vOr_ok a' b' s t la' lb' ba' bb') ⟨rfl, rfl, rfl⟩ ?_
  rintro _ _ ⟨Y, y, rfl, rfl, hY, hy⟩
  cbv
  have P : Pk Z z Y y := by rw [hZ, hz, hY, hy]; exact pk_bw o mnOr bOr_44
  refine call hG [] (kbr (c := true) (below_ok Z Y z y P.2.2.2 P.2.1 P.2.2.1) P.1) ⟨rfl, rfl, rfl⟩ ?_
  rintro _ _ ⟨rfl, rfl⟩
  cbv
  refine okd hG (by kernel_rfl) ?_
  refine lp_le hG (s' := stM2 e a b e' a' b' r s t 2) (by constructor <;> cbv <;> simp) ?_
  refine lp_one hG ?_
  cbv
  refine call hG [] (vXor_ok a b s t la lb ba bb) ⟨rfl, rfl, rfl⟩ ?_
  rintro _ _ ⟨Z, z, rfl, rfl, hZ, hz⟩
  cbv
  refine call hG [] (vXor_ok a' b' s t la' lb' ba' bb') ⟨rfl, rfl, rfl⟩ ?_
  rintro _ _ ⟨Y, y, rfl, rfl, hY, hy⟩
  cbv
  have P : Pk Z z Y y := by rw [hZ, hz, hY, hy]; exact pk_bw o mnXor bXor_44
  refine call hG [] (kbr (c := true) (below_ok Z Y z y P.2.2.2 P.2.1 P.2.2.1) P.1) ⟨rfl, rfl, rfl⟩ ?_
  rintro _ _ ⟨rfl, rfl⟩
  cbv
  refine okd hG (by kernel_rfl) ?_
  refine lp_le hG (s' := stM2 e a b e' a' b' r s t 3) (by constructor <;> cbv <;> simp) ?_
  refine lp_one hG ?_
  cbv
  refine call hG [] (vXnor_ok a b s t la lb ba bb) ⟨rfl, rfl, rfl⟩ ?_
  rintro _ _ ⟨Z, z, rfl, rfl, hZ, hz⟩
  cbv
  refine call hG [] (vXnor_ok a' b' s t la' lb' ba' bb') ⟨rfl, rfl, rfl⟩ ?_
  rintro _ _ ⟨Y, y, rfl, rfl, hY, hy⟩
  cbv
  have P : Pk Z z Y y := by rw [hZ, hz, hY, hy]; exact pk_bw o mnEq bEq_44
  refine call hG [] (kbr (c := true) (below_ok Z Y z y P.2.2.2 P.2.1 P.2.2.1) P.1) ⟨rfl, rfl, rfl⟩ ?_
  rintro _ _ ⟨rfl, rfl⟩
  cbv
  refine okd hG (by kernel_rfl) ?_
  refine lp_le hG (s' := stM2 e a b e' a' b' r s t 4) (by constructor <;> cbv <;> simp) ?_
  refine lp_one hG ?_
  cbv
  refine call hG [] (vadd_ok a b s t la lb ba bb) ⟨rfl, rfl, rfl⟩ ?_
  rintro _ _ ⟨Z, z, rfl, rfl, hZ, hz⟩
  cbv
  refine call hG [] (vadd_ok a' b' s t la' lb' ba' bb') ⟨rfl, rfl, rfl⟩ ?_
  rintro _ _ ⟨Y, y, rfl, rfl, hY, hy⟩
  cbv
  have P : Pk Z z Y y := by rw [hZ, hz, hY, hy]; exact pk_to o fun x y => ofN_len _ _
  refine call hG [] (kbr (c := true) (below_ok Z Y z y P.2.2.2 P.2.1 P.2.2.1) P.1) ⟨rfl, rfl, rfl⟩ ?_
  rintro _ _ ⟨rfl, rfl⟩
  cbv
  refine okd hG (by kernel_rfl) ?_
  refine lp_le hG (s' := stM2 e a b e' a' b' r s t 5) (by constructor <;> cbv <;> simp) ?_
  refine lp_one hG ?_
  cbv
  refine call hG [] (vsub_ok a b s t la lb ba bb) ⟨rfl, rfl, rfl⟩ ?_
  rintro _ _ ⟨Z, z, rfl, rfl, hZ, hz⟩
  cbv
  refine call hG [] (vsub_ok a' b' s t la' lb' ba' bb') ⟨rfl, rfl, rfl⟩ ?_
  rintro _ _ ⟨Y, y, rfl, rfl, hY, hy⟩
  cbv
  have P : Pk Z z Y y := by rw [hZ, hz, hY, hy]; exact pk_to o fun x y => ofN_len _ _
  refine call hG [] (kbr (c := true) (below_ok Z Y z y P.2.2.2 P.2.1 P.2.2.1) P.1) ⟨rfl, rfl, rfl⟩ ?_
  rintro _ _ ⟨rfl, rfl⟩
  cbv
  refine okd hG (by kernel_rfl) ?_
  refine lp_le hG (s' := stM2 e a b e' a' b' r s t 6) (by constructor <;> cbv <;> simp) ?_
  refine lp_one hG ?_
  cbv
  refine call hG [] (vmul_ok a b s t la lb ba bb) ⟨rfl, rfl, rfl⟩ ?_
  rintro _ _ ⟨Z, z, rfl, rfl, hZ, hz⟩
  cbv
  refine call hG [] (vmul_ok a' b' s t la' lb' ba' bb') ⟨rfl, rfl, rfl⟩ ?_
  rintro _ _ ⟨Y, y, rfl, rfl, hY, hy⟩
  cbv
  have P : Pk Z z Y y := by rw [hZ, hz, hY, hy]; exact pk_to o fun x y => ofN_len _ _
  refine call hG [] (kbr (c := true) (below_ok Z Y z y P.2.2.2 P.2.1 P.2.2.1) P.1) ⟨rfl, rfl, rfl⟩ ?_
  rintro _ _ ⟨rfl, rfl⟩
  cbv
  refine okd hG (by kernel_rfl) ?_
  refine lp_le hG (s' := stM2 e a b e' a' b' r s t 7) (by constructor <;> cbv <;> simp) ?_
  refine lp_one hG ?_
  cbv
  refine call hG [] (vdiv_ok a b s t la lb ba bb) ⟨rfl, rfl, rfl⟩ ?_
  rintro _ _ ⟨Z, z, rfl, rfl, hZ, hz⟩
  cbv
  refine call hG [] (vdiv_ok a' b' s t la' lb' ba' bb') ⟨rfl, rfl, rfl⟩ ?_
  rintro _ _ ⟨Y, y, rfl, rfl, hY, hy⟩
  cbv
  have P : Pk Z z Y y := by rw [hZ, hz, hY, hy]; exact pk_div o
  refine call hG [] (kbr (c := true) (below_ok Z Y z y P.2.2.2 P.2.1 P.2.2.1) P.1) ⟨rfl, rfl, rfl⟩ ?_
  rintro _ _ ⟨rfl, rfl⟩
  cbv
  refine okd hG (by kernel_rfl) ?_
  refine lp_le hG (s' := stM2 e a b e' a' b' r s t 8) (by constructor <;> cbv <;> simp) ?_
  refine lp_one hG ?_
  cbv
  refine call hG [] (vmod_ok a b s t la lb ba bb) ⟨rfl, rfl, rfl⟩ ?_
  rintro _ _ ⟨Z, z, rfl, rfl, hZ, hz⟩
  cbv
  refine call hG [] (vmod_ok a' b' s t la' lb' ba' bb') ⟨rfl, rfl, rfl⟩ ?_
  rintro _ _ ⟨Y, y, rfl, rfl, hY, hy⟩
  cbv
  have P : Pk Z z Y y := by rw [hZ, hz, hY, hy]; exact pk_mod o
  refine call hG [] (kbr (c := true) (below_ok Z Y z y P.2.2.2 P.2.1 P.2.2.1) P.1) ⟨rfl, rfl, rfl⟩ ?_
  rintro _ _ ⟨rfl, rfl⟩
  cbv
  refine okd hG (by kernel_rfl) ?_
  refine lp_le hG (s' := stM2 e a b e' a' b' r s t 9) (by constructor <;> cbv <;> simp) ?_
  refine lp_one hG ?_
  cbv
  refine call hG [] (vpow_ok a b s t la lb ba bb) ⟨rfl, rfl, rfl⟩ ?_
  rintro _ _ ⟨Z, z, rfl, rfl, hZ, hz⟩
  cbv
  refine call hG [] (vpow_ok a' b' s t la' lb' ba' bb') ⟨rfl, rfl, rfl⟩ ?_
  rintro _ _ ⟨Y, y, rfl, rfl, hY, hy⟩
  cbv
  have P : Pk Z z Y y := by rw [hZ, hz, hY, hy]; exact pk_pow o
  refine call hG [] (kbr (c := true) (below_ok Z Y z y P.2.2.2 P.2.1 P.2.2.1) P.1) ⟨rfl, rfl, rfl⟩ ?_
  rintro _ _ ⟨rfl, rfl⟩
  cbv
  refine okd hG (by kernel_rfl) ?_
  refine lp_le hG (s' := stM2 e a b e' a' b' r s t 10) (by constructor <;> cbv <;> simp) ?_
  refine lp_one hG ?_
  cbv
  refine call hG [] (veq_ok a b s t la lb ba bb) ⟨rfl, rfl, rfl⟩ ?_
  rintro _ _ ⟨Z, z, rfl, rfl, hZ, hz⟩
  cbv
  refine call hG [] (veq_ok a' b' s t la' lb' ba' bb') ⟨rfl, rfl, rfl⟩ ?_
  rintro _ _ ⟨Y, y, rfl, rfl, hY, hy⟩
  cbv
  have P : Pk [Z] z [Y] y := by rw [hZ, hz, hY, hy]; exact pk_eq o
  refine call hG [] (kbr (c := true) (below_ok [Z] [Y] z y P.2.2.2 P.2.1 P.2.2.1) P.1) ⟨rfl, rfl, rfl⟩ ?_
  rintro _ _ ⟨rfl, rfl⟩
  cbv
  refine okd hG (by kernel_rfl) ?_
  refine lp_le hG (s' := stM2 e a b e' a' b' r s t 11) (by constructor <;> cbv <;> simp) ?_
  refine lp_one hG ?_
  cbv
  refine call hG [] (vne_ok a b s t la lb ba bb) ⟨rfl, rfl, rfl⟩ ?_
  rintro _ _ ⟨Z, z, rfl, rfl, hZ, hz⟩
  cbv
  refine call hG [] (vne_ok a' b' s t la' lb' ba' bb') ⟨rfl, rfl, rfl⟩ ?_
  rintro _ _ ⟨Y, y, rfl, rfl, hY, hy⟩
  cbv
  have P : Pk [Z] z [Y] y := by rw [hZ, hz, hY, hy]; exact pk_ne o
  refine call hG [] (kbr (c := true) (below_ok [Z] [Y] z y P.2.2.2 P.2.1 P.2.2.1) P.1) ⟨rfl, rfl, rfl⟩ ?_
  rintro _ _ ⟨rfl, rfl⟩
  cbv
  refine okd hG (by kernel_rfl) ?_
  refine lp_le hG (s' := stM2 e a b e' a' b' r s t 12) (by constructor <;> cbv <;> simp) ?_
  refine lp_one hG ?_
  cbv
  refine call hG [] (vlt_ok a b s t la lb ba bb) ⟨rfl, rfl, rfl⟩ ?_
  rintro _ _ ⟨Z, z, rfl, rfl, hZ, hz⟩
  cbv
  refine call hG [] (vlt_ok a' b' s t la' lb' ba' bb') ⟨rfl, rfl, rfl⟩ ?_
  rintro _ _ ⟨Y, y, rfl, rfl, hY, hy⟩
  cbv
  have P : Pk [Z] z [Y] y := by rw [hZ, hz, hY, hy]; exact pk_cp o
  refine call hG [] (kbr (c := true) (below_ok [Z] [Y] z y P.2.2.2 P.2.1 P.2.2.1) P.1) ⟨rfl, rfl, rfl⟩ ?_
  rintro _ _ ⟨rfl, rfl⟩
  cbv
  refine okd hG (by kernel_rfl) ?_
  refine lp_le hG (s' := stM2 e a b e' a' b' r s t 13) (by constructor <;> cbv <;> simp) ?_
  refine lp_one hG ?_
  cbv
  refine call hG [] (vle_ok a b s t la lb ba bb) ⟨rfl, rfl, rfl⟩ ?_
  rintro _ _ ⟨Z, z, rfl, rfl, hZ, hz⟩
  cbv
  refine call hG [] (vle_ok a' b' s t la' lb' ba' bb') ⟨rfl, rfl, rfl⟩ ?_
  rintro _ _ ⟨Y, y, rfl, rfl, hY, hy⟩
  cbv
  have P : Pk [Z] z [Y] y := by rw [hZ, hz, hY, hy]; exact pk_cp o
  refine call hG [] (kbr (c := true) (below_ok [Z] [Y] z y P.2.2.2 P.2.1 P.2.2.1) P.1) ⟨rfl, rfl, rfl⟩ ?_
  rintro _ _ ⟨rfl, rfl⟩
  cbv
  refine okd hG (by kernel_rfl) ?_
  refine lp_le hG (s' := stM2 e a b e' a' b' r s t 14) (by constructor <;> cbv <;> simp) ?_
  refine lp_one hG ?_
  cbv
  refine call hG [] (vgt_ok a b s t la lb ba bb) ⟨rfl, rfl, rfl⟩ ?_
  rintro _ _ ⟨Z, z, rfl, rfl, hZ, hz⟩
  cbv
  refine call hG [] (vgt_ok a' b' s t la' lb' ba' bb') ⟨rfl, rfl, rfl⟩ ?_
  rintro _ _ ⟨Y, y, rfl, rfl, hY, hy⟩
  cbv
  have P : Pk [Z] z [Y] y := by rw [hZ, hz, hY, hy]; exact pk_cp o
  refine call hG [] (kbr (c := true) (below_ok [Z] [Y] z y P.2.2.2 P.2.1 P.2.2.1) P.1) ⟨rfl, rfl, rfl⟩ ?_
  rintro _ _ ⟨rfl, rfl⟩
  cbv
  refine okd hG (by kernel_rfl) ?_
  refine lp_le hG (s' := stM2 e a b e' a' b' r s t 15) (by constructor <;> cbv <;> simp) ?_
  refine lp_one hG ?_
  cbv
  refine call hG [] (vge_ok a b s t la lb ba bb) ⟨rfl, rfl, rfl⟩ ?_
  rintro _ _ ⟨Z, z, rfl, rfl, hZ, hz⟩
  cbv
  refine call hG [] (vge_ok a' b' s t la' lb' ba' bb') ⟨rfl, rfl, rfl⟩ ?_
  rintro _ _ ⟨Y, y, rfl, rfl, hY, hy⟩
  cbv
  have P : Pk [Z] z [Y] y := by rw [hZ, hz, hY, hy]; exact pk_cp o
  refine call hG [] (kbr (c := true) (below_ok [Z] [Y] z y P.2.2.2 P.2.1 P.2.2.1) P.1) ⟨rfl, rfl, rfl⟩ ?_
  rintro _ _ ⟨rfl, rfl⟩
  cbv
  refine okd hG (by kernel_rfl) ?_
  refine lp_le hG (s' := stM2 e a b e' a' b' r s t 16) (by constructor <;> cbv <;> simp) ?_
  refine lp_one hG ?_
  cbv
  refine call hG [] (land_ok a b s t ka kb ba bb) ⟨rfl, rfl, rfl⟩ ?_
  rintro _ _ ⟨Z, z, rfl, rfl, hZ, hz⟩
  cbv
  refine call hG [] (land_ok a' b' s t ka' kb' ba' bb') ⟨rfl, rfl, rfl⟩ ?_
  rintro _ _ ⟨Y, y, rfl, rfl, hY, hy⟩
  cbv
  have P : Pk [Z] z [Y] y := by rw [hZ, hz, hY, hy]; exact pk_log o mnAnd bAnd_44
  refine call hG [] (kbr (c := true) (below_ok [Z] [Y] z y P.2.2.2 P.2.1 P.2.2.1) P.1) ⟨rfl, rfl, rfl⟩ ?_
  rintro _ _ ⟨rfl, rfl⟩
  cbv
  refine okd hG (by kernel_rfl) ?_
  refine lp_le hG (s' := stM2 e a b e' a' b' r s t 17) (by constructor <;> cbv <;> simp) ?_
  refine lp_one hG ?_
  cbv
  refine call hG [] (lor_ok a b s t ka kb ba bb) ⟨rfl, rfl, rfl⟩ ?_
  rintro _ _ ⟨Z, z, rfl, rfl, hZ, hz⟩
  cbv
  refine call hG [] (lor_ok a' b' s t ka' kb' ba' bb') ⟨rfl, rfl, rfl⟩ ?_
  rintro _ _ ⟨Y, y, rfl, rfl, hY, hy⟩
  cbv
  have P : Pk [Z] z [Y] y := by rw [hZ, hz, hY, hy]; exact pk_log o mnOr bOr_44
  refine call hG [] (kbr (c := true) (below_ok [Z] [Y] z y P.2.2.2 P.2.1 P.2.2.1) P.1) ⟨rfl, rfl, rfl⟩ ?_
  rintro _ _ ⟨rfl, rfl⟩
  cbv
  refine okd hG (by kernel_rfl) ?_
  refine lp_le hG (s' := stM2 e a b e' a' b' r s t 18) (by constructor <;> cbv <;> simp) ?_
  refine lp_one hG ?_
  cbv
  refine call hG [] (vshl_ok a b s t la lb ba bb) ⟨rfl, rfl, rfl⟩ ?_
  rintro _ _ ⟨Z, z, rfl, rfl, hZ, hz⟩
  cbv
  refine call hG [] (vshl_ok a' b' s t la' lb' ba' bb') ⟨rfl, rfl, rfl⟩ ?_
  rintro _ _ ⟨Y, y, rfl, rfl, hY, hy⟩
  cbv
  have P : Pk Z z Y y := by rw [hZ, hz, hY, hy]; exact pk_sh0 o
  refine call hG [] (kbr (c := true) (below_ok Z Y z y P.2.2.2 P.2.1 P.2.2.1) P.1) ⟨rfl, rfl, rfl⟩ ?_
  rintro _ _ ⟨rfl, rfl⟩
  cbv
  refine okd hG (by kernel_rfl) ?_
  refine lp_le hG (s' := stM2 e a b e' a' b' r s t 19) (by constructor <;> cbv <;> simp) ?_
  refine lp_one hG ?_
  cbv
  refine call hG [] (vshr_ok a b s t la lb ba bb) ⟨rfl, rfl, rfl⟩ ?_
  rintro _ _ ⟨Z, z, rfl, rfl, hZ, hz⟩
  cbv
  refine call hG [] (vshr_ok a' b' s t la' lb' ba' bb') ⟨rfl, rfl, rfl⟩ ?_
  rintro _ _ ⟨Y, y, rfl, rfl, hY, hy⟩
  cbv
  have P : Pk Z z Y y := by rw [hZ, hz, hY, hy]; exact pk_sh0 o
  refine call hG [] (kbr (c := true) (below_ok Z Y z y P.2.2.2 P.2.1 P.2.2.1) P.1) ⟨rfl, rfl, rfl⟩ ?_
  rintro _ _ ⟨rfl, rfl⟩
  cbv
  refine okd hG (by kernel_rfl) ?_
  refine lp_le hG (s' := stM2 e a b e' a' b' r s t 20) (by constructor <;> cbv <;> simp) ?_
  refine lp_one hG ?_
  cbv
  refine call hG [] (vashl_ok a b s t la lb ba bb) ⟨rfl, rfl, rfl⟩ ?_
  rintro _ _ ⟨Z, z, rfl, rfl, hZ, hz⟩
  cbv
  refine call hG [] (vashl_ok a' b' s t la' lb' ba' bb') ⟨rfl, rfl, rfl⟩ ?_
  rintro _ _ ⟨Y, y, rfl, rfl, hY, hy⟩
  cbv
  have P : Pk Z z Y y := by rw [hZ, hz, hY, hy]; exact pk_sh0 o
  refine call hG [] (kbr (c := true) (below_ok Z Y z y P.2.2.2 P.2.1 P.2.2.1) P.1) ⟨rfl, rfl, rfl⟩ ?_
  rintro _ _ ⟨rfl, rfl⟩
  cbv
  refine okd hG (by kernel_rfl) ?_
  refine lp_le hG (s' := stM2 e a b e' a' b' r s t 21) (by constructor <;> cbv <;> simp) ?_
  refine lp_one hG ?_
  cbv
  refine call hG [] (vashr_ok a b s t la lb ba bb) ⟨rfl, rfl, rfl⟩ ?_
  rintro _ _ ⟨Z, z, rfl, rfl, hZ, hz⟩
  cbv
  refine call hG [] (vashr_ok a' b' s t la' lb' ba' bb') ⟨rfl, rfl, rfl⟩ ?_
  rintro _ _ ⟨Y, y, rfl, rfl, hY, hy⟩
  cbv
  have P : Pk Z z Y y := by rw [hZ, hz, hY, hy]; exact pk_sht o
  refine call hG [] (kbr (c := true) (below_ok Z Y z y P.2.2.2 P.2.1 P.2.2.1) P.1) ⟨rfl, rfl, rfl⟩ ?_
  rintro _ _ ⟨rfl, rfl⟩
  cbv
  refine okd hG (by kernel_rfl) ?_
  refine lp_le hG (s' := stM2 e a b e' a' b' r s t 22) (by constructor <;> cbv <;> simp) ?_
  refine lp_one hG ?_
  cbv
  refine okd hG (by kernel_rfl) ?_
  refine lp_le hG (s' := stM2 e a b e' a' b' r s t 23) (by constructor <;> cbv <;> simp) ?_
  refine lp_one hG ?_
  cbv
  refine okd hG (by kernel_rfl) ?_
  refine lp_one hG ?_
  cbv
  exact hR _ (sws_le (s' := stM e a b e' a' b' r s t) (by constructor <;> cbv <;> simp) (monE e a b e' a' b' r s t nE nE' rE nA nC rA nB' nD rB q hq))
end Go.Proofs.YtdgbdkfoeaollaaGreatDoor.V
