/- VecUnknown: the first operand is not known, the second known (printed by VUnk.py). -/
import Derived.Test.YtdgbdkfoeaollaaGreatDoorVUnkA
import Derived.Test.YtdgbdkfoeaollaaGreatDoorVZe
import Derived.Test.YtdgbdkfoeaollaaGreatDoorVJ
import Derived.Test.YtdgbdkfoeaollaaGreatDoorVW
import Derived.Test.YtdgbdkfoeaollaaGreatDoorALe
set_option linter.unusedSimpArgs false
set_option linter.unusedVariables false
set_option cbv.maxSteps 4000000
set_option maxRecDepth 100000
set_option maxHeartbeats 4000000
namespace Go.Proofs.YtdgbdkfoeaollaaGreatDoor.V
open Go Go.AL Go.SX
theorem unk2 {B : AH} {d : Nat → Prop} (l m X N : List Int) (s t x n : Bool) (hl : l.length < 2 ^ 14) (hm : m.length < 2 ^ 14) (bl : Byt l) (bm : Byt m) (nX : NV X) (nN : NV N) (eX : List.replicate (bwd l m) (2 : Int) = List.replicate X.length 2) (eN : List.replicate (nB l).length (2 : Int) = List.replicate N.length 2) (ha : kn (nB l) = false) (hb : kn (nB m) = true) (q : SV → List SX.Obj → Prop) (hq : ∀ x, x = true → q (.b x) []) : SWs CX TB B ⟨d, fun _ => none⟩ (dropC 3 IR.fi8.code) (stV l m X N s t x n) (post [.tmp 4] q) := by
  have hab : (kn (nB l) && kn (nB m)) = false := by rw [ha, hb]; rfl
  have ll : l.length < 2 ^ 15 := by omega
  have lm : m.length < 2 ^ 15 := by omega
  have pX := List.length_pos_iff.2 nX.ne
  have pN := List.length_pos_iff.2 nN.ne
  have qX := nX.len
  have qN := nN.len
  have v2 : V4 2 := by constructor <;> decide
  have wX : ∀ G, G = std CX TB B ⟨d, fun _ => none⟩ → 1 ≤ G.lu X ∧ G.lu X < 2 ^ 15 := fun G h => by rw [h]; show 1 ≤ ((X.length : Nat) : Int) ∧ ((X.length : Nat) : Int) < 2 ^ 15; omega
  have wN : ∀ G, G = std CX TB B ⟨d, fun _ => none⟩ → 1 ≤ G.lu N ∧ G.lu N < 2 ^ 15 := fun G h => by rw [h]; show 1 ≤ ((N.length : Nat) : Int) ∧ ((N.length : Nat) : Int) < 2 ^ 15; omega
  have fX : ∀ G, G = std CX TB B ⟨d, fun _ => none⟩ → (G.lu X).toNat = X.length := fun G h => by rw [h]; rfl
  have fN : ∀ G, G = std CX TB B ⟨d, fun _ => none⟩ → (G.lu N).toNat = N.length := fun G h => by rw [h]; rfl
  obtain ⟨G, hG⟩ : ∃ G, G = std CX TB B ⟨d, fun _ => none⟩ := ⟨_, rfl⟩
  refine sws_W hG ?_
  cbv
  refine call hG [] (twos_ok) ⟨rfl, rfl, rfl⟩ ?_
  rintro _ _ ⟨rfl, rfl⟩
  cbv
  refine lp_le hG (s' := stU l m X N s t x n 0) (by constructor <;> cbv <;> simp) ?_
  refine lp_one hG ?_
  cbv
  refine call hG [] (kbr (c := false) (vknown_ok l s ll) ha) ⟨rfl, rfl, rfl⟩ ?_
  rintro _ _ ⟨rfl, rfl⟩
  cbv
  refine lp_le hG (s' := stU l m X N s t x n 1) (by constructor <;> cbv <;> simp) ?_
  refine lp_one hG ?_
  cbv
  refine call hG [] (kbr (c := false) (vknown_ok l s ll) ha) ⟨rfl, rfl, rfl⟩ ?_
  rintro _ _ ⟨rfl, rfl⟩
  cbv
  refine lp_le hG (s' := stU l m X N s t x n 2) (by constructor <;> cbv <;> simp) ?_
  refine lp_one hG ?_
  cbv
  refine call hG [] (kbr (c := false) (vknown_ok l s ll) ha) ⟨rfl, rfl, rfl⟩ ?_
  rintro _ _ ⟨rfl, rfl⟩
  cbv
  refine lp_le hG (s' := stU l m X N s t x n 3) (by constructor <;> cbv <;> simp) ?_
  refine lp_one hG ?_
  cbv
  refine call hG [] (kbr (c := false) (vknown_ok l s ll) ha) ⟨rfl, rfl, rfl⟩ ?_
  rintro _ _ ⟨rfl, rfl⟩
  cbv
  refine lp_le hG (s' := stU l m X N s t x n 4) (by constructor <;> cbv <;> simp) ?_
  refine lp_one hG ?_
  cbv
  refine call hG [] (kbr (c := false) (vknown_ok l s ll) ha) ⟨rfl, rfl, rfl⟩ ?_
  rintro _ _ ⟨rfl, rfl⟩
  cbv
  refine call hG [] (vadd_ok l m s t hl hm bl bm) ⟨rfl, rfl, rfl⟩ ?_
  rintro _ _ ⟨Z, z, rfl, rfl, hZ, hz⟩
  cbv
  have hZ : Z = List.replicate X.length 2 := by rw [hZ]; exact (arL_unk bl bm hab).trans eX
  have nZ : NV Z := by rw [hZ]; exact nv_rep pX qX v2
  refine call hG [] (withSign_ok Z z false (by have := nZ.len; omega)) ⟨rfl, rfl, rfl⟩ ?_
  rintro _ _ ⟨Y, y, rfl, rfl, hY, hy⟩
  cbv
  refine call hG [] (rfill_ok (.ofNat 2) (G.lu X) false (wX G hG)) ⟨rfl, rfl, rfl⟩ ?_
  rintro _ _ ⟨F, f, rfl, rfl, hF, hf⟩
  cbv
  refine call hG [] (kbr (c := true) (rsame_ok Y F y f (by rw [hY, nB_id nZ]; have := nZ.len; omega) (by rw [hF, fX G hG, List.length_replicate]; omega)) (by rw [hy, hf, hY, nB_id nZ, hZ, hF, fX G hG]; simp)) ⟨rfl, rfl, rfl⟩ ?_
  rintro _ _ ⟨rfl, rfl⟩
  cbv
  refine lp_le hG (s' := stU l m X N s t x n 5) (by constructor <;> cbv <;> simp) ?_
  refine lp_one hG ?_
  cbv
  refine call hG [] (kbr (c := false) (vknown_ok l s ll) ha) ⟨rfl, rfl, rfl⟩ ?_
  rintro _ _ ⟨rfl, rfl⟩
  cbv
  refine call hG [] (vsub_ok l m s t hl hm bl bm) ⟨rfl, rfl, rfl⟩ ?_
  rintro _ _ ⟨Z, z, rfl, rfl, hZ, hz⟩
  cbv
  have hZ : Z = List.replicate X.length 2 := by rw [hZ]; exact (arL_unk bl bm hab).trans eX
  have nZ : NV Z := by rw [hZ]; exact nv_rep pX qX v2
  refine call hG [] (withSign_ok Z z false (by have := nZ.len; omega)) ⟨rfl, rfl, rfl⟩ ?_
  rintro _ _ ⟨Y, y, rfl, rfl, hY, hy⟩
  cbv
  refine call hG [] (rfill_ok (.ofNat 2) (G.lu X) false (wX G hG)) ⟨rfl, rfl, rfl⟩ ?_
  rintro _ _ ⟨F, f, rfl, rfl, hF, hf⟩
  cbv
  refine call hG [] (kbr (c := true) (rsame_ok Y F y f (by rw [hY, nB_id nZ]; have := nZ.len; omega) (by rw [hF, fX G hG, List.length_replicate]; omega)) (by rw [hy, hf, hY, nB_id nZ, hZ, hF, fX G hG]; simp)) ⟨rfl, rfl, rfl⟩ ?_
  rintro _ _ ⟨rfl, rfl⟩
  cbv
  refine lp_le hG (s' := stU l m X N s t x n 6) (by constructor <;> cbv <;> simp) ?_
  refine lp_one hG ?_
  cbv
  refine call hG [] (kbr (c := false) (vknown_ok l s ll) ha) ⟨rfl, rfl, rfl⟩ ?_
  rintro _ _ ⟨rfl, rfl⟩
  cbv
  refine call hG [] (vmul_ok l m s t hl hm bl bm) ⟨rfl, rfl, rfl⟩ ?_
  rintro _ _ ⟨Z, z, rfl, rfl, hZ, hz⟩
  cbv
  have hZ : Z = List.replicate X.length 2 := by rw [hZ]; exact (arL_unk bl bm hab).trans eX
  have nZ : NV Z := by rw [hZ]; exact nv_rep pX qX v2
  refine call hG [] (withSign_ok Z z false (by have := nZ.len; omega)) ⟨rfl, rfl, rfl⟩ ?_
  rintro _ _ ⟨Y, y, rfl, rfl, hY, hy⟩
  cbv
  refine call hG [] (rfill_ok (.ofNat 2) (G.lu X) false (wX G hG)) ⟨rfl, rfl, rfl⟩ ?_
  rintro _ _ ⟨F, f, rfl, rfl, hF, hf⟩
  cbv
  refine call hG [] (kbr (c := true) (rsame_ok Y F y f (by rw [hY, nB_id nZ]; have := nZ.len; omega) (by rw [hF, fX G hG, List.length_replicate]; omega)) (by rw [hy, hf, hY, nB_id nZ, hZ, hF, fX G hG]; simp)) ⟨rfl, rfl, rfl⟩ ?_
  rintro _ _ ⟨rfl, rfl⟩
  cbv
  refine lp_le hG (s' := stU l m X N s t x n 7) (by constructor <;> cbv <;> simp) ?_
  refine lp_one hG ?_
  cbv
  refine call hG [] (kbr (c := false) (vknown_ok l s ll) ha) ⟨rfl, rfl, rfl⟩ ?_
  rintro _ _ ⟨rfl, rfl⟩
  cbv
  refine call hG [] (vdiv_ok l m s t hl hm bl bm) ⟨rfl, rfl, rfl⟩ ?_
  rintro _ _ ⟨Z, z, rfl, rfl, hZ, hz⟩
  cbv
  have hZ : Z = List.replicate X.length 2 := by rw [hZ]; exact (arL_unk bl bm hab).trans eX
  have nZ : NV Z := by rw [hZ]; exact nv_rep pX qX v2
  refine call hG [] (withSign_ok Z z false (by have := nZ.len; omega)) ⟨rfl, rfl, rfl⟩ ?_
  rintro _ _ ⟨Y, y, rfl, rfl, hY, hy⟩
  cbv
  refine call hG [] (rfill_ok (.ofNat 2) (G.lu X) false (wX G hG)) ⟨rfl, rfl, rfl⟩ ?_
  rintro _ _ ⟨F, f, rfl, rfl, hF, hf⟩
  cbv
  refine call hG [] (kbr (c := true) (rsame_ok Y F y f (by rw [hY, nB_id nZ]; have := nZ.len; omega) (by rw [hF, fX G hG, List.length_replicate]; omega)) (by rw [hy, hf, hY, nB_id nZ, hZ, hF, fX G hG]; simp)) ⟨rfl, rfl, rfl⟩ ?_
  rintro _ _ ⟨rfl, rfl⟩
  cbv
  refine lp_le hG (s' := stU l m X N s t x n 8) (by constructor <;> cbv <;> simp) ?_
  refine lp_one hG ?_
  cbv
  refine call hG [] (kbr (c := false) (vknown_ok l s ll) ha) ⟨rfl, rfl, rfl⟩ ?_
  rintro _ _ ⟨rfl, rfl⟩
  cbv
  refine call hG [] (vmod_ok l m s t hl hm bl bm) ⟨rfl, rfl, rfl⟩ ?_
  rintro _ _ ⟨Z, z, rfl, rfl, hZ, hz⟩
  cbv
  have hZ : Z = List.replicate X.length 2 := by rw [hZ]; exact (arL_unk bl bm hab).trans eX
  have nZ : NV Z := by rw [hZ]; exact nv_rep pX qX v2
  refine call hG [] (withSign_ok Z z false (by have := nZ.len; omega)) ⟨rfl, rfl, rfl⟩ ?_
  rintro _ _ ⟨Y, y, rfl, rfl, hY, hy⟩
  cbv
  refine call hG [] (rfill_ok (.ofNat 2) (G.lu X) false (wX G hG)) ⟨rfl, rfl, rfl⟩ ?_
  rintro _ _ ⟨F, f, rfl, rfl, hF, hf⟩
  cbv
  refine call hG [] (kbr (c := true) (rsame_ok Y F y f (by rw [hY, nB_id nZ]; have := nZ.len; omega) (by rw [hF, fX G hG, List.length_replicate]; omega)) (by rw [hy, hf, hY, nB_id nZ, hZ, hF, fX G hG]; simp)) ⟨rfl, rfl, rfl⟩ ?_
  rintro _ _ ⟨rfl, rfl⟩
  cbv
  refine lp_le hG (s' := stU l m X N s t x n 9) (by constructor <;> cbv <;> simp) ?_
  refine lp_one hG ?_
  cbv
  refine call hG [] (kbr (c := false) (vknown_ok l s ll) ha) ⟨rfl, rfl, rfl⟩ ?_
  rintro _ _ ⟨rfl, rfl⟩
  cbv
  refine call hG [] (vpow_ok l m s t hl hm bl bm) ⟨rfl, rfl, rfl⟩ ?_
  rintro _ _ ⟨Z, z, rfl, rfl, hZ, hz⟩
  cbv
  have hZ : Z = List.replicate N.length 2 := by rw [hZ]; exact (powL_unk hab).trans eN
  have nZ : NV Z := by rw [hZ]; exact nv_rep pN qN v2
  refine call hG [] (withSign_ok Z z false (by have := nZ.len; omega)) ⟨rfl, rfl, rfl⟩ ?_
  rintro _ _ ⟨Y, y, rfl, rfl, hY, hy⟩
  cbv
  refine call hG [] (rfill_ok (.ofNat 2) (G.lu N) false (wN G hG)) ⟨rfl, rfl, rfl⟩ ?_
  rintro _ _ ⟨F, f, rfl, rfl, hF, hf⟩
  cbv
  refine call hG [] (kbr (c := true) (rsame_ok Y F y f (by rw [hY, nB_id nZ]; have := nZ.len; omega) (by rw [hF, fN G hG, List.length_replicate]; omega)) (by rw [hy, hf, hY, nB_id nZ, hZ, hF, fN G hG]; simp)) ⟨rfl, rfl, rfl⟩ ?_
  rintro _ _ ⟨rfl, rfl⟩
  cbv
  refine lp_le hG (s' := stU l m X N s t x n 10) (by constructor <;> cbv <;> simp) ?_
  refine lp_one hG ?_
  cbv
  refine call hG [] (kbr (c := false) (vknown_ok l s ll) ha) ⟨rfl, rfl, rfl⟩ ?_
  rintro _ _ ⟨rfl, rfl⟩
  cbv
  refine lp_le hG (s' := stU l m X N s t x n 11) (by constructor <;> cbv <;> simp) ?_
  refine lp_one hG ?_
  cbv
  refine call hG [] (kbr (c := false) (vknown_ok l s ll) ha) ⟨rfl, rfl, rfl⟩ ?_
  rintro _ _ ⟨rfl, rfl⟩
  cbv
  refine lp_le hG (s' := stU l m X N s t x n 12) (by constructor <;> cbv <;> simp) ?_
  refine lp_one hG ?_
  cbv
  refine call hG [] (kbr (c := false) (vknown_ok l s ll) ha) ⟨rfl, rfl, rfl⟩ ?_
  rintro _ _ ⟨rfl, rfl⟩
  cbv
  refine call hG [] (vlt_ok l m s t hl hm bl bm) ⟨rfl, rfl, rfl⟩ ?_
  rintro _ _ ⟨Z, z, rfl, rfl, hZ, hz⟩
  cbv
  rw [cpB_unk bl bm hab] at hZ
  refine call hG [] (withSign_ok [Z] z false (by simp)) ⟨rfl, rfl, rfl⟩ ?_
  rintro _ _ ⟨Y, y, rfl, rfl, hY, hy⟩
  cbv
  refine call hG [] (rfill_ok (.ofNat 2) (.ofNat 1) false (by constructor <;> decide)) ⟨rfl, rfl, rfl⟩ ?_
  rintro _ _ ⟨F, f, rfl, rfl, hF, hf⟩
  cbv
  refine call hG [] (kbr (c := true) (rsame_ok Y F y f (by rw [hY, hZ]; decide) (by rw [hF]; decide)) (by rw [hy, hf, hY, hZ, hF]; decide)) ⟨rfl, rfl, rfl⟩ ?_
  rintro _ _ ⟨rfl, rfl⟩
  cbv
  refine lp_le hG (s' := stU l m X N s t x n 13) (by constructor <;> cbv <;> simp) ?_
  refine lp_one hG ?_
  cbv
  refine call hG [] (kbr (c := false) (vknown_ok l s ll) ha) ⟨rfl, rfl, rfl⟩ ?_
  rintro _ _ ⟨rfl, rfl⟩
  cbv
  refine call hG [] (vle_ok l m s t hl hm bl bm) ⟨rfl, rfl, rfl⟩ ?_
  rintro _ _ ⟨Z, z, rfl, rfl, hZ, hz⟩
  cbv
  rw [cpB_unk bl bm hab] at hZ
  refine call hG [] (withSign_ok [Z] z false (by simp)) ⟨rfl, rfl, rfl⟩ ?_
  rintro _ _ ⟨Y, y, rfl, rfl, hY, hy⟩
  cbv
  refine call hG [] (rfill_ok (.ofNat 2) (.ofNat 1) false (by constructor <;> decide)) ⟨rfl, rfl, rfl⟩ ?_
  rintro _ _ ⟨F, f, rfl, rfl, hF, hf⟩
  cbv
  refine call hG [] (kbr (c := true) (rsame_ok Y F y f (by rw [hY, hZ]; decide) (by rw [hF]; decide)) (by rw [hy, hf, hY, hZ, hF]; decide)) ⟨rfl, rfl, rfl⟩ ?_
  rintro _ _ ⟨rfl, rfl⟩
  cbv
  refine lp_le hG (s' := stU l m X N s t x n 14) (by constructor <;> cbv <;> simp) ?_
  refine lp_one hG ?_
  cbv
  refine call hG [] (kbr (c := false) (vknown_ok l s ll) ha) ⟨rfl, rfl, rfl⟩ ?_
  rintro _ _ ⟨rfl, rfl⟩
  cbv
  refine call hG [] (vgt_ok l m s t hl hm bl bm) ⟨rfl, rfl, rfl⟩ ?_
  rintro _ _ ⟨Z, z, rfl, rfl, hZ, hz⟩
  cbv
  rw [cpB_unk bl bm hab] at hZ
  refine call hG [] (withSign_ok [Z] z false (by simp)) ⟨rfl, rfl, rfl⟩ ?_
  rintro _ _ ⟨Y, y, rfl, rfl, hY, hy⟩
  cbv
  refine call hG [] (rfill_ok (.ofNat 2) (.ofNat 1) false (by constructor <;> decide)) ⟨rfl, rfl, rfl⟩ ?_
  rintro _ _ ⟨F, f, rfl, rfl, hF, hf⟩
  cbv
  refine call hG [] (kbr (c := true) (rsame_ok Y F y f (by rw [hY, hZ]; decide) (by rw [hF]; decide)) (by rw [hy, hf, hY, hZ, hF]; decide)) ⟨rfl, rfl, rfl⟩ ?_
  rintro _ _ ⟨rfl, rfl⟩
  cbv
  refine lp_le hG (s' := stU l m X N s t x n 15) (by constructor <;> cbv <;> simp) ?_
  refine lp_one hG ?_
  cbv
  refine call hG [] (kbr (c := false) (vknown_ok l s ll) ha) ⟨rfl, rfl, rfl⟩ ?_
  rintro _ _ ⟨rfl, rfl⟩
  cbv
  refine call hG [] (vge_ok l m s t hl hm bl bm) ⟨rfl, rfl, rfl⟩ ?_
  rintro _ _ ⟨Z, z, rfl, rfl, hZ, hz⟩
  cbv
  rw [cpB_unk bl bm hab] at hZ
  refine call hG [] (withSign_ok [Z] z false (by simp)) ⟨rfl, rfl, rfl⟩ ?_
  rintro _ _ ⟨Y, y, rfl, rfl, hY, hy⟩
  cbv
  refine call hG [] (rfill_ok (.ofNat 2) (.ofNat 1) false (by constructor <;> decide)) ⟨rfl, rfl, rfl⟩ ?_
  rintro _ _ ⟨F, f, rfl, rfl, hF, hf⟩
  cbv
  refine call hG [] (kbr (c := true) (rsame_ok Y F y f (by rw [hY, hZ]; decide) (by rw [hF]; decide)) (by rw [hy, hf, hY, hZ, hF]; decide)) ⟨rfl, rfl, rfl⟩ ?_
  rintro _ _ ⟨rfl, rfl⟩
  cbv
  refine lp_le hG (s' := stU l m X N s t x n 16) (by constructor <;> cbv <;> simp) ?_
  refine lp_one hG ?_
  cbv
  refine call hG [] (kbr (c := false) (vknown_ok l s ll) ha) ⟨rfl, rfl, rfl⟩ ?_
  rintro _ _ ⟨rfl, rfl⟩
  cbv
  refine lp_le hG (s' := stU l m X N s t x n 17) (by constructor <;> cbv <;> simp) ?_
  refine lp_one hG ?_
  cbv
  refine call hG [] (kbr (c := false) (vknown_ok l s ll) ha) ⟨rfl, rfl, rfl⟩ ?_
  rintro _ _ ⟨rfl, rfl⟩
  cbv
  refine lp_le hG (s' := stU l m X N s t x n 18) (by constructor <;> cbv <;> simp) ?_
  refine lp_one hG ?_
  cbv
  refine call hG [] (kbr (c := false) (vknown_ok l s ll) ha) ⟨rfl, rfl, rfl⟩ ?_
  rintro _ _ ⟨rfl, rfl⟩
  cbv
  refine call hG [] (kbr (c := true) (vknown_ok m t lm) hb) ⟨rfl, rfl, rfl⟩ ?_
  rintro _ _ ⟨rfl, rfl⟩
  cbv
  refine okd hG (by kernel_rfl) ?_
  refine call hG [] (vshl_ok l m s t hl hm bl bm) ⟨rfl, rfl, rfl⟩ ?_
  rintro _ _ ⟨Z, z, rfl, rfl, hZ, hz⟩
  cbv
  refine lp_le hG (s' := stU l m X N s t x n 19) (by constructor <;> cbv <;> simp) ?_
  refine lp_one hG ?_
  cbv
  refine call hG [] (kbr (c := false) (vknown_ok l s ll) ha) ⟨rfl, rfl, rfl⟩ ?_
  rintro _ _ ⟨rfl, rfl⟩
  cbv
  refine call hG [] (kbr (c := true) (vknown_ok m t lm) hb) ⟨rfl, rfl, rfl⟩ ?_
  rintro _ _ ⟨rfl, rfl⟩
  cbv
  refine okd hG (by kernel_rfl) ?_
  refine call hG [] (vshr_ok l m s t hl hm bl bm) ⟨rfl, rfl, rfl⟩ ?_
  rintro _ _ ⟨Z, z, rfl, rfl, hZ, hz⟩
  cbv
  refine lp_le hG (s' := stU l m X N s t x n 20) (by constructor <;> cbv <;> simp) ?_
  refine lp_one hG ?_
  cbv
  refine call hG [] (kbr (c := false) (vknown_ok l s ll) ha) ⟨rfl, rfl, rfl⟩ ?_
  rintro _ _ ⟨rfl, rfl⟩
  cbv
  refine call hG [] (kbr (c := true) (vknown_ok m t lm) hb) ⟨rfl, rfl, rfl⟩ ?_
  rintro _ _ ⟨rfl, rfl⟩
  cbv
  refine okd hG (by kernel_rfl) ?_
  refine call hG [] (vashl_ok l m s t hl hm bl bm) ⟨rfl, rfl, rfl⟩ ?_
  rintro _ _ ⟨Z, z, rfl, rfl, hZ, hz⟩
  cbv
  refine lp_le hG (s' := stU l m X N s t x n 21) (by constructor <;> cbv <;> simp) ?_
  refine lp_one hG ?_
  cbv
  refine call hG [] (kbr (c := false) (vknown_ok l s ll) ha) ⟨rfl, rfl, rfl⟩ ?_
  rintro _ _ ⟨rfl, rfl⟩
  cbv
  refine call hG [] (kbr (c := true) (vknown_ok m t lm) hb) ⟨rfl, rfl, rfl⟩ ?_
  rintro _ _ ⟨rfl, rfl⟩
  cbv
  refine okd hG (by kernel_rfl) ?_
  refine call hG [] (vashr_ok l m s t hl hm bl bm) ⟨rfl, rfl, rfl⟩ ?_
  rintro _ _ ⟨Z, z, rfl, rfl, hZ, hz⟩
  cbv
  refine lp_le hG (s' := stU l m X N s t x n 22) (by constructor <;> cbv <;> simp) ?_
  refine lp_one hG ?_
  cbv
  refine call hG [] (kbr (c := false) (vknown_ok l s ll) ha) ⟨rfl, rfl, rfl⟩ ?_
  rintro _ _ ⟨rfl, rfl⟩
  cbv
  refine lp_le hG (s' := stU l m X N s t x n 23) (by constructor <;> cbv <;> simp) ?_
  refine lp_one hG ?_
  cbv
  refine call hG [] (kbr (c := false) (vknown_ok l s ll) ha) ⟨rfl, rfl, rfl⟩ ?_
  rintro _ _ ⟨rfl, rfl⟩
  cbv
  refine lp_one hG ?_
  cbv
  exact hq _ rfl
end Go.Proofs.YtdgbdkfoeaollaaGreatDoor.V
