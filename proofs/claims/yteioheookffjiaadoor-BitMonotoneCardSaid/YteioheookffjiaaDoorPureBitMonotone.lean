/- The plain law BitMonotone. -/
import Derived.Test.YteioheookffjiaaDoorPBits
namespace Go.Proofs.YteioheookffjiaaDoor.Pure
open Go.RowKit Go.Proofs.YteioheookffjiaaDoor.F Go.Proofs.YteioheookffjiaaDoorW.PrintWords Go.Proofs.YteioheookffjiaaDoorW.PrintLast
theorem BitMonotone (a b c d e f : Int) (ha : (Lit.int .u8 a).wf = true) (hb : (Lit.int .u8 b).wf = true) (hc : (Lit.int .u8 c).wf = true) (hd : (Lit.int .u8 d).wf = true) (he : (Lit.int .u8 e).wf = true) (hf : (Lit.int .u8 f).wf = true) :
    ∃ k, netlablaw01_BitMonotone.f k a b c d e f = some true := by
  refine ⟨6, ?_⟩
  have h : netlablaw01_BitMonotone.f 6 (cl a) (cl b) (cl c) (cl d) (cl e) (cl f) = netlablaw01_BitMonotone.f 6 a b c d e f := by
    simp only [netlablaw01_BitMonotone.f, netlablaw01_BitMonotone.j0, cl_Leq1, cl_Leq2, cl_Not, cl_Buf, cl_And1, cl_And2, cl_Or1, cl_Or2, cl_Xor1, cl_Xor2, cl_Eq1, cl_Eq2, cl_Mux0, cl_Mux1 _ (wf_cl hc), cl_Mux1 _ (wf_cl hf), cl_Mux2]
  rw [← h]
  obtain ⟨x, hx⟩ := cl_vz ha
  obtain ⟨y, hy⟩ := cl_vz hb
  obtain ⟨z, hz⟩ := cl_vz hc
  obtain ⟨u, hu⟩ := cl_vz hd
  obtain ⟨v, hv⟩ := cl_vz he
  obtain ⟨t, ht⟩ := cl_vz hf
  rw [hx, hy, hz, hu, hv, ht]
  clear h hx hy hz hu hv ht
  revert x y z u v t
  decide +kernel
end Go.Proofs.YteioheookffjiaaDoor.Pure
