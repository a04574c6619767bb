/- The plain law BitAlgebra. -/
import Derived.Test.YteioheookffjiaaDoorPBits
namespace Go.Proofs.YteioheookffjiaaDoor.Pure
open Go.RowKit Go.Proofs.YteioheookffjiaaDoor.F Go.Proofs.YteioheookffjiaaDoorW.PrintWords Go.Proofs.YteioheookffjiaaDoorW.PrintLast
theorem BitAlgebra (a b c : Int) (ha : (Lit.int .u8 a).wf = true) (hb : (Lit.int .u8 b).wf = true) (hc : (Lit.int .u8 c).wf = true) :
    ∃ k, netlablaw01_BitAlgebra.f k a b c = some true := by
  refine ⟨6, ?_⟩
  have h : netlablaw01_BitAlgebra.f 6 (cl a) (cl b) (cl c) = netlablaw01_BitAlgebra.f 6 a b c := by
    simp only [netlablaw01_BitAlgebra.f, netlablaw01_BitAlgebra.j0, netlablaw01_BitAlgebra.j1, cl_Not, cl_Buf, cl_And1, cl_And2, cl_Or1, cl_Or2, cl_Xor1, cl_Xor2]
  rw [← h]
  obtain ⟨x, hx⟩ := cl_vz ha
  obtain ⟨y, hy⟩ := cl_vz hb
  obtain ⟨z, hz⟩ := cl_vz hc
  rw [hx, hy, hz]
  clear h hx hy hz
  revert x y z
  decide +kernel
end Go.Proofs.YteioheookffjiaaDoor.Pure
