/- The plain law BitOrder. -/
import Derived.Test.YteioheookffjiaaDoorPBits
namespace Go.Proofs.YteioheookffjiaaDoor.Pure
open Go.RowKit Go.Proofs.YteioheookffjiaaDoor.F Go.Proofs.YteioheookffjiaaDoorW.PrintWords Go.Proofs.YteioheookffjiaaDoorW.PrintLast
theorem BitOrder (a b c : Int) (ha : (Lit.int .u8 a).wf = true) (hb : (Lit.int .u8 b).wf = true) (hc : (Lit.int .u8 c).wf = true) :
    ∃ k, netlablaw01_BitOrder.f k a b c = some true := by
  refine ⟨6, ?_⟩
  have h : netlablaw01_BitOrder.f 6 (cl a) (cl b) (cl c) = netlablaw01_BitOrder.f 6 a b c := by
    simp only [netlablaw01_BitOrder.f, netlablaw01_BitOrder.j0, cl_Leq1, cl_Leq2, cl_Same1, cl_Same2, cl_Known]
  rw [← h]
  obtain ⟨x, hx⟩ := cl_vz ha
  obtain ⟨y, hy⟩ := cl_vz hb
  obtain ⟨z, hz⟩ := cl_vz hc
  rw [hx, hy, hz]
  clear h hx hy hz
  revert x y z
  decide +kernel
end Go.Proofs.YteioheookffjiaaDoor.Pure
