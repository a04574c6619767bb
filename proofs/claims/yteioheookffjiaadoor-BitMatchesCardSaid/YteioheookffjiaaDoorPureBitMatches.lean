/- The plain law BitMatches. -/
import Derived.Test.YteioheookffjiaaDoorPBits
namespace Go.Proofs.YteioheookffjiaaDoor.Pure
open Go.RowKit Go.Proofs.YteioheookffjiaaDoor.F Go.Proofs.YteioheookffjiaaDoorW.PrintWords Go.Proofs.YteioheookffjiaaDoorW.PrintLast
theorem BitMatches (a b c : Int) (ha : (Lit.int .u8 a).wf = true) (hb : (Lit.int .u8 b).wf = true) (hc : (Lit.int .u8 c).wf = true) :
    ∃ k, netlablaw01_BitMatches.f k a b c = some true := by
  refine ⟨8, ?_⟩
  have h : netlablaw01_BitMatches.f 8 (cl a) (cl b) (cl c) = netlablaw01_BitMatches.f 8 a b c := by
    simp only [netlablaw01_BitMatches.f, netlablaw01_BitMatches.j0, netlablaw01_BitMatches.j1, cl_le3, cl_Valid, cl_Known, cl_Not, cl_Buf, cl_Char, cl_And1, cl_And2, cl_Or1, cl_Or2, cl_Xor1, cl_Xor2, cl_Eq1, cl_Eq2, cl_Same1, cl_Same2, cl_Leq1, cl_Leq2, cl_Mux0, cl_Mux1 _ (wf_cl hc), cl_Mux2, cl_rKnown, cl_rNot, cl_rBuf, cl_rChar, cl_rAnd1, cl_rAnd2, cl_rOr1, cl_rOr2, cl_rXor1, cl_rXor2, cl_rEq1, cl_rEq2, cl_rSame1, cl_rSame2, cl_rLeq1, cl_rLeq2, cl_rMux0, cl_rMux1, cl_rMux2]
  rw [← h]
  obtain ⟨x, hx⟩ := cl_vz ha
  obtain ⟨y, hy⟩ := cl_vz hb
  obtain ⟨z, hz⟩ := cl_vz hc
  rw [hx, hy, hz]
  clear h hx hy hz
  revert x y z
  decide +kernel
end Go.Proofs.YteioheookffjiaaDoor.Pure
