/- The plain law BitChars. -/
import Derived.Test.YteioheookffjiaaDoorPBits
namespace Go.Proofs.YteioheookffjiaaDoor.Pure
open Go.RowKit Go.Proofs.YteioheookffjiaaDoor.F Go.Proofs.YteioheookffjiaaDoorW.PrintWords Go.Proofs.YteioheookffjiaaDoorW.PrintLast
theorem byte_of {c : Int} (h : (Lit.int .u8 c).wf = true) : ∃ x : Fin 256, c = ((x.val : Nat) : Int) := by
  have := Go.bounds_u8 h
  exact ⟨⟨c.toNat, by omega⟩, by show c = ((c.toNat : Nat) : Int); omega⟩
theorem BitChars (a c : Int) (ha : (Lit.int .u8 a).wf = true) (hc : (Lit.int .u8 c).wf = true) :
    ∃ k, netlablaw01_BitChars.f k a c = some true := by
  refine ⟨6, ?_⟩
  have h : netlablaw01_BitChars.f 6 (cl a) c = netlablaw01_BitChars.f 6 a c := by
    simp only [netlablaw01_BitChars.f, cl_Char, cl_Same1]
  rw [← h]
  obtain ⟨x, hx⟩ := cl_vz ha
  obtain ⟨y, hy⟩ := byte_of hc
  rw [hx, hy]
  clear h hx hy
  revert x y
  decide +kernel
end Go.Proofs.YteioheookffjiaaDoor.Pure
