/- The plain law BitParseMatches. -/
import Derived.Test.YteioheookffjiaaDoorPBits
namespace Go.Proofs.YteioheookffjiaaDoor.Pure
open Go.RowKit Go.Proofs.YteioheookffjiaaDoor.F Go.Proofs.YteioheookffjiaaDoorW.PrintWords Go.Proofs.YteioheookffjiaaDoorW.PrintLast
theorem byte_of {c : Int} (h : (Lit.int .u8 c).wf = true) : ∃ x : Fin 256, c = ((x.val : Nat) : Int) := by
  have := Go.bounds_u8 h
  exact ⟨⟨c.toNat, by omega⟩, by show c = ((c.toNat : Nat) : Int); omega⟩
theorem BitParseMatches (c : Int) (v : Bool) (hc : (Lit.int .u8 c).wf = true) :
    ∃ k, netlablaw01_BitParseMatches.f k c v = some true := by
  refine ⟨6, ?_⟩
  obtain ⟨y, hy⟩ := byte_of hc
  rw [hy]
  clear hy
  revert y v
  decide +kernel
end Go.Proofs.YteioheookffjiaaDoor.Pure
