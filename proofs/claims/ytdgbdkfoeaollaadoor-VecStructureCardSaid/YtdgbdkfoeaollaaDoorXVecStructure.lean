/- VecStructure: the call. -/
import Derived.Test.YtdgbdkfoeaollaaDoorVStruct
import Derived.Test.YtdgbdkfoeaollaaDoorVM
namespace Go.Proofs.YtdgbdkfoeaollaaDoor.X
open Go Go.AL
theorem VecStructure_calls (W : World) (A0 : Option Addr) (c0 : Nat) (s0 : Bool) (l0 : List Int) (A1 : Option Addr) (c1 : Nat) (s1 : Bool) (l1 : List Int) (a2 a3 : Int) (hG : Glob W) (hr0 : RowAt W A0 l0.length c0 (l0.map (.int .u8))) (b0 : ∀ y ∈ l0, 0 ≤ y) (hr1 : RowAt W A1 l1.length c1 (l1.map (.int .u8))) (b1 : ∀ y ∈ l1, 0 ≤ y) (w2 : (Lit.int .u8 a2).wf = true) (w3 : (Lit.int .u8 a3).wf = true) :
    Calls Tryd.prog 4 #[.agg #[.slice A0 l0.length c0, .bool s0], .agg #[.slice A1 l1.length c1, .bool s1], .int .u8 a2, .int .u8 a3] W fun e W' => e = .returned (.bool true) ∧ Go.RowKit.Below W.heap.size W W' := by
  have h2 : 0 ≤ a2 ∧ a2 ≤ 255 := by simpa [Lit.wf, IntKind.min, IntKind.max, IntKind.signed, IntKind.bits] using w2
  have h3 : 0 ≤ a3 ∧ a3 ≤ 255 := by simpa [Lit.wf, IntKind.min, IntKind.max, IntKind.signed, IntKind.bits] using w3
  exact V.law_args [.v A0 c0 s0 l0, .v A1 c1 s1 l1, .i .u8 a2, .i .u8 a3] hG (V.rows_cons hr0 (V.rows_cons hr1 V.rows_nil)) (V.struct_law l0 l1 s0 s1 a2 a3 b0 b1 ⟨h2.1, by omega⟩ ⟨h3.1, by omega⟩)
end Go.Proofs.YtdgbdkfoeaollaaDoor.X
