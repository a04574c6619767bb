/- VecMonotoneParts: the call. -/
import Derived.Test.YtdgbdkfoeaollaaDoorVMono
import Derived.Test.YtdgbdkfoeaollaaDoorVM
namespace Go.Proofs.YtdgbdkfoeaollaaDoor.X
open Go Go.AL
theorem VecMonotoneParts_calls (W : World) (A0 : Option Addr) (c0 : Nat) (s0 : Bool) (l0 : List Int) (A1 : Option Addr) (c1 : Nat) (s1 : Bool) (l1 : List Int) (A2 : Option Addr) (c2 : Nat) (s2 : Bool) (l2 : List Int) (A3 : Option Addr) (c3 : Nat) (s3 : Bool) (l3 : List Int) (a4 a5 : Int) (hG : Glob W) (hr0 : RowAt W A0 l0.length c0 (l0.map (.int .u8))) (b0 : ∀ y ∈ l0, 0 ≤ y) (hr1 : RowAt W A1 l1.length c1 (l1.map (.int .u8))) (b1 : ∀ y ∈ l1, 0 ≤ y) (hr2 : RowAt W A2 l2.length c2 (l2.map (.int .u8))) (b2 : ∀ y ∈ l2, 0 ≤ y) (hr3 : RowAt W A3 l3.length c3 (l3.map (.int .u8))) (b3 : ∀ y ∈ l3, 0 ≤ y) (w4 : (Lit.int .i64 a4).wf = true) (w5 : (Lit.int .i64 a5).wf = true) :
    Calls Tryd.prog 6 #[.agg #[.slice A0 l0.length c0, .bool s0], .agg #[.slice A1 l1.length c1, .bool s1], .agg #[.slice A2 l2.length c2, .bool s2], .agg #[.slice A3 l3.length c3, .bool s3], .int .i64 a4, .int .i64 a5] W fun e W' => e = .returned (.bool true) ∧ Go.RowKit.Below W.heap.size W W' := by
  have h4 : -9223372036854775808 ≤ a4 ∧ a4 ≤ 9223372036854775807 := by simpa [Lit.wf, IntKind.min, IntKind.max, IntKind.signed, IntKind.bits] using w4
  have h5 : -9223372036854775808 ≤ a5 ∧ a5 ≤ 9223372036854775807 := by simpa [Lit.wf, IntKind.min, IntKind.max, IntKind.signed, IntKind.bits] using w5
  exact V.law_args [.v A0 c0 s0 l0, .v A1 c1 s1 l1, .v A2 c2 s2 l2, .v A3 c3 s3 l3, .i .i64 a4, .i .i64 a5] hG (V.rows_cons hr0 (V.rows_cons hr1 (V.rows_cons hr2 (V.rows_cons hr3 V.rows_nil)))) (V.parts_law l0 l1 l2 l3 s0 s1 s2 s3 a4 a5 b0 b1 b2 b3 ⟨h4.1, by omega⟩ ⟨h5.1, by omega⟩)
end Go.Proofs.YtdgbdkfoeaollaaDoor.X
