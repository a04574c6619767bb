/- VecMonotone: the call. -/
import Derived.Test.YtdgbdkfoeaollaaGreatDoorVMon
import Derived.Test.YtdgbdkfoeaollaaGreatDoorVM
namespace Go.Proofs.YtdgbdkfoeaollaaGreatDoor.X
open Go Go.AL
theorem VecMonotone_calls (W : World) (A0 : Option Addr) (c0 : Nat) (s0 : Bool) (l0 : List Int) (A1 : Option Addr) (c1 : Nat) (s1 : Bool) (l1 : List Int) (A2 : Option Addr) (c2 : Nat) (s2 : Bool) (l2 : List Int) (A3 : Option Addr) (c3 : Nat) (s3 : Bool) (l3 : List Int) (A4 : Option Addr) (c4 : Nat) (s4 : Bool) (l4 : List Int) (A5 : Option Addr) (c5 : Nat) (s5 : Bool) (l5 : List Int) (hG : Glob W) (hr0 : RowAt W A0 l0.length c0 (l0.map (.int .u8))) (b0 : ∀ y ∈ l0, 0 ≤ y) (hr1 : RowAt W A1 l1.length c1 (l1.map (.int .u8))) (b1 : ∀ y ∈ l1, 0 ≤ y) (hr2 : RowAt W A2 l2.length c2 (l2.map (.int .u8))) (b2 : ∀ y ∈ l2, 0 ≤ y) (hr3 : RowAt W A3 l3.length c3 (l3.map (.int .u8))) (b3 : ∀ y ∈ l3, 0 ≤ y) (hr4 : RowAt W A4 l4.length c4 (l4.map (.int .u8))) (b4 : ∀ y ∈ l4, 0 ≤ y) (hr5 : RowAt W A5 l5.length c5 (l5.map (.int .u8))) (b5 : ∀ y ∈ l5, 0 ≤ y) :
    Calls Tryz.prog 3 #[.agg #[.slice A0 l0.length c0, .bool s0], .agg #[.slice A1 l1.length c1, .bool s1], .agg #[.slice A2 l2.length c2, .bool s2], .agg #[.slice A3 l3.length c3, .bool s3], .agg #[.slice A4 l4.length c4, .bool s4], .agg #[.slice A5 l5.length c5, .bool s5]] W fun e W' => e = .returned (.bool true) ∧ Go.RowKit.Below W.heap.size W W' :=
  V.law_args [.v A0 c0 s0 l0, .v A1 c1 s1 l1, .v A2 c2 s2 l2, .v A3 c3 s3 l3, .v A4 c4 s4 l4, .v A5 c5 s5 l5] hG (V.rows_cons hr0 (V.rows_cons hr1 (V.rows_cons hr2 (V.rows_cons hr3 (V.rows_cons hr4 (V.rows_cons hr5 V.rows_nil)))))) (V.mono_law l0 l1 l2 l3 l4 l5 s0 s1 s2 s3 s4 s5 b0 b1 b2 b3 b4 b5)
end Go.Proofs.YtdgbdkfoeaollaaGreatDoor.X
