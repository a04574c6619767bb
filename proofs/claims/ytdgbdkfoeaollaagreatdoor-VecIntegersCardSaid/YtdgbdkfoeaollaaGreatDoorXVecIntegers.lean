/- VecIntegers: the call. -/
import Derived.Test.YtdgbdkfoeaollaaGreatDoorVInt
import Derived.Test.YtdgbdkfoeaollaaGreatDoorVL
namespace Go.Proofs.YtdgbdkfoeaollaaGreatDoor.X
open Go Go.AL
theorem VecIntegers_calls (W:World) (a0 a1 a2 a3:Int) (a4 a5:Bool) (hG:Glob W) (w0:(Lit.int .i32 a0).wf=true) (w1:(Lit.int .i32 a1).wf=true) (w2:(Lit.int .u8 a2).wf=true) (w3:(Lit.int .u8 a3).wf=true) :
  Calls Tryz.prog 7 #[.int .i32 a0,.int .i32 a1,.int .u8 a2,.int .u8 a3,.bool a4,.bool a5] W fun e W'=>e=.returned (.bool true)∧Go.RowKit.Below W.heap.size W W':=by
 have h0:-2147483648≤a0∧a0≤2147483647:=by simpa [Lit.wf,IntKind.min,IntKind.max,IntKind.signed,IntKind.bits] using w0
 have h1:-2147483648≤a1∧a1≤2147483647:=by simpa [Lit.wf,IntKind.min,IntKind.max,IntKind.signed,IntKind.bits] using w1
 have h2:0≤a2∧a2≤255:=by simpa [Lit.wf,IntKind.min,IntKind.max,IntKind.signed,IntKind.bits] using w2
 have h3:0≤a3∧a3≤255:=by simpa [Lit.wf,IntKind.min,IntKind.max,IntKind.signed,IntKind.bits] using w3
 exact V.law_args [.i .i32 a0,.i .i32 a1,.i .u8 a2,.i .u8 a3,.b a4,.b a5] hG V.rows_nil (V.int_law a0 a1 a2 a3 a4 a5 (by omega) (by omega) h2 h3)
end Go.Proofs.YtdgbdkfoeaollaaGreatDoor.X
