/- VecStructureMatches: the call. -/
import Derived.Test.YtdgbdkfoeaollaaGreatDoorVStM
import Derived.Test.YtdgbdkfoeaollaaGreatDoorVL
namespace Go.Proofs.YtdgbdkfoeaollaaGreatDoor.X
open Go Go.AL
theorem VecStructureMatches_calls (W:World) (A0:Option Addr) (c0:Nat) (s0:Bool) (l0:List Int) (A1:Option Addr) (c1:Nat) (s1:Bool) (l1:List Int) (A2:Option Addr) (c2:Nat) (s2:Bool) (l2:List Int) (a3 a4 a5:Int) (hG:Glob W) (hr0:RowAt W A0 l0.length c0 (l0.map (.int .u8))) (b0:∀ y∈l0,0≤y) (hr1:RowAt W A1 l1.length c1 (l1.map (.int .u8))) (b1:∀ y∈l1,0≤y) (hr2:RowAt W A2 l2.length c2 (l2.map (.int .u8))) (b2:∀ y∈l2,0≤y) (w3:(Lit.int .i64 a3).wf=true) (w4:(Lit.int .i64 a4).wf=true) (w5:(Lit.int .i64 a5).wf=true) :
  Calls Tryz.prog 6 #[.agg #[.slice A0 l0.length c0,.bool s0],.agg #[.slice A1 l1.length c1,.bool s1],.agg #[.slice A2 l2.length c2,.bool s2],.int .i64 a3,.int .i64 a4,.int .i64 a5] W fun e W'=>e=.returned (.bool true)∧Go.RowKit.Below W.heap.size W W':=by
 have h3:-9223372036854775808≤a3∧a3≤9223372036854775807:=by simpa [Lit.wf,IntKind.min,IntKind.max,IntKind.signed,IntKind.bits] using w3
 have h4:-9223372036854775808≤a4∧a4≤9223372036854775807:=by simpa [Lit.wf,IntKind.min,IntKind.max,IntKind.signed,IntKind.bits] using w4
 have h5:-9223372036854775808≤a5∧a5≤9223372036854775807:=by simpa [Lit.wf,IntKind.min,IntKind.max,IntKind.signed,IntKind.bits] using w5
 exact V.law_args [.v A0 c0 s0 l0,.v A1 c1 s1 l1,.v A2 c2 s2 l2,.i .i64 a3,.i .i64 a4,.i .i64 a5] hG (V.rows_cons hr0 (V.rows_cons hr1 (V.rows_cons hr2 V.rows_nil))) (V.stm_law l0 l1 l2 s0 s1 s2 a3 a4 a5 b0 b1 b2 ⟨h3.1,by omega⟩ ⟨h4.1,by omega⟩ ⟨h5.1,by omega⟩)
end Go.Proofs.YtdgbdkfoeaollaaGreatDoor.X
