-- Printed by wip/myprint.py over the kit's print, in this session's own call.
import Derived.Test.YtkhidbahbcfkbaaPrint14
import Derived.Test.YtkhidbahbcfkbaaOpn
namespace Go.Proofs.Ytkhidbahbcfkbaa.Print
open Go.RowKit Go.Proofs.YtkhidbahbcfkbaaW.PrintWords Go.Proofs.YtkhidbahbcfkbaaW.PrintLast
/-- THE ONE PURE STATEMENT of laws_FnExactDepthOf. -/
def laws_FnExactDepthOf.Pure : Prop := ∀ (a0_0 : Int) (l0_1 : List (S60)) (l0_2 : List (S60)) (a1 : Int), (Lit.int .i64 a0_0).wf = true → (okList ok60) l0_1 → (okList ok60) l0_2 → (Lit.int .i64 a1).wf = true → ∃ k, laws_FnExactDepthOf.f k a0_0 l0_1 l0_2 a1 = some true
end Go.Proofs.Ytkhidbahbcfkbaa.Print
