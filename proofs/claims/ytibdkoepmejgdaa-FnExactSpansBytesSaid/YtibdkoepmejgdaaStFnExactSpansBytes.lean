-- Printed by wip/myprint.py over the kit's print, in this session's own call.
import Derived.Test.YtibdkoepmejgdaaPrint5
import Derived.Test.YtibdkoepmejgdaaOpn
namespace Go.Proofs.Ytibdkoepmejgdaa.Print
open Go.RowKit Go.Proofs.YtibdkoepmejgdaaW.PrintWords Go.Proofs.YtibdkoepmejgdaaW.PrintLast
/-- THE ONE PURE STATEMENT of laws_FnExactSpansBytes. -/
def laws_FnExactSpansBytes.Pure : Prop := ∀ (l0 : List (S50)), (okList ok50) l0 → ∃ k, laws_FnExactSpansBytes.f k l0 = some true
end Go.Proofs.Ytibdkoepmejgdaa.Print
