-- Printed by wip/myprint.py over the kit's print, in this session's own call.
import Derived.Test.YtoleobkklokloaaPrint5
import Derived.Test.YtoleobkklokloaaOpn
namespace Go.Proofs.Ytoleobkklokloaa.Print
open Go.RowKit Go.Proofs.YtoleobkklokloaaW.PrintWords Go.Proofs.YtoleobkklokloaaW.PrintLast
/-- THE ONE PURE STATEMENT of laws_FnExactSpansRight. -/
def laws_FnExactSpansRight.Pure : Prop := ∀ (l0 : List (S61)), (okList ok61) l0 → ∃ k, laws_FnExactSpansRight.f k l0 = some true
end Go.Proofs.Ytoleobkklokloaa.Print
