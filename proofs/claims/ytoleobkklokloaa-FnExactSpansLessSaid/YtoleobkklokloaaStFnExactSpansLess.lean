-- Printed by wip/myprint.py over the kit's print, in this session's own call.
import Derived.Test.YtoleobkklokloaaPrint8
import Derived.Test.YtoleobkklokloaaOpn
namespace Go.Proofs.Ytoleobkklokloaa.Print
open Go.RowKit Go.Proofs.YtoleobkklokloaaW.PrintWords Go.Proofs.YtoleobkklokloaaW.PrintLast
/-- THE ONE PURE STATEMENT of laws_FnExactSpansLess. -/
def laws_FnExactSpansLess.Pure : Prop := ∀ (l0 : List (S61)) (l1 : List (S61)), (okList ok61) l0 → (okList ok61) l1 → ∃ k, laws_FnExactSpansLess.f k l0 l1 = some true
end Go.Proofs.Ytoleobkklokloaa.Print
