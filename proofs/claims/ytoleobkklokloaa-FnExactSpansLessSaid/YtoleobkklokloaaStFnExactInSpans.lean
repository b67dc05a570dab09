-- Printed by wip/myprint.py over the kit's print, in this session's own call.
import Derived.Test.YtoleobkklokloaaPrint5
import Derived.Test.YtoleobkklokloaaOpn
namespace Go.Proofs.Ytoleobkklokloaa.Print
open Go.RowKit Go.Proofs.YtoleobkklokloaaW.PrintWords Go.Proofs.YtoleobkklokloaaW.PrintLast
/-- THE ONE PURE STATEMENT of laws_FnExactInSpans. -/
def laws_FnExactInSpans.Pure : Prop := ∀ (l0 : List (S61)) (a1 : Int), (okList ok61) l0 → (Lit.int .i64 a1).wf = true → ∃ k, laws_FnExactInSpans.f k l0 a1 = some true
end Go.Proofs.Ytoleobkklokloaa.Print
