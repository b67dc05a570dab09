-- Printed by wip/myprint.py over the kit's print, in this session's own call.
import Derived.Test.YtepbkhgffjinjaaPrint6
import Derived.Test.YtepbkhgffjinjaaOpn
namespace Go.Proofs.Ytepbkhgffjinjaa.Print
open Go.RowKit Go.Proofs.YtepbkhgffjinjaaW.PrintWords Go.Proofs.YtepbkhgffjinjaaW.PrintLast
/-- THE ONE PURE STATEMENT of laws_FnExactSpansJoin. -/
def laws_FnExactSpansJoin.Pure : Prop := ∀ (l0 : List (S78)) (l1 : List (S78)), (okList ok78) l0 → (okList ok78) l1 → ∃ k, laws_FnExactSpansJoin.f k l0 l1 = some true
end Go.Proofs.Ytepbkhgffjinjaa.Print
