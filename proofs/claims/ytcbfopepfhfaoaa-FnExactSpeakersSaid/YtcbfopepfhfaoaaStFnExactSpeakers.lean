-- Printed by wip/myprint.py over the kit's print, in this session's own call.
import Derived.Test.YtcbfopepfhfaoaaPrint6
import Derived.Test.YtcbfopepfhfaoaaOpn
namespace Go.Proofs.Ytcbfopepfhfaoaa.Print
open Go.RowKit Go.Proofs.YtcbfopepfhfaoaaW.PrintWords Go.Proofs.YtcbfopepfhfaoaaW.PrintLast
/-- THE ONE PURE STATEMENT of laws_FnExactSpeakers. -/
def laws_FnExactSpeakers.Pure : Prop := ∀ (a0_0 : Int) (l0_1 : List (S49)) (l0_2 : List (S74)) (a0_3 : Bool) (a0_4 : Int), (Lit.int .i64 a0_0).wf = true → (okList ok49) l0_1 → (okList ok74) l0_2 → (Lit.int .i64 a0_4).wf = true → ∃ k, laws_FnExactSpeakers.f k a0_0 l0_1 l0_2 a0_3 a0_4 = some true
end Go.Proofs.Ytcbfopepfhfaoaa.Print
