-- Printed by wip/myprint.py over the kit's print, in this session's own call.
import Derived.Test.YtpkeddplfnannaaPrint20
import Derived.Test.YtpkeddplfnannaaOpn
namespace Go.Proofs.Ytpkeddplfnannaa.Print
open Go.RowKit Go.Proofs.YtpkeddplfnannaaW.PrintWords Go.Proofs.YtpkeddplfnannaaW.PrintLast
/-- THE ONE PURE STATEMENT of laws_FnExactLevelOf. -/
def laws_FnExactLevelOf.Pure : Prop := ∀ (a0_0 : Int) (l0_1 : List (S57)) (l0_2 : List (S57)) (l1 : List (S48)) (a2 : Int), (Lit.int .i64 a0_0).wf = true → (okList ok57) l0_1 → (okList ok57) l0_2 → (okList ok48) l1 → (Lit.int .i64 a2).wf = true → ∃ k, laws_FnExactLevelOf.f k a0_0 l0_1 l0_2 l1 a2 = some true
end Go.Proofs.Ytpkeddplfnannaa.Print
