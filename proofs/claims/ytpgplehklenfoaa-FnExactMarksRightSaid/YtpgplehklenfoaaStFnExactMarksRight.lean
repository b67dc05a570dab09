-- Printed by wip/myprint.py over the kit's print, in this session's own call.
import Derived.Test.YtpgplehklenfoaaPrint2
import Derived.Test.YtpgplehklenfoaaOpn
namespace Go.Proofs.Ytpgplehklenfoaa.Print
open Go.RowKit Go.Proofs.YtpgplehklenfoaaW.PrintWords Go.Proofs.YtpgplehklenfoaaW.PrintLast
/-- THE ONE PURE STATEMENT of laws_FnExactMarksRight. -/
def laws_FnExactMarksRight.Pure : Prop := ∀ (a0_0 : Int) (l0_1 : List Int), (Lit.int .i64 a0_0).wf = true → (okList (fun n_ : Int => (Lit.int .i64 n_).wf = true)) l0_1 → ∃ k, laws_FnExactMarksRight.f k a0_0 l0_1 = some true
end Go.Proofs.Ytpgplehklenfoaa.Print
