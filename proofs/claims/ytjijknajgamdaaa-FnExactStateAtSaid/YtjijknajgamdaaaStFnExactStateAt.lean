-- Printed by wip/myprint.py over the kit's print, in this session's own call.
import Derived.Test.YtjijknajgamdaaaPrint6
import Derived.Test.YtjijknajgamdaaaOpn
namespace Go.Proofs.Ytjijknajgamdaaa.Print
open Go.RowKit Go.Proofs.YtjijknajgamdaaaW.PrintWords Go.Proofs.YtjijknajgamdaaaW.PrintLast
/-- THE ONE PURE STATEMENT of laws_FnExactStateAt. -/
def laws_FnExactStateAt.Pure : Prop := ∀ (l0 : List (S88)) (a1 : Int) (a2 : Int), (okList ok88) l0 → (Lit.int .i64 a1).wf = true → (Lit.int .i64 a2).wf = true → ∃ k, laws_FnExactStateAt.f k l0 a1 a2 = some true
end Go.Proofs.Ytjijknajgamdaaa.Print
