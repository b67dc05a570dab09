-- Printed by wip/myprint.py over the kit's print, in this session's own call.
import Derived.Test.YtjijknajgamdaaaPrint5
import Derived.Test.YtjijknajgamdaaaOpn
namespace Go.Proofs.Ytjijknajgamdaaa.Print
open Go.RowKit Go.Proofs.YtjijknajgamdaaaW.PrintWords Go.Proofs.YtjijknajgamdaaaW.PrintLast
/-- THE ONE PURE STATEMENT of laws_FnExactStateRight. -/
def laws_FnExactStateRight.Pure : Prop := ∀ (l0 : List (S88)), (okList ok88) l0 → ∃ k, laws_FnExactStateRight.f k l0 = some true
end Go.Proofs.Ytjijknajgamdaaa.Print
