-- Printed by wip/myprint.py over the kit's print, in this session's own call.
import Derived.Test.YtahkcifbclloiaaDoorPrint6
import Derived.Test.YtahkcifbclloiaaDoorOpn
namespace Go.Proofs.YtahkcifbclloiaaDoor.Print
open Go.RowKit Go.Proofs.YtahkcifbclloiaaDoorW.PrintWords Go.Proofs.YtahkcifbclloiaaDoorW.PrintLast
/-- THE ONE PURE STATEMENT of laws_FnExactSessionRight. -/
def laws_FnExactSessionRight.Pure : Prop := ∀ (a0_0 : Int) (a0_1 : ByteArray) (l0_2 : List (S48)), (Lit.int .i64 a0_0).wf = true → a0_1.size ≤ 9223372036854775807 → (okList ok48) l0_2 → ∃ k, laws_FnExactSessionRight.f k a0_0 a0_1 l0_2 = some true
end Go.Proofs.YtahkcifbclloiaaDoor.Print
