-- Printed by wip/myprint.py over the kit's print, in this session's own call.
import Derived.Test.YthpclkkkpponkaaPrint16
import Derived.Test.YthpclkkkpponkaaOpn
namespace Go.Proofs.Ythpclkkkpponkaa.Print
open Go.RowKit Go.Proofs.YthpclkkkpponkaaW.PrintWords Go.Proofs.YthpclkkkpponkaaW.PrintLast
/-- THE ONE PURE STATEMENT of laws_FnExactAheadOf. -/
def laws_FnExactAheadOf.Pure : Prop := ∀ (a0_0 : Int) (l0_1 : List (S45)) (l0_2 : List (S45)) (a1 : Int) (a2 : Int), (Lit.int .i64 a0_0).wf = true → (okList ok45) l0_1 → (okList ok45) l0_2 → (Lit.int .i64 a1).wf = true → (Lit.int .i64 a2).wf = true → ∃ k, laws_FnExactAheadOf.f k a0_0 l0_1 l0_2 a1 a2 = some true
end Go.Proofs.Ythpclkkkpponkaa.Print
