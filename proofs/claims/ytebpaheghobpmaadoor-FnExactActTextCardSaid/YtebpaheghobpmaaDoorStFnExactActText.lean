-- Printed by wip/myprint.py over the kit's print, in this session's own call.
import Derived.Test.YtebpaheghobpmaaDoorPrint5
import Derived.Test.YtebpaheghobpmaaDoorOpn
namespace Go.Proofs.YtebpaheghobpmaaDoor.Print
open Go.RowKit Go.Proofs.YtebpaheghobpmaaDoorW.PrintWords Go.Proofs.YtebpaheghobpmaaDoorW.PrintLast
/-- THE ONE PURE STATEMENT of laws_FnExactActText. -/
def laws_FnExactActText.Pure : Prop := ∀ (a0_0 : ByteArray) (l0_1 : List Int) (a0_2 : ByteArray), a0_0.size ≤ 9223372036854775807 → (okList (fun n_ : Int => (Lit.int .i64 n_).wf = true)) l0_1 → a0_2.size ≤ 9223372036854775807 → ∃ k, laws_FnExactActText.f k a0_0 l0_1 a0_2 = some true
end Go.Proofs.YtebpaheghobpmaaDoor.Print
