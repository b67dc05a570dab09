-- Printed by wip/myprint.py over the kit's print, in this session's own call.
import Derived.Test.YtfojdkfalmahiaaPrint4
import Derived.Test.YtfojdkfalmahiaaOpn
namespace Go.Proofs.Ytfojdkfalmahiaa.Print
open Go.RowKit Go.Proofs.YtfojdkfalmahiaaW.PrintWords Go.Proofs.YtfojdkfalmahiaaW.PrintLast
/-- THE ONE PURE STATEMENT of laws_FnExactPeersNew. -/
def laws_FnExactPeersNew.Pure : Prop := ∀ (a0 : Int), (Lit.int .i64 a0).wf = true → ∃ k, laws_FnExactPeersNew.f k a0 = some true
end Go.Proofs.Ytfojdkfalmahiaa.Print
