/- The statement FnExactHubNew holds: HubNew of the program answers as the reference's. -/
import Derived.Test.YtfojdkfalmahiaaPrint3
namespace Go.Proofs.Ytfojdkfalmahiaa.Pure
open Go.RowKit Go.Proofs.Ytfojdkfalmahiaa.Print Go.Proofs.YtfojdkfalmahiaaW.PrintWords Go.Proofs.YtfojdkfalmahiaaW.PrintLast

theorem FnExactHubNew : laws_FnExactHubNew.Pure := ⟨20, by decide +kernel⟩

end Go.Proofs.Ytfojdkfalmahiaa.Pure
