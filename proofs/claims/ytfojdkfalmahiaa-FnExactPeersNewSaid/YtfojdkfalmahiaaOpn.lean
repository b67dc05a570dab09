-- Printed by wip/myprint.py over the kit's print, in this session's own call.
import Derived.Test.YtfojdkfalmahiaaLemOpens
import Derived.KernelRfl
namespace Go.Proofs.Ytfojdkfalmahiaa.Print
open Go.RowKit Go.Proofs.YtfojdkfalmahiaaW.PrintWords Go.Proofs.YtfojdkfalmahiaaW.PrintLast
end Go.Proofs.Ytfojdkfalmahiaa.Print
