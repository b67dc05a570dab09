-- Printed by wip/myprint.py over the kit's print, in this session's own call.
import Derived.Test.YtpkjggmkbmohlaaPrint0
import Derived.Test.YtpkjggmkbmohlaaPrint1
import Derived.Test.YtpkjggmkbmohlaaPrint2
import Derived.Test.YtpkjggmkbmohlaaPrint3
import Derived.Test.YtpkjggmkbmohlaaPrint4
import Derived.Test.YtpkjggmkbmohlaaPrint5
import Derived.Test.YtpkjggmkbmohlaaPrint6
namespace Go.Proofs.Ytpkjggmkbmohlaa.Print
open Go.RowKit Go.Proofs.YtpkjggmkbmohlaaW.PrintWords Go.Proofs.YtpkjggmkbmohlaaW.PrintLast Go.Proofs.YtpkjggmkbmohlaaW.PrintMore
attribute [local go_sem] max2_int min2_int max_two min_two max_three min_three max_four min_four   -- for this text's walks alone
set_option linter.unusedVariables false
set_option linter.unusedSimpArgs false

end Go.Proofs.Ytpkjggmkbmohlaa.Print
