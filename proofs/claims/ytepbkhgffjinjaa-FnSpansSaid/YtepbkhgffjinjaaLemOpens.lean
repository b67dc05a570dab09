/- Words: reads of lists of structs. -/
import Derived.Test.YtepbkhgffjinjaaPrint0
import Derived.Deep.Slices
import Derived.Deep.Fields
import Derived.ChangeSame
namespace Go.Proofs.Ytepbkhgffjinjaa.Print
open Go.RowKit Go.Proofs.YtepbkhgffjinjaaW.PrintWords Go.Proofs.YtepbkhgffjinjaaW.PrintLast Go.Proofs.YtepbkhgffjinjaaW.PrintMore
set_option linter.unusedVariables false
set_option linter.unusedSimpArgs false
open Go.ChangeShapes Go.WideShapes Go.Deep
end Go.Proofs.Ytepbkhgffjinjaa.Print
