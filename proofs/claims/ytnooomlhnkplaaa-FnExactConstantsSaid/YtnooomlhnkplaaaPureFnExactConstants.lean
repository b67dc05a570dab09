/- The statement FnExactConstants holds: the constants of the program are those of the reference; no condition. -/
import Derived.Test.YtnooomlhnkplaaaPFnExactConstantsx1
namespace Go.Proofs.Ytnooomlhnkplaaa.Pure
open Go.RowKit Go.Proofs.Ytnooomlhnkplaaa.PFnExactConstants Go.Proofs.YtnooomlhnkplaaaW.PrintWords Go.Proofs.YtnooomlhnkplaaaW.PrintLast

theorem FnExactConstants : laws_FnExactConstants.Pure := by
  unfold laws_FnExactConstants.Pure
  rfl

end Go.Proofs.Ytnooomlhnkplaaa.Pure
