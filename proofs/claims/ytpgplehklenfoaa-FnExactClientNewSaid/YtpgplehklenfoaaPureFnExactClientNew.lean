/- The statement FnExactClientNew holds: ClientNew of the program answers as the reference's, for all arguments that the statement takes. -/
import Derived.Test.YtpgplehklenfoaaLemCl1
namespace Go.Proofs.Ytpgplehklenfoaa.Pure
open Go.RowKit Go.Proofs.Ytpgplehklenfoaa.Print Go.Proofs.YtpgplehklenfoaaW.PrintWords Go.Proofs.YtpgplehklenfoaaW.PrintLast

theorem FnExactClientNew : laws_FnExactClientNew.Pure := by
  intro a _
  unfold laws_FnExactClientNew.f spec_ClientNew.f impl_ClientNew.f
  rw [isUser_eq, l02User_eq]
  by_cases h : 1 ≤ a ∧ a ≤ 6
  · simp [h, laws_eqClientOut.f, laws_eqClient.f, laws_eqSeenS.f, laws_markClientOut.f, laws_markClient.f, laws_markSeenS.f, laws_heldClientOut.f, laws_heldClient.f, laws_heldSeenS.f]
  · simp [h, laws_eqClientOut.f, laws_eqClient.f, laws_eqSeenS.f, laws_markClientOut.f, laws_markClient.f, laws_markSeenS.f, laws_heldClientOut.f, laws_heldClient.f, laws_heldSeenS.f]

end Go.Proofs.Ytpgplehklenfoaa.Pure
