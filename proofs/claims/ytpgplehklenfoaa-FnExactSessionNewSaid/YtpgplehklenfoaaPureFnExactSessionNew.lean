/- The statement FnExactSessionNew holds: SessionNew of the program answers as the reference's, for all arguments that the statement takes. -/
import Derived.Test.YtpgplehklenfoaaLemCl1
namespace Go.Proofs.Ytpgplehklenfoaa.Pure
open Go.RowKit Go.Proofs.Ytpgplehklenfoaa.Print Go.Proofs.YtpgplehklenfoaaW.PrintWords Go.Proofs.YtpgplehklenfoaaW.PrintLast

theorem FnExactSessionNew : laws_FnExactSessionNew.Pure := by
  intro a _
  have e1 : ∀ u : Int, ∀ c : Int, laws_eqLazyOut.f 1 u ⟨#[]⟩ [] [] [] 0 0 c u ⟨#[]⟩ [] [] [] 0 0 c = some true := by
    intro u c
    simp [laws_eqLazyOut.f, laws_eqSession.f, laws_eqSyncOut.f, laws_eqEntryS.f, laws_eqEntryS.l0, laws_eqInt64S.f, laws_eqInt64S.l0, laws_eqPartS.f]
  have e2 : ∀ u : Int, ∀ c : Int, laws_markLazyOut.f 1 u ⟨#[]⟩ [] [] [] 0 0 c 1 = some (1, [], []) := by
    intro u c
    simp [laws_markLazyOut.f, laws_markSession.f, laws_markSyncOut.f, laws_markEntryS.f, laws_markEntryS.l0, laws_markInt64S.f, laws_markInt64S.l0, laws_markPartS.f]
  have e3 : ∀ u : Int, ∀ c : Int, laws_heldLazyOut.f 1 u ⟨#[]⟩ [] [] [] 0 0 c 1 = some 1 := by
    intro u c
    simp [laws_heldLazyOut.f, laws_heldSession.f, laws_heldSyncOut.f, laws_heldEntryS.f, laws_heldEntryS.l0, laws_heldInt64S.f, laws_heldInt64S.l0, laws_heldPartS.f]
  refine ⟨1, ?_⟩
  unfold laws_FnExactSessionNew.f spec_SessionNew.f impl_SessionNew.f
  rw [isUser_eq, l02User_eq]
  by_cases h : 1 ≤ a ∧ a ≤ 6
  · simp [h, e1, e2, e3]
  · simp [h, e1, e2, e3]

end Go.Proofs.Ytpgplehklenfoaa.Pure
