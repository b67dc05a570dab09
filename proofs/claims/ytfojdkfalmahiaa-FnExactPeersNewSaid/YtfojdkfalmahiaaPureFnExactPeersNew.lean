/- The statement FnExactPeersNew holds: PeersNew of the program answers as the reference's, for all arguments that the statement takes. -/
import Derived.Test.YtfojdkfalmahiaaStFnExactPeersNew
namespace Go.Proofs.Ytfojdkfalmahiaa.Pure
open Go.RowKit Go.Proofs.Ytfojdkfalmahiaa.Print Go.Proofs.YtfojdkfalmahiaaW.PrintWords Go.Proofs.YtfojdkfalmahiaaW.PrintLast

theorem FnExactPeersNew : laws_FnExactPeersNew.Pure := by
  intro a0 _
  by_cases h1 : 1 ≤ a0 ∧ a0 ≤ 4
  · have h : a0 = 1 ∨ a0 = 2 ∨ a0 = 3 ∨ a0 = 4 := by omega
    rcases h with h | h | h | h
    · subst h; exact ⟨20, by decide +kernel⟩
    · subst h; exact ⟨20, by decide +kernel⟩
    · subst h; exact ⟨20, by decide +kernel⟩
    · subst h; exact ⟨20, by decide +kernel⟩
  · have eI : impl_in.f a0 1 4 = some false := by
      unfold impl_in.f
      by_cases c : 1 ≤ a0
      · rw [if_pos c, decide_eq_false (by omega)]
      · rw [if_neg c]
    have eS : spec_l02Is.f a0 1 4 = some false := by
      unfold spec_l02Is.f
      by_cases c : a0 ≥ 1
      · rw [if_pos c, decide_eq_false (by omega)]
      · rw [if_neg c]
    have e1 : impl_PeersNew.f 20 a0 = some ([], false, 0, 1) := by unfold impl_PeersNew.f; rw [eI]; rfl
    have e2 : spec_PeersNew.f 20 a0 = some ([], false, 0, 1) := by unfold spec_PeersNew.f; rw [eS]; rfl
    refine ⟨20, ?_⟩
    unfold laws_FnExactPeersNew.f
    rw [e2, e1]
    decide +kernel

end Go.Proofs.Ytfojdkfalmahiaa.Pure
