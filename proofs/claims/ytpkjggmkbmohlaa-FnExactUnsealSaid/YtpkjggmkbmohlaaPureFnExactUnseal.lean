/- The statement FnExactUnseal holds: the program's Unseal returns what the reference's returns, for every string; no condition. -/
import Derived.Test.YtpkjggmkbmohlaaLemCrc
namespace Go.Proofs.Ytpkjggmkbmohlaa.Pure
open Go.RowKit Go.Proofs.Ytpkjggmkbmohlaa.Print Go.Proofs.YtpkjggmkbmohlaaW.PrintWords Go.Proofs.YtpkjggmkbmohlaaW.PrintLast

theorem FnExactUnseal : laws_FnExactUnseal.Pure := by
  intro a h
  refine Ev.rounds (g := fun k => laws_FnExactUnseal.f k a) ?_
  unfold laws_FnExactUnseal.f
  by_cases c : (a.size : Int) > 1048576
  · exact Ev.pos c (Ev.now _)
  · exact Ev.neg c (Ev.bind (spec_Unseal_ev a h) (Ev.bind (impl_Unseal_ev a h) (Ev.take (eqTextOut_self _ _ _) (Ev.pos rfl (Ev.now _)))))

end Go.Proofs.Ytpkjggmkbmohlaa.Pure
