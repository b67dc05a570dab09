/- The statement FnExactSeal holds: the program's Seal returns what the reference's returns, for every string; no condition. -/
import Derived.Test.YtpkjggmkbmohlaaLemCrc
namespace Go.Proofs.Ytpkjggmkbmohlaa.Pure
open Go.RowKit Go.Proofs.Ytpkjggmkbmohlaa.Print Go.Proofs.YtpkjggmkbmohlaaW.PrintWords Go.Proofs.YtpkjggmkbmohlaaW.PrintLast

theorem FnExactSeal : laws_FnExactSeal.Pure := by
  intro a h
  refine Ev.rounds (g := fun k => laws_FnExactSeal.f k a) ?_
  unfold laws_FnExactSeal.f
  by_cases c : (a.size : Int) > 1048576
  · exact Ev.pos c (Ev.now _)
  · exact Ev.neg c (Ev.bind (spec_Seal_ev a h) (Ev.bind (impl_Seal_ev a h) (Ev.pos rfl (Ev.now _))))

end Go.Proofs.Ytpkjggmkbmohlaa.Pure
