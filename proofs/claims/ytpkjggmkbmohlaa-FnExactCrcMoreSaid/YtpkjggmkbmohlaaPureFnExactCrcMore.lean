/- The statement FnExactCrcMore holds: the program's CrcMore returns what the reference's returns, for every int64 and every string; no condition. -/
import Derived.Test.YtpkjggmkbmohlaaLemCrc
namespace Go.Proofs.Ytpkjggmkbmohlaa.Pure
open Go.RowKit Go.Proofs.Ytpkjggmkbmohlaa.Print Go.Proofs.YtpkjggmkbmohlaaW.PrintWords Go.Proofs.YtpkjggmkbmohlaaW.PrintLast

theorem FnExactCrcMore : laws_FnExactCrcMore.Pure := by
  intro n a _ h
  refine Ev.rounds (g := fun k => laws_FnExactCrcMore.f k n a) ?_
  unfold laws_FnExactCrcMore.f
  by_cases c : (a.size : Int) > 1048576
  · exact Ev.pos c (Ev.now _)
  · exact Ev.neg c (Ev.bind (spec_CrcMore_ev n a h) (Ev.bind (impl_CrcMore_ev n a h) (Ev.pos rfl (Ev.now _))))

end Go.Proofs.Ytpkjggmkbmohlaa.Pure
