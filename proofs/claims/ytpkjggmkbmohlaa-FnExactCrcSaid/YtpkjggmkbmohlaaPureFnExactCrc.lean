/- The statement FnExactCrc holds: the program's Crc returns what the reference's returns, for every string; no condition. -/
import Derived.Test.YtpkjggmkbmohlaaLemCrc
namespace Go.Proofs.Ytpkjggmkbmohlaa.Pure
open Go.RowKit Go.Proofs.Ytpkjggmkbmohlaa.Print Go.Proofs.YtpkjggmkbmohlaaW.PrintWords Go.Proofs.YtpkjggmkbmohlaaW.PrintLast

theorem FnExactCrc : laws_FnExactCrc.Pure := by
  intro a h
  refine Ev.rounds (g := fun k => laws_FnExactCrc.f k a) ?_
  unfold laws_FnExactCrc.f
  by_cases c : (a.size : Int) > 1048576
  · exact Ev.pos c (Ev.now _)
  · exact Ev.neg c (Ev.bind (spec_Crc_ev a h) (Ev.bind (impl_Crc_ev a h) (Ev.pos rfl (Ev.now _))))

end Go.Proofs.Ytpkjggmkbmohlaa.Pure
