/- The statement FnExactGetNum holds: the program's GetNum returns what the reference's returns, for every string and every int64; no condition. -/
import Derived.Test.YtpkjggmkbmohlaaLemGet
namespace Go.Proofs.Ytpkjggmkbmohlaa.Pure
open Go.RowKit Go.Proofs.Ytpkjggmkbmohlaa.Print Go.Proofs.YtpkjggmkbmohlaaW.PrintWords Go.Proofs.YtpkjggmkbmohlaaW.PrintLast

theorem FnExactGetNum : laws_FnExactGetNum.Pure := by
  intro s a h w
  refine Ev.rounds (g := fun k => laws_FnExactGetNum.f k s a) ?_
  unfold laws_FnExactGetNum.f
  have hw := (wfi64 w).2
  by_cases c : (s.size : Int) > 1048576
  · exact Ev.pos c (Ev.now _)
  · exact Ev.neg c (Ev.bind (spec_GetNum_ev s h a hw) (Ev.bind (impl_GetNum_ev s h a hw) (Ev.take (eqNumOut_self _ _ _) (Ev.pos rfl (Ev.now _)))))

end Go.Proofs.Ytpkjggmkbmohlaa.Pure
