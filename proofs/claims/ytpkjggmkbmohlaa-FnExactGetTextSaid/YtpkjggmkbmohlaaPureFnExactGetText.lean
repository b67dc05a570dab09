/- The statement FnExactGetText holds: the program's GetText returns what the reference's returns, for every string and every int64; no condition. -/
import Derived.Test.YtpkjggmkbmohlaaLemGet
namespace Go.Proofs.Ytpkjggmkbmohlaa.Pure
open Go.RowKit Go.Proofs.Ytpkjggmkbmohlaa.Print Go.Proofs.YtpkjggmkbmohlaaW.PrintWords Go.Proofs.YtpkjggmkbmohlaaW.PrintLast

theorem FnExactGetText : laws_FnExactGetText.Pure := by
  intro s a h w
  refine Ev.rounds (g := fun k => laws_FnExactGetText.f k s a) ?_
  unfold laws_FnExactGetText.f
  have hw := (wfi64 w).2
  by_cases c : (s.size : Int) > 1048576
  · exact Ev.pos c (Ev.now _)
  · exact Ev.neg c (Ev.bind (spec_GetText_ev s h a hw) (Ev.bind (impl_GetText_ev s h a hw) (Ev.take (eqTextOut_self _ _ _) (Ev.pos rfl (Ev.now _)))))

end Go.Proofs.Ytpkjggmkbmohlaa.Pure
