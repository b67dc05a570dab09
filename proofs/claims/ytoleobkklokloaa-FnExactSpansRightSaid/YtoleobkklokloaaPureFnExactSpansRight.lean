/- The statement FnExactSpansRight holds: the program's SpansRight returns what the reference's returns, for every slice of spans; no condition. -/
import Derived.Test.YtoleobkklokloaaLemSp1
namespace Go.Proofs.Ytoleobkklokloaa.Pure
open Go.RowKit Go.Proofs.Ytoleobkklokloaa.Print Go.Proofs.YtoleobkklokloaaW.PrintWords Go.Proofs.YtoleobkklokloaaW.PrintLast

theorem FnExactSpansRight : laws_FnExactSpansRight.Pure := by
  intro l ⟨hl, _⟩
  refine Ev.rounds (g := fun k => laws_FnExactSpansRight.f k l) ?_
  unfold laws_FnExactSpansRight.f
  refine Ev.take (szSpanS_eq l _ (by omega) (by omega) hl) ?_
  by_cases c : (1048576 : Int) < l.length
  · rw [if_pos c]; exact Ev.pos (by omega) (Ev.now _)
  · rw [if_neg c]; refine Ev.neg (by omega) ?_
    have hm : (l.map toSp).length ≤ 1048576 := by simp; omega
    refine Ev.bind (toSpanS_ev l (by omega)) (Ev.bind (spec_SR_ev _ (by omega)) (Ev.bind (toSpanS_ev l (by omega)) (Ev.bind (impl_SR_ev _ (by omega)) ?_)))
    refine Ev.neg (by simp) (Ev.bind (toSpanS_ev l (by omega)) (Ev.bind (eqSpanS_ev _ (by omega)) (Ev.pos rfl (Ev.now _))))

end Go.Proofs.Ytoleobkklokloaa.Pure
