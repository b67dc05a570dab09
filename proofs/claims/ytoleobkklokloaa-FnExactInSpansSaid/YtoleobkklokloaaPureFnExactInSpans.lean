/- The statement FnExactInSpans holds: the program's InSpans answers as the reference's, for every range set and number that the statement takes. -/
import Derived.Test.YtoleobkklokloaaLemSp2
namespace Go.Proofs.Ytoleobkklokloaa.Pure
open Go.RowKit Go.Proofs.Ytoleobkklokloaa.Print Go.Proofs.YtoleobkklokloaaW.PrintWords Go.Proofs.YtoleobkklokloaaW.PrintLast

theorem FnExactInSpans : laws_FnExactInSpans.Pure := by
  intro l a ⟨hl, _⟩ _
  refine Ev.rounds (g := fun k => laws_FnExactInSpans.f k l a) ?_
  unfold laws_FnExactInSpans.f
  refine Ev.take (szSpanS_eq l _ (by omega) (by omega) hl) ?_
  by_cases c : (1048576 : Int) < l.length
  · rw [if_pos c]; exact Ev.pos (by omega) (Ev.now _)
  · rw [if_neg c]; refine Ev.neg (by omega) ?_
    have hm : (l.map toSp).length ≤ 1048576 := by simp; omega
    refine Ev.bind (toSpanS_ev l (by omega)) (Ev.bind (spec_InSpans_ev _ _ (by omega)) (Ev.bind (toSpanS_ev l (by omega)) (Ev.bind (impl_InSpans_ev _ _ (by omega)) ?_)))
    refine Ev.neg (by simp) (Ev.bind (toSpanS_ev l (by omega)) (Ev.bind (eqSpanS_ev _ (by omega)) (Ev.pos rfl (Ev.now _))))

end Go.Proofs.Ytoleobkklokloaa.Pure
