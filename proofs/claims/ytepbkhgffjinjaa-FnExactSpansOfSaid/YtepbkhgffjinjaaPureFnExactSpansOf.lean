/- The statement FnExactSpansOf holds: SpansOf of the program answers as the reference's, for all arguments that the statement takes. -/
import Derived.Test.YtepbkhgffjinjaaLemSO
namespace Go.Proofs.Ytepbkhgffjinjaa.Pure
open Go.RowKit Go.Proofs.Ytepbkhgffjinjaa.Print Go.Proofs.YtepbkhgffjinjaaW.PrintWords Go.Proofs.YtepbkhgffjinjaaW.PrintLast

theorem FnExactSpansOf : laws_FnExactSpansOf.Pure := by
  intro l _ _ _
  refine Ev.rounds (g := fun k => laws_FnExactSpansOf.f k l) ?_
  unfold laws_FnExactSpansOf.f
  by_cases c : (l.length : Int) > 1048576
  · exact Ev.pos c (Ev.now _)
  · refine Ev.neg c ?_
    have tA := toInt64S_ev l (by omega)
    have hG := spansOf_len l
    have iG := impl_SpansOf_ev l (by omega)
    refine Ev.bind tA (Ev.bind (spec_SpansOf_ev l (by omega)) (Ev.bind tA (Ev.bind iG (Ev.bind (eqSpanS_ev _ (by omega)) (Ev.pos rfl (Ev.bind tA (Ev.bind (eqInt64S_ev _ (by omega)) (Ev.pos rfl ?_))))))))
    refine Ev.bind (markI_ev l 1 (by omega) (by omega) (by omega)) (Ev.neg (by first | omega | (simp only []; omega)) (Ev.bind (eqSpanS_ev _ (by omega)) ?_))
    refine Ev.step (fun k => by unfold laws_FnExactSpansOf.j0; exact if_neg (by simp)) ?_
    refine Ev.bind (markSpanS_ev _ 1 (by omega) (by omega) (by omega)) (Ev.bind (heldSpanS_ev _ 1 (by omega) (by omega) (by omega)) (Ev.neg (by first | omega | (simp only []; omega)) (Ev.pos rfl ?_)))
    refine Ev.bind tA (Ev.bind iG (Ev.bind (eqSpanS_ev _ (by omega)) (Ev.pos rfl ?_)))
    exact Ev.bind (heldSpanS_ev _ 1 (by omega) (by omega) (by omega)) (Ev.neg (by first | omega | (simp only []; omega)) (Ev.pos rfl (Ev.now _)))

end Go.Proofs.Ytepbkhgffjinjaa.Pure
