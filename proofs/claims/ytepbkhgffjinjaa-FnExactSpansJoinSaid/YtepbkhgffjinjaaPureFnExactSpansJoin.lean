/- The statement FnExactSpansJoin holds: SpansJoin of the program answers as the reference's, for all arguments that the statement takes. -/
import Derived.Test.YtepbkhgffjinjaaLemSJ
namespace Go.Proofs.Ytepbkhgffjinjaa.Pure
open Go.RowKit Go.Proofs.Ytepbkhgffjinjaa.Print Go.Proofs.YtepbkhgffjinjaaW.PrintWords Go.Proofs.YtepbkhgffjinjaaW.PrintLast

theorem FnExactSpansJoin : laws_FnExactSpansJoin.Pure := by
  intro la lb ⟨hla, _⟩ ⟨hlb, _⟩
  refine Ev.rounds (g := fun k => laws_FnExactSpansJoin.f k la lb) ?_
  unfold laws_FnExactSpansJoin.f
  refine Ev.take (szSpanS_eq la _ (by omega) (by omega) hla) ?_
  by_cases c : (1048576 : Int) < la.length
  · rw [if_pos c]; exact Ev.pos (by omega) (Ev.now _)
  · rw [if_neg c]; refine Ev.neg (by omega) ?_
    refine Ev.take (szSpanS_eq lb _ (by omega) (by omega) hlb) ?_
    by_cases c2 : (1048576 : Int) - la.length < lb.length
    · rw [if_pos c2]; exact Ev.pos (by omega) (Ev.now _)
    · rw [if_neg c2]; refine Ev.neg (by omega) ?_
      have hA : (la.map toSp).length ≤ 1048576 := by simp; omega
      have hB : (lb.map toSp).length ≤ 1048576 := by simp; omega
      have hG := spJoin_length (la.map toSp) (lb.map toSp)
      have tA := toSpanS_ev la (by omega)
      have tB := toSpanS_ev lb (by omega)
      have iG := impl_SpansJoin_ev (la.map toSp) (lb.map toSp) (by omega) (by omega)
      refine Ev.bind tA (Ev.bind tB (Ev.bind (spec_SpansJoin_ev _ _ (by omega) (by omega)) (Ev.bind tA (Ev.bind tB (Ev.bind iG (Ev.bind (eqSpanS_ev _ (by omega)) (Ev.pos rfl ?_)))))))
      refine Ev.bind tA (Ev.bind (eqSpanS_ev _ (by omega)) (Ev.pos rfl (Ev.bind tB (Ev.bind (eqSpanS_ev _ (by omega)) (Ev.pos rfl ?_)))))
      refine Ev.bind (markSpanS_ev _ 1 (by omega) (by omega) (by omega)) (Ev.bind (markSpanS_ev _ _ (by omega) (by first | omega | (simp only []; omega)) (by first | omega | (simp only []; omega))) (Ev.neg (by first | omega | (simp only []; omega)) (Ev.bind (eqSpanS_ev _ (by omega)) ?_)))
      refine Ev.step (fun k => by unfold laws_FnExactSpansJoin.j0; exact if_neg (by simp)) ?_
      refine Ev.bind (markSpanS_ev _ 1 (by omega) (by omega) (by omega)) (Ev.bind (heldSpanS_ev _ 1 (by omega) (by omega) (by omega)) (Ev.neg (by first | omega | (simp only []; omega)) (Ev.pos rfl ?_)))
      refine Ev.bind tA (Ev.bind tB (Ev.bind iG (Ev.bind (eqSpanS_ev _ (by omega)) (Ev.pos rfl ?_))))
      exact Ev.bind (heldSpanS_ev _ 1 (by omega) (by omega) (by omega)) (Ev.neg (by first | omega | (simp only []; omega)) (Ev.pos rfl (Ev.now _)))

end Go.Proofs.Ytepbkhgffjinjaa.Pure
