/- The statement FnExactStateDiff holds: StateDiff of the program answers as the reference's, for all arguments that the statement takes. -/
import Derived.Test.YtcbfopepfhfaoaaLemSD
namespace Go.Proofs.Ytcbfopepfhfaoaa.Pure
open Go.RowKit Go.Proofs.Ytcbfopepfhfaoaa.Print Go.Proofs.YtcbfopepfhfaoaaW.PrintWords Go.Proofs.YtcbfopepfhfaoaaW.PrintLast

theorem FnExactStateDiff : laws_FnExactStateDiff.Pure := by
  intro la lb ⟨hla, _⟩ ⟨hlb, _⟩
  refine Ev.rounds (g := fun k => laws_FnExactStateDiff.f k la lb) ?_
  unfold laws_FnExactStateDiff.f
  refine Ev.take (szEntryS_eq la _ (by omega) (by omega) hla) ?_
  by_cases c : (1048576 : Int) < la.length
  · rw [if_pos c]; exact Ev.pos (by omega) (Ev.now _)
  · rw [if_neg c]; refine Ev.neg (by omega) ?_
    refine Ev.take (szEntryS_eq lb _ (by omega) (by omega) hlb) ?_
    by_cases c2 : (1048576 : Int) - la.length < lb.length
    · rw [if_pos c2]; exact Ev.pos (by omega) (Ev.now _)
    · rw [if_neg c2]; refine Ev.neg (by omega) ?_
      have hA : (la.map toEn).length ≤ 1048576 := by simp; omega
      have hB : (lb.map toEn).length ≤ 1048576 := by simp; omega
      have hG := diffV_len (la.map toEn) (lb.map toEn)
      have tA := toEntryS_ev la (by omega)
      have tB := toEntryS_ev lb (by omega)
      have iG := impl_StateDiff_ev (la.map toEn) (lb.map toEn) (by omega) (by omega)
      refine Ev.bind tA (Ev.bind tB (Ev.bind (spec_StateDiff_ev _ _ (by omega) (by omega)) (Ev.bind tA (Ev.bind tB (Ev.bind iG (Ev.bind (eqEntryS_ev _ (by omega)) (Ev.pos rfl ?_)))))))
      refine Ev.bind tA (Ev.bind (eqEntryS_ev _ (by omega)) (Ev.pos rfl (Ev.bind tB (Ev.bind (eqEntryS_ev _ (by omega)) (Ev.pos rfl ?_)))))
      refine Ev.bind (markEn_ev _ 1 (by omega) (by omega) (by omega)) (Ev.bind (markEn_ev _ _ (by omega) (by first | omega | (simp only []; omega)) (by first | omega | (simp only []; omega))) (Ev.neg (by first | omega | (simp only []; omega)) (Ev.bind (eqEntryS_ev _ (by omega)) ?_)))
      refine Ev.step (fun k => by unfold laws_FnExactStateDiff.j0; exact if_neg (by simp)) ?_
      refine Ev.bind (markEn_ev _ 1 (by omega) (by omega) (by omega)) (Ev.bind (heldEn_ev _ 1 (by omega) (by omega) (by omega)) (Ev.neg (by first | omega | (simp only []; omega)) (Ev.pos rfl ?_)))
      refine Ev.bind tA (Ev.bind tB (Ev.bind iG (Ev.bind (eqEntryS_ev _ (by omega)) (Ev.pos rfl ?_))))
      exact Ev.bind (heldEn_ev _ 1 (by omega) (by omega) (by omega)) (Ev.neg (by first | omega | (simp only []; omega)) (Ev.pos rfl (Ev.now _)))

end Go.Proofs.Ytcbfopepfhfaoaa.Pure
