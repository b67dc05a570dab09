/- The statement FnExactEventRead holds: the program's EventRead returns what the reference's returns, for every text; no other condition. -/
import Derived.Test.YtfgphnjaikjfhaaLemER
namespace Go.Proofs.Ytfgphnjaikjfhaa.Pure
open Go.RowKit Go.Proofs.Ytfgphnjaikjfhaa.Print Go.Proofs.YtfgphnjaikjfhaaW.PrintWords Go.Proofs.YtfgphnjaikjfhaaW.PrintLast

theorem FnExactEventRead : laws_FnExactEventRead.Pure := by
  intro t _
  refine Ev.rounds (g := fun k => laws_FnExactEventRead.f k t) ?_
  unfold laws_FnExactEventRead.f
  by_cases c : (t.size : Int) > 1048576
  · exact Ev.pos c (Ev.now _)
  · refine Ev.neg c ?_
    obtain ⟨⟨a0, a1, a2, a3, a4, a5, s, l, a8, a9⟩, hl, hS, hI⟩ := eventRead_both t (by omega)
    replace hl : l.length ≤ 9 := hl
    have hE : Ev (fun k => laws_eqEventOut.f k a0 a1 a2 a3 a4 a5 s l a8 a9 a0 a1 a2 a3 a4 a5 s l a8 a9) true := by
      unfold laws_eqEventOut.f
      exact Ev.bind (eqEvent_ev a0 a1 a2 a3 a4 a5 s l a8 (by omega)) (Ev.pos rfl (Ev.pos rfl (Ev.now _)))
    have hM : Ev (fun k => laws_markEventOut.f k a0 a1 a2 a3 a4 a5 s l a8 a9 1) (1 + (l.length : Int), marked 1 l.length) := by
      unfold laws_markEventOut.f laws_markEvent.f
      exact Ev.bind (Ev.bind (mark_ev 1 l (by omega) (by omega)) (Ev.now _)) (Ev.now _)
    have hH : Ev (fun k => laws_heldEventOut.f k a0 a1 a2 a3 a4 a5 s (marked 1 l.length) a8 a9 1) (1 + (l.length : Int)) := by
      unfold laws_heldEventOut.f laws_heldEvent.f
      exact Ev.bind (Ev.bind (held_ev 1 l.length (by omega) (by omega)) (Ev.neg (by omega) (Ev.now _))) (Ev.neg (by omega) (Ev.now _))
    refine Ev.bind hS (Ev.bind hI (Ev.bind hE (Ev.pos rfl (Ev.bind hM (Ev.bind hH (Ev.neg (by omega) (Ev.pos rfl (Ev.bind hI (Ev.bind hE (Ev.pos rfl (Ev.bind hH (Ev.neg (by omega) (Ev.pos rfl (Ev.now _))))))))))))))

end Go.Proofs.Ytfgphnjaikjfhaa.Pure
