/- The statement FnExactSpansRead holds: the program's SpansRead returns what the reference's returns, for every text; no other condition. -/
import Derived.Test.YtibdkoepmejgdaaLemSR
namespace Go.Proofs.Ytibdkoepmejgdaa.Pure
open Go.RowKit Go.Proofs.Ytibdkoepmejgdaa.Print Go.Proofs.YtibdkoepmejgdaaW.PrintWords Go.Proofs.YtibdkoepmejgdaaW.PrintLast

theorem FnExactSpansRead : laws_FnExactSpansRead.Pure := by
  intro t _
  refine Ev.rounds (g := fun k => laws_FnExactSpansRead.f k t) ?_
  unfold laws_FnExactSpansRead.f
  by_cases c : (t.size : Int) > 1048576
  · exact Ev.pos c (Ev.now _)
  · refine Ev.neg c ?_
    obtain ⟨⟨l, q⟩, hl, hS, hI⟩ := spansRead_both t
    replace hl : l.length ≤ 401 := hl
    have hE : Ev (fun k => laws_eqSpansOut.f k l q l q) true := by
      unfold laws_eqSpansOut.f
      exact Ev.bind (eqSpanS_ev l (by omega)) (Ev.pos rfl (Ev.pos rfl (Ev.now _)))
    have hM : Ev (fun k => laws_markSpansOut.f k l q 1) (1 + 2 * (l.length : Int), markSp 1 l) := by
      unfold laws_markSpansOut.f
      exact Ev.bind (markSpanS_ev l 1 (by omega) (by omega) (by omega)) (Ev.now _)
    have hH : Ev (fun k => laws_heldSpansOut.f k (markSp 1 l) q 1) (1 + 2 * (l.length : Int)) := by
      unfold laws_heldSpansOut.f
      exact Ev.bind (heldSpanS_ev l 1 (by omega) (by omega) (by omega)) (Ev.neg (by omega) (Ev.now _))
    refine Ev.bind hS (Ev.bind hI (Ev.bind hE (Ev.pos rfl (Ev.bind hM (Ev.bind hH (Ev.neg (by omega) (Ev.pos rfl (Ev.bind hI (Ev.bind hE (Ev.pos rfl (Ev.bind hH (Ev.neg (by omega) (Ev.pos rfl (Ev.now _))))))))))))))

end Go.Proofs.Ytibdkoepmejgdaa.Pure
