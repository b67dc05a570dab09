/- The statement FnExactActRead holds: the program's ActRead returns what the reference's returns, for every text; no other condition. -/
import Derived.Test.YtmbpibkbkfopmaaDoorLemAR
namespace Go.Proofs.YtmbpibkbkfopmaaDoor.Pure
open Go.RowKit Go.Proofs.YtmbpibkbkfopmaaDoor.Print Go.Proofs.YtmbpibkbkfopmaaDoorW.PrintWords Go.Proofs.YtmbpibkbkfopmaaDoorW.PrintLast

theorem FnExactActRead : laws_FnExactActRead.Pure := by
  intro t _
  refine Ev.rounds (g := fun k => laws_FnExactActRead.f k t) ?_
  unfold laws_FnExactActRead.f
  by_cases c : (t.size : Int) > 1048576
  · exact Ev.pos c (Ev.now _)
  · refine Ev.neg c ?_
    have hl := aOut_len t
    obtain ⟨w, l, s, c, e⟩ : ∃ w l s c, aOut t = (w, l, s, c) := ⟨_, _, _, _, rfl⟩
    have hS := spec_AO_ev t
    have hI := impl_AO_ev t
    rw [e] at hl hS hI
    have hE := eqAO_ev w l s c hl
    have hM : Ev (fun k => laws_markActOut.f k w l s c 1) (1 + (l.length : Int), marked 1 l.length) := by
      unfold laws_markActOut.f laws_markAct.f
      exact Ev.bind (Ev.bind (mark_ev 1 l (by omega) hl) (Ev.now _)) (Ev.now _)
    have hH : Ev (fun k => laws_heldActOut.f k w (marked 1 l.length) s c 1) (1 + (l.length : Int)) := by
      unfold laws_heldActOut.f laws_heldAct.f
      exact Ev.bind (Ev.bind (held_ev 1 l.length (by omega) hl) (Ev.neg (by omega) (Ev.now _))) (Ev.neg (by omega) (Ev.now _))
    refine Ev.bind hS (Ev.bind hI (Ev.bind hE (Ev.pos rfl (Ev.bind hM (Ev.bind hH (Ev.neg (by omega) (Ev.pos rfl (Ev.bind hI (Ev.bind hE (Ev.pos rfl (Ev.bind hH (Ev.neg (by omega) (Ev.pos rfl (Ev.now _))))))))))))))

end Go.Proofs.YtmbpibkbkfopmaaDoor.Pure
