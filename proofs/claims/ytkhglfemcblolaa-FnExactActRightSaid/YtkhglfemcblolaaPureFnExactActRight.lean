/- The statement FnExactActRight holds: ActRight of the program answers as the reference's, for all arguments that the statement takes. -/
import Derived.Test.YtkhglfemcblolaaLemAc1
namespace Go.Proofs.Ytkhglfemcblolaa.Pure
open Go.RowKit Go.Proofs.Ytkhglfemcblolaa.Print Go.Proofs.YtkhglfemcblolaaW.PrintWords Go.Proofs.YtkhglfemcblolaaW.PrintLast

theorem FnExactActRight : laws_FnExactActRight.Pure := by
  intro w l s hw ⟨hl, _⟩ hs
  refine Ev.rounds (g := fun k => laws_FnExactActRight.f k w l s) ?_
  unfold laws_FnExactActRight.f
  refine Ev.take (szAct_eq w l s hw hs hl) ?_
  by_cases c : 1048576 < w.size + l.length + s.size
  · rw [if_pos c]; exact Ev.pos (by omega) (Ev.now _)
  · rw [if_neg c]; refine Ev.neg (by omega) ?_
    have tM : Ev (fun k => laws_toAct.f k w l s) (w, l, s) := by unfold laws_toAct.f; exact Ev.bind (toInt64S_ev l (by omega)) (Ev.now _)
    have eM : Ev (fun k => laws_eqAct.f k w l s w l s) true := by unfold laws_eqAct.f; exact Ev.pos rfl (Ev.bind (eqInt64S_ev l (by omega)) (Ev.pos rfl (Ev.pos rfl (Ev.now _))))
    refine Ev.bind tM (Ev.bind (spec_ActRight_ev w l s (by first | omega | (simp only []; omega)) (by first | omega | (simp only []; omega))) (Ev.bind tM (Ev.bind (impl_ActRight_ev w l s (by first | omega | (simp only []; omega)) (by first | omega | (simp only []; omega))) ?_)))
    exact Ev.neg (by simp) (Ev.bind tM (Ev.bind eM (Ev.pos rfl (Ev.now _))))

end Go.Proofs.Ytkhglfemcblolaa.Pure
