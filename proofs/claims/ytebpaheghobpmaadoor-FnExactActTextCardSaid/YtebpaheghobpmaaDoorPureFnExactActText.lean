/- The statement FnExactActText holds: ActText of the program answers as the reference's. -/
import Derived.Test.YtebpaheghobpmaaDoorLemAT
namespace Go.Proofs.YtebpaheghobpmaaDoor.Pure
open Go.RowKit Go.Proofs.YtebpaheghobpmaaDoor.Print Go.Proofs.YtebpaheghobpmaaDoorW.PrintWords Go.Proofs.YtebpaheghobpmaaDoorW.PrintLast

theorem FnExactActText : laws_FnExactActText.Pure := by
  intro w l s hw ⟨hl, _⟩ hs
  refine Ev.rounds (g := fun k => laws_FnExactActText.f k w l s) ?_
  unfold laws_FnExactActText.f
  refine Ev.take (szAct_eq w l s hw hs hl) ?_
  by_cases c : 1048576 < w.size + l.length + s.size
  · rw [if_pos c]; exact Ev.pos (by omega) (Ev.now _)
  · rw [if_neg c]; refine Ev.neg (by omega) ?_
    have tM : Ev (fun k => laws_toAct.f k w l s) (w, l, s) := by unfold laws_toAct.f; exact Ev.bind (toInt64S_ev l (by omega)) (Ev.now _)
    have eM : Ev (fun k => laws_eqAct.f k w l s w l s) true := by unfold laws_eqAct.f; exact Ev.pos rfl (Ev.bind (eqInt64S_ev l (by omega)) (Ev.pos rfl (Ev.pos rfl (Ev.now _))))
    refine Ev.bind tM (Ev.bind (spec_AT_ev w l s (by omega) (by omega) (by omega)) (Ev.bind tM (Ev.bind (impl_AT_ev w l s (by omega) (by omega) (by omega)) ?_)))
    exact Ev.pos rfl (Ev.bind tM (Ev.bind eM (Ev.pos rfl (Ev.now _))))

end Go.Proofs.YtebpaheghobpmaaDoor.Pure
