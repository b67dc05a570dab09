/- The statement FnExactEventRight holds: EventRight of the program answers as the reference's, for all arguments that the statement takes. -/
import Derived.Test.YtjijknajgamdaaaLemEv1
namespace Go.Proofs.Ytjijknajgamdaaa.Pure
open Go.RowKit Go.Proofs.Ytjijknajgamdaaa.Print Go.Proofs.YtjijknajgamdaaaW.PrintWords Go.Proofs.YtjijknajgamdaaaW.PrintLast

theorem FnExactEventRight : laws_FnExactEventRight.Pure := by
  intro a0 a1 a2 a3 a4 a5 s l a8 _ _ _ _ _ _ hs ⟨hl, _⟩ _
  refine Ev.rounds (g := fun k => laws_FnExactEventRight.f k a0 a1 a2 a3 a4 a5 s l a8) ?_
  unfold laws_FnExactEventRight.f
  refine Ev.take (szEvent_eq a0 a1 a2 a3 a4 a5 s l a8 _ (by omega) (by omega) hs hl) ?_
  by_cases c : (1048576 : Int) < s.size + l.length
  · rw [if_pos c]; exact Ev.pos (by omega) (Ev.now _)
  · rw [if_neg c]; refine Ev.neg (by omega) ?_
    have tE := toEvent_ev a0 a1 a2 a3 a4 a5 s l a8 (by omega)
    refine Ev.bind tE (Ev.bind (spec_EventRight_ev _ _ _ _ _ _ _ _ _ (by first | omega | (simp only []; omega))) (Ev.bind tE (Ev.bind (impl_EventRight_ev _ _ _ _ _ _ _ _ _ (by first | omega | (simp only []; omega))) ?_)))
    exact Ev.neg (by simp) (Ev.bind tE (Ev.bind (eqEvent_ev _ _ _ _ _ _ _ _ _ (by first | omega | (simp only []; omega))) (Ev.pos rfl (Ev.now _))))

end Go.Proofs.Ytjijknajgamdaaa.Pure
