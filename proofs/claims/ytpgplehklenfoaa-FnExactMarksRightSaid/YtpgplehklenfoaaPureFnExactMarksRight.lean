/- The statement FnExactMarksRight holds: MarksRight of the program answers as the reference's, for all arguments that the statement takes. -/
import Derived.Test.YtpgplehklenfoaaLemMa1
namespace Go.Proofs.Ytpgplehklenfoaa.Pure
open Go.RowKit Go.Proofs.Ytpgplehklenfoaa.Print Go.Proofs.YtpgplehklenfoaaW.PrintWords Go.Proofs.YtpgplehklenfoaaW.PrintLast

theorem FnExactMarksRight : laws_FnExactMarksRight.Pure := by
  intro u l _ ⟨hl, _⟩
  refine Ev.rounds (g := fun k => laws_FnExactMarksRight.f k u l) ?_
  unfold laws_FnExactMarksRight.f
  refine Ev.take (szMarks_eq u l _ (by omega) (by omega) hl) ?_
  by_cases c : (1048576 : Int) < l.length
  · rw [if_pos c]; exact Ev.pos (by omega) (Ev.now _)
  · rw [if_neg c]; refine Ev.neg (by omega) ?_
    have tM : Ev (fun k => laws_toMarks.f k u l) (u, l) := by unfold laws_toMarks.f; exact Ev.bind (toInt64S_ev l (by omega)) (Ev.now _)
    have eM : Ev (fun k => laws_eqMarks.f k u l u l) true := by unfold laws_eqMarks.f; exact Ev.pos rfl (Ev.bind (eqInt64S_ev l (by omega)) (Ev.pos rfl (Ev.now _)))
    refine Ev.bind tM (Ev.bind (spec_MarksRight_ev u l (by omega)) (Ev.bind tM (Ev.bind (impl_MarksRight_ev u l (by omega)) ?_)))
    exact Ev.neg (by simp) (Ev.bind tM (Ev.bind eM (Ev.pos rfl (Ev.now _))))

end Go.Proofs.Ytpgplehklenfoaa.Pure
