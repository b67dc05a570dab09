/- The statement FnExactStateAt holds: StateAt of the program answers as the reference's, for all arguments that the statement takes. -/
import Derived.Test.YtjijknajgamdaaaLemEn1
namespace Go.Proofs.Ytjijknajgamdaaa.Pure
open Go.RowKit Go.Proofs.Ytjijknajgamdaaa.Print Go.Proofs.YtjijknajgamdaaaW.PrintWords Go.Proofs.YtjijknajgamdaaaW.PrintLast

theorem FnExactStateAt : laws_FnExactStateAt.Pure := by
  intro l a b ⟨hl, _⟩ _ _
  refine Ev.rounds (g := fun k => laws_FnExactStateAt.f k l a b) ?_
  unfold laws_FnExactStateAt.f
  refine Ev.take (szEntryS_eq l _ (by omega) (by omega) hl) ?_
  by_cases c : (1048576 : Int) < l.length
  · rw [if_pos c]; exact Ev.pos (by omega) (Ev.now _)
  · rw [if_neg c]; refine Ev.neg (by omega) ?_
    have hm : (l.map toEn).length ≤ 1048576 := by simp; omega
    refine Ev.bind (toEntryS_ev l (by omega)) (Ev.bind (spec_StateAt_ev _ _ _ (by omega)) (Ev.bind (toEntryS_ev l (by omega)) (Ev.bind (impl_StateAt_ev _ _ _ (by omega)) ?_)))
    refine Ev.pos rfl (Ev.bind (toEntryS_ev l (by omega)) (Ev.bind (eqEntryS_ev _ (by omega)) (Ev.pos rfl (Ev.now _))))

end Go.Proofs.Ytjijknajgamdaaa.Pure
