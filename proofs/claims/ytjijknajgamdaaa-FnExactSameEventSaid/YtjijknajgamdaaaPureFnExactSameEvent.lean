/- The statement FnExactSameEvent holds: SameEvent of the program answers as the reference's, for all arguments that the statement takes. -/
import Derived.Test.YtjijknajgamdaaaLemEv1
namespace Go.Proofs.Ytjijknajgamdaaa.Pure
open Go.RowKit Go.Proofs.Ytjijknajgamdaaa.Print Go.Proofs.YtjijknajgamdaaaW.PrintWords Go.Proofs.YtjijknajgamdaaaW.PrintLast

theorem FnExactSameEvent : laws_FnExactSameEvent.Pure := by
  intro a0 a1 a2 a3 a4 a5 s l a8 b0 b1 b2 b3 b4 b5 t r b8 _ _ _ _ _ _ hs ⟨hl, _⟩ _ _ _ _ _ _ _ ht ⟨hr, _⟩ _
  refine Ev.rounds (g := fun k => laws_FnExactSameEvent.f k a0 a1 a2 a3 a4 a5 s l a8 b0 b1 b2 b3 b4 b5 t r b8) ?_
  unfold laws_FnExactSameEvent.f
  refine Ev.take (szEvent_eq a0 a1 a2 a3 a4 a5 s l a8 _ (by omega) (by omega) hs hl) ?_
  by_cases c : (1048576 : Int) < s.size + l.length
  · rw [if_pos c]; exact Ev.pos (by omega) (Ev.now _)
  · rw [if_neg c]; refine Ev.neg (by omega) ?_
    refine Ev.take (szEvent_eq b0 b1 b2 b3 b4 b5 t r b8 _ (by omega) (by omega) ht hr) ?_
    by_cases c2 : (1048576 : Int) - s.size - l.length < t.size + r.length
    · rw [if_pos c2]; exact Ev.pos (by omega) (Ev.now _)
    · rw [if_neg c2]; refine Ev.neg (by omega) ?_
      have tA := toEvent_ev a0 a1 a2 a3 a4 a5 s l a8 (by omega)
      have tB := toEvent_ev b0 b1 b2 b3 b4 b5 t r b8 (by omega)
      have hl2 : l.length ≤ 9223372036854775806 := by omega
      have hr2 : r.length ≤ 9223372036854775806 := by omega
      refine Ev.bind tA (Ev.bind tB (Ev.bind (spec_same_ev a0 a1 a2 a3 a4 a5 s l a8 b0 b1 b2 b3 b4 b5 t r b8 hl2) (Ev.bind tA (Ev.bind tB (Ev.bind (impl_same_ev a0 a1 a2 a3 a4 a5 s l a8 b0 b1 b2 b3 b4 b5 t r b8 hl2) ?_)))))
      exact Ev.neg (by simp) (Ev.bind tA (Ev.bind (eqEvent_ev a0 a1 a2 a3 a4 a5 s l a8 hl2) (Ev.pos rfl (Ev.bind tB (Ev.bind (eqEvent_ev b0 b1 b2 b3 b4 b5 t r b8 hr2) (Ev.pos rfl (Ev.now _)))))))

end Go.Proofs.Ytjijknajgamdaaa.Pure
