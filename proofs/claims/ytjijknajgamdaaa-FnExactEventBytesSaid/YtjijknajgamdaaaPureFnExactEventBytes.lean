/- The statement FnExactEventBytes holds: EventBytes of the program answers as the reference's, for all arguments that the statement takes. -/
import Derived.Test.YtjijknajgamdaaaLemEv1
namespace Go.Proofs.Ytjijknajgamdaaa.Pure
open Go.RowKit Go.Proofs.Ytjijknajgamdaaa.Print Go.Proofs.YtjijknajgamdaaaW.PrintWords Go.Proofs.YtjijknajgamdaaaW.PrintLast

theorem FnExactEventBytes : laws_FnExactEventBytes.Pure := by
  intro a0 a1 a2 a3 a4 a5 s l a8 w0 w1 w2 w3 w4 w5 hs ⟨hl, hw⟩ w8
  refine Ev.rounds (g := fun k => laws_FnExactEventBytes.f k a0 a1 a2 a3 a4 a5 s l a8) ?_
  unfold laws_FnExactEventBytes.f
  refine Ev.take (szEvent_eq a0 a1 a2 a3 a4 a5 s l a8 _ (by omega) (by omega) hs hl) ?_
  by_cases c : (1048576 : Int) < s.size + l.length
  · rw [if_pos c]; exact Ev.pos (by omega) (Ev.now _)
  · rw [if_neg c]; refine Ev.neg (by omega) ?_
    have tE := toEvent_ev a0 a1 a2 a3 a4 a5 s l a8 (by omega)
    have hs2 : s.size ≤ 1048576 := by omega
    have hn2 : l.length ≤ 1048576 := by omega
    have hl2 : ∀ x ∈ l, i64r x := fun x hx => wfi64 (hw x hx)
    refine Ev.bind tE (Ev.bind (spec_EB_ev a0 a1 a2 a3 a4 a5 s l a8 (wfi64 w0) (wfi64 w1) (wfi64 w2) (wfi64 w3) (wfi64 w4) (wfi64 w5) hs2 hl2 hn2 (wfi64 w8)) (Ev.bind tE (Ev.bind (impl_EB_ev a0 a1 a2 a3 a4 a5 s l a8 (wfi64 w0) (wfi64 w1) (wfi64 w2) (wfi64 w3) (wfi64 w4) (wfi64 w5) hs2 hl2 hn2 (wfi64 w8)) ?_)))
    exact Ev.pos rfl (Ev.bind tE (Ev.bind (eqEvent_ev a0 a1 a2 a3 a4 a5 s l a8 (by omega)) (Ev.pos rfl (Ev.now _))))

end Go.Proofs.Ytjijknajgamdaaa.Pure
