/- The statement FnExactSpansBytes holds: the program's SpansBytes returns what the reference's returns, for every range set that the statement takes. -/
import Derived.Test.YtibdkoepmejgdaaLemSB
namespace Go.Proofs.Ytibdkoepmejgdaa.Pure
open Go.RowKit Go.Proofs.Ytibdkoepmejgdaa.Print Go.Proofs.YtibdkoepmejgdaaW.PrintWords Go.Proofs.YtibdkoepmejgdaaW.PrintLast

theorem FnExactSpansBytes : laws_FnExactSpansBytes.Pure := by
  intro l ⟨hl, _⟩
  refine Ev.rounds (g := fun k => laws_FnExactSpansBytes.f k l) ?_
  unfold laws_FnExactSpansBytes.f
  refine Ev.take (szSpanS_eq l _ (by omega) (by omega) hl) ?_
  by_cases c : (1048576 : Int) < l.length
  · rw [if_pos c]; exact Ev.pos (by omega) (Ev.now _)
  · rw [if_neg c]; refine Ev.neg (by omega) ?_
    have hm : (l.map toSp).length ≤ 1048576 := by simp; omega
    refine Ev.bind (toSpanS_ev l (by omega)) (Ev.bind (spec_SB_ev _ (by omega)) (Ev.bind (toSpanS_ev l (by omega)) (Ev.bind (impl_SB_ev _ (by omega)) ?_)))
    exact Ev.pos rfl (Ev.bind (toSpanS_ev l (by omega)) (Ev.bind (eqSpanS_ev _ (by omega)) (Ev.pos rfl (Ev.now _))))

end Go.Proofs.Ytibdkoepmejgdaa.Pure
