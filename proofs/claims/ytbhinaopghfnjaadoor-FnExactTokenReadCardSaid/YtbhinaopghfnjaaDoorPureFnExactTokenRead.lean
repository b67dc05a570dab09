/- The statement FnExactTokenRead holds: TokenRead of the program answers as the reference's. -/
import Derived.Test.YtbhinaopghfnjaaDoorLemTok
namespace Go.Proofs.YtbhinaopghfnjaaDoor.Pure
open Go.RowKit Go.Proofs.YtbhinaopghfnjaaDoor.Print Go.Proofs.YtbhinaopghfnjaaDoorW.PrintWords Go.Proofs.YtbhinaopghfnjaaDoorW.PrintLast

theorem FnExactTokenRead : laws_FnExactTokenRead.Pure := by
  intro a t _ ht
  refine Ev.rounds (g := fun k => laws_FnExactTokenRead.f k a t) ?_
  unfold laws_FnExactTokenRead.f
  by_cases c : (t.size : Int) > 1048576
  · exact Ev.pos c (Ev.now _)
  · obtain ⟨r, h1, h2⟩ := tokread_ev a t (by omega)
    exact Ev.neg c (Ev.bind h1 (Ev.take h2 (Ev.take (eqNumOut_self _ _ _) (Ev.pos rfl (Ev.now _)))))

end Go.Proofs.YtbhinaopghfnjaaDoor.Pure
