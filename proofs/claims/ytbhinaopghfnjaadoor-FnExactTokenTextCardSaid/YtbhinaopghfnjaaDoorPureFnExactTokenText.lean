/- The statement FnExactTokenText holds: TokenText of the program answers as the reference's. -/
import Derived.Test.YtbhinaopghfnjaaDoorLemTok
namespace Go.Proofs.YtbhinaopghfnjaaDoor.Pure
open Go.RowKit Go.Proofs.YtbhinaopghfnjaaDoor.Print Go.Proofs.YtbhinaopghfnjaaDoorW.PrintWords Go.Proofs.YtbhinaopghfnjaaDoorW.PrintLast

theorem FnExactTokenText : laws_FnExactTokenText.Pure := by
  intro a p _ _
  refine Ev.rounds (g := fun k => laws_FnExactTokenText.f k a p) ?_
  unfold laws_FnExactTokenText.f
  exact Ev.bind (spec_tok_ev a p) (Ev.bind (impl_tok_ev a p) (Ev.pos rfl (Ev.now _)))

end Go.Proofs.YtbhinaopghfnjaaDoor.Pure
