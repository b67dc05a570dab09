/- The statement FnExactScriptFault holds: the program's ScriptFault returns what the reference's returns, for every text; no other condition. -/
import Derived.Test.YtloknnlmflamgaaDoorLemSF
namespace Go.Proofs.YtloknnlmflamgaaDoor.Pure
open Go.RowKit Go.Proofs.YtloknnlmflamgaaDoor.Print Go.Proofs.YtloknnlmflamgaaDoorW.PrintWords Go.Proofs.YtloknnlmflamgaaDoorW.PrintLast

theorem FnExactScriptFault : laws_FnExactScriptFault.Pure := by
  intro t _
  refine Ev.rounds (g := fun k => laws_FnExactScriptFault.f k t) ?_
  unfold laws_FnExactScriptFault.f
  by_cases c : (t.size : Int) > 1048576
  · exact Ev.pos c (Ev.now _)
  · obtain ⟨⟨a, b, q⟩, hS, hI⟩ := scriptFault_both t
    refine Ev.neg c (Ev.bind hS (Ev.bind hI (Ev.take (a := true) ?_ (Ev.pos rfl (Ev.now _)))))
    unfold laws_eqScriptOut.f
    rw [if_pos rfl, if_pos rfl, if_pos rfl]

end Go.Proofs.YtloknnlmflamgaaDoor.Pure
