/- The statement FnExactSessionRight holds: SessionRight of the program answers as the reference's, for all arguments that the statement takes. -/
import Derived.Test.YtahkcifbclloiaaDoorLemSR
namespace Go.Proofs.YtahkcifbclloiaaDoor.Pure
open Go.RowKit Go.Proofs.YtahkcifbclloiaaDoor.Print Go.Proofs.YtahkcifbclloiaaDoorW.PrintWords Go.Proofs.YtahkcifbclloiaaDoorW.PrintLast

theorem FnExactSessionRight : laws_FnExactSessionRight.Pure := by
  intro a t la _ ht ⟨hla, _⟩
  refine Ev.rounds (g := fun k => laws_FnExactSessionRight.f k a t la) ?_
  unfold laws_FnExactSessionRight.f
  have hw : wrap64 ((1048576 : Int) - (t.size : Int)) = (1048576 : Int) - (t.size : Int) := w64 (by omega) (by omega)
  by_cases c1 : (1048576 : Int) - (t.size : Int) < 0
  · have hs : laws_szSession.f a t la 1048576 = some (-1) := by unfold laws_szSession.f; rw [hw, if_pos c1]
    exact Ev.take hs (Ev.pos (by omega) (Ev.now _))
  · by_cases c2 : (1048576 : Int) - (t.size : Int) < la.length
    · have hs : laws_szSession.f a t la 1048576 = some (-1) := by
        unfold laws_szSession.f
        rw [hw, if_neg c1, szEntryS_eq la _ (by omega) (by omega) hla, if_pos c2]
        simp only [Option.bind_some]
        rw [if_pos (by omega)]
      exact Ev.take hs (Ev.pos (by omega) (Ev.now _))
    · have hs : laws_szSession.f a t la 1048576 = some ((1048576 : Int) - (t.size : Int) - la.length) := by
        unfold laws_szSession.f
        rw [hw, if_neg c1, szEntryS_eq la _ (by omega) (by omega) hla, if_neg c2]
        simp only [Option.bind_some]
        rw [if_neg (by omega)]
      refine Ev.take hs (Ev.neg (by omega) ?_)
      have tS := toSession_ev a t la (by omega)
      have hL : (la.map toEn).length ≤ 9223372036854775806 := by rw [List.length_map]; omega
      obtain ⟨r, s1, i1⟩ := session_ev a t (la.map toEn) (by omega) hL
      exact Ev.bind tS (Ev.bind s1 (Ev.bind tS (Ev.bind i1 (Ev.neg (by cases r <;> decide) (Ev.bind tS (Ev.bind (eqSession_ev a t _ hL) (Ev.pos rfl (Ev.now _))))))))

end Go.Proofs.YtahkcifbclloiaaDoor.Pure
