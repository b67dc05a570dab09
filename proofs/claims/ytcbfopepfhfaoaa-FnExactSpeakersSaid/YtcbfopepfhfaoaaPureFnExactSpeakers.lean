/- The statement FnExactSpeakers holds: Speakers of the program answers as the reference's, for all arguments that the statement takes. -/
import Derived.Test.YtcbfopepfhfaoaaLemSp
namespace Go.Proofs.Ytcbfopepfhfaoaa.Pure
open Go.RowKit Go.Proofs.Ytcbfopepfhfaoaa.Print Go.Proofs.YtcbfopepfhfaoaaW.PrintWords Go.Proofs.YtcbfopepfhfaoaaW.PrintLast

theorem FnExactSpeakers : laws_FnExactSpeakers.Pure := by
  intro a la l b c _ hla hl _
  refine Ev.rounds (g := fun k => laws_FnExactSpeakers.f k a la l b c) ?_
  have okl : ∀ x ∈ l, x.f0.f6.size ≤ 9223372036854775807 ∧ x.f0.f7.length ≤ 9223372036854775807 := fun x hx => by
    have h := (hl.2 x hx).1
    exact ⟨h.2.2.2.2.2.2.1, h.2.2.2.2.2.2.2.1.1⟩
  have e := szEntryS_eq la 1048576 (by omega) (by omega) hla.1
  unfold laws_FnExactSpeakers.f laws_szPart.f
  by_cases c0 : (1048576 : Int) < la.length
  · rw [if_pos c0] at e
    exact Ev.bind (a := (-1 : Int)) (Ev.take e (Ev.pos (by omega) (Ev.now _))) (Ev.pos (by omega) (Ev.now _))
  rw [if_neg c0] at e
  obtain ⟨r, e1, b1, f1⟩ := szShownS_ev l hl.1 okl (1048576 - (la.length : Int)) (by omega) (by omega)
  by_cases c1 : r < 0
  · exact Ev.bind (a := (-1 : Int)) (Ev.take e (Ev.neg (by omega) (Ev.bind e1 (Ev.pos c1 (Ev.now _))))) (Ev.pos (by omega) (Ev.now _))
  refine Ev.bind (a := r) (Ev.take e (Ev.neg (by omega) (Ev.bind e1 (Ev.neg c1 (Ev.now _))))) (Ev.neg c1 ?_)
  obtain ⟨hl1, hs⟩ := f1 (by omega)
  have hp : ∀ x ∈ l, x.f0.f7.length ≤ 1048576 := fun x hx => by have := sumP_mem l x hx; omega
  have hT : Ev (fun k => laws_toPart.f k a la l b c) (a, la.map toEn, l.map toSh, b, c) := by
    unfold laws_toPart.f
    exact Ev.bind (toEntryS_ev la (by omega)) (Ev.bind (toShownS_ev l hl1 hp) (Ev.now _))
  have n1 : (l.map toSh).length ≤ 1048576 := by rw [List.length_map]; omega
  have n2 : (la.map toEn).length ≤ 1048576 := by rw [List.length_map]; omega
  have q : ∀ x ∈ l.map toSh, x.f0.f7.length ≤ 9223372036854775806 := by
    intro x hx
    obtain ⟨y, hy, rfl⟩ := List.mem_map.1 hx
    have := hp y hy
    show y.f0.f7.length ≤ _
    omega
  have hS := spec_spk_ev a (la.map toEn) (l.map toSh) b c n1
  have hI := impl_spk_ev a (la.map toEn) (l.map toSh) b c n1
  have hlen := speak_len (l.map toSh)
  have hE := eqInt64S_ev (speak (l.map toSh)) (by omega)
  have hQ : Ev (fun k => laws_eqPart.f k a (la.map toEn) (l.map toSh) b c a (la.map toEn) (l.map toSh) b c) true := by
    unfold laws_eqPart.f
    exact Ev.pos rfl (Ev.bind (eqEntryS_ev _ (by omega)) (Ev.pos rfl (Ev.bind (eqShownS_ev _ (by omega) q) (Ev.pos rfl (Ev.neg (by simp) (Ev.pos rfl (Ev.now _)))))))
  obtain ⟨m, hM, hm0⟩ := markSh_ev (l.map toSh) (1 + 3 * ((la.map toEn).length : Int)) n1 (by rw [sumQ_map]; exact hs) (by omega) (by omega)
  have hP : Ev (fun k => laws_markPart.f k a (la.map toEn) (l.map toSh) b c 1) m := by
    unfold laws_markPart.f
    exact Ev.bind (markEn_ev _ 1 (by omega) (by omega) (by omega)) hM
  have hMk := markI_ev (speak (l.map toSh)) 1 (by omega) (by omega) (by omega)
  have hH := heldI_ev (speak (l.map toSh)) 1 (by omega) (by omega) (by omega)
  refine Ev.bind hT (Ev.bind hS (Ev.bind hT (Ev.bind hI (Ev.bind hE (Ev.pos rfl (Ev.bind hT (Ev.bind hQ (Ev.pos rfl (Ev.bind hP (Ev.neg (by omega) (Ev.bind hE ?_)))))))))))
  refine Ev.step (f := fun k => laws_FnExactSpeakers.j0 (k + 1) (speak (l.map toSh)) (speak (l.map toSh)) (!true) a la l b c) (fun k => rfl) ?_
  simp only [laws_FnExactSpeakers.j0]
  exact Ev.neg (by simp) (Ev.bind hMk (Ev.bind hH (Ev.neg (by omega) (Ev.pos rfl (Ev.bind hT (Ev.bind hI (Ev.bind hE (Ev.pos rfl (Ev.bind hH (Ev.neg (by omega) (Ev.pos rfl (Ev.now _))))))))))))

end Go.Proofs.Ytcbfopepfhfaoaa.Pure
