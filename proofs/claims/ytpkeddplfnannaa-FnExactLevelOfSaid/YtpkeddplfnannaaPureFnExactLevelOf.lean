/- The statement FnExactLevelOf holds: LevelOf of the program answers as the reference's, for all arguments that the statement takes. -/
import Derived.Test.YtpkeddplfnannaaLemSO
namespace Go.Proofs.Ytpkeddplfnannaa.Pure
open Go.RowKit Go.Proofs.Ytpkeddplfnannaa.Print Go.Proofs.YtpkeddplfnannaaW.PrintWords Go.Proofs.YtpkeddplfnannaaW.PrintLast

theorem FnExactLevelOf : laws_FnExactLevelOf.Pure := by
  intro a l m s u _ hl hm hs _
  refine Ev.rounds (g := fun k => laws_FnExactLevelOf.f k a l m s u) ?_
  have okl : ∀ x ∈ l, x.f6.size ≤ 9223372036854775807 ∧ x.f7.length ≤ 9223372036854775807 := fun x hx => by
    have h := hl.2 x hx
    exact ⟨h.2.2.2.2.2.2.1, h.2.2.2.2.2.2.2.1.1⟩
  have okm : ∀ x ∈ m, x.f6.size ≤ 9223372036854775807 ∧ x.f7.length ≤ 9223372036854775807 := fun x hx => by
    have h := hm.2 x hx
    exact ⟨h.2.2.2.2.2.2.1, h.2.2.2.2.2.2.2.1.1⟩
  obtain ⟨r1, e1, b1, f1⟩ := szEventS_ev l hl.1 okl 1048576 (by omega) (by omega)
  unfold laws_FnExactLevelOf.f laws_szGraph.f
  by_cases c1 : r1 < 0
  · exact Ev.bind (a := (-1 : Int)) (Ev.bind e1 (Ev.pos c1 (Ev.now _))) (Ev.pos (by omega) (Ev.now _))
  obtain ⟨r2, e2, b2, f2⟩ := szEventS_ev m hm.1 okm r1 (by omega) b1
  by_cases c2 : r2 < 0
  · exact Ev.bind (a := (-1 : Int)) (Ev.bind e1 (Ev.neg c1 (Ev.bind e2 (Ev.pos c2 (Ev.now _))))) (Ev.pos (by omega) (Ev.now _))
  refine Ev.bind (a := r2) (Ev.bind e1 (Ev.neg c1 (Ev.bind e2 (Ev.neg c2 (Ev.now _))))) (Ev.neg c2 ?_)
  obtain ⟨hl1, hl2⟩ := f1 (by omega)
  obtain ⟨hm1, hm2⟩ := f2 (by omega)
  have hT := toGraph_ev a l m hl1 hl2 hm1 hm2
  refine Ev.take (szEntryS_eq s r2 (by omega) (by omega) hs.1) ?_
  by_cases c : r2 < s.length
  · rw [if_pos c]; exact Ev.pos (by omega) (Ev.now _)
  rw [if_neg c]; refine Ev.neg (by omega) ?_
  have hsl : (s.map toEn).length ≤ 1048576 := by rw [List.length_map]; omega
  have hS := toEntryS_ev s (by omega)
  have q1 : ∀ x ∈ l.map mkE, x.f7.length ≤ 9223372036854775806 := by
    intro x hx
    obtain ⟨y, hy, rfl⟩ := List.mem_map.1 hx
    have := hl2 y hy
    show y.f7.length ≤ _
    omega
  have q2 : ∀ x ∈ m.map mkE, x.f7.length ≤ 9223372036854775806 := by
    intro x hx
    obtain ⟨y, hy, rfl⟩ := List.mem_map.1 hx
    have := hm2 y hy
    show y.f7.length ≤ _
    omega
  have n1 : (l.map mkE).length ≤ 4611686018427387903 := by rw [List.length_map]; omega
  have n2 : (m.map mkE).length ≤ 9223372036854775806 := by rw [List.length_map]; omega
  refine Ev.bind hT (Ev.bind hS (Ev.bind (spec_LevelOf_ev a (l.map mkE) (m.map mkE) (s.map toEn) u (by omega) n2 q1 q2 (by omega)) (Ev.bind hT (Ev.bind hS (Ev.bind (impl_LevelOf_ev a (l.map mkE) (m.map mkE) (s.map toEn) u (by omega) n2 q1 q2 (by omega)) (Ev.pos rfl (Ev.bind hT (Ev.bind (eqGraph_ev a (l.map mkE) (m.map mkE) (by omega) q1 n2 q2) (Ev.pos rfl ?_)))))))))
  exact Ev.bind hS (Ev.bind (eqEntryS_ev _ (by omega)) (Ev.pos rfl (Ev.now _)))

end Go.Proofs.Ytpkeddplfnannaa.Pure
