/- The statement FnExactAheadOf holds: what stands behind what in the program's graphs is what stands behind what in the reference's, for all arguments that the statement takes. -/
import Derived.Test.YthpclkkkpponkaaLemAO
namespace Go.Proofs.Ythpclkkkpponkaa.Pure
open Go.RowKit Go.Proofs.Ythpclkkkpponkaa.Print Go.Proofs.YthpclkkkpponkaaW.PrintWords Go.Proofs.YthpclkkkpponkaaW.PrintLast

theorem FnExactAheadOf : laws_FnExactAheadOf.Pure := by
  intro a l m x y _ hl hm _ _
  refine Ev.rounds (g := fun k => laws_FnExactAheadOf.f k a l m x y) ?_
  have okl : ∀ x ∈ l, x.f6.size ≤ 9223372036854775807 ∧ x.f7.length ≤ 9223372036854775807 := fun x hx => by
    have h := hl.2 x hx
    exact ⟨h.2.2.2.2.2.2.1, h.2.2.2.2.2.2.2.1.1⟩
  have okm : ∀ x ∈ m, x.f6.size ≤ 9223372036854775807 ∧ x.f7.length ≤ 9223372036854775807 := fun x hx => by
    have h := hm.2 x hx
    exact ⟨h.2.2.2.2.2.2.1, h.2.2.2.2.2.2.2.1.1⟩
  obtain ⟨r1, e1, b1, f1⟩ := szEventS_ev l hl.1 okl 1048576 (by omega) (by omega)
  unfold laws_FnExactAheadOf.f laws_szGraph.f
  by_cases c1 : r1 < 0
  · exact Ev.bind (a := (-1 : Int)) (Ev.bind e1 (Ev.pos c1 (Ev.now _))) (Ev.pos (by omega) (Ev.now _))
  obtain ⟨r2, e2, b2, f2⟩ := szEventS_ev m hm.1 okm r1 (by omega) b1
  by_cases c2 : r2 < 0
  · exact Ev.bind (a := (-1 : Int)) (Ev.bind e1 (Ev.neg c1 (Ev.bind e2 (Ev.pos c2 (Ev.now _))))) (Ev.pos (by omega) (Ev.now _))
  refine Ev.bind (a := r2) (Ev.bind e1 (Ev.neg c1 (Ev.bind e2 (Ev.neg c2 (Ev.now _))))) (Ev.neg c2 ?_)
  obtain ⟨hl1, hl2⟩ := f1 (by omega)
  obtain ⟨hm1, hm2⟩ := f2 (by omega)
  have hT := toGraph_ev a l m hl1 hl2 hm1 hm2
  have q1 : ∀ x ∈ l.map mkE, x.f7.length ≤ 9223372036854775806 := by
    intro x hx
    obtain ⟨y, hy, rfl⟩ := List.mem_map.1 hx
    have := hl2 y hy
    show y.f7.length ≤ _
    omega
  have q2 : ∀ x ∈ m.map mkE, x.f7.length ≤ 9223372036854775806 := by
    intro x hx
    obtain ⟨y, hy, rfl⟩ := List.mem_map.1 hx
    have := hm2 y hy
    show y.f7.length ≤ _
    omega
  have n1 : (l.map mkE).length ≤ 4611686018427387903 := by rw [List.length_map]; omega
  have n2 : (m.map mkE).length ≤ 9223372036854775806 := by rw [List.length_map]; omega
  have hok : ∀ x ∈ l.map mkE, ok64 x.f0 := by
    intro x hx
    obtain ⟨y, hy, rfl⟩ := List.mem_map.1 hx
    exact (hl.2 y hy).1
  obtain ⟨r, s1, s2⟩ := AheadOf_both a (l.map mkE) (m.map mkE) x y n1 n2 q1 q2 hok
  refine Ev.bind hT (Ev.bind s1 (Ev.bind hT (Ev.bind s2 (Ev.neg (by simp) (Ev.bind hT (Ev.bind (eqGraph_ev a (l.map mkE) (m.map mkE) (by omega) q1 n2 q2) (Ev.pos rfl (Ev.now _))))))))

end Go.Proofs.Ythpclkkkpponkaa.Pure
