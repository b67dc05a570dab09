/- The statement FnSpans holds: drawn range sets hold their numbers, come back from their bytes, and are joined and lessened rightly, for all arguments that the statement takes. -/
import Derived.Test.YtepbkhgffjinjaaLemFf
import Derived.Test.YtepbkhgffjinjaaPrint21
namespace Go.Proofs.Ytepbkhgffjinjaa.Pure
open Go.RowKit Go.Proofs.Ytepbkhgffjinjaa.Print Go.Proofs.YtepbkhgffjinjaaW.PrintWords Go.Proofs.YtepbkhgffjinjaaW.PrintLast

theorem l1_ev (a b : List Sp) (ha : a.length ≤ 6) (hb : b.length ≤ 6) (d : Nat) : ∀ i : Nat, i + d = 40 → Ev (fun k => laws_FnSpans.l1 k a b (spJoin a b) (spLess a b) (i : Int)) true := by
 have stop : ∀ i : Int, Ev (fun k => laws_FnSpans.j7 k a b (spJoin a b) (spLess a b) i false) true := fun i => Ev.one fun k => by simp only [laws_FnSpans.j7]; rw [if_neg (by simp)]
 induction d with
 | zero =>
  intro i hi
  refine Ev.step (f := fun k => laws_FnSpans.l1 (k + 1) a b (spJoin a b) (spLess a b) (i : Int)) (fun k => rfl) ?_
  simp only [laws_FnSpans.l1]
  exact Ev.neg (by omega) (stop _)
 | succ d ih =>
  intro i hi
  refine Ev.step (f := fun k => laws_FnSpans.l1 (k + 1) a b (spJoin a b) (spLess a b) (i : Int)) (fun k => rfl) ?_
  simp only [laws_FnSpans.l1]
  refine Ev.pos (by omega) (Ev.bind (spec_SR_ev a (by omega)) ?_)
  by_cases ca : spRight a = true
  ·
   refine Ev.pos ca (Ev.bind (spec_SR_ev b (by omega)) ?_)
   by_cases cb : spRight b = true
   ·
    rw [cb]
    have A := spec_InSpans_ev a (i : Int) (by omega)
    have B := spec_InSpans_ev b (i : Int) (by omega)
    have J := impl_InSpans_ev (spJoin a b) (i : Int) (by have := (spRight_facts (spJoin_ok a b).1).1; omega)
    have D := impl_InSpans_ev (spLess a b) (i : Int) (by have := (spRight_facts (spLess_ok a b)).1; omega)
    rw [ca, Bool.true_and] at A
    rw [cb, Bool.true_and] at B
    rw [(spJoin_ok a b).1, Bool.true_and, (spJoin_ok a b).2 ca cb (by omega)] at J
    rw [spLess_ok, Bool.true_and, spLess_in a b ca cb ha hb] at D
    generalize spIn a (i : Int) = p at A J D
    generalize spIn b (i : Int) = q at B J D
    have n := ih (i + 1) (by omega)
    rw [show (((i + 1 : Nat)) : Int) = wrap64 ((i : Int) + 1) from by unfold wrap64; omega] at n
    refine Ev.step (f := fun k => laws_FnSpans.j7 (k + 1) a b (spJoin a b) (spLess a b) (i : Int) true) (fun k => rfl) ?_
    simp only [laws_FnSpans.j7]
    refine Ev.pos (by first | rfl | trivial) (Ev.bind A (Ev.bind B (Ev.bind J ?_)))
    cases p <;> cases q
    ·
     exact Ev.neg (by simp) (Ev.neg (by simp) (Ev.bind D (Ev.neg (by simp) n)))
    ·
     exact Ev.neg (by simp) (Ev.neg (by simp) (Ev.bind D (Ev.neg (by simp) n)))
    ·
     exact Ev.pos (by first | rfl | trivial) (Ev.neg (by simp) (Ev.bind D (Ev.neg (by simp) n)))
    ·
     exact Ev.pos (by first | rfl | trivial) (Ev.neg (by simp) (Ev.bind D (Ev.neg (by simp) n)))
   ·
    rw [show spRight b = false by simpa using cb]; exact stop _
  ·
   exact Ev.neg ca (stop _)
theorem l0_ev (ids : List Int) (x a b : List Sp) (hn : ids.length ≤ 13) (hx : x.length ≤ 400) (h : ∀ y ∈ ids, (spRight x && spIn x y) = true) (ha : a.length ≤ 6) (hb : b.length ≤ 6) (d : Nat) : ∀ i : Nat, i + d = ids.length → Ev (fun k => laws_FnSpans.l0 k ids x a b (spJoin a b) (spLess a b) (i : Int)) true := by
 induction d with
 | zero =>
  intro i hi
  refine Ev.step (f := fun k => laws_FnSpans.l0 (k + 1) ids x a b (spJoin a b) (spLess a b) (i : Int)) (fun k => rfl) ?_
  simp only [laws_FnSpans.l0]
  refine Ev.neg (by omega) (Ev.step (f := fun k => laws_FnSpans.j5 (k + 1) a b (spJoin a b) (spLess a b)) (fun k => rfl) ?_)
  simp only [laws_FnSpans.j5]
  exact l1_ev a b ha hb 40 0 rfl
 | succ d ih =>
  intro i hi
  have hlt : i < ids.length := by omega
  refine Ev.step (f := fun k => laws_FnSpans.l0 (k + 1) ids x a b (spJoin a b) (spLess a b) (i : Int)) (fun k => rfl) ?_
  simp only [laws_FnSpans.l0]
  rw [rd_at hlt, show wrap64 ((i : Int) + 1) = ((i + 1 : Nat) : Int) from by unfold wrap64; omega]
  refine Ev.pos (by omega) (Ev.pos (by omega) (Ev.bind (impl_InSpans_ev x ids[i] (by omega)) (Ev.pos (h _ (List.getElem_mem hlt)) ?_)))
  exact ih (i + 1) (by omega)
theorem j2_ev (ids : List Int) (a b : List Sp) (hn : ids.length ≤ 13) (ha : a.length ≤ 6) (hb : b.length ≤ 6) : Ev (fun k => laws_FnSpans.j2 k ids (spansOf ids) a b (spJoin a b) (spLess a b) false) true := by
 have rx := (spansOf_ok ids).1
 have rj := (spJoin_ok a b).1
 have rd' := spLess_ok a b
 have lx := (spRight_facts rx).1
 have lj := (spRight_facts rj).1
 have ld := (spRight_facts rd').1
 refine Ev.step (f := fun k => laws_FnSpans.j2 (k + 1) ids (spansOf ids) a b (spJoin a b) (spLess a b) false) (fun k => rfl) ?_
 simp only [laws_FnSpans.j2]
 refine Ev.neg (by simp) (Ev.bind (impl_SR_ev _ (by omega)) (Ev.pos rx (Ev.bind (impl_SR_ev _ (by omega)) (Ev.pos rj (Ev.bind (impl_SR_ev _ (by omega)) ?_)))))
 rw [rd']
 refine Ev.step (f := fun k => laws_FnSpans.j3 (k + 1) ids (spansOf ids) a b (spJoin a b) (spLess a b) false) (fun k => rfl) ?_
 simp only [laws_FnSpans.j3]
 refine Ev.neg (by simp) ?_
 by_cases c : ((spansOf ids).length : Int) > 0
 ·
  refine Ev.pos c (l0_ev ids _ a b hn lx (fun y hy => ?_) ha hb ids.length 0 (by omega))
  rw [rx, (spansOf_ok ids).2 (fun e => by rw [e] at c; exact absurd c (by decide)) y hy]; rfl
 ·
  refine Ev.neg c (Ev.step (f := fun k => laws_FnSpans.j5 (k + 1) a b (spJoin a b) (spLess a b)) (fun k => rfl) ?_)
  simp only [laws_FnSpans.j5]
  exact l1_ev a b ha hb 40 0 rfl
theorem j1_ev (ids : List Int) (a b L : List Sp) (u : ByteArray) (R : SpO) (hn : ids.length ≤ 13) (ha : a.length ≤ 6) (hb : b.length ≤ 6) (hL : L.length ≤ 6) (h1 : R.1.length ≤ 401) (h2 : R.2 = 0 → (spBytes R.1).toList = u.toList) :
  Ev (fun k => laws_FnSpans.j1 k ids (spansOf ids) a b (spJoin a b) (spLess a b) L (spBytes L) u false R.1 R.2) true := by
 have n := j2_ev ids a b hn ha hb
 have back : ¬ (spBytes L).toList = ([] : List UInt8) → Ev (fun k => (impl_SpansRead.f k (spBytes L)).bind fun bt663 => ((laws_lwSpans.f k bt663.1 L).bind fun t667 => (laws_FnSpans.j2 k ids (spansOf ids) a b (spJoin a b) (spLess a b) (!t667)))) true := fun h => Ev.bind (spans_back h) (Ev.bind (lwSpans_ev L (by omega)) n)
 refine Ev.step (f := fun k => laws_FnSpans.j1 (k + 1) ids (spansOf ids) a b (spJoin a b) (spLess a b) L (spBytes L) u false R.1 R.2) (fun k => rfl) ?_
 simp only [laws_FnSpans.j1]
 refine Ev.neg (by simp) ?_
 by_cases c : R.2 = 0
 ·
  refine Ev.pos c (Ev.bind (impl_SB_ev R.1 (by omega)) (Ev.pos (h2 c) ?_))
  by_cases e : (spBytes L).toList = ([] : List UInt8)
  ·
   exact Ev.pos e n
  ·
   exact Ev.neg e (back e)
 ·
  refine Ev.neg c ?_
  by_cases e : (spBytes L).toList = ([] : List UInt8)
  ·
   exact Ev.pos e n
  ·
   exact Ev.neg e (back e)
theorem FnSpans : laws_FnSpans.Pure := by
 intro l0 l1 h1 h2 h3 h4 h5 h6
 refine Ev.rounds (g := fun k => laws_FnSpans.f k l0 l1) ?_
 have out : Ev (fun k => laws_FnSpans.j0 k l0 l1 true) true := Ev.one fun k => by simp only [laws_FnSpans.j0]; rw [if_pos (by first | rfl | trivial)]
 unfold laws_FnSpans.f
 by_cases c0 : (l0.length : Int) > 1048576
 ·
  exact Ev.pos c0 out
 refine Ev.neg c0 ?_
 by_cases c1 : (l1.length : Int) > 1048576
 ·
  rw [decide_eq_true c1]; exact out
 rw [decide_eq_false c1]
 obtain ⟨ids, e1, n1⟩ := DrawSpansOf_ev l0 (by omega)
 obtain ⟨a, b, e2, na, nb⟩ := DrawSpansJoin_ev l1 (by omega)
 obtain ⟨L, e3, nL⟩ := DrawSpansBytes_ev l0 (by omega)
 obtain ⟨u, e4⟩ := DrawSpansRead_ev l1 (by omega)
 obtain ⟨R, ⟨hR1, hR2⟩, e5, e6⟩ := spansRead_both u
 obtain ⟨q, m, e7, nq⟩ := DrawInSpans_ev l0 (by omega)
 have lx := (spRight_facts (spansOf_ok ids).1).1
 have lj := (spRight_facts (spJoin_ok a b).1).1
 have ld := (spRight_facts (spLess_ok a b)).1
 refine Ev.step (f := fun k => laws_FnSpans.j0 (k + 1) l0 l1 false) (fun k => rfl) ?_
 simp only [laws_FnSpans.j0]
 refine Ev.neg (by simp) (Ev.bind e1 (Ev.bind (impl_SpansOf_ev ids (by omega)) (Ev.bind e2 (Ev.bind (impl_SpansJoin_ev a b (by omega) (by omega)) (Ev.bind (impl_SpansLess_ev a b (by omega) (by omega)) (Ev.bind e3 (Ev.bind (impl_SB_ev L (by omega)) (Ev.bind e4 (Ev.bind e6 (Ev.bind e5 (Ev.bind e7 ?_)))))))))))
 refine Ev.bind (spec_SpansOf_ev ids (by omega)) (Ev.bind (lwSpans_ev _ (by omega)) (Ev.pos (by first | rfl | trivial) ?_))
 refine Ev.bind (spec_SpansJoin_ev a b (by omega) (by omega)) (Ev.bind (lwSpans_ev _ (by omega)) (Ev.pos (by first | rfl | trivial) ?_))
 refine Ev.bind (spec_SpansLess_ev a b (by omega) (by omega)) (Ev.bind (lwSpans_ev _ (by omega)) (Ev.pos (by first | rfl | trivial) ?_))
 refine Ev.bind (spec_SB_ev L (by omega)) (Ev.pos (by first | rfl | trivial) (Ev.pos (by first | rfl | trivial) (Ev.bind (lwSpans_ev _ (by omega)) (Ev.pos (by first | rfl | trivial) ?_))))
 refine Ev.bind (impl_InSpans_ev q m (by omega)) (Ev.bind (spec_InSpans_ev q m (by omega)) (Ev.neg (by simp) (Ev.bind (impl_SR_ev L (by omega)) (Ev.bind (spec_SR_ev L (by omega)) ?_))))
 rw [bne_self_eq_false]
 exact j1_ev ids a b L u R n1 na nb nL hR1 hR2

end Go.Proofs.Ytepbkhgffjinjaa.Pure
