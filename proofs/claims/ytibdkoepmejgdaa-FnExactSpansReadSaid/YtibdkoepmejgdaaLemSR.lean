/- Lemmas: a range set, read. -/
import Derived.Test.YtibdkoepmejgdaaLemSR1
namespace Go.Proofs.Ytibdkoepmejgdaa.Print
open Go.RowKit Go.Proofs.YtibdkoepmejgdaaW.PrintWords Go.Proofs.YtibdkoepmejgdaaW.PrintLast Go.Proofs.YtibdkoepmejgdaaW.PrintMore
set_option linter.unusedVariables false
set_option linter.unusedSimpArgs false

/-! A range set, read. -/
abbrev SpO := List Sp × Int
def spZ : SpO := ([], 3)
def spBad (l : List Sp) : Prop := ∃ x ∈ l, ¬ ((1 ≤ x.f0 ∧ x.f0 ≤ 1000000) ∧ (1 ≤ x.f1 ∧ x.f1 ≤ 1000000))
theorem spBad_bytes {l : List Sp} (h : spBad l) : spBytes l = ⟨#[]⟩ := by
  obtain ⟨x, hx, hn⟩ := h
  unfold spBytes
  rw [if_neg]
  intro e
  have := (spRight_mem e).2 x hx
  omega
theorem sp_nil_ne {t : ByteArray} (ht : 0 < t.size) : ¬ (⟨#[]⟩ : ByteArray).toList = t.toList := by
  rw [(size_zero_iff ⟨#[]⟩).2 rfl]
  intro e
  have := (size_zero_iff t).1 e.symm
  omega
theorem isp_bad (t : ByteArray) (ht : 0 < t.size) (hb : t.size ≤ 8000) (d : Nat) : ∀ (q : Int) (a : Int) (bad : Bool) (l : List Sp) (last : Int), l.length + d = 401 → (0 ≤ a ∧ a ≤ t.size) → (bad = true ∨ spBad l) →
    Ev (fun k => impl_SpansRead.l0 k t l last q t a bad) spZ := by
  have fin : ∀ (q : Int) (a : Int) (bad : Bool) (l : List Sp) (last : Int), l.length ≤ 401 → (bad = true ∨ spBad l) → Ev (fun k => impl_SpansRead.j1 k t l last q false t a bad) spZ := by
    intro q a bad l last hl h
    refine Ev.step (f := fun k => impl_SpansRead.j1 (k + 1) t l last q false t a bad) (fun k => rfl) ?_
    simp only [impl_SpansRead.j1]
    refine Ev.neg (by simp) ?_
    cases bad with
    | true => exact Ev.pos (by first | rfl | trivial) (Ev.now _)
    | false =>
      have hB : spBad l := by
        rcases h with h | h
        · cases h
        · exact h
      refine Ev.neg (by simp) (Ev.bind (impl_SB_ev l (by omega)) ?_)
      rw [spBad_bytes hB]
      exact Ev.neg (sp_nil_ne ht) (Ev.now _)
  induction d with
  | zero =>
    intro q a bad l last hl ha h
    refine Ev.step (f := fun k => impl_SpansRead.l0 (k + 1) t l last q t a bad) (fun k => rfl) ?_
    simp only [impl_SpansRead.l0]
    by_cases c : q > 0
    · refine Ev.pos c ?_
      cases bad with
      | true => exact Ev.pos (by first | rfl | trivial) (fin q a true l last (by omega) h)
      | false =>
        refine Ev.neg (by simp) ?_
        rw [decide_eq_false (by omega)]
        exact fin q a false l last (by omega) h
    · exact Ev.neg c (fin q a bad l last (by omega) h)
  | succ d ih =>
    intro q a bad l last hl ha h
    refine Ev.step (f := fun k => impl_SpansRead.l0 (k + 1) t l last q t a bad) (fun k => rfl) ?_
    simp only [impl_SpansRead.l0]
    by_cases c : q > 0
    · refine Ev.pos c ?_
      cases bad with
      | true => exact Ev.pos (by first | rfl | trivial) (fin q a true l last (by omega) h)
      | false =>
        refine Ev.neg (by simp) ?_
        rw [decide_eq_true (by omega)]
        obtain ⟨n, a1, b1, hN, ha1, _, _⟩ := inum_any t hb a false ha
        obtain ⟨m, a2, b2, hM, ha2, _, _⟩ := inum_any t hb a1 b1 ha1
        refine Ev.step (f := fun k => impl_SpansRead.j1 (k + 1) t l last q true t a false) (fun k => rfl) ?_
        simp only [impl_SpansRead.j1]
        refine Ev.pos (by first | rfl | trivial) (Ev.bind hN (Ev.bind hM (Ev.pos (by omega) ?_)))
        refine ih _ a2 b2 _ _ (by rw [List.length_append, List.length_singleton]; omega) ha2 (Or.inr ?_)
        rcases h with h | ⟨x, hx, hn⟩
        · cases h
        · exact ⟨x, List.mem_append_left _ hx, hn⟩
    · exact Ev.neg c (fin q a bad l last (by omega) h)
theorem ssp_bad (t : ByteArray) (ht : 0 < t.size) (hb : t.size ≤ 8000) (n : Int) (i : Int) (a : Int) (l : List Sp) (last : Int) : Ev (fun k => spec_SpansRead.l0 k t n l last i t a true) spZ := by
  have fin : Ev (fun k => spec_SpansRead.j1 k t n l last i false t a true) spZ := Ev.one (fun k => by rw [spec_SpansRead.j1, if_neg (by simp), if_pos rfl]; rfl)
  refine Ev.step (f := fun k => spec_SpansRead.l0 (k + 1) t n l last i t a true) (fun k => rfl) ?_
  simp only [spec_SpansRead.l0]
  by_cases c : i < n
  · refine Ev.pos c ?_
    by_cases c2 : i ≤ 400
    · exact Ev.pos c2 fin
    · exact Ev.neg c2 fin
  · exact Ev.neg c fin
theorem sp_fin (t : ByteArray) (ht : 0 < t.size) (hb : t.size ≤ 8000) (n q i : Int) (a : Int) (l : List Sp) (last : Int) (hl : l.length ≤ 401) : ∃ R : SpO, R.1.length ≤ 401 ∧ Ev (fun k => spec_SpansRead.j1 k t n l last i false t a false) R ∧ Ev (fun k => impl_SpansRead.j1 k t l last q false t a false) R := by
  have hS := spec_SB_ev l (by omega)
  have hI := impl_SB_ev l (by omega)
  have ht0 : ¬ t.toList = ([] : List UInt8) := fun e => by have := (size_zero_iff t).1 e; omega
  by_cases c : (spBytes l).toList = t.toList
  · refine ⟨(l, 0), hl, ?_, ?_⟩
    · refine Ev.step (f := fun k => spec_SpansRead.j1 (k + 1) t n l last i false t a false) (fun k => rfl) ?_
      simp only [spec_SpansRead.j1]
      exact Ev.neg (by simp) (Ev.neg (by simp) (Ev.neg ht0 (Ev.bind hS (Ev.pos c (Ev.now _)))))
    · refine Ev.step (f := fun k => impl_SpansRead.j1 (k + 1) t l last q false t a false) (fun k => rfl) ?_
      simp only [impl_SpansRead.j1]
      exact Ev.neg (by simp) (Ev.neg (by simp) (Ev.bind hI (Ev.pos c (Ev.now _))))
  · refine ⟨spZ, Nat.zero_le _, ?_, ?_⟩
    · refine Ev.step (f := fun k => spec_SpansRead.j1 (k + 1) t n l last i false t a false) (fun k => rfl) ?_
      simp only [spec_SpansRead.j1]
      exact Ev.neg (by simp) (Ev.neg (by simp) (Ev.neg ht0 (Ev.bind hS (Ev.neg c (Ev.now _)))))
    · refine Ev.step (f := fun k => impl_SpansRead.j1 (k + 1) t l last q false t a false) (fun k => rfl) ?_
      simp only [impl_SpansRead.j1]
      exact Ev.neg (by simp) (Ev.neg (by simp) (Ev.bind hI (Ev.neg c (Ev.now _))))
theorem sp_both (t : ByteArray) (ht : 0 < t.size) (hb : t.size ≤ 8000) (n : Int) (hn64 : i64r n) (d : Nat) : ∀ (i : Nat) (a : Int) (l : List Sp) (last : Int), i + d = 401 → (0 ≤ a ∧ a ≤ t.size) → l.length = i →
    ∃ R : SpO, R.1.length ≤ 401 ∧ Ev (fun k => spec_SpansRead.l0 k t n l last (i : Int) t a false) R ∧ Ev (fun k => impl_SpansRead.l0 k t l last (n - (i : Int)) t a false) R := by
  have stop : ∀ (i : Nat) (a : Int) (l : List Sp) (last : Int), l.length = i → i ≤ 401 → (n ≤ (i : Int) ∨ i = 401) →
      ∃ R : SpO, R.1.length ≤ 401 ∧ Ev (fun k => spec_SpansRead.l0 k t n l last (i : Int) t a false) R ∧ Ev (fun k => impl_SpansRead.l0 k t l last (n - (i : Int)) t a false) R := by
    intro i a l last hl hi h
    obtain ⟨R, hR, e1, e2⟩ := sp_fin t ht hb n (n - (i : Int)) (i : Int) a l last (by omega)
    refine ⟨R, hR, ?_, ?_⟩
    · refine Ev.step (f := fun k => spec_SpansRead.l0 (k + 1) t n l last (i : Int) t a false) (fun k => rfl) ?_
      simp only [spec_SpansRead.l0]
      by_cases c : (i : Int) < n
      · exact Ev.pos c (Ev.neg (by omega) e1)
      · exact Ev.neg c e1
    · refine Ev.step (f := fun k => impl_SpansRead.l0 (k + 1) t l last (n - (i : Int)) t a false) (fun k => rfl) ?_
      simp only [impl_SpansRead.l0]
      by_cases c : n - (i : Int) > 0
      · refine Ev.pos c (Ev.neg (by simp) ?_)
        rw [decide_eq_false (by omega)]
        exact e2
      · exact Ev.neg c e2
  induction d with
  | zero => intro i a l last hi ha hl; exact stop i a l last hl (by omega) (Or.inr (by omega))
  | succ d ih =>
    intro i a l last hi ha hl
    by_cases c : n ≤ (i : Int)
    · exact stop i a l last hl (by omega) (Or.inl c)
    · obtain ⟨f, f', a1, b1, c1, s1, i1, r1, q1, y1, z1⟩ := num_both t hb a false a ⟨ha, ha, fun _ => rfl⟩
      obtain ⟨g, g', a2, b2, c2, s2, i2, r2, q2, y2, z2⟩ := num_both t hb a1 b1 c1 r1
      have toI : ∀ R, Ev (fun k => impl_SpansRead.l0 k t (l ++ [(⟨wrap64 (last + f'), wrap64 ((wrap64 (last + f')) + g')⟩ : Sp)]) (wrap64 ((wrap64 (last + f')) + g')) (n - ((i + 1 : Nat) : Int)) t c2 b2) R → Ev (fun k => impl_SpansRead.l0 k t l last (n - (i : Int)) t a false) R := by
        intro R hR
        refine Ev.step (f := fun k => impl_SpansRead.l0 (k + 1) t l last (n - (i : Int)) t a false) (fun k => rfl) ?_
        simp only [impl_SpansRead.l0]
        refine Ev.pos (by omega) (Ev.neg (by simp) ?_)
        rw [decide_eq_true (by omega)]
        refine Ev.step (f := fun k => impl_SpansRead.j1 (k + 1) t l last (n - (i : Int)) true t a false) (fun k => rfl) ?_
        simp only [impl_SpansRead.j1]
        refine Ev.pos (by first | rfl | trivial) (Ev.bind i1 (Ev.bind i2 (Ev.pos (by omega) ?_)))
        rw [show wrap64 (n - (i : Int) - 1) = n - ((i + 1 : Nat) : Int) from by unfold wrap64; have := hn64.1; have := hn64.2; omega]
        exact hR
      have toS : ∀ (bad : Bool), ((b2 = true → bad = true) ∧ (b2 = false → bad = !(decide (1 ≤ wrap64 (f + last) ∧ wrap64 (f + last) ≤ 1000000) && decide (1 ≤ wrap64 ((wrap64 (f + last)) + g) ∧ wrap64 ((wrap64 (f + last)) + g) ≤ 1000000)))) → ∀ R, Ev (fun k => spec_SpansRead.l0 k t n (l ++ [(⟨wrap64 (f + last), wrap64 ((wrap64 (f + last)) + g)⟩ : Sp)]) (wrap64 ((wrap64 (f + last)) + g)) ((i + 1 : Nat) : Int) t a2 bad) R → Ev (fun k => spec_SpansRead.l0 k t n l last (i : Int) t a false) R := by
        intro bad hbad R hR
        refine Ev.step (f := fun k => spec_SpansRead.l0 (k + 1) t n l last (i : Int) t a false) (fun k => rfl) ?_
        simp only [spec_SpansRead.l0]
        refine Ev.pos (by omega) (Ev.pos (by omega) ?_)
        refine Ev.step (f := fun k => spec_SpansRead.j1 (k + 1) t n l last (i : Int) (!false) t a false) (fun k => rfl) ?_
        simp only [spec_SpansRead.j1]
        refine Ev.pos (by first | rfl | trivial) (Ev.bind s1 (Ev.bind s2 ?_))
        have hw : wrap64 ((i : Int) + 1) = ((i + 1 : Nat) : Int) := by unfold wrap64; omega
        rw [hw]
        cases b2 with
        | true =>
          obtain rfl := hbad.1 rfl
          exact Ev.pos (by first | rfl | trivial) (Ev.pos (by omega) hR)
        | false =>
          have e := hbad.2 rfl
          refine Ev.neg (by simp) (Ev.take (l02Id_eq _) ?_)
          by_cases k1 : 1 ≤ wrap64 (f + last) ∧ wrap64 (f + last) ≤ 1000000
          · refine Ev.pos (decide_eq_true k1) (Ev.take (l02Id_eq _) (Ev.pos (by omega) ?_))
            rw [decide_eq_true k1, Bool.true_and] at e
            rw [← e]; exact hR
          · refine Ev.neg (by simpa using k1) (Ev.pos (by omega) ?_)
            rw [decide_eq_false k1, Bool.false_and] at e
            rw [show bad = true from e] at hR; exact hR
      cases b2 with
      | true =>
        exact ⟨spZ, Nat.zero_le _, toS true ⟨fun _ => rfl, fun e => by cases e⟩ _ (ssp_bad t ht hb n _ a2 _ _), toI _ (isp_bad t ht hb d _ c2 true _ _ (by rw [List.length_append, List.length_singleton]; omega) r2.2.1 (Or.inl rfl))⟩
      | false =>
        obtain ⟨e1, rfl⟩ := q2 rfl
        obtain rfl := r2.2.2 rfl
        obtain ⟨_, rfl⟩ := q1 e1
        rw [show last + f = f + last from Int.add_comm _ _] at toI
        by_cases k : (1 ≤ wrap64 (f + last) ∧ wrap64 (f + last) ≤ 1000000) ∧ (1 ≤ wrap64 ((wrap64 (f + last)) + g) ∧ wrap64 ((wrap64 (f + last)) + g) ≤ 1000000)
        · obtain ⟨R, hR, h1, h2⟩ := ih (i + 1) a2 (l ++ [(⟨wrap64 (f + last), wrap64 ((wrap64 (f + last)) + g)⟩ : Sp)]) (wrap64 ((wrap64 (f + last)) + g)) (by omega) r2.1 (by rw [List.length_append, List.length_singleton]; omega)
          exact ⟨R, hR, toS false ⟨fun e => (by cases e), fun _ => by rw [decide_eq_true k.1, decide_eq_true k.2]; rfl⟩ R h1, toI R h2⟩
        · refine ⟨spZ, Nat.zero_le _, toS true ⟨fun e => (by cases e), fun _ => ?_⟩ _ (ssp_bad t ht hb n _ a2 _ _), toI _ (isp_bad t ht hb d _ a2 false _ _ (by rw [List.length_append, List.length_singleton]; omega) r2.1 (Or.inr ⟨_, List.mem_append_right _ (List.mem_singleton.2 rfl), k⟩))⟩
          by_cases k1 : 1 ≤ wrap64 (f + last) ∧ wrap64 (f + last) ≤ 1000000
          · rw [decide_eq_false (fun k2 => k ⟨k1, k2⟩), Bool.and_false]; rfl
          · rw [decide_eq_false k1, Bool.false_and]; rfl
theorem spansRead_both (t : ByteArray) : ∃ R : SpO, R.1.length ≤ 401 ∧ Ev (fun k => spec_SpansRead.f k t) R ∧ Ev (fun k => impl_SpansRead.f k t) R := by
  by_cases c : (t.size : Int) > 8000
  · refine ⟨([], 2), Nat.zero_le _, ?_, ?_⟩
    · unfold spec_SpansRead.f; exact Ev.pos c (Ev.now _)
    · unfold impl_SpansRead.f; exact Ev.pos c (Ev.now _)
  · have hb : t.size ≤ 8000 := by omega
    obtain ⟨n, n', a1, b1, c1, s1, i1, r1, q1, y1, z1⟩ := num_both t hb 0 false 0 ⟨⟨by omega, by omega⟩, ⟨by omega, by omega⟩, fun _ => rfl⟩
    have toS : ∀ R, Ev (fun k => spec_SpansRead.l0 k t n [] 0 0 t a1 b1) R → Ev (fun k => spec_SpansRead.f k t) R := by
      intro R hR; unfold spec_SpansRead.f; exact Ev.neg c (Ev.bind s1 hR)
    have toI : ∀ R, Ev (fun k => impl_SpansRead.l0 k t [] 0 n' t c1 b1) R → Ev (fun k => impl_SpansRead.f k t) R := by
      intro R hR; unfold impl_SpansRead.f; exact Ev.neg c (Ev.bind i1 hR)
    by_cases h0 : t.size = 0
    · have e0 : t.toList = [] := (size_zero_iff t).2 h0
      have hbad : b1 = true := by
        have h := spec_GetNum_ev t (by omega) 0 (by omega)
        have h2 : Ev (fun k => spec_l02Reader_num.f k t 0 false) (0, t, 0, true) := by
          unfold spec_l02Reader_num.f
          refine Ev.bind h (Ev.neg (by simp) (Ev.neg ?_ (Ev.now _)))
          rw [show getNumS t 0 = (0, 0, 4) from by unfold getNumS getNumR gn; rw [if_neg (by omega), if_neg (by omega), if_pos (by omega)]]
          decide
        have := Ev.uniq s1 h2
        simp only [Prod.mk.injEq] at this
        exact this.2.2.2
      subst hbad
      refine ⟨spZ, Nat.zero_le _, toS _ ?_, toI _ ?_⟩
      · have fin : Ev (fun k => spec_SpansRead.j1 k t n [] 0 0 false t a1 true) spZ := Ev.one (fun k => by rw [spec_SpansRead.j1, if_neg (by simp), if_pos rfl]; rfl)
        refine Ev.step (f := fun k => spec_SpansRead.l0 (k + 1) t n [] 0 0 t a1 true) (fun k => rfl) ?_
        simp only [spec_SpansRead.l0]
        by_cases c3 : (0 : Int) < n
        · exact Ev.pos c3 (Ev.pos (by omega) fin)
        · exact Ev.neg c3 fin
      · have fin : Ev (fun k => impl_SpansRead.j1 k t [] 0 n' false t c1 true) spZ := Ev.one (fun k => by rw [impl_SpansRead.j1, if_neg (by simp), if_pos rfl]; rfl)
        refine Ev.step (f := fun k => impl_SpansRead.l0 (k + 1) t [] 0 n' t c1 true) (fun k => rfl) ?_
        simp only [impl_SpansRead.l0]
        by_cases c3 : n' > 0
        · exact Ev.pos c3 (Ev.pos (by first | rfl | trivial) fin)
        · exact Ev.neg c3 fin
    · have ht : 0 < t.size := by omega
      cases b1 with
      | true =>
        exact ⟨spZ, Nat.zero_le _, toS _ (ssp_bad t ht hb n 0 a1 [] 0), toI _ (isp_bad t ht hb 401 n' c1 true [] 0 (by simp) r1.2.1 (Or.inl rfl))⟩
      | false =>
        obtain ⟨_, rfl⟩ := q1 rfl
        obtain rfl := r1.2.2 rfl
        obtain ⟨R, hR, h1, h2⟩ := sp_both t ht hb n y1 401 0 a1 [] 0 rfl r1.1 rfl
        refine ⟨R, hR, toS R h1, toI R ?_⟩
        simpa using h2


end Go.Proofs.Ytibdkoepmejgdaa.Print
