/- Lemmas: an event, read. -/
import Derived.Test.YtfgphnjaikjfhaaLemER1
namespace Go.Proofs.Ytfgphnjaikjfhaa.Print
open Go.RowKit Go.Proofs.YtfgphnjaikjfhaaW.PrintWords Go.Proofs.YtfgphnjaikjfhaaW.PrintLast Go.Proofs.YtfgphnjaikjfhaaW.PrintMore
set_option linter.unusedVariables false
set_option linter.unusedSimpArgs false

/-! An event, read. -/
abbrev EvO := Int × Int × Int × Int × Int × Int × ByteArray × List Int × Int × Int
def evZ : EvO := (0, 0, 0, 0, 0, 0, ⟨#[]⟩, [], 0, 3)
theorem evRight_long {a0 a1 a2 a3 a4 a5 : Int} {s : ByteArray} {l : List Int} {t : Int} (h : 4 < l.length) : evRight a0 a1 a2 a3 a4 a5 s l t = false := by
  rw [Bool.eq_false_iff]
  intro e
  unfold evRight evRight0 prevRight at e
  simp only [Bool.and_eq_true, decide_eq_true_iff] at e
  omega
theorem nil_ne {t : ByteArray} (ht : 0 < t.size) : ¬ (⟨#[]⟩ : ByteArray).toList = t.toList := by
  rw [(size_zero_iff ⟨#[]⟩).2 rfl]
  intro e
  have := (size_zero_iff t).1 e.symm
  omega
theorem sfin_bad (t : ByteArray) (ht : 0 < t.size) (b : ByteArray) (hb : b.size ≤ 8000) (f0 f1 f2 f3 f4 f5 : Int) (s : ByteArray) (h0 : i64r f0) (h1 : i64r f1) (h2 : i64r f2) (h3 : i64r f3) (h4 : i64r f4) (h5 : i64r f5) (hs : s.size ≤ 8000) (a : Int) (bad : Bool) (l : List Int) (ha : 0 ≤ a ∧ a ≤ b.size) (hl : ∀ x ∈ l, i64r x) (hn : l.length ≤ 9) (h : bad = true ∨ 4 < l.length) :
    Ev (fun k => spec_EventRead.j1 k t b a bad f0 f1 f2 f3 f4 f5 s l 0) evZ := by
  obtain ⟨n, a1, b1, hN, _, hb1, hn1⟩ := snum_any b hb a bad ha
  refine Ev.step (f := fun k => spec_EventRead.j1 (k + 1) t b a bad f0 f1 f2 f3 f4 f5 s l 0) (fun k => rfl) ?_
  simp only [spec_EventRead.j1]
  refine Ev.bind hN ?_
  cases b1 with
  | true => exact Ev.pos (by first | rfl | trivial) (Ev.now _)
  | false =>
    have hl4 : 4 < l.length := by
      rcases h with h | h
      · rw [hb1 rfl] at h; cases h
      · exact h
    refine Ev.neg (by simp) (Ev.bind (spec_EB_ev f0 f1 f2 f3 f4 f5 s l n h0 h1 h2 h3 h4 h5 (by omega) hl (by omega) hn1) ?_)
    rw [evRight_long hl4]
    exact Ev.neg (by rw [if_neg (by simp)]; exact nil_ne ht) (Ev.now _)
theorem ifin_bad (t : ByteArray) (ht : 0 < t.size) (b : ByteArray) (hb : b.size ≤ 8000) (f0 f1 f2 f3 f4 f5 : Int) (s : ByteArray) (h0 : i64r f0) (h1 : i64r f1) (h2 : i64r f2) (h3 : i64r f3) (h4 : i64r f4) (h5 : i64r f5) (hs : s.size ≤ 8000) (a : Int) (bad : Bool) (l : List Int) (ha : 0 ≤ a ∧ a ≤ b.size) (hl : ∀ x ∈ l, i64r x) (hn : l.length ≤ 9) (h : bad = true ∨ 4 < l.length) :
    Ev (fun k => impl_EventRead.j1 k t b a bad f0 f1 f2 f3 f4 f5 s l 0) evZ := by
  obtain ⟨n, a1, b1, hN, _, hb1, hn1⟩ := inum_any b hb a bad ha
  refine Ev.step (f := fun k => impl_EventRead.j1 (k + 1) t b a bad f0 f1 f2 f3 f4 f5 s l 0) (fun k => rfl) ?_
  simp only [impl_EventRead.j1]
  refine Ev.bind hN ?_
  cases b1 with
  | true => exact Ev.pos (by first | rfl | trivial) (Ev.now _)
  | false =>
    have hl4 : 4 < l.length := by
      rcases h with h | h
      · rw [hb1 rfl] at h; cases h
      · exact h
    refine Ev.neg (by simp) (Ev.bind (impl_EB_ev f0 f1 f2 f3 f4 f5 s l n h0 h1 h2 h3 h4 h5 (by omega) hl (by omega) hn1) ?_)
    rw [evRight_long hl4]
    exact Ev.neg (by rw [if_neg (by simp)]; exact nil_ne ht) (Ev.now _)
theorem fin_both (t : ByteArray) (ht : 0 < t.size) (b : ByteArray) (hb : b.size ≤ 8000) (f0 f1 f2 f3 f4 f5 : Int) (s : ByteArray) (h0 : i64r f0) (h1 : i64r f1) (h2 : i64r f2) (h3 : i64r f3) (h4 : i64r f4) (h5 : i64r f5) (hs : s.size ≤ 8000) (a : Int) (l : List Int) (ha : 0 ≤ a ∧ a ≤ b.size) (hl : ∀ x ∈ l, i64r x) (hn : l.length ≤ 9) :
    ∃ R : EvO, R.2.2.2.2.2.2.2.1.length ≤ 9 ∧ Ev (fun k => spec_EventRead.j1 k t b a false f0 f1 f2 f3 f4 f5 s l 0) R ∧ Ev (fun k => impl_EventRead.j1 k t b a false f0 f1 f2 f3 f4 f5 s l 0) R := by
  obtain ⟨n, n', a1, b1, a1', hN, hN', _, hb1, hn1, hn1'⟩ := num_both b hb a false a ⟨ha, ha, fun _ => rfl⟩
  cases b1 with
  | true =>
    refine ⟨evZ, Nat.zero_le _, ?_, ?_⟩
    · refine Ev.step (f := fun k => spec_EventRead.j1 (k + 1) t b a false f0 f1 f2 f3 f4 f5 s l 0) (fun k => rfl) ?_
      simp only [spec_EventRead.j1]
      exact Ev.bind hN (Ev.pos (by first | rfl | trivial) (Ev.now _))
    · refine Ev.step (f := fun k => impl_EventRead.j1 (k + 1) t b a false f0 f1 f2 f3 f4 f5 s l 0) (fun k => rfl) ?_
      simp only [impl_EventRead.j1]
      exact Ev.bind hN' (Ev.pos (by first | rfl | trivial) (Ev.now _))
  | false =>
    obtain ⟨_, rfl⟩ := hb1 rfl
    have hS := spec_EB_ev f0 f1 f2 f3 f4 f5 s l n h0 h1 h2 h3 h4 h5 (by omega) hl (by omega) hn1
    have hI := impl_EB_ev f0 f1 f2 f3 f4 f5 s l n h0 h1 h2 h3 h4 h5 (by omega) hl (by omega) hn1
    generalize (if evRight f0 f1 f2 f3 f4 f5 s l n = true then sealed (evB f0 f1 f2 f3 f4 f5 s l n) else ⟨#[]⟩) = X at hS hI
    by_cases c : X.toList = t.toList
    · refine ⟨(f0, f1, f2, f3, f4, f5, s, l, n, 0), hn, ?_, ?_⟩
      · refine Ev.step (f := fun k => spec_EventRead.j1 (k + 1) t b a false f0 f1 f2 f3 f4 f5 s l 0) (fun k => rfl) ?_
        simp only [spec_EventRead.j1]
        exact Ev.bind hN (Ev.neg (by simp) (Ev.bind hS (Ev.pos c (Ev.now _))))
      · refine Ev.step (f := fun k => impl_EventRead.j1 (k + 1) t b a false f0 f1 f2 f3 f4 f5 s l 0) (fun k => rfl) ?_
        simp only [impl_EventRead.j1]
        exact Ev.bind hN' (Ev.neg (by simp) (Ev.bind hI (Ev.pos c (Ev.now _))))
    · refine ⟨evZ, Nat.zero_le _, ?_, ?_⟩
      · refine Ev.step (f := fun k => spec_EventRead.j1 (k + 1) t b a false f0 f1 f2 f3 f4 f5 s l 0) (fun k => rfl) ?_
        simp only [spec_EventRead.j1]
        exact Ev.bind hN (Ev.neg (by simp) (Ev.bind hS (Ev.neg c (Ev.now _))))
      · refine Ev.step (f := fun k => impl_EventRead.j1 (k + 1) t b a false f0 f1 f2 f3 f4 f5 s l 0) (fun k => rfl) ?_
        simp only [impl_EventRead.j1]
        exact Ev.bind hN' (Ev.neg (by simp) (Ev.bind hI (Ev.neg c (Ev.now _))))
/-- The reference's rounds, from whatever state: they end with something wrong, or with many numbers. -/
theorem sloop_bad (t : ByteArray) (ht : 0 < t.size) (b : ByteArray) (hb : b.size ≤ 8000) (f0 f1 f2 f3 f4 f5 : Int) (s : ByteArray) (h0 : i64r f0) (h1 : i64r f1) (h2 : i64r f2) (h3 : i64r f3) (h4 : i64r f4) (h5 : i64r f5) (hs : s.size ≤ 8000) (n : Int) (d : Nat) : ∀ (i : Nat) (a : Int) (bad : Bool) (l : List Int), i + d = 9 → (0 ≤ a ∧ a ≤ b.size) → (∀ x ∈ l, i64r x) → l.length = i → (bad = true ∨ 4 < l.length) →
    Ev (fun k => spec_EventRead.l0 k t n (i : Int) b a bad f0 f1 f2 f3 f4 f5 s l 0) evZ := by
  induction d with
  | zero =>
    intro i a bad l hi ha hl hli h
    have hf := sfin_bad t ht b hb f0 f1 f2 f3 f4 f5 s h0 h1 h2 h3 h4 h5 hs a bad l ha hl (by omega) h
    refine Ev.step (f := fun k => spec_EventRead.l0 (k + 1) t n (i : Int) b a bad f0 f1 f2 f3 f4 f5 s l 0) (fun k => rfl) ?_
    simp only [spec_EventRead.l0]
    by_cases c : (i : Int) < n
    · exact Ev.pos c (Ev.neg (by omega) hf)
    · exact Ev.neg c hf
  | succ d ih =>
    intro i a bad l hi ha hl hli h
    have hf := sfin_bad t ht b hb f0 f1 f2 f3 f4 f5 s h0 h1 h2 h3 h4 h5 hs a bad l ha hl (by omega) h
    refine Ev.step (f := fun k => spec_EventRead.l0 (k + 1) t n (i : Int) b a bad f0 f1 f2 f3 f4 f5 s l 0) (fun k => rfl) ?_
    simp only [spec_EventRead.l0]
    by_cases c : (i : Int) < n
    · refine Ev.pos c (Ev.pos (by omega) ?_)
      cases bad with
      | true => exact Ev.pos (by first | rfl | trivial) hf
      | false =>
        obtain ⟨m, a1, b1, hN, ha1, _, hm⟩ := snum_any b hb a false ha
        refine Ev.neg (by simp) (Ev.bind hN (Ev.pos (by omega) ?_))
        rw [show wrap64 ((i : Int) + 1) = ((i + 1 : Nat) : Int) from by unfold wrap64; omega]
        refine ih (i + 1) a1 b1 (l ++ [m]) (by omega) ha1 (fun x hx => ?_) (by rw [List.length_append, List.length_singleton]; omega) (Or.inr ?_)
        · rcases List.mem_append.1 hx with hx | hx
          · exact hl x hx
          · rw [List.mem_singleton.1 hx]; exact hm
        · rcases h with h | h
          · cases h
          · rw [List.length_append]; omega
    · exact Ev.neg c hf
theorem iloop_bad (t : ByteArray) (ht : 0 < t.size) (b : ByteArray) (hb : b.size ≤ 8000) (f0 f1 f2 f3 f4 f5 : Int) (s : ByteArray) (h0 : i64r f0) (h1 : i64r f1) (h2 : i64r f2) (h3 : i64r f3) (h4 : i64r f4) (h5 : i64r f5) (hs : s.size ≤ 8000) (q : Int) (a : Int) (l : List Int) (ha : 0 ≤ a ∧ a ≤ b.size) (hl : ∀ x ∈ l, i64r x) (hn : l.length ≤ 9) : Ev (fun k => impl_EventRead.l0 k t q b a true f0 f1 f2 f3 f4 f5 s l 0) evZ := by
  have hf := ifin_bad t ht b hb f0 f1 f2 f3 f4 f5 s h0 h1 h2 h3 h4 h5 hs a true l ha hl hn (Or.inl rfl)
  refine Ev.step (f := fun k => impl_EventRead.l0 (k + 1) t q b a true f0 f1 f2 f3 f4 f5 s l 0) (fun k => rfl) ?_
  simp only [impl_EventRead.l0]
  by_cases c : q > 0
  · exact Ev.pos c (Ev.pos (by first | rfl | trivial) hf)
  · exact Ev.neg c hf
theorem loop_both (t : ByteArray) (ht : 0 < t.size) (b : ByteArray) (hb : b.size ≤ 8000) (f0 f1 f2 f3 f4 f5 : Int) (s : ByteArray) (h0 : i64r f0) (h1 : i64r f1) (h2 : i64r f2) (h3 : i64r f3) (h4 : i64r f4) (h5 : i64r f5) (hs : s.size ≤ 8000) (n : Int) (hn64 : i64r n) (d : Nat) : ∀ (i : Nat) (a : Int) (l : List Int), i + d = 5 → (0 ≤ a ∧ a ≤ b.size) → (∀ x ∈ l, i64r x) → l.length = i →
    ∃ R : EvO, R.2.2.2.2.2.2.2.1.length ≤ 9 ∧ Ev (fun k => spec_EventRead.l0 k t n (i : Int) b a false f0 f1 f2 f3 f4 f5 s l 0) R ∧ Ev (fun k => impl_EventRead.l0 k t (n - (i : Int)) b a false f0 f1 f2 f3 f4 f5 s l 0) R := by
  have stop : ∀ (i : Nat) (a : Int) (l : List Int), i ≤ 5 → (0 ≤ a ∧ a ≤ b.size) → (∀ x ∈ l, i64r x) → l.length = i → n ≤ (i : Int) →
      ∃ R : EvO, R.2.2.2.2.2.2.2.1.length ≤ 9 ∧ Ev (fun k => spec_EventRead.l0 k t n (i : Int) b a false f0 f1 f2 f3 f4 f5 s l 0) R ∧ Ev (fun k => impl_EventRead.l0 k t (n - (i : Int)) b a false f0 f1 f2 f3 f4 f5 s l 0) R := by
    intro i a l hi ha hl hli hni
    obtain ⟨R, hR, e1, e2⟩ := fin_both t ht b hb f0 f1 f2 f3 f4 f5 s h0 h1 h2 h3 h4 h5 hs a l ha hl (by omega)
    refine ⟨R, hR, ?_, ?_⟩
    · refine Ev.step (f := fun k => spec_EventRead.l0 (k + 1) t n (i : Int) b a false f0 f1 f2 f3 f4 f5 s l 0) (fun k => rfl) ?_
      simp only [spec_EventRead.l0]
      exact Ev.neg (by omega) e1
    · refine Ev.step (f := fun k => impl_EventRead.l0 (k + 1) t (n - (i : Int)) b a false f0 f1 f2 f3 f4 f5 s l 0) (fun k => rfl) ?_
      simp only [impl_EventRead.l0]
      exact Ev.neg (by omega) e2
  induction d with
  | zero =>
    intro i a l hi ha hl hli
    by_cases c : n ≤ (i : Int)
    · exact stop i a l (by omega) ha hl hli c
    · refine ⟨evZ, Nat.zero_le _, sloop_bad t ht b hb f0 f1 f2 f3 f4 f5 s h0 h1 h2 h3 h4 h5 hs n 4 i a false l (by omega) ha hl hli (Or.inr (by omega)), ?_⟩
      have hf := ifin_bad t ht b hb f0 f1 f2 f3 f4 f5 s h0 h1 h2 h3 h4 h5 hs a false l ha hl (by omega) (Or.inr (by omega))
      refine Ev.step (f := fun k => impl_EventRead.l0 (k + 1) t (n - (i : Int)) b a false f0 f1 f2 f3 f4 f5 s l 0) (fun k => rfl) ?_
      simp only [impl_EventRead.l0]
      exact Ev.pos (by omega) (Ev.neg (by simp) (Ev.neg (by omega) hf))
  | succ d ih =>
    intro i a l hi ha hl hli
    by_cases c : n ≤ (i : Int)
    · exact stop i a l (by omega) ha hl hli c
    · obtain ⟨m, m', a1, b1, a1', hN, hN', hrd, hb1, hm, hm'⟩ := num_both b hb a false a ⟨ha, ha, fun _ => rfl⟩
      have hl1 : ∀ x ∈ l ++ [m], i64r x := fun x hx => by
        rcases List.mem_append.1 hx with hx | hx
        · exact hl x hx
        · rw [List.mem_singleton.1 hx]; exact hm
      have hl2 : ∀ x ∈ l ++ [m'], i64r x := fun x hx => by
        rcases List.mem_append.1 hx with hx | hx
        · exact hl x hx
        · rw [List.mem_singleton.1 hx]; exact hm'
      have toS : ∀ R, Ev (fun k => spec_EventRead.l0 k t n ((i + 1 : Nat) : Int) b a1 b1 f0 f1 f2 f3 f4 f5 s (l ++ [m]) 0) R → Ev (fun k => spec_EventRead.l0 k t n (i : Int) b a false f0 f1 f2 f3 f4 f5 s l 0) R := by
        intro R hR
        refine Ev.step (f := fun k => spec_EventRead.l0 (k + 1) t n (i : Int) b a false f0 f1 f2 f3 f4 f5 s l 0) (fun k => rfl) ?_
        simp only [spec_EventRead.l0]
        refine Ev.pos (by omega) (Ev.pos (by omega) (Ev.neg (by simp) (Ev.bind hN (Ev.pos (by omega) ?_))))
        rw [show wrap64 ((i : Int) + 1) = ((i + 1 : Nat) : Int) from by unfold wrap64; omega]
        exact hR
      have toI : ∀ R, Ev (fun k => impl_EventRead.l0 k t (n - ((i + 1 : Nat) : Int)) b a1' b1 f0 f1 f2 f3 f4 f5 s (l ++ [m']) 0) R → Ev (fun k => impl_EventRead.l0 k t (n - (i : Int)) b a false f0 f1 f2 f3 f4 f5 s l 0) R := by
        intro R hR
        refine Ev.step (f := fun k => impl_EventRead.l0 (k + 1) t (n - (i : Int)) b a false f0 f1 f2 f3 f4 f5 s l 0) (fun k => rfl) ?_
        simp only [impl_EventRead.l0]
        refine Ev.pos (by omega) (Ev.neg (by simp) (Ev.pos (by omega) (Ev.bind hN' (Ev.pos (by omega) ?_))))
        rw [show wrap64 (n - (i : Int) - 1) = n - ((i + 1 : Nat) : Int) from by unfold wrap64; have := hn64.1; have := hn64.2; omega]
        exact hR
      cases b1 with
      | true =>
        refine ⟨evZ, Nat.zero_le _, toS _ (sloop_bad t ht b hb f0 f1 f2 f3 f4 f5 s h0 h1 h2 h3 h4 h5 hs n (8 - i) (i + 1) a1 true (l ++ [m]) (by omega) hrd.1 hl1 (by rw [List.length_append, List.length_singleton]; omega) (Or.inl rfl)), toI _ ?_⟩
        exact iloop_bad t ht b hb f0 f1 f2 f3 f4 f5 s h0 h1 h2 h3 h4 h5 hs _ a1' (l ++ [m']) hrd.2.1 hl2 (by rw [List.length_append, List.length_singleton]; omega)
      | false =>
        obtain ⟨_, rfl⟩ := hb1 rfl
        obtain rfl := hrd.2.2 rfl
        obtain ⟨R, hR, e1, e2⟩ := ih (i + 1) a1 (l ++ [m]) (by omega) hrd.1 hl1 (by rw [List.length_append, List.length_singleton]; omega)
        exact ⟨R, hR, toS R e1, toI R e2⟩
theorem eventRead_both (t : ByteArray) (ht : t.size ≤ 1048576) : ∃ R : EvO, R.2.2.2.2.2.2.2.1.length ≤ 9 ∧ Ev (fun k => spec_EventRead.f k t) R ∧ Ev (fun k => impl_EventRead.f k t) R := by
  have hS := spec_Unseal_ev t (by omega)
  have hI := impl_Unseal_ev t (by omega)
  by_cases c : (unsealed t).2.2 = 0
  · have hu : 0 < t.size ∧ (unsealed t).1.size ≤ 8000 := by
      revert c
      unfold unsealed
      by_cases c1 : t.size > 8000
      · rw [if_pos c1]; intro c; exact absurd c (by decide)
      · rw [if_neg c1]
        by_cases c2 : t.size < 4
        · rw [if_pos c2]; intro c; exact absurd c (by decide)
        · rw [if_neg c2]
          by_cases c3 : sealed (t.extract 0 (t.size - 4)) = t
          · rw [if_pos c3]; intro _
            refine ⟨by omega, ?_⟩
            show (t.extract 0 (t.size - 4)).size ≤ 8000
            rw [ByteArray.size_extract]; omega
          · rw [if_neg c3]; intro c; exact absurd c (by decide)
    obtain ⟨ht0, hb⟩ := hu
    generalize unsealed t = u at hS hI c hb
    obtain ⟨b, ua, uc⟩ := u
    replace c : uc = 0 := c
    subst c
    replace hb : b.size ≤ 8000 := hb
    obtain ⟨f0, g0, a0, b0, c0, s0, i0, r0, q0, y0, z0⟩ := num_both b hb 0 false 0 ⟨⟨by omega, by omega⟩, ⟨by omega, by omega⟩, fun _ => rfl⟩
    obtain ⟨f1, g1, a1, b1, c1, s1, i1, r1, q1, y1, z1⟩ := num_both b hb a0 b0 c0 r0
    obtain ⟨f2, g2, a2, b2, c2, s2, i2, r2, q2, y2, z2⟩ := num_both b hb a1 b1 c1 r1
    obtain ⟨f3, g3, a3, b3, c3, s3, i3, r3, q3, y3, z3⟩ := num_both b hb a2 b2 c2 r2
    obtain ⟨f4, g4, a4, b4, c4, s4, i4, r4, q4, y4, z4⟩ := num_both b hb a3 b3 c3 r3
    obtain ⟨f5, g5, a5, b5, c5, s5, i5, r5, q5, y5, z5⟩ := num_both b hb a4 b4 c4 r4
    obtain ⟨f6, g6, a6, b6, c6, s6, i6, r6, q6, y6, z6⟩ := str_both b hb a5 b5 c5 r5
    obtain ⟨n, n', a7, b7, c7, s7, i7, r7, q7, y7, z7⟩ := num_both b hb a6 b6 c6 r6
    have toS : ∀ R, Ev (fun k => spec_EventRead.l0 k t n 0 b a7 b7 f0 f1 f2 f3 f4 f5 f6 [] 0) R → Ev (fun k => spec_EventRead.f k t) R := by
      intro R hR
      unfold spec_EventRead.f
      exact Ev.bind hS (Ev.pos (by first | rfl | trivial) (Ev.bind s0 (Ev.bind s1 (Ev.bind s2 (Ev.bind s3 (Ev.bind s4 (Ev.bind s5 (Ev.bind s6 (Ev.bind s7 hR)))))))))
    have toI : ∀ R, Ev (fun k => impl_EventRead.l0 k t n' b c7 b7 g0 g1 g2 g3 g4 g5 g6 [] 0) R → Ev (fun k => impl_EventRead.f k t) R := by
      intro R hR
      unfold impl_EventRead.f
      exact Ev.bind hI (Ev.pos (by first | rfl | trivial) (Ev.bind i0 (Ev.bind i1 (Ev.bind i2 (Ev.bind i3 (Ev.bind i4 (Ev.bind i5 (Ev.bind i6 (Ev.bind i7 hR)))))))))
    clear hS hI s0 s1 s2 s3 s4 s5 s6 s7 i0 i1 i2 i3 i4 i5 i6 i7
    cases b7 with
    | true =>
      exact ⟨evZ, Nat.zero_le _, toS _ (sloop_bad t ht0 b hb f0 f1 f2 f3 f4 f5 f6 y0 y1 y2 y3 y4 y5 y6 n 9 0 a7 true [] rfl r7.1 (fun x hx => by cases hx) rfl (Or.inl rfl)),
        toI _ (iloop_bad t ht0 b hb g0 g1 g2 g3 g4 g5 g6 z0 z1 z2 z3 z4 z5 z6 n' c7 [] r7.2.1 (fun x hx => by cases hx) (Nat.zero_le _))⟩
    | false =>
      obtain ⟨e6, rfl⟩ := q7 rfl
      obtain rfl := r7.2.2 rfl
      obtain ⟨e5, rfl⟩ := q6 e6
      obtain ⟨e4, rfl⟩ := q5 e5
      obtain ⟨e3, rfl⟩ := q4 e4
      obtain ⟨e2, rfl⟩ := q3 e3
      obtain ⟨e1, rfl⟩ := q2 e2
      obtain ⟨e0, rfl⟩ := q1 e1
      obtain ⟨_, rfl⟩ := q0 e0
      obtain ⟨R, hR, h1, h2⟩ := loop_both t ht0 b hb f0 f1 f2 f3 f4 f5 f6 y0 y1 y2 y3 y4 y5 y6 n y7 5 0 a7 [] rfl r7.1 (fun x hx => by cases hx) rfl
      refine ⟨R, hR, toS R h1, toI R ?_⟩
      simpa using h2
  · refine ⟨(0, 0, 0, 0, 0, 0, ⟨#[]⟩, [], 0, (unsealed t).2.2), Nat.zero_le _, ?_, ?_⟩
    · unfold spec_EventRead.f; exact Ev.bind hS (Ev.neg c (Ev.now _))
    · unfold impl_EventRead.f; exact Ev.bind hI (Ev.neg c (Ev.now _))


end Go.Proofs.Ytfgphnjaikjfhaa.Print
