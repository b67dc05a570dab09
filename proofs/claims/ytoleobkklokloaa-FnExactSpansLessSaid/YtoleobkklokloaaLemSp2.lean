/- Lemmas: membership in a range set; a difference of range sets. -/
import Derived.Test.YtoleobkklokloaaLemSp1
import Derived.Test.YtoleobkklokloaaStFnExactInSpans
import Derived.Test.YtoleobkklokloaaStFnExactSpansLess
namespace Go.Proofs.Ytoleobkklokloaa.Print
open Go.RowKit Go.Proofs.YtoleobkklokloaaW.PrintWords Go.Proofs.YtoleobkklokloaaW.PrintLast Go.Proofs.YtoleobkklokloaaW.PrintMore
set_option linter.unusedVariables false
set_option linter.unusedSimpArgs false

/-! Membership, differences, marks. -/
theorem inSpans_eq (l : List Sp) (a : Int) : impl_inSpans.f l a = some (l.any fun x => decide (x.f0 ≤ a ∧ a ≤ x.f1)) := rfl
def spIn (l : List Sp) (a : Int) : Bool := l.any fun x => decide (x.f0 ≤ a ∧ a ≤ x.f1)
theorem impl_InSpans_ev (l : List Sp) (a : Int) (hl : l.length ≤ 9223372036854775807) : Ev (fun k => impl_InSpans.f k l a) (spRight l && spIn l a) := by
  unfold impl_InSpans.f
  refine Ev.bind (impl_SR_ev l hl) ?_
  cases h : spRight l
  · exact Ev.neg (by simp) (Ev.now _)
  · exact Ev.pos rfl (Ev.take (inSpans_eq l a) (Ev.now _))
theorem l15In_l0 (l : List Sp) (a : Int) (hl : l.length ≤ 9223372036854775806) (d : Nat) : ∀ i : Nat, i + d = l.length → Ev (fun k => spec_l15In.l0 k l a (i : Int)) (spIn (l.drop i) a) := by
  induction d with
  | zero =>
    intro i hi
    refine Ev.one (fun k => ?_)
    simp only [spec_l15In.l0]
    rw [if_neg (by omega), List.drop_of_length_le (by omega)]; rfl
  | succ d ih =>
    intro i hi
    have hlt : i < l.length := by omega
    rw [drop_cons hlt]
    have hw : wrap64 ((i : Int) + 1) = ((i + 1 : Nat) : Int) := by unfold wrap64; omega
    by_cases c1 : l[i].f0 ≤ a
    · by_cases c2 : a ≤ l[i].f1
      · refine Ev.one (fun k => ?_)
        simp only [spec_l15In.l0]
        rw [if_pos (by omega), if_pos (by omega), sp_at hlt, if_pos (by omega), if_pos (by omega)]
        unfold spIn; rw [List.any_cons]; simp [c1, c2]
      · refine Ev.step (f := fun k => spec_l15In.l0 k l a ((i + 1 : Nat) : Int)) (fun k => ?_) (Ev.to ?_ (ih (i + 1) (by omega)))
        · simp only [spec_l15In.l0]
          rw [if_pos (by omega), if_pos (by omega), sp_at hlt, if_pos (by omega), if_neg (by omega), hw]
        · unfold spIn; rw [List.any_cons]; simp [c2]
    · refine Ev.step (f := fun k => spec_l15In.l0 k l a ((i + 1 : Nat) : Int)) (fun k => ?_) (Ev.to ?_ (ih (i + 1) (by omega)))
      · simp only [spec_l15In.l0]
        rw [if_pos (by omega), if_pos (by omega), sp_at hlt, if_neg (by omega), hw]
      · unfold spIn; rw [List.any_cons]; simp [c1]
theorem spec_InSpans_ev (l : List Sp) (a : Int) (hl : l.length ≤ 9223372036854775806) : Ev (fun k => spec_InSpans.f k l a) (spRight l && spIn l a) := by
  unfold spec_InSpans.f
  refine Ev.bind (spec_SR_ev l (by omega)) ?_
  cases h : spRight l
  · exact Ev.neg (by simp) (Ev.now _)
  · refine Ev.pos rfl (Ev.bind (l15In_l0 l a hl l.length 0 (by omega)) (Ev.now _))

/-- What marking leaves, and that it is still there. -/
def markSp (m : Int) : List Sp → List Sp
  | [] => []
  | _ :: r => ⟨m, m + 1⟩ :: markSp (m + 2) r
theorem markSp_length (l : List Sp) : ∀ m, (markSp m l).length = l.length := by
  induction l with
  | nil => intro m; rfl
  | cons x r ih => intro m; simp [markSp, ih]
theorem markSpanS_l0 (n : Nat) (hn : n ≤ 4194304) (d : Nat) : ∀ (i : Nat) (l : List Sp) (m : Int), i + d = l.length → l.length = n → 0 ≤ m → m ≤ 1099511627776 →
    Ev (fun k => laws_markSpanS.l0 k l (m + 2 * i) (i : Int)) (m + 2 * n, l.take i ++ markSp (m + 2 * i) (l.drop i)) := by
  induction d with
  | zero =>
    intro i l m hi hl h0 h1
    refine Ev.one (fun k => ?_)
    simp only [laws_markSpanS.l0]
    rw [if_neg (by omega), List.drop_of_length_le (by omega), List.take_of_length_le (by omega)]
    simp [markSp]; omega
  | succ d ih =>
    intro i l m hi hl h0 h1
    have hlt : i < l.length := by omega
    refine Ev.step (f := fun k => laws_markSpanS.l0 k (l.set i ⟨m + 2 * i, m + 2 * i + 1⟩) (m + 2 * ((i + 1 : Nat) : Int)) ((i + 1 : Nat) : Int)) (fun k => ?_)
      (Ev.to ?_ (ih (i + 1) (l.set i ⟨m + 2 * i, m + 2 * i + 1⟩) m (by simp; omega) (by simpa using hl) h0 h1))
    · simp only [laws_markSpanS.l0]
      rw [if_pos (by omega), if_pos (by omega)]
      simp only [Option.bind_some, Int.toNat_natCast]
      have e1 : wrap64 (m + 2 * (i : Int) + 1) = m + 2 * i + 1 := w64 (by omega) (by omega)
      have e2 : wrap64 (m + 2 * (i : Int) + 1 + 1) = m + 2 * ((i + 1 : Nat) : Int) := by rw [w64 (by omega) (by omega)]; omega
      have e3 : wrap64 ((i : Int) + 1) = ((i + 1 : Nat) : Int) := by unfold wrap64; omega
      rw [e1, e2, e3, sp_at hlt, sp_at (l := l.set i ⟨m + 2 * i, l[i].f1⟩) (i := i) (by simpa using hlt)]
      simp
    · rw [drop_cons hlt, List.take_succ_eq_append_getElem (by simpa using hlt)]
      have e : m + 2 * ((i + 1 : Nat) : Int) = m + 2 * i + 2 := by omega
      rw [e]; simp only [markSp]
      rw [List.take_set_of_le (Nat.le_refl _), List.drop_set_of_lt (by omega)]; simp
theorem markSpanS_ev (l : List Sp) (m : Int) (hl : l.length ≤ 4194304) (h0 : 0 ≤ m) (h1 : m ≤ 1099511627776) : Ev (fun k => laws_markSpanS.f k l m) (m + 2 * l.length, markSp m l) := by
  unfold laws_markSpanS.f
  simpa using markSpanS_l0 l.length hl l.length 0 l m (by omega) rfl h0 h1
theorem heldSpanS_l0 (m : Int) (h0 : 0 ≤ m) (h1 : m ≤ 1099511627776) (l0 : List Sp) (hl : l0.length ≤ 4194304) (d : Nat) : ∀ i : Nat, i + d = l0.length →
    Ev (fun k => laws_heldSpanS.l0 k (markSp m l0) (m + 2 * i) (i : Int)) (m + 2 * l0.length) := by
  have hget : ∀ (l : List Sp) (m : Int) (i : Nat) (h : i < (markSp m l).length), (markSp m l)[i] = ⟨m + 2 * i, m + 2 * i + 1⟩ := by
    intro l
    induction l with
    | nil => intro m i h; simp [markSp] at h
    | cons x r ih =>
      intro m i h
      cases i with
      | zero => simp [markSp]
      | succ i =>
        simp only [markSp, List.getElem_cons_succ]
        rw [ih]
        congr 1 <;> omega
  induction d with
  | zero =>
    intro i hi
    refine Ev.one (fun k => ?_)
    simp only [laws_heldSpanS.l0]
    rw [markSp_length, if_neg (by omega)]
    congr 1; omega
  | succ d ih =>
    intro i hi
    have hlt : i < (markSp m l0).length := by rw [markSp_length]; omega
    refine Ev.step (f := fun k => laws_heldSpanS.l0 k (markSp m l0) (m + 2 * ((i + 1 : Nat) : Int)) ((i + 1 : Nat) : Int)) (fun k => ?_) (ih (i + 1) (by omega))
    simp only [laws_heldSpanS.l0]
    have e1 : wrap64 (m + 2 * (i : Int) + 1) = m + 2 * i + 1 := w64 (by omega) (by omega)
    have e2 : wrap64 (m + 2 * (i : Int) + 1 + 1) = m + 2 * ((i + 1 : Nat) : Int) := by rw [w64 (by omega) (by omega)]; omega
    have e3 : wrap64 ((i : Int) + 1) = ((i + 1 : Nat) : Int) := by unfold wrap64; omega
    rw [if_pos (by omega), if_pos (by omega), sp_at hlt, hget, e1, if_pos rfl, if_pos rfl, e2, e3]
theorem heldSpanS_ev (l : List Sp) (m : Int) (hl : l.length ≤ 4194304) (h0 : 0 ≤ m) (h1 : m ≤ 1099511627776) : Ev (fun k => laws_heldSpanS.f k (markSp m l) m) (m + 2 * l.length) := by
  unfold laws_heldSpanS.f
  simpa using heldSpanS_l0 m h0 h1 l hl l.length 0 (by omega)

/-! Differences. -/
theorem okFrom_mem {lo : Int} (h1 : 1 ≤ lo) (l : List Sp) (h : okFrom lo l = true) : ∀ y ∈ l, 1 ≤ y.f0 ∧ y.f0 ≤ y.f1 ∧ y.f1 ≤ 1000000 := by
  induction l generalizing lo with
  | nil => intro y hy; simp at hy
  | cons x r ih =>
    rw [okFrom_step, Bool.and_eq_true, decide_eq_true_iff] at h
    intro y hy
    rcases List.mem_cons.1 hy with rfl | hy
    · omega
    · exact ih (by omega) h.2 y hy
theorem spRight_mem {l : List Sp} (h : spRight l = true) : l.length ≤ 400 ∧ ∀ y ∈ l, 1 ≤ y.f0 ∧ y.f0 ≤ y.f1 ∧ y.f1 ≤ 1000000 := by
  unfold spRight at h
  rw [Bool.and_eq_true, decide_eq_true_iff] at h
  exact ⟨h.1, okFrom_mem (by omega) l h.2⟩
def lessIn (te : Int) : List Sp → List Sp → Int → List Sp × Int
  | [], out, fr => (out, fr)
  | y :: r, out, fr => if y.f1 < fr ∨ y.f0 > te then lessIn te r out fr else
      if y.f0 > fr then lessIn te r (out ++ [⟨fr, y.f0 - 1⟩]) (y.f1 + 1) else lessIn te r out (y.f1 + 1)
theorem lessIn_length (te : Int) (l : List Sp) : ∀ out fr, (lessIn te l out fr).1.length ≤ out.length + l.length := by
  induction l with
  | nil => intro out fr; simp [lessIn]
  | cons y r ih =>
    intro out fr
    simp only [lessIn, List.length_cons]
    split
    · have := ih out fr; omega
    · split
      · have := ih (out ++ [⟨fr, y.f0 - 1⟩]) (y.f1 + 1); simp at this; omega
      · have := ih out (y.f1 + 1); omega
def lessEnd (te : Int) (p : List Sp × Int) : List Sp := if p.2 ≤ te then p.1 ++ [⟨p.2, te⟩] else p.1
theorem lessIn_skip {te : Int} {y : Sp} {r out : List Sp} {fr : Int} (c : y.f1 < fr ∨ y.f0 > te) : lessIn te (y :: r) out fr = lessIn te r out fr := by rw [lessIn]; rw [if_pos c]
theorem lessIn_cut {te : Int} {y : Sp} {r out : List Sp} {fr : Int} (c : ¬ (y.f1 < fr ∨ y.f0 > te)) (d : y.f0 > fr) : lessIn te (y :: r) out fr = lessIn te r (out ++ [⟨fr, y.f0 - 1⟩]) (y.f1 + 1) := by rw [lessIn]; rw [if_neg c, if_pos d]
theorem lessIn_past {te : Int} {y : Sp} {r out : List Sp} {fr : Int} (c : ¬ (y.f1 < fr ∨ y.f0 > te)) (d : ¬ y.f0 > fr) : lessIn te (y :: r) out fr = lessIn te r out (y.f1 + 1) := by rw [lessIn]; rw [if_neg c, if_neg d]
def lessOne (b : List Sp) (out : List Sp) (x : Sp) : List Sp := lessEnd x.f1 (lessIn x.f1 b out x.f0)
theorem lessOne_length (b out : List Sp) (x : Sp) : (lessOne b out x).length ≤ out.length + b.length + 1 := by
  have := lessIn_length x.f1 b out x.f0
  unfold lessOne lessEnd; split <;> simp <;> omega
def lessAll (a b : List Sp) : List Sp := a.foldl (lessOne b) []
def spShort (l : List Sp) : List Sp := if l.length > 400 then [] else l
def spLess (a b : List Sp) : List Sp := if spRight a && spRight b then spShort (lessAll a b) else []

theorem impl_SL_l1 (a b : List Sp) (hb : ∀ y ∈ b, 1 ≤ y.f0 ∧ y.f0 ≤ y.f1 ∧ y.f1 ≤ 1000000) (hbl : b.length ≤ 400) (i : Nat) (n : Int) (te : Int) (res : List Sp) (d : Nat) : ∀ (j : Nat) (out : List Sp) (fr : Int), j + d = b.length → out.length + d ≤ 1000000 →
    Ev (fun k => impl_SpansLess.l0 k b (lessEnd te (lessIn te (b.drop j) out fr)) a n (wrap64 ((i : Int) + 1))) res →
    Ev (fun k => impl_SpansLess.l1 k b out a n (i : Int) b (b.length : Int) (j : Int) fr te) res := by
  induction d with
  | zero =>
    intro j out fr hj ho h
    rw [List.drop_of_length_le (by omega), lessIn, lessEnd] at h
    by_cases c : fr ≤ te
    · rw [if_pos (show (out, fr).2 ≤ te from c)] at h
      refine Ev.step (f := fun k => impl_SpansLess.l0 k b (out ++ [⟨fr, te⟩]) a n (wrap64 ((i : Int) + 1))) (fun k => ?_) h
      simp only [impl_SpansLess.l1]
      rw [if_neg (by omega), if_pos c, if_pos (by omega)]
    · rw [if_neg (show ¬ (out, fr).2 ≤ te from c)] at h
      refine Ev.step (f := fun k => impl_SpansLess.l0 k b out a n (wrap64 ((i : Int) + 1))) (fun k => ?_) h
      simp only [impl_SpansLess.l1]
      rw [if_neg (by omega), if_neg c]
  | succ d ih =>
    intro j out fr hj ho h
    have hlt : j < b.length := by omega
    have hy := hb b[j] (List.getElem_mem hlt)
    rw [drop_cons hlt] at h
    have hw : wrap64 ((j : Int) + 1) = ((j + 1 : Nat) : Int) := by unfold wrap64; omega
    generalize hyy : b[j] = y at h hy
    have hr : rd_T58 b (j : Int) = y := by rw [sp_at hlt, hyy]
    have e1 : wrap64 (y.f0 - 1) = y.f0 - 1 := w64 (by omega) (by omega)
    have e2 : wrap64 (y.f1 + 1) = y.f1 + 1 := w64 (by omega) (by omega)
    by_cases c : y.f1 < fr ∨ y.f0 > te
    · rw [lessIn_skip c] at h
      have h2 := ih (j + 1) out fr (by omega) (by omega) h
      have last : Ev (fun k => impl_SpansLess.j3 k b out a n (i : Int) b (b.length : Int) (j : Int) true fr te y.f0 y.f1) res := by
        refine Ev.step (f := fun k => impl_SpansLess.l1 k b out a n (i : Int) b (b.length : Int) ((j + 1 : Nat) : Int) fr te) (fun k => ?_) h2
        simp only [impl_SpansLess.j3]
        rw [if_pos (by trivial), hw]
      by_cases c1 : y.f1 < fr
      · refine Ev.step (f := fun k => impl_SpansLess.j3 k b out a n (i : Int) b (b.length : Int) (j : Int) true fr te y.f0 y.f1) (fun k => ?_) last
        simp only [impl_SpansLess.l1]
        rw [if_pos (by omega), if_pos (by omega), if_pos (by omega), hr, if_pos c1]
      · refine Ev.step (f := fun k => impl_SpansLess.j3 k b out a n (i : Int) b (b.length : Int) (j : Int) true fr te y.f0 y.f1) (fun k => ?_) last
        simp only [impl_SpansLess.l1]
        rw [if_pos (by omega), if_pos (by omega), if_pos (by omega), hr, if_neg c1, decide_eq_true (show y.f0 > te by omega)]
    · refine Ev.step (f := fun k => impl_SpansLess.j3 k b out a n (i : Int) b (b.length : Int) (j : Int) false fr te y.f0 y.f1) (fun k => ?_) ?_
      · simp only [impl_SpansLess.l1]
        rw [if_pos (by omega), if_pos (by omega), if_pos (by omega), hr, if_neg (by omega), decide_eq_false (show ¬ y.f0 > te by omega)]
      · by_cases c2 : y.f0 > fr
        · rw [lessIn_cut c c2] at h
          refine Ev.step (f := fun k => impl_SpansLess.l1 k b (out ++ [⟨fr, y.f0 - 1⟩]) a n (i : Int) b (b.length : Int) ((j + 1 : Nat) : Int) (y.f1 + 1) te) (fun k => ?_) (ih (j + 1) _ _ (by omega) (by simp; omega) h)
          simp only [impl_SpansLess.j3]
          rw [if_neg (by simp), if_pos c2, if_pos (by omega), hw, e1, e2]
        · rw [lessIn_past c c2] at h
          refine Ev.step (f := fun k => impl_SpansLess.l1 k b out a n (i : Int) b (b.length : Int) ((j + 1 : Nat) : Int) (y.f1 + 1) te) (fun k => ?_) (ih (j + 1) _ _ (by omega) (by omega) h)
          simp only [impl_SpansLess.j3]
          rw [if_neg (by simp), if_neg c2, hw, e2]
theorem impl_SL_l0 (a b : List Sp) (hb : ∀ y ∈ b, 1 ≤ y.f0 ∧ y.f0 ≤ y.f1 ∧ y.f1 ≤ 1000000) (hbl : b.length ≤ 400) (hal : a.length ≤ 400) (d : Nat) : ∀ (i : Nat) (out : List Sp), i + d = a.length → out.length + d * 401 ≤ 1000000 →
    Ev (fun k => impl_SpansLess.l0 k b out a (a.length : Int) (i : Int)) (spShort ((a.drop i).foldl (lessOne b) out)) := by
  induction d with
  | zero =>
    intro i out hi ho
    refine Ev.one (fun k => ?_)
    simp only [impl_SpansLess.l0]
    rw [if_neg (by omega), List.drop_of_length_le (by omega)]
    unfold impl_short.f
    rw [List.foldl_nil]; unfold spShort
    by_cases c : out.length > 400
    · rw [if_pos (by omega : (out.length : Int) > 400), if_pos c]; rfl
    · rw [if_neg (by omega : ¬ (out.length : Int) > 400), if_neg c]; rfl
  | succ d ih =>
    intro i out hi ho
    have hlt : i < a.length := by omega
    rw [drop_cons hlt, List.foldl_cons]
    have hw : wrap64 ((i : Int) + 1) = ((i + 1 : Nat) : Int) := by unfold wrap64; omega
    refine Ev.step (f := fun k => impl_SpansLess.l1 k b out a (a.length : Int) (i : Int) b (b.length : Int) ((0 : Nat) : Int) a[i].f0 a[i].f1) (fun k => ?_) ?_
    · simp only [impl_SpansLess.l0]
      rw [if_pos (by omega), if_pos (by omega), if_pos (by omega), sp_at hlt]; rfl
    · refine impl_SL_l1 a b hb hbl i _ _ _ b.length 0 out _ (by omega) (by omega) ?_
      rw [hw, List.drop_zero]
      have := lessOne_length b out a[i]
      exact ih (i + 1) (lessOne b out a[i]) (by omega) (by omega)
theorem impl_SpansLess_ev (a b : List Sp) (ha : a.length ≤ 9223372036854775807) (hb : b.length ≤ 9223372036854775807) : Ev (fun k => impl_SpansLess.f k a b) (spLess a b) := by
  unfold impl_SpansLess.f
  have no : Ev (fun k => impl_SpansLess.j0 k a b true) ([] : List Sp) := by
    refine Ev.one (fun k => ?_)
    simp only [impl_SpansLess.j0]
    rw [if_pos (by trivial)]
  refine Ev.bind (impl_SR_ev a ha) ?_
  by_cases c1 : spRight a = true
  · refine Ev.pos c1 (Ev.bind (impl_SR_ev b hb) ?_)
    by_cases c2 : spRight b = true
    · obtain ⟨l1, m1⟩ := spRight_mem c1
      obtain ⟨l2, m2⟩ := spRight_mem c2
      refine Ev.step (f := fun k => impl_SpansLess.l0 k b [] a (a.length : Int) ((0 : Nat) : Int)) (fun k => ?_) (Ev.to ?_ (impl_SL_l0 a b m2 l2 l1 a.length 0 [] (by omega) (by simp; omega)))
      · simp only [impl_SpansLess.j0]
        rw [if_neg (by simp [c2])]; rfl
      · unfold spLess lessAll; rw [c1, c2]; rfl
    · rw [Bool.eq_false_iff.2 c2]
      refine Ev.to ?_ no
      unfold spLess; rw [Bool.eq_false_iff.2 c2, Bool.and_false]; rfl
  · refine Ev.neg c1 (Ev.to ?_ no)
    unfold spLess; rw [Bool.eq_false_iff.2 c1, Bool.false_and]; rfl

theorem spec_SL_l1 (a b : List Sp) (hb : ∀ y ∈ b, 1 ≤ y.f0 ∧ y.f0 ≤ y.f1 ∧ y.f1 ≤ 1000000) (hbl : b.length ≤ 400) (hal : a.length ≤ 400) (i : Nat) (hi : i < a.length) (res : List Sp) (d : Nat) : ∀ (j : Nat) (out : List Sp) (fr : Int), j + d = b.length → out.length + d ≤ 1000000 →
    Ev (fun k => spec_SpansLess.l0 k a b (lessEnd a[i].f1 (lessIn a[i].f1 (b.drop j) out fr)) (wrap64 ((i : Int) + 1))) res →
    Ev (fun k => spec_SpansLess.l1 k a b out (i : Int) fr (j : Int)) res := by
  have hx : rd_T58 a (i : Int) = a[i] := sp_at hi
  generalize hto : a[i].f1 = te
  induction d with
  | zero =>
    intro j out fr hj ho h
    rw [List.drop_of_length_le (by omega), lessIn, lessEnd] at h
    by_cases c : fr ≤ te
    · rw [if_pos (show (out, fr).2 ≤ te from c)] at h
      refine Ev.step (f := fun k => spec_SpansLess.l0 k a b (out ++ [⟨fr, te⟩]) (wrap64 ((i : Int) + 1))) (fun k => ?_) h
      simp only [spec_SpansLess.l1]
      rw [if_neg (by omega), if_pos (by omega), if_pos (by omega), hx, hto, if_pos c, if_pos (by omega)]
    · rw [if_neg (show ¬ (out, fr).2 ≤ te from c)] at h
      refine Ev.step (f := fun k => spec_SpansLess.l0 k a b out (wrap64 ((i : Int) + 1))) (fun k => ?_) h
      simp only [spec_SpansLess.l1]
      rw [if_neg (by omega), if_pos (by omega), if_pos (by omega), hx, hto, if_neg c]
  | succ d ih =>
    intro j out fr hj ho h
    have hlt : j < b.length := by omega
    have hy := hb b[j] (List.getElem_mem hlt)
    rw [drop_cons hlt] at h
    have hw : wrap64 ((j : Int) + 1) = ((j + 1 : Nat) : Int) := by unfold wrap64; omega
    generalize hyy : b[j] = y at h hy
    have hr : rd_T58 b (j : Int) = y := by rw [sp_at hlt, hyy]
    have e1 : wrap64 (y.f0 - 1) = y.f0 - 1 := w64 (by omega) (by omega)
    have e2 : wrap64 (y.f1 + 1) = y.f1 + 1 := w64 (by omega) (by omega)
    by_cases c : y.f1 < fr ∨ y.f0 > te
    · rw [lessIn_skip c] at h
      have h2 := ih (j + 1) out fr (by omega) (by omega) h
      have last : Ev (fun k => spec_SpansLess.j3 k a b out (i : Int) fr (j : Int) true) res := by
        refine Ev.step (f := fun k => spec_SpansLess.l1 k a b out (i : Int) fr ((j + 1 : Nat) : Int)) (fun k => ?_) h2
        simp only [spec_SpansLess.j3]
        rw [if_pos (by trivial), hw]
      by_cases c1 : y.f1 < fr
      · refine Ev.step (f := fun k => spec_SpansLess.j3 k a b out (i : Int) fr (j : Int) true) (fun k => ?_) last
        simp only [spec_SpansLess.l1]
        rw [if_pos (by omega), if_pos (by omega), hr, if_pos c1]
      · refine Ev.step (f := fun k => spec_SpansLess.j3 k a b out (i : Int) fr (j : Int) true) (fun k => ?_) last
        simp only [spec_SpansLess.l1]
        rw [if_pos (by omega), if_pos (by omega), hr, if_neg c1, if_pos (by omega), if_pos (by omega), hx, hto, decide_eq_true (show y.f0 > te by omega)]
    · refine Ev.step (f := fun k => spec_SpansLess.j3 k a b out (i : Int) fr (j : Int) false) (fun k => ?_) ?_
      · simp only [spec_SpansLess.l1]
        rw [if_pos (by omega), if_pos (by omega), hr, if_neg (by omega), if_pos (by omega), if_pos (by omega), hx, hto, decide_eq_false (show ¬ y.f0 > te by omega)]
      · by_cases c2 : y.f0 > fr
        · rw [lessIn_cut c c2] at h
          refine Ev.step (f := fun k => spec_SpansLess.l1 k a b (out ++ [⟨fr, y.f0 - 1⟩]) (i : Int) (y.f1 + 1) ((j + 1 : Nat) : Int)) (fun k => ?_) (ih (j + 1) _ _ (by omega) (by simp; omega) h)
          simp only [spec_SpansLess.j3]
          rw [if_neg (by simp), if_pos (by omega), if_pos (by omega), hr, if_pos c2, if_pos (by omega), hw, e1, e2]
        · rw [lessIn_past c c2] at h
          refine Ev.step (f := fun k => spec_SpansLess.l1 k a b out (i : Int) (y.f1 + 1) ((j + 1 : Nat) : Int)) (fun k => ?_) (ih (j + 1) _ _ (by omega) (by omega) h)
          simp only [spec_SpansLess.j3]
          rw [if_neg (by simp), if_pos (by omega), if_pos (by omega), hr, if_neg c2, hw, e2]
theorem spec_SL_l0 (a b : List Sp) (hb : ∀ y ∈ b, 1 ≤ y.f0 ∧ y.f0 ≤ y.f1 ∧ y.f1 ≤ 1000000) (hbl : b.length ≤ 400) (hal : a.length ≤ 400) (d : Nat) : ∀ (i : Nat) (out : List Sp), i + d = a.length → out.length + d * 401 ≤ 1000000 →
    Ev (fun k => spec_SpansLess.l0 k a b out (i : Int)) (spShort ((a.drop i).foldl (lessOne b) out)) := by
  induction d with
  | zero =>
    intro i out hi ho
    refine Ev.one (fun k => ?_)
    simp only [spec_SpansLess.l0]
    rw [if_neg (by omega), List.drop_of_length_le (by omega)]
    rw [List.foldl_nil]; unfold spShort
    by_cases c : out.length > 400
    · rw [if_pos (by omega), if_pos c]
    · rw [if_neg (by omega), if_neg c]
  | succ d ih =>
    intro i out hi ho
    have hlt : i < a.length := by omega
    rw [drop_cons hlt, List.foldl_cons]
    have hw : wrap64 ((i : Int) + 1) = ((i + 1 : Nat) : Int) := by unfold wrap64; omega
    refine Ev.step (f := fun k => spec_SpansLess.l1 k a b out (i : Int) a[i].f0 ((0 : Nat) : Int)) (fun k => ?_) ?_
    · simp only [spec_SpansLess.l0]
      rw [if_pos (by omega), if_pos (by omega), sp_at hlt]; rfl
    · refine spec_SL_l1 a b hb hbl hal i hlt _ b.length 0 out _ (by omega) (by omega) ?_
      rw [hw, List.drop_zero]
      have := lessOne_length b out a[i]
      exact ih (i + 1) (lessOne b out a[i]) (by omega) (by omega)
theorem spec_SpansLess_ev (a b : List Sp) (ha : a.length ≤ 9223372036854775807) (hb : b.length ≤ 9223372036854775807) : Ev (fun k => spec_SpansLess.f k a b) (spLess a b) := by
  unfold spec_SpansLess.f
  have no : Ev (fun k => spec_SpansLess.j0 k a b [] true) ([] : List Sp) := by
    refine Ev.one (fun k => ?_)
    simp only [spec_SpansLess.j0]
    rw [if_pos (by trivial)]
  refine Ev.take (a := ([] : List Sp)) rfl (Ev.bind (spec_SR_ev a ha) ?_)
  by_cases c1 : spRight a = true
  · refine Ev.pos c1 (Ev.bind (spec_SR_ev b hb) ?_)
    by_cases c2 : spRight b = true
    · obtain ⟨l1, m1⟩ := spRight_mem c1
      obtain ⟨l2, m2⟩ := spRight_mem c2
      refine Ev.step (f := fun k => spec_SpansLess.l0 k a b [] ((0 : Nat) : Int)) (fun k => ?_) (Ev.to ?_ (spec_SL_l0 a b m2 l2 l1 a.length 0 [] (by omega) (by simp; omega)))
      · simp only [spec_SpansLess.j0]
        rw [if_neg (by simp [c2])]; rfl
      · unfold spLess lessAll; rw [c1, c2]; rfl
    · rw [Bool.eq_false_iff.2 c2]
      refine Ev.to ?_ no
      unfold spLess; rw [Bool.eq_false_iff.2 c2, Bool.and_false]; rfl
  · refine Ev.neg c1 (Ev.to ?_ no)
    unfold spLess; rw [Bool.eq_false_iff.2 c1, Bool.false_and]; rfl
theorem spLess_length (a b : List Sp) : (spLess a b).length ≤ 400 := by
  unfold spLess spShort; split
  · split
    · simp
    · omega
  · simp


end Go.Proofs.Ytoleobkklokloaa.Print
