/- Lemmas: range sets joined. -/
import Derived.Test.YtepbkhgffjinjaaStFnExactSpansJoin
import Derived.Test.YtepbkhgffjinjaaLemOpens
import Derived.Laws.Bits64
namespace Go.Proofs.Ytepbkhgffjinjaa.Print
open Go.RowKit Go.Proofs.YtepbkhgffjinjaaW.PrintWords Go.Proofs.YtepbkhgffjinjaaW.PrintLast Go.Proofs.YtepbkhgffjinjaaW.PrintMore
set_option linter.unusedVariables false
set_option linter.unusedSimpArgs false

/-! Rounds: small helpers. -/
theorem Ev.pos {α : Type} {c : Prop} [Decidable c] {f g : Nat → Option α} {r : α} (hc : c) (h : Ev f r) : Ev (fun n => if c then f n else g n) r := by
  simp only [hc, if_true]; exact h
theorem Ev.neg {α : Type} {c : Prop} [Decidable c] {f g : Nat → Option α} {r : α} (hc : ¬ c) (h : Ev g r) : Ev (fun n => if c then f n else g n) r := by
  simp only [hc, if_false]; exact h
theorem Ev.here {α : Type} {o : Option α} {r : α} (h : o = some r) : Ev (fun _ => o) r := ⟨0, fun _ _ => h⟩
theorem Ev.take {α β : Type} {o : Option α} {f : Nat → α → Option β} {a : α} {r : β} (h : o = some a) (k : Ev (fun n => f n a) r) : Ev (fun n => o.bind (f n)) r := by
  subst h; exact k
theorem Ev.one {α : Type} {g : Nat → Option α} {r : α} (h : ∀ k, g (k + 1) = some r) : Ev g r := Ev.step (f := fun _ => some r) h (Ev.now r)
theorem Ev.to {α : Type} {g : Nat → Option α} {r q : α} (e : r = q) (h : Ev g r) : Ev g q := e ▸ h

/-! Lists of structs, read one by one. -/
theorem w64 {n : Int} (h0 : -9223372036854775808 ≤ n) (h1 : n ≤ 9223372036854775807) : wrap64 n = n := by unfold wrap64; omega
theorem drop_cons {α : Type} {l : List α} {i : Nat} (h : i < l.length) : l.drop i = l[i] :: l.drop (i + 1) := List.drop_eq_getElem_cons h
theorem getD_at {α : Type} {l : List α} {i : Nat} (d : α) (h : i < l.length) : l.getD ((i : Int)).toNat d = l[i] := by
  rw [Int.toNat_natCast, List.getD_eq_getElem?_getD, List.getElem?_eq_getElem h]; rfl

/-! Range sets: valid ones; copies; comparisons. -/
abbrev Sp := S60
abbrev SpL := S78
def toSp (x : SpL) : Sp := ⟨x.f0, x.f1⟩
theorem sp_at {l : List Sp} {i : Nat} (h : i < l.length) : rd_T60 l (i : Int) = l[i] := getD_at _ h
theorem spL_at {l : List SpL} {i : Nat} (h : i < l.length) : rd_T78 l (i : Int) = l[i] := getD_at _ h
theorem in_eq (a b c : Int) : impl_in.f a b c = some (decide (b ≤ a ∧ a ≤ c)) := by
  unfold impl_in.f; split <;> simp [*]
theorem is_eq (a b c : Int) : spec_l02Is.f a b c = some (decide (b ≤ a ∧ a ≤ c)) := by
  unfold spec_l02Is.f
  by_cases h : b ≤ a
  · rw [if_pos h]; simp [h]
  · rw [if_neg h]; simp [h]
theorem isId_eq (a : Int) : impl_isId.f a = some (decide (1 ≤ a ∧ a ≤ 1000000)) := by unfold impl_isId.f; rw [in_eq]; rfl
theorem l02Id_eq (a : Int) : spec_l02Id.f a = some (decide (1 ≤ a ∧ a ≤ 1000000)) := by unfold spec_l02Id.f; rw [is_eq]; rfl
/-- Valid from a least number on. -/
def okFrom : Int → List Sp → Bool
  | _, [] => true
  | lo, x :: r => decide (lo ≤ x.f0 ∧ x.f0 ≤ x.f1 ∧ x.f1 ≤ 1000000) && okFrom (x.f1 + 2) r
def spRight (l : List Sp) : Bool := decide (l.length ≤ 400) && okFrom 1 l

/-- What a round of either side's loop asks of an element behind another one. -/
theorem okFrom_step {lo : Int} {x : Sp} {r : List Sp} : okFrom lo (x :: r) = (decide (lo ≤ x.f0 ∧ x.f0 ≤ x.f1 ∧ x.f1 ≤ 1000000) && okFrom (x.f1 + 2) r) := rfl

theorem impl_SR_l0 (l : List Sp) (hl : l.length ≤ 9223372036854775807) (d : Nat) : ∀ (i : Nat) (lo : Int), i + d = l.length → 1 ≤ lo → lo ≤ 1000002 →
    (i = 0 ∧ lo = 1 ∨ ∃ h : 0 < i ∧ i ≤ l.length, lo = (l[i - 1]'(by omega)).f1 + 2) →
    Ev (fun k => impl_SpansRight.l0 k l l (l.length : Int) (i : Int)) (okFrom lo (l.drop i) && decide (l.length ≤ 400)) := by
  induction d with
  | zero =>
    intro i lo hi _ _ _
    refine Ev.one (fun k => ?_)
    simp only [impl_SpansRight.l0]
    rw [if_neg (by omega), List.drop_of_length_le (by omega)]
    simp [okFrom]
    omega
  | succ d ih =>
    intro i lo hi h1 h2 hp
    have hlt : i < l.length := by omega
    rw [drop_cons hlt, okFrom_step]
    have hw : wrap64 ((i : Int) + 1) = ((i + 1 : Nat) : Int) := by unfold wrap64; omega
    generalize hx : l[i] = x
    have hx' : rd_T60 l (i : Int) = x := by rw [sp_at hlt, hx]
    by_cases c1 : 1 ≤ x.f0 ∧ x.f0 ≤ 1000000
    · by_cases c2 : x.f0 ≤ x.f1 ∧ x.f1 ≤ 1000000
      · by_cases c3 : lo ≤ x.f0
        · refine Ev.step (f := fun k => impl_SpansRight.l0 k l l (l.length : Int) ((i + 1 : Nat) : Int)) (fun k => ?_) ?_
          · simp only [impl_SpansRight.l0]
            rw [if_pos (by omega), if_pos (by omega), if_pos (by omega), hx', isId_eq, in_eq, hw]
            simp only [Option.bind_some]
            rw [if_pos (by simpa using c1), if_pos (by simpa using c2)]
            rcases hp with ⟨rfl, rfl⟩ | ⟨⟨p1, p2⟩, hlo⟩
            · rw [if_neg (by omega)]
            · have e1 : wrap64 ((i : Int) - 1) = ((i - 1 : Nat) : Int) := by unfold wrap64; omega
              have e2 : wrap64 ((l[i - 1]'(by omega)).f1 + 2) = lo := by rw [← hlo]; exact w64 (by omega) (by omega)
              rw [if_pos (by omega), e1, if_pos (by omega), if_pos (by omega), sp_at (by omega), e2, if_neg (by omega)]
          · have := ih (i + 1) (x.f1 + 2) (by omega) (by omega) (by omega) (Or.inr ⟨⟨by omega, by omega⟩, by
              simp only [Nat.add_sub_cancel]; rw [hx]⟩)
            rw [show decide (lo ≤ x.f0 ∧ x.f0 ≤ x.f1 ∧ x.f1 ≤ 1000000) = true from decide_eq_true ⟨c3, c2⟩, Bool.true_and]
            exact this
        · rw [show decide (lo ≤ x.f0 ∧ x.f0 ≤ x.f1 ∧ x.f1 ≤ 1000000) = false from decide_eq_false (by omega), Bool.false_and, Bool.false_and]
          refine Ev.one (fun k => ?_)
          simp only [impl_SpansRight.l0]
          rw [if_pos (by omega), if_pos (by omega), if_pos (by omega), hx', isId_eq, in_eq]
          simp only [Option.bind_some]
          rw [if_pos (by simpa using c1), if_pos (by simpa using c2)]
          rcases hp with ⟨rfl, rfl⟩ | ⟨⟨p1, p2⟩, hlo⟩
          · omega
          · have e1 : wrap64 ((i : Int) - 1) = ((i - 1 : Nat) : Int) := by unfold wrap64; omega
            have e2 : wrap64 ((l[i - 1]'(by omega)).f1 + 2) = lo := by rw [← hlo]; exact w64 (by omega) (by omega)
            rw [if_pos (by omega), e1, if_pos (by omega), if_pos (by omega), sp_at (by omega), e2, if_pos (by omega)]
      · rw [show decide (lo ≤ x.f0 ∧ x.f0 ≤ x.f1 ∧ x.f1 ≤ 1000000) = false from decide_eq_false (by omega), Bool.false_and, Bool.false_and]
        refine Ev.one (fun k => ?_)
        simp only [impl_SpansRight.l0]
        rw [if_pos (by omega), if_pos (by omega), if_pos (by omega), hx', isId_eq, in_eq]
        simp only [Option.bind_some]
        rw [if_pos (by simpa using c1), if_neg (by simpa using c2)]
    · rw [show decide (lo ≤ x.f0 ∧ x.f0 ≤ x.f1 ∧ x.f1 ≤ 1000000) = false from decide_eq_false (by omega), Bool.false_and, Bool.false_and]
      refine Ev.one (fun k => ?_)
      simp only [impl_SpansRight.l0]
      rw [if_pos (by omega), if_pos (by omega), if_pos (by omega), hx', isId_eq]
      simp only [Option.bind_some]
      rw [if_neg (by simpa using c1)]
theorem impl_SR_ev (l : List Sp) (hl : l.length ≤ 9223372036854775807) : Ev (fun k => impl_SpansRight.f k l) (spRight l) := by
  unfold impl_SpansRight.f spRight
  rw [Bool.and_comm]
  simpa using impl_SR_l0 l hl l.length 0 1 (by omega) (by omega) (by omega) (Or.inl ⟨rfl, rfl⟩)

theorem spec_SR_l0 (l : List Sp) (hl : l.length ≤ 9223372036854775807) (d : Nat) : ∀ (i : Nat) (lo : Int), i + d = l.length → 1 ≤ lo → lo ≤ 1000002 →
    (i = 0 ∧ lo = 1 ∨ ∃ h : 0 < i ∧ i ≤ l.length, lo = (l[i - 1]'(by omega)).f1 + 2) →
    Ev (fun k => spec_SpansRight.l0 k l (i : Int)) (okFrom lo (l.drop i)) := by
  induction d with
  | zero =>
    intro i lo hi _ _ _
    refine Ev.one (fun k => ?_)
    simp only [spec_SpansRight.l0]
    rw [if_neg (by omega), List.drop_of_length_le (by omega)]
    simp [okFrom]
  | succ d ih =>
    intro i lo hi h1 h2 hp
    have hlt : i < l.length := by omega
    rw [drop_cons hlt, okFrom_step]
    have hw : wrap64 ((i : Int) + 1) = ((i + 1 : Nat) : Int) := by unfold wrap64; omega
    generalize hx : l[i] = x
    have hx' : rd_T60 l (i : Int) = x := by rw [sp_at hlt, hx]
    by_cases c1 : 1 ≤ x.f0 ∧ x.f0 ≤ 1000000
    · by_cases c2 : x.f0 ≤ x.f1 ∧ x.f1 ≤ 1000000
      · by_cases c3 : lo ≤ x.f0
        · refine Ev.step (f := fun k => spec_SpansRight.l0 k l ((i + 1 : Nat) : Int)) (fun k => ?_) ?_
          · simp only [spec_SpansRight.l0]
            rw [if_pos (by omega), if_pos (by omega), hx', l02Id_eq, is_eq, hw]
            simp only [Option.bind_some]
            rw [if_pos (by simpa using c1), if_pos (by simpa using c2)]
            rcases hp with ⟨rfl, rfl⟩ | ⟨⟨p1, p2⟩, hlo⟩
            · rw [if_neg (by omega)]
            · have e1 : wrap64 ((i : Int) - 1) = ((i - 1 : Nat) : Int) := by unfold wrap64; omega
              have e2 : wrap64 ((l[i - 1]'(by omega)).f1 + 2) = lo := by rw [← hlo]; exact w64 (by omega) (by omega)
              rw [if_pos (by omega), e1, if_pos (by omega), if_pos (by omega), sp_at (by omega), e2, if_neg (by omega)]
          · have := ih (i + 1) (x.f1 + 2) (by omega) (by omega) (by omega) (Or.inr ⟨⟨by omega, by omega⟩, by
              simp only [Nat.add_sub_cancel]; rw [hx]⟩)
            rw [show decide (lo ≤ x.f0 ∧ x.f0 ≤ x.f1 ∧ x.f1 ≤ 1000000) = true from decide_eq_true ⟨c3, c2⟩, Bool.true_and]
            exact this
        · rw [show decide (lo ≤ x.f0 ∧ x.f0 ≤ x.f1 ∧ x.f1 ≤ 1000000) = false from decide_eq_false (by omega), Bool.false_and]
          refine Ev.one (fun k => ?_)
          simp only [spec_SpansRight.l0]
          rw [if_pos (by omega), if_pos (by omega), hx', l02Id_eq, is_eq]
          simp only [Option.bind_some]
          rw [if_pos (by simpa using c1), if_pos (by simpa using c2)]
          rcases hp with ⟨rfl, rfl⟩ | ⟨⟨p1, p2⟩, hlo⟩
          · omega
          · have e1 : wrap64 ((i : Int) - 1) = ((i - 1 : Nat) : Int) := by unfold wrap64; omega
            have e2 : wrap64 ((l[i - 1]'(by omega)).f1 + 2) = lo := by rw [← hlo]; exact w64 (by omega) (by omega)
            rw [if_pos (by omega), e1, if_pos (by omega), if_pos (by omega), sp_at (by omega), e2, if_pos (by omega)]
      · rw [show decide (lo ≤ x.f0 ∧ x.f0 ≤ x.f1 ∧ x.f1 ≤ 1000000) = false from decide_eq_false (by omega), Bool.false_and]
        refine Ev.one (fun k => ?_)
        simp only [spec_SpansRight.l0]
        rw [if_pos (by omega), if_pos (by omega), hx', l02Id_eq, is_eq]
        simp only [Option.bind_some]
        rw [if_pos (by simpa using c1), if_neg (by simpa using c2)]
    · rw [show decide (lo ≤ x.f0 ∧ x.f0 ≤ x.f1 ∧ x.f1 ≤ 1000000) = false from decide_eq_false (by omega), Bool.false_and]
      refine Ev.one (fun k => ?_)
      simp only [spec_SpansRight.l0]
      rw [if_pos (by omega), if_pos (by omega), hx', l02Id_eq]
      simp only [Option.bind_some]
      rw [if_neg (by simpa using c1)]
theorem spec_SR_ev (l : List Sp) (hl : l.length ≤ 9223372036854775807) : Ev (fun k => spec_SpansRight.f k l) (spRight l) := by
  unfold spec_SpansRight.f spRight
  by_cases c : l.length ≤ 400
  · refine Ev.neg (by omega) (Ev.to ?_ (spec_SR_l0 l hl l.length 0 1 (by omega) (by omega) (by omega) (Or.inl ⟨rfl, rfl⟩)))
    simp [c]
  · exact Ev.pos (by omega) (Ev.to (by simp [c]) (Ev.now _))

/-! ### the laws' own helpers -/
theorem sz_ge (n : Nat) (a : Int) (ha : -1 ≤ a) (h : a ≤ 1048576) (hn : n ≤ 9223372036854775807) : wrap64 (a - (n : Int)) = a - n := w64 (by omega) (by omega)
theorem szSpanS_eq (l : List SpL) (a : Int) (ha : -1 ≤ a) (h : a ≤ 1048576) (hn : l.length ≤ 9223372036854775807) :
    laws_szSpanS.f l a = some (if a < l.length then -1 else a - l.length) := by
  unfold laws_szSpanS.f
  rw [sz_ge _ _ ha h hn]
  by_cases c : a < l.length
  · rw [if_pos (by omega), if_pos c]
  · rw [if_neg (by omega), if_neg c]
theorem toSpan_eq (a b : Int) : laws_toSpan.f a b = some (a, b) := rfl
theorem toSpanS_l0 (l : List SpL) (hl : l.length ≤ 1048576) (d : Nat) : ∀ (i : Nat) (acc : List Sp), i + d = l.length → acc.length = l.length → acc.take i = (l.take i).map toSp →
    Ev (fun k => laws_toSpanS.l0 k l acc (i : Int)) (l.map toSp) := by
  induction d with
  | zero =>
    intro i acc hi ha hp
    refine Ev.to ?_ (Ev.one (r := acc) (fun k => ?_))
    · rw [List.take_of_length_le (by omega), List.take_of_length_le (by omega)] at hp
      exact hp
    · simp only [laws_toSpanS.l0]
      rw [if_neg (by omega)]
  | succ d ih =>
    intro i acc hi ha hp
    have hlt : i < l.length := by omega
    refine Ev.step (f := fun k => laws_toSpanS.l0 k l (acc.set i (toSp l[i])) ((i + 1 : Nat) : Int)) (fun k => ?_) (ih (i + 1) (acc.set i (toSp l[i])) (by omega) (by simpa using ha) ?_)
    · simp only [laws_toSpanS.l0]
      rw [if_pos (by omega), if_pos (by omega), spL_at hlt, toSpan_eq]
      simp only [Option.bind_some]
      rw [if_pos (by omega), w64 (by omega) (by omega), Int.toNat_natCast]
      rfl
    · rw [List.take_succ_eq_append_getElem (by simp; omega), List.take_succ_eq_append_getElem hlt, List.map_append, ← hp, List.take_set_of_le (by omega)]
      simp
theorem toSpanS_ev (l : List SpL) (hl : l.length ≤ 1048576) : Ev (fun k => laws_toSpanS.f k l) (l.map toSp) := by
  unfold laws_toSpanS.f
  refine Ev.pos (by omega) (Ev.pos (by simp; omega) ?_)
  exact toSpanS_l0 l hl l.length 0 _ (by omega) (by simp) (by simp)
theorem eqSpan_self (a b : Int) : laws_eqSpan.f a b a b = some true := by unfold laws_eqSpan.f; simp
theorem eqSpanS_l0 (l : List Sp) (hl : l.length ≤ 9223372036854775806) (d : Nat) : ∀ i : Nat, i + d = l.length → Ev (fun k => laws_eqSpanS.l0 k l l (i : Int)) true := by
  induction d with
  | zero =>
    intro i hi
    refine Ev.one (fun k => ?_)
    simp only [laws_eqSpanS.l0]
    rw [if_neg (by omega)]
  | succ d ih =>
    intro i hi
    refine Ev.step (f := fun k => laws_eqSpanS.l0 k l l ((i + 1 : Nat) : Int)) (fun k => ?_) (ih (i + 1) (by omega))
    simp only [laws_eqSpanS.l0]
    rw [if_pos (by omega), if_pos (by omega), if_pos (by omega), eqSpan_self]
    simp only [Option.bind_some, if_true]
    rw [w64 (by omega) (by omega)]; rfl
theorem eqSpanS_ev (l : List Sp) (hl : l.length ≤ 9223372036854775806) : Ev (fun k => laws_eqSpanS.f k l l) true := by
  unfold laws_eqSpanS.f
  exact Ev.pos rfl (eqSpanS_l0 l hl l.length 0 (by omega))

/-! Marks of a range set. -/
/-- What marking leaves, and that it is still there. -/
def markSp (m : Int) : List Sp → List Sp
  | [] => []
  | _ :: r => ⟨m, m + 1⟩ :: markSp (m + 2) r
theorem markSp_length (l : List Sp) : ∀ m, (markSp m l).length = l.length := by
  induction l with
  | nil => intro m; rfl
  | cons x r ih => intro m; simp [markSp, ih]
theorem markSpanS_l0 (n : Nat) (hn : n ≤ 4194304) (d : Nat) : ∀ (i : Nat) (l : List Sp) (m : Int), i + d = l.length → l.length = n → 0 ≤ m → m ≤ 1099511627776 →
    Ev (fun k => laws_markSpanS.l0 k l (m + 2 * i) (i : Int)) (m + 2 * n, l.take i ++ markSp (m + 2 * i) (l.drop i)) := by
  induction d with
  | zero =>
    intro i l m hi hl h0 h1
    refine Ev.one (fun k => ?_)
    simp only [laws_markSpanS.l0]
    rw [if_neg (by omega), List.drop_of_length_le (by omega), List.take_of_length_le (by omega)]
    simp [markSp]; omega
  | succ d ih =>
    intro i l m hi hl h0 h1
    have hlt : i < l.length := by omega
    refine Ev.step (f := fun k => laws_markSpanS.l0 k (l.set i ⟨m + 2 * i, m + 2 * i + 1⟩) (m + 2 * ((i + 1 : Nat) : Int)) ((i + 1 : Nat) : Int)) (fun k => ?_)
      (Ev.to ?_ (ih (i + 1) (l.set i ⟨m + 2 * i, m + 2 * i + 1⟩) m (by simp; omega) (by simpa using hl) h0 h1))
    · simp only [laws_markSpanS.l0]
      rw [if_pos (by omega), if_pos (by omega)]
      simp only [Option.bind_some, Int.toNat_natCast]
      have e1 : wrap64 (m + 2 * (i : Int) + 1) = m + 2 * i + 1 := w64 (by omega) (by omega)
      have e2 : wrap64 (m + 2 * (i : Int) + 1 + 1) = m + 2 * ((i + 1 : Nat) : Int) := by rw [w64 (by omega) (by omega)]; omega
      have e3 : wrap64 ((i : Int) + 1) = ((i + 1 : Nat) : Int) := by unfold wrap64; omega
      rw [e1, e2, e3, sp_at hlt, sp_at (l := l.set i ⟨m + 2 * i, l[i].f1⟩) (i := i) (by simpa using hlt)]
      simp
    · rw [drop_cons hlt, List.take_succ_eq_append_getElem (by simpa using hlt)]
      have e : m + 2 * ((i + 1 : Nat) : Int) = m + 2 * i + 2 := by omega
      rw [e]; simp only [markSp]
      rw [List.take_set_of_le (Nat.le_refl _), List.drop_set_of_lt (by omega)]; simp
theorem markSpanS_ev (l : List Sp) (m : Int) (hl : l.length ≤ 4194304) (h0 : 0 ≤ m) (h1 : m ≤ 1099511627776) : Ev (fun k => laws_markSpanS.f k l m) (m + 2 * l.length, markSp m l) := by
  unfold laws_markSpanS.f
  simpa using markSpanS_l0 l.length hl l.length 0 l m (by omega) rfl h0 h1
theorem heldSpanS_l0 (m : Int) (h0 : 0 ≤ m) (h1 : m ≤ 1099511627776) (l0 : List Sp) (hl : l0.length ≤ 4194304) (d : Nat) : ∀ i : Nat, i + d = l0.length →
    Ev (fun k => laws_heldSpanS.l0 k (markSp m l0) (m + 2 * i) (i : Int)) (m + 2 * l0.length) := by
  have hget : ∀ (l : List Sp) (m : Int) (i : Nat) (h : i < (markSp m l).length), (markSp m l)[i] = ⟨m + 2 * i, m + 2 * i + 1⟩ := by
    intro l
    induction l with
    | nil => intro m i h; simp [markSp] at h
    | cons x r ih =>
      intro m i h
      cases i with
      | zero => simp [markSp]
      | succ i =>
        simp only [markSp, List.getElem_cons_succ]
        rw [ih]
        congr 1 <;> omega
  induction d with
  | zero =>
    intro i hi
    refine Ev.one (fun k => ?_)
    simp only [laws_heldSpanS.l0]
    rw [markSp_length, if_neg (by omega)]
    congr 1; omega
  | succ d ih =>
    intro i hi
    have hlt : i < (markSp m l0).length := by rw [markSp_length]; omega
    refine Ev.step (f := fun k => laws_heldSpanS.l0 k (markSp m l0) (m + 2 * ((i + 1 : Nat) : Int)) ((i + 1 : Nat) : Int)) (fun k => ?_) (ih (i + 1) (by omega))
    simp only [laws_heldSpanS.l0]
    have e1 : wrap64 (m + 2 * (i : Int) + 1) = m + 2 * i + 1 := w64 (by omega) (by omega)
    have e2 : wrap64 (m + 2 * (i : Int) + 1 + 1) = m + 2 * ((i + 1 : Nat) : Int) := by rw [w64 (by omega) (by omega)]; omega
    have e3 : wrap64 ((i : Int) + 1) = ((i + 1 : Nat) : Int) := by unfold wrap64; omega
    rw [if_pos (by omega), if_pos (by omega), sp_at hlt, hget, e1, if_pos rfl, if_pos rfl, e2, e3]
theorem heldSpanS_ev (l : List Sp) (m : Int) (hl : l.length ≤ 4194304) (h0 : 0 ≤ m) (h1 : m ≤ 1099511627776) : Ev (fun k => laws_heldSpanS.f k (markSp m l) m) (m + 2 * l.length) := by
  unfold laws_heldSpanS.f
  simpa using heldSpanS_l0 m h0 h1 l hl l.length 0 (by omega)

/-! A union of range sets. -/
def addS (out : List Sp) (x : Sp) : List Sp := if h : 0 < out.length then (if x.f0 ≤ (out[out.length - 1]).f1 + 1 then out.set (out.length - 1) ⟨(out[out.length - 1]).f0, mx (out[out.length - 1]).f1 x.f1⟩ else out ++ [x]) else out ++ [x]
theorem addS_nil (x : Sp) : addS [] x = [x] := rfl
theorem addS_snoc (o : List Sp) (z x : Sp) : addS (o ++ [z]) x = if x.f0 ≤ z.f1 + 1 then o ++ [⟨z.f0, mx z.f1 x.f1⟩] else o ++ [z] ++ [x] := by
  unfold addS
  have h : 0 < (o ++ [z]).length := by simp
  rw [dif_pos h]
  have e : (o ++ [z])[(o ++ [z]).length - 1]'(by simp) = z := by simp
  rw [e]
  split
  · simp
  · rfl
theorem mx_comm3 (a b c : Int) : mx (mx a b) c = mx (mx a c) b := by unfold mx; split <;> split <;> (try split) <;> (try split) <;> omega
theorem mx_comm (a b : Int) : mx a b = mx b a := by unfold mx; split <;> split <;> omega
theorem le_mx (a b : Int) : a ≤ mx a b := by unfold mx; split <;> omega
theorem snoc_cases (out : List Sp) : out = [] ∨ ∃ o z, out = o ++ [z] := by
  rcases List.eq_nil_or_concat out with h | ⟨o, z, h⟩
  · exact .inl h
  · exact .inr ⟨o, z, by simpa using h⟩
theorem addS_comm (out : List Sp) (x y : Sp) (he : x.f0 = y.f0) (hx : x.f0 ≤ x.f1) (hy : y.f0 ≤ y.f1) : addS (addS out x) y = addS (addS out y) x := by
  rcases snoc_cases out with rfl | ⟨o, z, rfl⟩
  · rw [addS_nil, addS_nil]
    have e1 := addS_snoc [] x y
    have e2 := addS_snoc [] y x
    simp only [List.nil_append] at e1 e2
    rw [e1, e2, if_pos (by omega), if_pos (by omega), he, mx_comm]
  · rw [addS_snoc, addS_snoc]
    by_cases c : x.f0 ≤ z.f1 + 1
    · rw [if_pos c, if_pos (by omega), addS_snoc, addS_snoc]
      have h1 := le_mx z.f1 x.f1
      have h2 := le_mx z.f1 y.f1
      rw [if_pos (by show _ ≤ mx _ _ + 1; omega), if_pos (by show _ ≤ mx _ _ + 1; omega), mx_comm3]
    · rw [if_neg c, if_neg (by omega), addS_snoc, addS_snoc, if_pos (by omega), if_pos (by omega), he, mx_comm]
theorem addS_swap (x : Sp) (hx : x.f0 ≤ x.f1) : ∀ (M : List Sp) (out : List Sp), (∀ y ∈ M, y.f0 = x.f0 ∧ y.f0 ≤ y.f1) → addS (M.foldl addS out) x = M.foldl addS (addS out x)
  | [], out, _ => rfl
  | y :: M, out, h => by
    have hy := h y (by simp)
    rw [List.foldl_cons, List.foldl_cons, addS_swap x hx M _ (fun z hz => h z (by simp [hz])), addS_comm out y x hy.1 hy.2 hx]
theorem fold_perm : ∀ (L M : List Sp), L.Perm M → L.Pairwise (fun x y => x.f0 ≤ y.f0) → M.Pairwise (fun x y => x.f0 ≤ y.f0) → (∀ x ∈ L, x.f0 ≤ x.f1) → ∀ out, L.foldl addS out = M.foldl addS out
  | [], M, hp, _, _, _, out => by rw [hp.nil_eq]
  | x :: L, M, hp, hL, hM, hok, out => by
    obtain ⟨a1, a2⟩ := List.pairwise_cons.1 hL
    have hx : x ∈ M := hp.mem_iff.1 (by simp)
    obtain ⟨M1, M2, rfl⟩ := List.append_of_mem hx
    have hall : ∀ y ∈ M1, y.f0 = x.f0 ∧ y.f0 ≤ y.f1 := by
      intro y hy
      have h1 := (List.pairwise_append.1 hM).2.2 y hy x (by simp)
      have hyL : y ∈ x :: L := hp.mem_iff.2 (by simp [hy])
      refine ⟨?_, hok y hyL⟩
      rcases List.mem_cons.1 hyL with rfl | hyL
      · rfl
      · have := a1 y hyL; omega
    have hp2 : L.Perm (M1 ++ M2) := (hp.trans List.perm_middle).cons_inv
    have hM2 : (M1 ++ M2).Pairwise (fun x y => x.f0 ≤ y.f0) := by
      rw [List.pairwise_append] at hM ⊢
      exact ⟨hM.1, (List.pairwise_cons.1 hM.2.1).2, fun a ha b hb => hM.2.2 a ha b (by simp [hb])⟩
    rw [List.foldl_cons, fold_perm L (M1 ++ M2) hp2 a2 hM2 (fun y hy => hok y (by simp [hy])), List.foldl_append, List.foldl_append, List.foldl_cons, addS_swap x (hok x (by simp)) M1 out hall]
def okJ (out : List Sp) : Prop := ∀ y ∈ out, 1 ≤ y.f1 ∧ y.f1 ≤ 1000000
theorem addS_ok {out : List Sp} {x : Sp} (h : okJ out) (hx : 1 ≤ x.f1 ∧ x.f1 ≤ 1000000) : okJ (addS out x) ∧ (addS out x).length ≤ out.length + 1 := by
  rcases snoc_cases out with rfl | ⟨o, z, rfl⟩
  · rw [addS_nil]
    exact ⟨fun y hy => by rw [List.mem_singleton.1 hy]; exact hx, by simp⟩
  · rw [addS_snoc]
    have hz := h z (by simp)
    split
    · refine ⟨fun y hy => ?_, by simp⟩
      rcases List.mem_append.1 hy with hy | hy
      · exact h y (by simp [hy])
      · rw [List.mem_singleton.1 hy]
        show 1 ≤ mx z.f1 x.f1 ∧ mx z.f1 x.f1 ≤ 1000000
        unfold mx; split <;> omega
    · refine ⟨fun y hy => ?_, by simp⟩
      rcases List.mem_append.1 hy with hy | hy
      · exact h y hy
      · rw [List.mem_singleton.1 hy]; exact hx
def spShort (l : List Sp) : List Sp := if l.length > 400 then [] else l
theorem short_eq (l : List Sp) : impl_short.f l = some (spShort l) := by
  unfold impl_short.f spShort
  by_cases c : l.length > 400
  · rw [if_pos (by omega), if_pos c]
  · rw [if_neg (by omega), if_neg c]
theorem impl_SJ_l0 (L : List Sp) (hl : L.length ≤ 1000000) (hok : ∀ x ∈ L, 1 ≤ x.f1 ∧ x.f1 ≤ 1000000) (d : Nat) : ∀ (i : Nat) (out : List Sp), i + d = L.length → okJ out → out.length ≤ i → Ev (fun k => impl_SpansJoin.l0 k out L (L.length : Int) (i : Int)) (spShort ((L.drop i).foldl addS out)) := by
  induction d with
  | zero =>
    intro i out hi _ _
    rw [List.drop_of_length_le (by omega)]
    refine Ev.one (fun k => ?_)
    simp only [impl_SpansJoin.l0]
    rw [if_neg (by omega), short_eq]; rfl
  | succ d ih =>
    intro i out hi ho hol
    have hlt : i < L.length := by omega
    have hx := hok _ (List.getElem_mem hlt)
    rw [drop_cons hlt, List.foldl_cons]
    have hw : wrap64 ((i : Int) + 1) = ((i + 1 : Nat) : Int) := w64 (by omega) (by omega)
    obtain ⟨s1, s2⟩ := addS_ok ho hx
    have hn := ih (i + 1) (addS out L[i]) (by omega) s1 (by omega)
    by_cases c : 0 < out.length
    · have hw2 : wrap64 ((out.length : Int) - 1) = ((out.length - 1 : Nat) : Int) := by rw [w64 (by omega) (by omega)]; omega
      have hk : out.length - 1 < out.length := by omega
      have hb := ho _ (List.getElem_mem hk)
      have hw3 : wrap64 ((out[out.length - 1]).f1 + 1) = (out[out.length - 1]).f1 + 1 := w64 (by omega) (by omega)
      have e1 : (((out.length - 1 : Nat) : Int)).toNat = out.length - 1 := by omega
      refine Ev.step (fun k => ?_) hn
      simp only [impl_SpansJoin.l0]
      rw [if_pos (by omega), if_pos (by omega), if_pos (by omega), hw2, if_pos (by omega), if_pos (by omega), if_pos (by omega), sp_at hk, hw3, sp_at hlt, hw, e1]
      unfold addS
      rw [dif_pos c]
      by_cases q : (L[i]).f0 ≤ (out[out.length - 1]).f1 + 1
      · rw [if_pos q, if_pos q]
      · rw [if_neg q, if_neg q, if_pos (by omega)]
    · have hz : out.length = 0 := by omega
      refine Ev.step (fun k => ?_) hn
      simp only [impl_SpansJoin.l0]
      have hw2 : wrap64 ((out.length : Int) - 1) = -1 := by rw [hz]; unfold wrap64; omega
      rw [if_pos (by omega), if_pos (by omega), if_pos (by omega), hw2, if_neg (by omega), sp_at hlt, hw, if_pos (by omega)]
      unfold addS
      rw [dif_neg c]
theorem l15Add_ev (out : List Sp) (x : Sp) (ho : okJ out) (hl : out.length ≤ 1000000) : Ev (fun k => spec_l15Add.f k out x.f0 x.f1) (addS out x) := by
  unfold spec_l15Add.f
  by_cases c : out.length = 0
  · refine Ev.pos (by omega) (Ev.one (fun k => ?_))
    simp only [spec_l15Add.j0]
    rw [if_pos (by first | rfl | trivial), if_pos (by omega)]
    unfold addS
    rw [dif_neg (by omega)]
  · have hk : out.length - 1 < out.length := by omega
    have hw2 : wrap64 ((out.length : Int) - 1) = ((out.length - 1 : Nat) : Int) := by rw [w64 (by omega) (by omega)]; omega
    have hb := ho _ (List.getElem_mem hk)
    have hw3 : wrap64 ((out[out.length - 1]).f1 + 1) = (out[out.length - 1]).f1 + 1 := w64 (by omega) (by omega)
    have e1 : (((out.length - 1 : Nat) : Int)).toNat = out.length - 1 := by omega
    rw [hw2]
    refine Ev.neg (by omega) (Ev.pos (by omega) (Ev.pos (by omega) (Ev.one (fun k => ?_))))
    rw [sp_at hk, hw3]
    simp only [spec_l15Add.j0]
    unfold addS
    rw [dif_pos (by omega), hw2, sp_at hk, e1]
    by_cases q : (out[out.length - 1]).f1 + 1 < x.f0
    · rw [if_pos (by simpa using q), if_pos (by omega), if_neg (by omega)]
    · rw [if_neg (by simpa using q), if_pos (by omega), if_pos (by omega)]
      by_cases r : x.f1 > (out[out.length - 1]).f1
      · rw [if_pos r, if_pos (by omega)]
        unfold mx
        rw [if_pos (by omega)]
      · rw [if_neg r, if_pos (by omega)]
        unfold mx
        rw [if_neg (by omega)]
        have : out.set (out.length - 1) (⟨(out[out.length - 1]).f0, (out[out.length - 1]).f1⟩ : Sp) = out := List.set_getElem_self hk
        rw [this]
def leS (x y : Sp) : Bool := decide (x.f0 ≤ y.f0)
theorem spec_SJ_l0 (a b : List Sp) (ha : a.length ≤ 400) (hb : b.length ≤ 400) (oa : ∀ x ∈ a, 1 ≤ x.f1 ∧ x.f1 ≤ 1000000) (ob : ∀ x ∈ b, 1 ≤ x.f1 ∧ x.f1 ≤ 1000000) (d : Nat) : ∀ (i j : Nat) (out : List Sp), i ≤ a.length → j ≤ b.length → (a.length - i) + (b.length - j) = d → okJ out → out.length ≤ i + j →
    Ev (fun k => spec_SpansJoin.l0 k a b out (i : Int) (j : Int)) (spShort ((List.merge (a.drop i) (b.drop j) leS).foldl addS out)) := by
  induction d with
  | zero =>
    intro i j out hi hj hd ho hol
    rw [List.drop_of_length_le (by omega : a.length ≤ i), List.drop_of_length_le (by omega : b.length ≤ j)]
    refine Ev.step (f := fun k => spec_SpansJoin.j2 k a b out (i : Int) (j : Int) false) (fun k => ?_) (Ev.one (fun k => ?_))
    · simp only [spec_SpansJoin.l0]
      rw [if_neg (by omega), decide_eq_false (by omega)]
    · simp only [spec_SpansJoin.j2]
      rw [if_neg (by simp)]
      have : List.merge ([] : List Sp) [] leS = [] := by simp
      rw [this]
      unfold spShort
      by_cases c : out.length > 400
      · rw [if_pos (by omega)]; simp [c]
      · rw [if_neg (by omega)]; simp [c]
  | succ d ih =>
    intro i j out hi hj hd ho hol
    have first_ : ∀ r, Ev (fun k => spec_SpansJoin.j2 k a b out (i : Int) (j : Int) true) r → Ev (fun k => spec_SpansJoin.l0 k a b out (i : Int) (j : Int)) r := by
      intro r h
      refine Ev.step (fun k => ?_) h
      simp only [spec_SpansJoin.l0]
      by_cases c : (i : Int) < (a.length : Int)
      · rw [if_pos c]
      · rw [if_neg c, decide_eq_true (by omega)]
    have left_ : ∀ (hlt : i < a.length) r, Ev (fun k => spec_SpansJoin.l0 k a b (addS out a[i]) ((i + 1 : Nat) : Int) (j : Int)) r → Ev (fun k => spec_SpansJoin.j3 k a b out (i : Int) (j : Int) true) r := by
      intro hlt r h
      have hw : wrap64 ((i : Int) + 1) = ((i + 1 : Nat) : Int) := w64 (by omega) (by omega)
      refine Ev.step (f := fun k => (spec_l15Add.f k out (a[i]).f0 (a[i]).f1).bind fun t => spec_SpansJoin.l0 k a b t ((i + 1 : Nat) : Int) (j : Int)) (fun k => ?_) (Ev.bind (l15Add_ev out a[i] ho (by omega)) h)
      simp only [spec_SpansJoin.j3]
      rw [if_pos (by first | rfl | trivial), if_pos (by omega), if_pos (by omega), sp_at hlt, hw]
    have right_ : ∀ (hlt : j < b.length) r, Ev (fun k => spec_SpansJoin.l0 k a b (addS out b[j]) (i : Int) ((j + 1 : Nat) : Int)) r → Ev (fun k => spec_SpansJoin.j3 k a b out (i : Int) (j : Int) false) r := by
      intro hlt r h
      have hw : wrap64 ((j : Int) + 1) = ((j + 1 : Nat) : Int) := w64 (by omega) (by omega)
      refine Ev.step (f := fun k => (spec_l15Add.f k out (b[j]).f0 (b[j]).f1).bind fun t => spec_SpansJoin.l0 k a b t (i : Int) ((j + 1 : Nat) : Int)) (fun k => ?_) (Ev.bind (l15Add_ev out b[j] ho (by omega)) h)
      simp only [spec_SpansJoin.j3]
      rw [if_neg (by simp), if_pos (by omega), if_pos (by omega), sp_at hlt, hw]
    refine first_ _ ?_
    by_cases cj : j < b.length
    · by_cases ci : i < a.length
      · rw [drop_cons ci, drop_cons cj, List.merge]
        by_cases q : (a[i]).f0 ≤ (b[j]).f0
        · have hq : leS a[i] b[j] = true := decide_eq_true q
          refine Ev.step (f := fun k => spec_SpansJoin.j3 k a b out (i : Int) (j : Int) true) (fun k => ?_) (left_ ci _ ?_)
          · simp only [spec_SpansJoin.j2]
            rw [if_pos (by first | rfl | trivial), if_neg (by omega), if_pos (by omega), if_pos (by omega), if_pos (by omega), if_pos (by omega), sp_at ci, sp_at cj, decide_eq_true q]
          · rw [if_pos hq, List.foldl_cons, ← drop_cons cj]
            exact ih (i + 1) j _ (by omega) hj (by omega) (addS_ok ho (oa _ (List.getElem_mem ci))).1 (by have := (addS_ok ho (oa _ (List.getElem_mem ci))).2; omega)
        · have hq : ¬ leS a[i] b[j] = true := by unfold leS; rw [decide_eq_true_iff]; exact q
          refine Ev.step (f := fun k => spec_SpansJoin.j3 k a b out (i : Int) (j : Int) false) (fun k => ?_) (right_ cj _ ?_)
          · simp only [spec_SpansJoin.j2]
            rw [if_pos (by first | rfl | trivial), if_neg (by omega), if_pos (by omega), if_pos (by omega), if_pos (by omega), if_pos (by omega), sp_at ci, sp_at cj, decide_eq_false q]
          · rw [if_neg hq, List.foldl_cons, ← drop_cons ci]
            exact ih i (j + 1) _ hi (by omega) (by omega) (addS_ok ho (ob _ (List.getElem_mem cj))).1 (by have := (addS_ok ho (ob _ (List.getElem_mem cj))).2; omega)
      · rw [List.drop_of_length_le (by omega : a.length ≤ i), drop_cons cj]
        have hm : List.merge ([] : List Sp) (b[j] :: b.drop (j + 1)) leS = b[j] :: b.drop (j + 1) := by simp
        refine Ev.step (f := fun k => spec_SpansJoin.j3 k a b out (i : Int) (j : Int) false) (fun k => ?_) (right_ cj _ ?_)
        · simp only [spec_SpansJoin.j2]
          rw [if_pos (by first | rfl | trivial), if_neg (by omega), if_neg (by omega)]
        · rw [hm, List.foldl_cons]
          have := ih i (j + 1) _ hi (by omega) (by omega) (addS_ok ho (ob _ (List.getElem_mem cj))).1 (by have := (addS_ok ho (ob _ (List.getElem_mem cj))).2; omega)
          rw [List.drop_of_length_le (by omega : a.length ≤ i)] at this
          have e : List.merge ([] : List Sp) (b.drop (j + 1)) leS = b.drop (j + 1) := by simp
          rw [e] at this
          exact this
    · have ci : i < a.length := by omega
      rw [List.drop_of_length_le (by omega : b.length ≤ j), drop_cons ci]
      have hm : List.merge (a[i] :: a.drop (i + 1)) ([] : List Sp) leS = a[i] :: a.drop (i + 1) := by simp
      refine Ev.step (f := fun k => spec_SpansJoin.j3 k a b out (i : Int) (j : Int) true) (fun k => ?_) (left_ ci _ ?_)
      · simp only [spec_SpansJoin.j2]
        rw [if_pos (by first | rfl | trivial), if_pos (by omega)]
      · rw [hm, List.foldl_cons]
        have := ih (i + 1) j _ (by omega) hj (by omega) (addS_ok ho (oa _ (List.getElem_mem ci))).1 (by have := (addS_ok ho (oa _ (List.getElem_mem ci))).2; omega)
        rw [List.drop_of_length_le (by omega : b.length ≤ j)] at this
        have e : List.merge (a.drop (i + 1)) ([] : List Sp) leS = a.drop (i + 1) := by simp
        rw [e] at this
        exact this
def spJoin (a b : List Sp) : List Sp := if spRight a && spRight b then spShort ((List.merge a b leS).foldl addS []) else []
theorem okFrom_memJ {lo : Int} (h1 : 1 ≤ lo) (l : List Sp) (h : okFrom lo l = true) : ∀ y ∈ l, 1 ≤ y.f0 ∧ y.f0 ≤ y.f1 ∧ y.f1 ≤ 1000000 := by
  induction l generalizing lo with
  | nil => intro y hy; cases hy
  | cons x r ih =>
    rw [okFrom_step, Bool.and_eq_true, decide_eq_true_iff] at h
    intro y hy
    rcases List.mem_cons.1 hy with rfl | hy
    · omega
    · exact ih (by omega) h.2 y hy
theorem okFrom_sortedJ (l : List Sp) : ∀ lo, okFrom lo l = true → l.Pairwise (fun x y => x.f0 ≤ y.f0) ∧ ∀ y ∈ l, lo ≤ y.f0 := by
  induction l with
  | nil => intro lo _; exact ⟨List.Pairwise.nil, fun y hy => by cases hy⟩
  | cons x r ih =>
    intro lo h
    rw [okFrom_step, Bool.and_eq_true, decide_eq_true_iff] at h
    obtain ⟨h1, h2⟩ := ih _ h.2
    refine ⟨List.pairwise_cons.2 ⟨fun y hy => by have := h2 y hy; omega, h1⟩, fun y hy => ?_⟩
    rcases List.mem_cons.1 hy with rfl | hy
    · omega
    · have := h2 y hy; omega
theorem spRight_facts {l : List Sp} (h : spRight l = true) : l.length ≤ 400 ∧ (∀ y ∈ l, 1 ≤ y.f0 ∧ y.f0 ≤ y.f1 ∧ y.f1 ≤ 1000000) ∧ l.Pairwise (fun x y => x.f0 ≤ y.f0) := by
  unfold spRight at h
  rw [Bool.and_eq_true, decide_eq_true_iff] at h
  exact ⟨h.1, okFrom_memJ (by omega) l h.2, (okFrom_sortedJ l 1 h.2).1⟩
theorem spec_SpansJoin_ev (a b : List Sp) (ha : a.length ≤ 9223372036854775807) (hb : b.length ≤ 9223372036854775807) : Ev (fun k => spec_SpansJoin.f k a b) (spJoin a b) := by
  unfold spec_SpansJoin.f spJoin
  simp only [Option.bind_some]
  refine Ev.bind (spec_SR_ev a ha) ?_
  by_cases c : spRight a = true
  · refine Ev.pos c (Ev.bind (spec_SR_ev b hb) ?_)
    by_cases q : spRight b = true
    · rw [c, q]
      obtain ⟨a1, a2, _⟩ := spRight_facts c
      obtain ⟨b1, b2, _⟩ := spRight_facts q
      refine Ev.step (f := fun k => spec_SpansJoin.l0 k a b [] 0 0) (fun k => by simp only [spec_SpansJoin.j0]; rfl) ?_
      have := spec_SJ_l0 a b a1 b1 (fun x hx => by have := a2 x hx; omega) (fun x hx => by have := b2 x hx; omega) _ 0 0 [] (by omega) (by omega) rfl (fun y hy => by cases hy) (by simp)
      simpa using this
    · have q' : spRight b = false := by simpa using q
      rw [c, q']
      exact Ev.one (fun k => by simp only [spec_SpansJoin.j0]; rfl)
  · have c' : spRight a = false := by simpa using c
    refine Ev.neg c (Ev.to ?_ (Ev.one (fun k => by simp only [spec_SpansJoin.j0]; rfl)))
    rw [c']; rfl
theorem inSp_of {x : Sp} (h : 1 ≤ x.f0 ∧ x.f0 ≤ x.f1 ∧ x.f1 ≤ 1000000) : inSp x = true := by unfold inSp; rw [decide_eq_true_iff]; omega
theorem clSp_of {x : Sp} (h : inSp x = true) : clSp x = x := by unfold clSp; rw [if_pos h]
theorem impl_SpansJoin_ev (a b : List Sp) (ha : a.length ≤ 9223372036854775807) (hb : b.length ≤ 9223372036854775807) : Ev (fun k => impl_SpansJoin.f k a b) (spJoin a b) := by
  unfold impl_SpansJoin.f spJoin
  refine Ev.bind (impl_SR_ev a ha) ?_
  by_cases c : spRight a = true
  · refine Ev.pos c (Ev.bind (impl_SR_ev b hb) ?_)
    by_cases q : spRight b = true
    · rw [c, q]
      obtain ⟨a1, a2, a3⟩ := spRight_facts c
      obtain ⟨b1, b2, b3⟩ := spRight_facts q
      have hab : ∀ x ∈ a ++ b, 1 ≤ x.f0 ∧ x.f0 ≤ x.f1 ∧ x.f1 ≤ 1000000 := fun x hx => by
        rcases List.mem_append.1 hx with h | h
        · exact a2 x h
        · exact b2 x h
      obtain ⟨p1, p2⟩ := sortSp_ok (a ++ b)
      have hlen := sortSp_len (a ++ b)
      have hs : ∀ x ∈ sortSp (a ++ b), 1 ≤ x.f0 ∧ x.f0 ≤ x.f1 ∧ x.f1 ≤ 1000000 := fun x hx => hab x (p1.mem_iff.1 hx)
      have hso : (sortSp (a ++ b)).Pairwise (fun x y => x.f0 ≤ y.f0) := by
        refine List.Pairwise.imp_of_mem ?_ p2
        intro x y hx hy h
        unfold ltOf cfSp at h
        rw [decide_eq_false_iff_not, clSp_of (inSp_of (hs x hx)), clSp_of (inSp_of (hs y hy))] at h
        omega
      have hme : (List.merge a b leS).Pairwise (fun x y => x.f0 ≤ y.f0) := by
        have := List.pairwise_merge (le := leS) (by unfold leS; intro x y z h1 h2; rw [decide_eq_true_iff] at *; omega) (by unfold leS; intro x y; simp only [Bool.or_eq_true, decide_eq_true_iff]; omega) a b (a3.imp (fun h => decide_eq_true h)) (b3.imp (fun h => decide_eq_true h))
        exact this.imp (fun h => of_decide_eq_true h)
      have he := fold_perm (sortSp (a ++ b)) (List.merge a b leS) (p1.trans (List.merge_perm_append (le := leS)).symm) hso hme (fun x hx => (hs x hx).2.1) []
      refine Ev.step (f := fun k => impl_SpansJoin.l0 k [] (sortSp (a ++ b)) ((a ++ b).length : Int) 0) (fun k => ?_) ?_
      · simp only [impl_SpansJoin.j0, impl_Span_45.f, impl_Span_46.f]
        rw [if_neg (by simp), if_pos (by omega)]
        simp only [Option.bind_some]
        rw [if_pos ⟨by simp; omega, List.all_eq_true.2 (fun x hx => inSp_of (hab x hx))⟩]
        rfl
      · have := impl_SJ_l0 (sortSp (a ++ b)) (by rw [hlen]; simp; omega) (fun x hx => by have := hs x hx; omega) _ 0 [] (Nat.zero_add _) (fun y hy => by cases hy) (by simp)
        rw [hlen, List.drop_zero, he] at this
        simpa using this
    · have q' : spRight b = false := by simpa using q
      rw [c, q']
      exact Ev.one (fun k => by simp only [impl_SpansJoin.j0]; rfl)
  · have c' : spRight a = false := by simpa using c
    refine Ev.neg c (Ev.to ?_ (Ev.one (fun k => by simp only [impl_SpansJoin.j0]; rfl)))
    rw [c']; rfl
theorem spJoin_length (a b : List Sp) : (spJoin a b).length ≤ 400 := by
  unfold spJoin spShort
  split
  · split
    · simp
    · omega
  · simp


end Go.Proofs.Ytepbkhgffjinjaa.Print
