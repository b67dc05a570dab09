/- Lemmas: valid range sets. -/
import Derived.Test.YtoleobkklokloaaStFnExactSpansRight
import Derived.Laws.Bits64
namespace Go.Proofs.Ytoleobkklokloaa.Print
open Go.RowKit Go.Proofs.YtoleobkklokloaaW.PrintWords Go.Proofs.YtoleobkklokloaaW.PrintLast Go.Proofs.YtoleobkklokloaaW.PrintMore
set_option linter.unusedVariables false
set_option linter.unusedSimpArgs false

/-! Rounds: small helpers. -/
theorem Ev.pos {α : Type} {c : Prop} [Decidable c] {f g : Nat → Option α} {r : α} (hc : c) (h : Ev f r) : Ev (fun n => if c then f n else g n) r := by
  simp only [hc, if_true]; exact h
theorem Ev.neg {α : Type} {c : Prop} [Decidable c] {f g : Nat → Option α} {r : α} (hc : ¬ c) (h : Ev g r) : Ev (fun n => if c then f n else g n) r := by
  simp only [hc, if_false]; exact h
theorem Ev.here {α : Type} {o : Option α} {r : α} (h : o = some r) : Ev (fun _ => o) r := ⟨0, fun _ _ => h⟩
theorem Ev.take {α β : Type} {o : Option α} {f : Nat → α → Option β} {a : α} {r : β} (h : o = some a) (k : Ev (fun n => f n a) r) : Ev (fun n => o.bind (f n)) r := by
  subst h; exact k
theorem Ev.one {α : Type} {g : Nat → Option α} {r : α} (h : ∀ k, g (k + 1) = some r) : Ev g r := Ev.step (f := fun _ => some r) h (Ev.now r)
theorem Ev.to {α : Type} {g : Nat → Option α} {r q : α} (e : r = q) (h : Ev g r) : Ev g q := e ▸ h

/-! Lists of structs, read one by one. -/
theorem w64 {n : Int} (h0 : -9223372036854775808 ≤ n) (h1 : n ≤ 9223372036854775807) : wrap64 n = n := by unfold wrap64; omega
theorem drop_cons {α : Type} {l : List α} {i : Nat} (h : i < l.length) : l.drop i = l[i] :: l.drop (i + 1) := List.drop_eq_getElem_cons h
theorem getD_at {α : Type} {l : List α} {i : Nat} (d : α) (h : i < l.length) : l.getD ((i : Int)).toNat d = l[i] := by
  rw [Int.toNat_natCast, List.getD_eq_getElem?_getD, List.getElem?_eq_getElem h]; rfl

/-! Range sets: valid ones; copies; comparisons. -/
abbrev Sp := S58
abbrev SpL := S61
def toSp (x : SpL) : Sp := ⟨x.f0, x.f1⟩
theorem sp_at {l : List Sp} {i : Nat} (h : i < l.length) : rd_T58 l (i : Int) = l[i] := getD_at _ h
theorem spL_at {l : List SpL} {i : Nat} (h : i < l.length) : rd_T61 l (i : Int) = l[i] := getD_at _ h
theorem in_eq (a b c : Int) : impl_in.f a b c = some (decide (b ≤ a ∧ a ≤ c)) := by
  unfold impl_in.f; split <;> simp [*]
theorem is_eq (a b c : Int) : spec_l02Is.f a b c = some (decide (b ≤ a ∧ a ≤ c)) := by
  unfold spec_l02Is.f
  by_cases h : b ≤ a
  · rw [if_pos h]; simp [h]
  · rw [if_neg h]; simp [h]
theorem isId_eq (a : Int) : impl_isId.f a = some (decide (1 ≤ a ∧ a ≤ 1000000)) := by unfold impl_isId.f; rw [in_eq]; rfl
theorem l02Id_eq (a : Int) : spec_l02Id.f a = some (decide (1 ≤ a ∧ a ≤ 1000000)) := by unfold spec_l02Id.f; rw [is_eq]; rfl
/-- Valid from a least number on. -/
def okFrom : Int → List Sp → Bool
  | _, [] => true
  | lo, x :: r => decide (lo ≤ x.f0 ∧ x.f0 ≤ x.f1 ∧ x.f1 ≤ 1000000) && okFrom (x.f1 + 2) r
def spRight (l : List Sp) : Bool := decide (l.length ≤ 400) && okFrom 1 l

/-- What a round of either side's loop asks of an element behind another one. -/
theorem okFrom_step {lo : Int} {x : Sp} {r : List Sp} : okFrom lo (x :: r) = (decide (lo ≤ x.f0 ∧ x.f0 ≤ x.f1 ∧ x.f1 ≤ 1000000) && okFrom (x.f1 + 2) r) := rfl

theorem impl_SR_l0 (l : List Sp) (hl : l.length ≤ 9223372036854775807) (d : Nat) : ∀ (i : Nat) (lo : Int), i + d = l.length → 1 ≤ lo → lo ≤ 1000002 →
    (i = 0 ∧ lo = 1 ∨ ∃ h : 0 < i ∧ i ≤ l.length, lo = (l[i - 1]'(by omega)).f1 + 2) →
    Ev (fun k => impl_SpansRight.l0 k l l (l.length : Int) (i : Int)) (okFrom lo (l.drop i) && decide (l.length ≤ 400)) := by
  induction d with
  | zero =>
    intro i lo hi _ _ _
    refine Ev.one (fun k => ?_)
    simp only [impl_SpansRight.l0]
    rw [if_neg (by omega), List.drop_of_length_le (by omega)]
    simp [okFrom]
    omega
  | succ d ih =>
    intro i lo hi h1 h2 hp
    have hlt : i < l.length := by omega
    rw [drop_cons hlt, okFrom_step]
    have hw : wrap64 ((i : Int) + 1) = ((i + 1 : Nat) : Int) := by unfold wrap64; omega
    generalize hx : l[i] = x
    have hx' : rd_T58 l (i : Int) = x := by rw [sp_at hlt, hx]
    by_cases c1 : 1 ≤ x.f0 ∧ x.f0 ≤ 1000000
    · by_cases c2 : x.f0 ≤ x.f1 ∧ x.f1 ≤ 1000000
      · by_cases c3 : lo ≤ x.f0
        · refine Ev.step (f := fun k => impl_SpansRight.l0 k l l (l.length : Int) ((i + 1 : Nat) : Int)) (fun k => ?_) ?_
          · simp only [impl_SpansRight.l0]
            rw [if_pos (by omega), if_pos (by omega), if_pos (by omega), hx', isId_eq, in_eq, hw]
            simp only [Option.bind_some]
            rw [if_pos (by simpa using c1), if_pos (by simpa using c2)]
            rcases hp with ⟨rfl, rfl⟩ | ⟨⟨p1, p2⟩, hlo⟩
            · rw [if_neg (by omega)]
            · have e1 : wrap64 ((i : Int) - 1) = ((i - 1 : Nat) : Int) := by unfold wrap64; omega
              have e2 : wrap64 ((l[i - 1]'(by omega)).f1 + 2) = lo := by rw [← hlo]; exact w64 (by omega) (by omega)
              rw [if_pos (by omega), e1, if_pos (by omega), if_pos (by omega), sp_at (by omega), e2, if_neg (by omega)]
          · have := ih (i + 1) (x.f1 + 2) (by omega) (by omega) (by omega) (Or.inr ⟨⟨by omega, by omega⟩, by
              simp only [Nat.add_sub_cancel]; rw [hx]⟩)
            rw [show decide (lo ≤ x.f0 ∧ x.f0 ≤ x.f1 ∧ x.f1 ≤ 1000000) = true from decide_eq_true ⟨c3, c2⟩, Bool.true_and]
            exact this
        · rw [show decide (lo ≤ x.f0 ∧ x.f0 ≤ x.f1 ∧ x.f1 ≤ 1000000) = false from decide_eq_false (by omega), Bool.false_and, Bool.false_and]
          refine Ev.one (fun k => ?_)
          simp only [impl_SpansRight.l0]
          rw [if_pos (by omega), if_pos (by omega), if_pos (by omega), hx', isId_eq, in_eq]
          simp only [Option.bind_some]
          rw [if_pos (by simpa using c1), if_pos (by simpa using c2)]
          rcases hp with ⟨rfl, rfl⟩ | ⟨⟨p1, p2⟩, hlo⟩
          · omega
          · have e1 : wrap64 ((i : Int) - 1) = ((i - 1 : Nat) : Int) := by unfold wrap64; omega
            have e2 : wrap64 ((l[i - 1]'(by omega)).f1 + 2) = lo := by rw [← hlo]; exact w64 (by omega) (by omega)
            rw [if_pos (by omega), e1, if_pos (by omega), if_pos (by omega), sp_at (by omega), e2, if_pos (by omega)]
      · rw [show decide (lo ≤ x.f0 ∧ x.f0 ≤ x.f1 ∧ x.f1 ≤ 1000000) = false from decide_eq_false (by omega), Bool.false_and, Bool.false_and]
        refine Ev.one (fun k => ?_)
        simp only [impl_SpansRight.l0]
        rw [if_pos (by omega), if_pos (by omega), if_pos (by omega), hx', isId_eq, in_eq]
        simp only [Option.bind_some]
        rw [if_pos (by simpa using c1), if_neg (by simpa using c2)]
    · rw [show decide (lo ≤ x.f0 ∧ x.f0 ≤ x.f1 ∧ x.f1 ≤ 1000000) = false from decide_eq_false (by omega), Bool.false_and, Bool.false_and]
      refine Ev.one (fun k => ?_)
      simp only [impl_SpansRight.l0]
      rw [if_pos (by omega), if_pos (by omega), if_pos (by omega), hx', isId_eq]
      simp only [Option.bind_some]
      rw [if_neg (by simpa using c1)]
theorem impl_SR_ev (l : List Sp) (hl : l.length ≤ 9223372036854775807) : Ev (fun k => impl_SpansRight.f k l) (spRight l) := by
  unfold impl_SpansRight.f spRight
  rw [Bool.and_comm]
  simpa using impl_SR_l0 l hl l.length 0 1 (by omega) (by omega) (by omega) (Or.inl ⟨rfl, rfl⟩)

theorem spec_SR_l0 (l : List Sp) (hl : l.length ≤ 9223372036854775807) (d : Nat) : ∀ (i : Nat) (lo : Int), i + d = l.length → 1 ≤ lo → lo ≤ 1000002 →
    (i = 0 ∧ lo = 1 ∨ ∃ h : 0 < i ∧ i ≤ l.length, lo = (l[i - 1]'(by omega)).f1 + 2) →
    Ev (fun k => spec_SpansRight.l0 k l (i : Int)) (okFrom lo (l.drop i)) := by
  induction d with
  | zero =>
    intro i lo hi _ _ _
    refine Ev.one (fun k => ?_)
    simp only [spec_SpansRight.l0]
    rw [if_neg (by omega), List.drop_of_length_le (by omega)]
    simp [okFrom]
  | succ d ih =>
    intro i lo hi h1 h2 hp
    have hlt : i < l.length := by omega
    rw [drop_cons hlt, okFrom_step]
    have hw : wrap64 ((i : Int) + 1) = ((i + 1 : Nat) : Int) := by unfold wrap64; omega
    generalize hx : l[i] = x
    have hx' : rd_T58 l (i : Int) = x := by rw [sp_at hlt, hx]
    by_cases c1 : 1 ≤ x.f0 ∧ x.f0 ≤ 1000000
    · by_cases c2 : x.f0 ≤ x.f1 ∧ x.f1 ≤ 1000000
      · by_cases c3 : lo ≤ x.f0
        · refine Ev.step (f := fun k => spec_SpansRight.l0 k l ((i + 1 : Nat) : Int)) (fun k => ?_) ?_
          · simp only [spec_SpansRight.l0]
            rw [if_pos (by omega), if_pos (by omega), hx', l02Id_eq, is_eq, hw]
            simp only [Option.bind_some]
            rw [if_pos (by simpa using c1), if_pos (by simpa using c2)]
            rcases hp with ⟨rfl, rfl⟩ | ⟨⟨p1, p2⟩, hlo⟩
            · rw [if_neg (by omega)]
            · have e1 : wrap64 ((i : Int) - 1) = ((i - 1 : Nat) : Int) := by unfold wrap64; omega
              have e2 : wrap64 ((l[i - 1]'(by omega)).f1 + 2) = lo := by rw [← hlo]; exact w64 (by omega) (by omega)
              rw [if_pos (by omega), e1, if_pos (by omega), if_pos (by omega), sp_at (by omega), e2, if_neg (by omega)]
          · have := ih (i + 1) (x.f1 + 2) (by omega) (by omega) (by omega) (Or.inr ⟨⟨by omega, by omega⟩, by
              simp only [Nat.add_sub_cancel]; rw [hx]⟩)
            rw [show decide (lo ≤ x.f0 ∧ x.f0 ≤ x.f1 ∧ x.f1 ≤ 1000000) = true from decide_eq_true ⟨c3, c2⟩, Bool.true_and]
            exact this
        · rw [show decide (lo ≤ x.f0 ∧ x.f0 ≤ x.f1 ∧ x.f1 ≤ 1000000) = false from decide_eq_false (by omega), Bool.false_and]
          refine Ev.one (fun k => ?_)
          simp only [spec_SpansRight.l0]
          rw [if_pos (by omega), if_pos (by omega), hx', l02Id_eq, is_eq]
          simp only [Option.bind_some]
          rw [if_pos (by simpa using c1), if_pos (by simpa using c2)]
          rcases hp with ⟨rfl, rfl⟩ | ⟨⟨p1, p2⟩, hlo⟩
          · omega
          · have e1 : wrap64 ((i : Int) - 1) = ((i - 1 : Nat) : Int) := by unfold wrap64; omega
            have e2 : wrap64 ((l[i - 1]'(by omega)).f1 + 2) = lo := by rw [← hlo]; exact w64 (by omega) (by omega)
            rw [if_pos (by omega), e1, if_pos (by omega), if_pos (by omega), sp_at (by omega), e2, if_pos (by omega)]
      · rw [show decide (lo ≤ x.f0 ∧ x.f0 ≤ x.f1 ∧ x.f1 ≤ 1000000) = false from decide_eq_false (by omega), Bool.false_and]
        refine Ev.one (fun k => ?_)
        simp only [spec_SpansRight.l0]
        rw [if_pos (by omega), if_pos (by omega), hx', l02Id_eq, is_eq]
        simp only [Option.bind_some]
        rw [if_pos (by simpa using c1), if_neg (by simpa using c2)]
    · rw [show decide (lo ≤ x.f0 ∧ x.f0 ≤ x.f1 ∧ x.f1 ≤ 1000000) = false from decide_eq_false (by omega), Bool.false_and]
      refine Ev.one (fun k => ?_)
      simp only [spec_SpansRight.l0]
      rw [if_pos (by omega), if_pos (by omega), hx', l02Id_eq]
      simp only [Option.bind_some]
      rw [if_neg (by simpa using c1)]
theorem spec_SR_ev (l : List Sp) (hl : l.length ≤ 9223372036854775807) : Ev (fun k => spec_SpansRight.f k l) (spRight l) := by
  unfold spec_SpansRight.f spRight
  by_cases c : l.length ≤ 400
  · refine Ev.neg (by omega) (Ev.to ?_ (spec_SR_l0 l hl l.length 0 1 (by omega) (by omega) (by omega) (Or.inl ⟨rfl, rfl⟩)))
    simp [c]
  · exact Ev.pos (by omega) (Ev.to (by simp [c]) (Ev.now _))

/-! ### the laws' own helpers -/
theorem sz_ge (n : Nat) (a : Int) (ha : -1 ≤ a) (h : a ≤ 1048576) (hn : n ≤ 9223372036854775807) : wrap64 (a - (n : Int)) = a - n := w64 (by omega) (by omega)
theorem szSpanS_eq (l : List SpL) (a : Int) (ha : -1 ≤ a) (h : a ≤ 1048576) (hn : l.length ≤ 9223372036854775807) :
    laws_szSpanS.f l a = some (if a < l.length then -1 else a - l.length) := by
  unfold laws_szSpanS.f
  rw [sz_ge _ _ ha h hn]
  by_cases c : a < l.length
  · rw [if_pos (by omega), if_pos c]
  · rw [if_neg (by omega), if_neg c]
theorem toSpan_eq (a b : Int) : laws_toSpan.f a b = some (a, b) := rfl
theorem toSpanS_l0 (l : List SpL) (hl : l.length ≤ 1048576) (d : Nat) : ∀ (i : Nat) (acc : List Sp), i + d = l.length → acc.length = l.length → acc.take i = (l.take i).map toSp →
    Ev (fun k => laws_toSpanS.l0 k l acc (i : Int)) (l.map toSp) := by
  induction d with
  | zero =>
    intro i acc hi ha hp
    refine Ev.to ?_ (Ev.one (r := acc) (fun k => ?_))
    · rw [List.take_of_length_le (by omega), List.take_of_length_le (by omega)] at hp
      exact hp
    · simp only [laws_toSpanS.l0]
      rw [if_neg (by omega)]
  | succ d ih =>
    intro i acc hi ha hp
    have hlt : i < l.length := by omega
    refine Ev.step (f := fun k => laws_toSpanS.l0 k l (acc.set i (toSp l[i])) ((i + 1 : Nat) : Int)) (fun k => ?_) (ih (i + 1) (acc.set i (toSp l[i])) (by omega) (by simpa using ha) ?_)
    · simp only [laws_toSpanS.l0]
      rw [if_pos (by omega), if_pos (by omega), spL_at hlt, toSpan_eq]
      simp only [Option.bind_some]
      rw [if_pos (by omega), w64 (by omega) (by omega), Int.toNat_natCast]
      rfl
    · rw [List.take_succ_eq_append_getElem (by simp; omega), List.take_succ_eq_append_getElem hlt, List.map_append, ← hp, List.take_set_of_le (by omega)]
      simp
theorem toSpanS_ev (l : List SpL) (hl : l.length ≤ 1048576) : Ev (fun k => laws_toSpanS.f k l) (l.map toSp) := by
  unfold laws_toSpanS.f
  refine Ev.pos (by omega) (Ev.pos (by simp; omega) ?_)
  exact toSpanS_l0 l hl l.length 0 _ (by omega) (by simp) (by simp)
theorem eqSpan_self (a b : Int) : laws_eqSpan.f a b a b = some true := by unfold laws_eqSpan.f; simp
theorem eqSpanS_l0 (l : List Sp) (hl : l.length ≤ 9223372036854775806) (d : Nat) : ∀ i : Nat, i + d = l.length → Ev (fun k => laws_eqSpanS.l0 k l l (i : Int)) true := by
  induction d with
  | zero =>
    intro i hi
    refine Ev.one (fun k => ?_)
    simp only [laws_eqSpanS.l0]
    rw [if_neg (by omega)]
  | succ d ih =>
    intro i hi
    refine Ev.step (f := fun k => laws_eqSpanS.l0 k l l ((i + 1 : Nat) : Int)) (fun k => ?_) (ih (i + 1) (by omega))
    simp only [laws_eqSpanS.l0]
    rw [if_pos (by omega), if_pos (by omega), if_pos (by omega), eqSpan_self]
    simp only [Option.bind_some, if_true]
    rw [w64 (by omega) (by omega)]; rfl
theorem eqSpanS_ev (l : List Sp) (hl : l.length ≤ 9223372036854775806) : Ev (fun k => laws_eqSpanS.f k l l) true := by
  unfold laws_eqSpanS.f
  exact Ev.pos rfl (eqSpanS_l0 l hl l.length 0 (by omega))


end Go.Proofs.Ytoleobkklokloaa.Print
