/- Lemmas: the difference of two states. -/
import Derived.Test.YtcbfopepfhfaoaaStFnExactStateDiff
import Derived.Test.YtcbfopepfhfaoaaLemOpens
import Derived.Laws.Bits64
namespace Go.Proofs.Ytcbfopepfhfaoaa.Print
open Go.RowKit Go.Proofs.YtcbfopepfhfaoaaW.PrintWords Go.Proofs.YtcbfopepfhfaoaaW.PrintLast Go.Proofs.YtcbfopepfhfaoaaW.PrintMore
set_option linter.unusedVariables false
set_option linter.unusedSimpArgs false

/-! Rounds: small helpers. -/
theorem Ev.pos {α : Type} {c : Prop} [Decidable c] {f g : Nat → Option α} {r : α} (hc : c) (h : Ev f r) : Ev (fun n => if c then f n else g n) r := by
  simp only [hc, if_true]; exact h
theorem Ev.neg {α : Type} {c : Prop} [Decidable c] {f g : Nat → Option α} {r : α} (hc : ¬ c) (h : Ev g r) : Ev (fun n => if c then f n else g n) r := by
  simp only [hc, if_false]; exact h
theorem Ev.here {α : Type} {o : Option α} {r : α} (h : o = some r) : Ev (fun _ => o) r := ⟨0, fun _ _ => h⟩
theorem Ev.take {α β : Type} {o : Option α} {f : Nat → α → Option β} {a : α} {r : β} (h : o = some a) (k : Ev (fun n => f n a) r) : Ev (fun n => o.bind (f n)) r := by
  subst h; exact k
theorem Ev.one {α : Type} {g : Nat → Option α} {r : α} (h : ∀ k, g (k + 1) = some r) : Ev g r := Ev.step (f := fun _ => some r) h (Ev.now r)
theorem Ev.to {α : Type} {g : Nat → Option α} {r q : α} (e : r = q) (h : Ev g r) : Ev g q := e ▸ h

/-! Lists of structs, read one by one. -/
theorem w64 {n : Int} (h0 : -9223372036854775808 ≤ n) (h1 : n ≤ 9223372036854775807) : wrap64 n = n := by unfold wrap64; omega
theorem drop_cons {α : Type} {l : List α} {i : Nat} (h : i < l.length) : l.drop i = l[i] :: l.drop (i + 1) := List.drop_eq_getElem_cons h
theorem getD_at {α : Type} {l : List α} {i : Nat} (d : α) (h : i < l.length) : l.getD ((i : Int)).toNat d = l[i] := by
  rw [Int.toNat_natCast, List.getD_eq_getElem?_getD, List.getElem?_eq_getElem h]; rfl

/-! Ranges. -/
theorem in_eq (a b c : Int) : impl_in.f a b c = some (decide (b ≤ a ∧ a ≤ c)) := by
  unfold impl_in.f; split <;> simp [*]
theorem is_eq (a b c : Int) : spec_l02Is.f a b c = some (decide (b ≤ a ∧ a ≤ c)) := by
  unfold spec_l02Is.f
  by_cases h : b ≤ a
  · rw [if_pos h]; simp [h]
  · rw [if_neg h]; simp [h]

theorem l02Id_eq (a : Int) : spec_l02Id.f a = some (decide (1 ≤ a ∧ a ≤ 1000000)) := by unfold spec_l02Id.f; rw [is_eq]; rfl

/-! Entries: their order, valid states. -/
abbrev En := S47
abbrev EnL := S49
def toEn (x : EnL) : En := ⟨x.f0, x.f1, x.f2⟩
theorem en_at {l : List En} {i : Nat} (h : i < l.length) : rd_T47 l (i : Int) = l[i] := getD_at _ h
theorem enL_at {l : List EnL} {i : Nat} (h : i < l.length) : rd_T49 l (i : Int) = l[i] := getD_at _ h
def cmpI (a b : Int) : Int := if a < b then -1 else if a > b then 1 else 0
theorem compare_eq (a b : Int) : cmp_Compare_int64.f a b = some (cmpI a b) := by
  unfold cmp_Compare_int64.f cmp_isNaN_int64.f cmpI
  simp only [Option.bind_some, bne_self_eq_false]
  rw [if_neg (by simp), if_neg (by simp)]
  split
  · rfl
  · split <;> rfl
def orI (a b : Int) : Int := if a = 0 then b else a
theorem or_ev (a b : Int) : Ev (fun k => cmp_Or_int.f k [a, b]) (orI a b) := by
  unfold cmp_Or_int.f orI
  by_cases ha : a = 0
  · rw [if_pos ha]
    refine Ev.step (f := fun k => cmp_Or_int.l0 k 0 [a, b] 2 1) (fun k => ?_) ?_
    · simp only [cmp_Or_int.l0]
      rw [if_pos (by simp), if_pos (by omega), if_pos (by simp), if_pos (by simpa [rd] using ha), show wrap64 (0 + 1) = 1 from by unfold wrap64; omega]; rfl
    · by_cases hb : b = 0
      · refine Ev.step (f := fun k => cmp_Or_int.l0 k 0 [a, b] 2 2) (fun k => ?_) (Ev.one (fun k => ?_))
        · simp only [cmp_Or_int.l0]
          rw [if_pos (by omega), if_pos (by omega), if_pos (by simp), if_pos (by simpa [rd] using hb), show wrap64 (1 + 1) = 2 from by unfold wrap64; omega]
        · simp only [cmp_Or_int.l0]
          rw [if_neg (by omega), hb]
      · refine Ev.one (fun k => ?_)
        simp only [cmp_Or_int.l0]
        rw [if_pos (by omega), if_pos (by omega), if_pos (by simp), if_neg (by simpa [rd] using hb)]; rfl
  · rw [if_neg ha]
    refine Ev.one (fun k => ?_)
    simp only [cmp_Or_int.l0]
    rw [if_pos (by simp), if_pos (by omega), if_pos (by simp), if_neg (by simpa [rd] using ha)]; rfl
def ordE (x y : En) : Int := orI (cmpI x.f0 y.f0) (cmpI x.f1 y.f1)
theorem order_ev (x y : En) : Ev (fun k => impl_Entry_order.f k x.f0 x.f1 x.f2 y.f0 y.f1 y.f2) (ordE x y) := by
  unfold impl_Entry_order.f
  exact Ev.take (compare_eq _ _) (Ev.take (compare_eq _ _) (Ev.bind (or_ev _ _) (Ev.now _)))
def ltE (x y : En) : Prop := x.f0 < y.f0 ∨ x.f0 = y.f0 ∧ x.f1 < y.f1
instance (x y : En) : Decidable (ltE x y) := by unfold ltE; exact inferInstance
theorem ordE_neg (x y : En) : ordE x y < 0 ↔ ltE x y := by
  unfold ordE ltE orI cmpI; repeat' split
  all_goals omega
theorem ordE_zero (x y : En) : ordE x y = 0 ↔ x.f0 = y.f0 ∧ x.f1 = y.f1 := by
  unfold ordE orI cmpI; repeat' split
  all_goals omega
theorem l04Less_eq (x y : En) : spec_l04Less.f x.f0 x.f1 x.f2 y.f0 y.f1 y.f2 = some (decide (ltE x y)) := by
  unfold spec_l04Less.f
  by_cases h : x.f0 < y.f0
  · rw [if_pos h]; congr 1; exact (decide_eq_true (show ltE x y from Or.inl h)).symm
  · rw [if_neg h]
    by_cases h2 : x.f0 = y.f0
    · rw [if_pos h2]; congr 1; rw [decide_eq_decide]; unfold ltE; omega
    · rw [if_neg h2, decide_eq_false (by unfold ltE; omega)]
def enOk (least : Int) (x : En) : Bool := decide ((1 ≤ x.f0 ∧ x.f0 ≤ 6) ∧ (0 ≤ x.f1 ∧ x.f1 ≤ 6) ∧ (least ≤ x.f2 ∧ x.f2 ≤ 1000000))
theorem l04Entry_eq (x : En) : spec_l04Entry.f x.f0 x.f1 x.f2 false = some (enOk 1 x) := by
  unfold spec_l04Entry.f enOk
  rw [is_eq, is_eq, l02Id_eq]
  simp only [Option.bind_some]
  repeat' split
  all_goals (simp_all; try omega)
def stFrom : Option En → List En → Bool
  | _, [] => true
  | p, x :: r => (enOk 1 x && (match p with | none => true | some q => decide (ltE q x))) && stFrom (some x) r
def stRight (l : List En) : Bool := decide (l.length ≤ 400) && stFrom none l

theorem spec_row_l0 (l : List En) (hl : l.length ≤ 9223372036854775806) (d : Nat) : ∀ (i : Nat) (p : Option En), i + d = l.length →
    (i = 0 ∧ p = none ∨ ∃ h : 0 < i ∧ i ≤ l.length, p = some (l[i - 1]'(by omega))) →
    Ev (fun k => spec_l04Row.l0 k l false (i : Int)) (stFrom p (l.drop i)) := by
  induction d with
  | zero =>
    intro i p hi _
    refine Ev.one (fun k => ?_)
    simp only [spec_l04Row.l0]
    rw [if_neg (by omega), List.drop_of_length_le (by omega)]; rfl
  | succ d ih =>
    intro i p hi hp
    have hlt : i < l.length := by omega
    rw [drop_cons hlt]
    have hw : wrap64 ((i : Int) + 1) = ((i + 1 : Nat) : Int) := by unfold wrap64; omega
    have ihn := ih (i + 1) (some l[i]) (by omega) (Or.inr ⟨⟨by omega, by omega⟩, by simp only [Nat.add_sub_cancel]⟩)
    generalize hx : l[i] = x at ihn
    have hx' : rd_T47 l (i : Int) = x := by rw [en_at hlt, hx]
    simp only [stFrom]
    cases he : enOk 1 x
    · rw [Bool.false_and, Bool.false_and]
      refine Ev.one (fun k => ?_)
      simp only [spec_l04Row.l0]
      rw [if_pos (by omega), if_pos (by omega), hx', l04Entry_eq, he]
      simp only [Option.bind_some]
      rw [if_neg (by simp)]
    · rw [Bool.true_and]
      rcases hp with ⟨rfl, rfl⟩ | ⟨⟨p1, p2⟩, hlo⟩
      · rw [Bool.true_and]
        refine Ev.step (f := fun k => spec_l04Row.l0 k l false ((0 + 1 : Nat) : Int)) (fun k => ?_) ihn
        simp only [spec_l04Row.l0]
        rw [if_pos (by omega), if_pos (by omega), hx', l04Entry_eq, he]
        simp only [Option.bind_some]
        rw [if_pos (by trivial), if_neg (by omega), hw]
      · have e1 : wrap64 ((i : Int) - 1) = ((i - 1 : Nat) : Int) := by unfold wrap64; omega
        have e2 : rd_T47 l ((i - 1 : Nat) : Int) = l[i - 1]'(by omega) := en_at (by omega)
        rw [hlo]
        generalize l[i - 1]'(by omega) = q at e2
        by_cases c : ltE q x
        · simp only [decide_eq_true c, Bool.true_and]
          refine Ev.step (f := fun k => spec_l04Row.l0 k l false ((i + 1 : Nat) : Int)) (fun k => ?_) ihn
          simp only [spec_l04Row.l0]
          rw [if_pos (by omega), if_pos (by omega), hx', l04Entry_eq, he]
          simp only [Option.bind_some]
          rw [if_pos (by trivial), if_pos (by omega), e1, if_pos (by omega), if_pos (by omega), e2, l04Less_eq, decide_eq_true c]
          simp only [Option.bind_some]
          rw [if_pos (by trivial), hw]
        · simp only [decide_eq_false c, Bool.false_and]
          refine Ev.one (fun k => ?_)
          simp only [spec_l04Row.l0]
          rw [if_pos (by omega), if_pos (by omega), hx', l04Entry_eq, he]
          simp only [Option.bind_some]
          rw [if_pos (by trivial), if_pos (by omega), e1, if_pos (by omega), if_pos (by omega), e2, l04Less_eq, decide_eq_false c]
          simp only [Option.bind_some]
          rw [if_neg (by simp)]
theorem spec_StateRight_ev (l : List En) (hl : l.length ≤ 9223372036854775806) : Ev (fun k => spec_StateRight.f k l) (stRight l) := by
  unfold spec_StateRight.f spec_l04Row.f stRight
  refine Ev.bind (a := stRight l) ?_ (Ev.now _)
  unfold stRight
  by_cases c : l.length ≤ 400
  · refine Ev.neg (by omega) (Ev.to ?_ (spec_row_l0 l hl l.length 0 none (by omega) (Or.inl ⟨rfl, rfl⟩)))
    simp [c]
  · exact Ev.pos (by omega) (Ev.to (by simp [c]) (Ev.now _))

theorem impl_row_l0 (l : List En) (hl : l.length ≤ 9223372036854775806) (d : Nat) : ∀ (i : Nat) (p : Option En), i + d = l.length →
    (i = 0 ∧ p = none ∨ ∃ h : 0 < i ∧ i ≤ l.length, p = some (l[i - 1]'(by omega))) →
    Ev (fun k => impl_entriesRight.l0 k l 1 l (l.length : Int) (i : Int)) (stFrom p (l.drop i) && decide (l.length ≤ 400)) := by
  induction d with
  | zero =>
    intro i p hi _
    refine Ev.one (fun k => ?_)
    simp only [impl_entriesRight.l0]
    rw [if_neg (by omega), List.drop_of_length_le (by omega)]
    simp [stFrom]; omega
  | succ d ih =>
    intro i p hi hp
    have hlt : i < l.length := by omega
    rw [drop_cons hlt]
    have hw : wrap64 ((i : Int) + 1) = ((i + 1 : Nat) : Int) := by unfold wrap64; omega
    have ihn := ih (i + 1) (some l[i]) (by omega) (Or.inr ⟨⟨by omega, by omega⟩, by simp only [Nat.add_sub_cancel]⟩)
    generalize hx : l[i] = x at ihn
    have hx' : rd_T47 l (i : Int) = x := by rw [en_at hlt, hx]
    simp only [stFrom]
    by_cases c1 : 1 ≤ x.f0 ∧ x.f0 ≤ 6
    · by_cases c2 : 0 ≤ x.f1 ∧ x.f1 ≤ 6
      · by_cases c3 : 1 ≤ x.f2 ∧ x.f2 ≤ 1000000
        · have he : enOk 1 x = true := decide_eq_true ⟨c1, c2, c3⟩
          rw [he, Bool.true_and]
          rcases hp with ⟨rfl, rfl⟩ | ⟨⟨p1, p2⟩, hlo⟩
          · rw [Bool.true_and]
            refine Ev.step (f := fun k => impl_entriesRight.l0 k l 1 l (l.length : Int) ((0 + 1 : Nat) : Int)) (fun k => ?_) ihn
            simp only [impl_entriesRight.l0]
            rw [if_pos (by omega), if_pos (by omega), if_pos (by omega), hx', in_eq, in_eq, in_eq]
            simp only [Option.bind_some]
            rw [if_pos (by simpa using c1), if_pos (by simpa using c2), if_pos (by simpa using c3), if_neg (by omega), hw]
          · have e1 : wrap64 ((i : Int) - 1) = ((i - 1 : Nat) : Int) := by unfold wrap64; omega
            have e2 : rd_T47 l ((i - 1 : Nat) : Int) = l[i - 1]'(by omega) := en_at (by omega)
            rw [hlo]
            generalize l[i - 1]'(by omega) = q at e2
            refine Ev.step (f := fun k => (impl_Entry_order.f k q.f0 q.f1 q.f2 x.f0 x.f1 x.f2).bind fun t => if t ≥ 0 then some false else impl_entriesRight.l0 k l 1 l (l.length : Int) ((i + 1 : Nat) : Int)) (fun k => ?_) (Ev.bind (order_ev q x) ?_)
            · simp only [impl_entriesRight.l0]
              rw [if_pos (by omega), if_pos (by omega), if_pos (by omega), hx', in_eq, in_eq, in_eq]
              simp only [Option.bind_some]
              rw [if_pos (by simpa using c1), if_pos (by simpa using c2), if_pos (by simpa using c3), if_pos (by omega), e1, if_pos (by omega), if_pos (by omega), e2, hw]
            · by_cases c : ltE q x
              · simp only [decide_eq_true c, Bool.true_and]
                exact Ev.neg (by have := (ordE_neg q x).2 c; omega) ihn
              · simp only [decide_eq_false c, Bool.false_and]
                exact Ev.pos (by have := mt (ordE_neg q x).1 c; omega) (Ev.now _)
        · rw [show enOk 1 x = false from decide_eq_false (by omega), Bool.false_and, Bool.false_and, Bool.false_and]
          refine Ev.one (fun k => ?_)
          simp only [impl_entriesRight.l0]
          rw [if_pos (by omega), if_pos (by omega), if_pos (by omega), hx', in_eq, in_eq, in_eq]
          simp only [Option.bind_some]
          rw [if_pos (by simpa using c1), if_pos (by simpa using c2), if_neg (by simpa using c3)]
      · rw [show enOk 1 x = false from decide_eq_false (by omega), Bool.false_and, Bool.false_and, Bool.false_and]
        refine Ev.one (fun k => ?_)
        simp only [impl_entriesRight.l0]
        rw [if_pos (by omega), if_pos (by omega), if_pos (by omega), hx', in_eq, in_eq]
        simp only [Option.bind_some]
        rw [if_pos (by simpa using c1), if_neg (by simpa using c2)]
    · rw [show enOk 1 x = false from decide_eq_false (by omega), Bool.false_and, Bool.false_and, Bool.false_and]
      refine Ev.one (fun k => ?_)
      simp only [impl_entriesRight.l0]
      rw [if_pos (by omega), if_pos (by omega), if_pos (by omega), hx', in_eq]
      simp only [Option.bind_some]
      rw [if_neg (by simpa using c1)]
theorem impl_StateRight_ev (l : List En) (hl : l.length ≤ 9223372036854775806) : Ev (fun k => impl_StateRight.f k l) (stRight l) := by
  unfold impl_StateRight.f impl_entriesRight.f stRight
  rw [Bool.and_comm]
  exact Ev.bind (by simpa using impl_row_l0 l hl l.length 0 none (by omega) (Or.inl ⟨rfl, rfl⟩)) (Ev.now _)

/-! ### the laws' own helpers -/
theorem szEntryS_eq (l : List EnL) (a : Int) (ha : -1 ≤ a) (h : a ≤ 1048576) (hn : l.length ≤ 9223372036854775807) :
    laws_szEntryS.f l a = some (if a < l.length then -1 else a - l.length) := by
  unfold laws_szEntryS.f
  rw [w64 (by omega) (by omega)]
  by_cases c : a < l.length
  · rw [if_pos (by omega), if_pos c]
  · rw [if_neg (by omega), if_neg c]
theorem toEntry_eq (a b c : Int) : laws_toEntry.f a b c = some (a, b, c) := rfl
theorem toEntryS_l0 (l : List EnL) (hl : l.length ≤ 1048576) (d : Nat) : ∀ (i : Nat) (acc : List En), i + d = l.length → acc.length = l.length → acc.take i = (l.take i).map toEn →
    Ev (fun k => laws_toEntryS.l0 k l acc (i : Int)) (l.map toEn) := by
  induction d with
  | zero =>
    intro i acc hi ha hp
    refine Ev.to ?_ (Ev.one (r := acc) (fun k => ?_))
    · rw [List.take_of_length_le (by omega), List.take_of_length_le (by omega)] at hp
      exact hp
    · simp only [laws_toEntryS.l0]
      rw [if_neg (by omega)]
  | succ d ih =>
    intro i acc hi ha hp
    have hlt : i < l.length := by omega
    refine Ev.step (f := fun k => laws_toEntryS.l0 k l (acc.set i (toEn l[i])) ((i + 1 : Nat) : Int)) (fun k => ?_) (ih (i + 1) (acc.set i (toEn l[i])) (by omega) (by simpa using ha) ?_)
    · simp only [laws_toEntryS.l0]
      rw [if_pos (by omega), if_pos (by omega), enL_at hlt, toEntry_eq]
      simp only [Option.bind_some]
      rw [if_pos (by omega), w64 (by omega) (by omega), Int.toNat_natCast]
      rfl
    · rw [List.take_succ_eq_append_getElem (by simp; omega), List.take_succ_eq_append_getElem hlt, List.map_append, ← hp, List.take_set_of_le (by omega)]
      simp
theorem toEntryS_ev (l : List EnL) (hl : l.length ≤ 1048576) : Ev (fun k => laws_toEntryS.f k l) (l.map toEn) := by
  unfold laws_toEntryS.f
  refine Ev.pos (by omega) (Ev.pos (by simp; omega) ?_)
  exact toEntryS_l0 l hl l.length 0 _ (by omega) (by simp) (by simp)
theorem eqEntry_self (a b c : Int) : laws_eqEntry.f a b c a b c = some true := by unfold laws_eqEntry.f; simp
theorem eqEntryS_l0 (l : List En) (hl : l.length ≤ 9223372036854775806) (d : Nat) : ∀ i : Nat, i + d = l.length → Ev (fun k => laws_eqEntryS.l0 k l l (i : Int)) true := by
  induction d with
  | zero =>
    intro i hi
    refine Ev.one (fun k => ?_)
    simp only [laws_eqEntryS.l0]
    rw [if_neg (by omega)]
  | succ d ih =>
    intro i hi
    refine Ev.step (f := fun k => laws_eqEntryS.l0 k l l ((i + 1 : Nat) : Int)) (fun k => ?_) (ih (i + 1) (by omega))
    simp only [laws_eqEntryS.l0]
    rw [if_pos (by omega), if_pos (by omega), if_pos (by omega), eqEntry_self]
    simp only [Option.bind_some, if_true]
    rw [w64 (by omega) (by omega)]; rfl
theorem eqEntryS_ev (l : List En) (hl : l.length ≤ 9223372036854775806) : Ev (fun k => laws_eqEntryS.f k l l) true := by
  unfold laws_eqEntryS.f
  exact Ev.pos rfl (eqEntryS_l0 l hl l.length 0 (by omega))

/-! The place of an entry. -/
theorem mid_eq (i j : Nat) (h : i ≤ j) (hj : j ≤ 4611686018427387903) : wrap64 ((IntKind.u64.wrap (wrap64 ((i : Int) + (j : Int)))) / 2) = (((i + j) / 2 : Nat) : Int) := by
  rw [IntKind.wrap_u64]; unfold wrap64; omega
/-- The first place of which p does not hold, where it holds of a beginning. -/
def Cut (p : En → Bool) (l : List En) (r : Nat) : Prop := (∀ t (h : t < l.length), t < r → p l[t] = true) ∧ (∀ t (h : t < l.length), r ≤ t → p l[t] = false)
def hitAt (l : List En) (x : En) (r : Nat) : Bool := if h : r < l.length then decide (ordE l[r] x = 0) else false
theorem bs_l0 (l : List En) (x : En) (hl : l.length ≤ 4611686018427387903) (d : Nat) : ∀ (i j : Nat), j - i ≤ d → i ≤ j → j ≤ l.length →
    ∃ r : Nat, i ≤ r ∧ r ≤ j ∧ Ev (fun k => impl_Entry_56.l0 k l (l.length : Int) (i : Int) (j : Int) x.f0 x.f1 x.f2) ((r : Int), hitAt l x r) ∧
      ((∀ s t (hs : s < l.length) (ht : t < l.length), s ≤ t → ltE l[t] x → ltE l[s] x) → (∀ t (h : t < l.length), t < i → ltE l[t] x) → (∀ t (h : t < l.length), j ≤ t → ¬ ltE l[t] x) → Cut (fun y => decide (ltE y x)) l r) := by
  have fin : ∀ i : Nat, i ≤ l.length → Ev (fun k => impl_Entry_56.l0 k l (l.length : Int) (i : Int) (i : Int) x.f0 x.f1 x.f2) ((i : Int), hitAt l x i) := by
    intro i hi
    by_cases c : i < l.length
    · refine Ev.step (f := fun k => (impl_Entry_order.f k l[i].f0 l[i].f1 l[i].f2 x.f0 x.f1 x.f2).bind fun t => some ((i : Int), (t == 0))) (fun k => ?_) (Ev.bind (order_ev l[i] x) (Ev.here ?_))
      · simp only [impl_Entry_56.l0]
        rw [if_neg (by omega), if_pos (by omega), if_pos (by omega), if_pos (by omega), en_at c]
      · unfold hitAt; rw [dif_pos c]
        congr 2
    · refine Ev.one (fun k => ?_)
      simp only [impl_Entry_56.l0]
      rw [if_neg (by omega), if_neg (by omega)]
      unfold hitAt; rw [dif_neg c]
  induction d with
  | zero =>
    intro i j hd hij hj
    obtain rfl : i = j := by omega
    refine ⟨i, Nat.le_refl _, Nat.le_refl _, fin i hj, fun _ h1 h2 => ⟨fun t h ht => decide_eq_true (h1 t h ht), fun t h ht => decide_eq_false (h2 t h ht)⟩⟩
  | succ d ih =>
    intro i j hd hij hj
    by_cases e : i = j
    · subst e
      refine ⟨i, Nat.le_refl _, Nat.le_refl _, fin i hj, fun _ h1 h2 => ⟨fun t h ht => decide_eq_true (h1 t h ht), fun t h ht => decide_eq_false (h2 t h ht)⟩⟩
    · have hm := mid_eq i j hij (by omega)
      generalize hmm : (i + j) / 2 = m at hm
      have hml : m < l.length := by omega
      have hget := en_at hml
      have one : ∀ res, Ev (fun k => if ordE l[m] x < 0 then impl_Entry_56.l0 k l (l.length : Int) ((m + 1 : Nat) : Int) (j : Int) x.f0 x.f1 x.f2 else impl_Entry_56.l0 k l (l.length : Int) (i : Int) (m : Int) x.f0 x.f1 x.f2) res →
          Ev (fun k => impl_Entry_56.l0 k l (l.length : Int) (i : Int) (j : Int) x.f0 x.f1 x.f2) res := by
        intro res h
        have hm1 : wrap64 ((m : Int) + 1) = ((m + 1 : Nat) : Int) := by clear hm; unfold wrap64; omega
        refine Ev.step (f := fun k => (impl_Entry_order.f k l[m].f0 l[m].f1 l[m].f2 x.f0 x.f1 x.f2).bind fun t => if t < 0 then impl_Entry_56.l0 k l (l.length : Int) ((m + 1 : Nat) : Int) (j : Int) x.f0 x.f1 x.f2 else impl_Entry_56.l0 k l (l.length : Int) (i : Int) (m : Int) x.f0 x.f1 x.f2) (fun k => ?_) (Ev.bind (order_ev l[m] x) h)
        simp only [impl_Entry_56.l0]
        rw [if_pos (by clear hm hm1; omega), hm, if_pos (by clear hm hm1; omega), if_pos (by clear hm hm1; omega), hget, hm1]
      clear hm
      by_cases c : ltE l[m] x
      · obtain ⟨r, h1, h2, h3, h4⟩ := ih (m + 1) j (by omega) (by omega) hj
        refine ⟨r, by omega, h2, one _ (Ev.pos ((ordE_neg _ _).2 c) h3), fun hmono hlo hhi => h4 hmono (fun t h ht => ?_) hhi⟩
        exact hmono t m h hml (by omega) c
      · obtain ⟨r, h1, h2, h3, h4⟩ := ih i m (by omega) (by omega) (by omega)
        refine ⟨r, h1, by omega, one _ (Ev.neg (mt (ordE_neg _ _).1 c) h3), fun hmono hlo hhi => h4 hmono hlo (fun t h ht hlt => c ?_)⟩
        exact hmono m t hml h ht hlt
theorem place_ev (l : List En) (x : En) (hl : l.length ≤ 4611686018427387903) :
    ∃ r : Nat, r ≤ l.length ∧ Ev (fun k => impl_place.f k l x.f0 x.f1 x.f2) ((r : Int), hitAt l x r) ∧
      ((∀ s t (hs : s < l.length) (ht : t < l.length), s ≤ t → ltE l[t] x → ltE l[s] x) → Cut (fun y => decide (ltE y x)) l r) := by
  obtain ⟨r, _, h2, h3, h4⟩ := bs_l0 l x hl l.length 0 l.length (by omega) (by omega) (by omega)
  refine ⟨r, h2, ?_, fun hm => h4 hm (fun t h ht => absurd ht (by omega)) (fun t h ht => absurd ht (by omega))⟩
  unfold impl_place.f
  refine Ev.bind (a := ((r : Int), hitAt l x r)) ?_ (Ev.now _)
  unfold impl_Entry_56.f
  exact h3

/-- A valid state rises. -/
theorem ltE_trans {x y z : En} (h : ltE x y) (g : ltE y z) : ltE x z := by unfold ltE at *; omega
theorem stFrom_rise (l : List En) : ∀ p, stFrom p l = true → (∀ (s t : Nat) (hs : s < l.length) (ht : t < l.length), s < t → ltE l[s] l[t]) ∧ (∀ q, p = some q → ∀ t (ht : t < l.length), ltE q l[t]) := by
  induction l with
  | nil => intro p _; exact ⟨fun s t hs => absurd hs (by simp), fun q _ t ht => absurd ht (by simp)⟩
  | cons x r ih =>
    intro p h
    simp only [stFrom, Bool.and_eq_true] at h
    obtain ⟨⟨_, h1⟩, h2⟩ := h
    obtain ⟨i1, i2⟩ := ih _ h2
    refine ⟨fun s t hs ht hst => ?_, fun q hq t ht => ?_⟩
    · cases t with
      | zero => omega
      | succ t =>
        cases s with
        | zero => exact i2 x rfl t (by simpa using ht)
        | succ s => exact i1 s t (by simpa using hs) (by simpa using ht) (by omega)
    · subst hq
      have hqx : ltE q x := by simpa using h1
      cases t with
      | zero => exact hqx
      | succ t => exact ltE_trans hqx (i2 x rfl t (by simpa using ht))
theorem stRight_rise {l : List En} (h : stRight l = true) : l.length ≤ 400 ∧ ∀ (s t : Nat) (hs : s < l.length) (ht : t < l.length), s < t → ltE l[s] l[t] := by
  unfold stRight at h
  rw [Bool.and_eq_true, decide_eq_true_iff] at h
  exact ⟨h.1, (stFrom_rise l none h.2).1⟩
/-- The Id of a kind and key: what both sides come to. -/
def stId (l : List En) (kind key : Int) : Int := match l.find? (fun y => decide (y.f0 = kind ∧ y.f1 = key)) with | some y => y.f2 | none => 0
theorem l04At_l0 (l : List En) (kind key : Int) (hl : l.length ≤ 9223372036854775806) (d : Nat) : ∀ i : Nat, i + d = l.length → Ev (fun k => spec_l04At.l0 k l kind key (i : Int)) (stId (l.drop i) kind key) := by
  induction d with
  | zero =>
    intro i hi
    refine Ev.one (fun k => ?_)
    simp only [spec_l04At.l0]
    rw [if_neg (by omega), List.drop_of_length_le (by omega)]; rfl
  | succ d ih =>
    intro i hi
    have hlt : i < l.length := by omega
    rw [drop_cons hlt]
    have hw : wrap64 ((i : Int) + 1) = ((i + 1 : Nat) : Int) := by unfold wrap64; omega
    by_cases c1 : l[i].f0 = kind ∧ l[i].f1 = key
    · refine Ev.one (fun k => ?_)
      simp only [spec_l04At.l0]
      rw [if_pos (by omega), if_pos (by omega), en_at hlt, if_pos c1.1, if_pos c1.2]
      unfold stId; rw [List.find?_cons, decide_eq_true c1]
    · refine Ev.step (f := fun k => spec_l04At.l0 k l kind key ((i + 1 : Nat) : Int)) (fun k => ?_) (Ev.to ?_ (ih (i + 1) (by omega)))
      · simp only [spec_l04At.l0]
        rw [if_pos (by omega), if_pos (by omega), en_at hlt, hw]
        by_cases c2 : l[i].f0 = kind
        · rw [if_pos c2, if_neg (fun h => c1 ⟨c2, h⟩)]
        · rw [if_neg c2]
      · simp only [stId, List.find?_cons, decide_eq_false c1]
theorem l04At_ev (l : List En) (kind key : Int) (hl : l.length ≤ 9223372036854775806) : Ev (fun k => spec_l04At.f k l kind key) (stId l kind key) := by
  unfold spec_l04At.f
  simpa using l04At_l0 l kind key hl l.length 0 (by omega)
theorem find_at {l : List En} (hrise : ∀ (s t : Nat) (hs : s < l.length) (ht : t < l.length), s < t → ltE l[s] l[t]) (kind key : Int) (r : Nat)
    (hc : Cut (fun y => decide (ltE y ⟨kind, key, 0⟩)) l r) : stId l kind key = if h : r < l.length then (if l[r].f0 = kind ∧ l[r].f1 = key then l[r].f2 else 0) else 0 := by
  have hno : ∀ t (h : t < l.length), t ≠ r → ¬ (l[t].f0 = kind ∧ l[t].f1 = key) := by
    intro t h ht hk
    rcases Nat.lt_or_ge t r with h1 | h1
    · have := hc.1 t h h1
      simp only [decide_eq_true_iff] at this
      unfold ltE at this
      simp only at this
      omega
    · have hr : r < l.length := by omega
      have h2 := hrise r t hr h (by omega)
      have h3 := hc.2 r hr (Nat.le_refl _)
      simp only [decide_eq_false_iff_not] at h3
      unfold ltE at h2 h3
      simp only at h3
      omega
  by_cases h : r < l.length
  · rw [dif_pos h]
    by_cases hk : l[r].f0 = kind ∧ l[r].f1 = key
    · rw [if_pos hk]
      unfold stId
      have : l.find? (fun y => decide (y.f0 = kind ∧ y.f1 = key)) = some l[r] := by
        rw [List.find?_eq_some_iff_getElem]
        refine ⟨decide_eq_true hk, r, h, rfl, fun j hj => ?_⟩
        simp only [Bool.not_eq_true', decide_eq_false_iff_not]
        exact hno j (by omega) (by omega)
      rw [this]
    · rw [if_neg hk]
      unfold stId
      have : l.find? (fun y => decide (y.f0 = kind ∧ y.f1 = key)) = none := by
        rw [List.find?_eq_none]
        intro y hy hyk
        obtain ⟨t, ht, rfl⟩ := List.getElem_of_mem hy
        have hyk := of_decide_eq_true hyk
        by_cases e : t = r
        · subst e; exact hk hyk
        · exact hno t ht e hyk
      rw [this]
  · rw [dif_neg h]
    unfold stId
    have : l.find? (fun y => decide (y.f0 = kind ∧ y.f1 = key)) = none := by
      rw [List.find?_eq_none]
      intro y hy hyk
      obtain ⟨t, ht, rfl⟩ := List.getElem_of_mem hy
      exact hno t ht (by omega) (of_decide_eq_true hyk)
    rw [this]
def stAt (l : List En) (kind key : Int) : Int := if stRight l then stId l kind key else 0
/-! The difference of two states. -/
theorem sorted_extG {α : Type} (lt : α → α → Prop) (irr : ∀ x, ¬ lt x x) (tr : ∀ x y z, lt x y → lt y z → lt x z) : ∀ (l m : List α), l.Pairwise lt → m.Pairwise lt → (∀ x, x ∈ l ↔ x ∈ m) → l = m
  | [], [], _, _, _ => rfl
  | [], y :: m, _, _, h => absurd ((h y).2 (by simp)) (by simp)
  | x :: l, [], _, _, h => absurd ((h x).1 (by simp)) (by simp)
  | x :: l, y :: m, h1, h2, h => by
    obtain ⟨a1, a2⟩ := List.pairwise_cons.1 h1
    obtain ⟨b1, b2⟩ := List.pairwise_cons.1 h2
    have e : x = y := by
      rcases List.mem_cons.1 ((h x).1 (by simp)) with e | hx
      · exact e
      · rcases List.mem_cons.1 ((h y).2 (by simp)) with e | hy
        · exact e.symm
        · exact absurd (tr _ _ _ (b1 x hx) (a1 y hy)) (irr _)
    subst e
    rw [sorted_extG lt irr tr l m a2 b2 (fun z => ?_)]
    constructor
    · intro hz
      rcases List.mem_cons.1 ((h z).1 (by simp [hz])) with e | hz2
      · subst e; exact absurd (a1 z hz) (irr _)
      · exact hz2
    · intro hz
      rcases List.mem_cons.1 ((h z).2 (by simp [hz])) with e | hz2
      · subst e; exact absurd (b1 z hz) (irr _)
      · exact hz2
theorem ltE_irr (x : En) : ¬ ltE x x := by unfold ltE; omega
theorem ltE_tr (x y z : En) (h1 : ltE x y) (h2 : ltE y z) : ltE x z := by unfold ltE at *; omega
instance enDec : DecidableEq En := fun x y => if h : x.f0 = y.f0 ∧ x.f1 = y.f1 ∧ x.f2 = y.f2 then .isTrue (by cases x; cases y; simp_all) else .isFalse (by rintro rfl; exact h ⟨rfl, rfl, rfl⟩)
def keyEq (x y : En) : Prop := x.f0 = y.f0 ∧ x.f1 = y.f1
instance (x y : En) : Decidable (keyEq x y) := by unfold keyEq; infer_instance
def insE : List En → En → List En
  | [], x => [x]
  | y :: r, x => if ltE y x then y :: insE r x else x :: y :: r
theorem insE_mem (x z : En) : ∀ l : List En, z ∈ insE l x ↔ z = x ∨ z ∈ l
  | [] => by simp [insE]
  | y :: r => by
    unfold insE
    split
    · rw [List.mem_cons, insE_mem x z r, List.mem_cons]
      constructor
      · rintro (h | h | h)
        · exact .inr (.inl h)
        · exact .inl h
        · exact .inr (.inr h)
      · rintro (h | h | h)
        · exact .inr (.inl h)
        · exact .inl h
        · exact .inr (.inr h)
    · rw [List.mem_cons]
theorem insE_len (x : En) : ∀ l : List En, (insE l x).length = l.length + 1
  | [] => rfl
  | y :: r => by
    unfold insE
    split
    · simp [insE_len x r]
    · simp
theorem insE_sorted (x : En) : ∀ l : List En, l.Pairwise ltE → (∀ y ∈ l, ¬ keyEq y x) → (insE l x).Pairwise ltE
  | [], _, _ => by simp [insE]
  | y :: r, h, hn => by
    obtain ⟨h1, h2⟩ := List.pairwise_cons.1 h
    unfold insE
    split
    · rename_i c
      refine List.pairwise_cons.2 ⟨fun z hz => ?_, insE_sorted x r h2 (fun z hz => hn z (by simp [hz]))⟩
      rcases (insE_mem x z r).1 hz with rfl | hz
      · exact c
      · exact h1 z hz
    · rename_i c
      refine List.pairwise_cons.2 ⟨fun z hz => ?_, h⟩
      have hxy : ltE x y := by
        have := hn y (by simp)
        unfold keyEq at this
        unfold ltE at c ⊢
        omega
      rcases List.mem_cons.1 hz with rfl | hz
      · exact hxy
      · exact ltE_tr _ _ _ hxy (h1 z hz)
def putE (l : List En) (x : En) : List En := insE (l.filter (fun y => decide (¬ keyEq y x))) x
theorem without_l0 (l : List En) (x : En) (hl : l.length ≤ 1000000) (d : Nat) : ∀ (i : Nat) (acc : List En), i + d = l.length → acc.length ≤ i → Ev (fun k => spec_l04Without.l0 k l acc (i : Int) x.f0 x.f1 x.f2) (acc ++ (l.drop i).filter (fun y => decide (¬ keyEq y x))) := by
  induction d with
  | zero =>
    intro i acc hi _
    rw [List.drop_of_length_le (by omega)]
    refine Ev.one (fun k => ?_)
    simp only [spec_l04Without.l0]
    rw [if_neg (by omega)]; simp
  | succ d ih =>
    intro i acc hi ha
    have hlt : i < l.length := by omega
    have hw : wrap64 ((i : Int) + 1) = ((i + 1 : Nat) : Int) := w64 (by omega) (by omega)
    rw [drop_cons hlt, List.filter_cons]
    by_cases c : keyEq l[i] x
    · rw [if_neg (by rw [decide_eq_true_iff]; exact fun h => h c)]
      refine Ev.step (fun k => ?_) (ih (i + 1) acc (by omega) (by omega))
      simp only [spec_l04Without.l0]
      rw [if_pos (by omega), if_pos (by omega), en_at hlt, if_pos c.1, if_pos c.2, hw]
    · rw [if_pos (by rw [decide_eq_true_iff]; exact c)]
      refine Ev.step (fun k => ?_) (Ev.to ?_ (ih (i + 1) (acc ++ [l[i]]) (by omega) (by simp; omega)))
      · simp only [spec_l04Without.l0]
        rw [if_pos (by omega), if_pos (by omega), en_at hlt, hw]
        by_cases c1 : (l[i]).f0 = x.f0
        · rw [if_pos c1, if_neg (fun h => c ⟨c1, h⟩), if_pos (by omega)]
        · rw [if_neg c1, if_pos (by omega)]
      · simp
theorem put_l0 (l : List En) (x : En) (hl : l.length ≤ 1000000) (d : Nat) : ∀ i : Nat, i + d = l.length → Ev (fun k => spec_l04Put.l0 k l (i : Int) x.f0 x.f1 x.f2) (l.take i ++ insE (l.drop i) x) := by
  induction d with
  | zero =>
    intro i hi
    refine Ev.one (fun k => ?_)
    simp only [spec_l04Put.l0]
    have e1 : ((i : Int)).toNat = i := by omega
    rw [if_neg (by omega)]
    simp only [Option.bind_some, List.nil_append, List.length_nil, e1]
    rw [if_pos (by omega), if_pos (by omega)]
    simp only [List.length_take, List.length_drop, List.length_append, List.length_singleton]
    rw [if_pos (by omega), if_pos (by omega), if_pos (by omega), List.drop_of_length_le (by omega)]
    simp [insE]
  | succ d ih =>
    intro i hi
    have hlt : i < l.length := by omega
    have hw : wrap64 ((i : Int) + 1) = ((i + 1 : Nat) : Int) := w64 (by omega) (by omega)
    have e1 : ((i : Int)).toNat = i := by omega
    rw [drop_cons hlt]
    unfold insE
    by_cases c : ltE l[i] x
    · rw [if_pos c]
      refine Ev.step (f := fun k => spec_l04Put.l0 k l ((i + 1 : Nat) : Int) x.f0 x.f1 x.f2) (fun k => ?_) (Ev.to ?_ (ih (i + 1) (by omega)))
      · simp only [spec_l04Put.l0]
        rw [if_pos (by omega), if_pos (by omega), en_at hlt, l04Less_eq, decide_eq_true c]
        simp only [Option.bind_some]
        rw [if_pos trivial, hw]
      · rw [List.take_succ_eq_append_getElem hlt, List.append_assoc]; rfl
    · rw [if_neg c]
      refine Ev.one (fun k => ?_)
      simp only [spec_l04Put.l0]
      rw [if_pos (by omega), if_pos (by omega), en_at hlt, l04Less_eq, decide_eq_false c]
      simp only [Option.bind_some]
      rw [if_neg (by simp)]
      simp only [Option.bind_some, List.nil_append, List.length_nil, e1]
      rw [if_pos (by omega)]
      simp only [List.length_take, List.length_drop, List.length_append, List.length_singleton]
      rw [if_pos (by omega), if_pos (by omega), if_pos (by omega), ← drop_cons hlt]
      simp
theorem put_ev (l : List En) (x : En) (hl : l.length ≤ 1000000) : Ev (fun k => spec_l04Put.f k l x.f0 x.f1 x.f2) (putE l x) := by
  unfold spec_l04Put.f
  have h1 := without_l0 l x hl l.length 0 [] (by omega) (by simp)
  rw [List.drop_zero, List.nil_append] at h1
  have hf : (l.filter (fun y => decide (¬ keyEq y x))).length ≤ l.length := List.length_filter_le _ _
  refine Ev.bind (by unfold spec_l04Without.f; exact h1) ?_
  have h2 := put_l0 (l.filter (fun y => decide (¬ keyEq y x))) x (Nat.le_trans hf hl) (l.filter (fun y => decide (¬ keyEq y x))).length 0 (by omega)
  refine Ev.to ?_ h2
  rw [List.take_zero, List.drop_zero, List.nil_append]; rfl
/-- What is put, one by one. -/
theorem putE_of {acc : List En} {x : En} (hs : acc.Pairwise ltE) (hn : ∀ y ∈ acc, ¬ keyEq y x) : putE acc x = insE acc x := by
  unfold putE
  rw [List.filter_eq_self.2 (fun y hy => decide_eq_true (hn y hy))]
theorem fold_put : ∀ (F acc : List En), acc.Pairwise ltE → F.Pairwise (fun x y => ¬ keyEq x y) → (∀ y ∈ acc, ∀ x ∈ F, ¬ keyEq y x) →
    (F.foldl putE acc).Pairwise ltE ∧ (∀ z, z ∈ F.foldl putE acc ↔ z ∈ acc ∨ z ∈ F) ∧ (F.foldl putE acc).length = acc.length + F.length
  | [], acc, h, _, _ => ⟨h, fun z => by simp, by simp⟩
  | x :: F, acc, h, hp, hn => by
    obtain ⟨p1, p2⟩ := List.pairwise_cons.1 hp
    have hx : ∀ y ∈ acc, ¬ keyEq y x := fun y hy => hn y hy x (by simp)
    have e := putE_of h hx
    have hs := insE_sorted x acc h hx
    obtain ⟨h1, h2, h3⟩ := fold_put F (insE acc x) hs p2 (fun y hy z hz => by
      rcases (insE_mem x y acc).1 hy with rfl | hy
      · exact p1 z hz
      · exact hn y hy z (by simp [hz]))
    rw [List.foldl_cons, e]
    refine ⟨h1, fun z => ?_, by rw [h3, insE_len, List.length_cons]; omega⟩
    rw [h2 z, insE_mem, List.mem_cons]
    constructor
    · rintro ((h | h) | h)
      · exact .inr (.inl h)
      · exact .inl h
      · exact .inr (.inr h)
    · rintro (h | h | h)
      · exact .inl (.inr h)
      · exact .inl (.inl h)
      · exact .inr h
def new1 (a b : List En) : List En := b.filter (fun x => decide (stId a x.f0 x.f1 ≠ x.f2))
def gone (x : En) : En := ⟨x.f0, x.f1, 0⟩
def new2 (a b : List En) : List En := (a.filter (fun x => decide (stId b x.f0 x.f1 = 0))).map gone
def newD (a b : List En) : List En := new1 a b ++ new2 a b
structure StOk (a : List En) : Prop where
  n : a.length ≤ 400
  so : a.Pairwise ltE
  id : ∀ x ∈ a, 1 ≤ x.f2
theorem StOk.of {a : List En} (h : stRight a = true) : StOk a := by
  obtain ⟨h1, h2⟩ := stRight_rise h
  refine ⟨h1, List.pairwise_iff_getElem.2 (fun i j hi hj hij => h2 i j hi hj hij), fun x hx => ?_⟩
  unfold stRight at h
  rw [Bool.and_eq_true] at h
  have : ∀ (l : List En) p, stFrom p l = true → ∀ x ∈ l, 1 ≤ x.f2 := by
    intro l
    induction l with
    | nil => intro p _ x hx; cases hx
    | cons y r ih =>
      intro p hp x hx
      simp only [stFrom, Bool.and_eq_true] at hp
      rcases List.mem_cons.1 hx with rfl | hx
      · have := hp.1.1
        unfold enOk at this
        rw [decide_eq_true_iff] at this
        exact this.2.2.1
      · exact ih _ hp.2 x hx
  exact this a none h.2 x hx
theorem StOk.uniq {a : List En} (A : StOk a) {x y : En} (hx : x ∈ a) (hy : y ∈ a) (h : keyEq x y) : x = y := by
  obtain ⟨i, hi, rfl⟩ := List.getElem_of_mem hx
  obtain ⟨j, hj, rfl⟩ := List.getElem_of_mem hy
  have hp := List.pairwise_iff_getElem.1 A.so
  rcases Nat.lt_trichotomy i j with c | c | c
  · have := hp i j hi hj c; unfold keyEq at h; unfold ltE at this; omega
  · subst c; rfl
  · have := hp j i hj hi c; unfold keyEq at h; unfold ltE at this; omega
theorem StOk.at_ {a : List En} (A : StOk a) {x : En} (hx : x ∈ a) : stId a x.f0 x.f1 = x.f2 := by
  unfold stId
  cases hf : a.find? (fun y => decide (y.f0 = x.f0 ∧ y.f1 = x.f1)) with
  | none =>
    have := List.find?_eq_none.1 hf x hx
    simp at this
  | some y =>
    have h1 := List.find?_some hf
    rw [decide_eq_true_iff] at h1
    rw [A.uniq (List.mem_of_find?_eq_some hf) hx h1]
theorem stId_key {a : List En} {k m : Int} (h : stId a k m ≠ 0) : ∃ y ∈ a, y.f0 = k ∧ y.f1 = m ∧ y.f2 = stId a k m := by
  unfold stId at h ⊢
  cases hf : a.find? (fun y => decide (y.f0 = k ∧ y.f1 = m)) with
  | none => rw [hf] at h; exact absurd rfl h
  | some y =>
    have h1 := List.find?_some hf
    rw [decide_eq_true_iff] at h1
    exact ⟨y, List.mem_of_find?_eq_some hf, h1.1, h1.2, rfl⟩
theorem StOk.eq_mem {a : List En} (A : StOk a) {x : En} (h0 : 1 ≤ x.f2) : stId a x.f0 x.f1 = x.f2 ↔ x ∈ a := by
  constructor
  · intro h
    obtain ⟨y, hy, h1, h2, h3⟩ := stId_key (a := a) (k := x.f0) (m := x.f1) (by omega)
    have : y = x := by
      cases x; cases y
      simp only at h1 h2 h3 h
      subst h1; subst h2
      congr 1
      omega
    exact this ▸ hy
  · exact A.at_
theorem pair_ne {a : List En} (A : StOk a) : a.Pairwise (fun x y => ¬ keyEq x y) := A.so.imp (fun h e => by unfold keyEq at e; unfold ltE at h; omega)
theorem newD_ne {a b : List En} (A : StOk a) (B : StOk b) : (newD a b).Pairwise (fun x y => ¬ keyEq x y) := by
  unfold newD
  rw [List.pairwise_append]
  refine ⟨(pair_ne B).filter _, ?_, fun x hx y hy e => ?_⟩
  · unfold new2
    rw [List.pairwise_map]
    exact (pair_ne A).filter _
  · unfold new1 at hx
    unfold new2 at hy
    obtain ⟨z, hz, rfl⟩ := List.mem_map.1 hy
    obtain ⟨hz1, hz2⟩ := List.mem_filter.1 hz
    obtain ⟨hx1, _⟩ := List.mem_filter.1 hx
    rw [decide_eq_true_iff] at hz2
    have h1 := B.at_ hx1
    have h2 := B.id x hx1
    have e1 : x.f0 = z.f0 := e.1
    have e2 : x.f1 = z.f1 := e.2
    rw [e1, e2, hz2] at h1
    omega
theorem newD_len {a b : List En} (A : StOk a) (B : StOk b) : (newD a b).length ≤ 800 := by
  have h1 := A.n
  have h2 := B.n
  unfold newD new1 new2
  rw [List.length_append, List.length_map]
  have := List.length_filter_le (fun x => decide (stId a x.f0 x.f1 ≠ x.f2)) b
  have := List.length_filter_le (fun x => decide (stId b x.f0 x.f1 = 0)) a
  omega
def diffE (a b : List En) : List En := (newD a b).foldl putE []
theorem spec_diff_l1 (a b : List En) (A : StOk a) (B : StOk b) (d : Nat) : ∀ (i : Nat) (acc : List En), i + d = a.length → acc.length ≤ 400 + i → Ev (fun k => spec_l04Diff.l1 k a b acc (i : Int)) ((((a.drop i).filter (fun x => decide (stId b x.f0 x.f1 = 0))).map gone).foldl putE acc) := by
  have hn := A.n
  have hm := B.n
  have plen : ∀ (l : List En) (x : En), (putE l x).length ≤ l.length + 1 := by
    intro l x
    unfold putE
    rw [insE_len]
    have := List.length_filter_le (fun y => decide (¬ keyEq y x)) l
    omega
  induction d with
  | zero =>
    intro i acc hi _
    rw [List.drop_of_length_le (by omega)]
    refine Ev.one (fun k => ?_)
    simp only [spec_l04Diff.l1]
    rw [if_neg (by omega)]; rfl
  | succ d ih =>
    intro i acc hi ha
    have hlt : i < a.length := by omega
    have hw : wrap64 ((i : Int) + 1) = ((i + 1 : Nat) : Int) := w64 (by omega) (by omega)
    rw [drop_cons hlt, List.filter_cons]
    refine Ev.step (f := fun k => (spec_l04At.f k b (a[i]).f0 (a[i]).f1).bind fun t => if t = 0 then (spec_l04Put.f k acc (a[i]).f0 (a[i]).f1 0).bind fun u => spec_l04Diff.l1 k a b u ((i + 1 : Nat) : Int) else spec_l04Diff.l1 k a b acc ((i + 1 : Nat) : Int)) (fun k => ?_) (Ev.bind (l04At_ev b _ _ (by omega)) ?_)
    · simp only [spec_l04Diff.l1]
      rw [if_pos (by omega), if_pos (by omega), en_at hlt, hw]
    · by_cases c : stId b (a[i]).f0 (a[i]).f1 = 0
      · rw [if_pos (decide_eq_true c), List.map_cons, List.foldl_cons]
        refine Ev.pos c (Ev.bind (put_ev acc (gone a[i]) (by omega)) (ih (i + 1) _ (by omega) (by have := plen acc (gone a[i]); omega)))
      · rw [if_neg (by rw [decide_eq_true_iff]; exact c)]
        exact Ev.neg c (ih (i + 1) acc (by omega) (by omega))
theorem spec_diff_l0 (a b : List En) (A : StOk a) (B : StOk b) (d : Nat) : ∀ (i : Nat) (acc : List En), i + d = b.length → acc.length ≤ i → Ev (fun k => spec_l04Diff.l0 k a b acc (i : Int)) ((new2 a b).foldl putE (((b.drop i).filter (fun x => decide (stId a x.f0 x.f1 ≠ x.f2))).foldl putE acc)) := by
  have hn := A.n
  have hm := B.n
  have plen : ∀ (l : List En) (x : En), (putE l x).length ≤ l.length + 1 := by
    intro l x
    unfold putE
    rw [insE_len]
    have := List.length_filter_le (fun y => decide (¬ keyEq y x)) l
    omega
  induction d with
  | zero =>
    intro i acc hi ha
    rw [List.drop_of_length_le (by omega)]
    refine Ev.step (f := fun k => spec_l04Diff.l1 k a b acc 0) (fun k => ?_) ?_
    · simp only [spec_l04Diff.l0]
      rw [if_neg (by omega)]
    · have := spec_diff_l1 a b A B a.length 0 acc (by omega) (by omega)
      rw [List.drop_zero] at this
      exact this
  | succ d ih =>
    intro i acc hi ha
    have hlt : i < b.length := by omega
    have hw : wrap64 ((i : Int) + 1) = ((i + 1 : Nat) : Int) := w64 (by omega) (by omega)
    rw [drop_cons hlt, List.filter_cons]
    refine Ev.step (f := fun k => (spec_l04At.f k a (b[i]).f0 (b[i]).f1).bind fun t => if t = (b[i]).f2 then spec_l04Diff.l0 k a b acc ((i + 1 : Nat) : Int) else (spec_l04Put.f k acc (b[i]).f0 (b[i]).f1 (b[i]).f2).bind fun u => spec_l04Diff.l0 k a b u ((i + 1 : Nat) : Int)) (fun k => ?_) (Ev.bind (l04At_ev a _ _ (by omega)) ?_)
    · simp only [spec_l04Diff.l0]
      rw [if_pos (by omega), if_pos (by omega), en_at hlt, hw]
    · by_cases c : stId a (b[i]).f0 (b[i]).f1 = (b[i]).f2
      · rw [if_neg (by rw [decide_eq_true_iff]; exact fun h => h c)]
        exact Ev.pos c (ih (i + 1) acc (by omega) (by omega))
      · rw [if_pos (decide_eq_true c), List.foldl_cons]
        exact Ev.neg c (Ev.bind (put_ev acc b[i] (by omega)) (ih (i + 1) _ (by omega) (by have := plen acc b[i]; omega)))
def diffV (a b : List En) : List En := if stRight a && stRight b then diffE a b else []
theorem spec_StateDiff_ev (a b : List En) (ha : a.length ≤ 9223372036854775806) (hb : b.length ≤ 9223372036854775806) : Ev (fun k => spec_StateDiff.f k a b) (diffV a b) := by
  unfold spec_StateDiff.f diffV
  refine Ev.bind (spec_StateRight_ev a ha) ?_
  by_cases c : stRight a = true
  · refine Ev.pos c (Ev.bind (spec_StateRight_ev b hb) ?_)
    by_cases q : stRight b = true
    · rw [c, q]
      refine Ev.pos rfl (Ev.bind ?_ (Ev.now _))
      unfold spec_l04Diff.f
      have := spec_diff_l0 a b (StOk.of c) (StOk.of q) b.length 0 [] (by omega) (by simp)
      refine Ev.to ?_ this
      rw [List.drop_zero]
      show _ = diffE a b
      unfold diffE newD
      rw [List.foldl_append]; rfl
    · have q' : stRight b = false := by simpa using q
      rw [c, q']
      exact Ev.neg (by simp) (Ev.now _)
  · have c' : stRight a = false := by simpa using c
    rw [c']
    exact Ev.neg (by simp) (Ev.now _)
theorem has_l0 (l : List En) (x : En) (hl : l.length ≤ 9223372036854775806) (d : Nat) : ∀ i : Nat, i + d = l.length → Ev (fun k => impl_Entry_55.l0 k l (l.length : Int) (i : Int) x.f0 x.f1 x.f2) (if x ∈ l.drop i then ((i + (l.drop i).findIdx (fun y => decide (y = x)) : Nat) : Int) else -1) := by
  have heq : ∀ y : En, ((x.f0 == y.f0) && ((x.f1 == y.f1) && (x.f2 == y.f2))) = true ↔ y = x := by
    intro y
    cases x; cases y
    simp only [Bool.and_eq_true, beq_iff_eq]
    constructor
    · rintro ⟨rfl, rfl, rfl⟩; rfl
    · intro h; cases h; exact ⟨rfl, rfl, rfl⟩
  induction d with
  | zero =>
    intro i hi
    rw [List.drop_of_length_le (by omega)]
    refine Ev.one (fun k => ?_)
    simp only [impl_Entry_55.l0]
    rw [if_neg (by omega)]; simp
  | succ d ih =>
    intro i hi
    have hlt : i < l.length := by omega
    have hw : wrap64 ((i : Int) + 1) = ((i + 1 : Nat) : Int) := w64 (by omega) (by omega)
    rw [drop_cons hlt, List.findIdx_cons]
    by_cases c : l[i] = x
    · refine Ev.one (fun k => ?_)
      simp only [impl_Entry_55.l0]
      rw [if_pos (by omega), if_pos (by omega), if_pos (by omega), en_at hlt, if_pos ((heq _).2 c), if_pos (by simp [c])]
      simp [c]
    · refine Ev.step (f := fun k => impl_Entry_55.l0 k l (l.length : Int) ((i + 1 : Nat) : Int) x.f0 x.f1 x.f2) (fun k => ?_) (Ev.to ?_ (ih (i + 1) (by omega)))
      · simp only [impl_Entry_55.l0]
        rw [if_pos (by omega), if_pos (by omega), if_pos (by omega), en_at hlt, if_neg (fun h => c ((heq _).1 h)), hw]
      · have e1 : x ∈ l[i] :: l.drop (i + 1) ↔ x ∈ l.drop (i + 1) := by
          rw [List.mem_cons]
          exact ⟨fun h => h.elim (fun e => absurd e.symm c) id, .inr⟩
        by_cases m : x ∈ l.drop (i + 1)
        · rw [if_pos m, if_pos (e1.2 m)]
          simp [c]; omega
        · rw [if_neg m, if_neg (fun h => m (e1.1 h))]
theorem has_ev (l : List En) (x : En) (hl : l.length ≤ 9223372036854775806) : Ev (fun k => impl_Entry_38.f k l x.f0 x.f1 x.f2) (decide (x ∈ l)) := by
  unfold impl_Entry_38.f impl_Entry_55.f
  have := has_l0 l x hl l.length 0 (by omega)
  refine Ev.bind this (Ev.to ?_ (Ev.now _))
  rw [List.drop_zero]
  by_cases m : x ∈ l
  · rw [if_pos m, decide_eq_true m]
    exact decide_eq_true (by omega)
  · rw [if_neg m, decide_eq_false m]; rfl
theorem place_is (b : List En) (hb : stRight b = true) (x : En) : ∃ r : Int, Ev (fun k => impl_place.f k b x.f0 x.f1 x.f2) (r, decide (stId b x.f0 x.f1 ≠ 0)) := by
  obtain ⟨h1, h2⟩ := stRight_rise hb
  have B := StOk.of hb
  obtain ⟨r, hr, he, hc⟩ := place_ev b x (by omega)
  have hcut := hc (fun s t hs ht hst hlt => by
    rcases Nat.lt_or_ge s t with c | c
    · exact ltE_tr _ _ _ (h2 s t hs ht c) hlt
    · have : s = t := by omega
      subst this; exact hlt)
  have hf := find_at h2 x.f0 x.f1 r hcut
  refine ⟨r, Ev.to ?_ he⟩
  congr 1
  rw [hf]
  unfold hitAt
  by_cases q : r < b.length
  · rw [dif_pos q, dif_pos q]
    have hid := B.id _ (List.getElem_mem q)
    by_cases k : (b[r]).f0 = x.f0 ∧ (b[r]).f1 = x.f1
    · rw [if_pos k, decide_eq_true ((ordE_zero _ _).2 k), decide_eq_true (by omega)]
    · rw [if_neg k, decide_eq_false (fun e => k ((ordE_zero _ _).1 e))]; rfl
  · rw [dif_neg q, dif_neg q]; rfl
theorem sort_new {a b : List En} (A : StOk a) (B : StOk b) : sortEn (newD a b) = diffE a b := by
  obtain ⟨p1, p2⟩ := sortEn_ok (newD a b)
  obtain ⟨q1, q2, _⟩ := fold_put (newD a b) [] List.Pairwise.nil (newD_ne A B) (fun y hy => by cases hy)
  refine sorted_extG ltE ltE_irr ltE_tr _ _ ?_ q1 (fun z => ?_)
  · have hne : (sortEn (newD a b)).Pairwise (fun x y => ¬ keyEq x y) := by
      refine (p1.pairwise_iff (fun {x y} h e => h ⟨e.1.symm, e.2.symm⟩)).2 (newD_ne A B)
    refine (p2.and hne).imp (fun {x y} h => ?_)
    obtain ⟨h1, h2⟩ := h
    rw [ordH_lt, decide_eq_false_iff_not] at h1
    unfold keyEq at h2
    unfold ltE
    omega
  · rw [show z ∈ diffE a b ↔ _ from q2 z, p1.mem_iff]
    simp
theorem impl_diff_l1 (a b : List En) (A : StOk a) (hb : stRight b = true) (R : List En) (d : Nat) : ∀ (i : Nat) (acc : List En), i + d = a.length → acc.length ≤ 400 + i → sortEn (acc ++ ((a.drop i).filter (fun x => decide (stId b x.f0 x.f1 = 0))).map gone) = R → Ev (fun k => impl_diff.l1 k b acc a (a.length : Int) (i : Int)) R := by
  have hn := A.n
  induction d with
  | zero =>
    intro i acc hi ha hR
    rw [List.drop_of_length_le (by omega)] at hR
    simp only [List.filter_nil, List.map_nil, List.append_nil] at hR
    refine Ev.one (fun k => ?_)
    simp only [impl_diff.l1, impl_Entry_40.f]
    rw [if_neg (by omega), if_pos (by omega), hR]; rfl
  | succ d ih =>
    intro i acc hi ha hR
    have hlt : i < a.length := by omega
    have hw : wrap64 ((i : Int) + 1) = ((i + 1 : Nat) : Int) := w64 (by omega) (by omega)
    rw [drop_cons hlt, List.filter_cons] at hR
    obtain ⟨r, hp⟩ := place_is b hb a[i]
    refine Ev.step (f := fun k => (impl_place.f k b (a[i]).f0 (a[i]).f1 (a[i]).f2).bind fun t => if t.2 = true then impl_diff.l1 k b acc a (a.length : Int) ((i + 1 : Nat) : Int) else if acc.length < 5864062014805 then impl_diff.l1 k b (acc ++ [gone a[i]]) a (a.length : Int) ((i + 1 : Nat) : Int) else none) (fun k => ?_) (Ev.bind hp ?_)
    · simp only [impl_diff.l1]
      rw [if_pos (by omega), if_pos (by omega), if_pos (by omega), en_at hlt, hw]; rfl
    · by_cases c : stId b (a[i]).f0 (a[i]).f1 = 0
      · rw [if_pos (decide_eq_true c), List.map_cons] at hR
        refine Ev.neg (by simp [c]) (Ev.pos (by omega) (ih (i + 1) _ (by omega) (by simp; omega) ?_))
        rw [← hR]; simp
      · rw [if_neg (by rw [decide_eq_true_iff]; exact c)] at hR
        exact Ev.pos (decide_eq_true c) (ih (i + 1) acc (by omega) (by omega) hR)
theorem impl_diff_l0 (a b : List En) (ha : stRight a = true) (hb : stRight b = true) (R : List En) (d : Nat) : ∀ (i : Nat) (acc : List En), i + d = b.length → acc.length ≤ i → sortEn ((acc ++ (b.drop i).filter (fun x => decide (stId a x.f0 x.f1 ≠ x.f2))) ++ new2 a b) = R → Ev (fun k => impl_diff.l0 k a b acc b (b.length : Int) (i : Int)) R := by
  have A := StOk.of ha
  have B := StOk.of hb
  have hn := A.n
  have hm := B.n
  induction d with
  | zero =>
    intro i acc hi h0 hR
    rw [List.drop_of_length_le (by omega)] at hR
    simp only [List.filter_nil, List.append_nil] at hR
    refine Ev.step (f := fun k => impl_diff.l1 k b acc a (a.length : Int) 0) (fun k => ?_) ?_
    · simp only [impl_diff.l0]
      rw [if_neg (by omega)]
    · exact impl_diff_l1 a b A hb R a.length 0 acc (by omega) (by omega) (by rw [List.drop_zero]; exact hR)
  | succ d ih =>
    intro i acc hi h0 hR
    have hlt : i < b.length := by omega
    have hw : wrap64 ((i : Int) + 1) = ((i + 1 : Nat) : Int) := w64 (by omega) (by omega)
    rw [drop_cons hlt, List.filter_cons] at hR
    have hmem := A.eq_mem (B.id _ (List.getElem_mem hlt))
    refine Ev.step (f := fun k => (impl_Entry_38.f k a (b[i]).f0 (b[i]).f1 (b[i]).f2).bind fun t => if t = true then impl_diff.l0 k a b acc b (b.length : Int) ((i + 1 : Nat) : Int) else if acc.length < 5864062014805 then impl_diff.l0 k a b (acc ++ [b[i]]) b (b.length : Int) ((i + 1 : Nat) : Int) else none) (fun k => ?_) (Ev.bind (has_ev a b[i] (by omega)) ?_)
    · simp only [impl_diff.l0]
      rw [if_pos (by omega), if_pos (by omega), if_pos (by omega), en_at hlt, hw]
    · by_cases c : stId a (b[i]).f0 (b[i]).f1 = (b[i]).f2
      · rw [if_neg (by rw [decide_eq_true_iff]; exact fun h => h c)] at hR
        exact Ev.pos (decide_eq_true (hmem.1 c)) (ih (i + 1) acc (by omega) (by omega) hR)
      · rw [if_pos (decide_eq_true c)] at hR
        refine Ev.neg (by rw [decide_eq_true_iff]; exact fun h => c (hmem.2 h)) (Ev.pos (by omega) (ih (i + 1) _ (by omega) (by simp; omega) ?_))
        rw [← hR]; simp
theorem impl_StateDiff_ev (a b : List En) (ha : a.length ≤ 9223372036854775806) (hb : b.length ≤ 9223372036854775806) : Ev (fun k => impl_StateDiff.f k a b) (diffV a b) := by
  unfold impl_StateDiff.f diffV
  refine Ev.bind (impl_StateRight_ev a ha) ?_
  by_cases c : stRight a = true
  · refine Ev.pos c (Ev.bind (impl_StateRight_ev b hb) ?_)
    by_cases q : stRight b = true
    · rw [c, q]
      refine Ev.pos rfl (Ev.bind ?_ (Ev.now _))
      unfold impl_diff.f
      exact impl_diff_l0 a b c q (diffE a b) b.length 0 [] (by omega) (by simp) (by rw [List.drop_zero, List.nil_append]; exact sort_new (StOk.of c) (StOk.of q))
    · have q' : stRight b = false := by simpa using q
      rw [c, q']
      exact Ev.neg (by simp) (Ev.now _)
  · have c' : stRight a = false := by simpa using c
    rw [c']
    exact Ev.neg (by simp) (Ev.now _)
theorem diffV_len (a b : List En) : (diffV a b).length ≤ 800 := by
  unfold diffV
  by_cases c : (stRight a && stRight b) = true
  · rw [if_pos c]
    rw [Bool.and_eq_true] at c
    have A := StOk.of c.1
    have B := StOk.of c.2
    have h := (fold_put (newD a b) [] List.Pairwise.nil (newD_ne A B) (fun y hy => by cases hy)).2.2
    have h2 := newD_len A B
    show ((newD a b).foldl putE []).length ≤ 800
    rw [h]; simpa using h2
  · rw [if_neg c]; simp
/-! A row of entries, marked. -/
def markEn (m : Int) : List En → List En
  | [] => []
  | _ :: r => ⟨m, m + 1, m + 2⟩ :: markEn (m + 3) r
theorem markEn_len (l : List En) : ∀ m, (markEn m l).length = l.length := by
  induction l with
  | nil => intro m; rfl
  | cons x r ih => intro m; simp [markEn, ih]
theorem markEn_l0 (d : Nat) : ∀ (i : Nat) (l : List En) (m : Int), i + d = l.length → l.length ≤ 4194304 → 0 ≤ m → m + 3 * (d : Int) ≤ 1099511627776 →
    Ev (fun k => laws_markEntryS.l0 k l m (i : Int)) (m + 3 * (d : Int), l.take i ++ markEn m (l.drop i)) := by
  induction d with
  | zero =>
    intro i l m hi hl h0 h1
    rw [List.drop_of_length_le (by omega), List.take_of_length_le (by omega)]
    refine Ev.one (fun k => ?_)
    simp only [laws_markEntryS.l0]
    rw [if_neg (by omega)]
    simp [markEn]
  | succ d ih =>
    intro i l m hi hl h0 h1
    have hlt : i < l.length := by omega
    have hw : wrap64 ((i : Int) + 1) = ((i + 1 : Nat) : Int) := w64 (by omega) (by omega)
    have hw2 : wrap64 (m + 1) = m + 1 := w64 (by omega) (by omega)
    have hw3 : wrap64 (m + 1 + 1) = m + 2 := by rw [w64 (by omega) (by omega)]; omega
    have hw4 : wrap64 (m + 2 + 1) = m + 3 := by rw [w64 (by omega) (by omega)]; omega
    refine Ev.step (f := fun k => laws_markEntryS.l0 k (l.set i ⟨m, m + 1, m + 2⟩) (m + 3) ((i + 1 : Nat) : Int)) (fun k => ?_) (Ev.to ?_ (ih (i + 1) (l.set i ⟨m, m + 1, m + 2⟩) (m + 3) (by simp; omega) (by simpa using hl) (by omega) (by omega)))
    · simp only [laws_markEntryS.l0]
      rw [if_pos (by omega), if_pos (by omega), hw, hw2, hw3, hw4, Int.toNat_natCast]
      simp only [Option.bind_some]
      have s1 : ∀ (z : En), i < (l.set i z).length := fun z => by simpa using hlt
      have r1 : rd_T47 (l.set i ⟨m, (rd_T47 l (i : Int)).f1, (rd_T47 l (i : Int)).f2⟩) (i : Int) = ⟨m, (rd_T47 l (i : Int)).f1, (rd_T47 l (i : Int)).f2⟩ := by
        rw [en_at (s1 _)]; simp
      rw [r1]
      simp only [List.set_set]
      have r2 : ∀ z : En, rd_T47 (l.set i z) (i : Int) = z := fun z => by rw [en_at (s1 _)]; simp
      simp only [r2]
    · have e0 : m + 3 + 3 * (d : Int) = m + 3 * ((d + 1 : Nat) : Int) := by omega
      rw [drop_cons hlt, markEn, e0]
      have e1 : (l.set i (⟨m, m + 1, m + 2⟩ : En)).take (i + 1) = l.take i ++ [⟨m, m + 1, m + 2⟩] := by
        rw [List.take_succ_eq_append_getElem (by simp; exact hlt), List.take_set_of_le (Nat.le_refl _)]
        simp
      have e2 : (l.set i (⟨m, m + 1, m + 2⟩ : En)).drop (i + 1) = l.drop (i + 1) := by rw [List.drop_set_of_lt (by omega)]
      rw [e1, e2, List.append_assoc]; rfl
theorem markEn_ev (l : List En) (m : Int) (hl : l.length ≤ 4194304) (h0 : 0 ≤ m) (h1 : m ≤ 1000000000) : Ev (fun k => laws_markEntryS.f k l m) (m + 3 * (l.length : Int), markEn m l) := by
  have := markEn_l0 l.length 0 l m (by omega) hl h0 (by omega)
  unfold laws_markEntryS.f
  simpa using this
theorem markEn_get (l : List En) : ∀ (m : Int) (i : Nat) (h : i < (markEn m l).length), (markEn m l)[i] = ⟨m + 3 * i, m + 3 * i + 1, m + 3 * i + 2⟩ := by
  induction l with
  | nil => intro m i h; simp [markEn] at h
  | cons x r ih =>
    intro m i h
    cases i with
    | zero => simp [markEn]
    | succ i =>
      simp only [markEn, List.getElem_cons_succ]
      rw [ih]
      congr 1 <;> omega
theorem heldEn_l0 (m : Int) (h0 : 0 ≤ m) (h1 : m ≤ 1000000000) (l : List En) (hl : l.length ≤ 4194304) (d : Nat) : ∀ i : Nat, i + d = l.length → Ev (fun k => laws_heldEntryS.l0 k (markEn m l) (m + 3 * (i : Int)) (i : Int)) (m + 3 * (l.length : Int)) := by
  have hlen := markEn_len l m
  induction d with
  | zero =>
    intro i hi
    refine Ev.one (fun k => ?_)
    simp only [laws_heldEntryS.l0]
    rw [if_neg (by omega)]
    congr 2; omega
  | succ d ih =>
    intro i hi
    have hlt : i < (markEn m l).length := by omega
    have hw : wrap64 ((i : Int) + 1) = ((i + 1 : Nat) : Int) := w64 (by omega) (by omega)
    have hg := markEn_get l m i hlt
    have hw2 : wrap64 (m + 3 * (i : Int) + 1) = m + 3 * (i : Int) + 1 := w64 (by omega) (by omega)
    have hw3 : wrap64 (m + 3 * (i : Int) + 1 + 1) = m + 3 * (i : Int) + 2 := by rw [w64 (by omega) (by omega)]; omega
    have hw4 : wrap64 (m + 3 * (i : Int) + 2 + 1) = m + 3 * ((i + 1 : Nat) : Int) := by rw [w64 (by omega) (by omega)]; omega
    refine Ev.step (fun k => ?_) (ih (i + 1) (by omega))
    simp only [laws_heldEntryS.l0]
    rw [if_pos (by omega), if_pos (by omega), en_at hlt, hg, if_pos rfl, hw2, if_pos rfl, hw3, if_pos rfl, hw4, hw]
theorem heldEn_ev (l : List En) (m : Int) (hl : l.length ≤ 4194304) (h0 : 0 ≤ m) (h1 : m ≤ 1000000000) : Ev (fun k => laws_heldEntryS.f k (markEn m l) m) (m + 3 * (l.length : Int)) := by
  have := heldEn_l0 m h0 h1 l hl l.length 0 (by omega)
  unfold laws_heldEntryS.f
  simpa using this


end Go.Proofs.Ytcbfopepfhfaoaa.Print
