/- Lemmas: valid room states. -/
import Derived.Test.YtjijknajgamdaaaStFnExactStateRight
import Derived.Laws.Bits64
namespace Go.Proofs.Ytjijknajgamdaaa.Print
open Go.RowKit Go.Proofs.YtjijknajgamdaaaW.PrintWords Go.Proofs.YtjijknajgamdaaaW.PrintLast Go.Proofs.YtjijknajgamdaaaW.PrintMore
set_option linter.unusedVariables false
set_option linter.unusedSimpArgs false

/-! Rounds: small helpers. -/
theorem Ev.pos {α : Type} {c : Prop} [Decidable c] {f g : Nat → Option α} {r : α} (hc : c) (h : Ev f r) : Ev (fun n => if c then f n else g n) r := by
  simp only [hc, if_true]; exact h
theorem Ev.neg {α : Type} {c : Prop} [Decidable c] {f g : Nat → Option α} {r : α} (hc : ¬ c) (h : Ev g r) : Ev (fun n => if c then f n else g n) r := by
  simp only [hc, if_false]; exact h
theorem Ev.here {α : Type} {o : Option α} {r : α} (h : o = some r) : Ev (fun _ => o) r := ⟨0, fun _ _ => h⟩
theorem Ev.take {α β : Type} {o : Option α} {f : Nat → α → Option β} {a : α} {r : β} (h : o = some a) (k : Ev (fun n => f n a) r) : Ev (fun n => o.bind (f n)) r := by
  subst h; exact k
theorem Ev.one {α : Type} {g : Nat → Option α} {r : α} (h : ∀ k, g (k + 1) = some r) : Ev g r := Ev.step (f := fun _ => some r) h (Ev.now r)
theorem Ev.to {α : Type} {g : Nat → Option α} {r q : α} (e : r = q) (h : Ev g r) : Ev g q := e ▸ h

/-! Lists of structs, read one by one. -/
theorem w64 {n : Int} (h0 : -9223372036854775808 ≤ n) (h1 : n ≤ 9223372036854775807) : wrap64 n = n := by unfold wrap64; omega
theorem drop_cons {α : Type} {l : List α} {i : Nat} (h : i < l.length) : l.drop i = l[i] :: l.drop (i + 1) := List.drop_eq_getElem_cons h
theorem getD_at {α : Type} {l : List α} {i : Nat} (d : α) (h : i < l.length) : l.getD ((i : Int)).toNat d = l[i] := by
  rw [Int.toNat_natCast, List.getD_eq_getElem?_getD, List.getElem?_eq_getElem h]; rfl

/-! Ranges. -/
theorem in_eq (a b c : Int) : impl_in.f a b c = some (decide (b ≤ a ∧ a ≤ c)) := by
  unfold impl_in.f; split <;> simp [*]
theorem is_eq (a b c : Int) : spec_l02Is.f a b c = some (decide (b ≤ a ∧ a ≤ c)) := by
  unfold spec_l02Is.f
  by_cases h : b ≤ a
  · rw [if_pos h]; simp [h]
  · rw [if_neg h]; simp [h]

theorem l02Id_eq (a : Int) : spec_l02Id.f a = some (decide (1 ≤ a ∧ a ≤ 1000000)) := by unfold spec_l02Id.f; rw [is_eq]; rfl

/-! Entries: their order, valid states. -/
abbrev En := S86
abbrev EnL := S88
def toEn (x : EnL) : En := ⟨x.f0, x.f1, x.f2⟩
theorem en_at {l : List En} {i : Nat} (h : i < l.length) : rd_T86 l (i : Int) = l[i] := getD_at _ h
theorem enL_at {l : List EnL} {i : Nat} (h : i < l.length) : rd_T88 l (i : Int) = l[i] := getD_at _ h
def cmpI (a b : Int) : Int := if a < b then -1 else if a > b then 1 else 0
theorem compare_eq (a b : Int) : cmp_Compare_int64.f a b = some (cmpI a b) := by
  unfold cmp_Compare_int64.f cmp_isNaN_int64.f cmpI
  simp only [Option.bind_some, bne_self_eq_false]
  rw [if_neg (by simp), if_neg (by simp)]
  split
  · rfl
  · split <;> rfl
def orI (a b : Int) : Int := if a = 0 then b else a
theorem or_ev (a b : Int) : Ev (fun k => cmp_Or_int.f k [a, b]) (orI a b) := by
  unfold cmp_Or_int.f orI
  by_cases ha : a = 0
  · rw [if_pos ha]
    refine Ev.step (f := fun k => cmp_Or_int.l0 k 0 [a, b] 2 1) (fun k => ?_) ?_
    · simp only [cmp_Or_int.l0]
      rw [if_pos (by simp), if_pos (by omega), if_pos (by simp), if_pos (by simpa [rd] using ha), show wrap64 (0 + 1) = 1 from by unfold wrap64; omega]; rfl
    · by_cases hb : b = 0
      · refine Ev.step (f := fun k => cmp_Or_int.l0 k 0 [a, b] 2 2) (fun k => ?_) (Ev.one (fun k => ?_))
        · simp only [cmp_Or_int.l0]
          rw [if_pos (by omega), if_pos (by omega), if_pos (by simp), if_pos (by simpa [rd] using hb), show wrap64 (1 + 1) = 2 from by unfold wrap64; omega]
        · simp only [cmp_Or_int.l0]
          rw [if_neg (by omega), hb]
      · refine Ev.one (fun k => ?_)
        simp only [cmp_Or_int.l0]
        rw [if_pos (by omega), if_pos (by omega), if_pos (by simp), if_neg (by simpa [rd] using hb)]; rfl
  · rw [if_neg ha]
    refine Ev.one (fun k => ?_)
    simp only [cmp_Or_int.l0]
    rw [if_pos (by simp), if_pos (by omega), if_pos (by simp), if_neg (by simpa [rd] using ha)]; rfl
def ordE (x y : En) : Int := orI (cmpI x.f0 y.f0) (cmpI x.f1 y.f1)
theorem order_ev (x y : En) : Ev (fun k => impl_Entry_order.f k x.f0 x.f1 x.f2 y.f0 y.f1 y.f2) (ordE x y) := by
  unfold impl_Entry_order.f
  exact Ev.take (compare_eq _ _) (Ev.take (compare_eq _ _) (Ev.bind (or_ev _ _) (Ev.now _)))
def ltE (x y : En) : Prop := x.f0 < y.f0 ∨ x.f0 = y.f0 ∧ x.f1 < y.f1
instance (x y : En) : Decidable (ltE x y) := by unfold ltE; exact inferInstance
theorem ordE_neg (x y : En) : ordE x y < 0 ↔ ltE x y := by
  unfold ordE ltE orI cmpI; repeat' split
  all_goals omega
theorem ordE_zero (x y : En) : ordE x y = 0 ↔ x.f0 = y.f0 ∧ x.f1 = y.f1 := by
  unfold ordE orI cmpI; repeat' split
  all_goals omega
theorem l04Less_eq (x y : En) : spec_l04Less.f x.f0 x.f1 x.f2 y.f0 y.f1 y.f2 = some (decide (ltE x y)) := by
  unfold spec_l04Less.f
  by_cases h : x.f0 < y.f0
  · rw [if_pos h]; congr 1; exact (decide_eq_true (show ltE x y from Or.inl h)).symm
  · rw [if_neg h]
    by_cases h2 : x.f0 = y.f0
    · rw [if_pos h2]; congr 1; rw [decide_eq_decide]; unfold ltE; omega
    · rw [if_neg h2, decide_eq_false (by unfold ltE; omega)]
def enOk (least : Int) (x : En) : Bool := decide ((1 ≤ x.f0 ∧ x.f0 ≤ 6) ∧ (0 ≤ x.f1 ∧ x.f1 ≤ 6) ∧ (least ≤ x.f2 ∧ x.f2 ≤ 1000000))
theorem l04Entry_eq (x : En) : spec_l04Entry.f x.f0 x.f1 x.f2 false = some (enOk 1 x) := by
  unfold spec_l04Entry.f enOk
  rw [is_eq, is_eq, l02Id_eq]
  simp only [Option.bind_some]
  repeat' split
  all_goals (simp_all; try omega)
def stFrom : Option En → List En → Bool
  | _, [] => true
  | p, x :: r => (enOk 1 x && (match p with | none => true | some q => decide (ltE q x))) && stFrom (some x) r
def stRight (l : List En) : Bool := decide (l.length ≤ 400) && stFrom none l

theorem spec_row_l0 (l : List En) (hl : l.length ≤ 9223372036854775806) (d : Nat) : ∀ (i : Nat) (p : Option En), i + d = l.length →
    (i = 0 ∧ p = none ∨ ∃ h : 0 < i ∧ i ≤ l.length, p = some (l[i - 1]'(by omega))) →
    Ev (fun k => spec_l04Row.l0 k l false (i : Int)) (stFrom p (l.drop i)) := by
  induction d with
  | zero =>
    intro i p hi _
    refine Ev.one (fun k => ?_)
    simp only [spec_l04Row.l0]
    rw [if_neg (by omega), List.drop_of_length_le (by omega)]; rfl
  | succ d ih =>
    intro i p hi hp
    have hlt : i < l.length := by omega
    rw [drop_cons hlt]
    have hw : wrap64 ((i : Int) + 1) = ((i + 1 : Nat) : Int) := by unfold wrap64; omega
    have ihn := ih (i + 1) (some l[i]) (by omega) (Or.inr ⟨⟨by omega, by omega⟩, by simp only [Nat.add_sub_cancel]⟩)
    generalize hx : l[i] = x at ihn
    have hx' : rd_T86 l (i : Int) = x := by rw [en_at hlt, hx]
    simp only [stFrom]
    cases he : enOk 1 x
    · rw [Bool.false_and, Bool.false_and]
      refine Ev.one (fun k => ?_)
      simp only [spec_l04Row.l0]
      rw [if_pos (by omega), if_pos (by omega), hx', l04Entry_eq, he]
      simp only [Option.bind_some]
      rw [if_neg (by simp)]
    · rw [Bool.true_and]
      rcases hp with ⟨rfl, rfl⟩ | ⟨⟨p1, p2⟩, hlo⟩
      · rw [Bool.true_and]
        refine Ev.step (f := fun k => spec_l04Row.l0 k l false ((0 + 1 : Nat) : Int)) (fun k => ?_) ihn
        simp only [spec_l04Row.l0]
        rw [if_pos (by omega), if_pos (by omega), hx', l04Entry_eq, he]
        simp only [Option.bind_some]
        rw [if_pos (by trivial), if_neg (by omega), hw]
      · have e1 : wrap64 ((i : Int) - 1) = ((i - 1 : Nat) : Int) := by unfold wrap64; omega
        have e2 : rd_T86 l ((i - 1 : Nat) : Int) = l[i - 1]'(by omega) := en_at (by omega)
        rw [hlo]
        generalize l[i - 1]'(by omega) = q at e2
        by_cases c : ltE q x
        · simp only [decide_eq_true c, Bool.true_and]
          refine Ev.step (f := fun k => spec_l04Row.l0 k l false ((i + 1 : Nat) : Int)) (fun k => ?_) ihn
          simp only [spec_l04Row.l0]
          rw [if_pos (by omega), if_pos (by omega), hx', l04Entry_eq, he]
          simp only [Option.bind_some]
          rw [if_pos (by trivial), if_pos (by omega), e1, if_pos (by omega), if_pos (by omega), e2, l04Less_eq, decide_eq_true c]
          simp only [Option.bind_some]
          rw [if_pos (by trivial), hw]
        · simp only [decide_eq_false c, Bool.false_and]
          refine Ev.one (fun k => ?_)
          simp only [spec_l04Row.l0]
          rw [if_pos (by omega), if_pos (by omega), hx', l04Entry_eq, he]
          simp only [Option.bind_some]
          rw [if_pos (by trivial), if_pos (by omega), e1, if_pos (by omega), if_pos (by omega), e2, l04Less_eq, decide_eq_false c]
          simp only [Option.bind_some]
          rw [if_neg (by simp)]
theorem spec_StateRight_ev (l : List En) (hl : l.length ≤ 9223372036854775806) : Ev (fun k => spec_StateRight.f k l) (stRight l) := by
  unfold spec_StateRight.f spec_l04Row.f stRight
  refine Ev.bind (a := stRight l) ?_ (Ev.now _)
  unfold stRight
  by_cases c : l.length ≤ 400
  · refine Ev.neg (by omega) (Ev.to ?_ (spec_row_l0 l hl l.length 0 none (by omega) (Or.inl ⟨rfl, rfl⟩)))
    simp [c]
  · exact Ev.pos (by omega) (Ev.to (by simp [c]) (Ev.now _))

theorem impl_row_l0 (l : List En) (hl : l.length ≤ 9223372036854775806) (d : Nat) : ∀ (i : Nat) (p : Option En), i + d = l.length →
    (i = 0 ∧ p = none ∨ ∃ h : 0 < i ∧ i ≤ l.length, p = some (l[i - 1]'(by omega))) →
    Ev (fun k => impl_entriesRight.l0 k l 1 l (l.length : Int) (i : Int)) (stFrom p (l.drop i) && decide (l.length ≤ 400)) := by
  induction d with
  | zero =>
    intro i p hi _
    refine Ev.one (fun k => ?_)
    simp only [impl_entriesRight.l0]
    rw [if_neg (by omega), List.drop_of_length_le (by omega)]
    simp [stFrom]; omega
  | succ d ih =>
    intro i p hi hp
    have hlt : i < l.length := by omega
    rw [drop_cons hlt]
    have hw : wrap64 ((i : Int) + 1) = ((i + 1 : Nat) : Int) := by unfold wrap64; omega
    have ihn := ih (i + 1) (some l[i]) (by omega) (Or.inr ⟨⟨by omega, by omega⟩, by simp only [Nat.add_sub_cancel]⟩)
    generalize hx : l[i] = x at ihn
    have hx' : rd_T86 l (i : Int) = x := by rw [en_at hlt, hx]
    simp only [stFrom]
    by_cases c1 : 1 ≤ x.f0 ∧ x.f0 ≤ 6
    · by_cases c2 : 0 ≤ x.f1 ∧ x.f1 ≤ 6
      · by_cases c3 : 1 ≤ x.f2 ∧ x.f2 ≤ 1000000
        · have he : enOk 1 x = true := decide_eq_true ⟨c1, c2, c3⟩
          rw [he, Bool.true_and]
          rcases hp with ⟨rfl, rfl⟩ | ⟨⟨p1, p2⟩, hlo⟩
          · rw [Bool.true_and]
            refine Ev.step (f := fun k => impl_entriesRight.l0 k l 1 l (l.length : Int) ((0 + 1 : Nat) : Int)) (fun k => ?_) ihn
            simp only [impl_entriesRight.l0]
            rw [if_pos (by omega), if_pos (by omega), if_pos (by omega), hx', in_eq, in_eq, in_eq]
            simp only [Option.bind_some]
            rw [if_pos (by simpa using c1), if_pos (by simpa using c2), if_pos (by simpa using c3), if_neg (by omega), hw]
          · have e1 : wrap64 ((i : Int) - 1) = ((i - 1 : Nat) : Int) := by unfold wrap64; omega
            have e2 : rd_T86 l ((i - 1 : Nat) : Int) = l[i - 1]'(by omega) := en_at (by omega)
            rw [hlo]
            generalize l[i - 1]'(by omega) = q at e2
            refine Ev.step (f := fun k => (impl_Entry_order.f k q.f0 q.f1 q.f2 x.f0 x.f1 x.f2).bind fun t => if t ≥ 0 then some false else impl_entriesRight.l0 k l 1 l (l.length : Int) ((i + 1 : Nat) : Int)) (fun k => ?_) (Ev.bind (order_ev q x) ?_)
            · simp only [impl_entriesRight.l0]
              rw [if_pos (by omega), if_pos (by omega), if_pos (by omega), hx', in_eq, in_eq, in_eq]
              simp only [Option.bind_some]
              rw [if_pos (by simpa using c1), if_pos (by simpa using c2), if_pos (by simpa using c3), if_pos (by omega), e1, if_pos (by omega), if_pos (by omega), e2, hw]
            · by_cases c : ltE q x
              · simp only [decide_eq_true c, Bool.true_and]
                exact Ev.neg (by have := (ordE_neg q x).2 c; omega) ihn
              · simp only [decide_eq_false c, Bool.false_and]
                exact Ev.pos (by have := mt (ordE_neg q x).1 c; omega) (Ev.now _)
        · rw [show enOk 1 x = false from decide_eq_false (by omega), Bool.false_and, Bool.false_and, Bool.false_and]
          refine Ev.one (fun k => ?_)
          simp only [impl_entriesRight.l0]
          rw [if_pos (by omega), if_pos (by omega), if_pos (by omega), hx', in_eq, in_eq, in_eq]
          simp only [Option.bind_some]
          rw [if_pos (by simpa using c1), if_pos (by simpa using c2), if_neg (by simpa using c3)]
      · rw [show enOk 1 x = false from decide_eq_false (by omega), Bool.false_and, Bool.false_and, Bool.false_and]
        refine Ev.one (fun k => ?_)
        simp only [impl_entriesRight.l0]
        rw [if_pos (by omega), if_pos (by omega), if_pos (by omega), hx', in_eq, in_eq]
        simp only [Option.bind_some]
        rw [if_pos (by simpa using c1), if_neg (by simpa using c2)]
    · rw [show enOk 1 x = false from decide_eq_false (by omega), Bool.false_and, Bool.false_and, Bool.false_and]
      refine Ev.one (fun k => ?_)
      simp only [impl_entriesRight.l0]
      rw [if_pos (by omega), if_pos (by omega), if_pos (by omega), hx', in_eq]
      simp only [Option.bind_some]
      rw [if_neg (by simpa using c1)]
theorem impl_StateRight_ev (l : List En) (hl : l.length ≤ 9223372036854775806) : Ev (fun k => impl_StateRight.f k l) (stRight l) := by
  unfold impl_StateRight.f impl_entriesRight.f stRight
  rw [Bool.and_comm]
  exact Ev.bind (by simpa using impl_row_l0 l hl l.length 0 none (by omega) (Or.inl ⟨rfl, rfl⟩)) (Ev.now _)

/-! ### the laws' own helpers -/
theorem szEntryS_eq (l : List EnL) (a : Int) (ha : -1 ≤ a) (h : a ≤ 1048576) (hn : l.length ≤ 9223372036854775807) :
    laws_szEntryS.f l a = some (if a < l.length then -1 else a - l.length) := by
  unfold laws_szEntryS.f
  rw [w64 (by omega) (by omega)]
  by_cases c : a < l.length
  · rw [if_pos (by omega), if_pos c]
  · rw [if_neg (by omega), if_neg c]
theorem toEntry_eq (a b c : Int) : laws_toEntry.f a b c = some (a, b, c) := rfl
theorem toEntryS_l0 (l : List EnL) (hl : l.length ≤ 1048576) (d : Nat) : ∀ (i : Nat) (acc : List En), i + d = l.length → acc.length = l.length → acc.take i = (l.take i).map toEn →
    Ev (fun k => laws_toEntryS.l0 k l acc (i : Int)) (l.map toEn) := by
  induction d with
  | zero =>
    intro i acc hi ha hp
    refine Ev.to ?_ (Ev.one (r := acc) (fun k => ?_))
    · rw [List.take_of_length_le (by omega), List.take_of_length_le (by omega)] at hp
      exact hp
    · simp only [laws_toEntryS.l0]
      rw [if_neg (by omega)]
  | succ d ih =>
    intro i acc hi ha hp
    have hlt : i < l.length := by omega
    refine Ev.step (f := fun k => laws_toEntryS.l0 k l (acc.set i (toEn l[i])) ((i + 1 : Nat) : Int)) (fun k => ?_) (ih (i + 1) (acc.set i (toEn l[i])) (by omega) (by simpa using ha) ?_)
    · simp only [laws_toEntryS.l0]
      rw [if_pos (by omega), if_pos (by omega), enL_at hlt, toEntry_eq]
      simp only [Option.bind_some]
      rw [if_pos (by omega), w64 (by omega) (by omega), Int.toNat_natCast]
      rfl
    · rw [List.take_succ_eq_append_getElem (by simp; omega), List.take_succ_eq_append_getElem hlt, List.map_append, ← hp, List.take_set_of_le (by omega)]
      simp
theorem toEntryS_ev (l : List EnL) (hl : l.length ≤ 1048576) : Ev (fun k => laws_toEntryS.f k l) (l.map toEn) := by
  unfold laws_toEntryS.f
  refine Ev.pos (by omega) (Ev.pos (by simp; omega) ?_)
  exact toEntryS_l0 l hl l.length 0 _ (by omega) (by simp) (by simp)
theorem eqEntry_self (a b c : Int) : laws_eqEntry.f a b c a b c = some true := by unfold laws_eqEntry.f; simp
theorem eqEntryS_l0 (l : List En) (hl : l.length ≤ 9223372036854775806) (d : Nat) : ∀ i : Nat, i + d = l.length → Ev (fun k => laws_eqEntryS.l0 k l l (i : Int)) true := by
  induction d with
  | zero =>
    intro i hi
    refine Ev.one (fun k => ?_)
    simp only [laws_eqEntryS.l0]
    rw [if_neg (by omega)]
  | succ d ih =>
    intro i hi
    refine Ev.step (f := fun k => laws_eqEntryS.l0 k l l ((i + 1 : Nat) : Int)) (fun k => ?_) (ih (i + 1) (by omega))
    simp only [laws_eqEntryS.l0]
    rw [if_pos (by omega), if_pos (by omega), if_pos (by omega), eqEntry_self]
    simp only [Option.bind_some, if_true]
    rw [w64 (by omega) (by omega)]; rfl
theorem eqEntryS_ev (l : List En) (hl : l.length ≤ 9223372036854775806) : Ev (fun k => laws_eqEntryS.f k l l) true := by
  unfold laws_eqEntryS.f
  exact Ev.pos rfl (eqEntryS_l0 l hl l.length 0 (by omega))


end Go.Proofs.Ytjijknajgamdaaa.Print
