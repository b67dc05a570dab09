/- Lemmas: an entry's place in a state. -/
import Derived.Test.YtjijknajgamdaaaStFnExactStateAt
import Derived.Laws.Bits64
namespace Go.Proofs.Ytjijknajgamdaaa.Print
open Go.RowKit Go.Proofs.YtjijknajgamdaaaW.PrintWords Go.Proofs.YtjijknajgamdaaaW.PrintLast Go.Proofs.YtjijknajgamdaaaW.PrintMore
set_option linter.unusedVariables false
set_option linter.unusedSimpArgs false

/-! Rounds: small helpers. -/
theorem Ev.pos {α : Type} {c : Prop} [Decidable c] {f g : Nat → Option α} {r : α} (hc : c) (h : Ev f r) : Ev (fun n => if c then f n else g n) r := by
  simp only [hc, if_true]; exact h
theorem Ev.neg {α : Type} {c : Prop} [Decidable c] {f g : Nat → Option α} {r : α} (hc : ¬ c) (h : Ev g r) : Ev (fun n => if c then f n else g n) r := by
  simp only [hc, if_false]; exact h
theorem Ev.here {α : Type} {o : Option α} {r : α} (h : o = some r) : Ev (fun _ => o) r := ⟨0, fun _ _ => h⟩
theorem Ev.take {α β : Type} {o : Option α} {f : Nat → α → Option β} {a : α} {r : β} (h : o = some a) (k : Ev (fun n => f n a) r) : Ev (fun n => o.bind (f n)) r := by
  subst h; exact k
theorem Ev.one {α : Type} {g : Nat → Option α} {r : α} (h : ∀ k, g (k + 1) = some r) : Ev g r := Ev.step (f := fun _ => some r) h (Ev.now r)
theorem Ev.to {α : Type} {g : Nat → Option α} {r q : α} (e : r = q) (h : Ev g r) : Ev g q := e ▸ h

/-! Lists of structs, read one by one. -/
theorem w64 {n : Int} (h0 : -9223372036854775808 ≤ n) (h1 : n ≤ 9223372036854775807) : wrap64 n = n := by unfold wrap64; omega
theorem drop_cons {α : Type} {l : List α} {i : Nat} (h : i < l.length) : l.drop i = l[i] :: l.drop (i + 1) := List.drop_eq_getElem_cons h
theorem getD_at {α : Type} {l : List α} {i : Nat} (d : α) (h : i < l.length) : l.getD ((i : Int)).toNat d = l[i] := by
  rw [Int.toNat_natCast, List.getD_eq_getElem?_getD, List.getElem?_eq_getElem h]; rfl

/-! Ranges. -/
theorem in_eq (a b c : Int) : impl_in.f a b c = some (decide (b ≤ a ∧ a ≤ c)) := by
  unfold impl_in.f; split <;> simp [*]
theorem is_eq (a b c : Int) : spec_l02Is.f a b c = some (decide (b ≤ a ∧ a ≤ c)) := by
  unfold spec_l02Is.f
  by_cases h : b ≤ a
  · rw [if_pos h]; simp [h]
  · rw [if_neg h]; simp [h]

theorem l02Id_eq (a : Int) : spec_l02Id.f a = some (decide (1 ≤ a ∧ a ≤ 1000000)) := by unfold spec_l02Id.f; rw [is_eq]; rfl

/-! Entries: their order, valid states. -/
abbrev En := S86
abbrev EnL := S88
def toEn (x : EnL) : En := ⟨x.f0, x.f1, x.f2⟩
theorem en_at {l : List En} {i : Nat} (h : i < l.length) : rd_T86 l (i : Int) = l[i] := getD_at _ h
theorem enL_at {l : List EnL} {i : Nat} (h : i < l.length) : rd_T88 l (i : Int) = l[i] := getD_at _ h
def cmpI (a b : Int) : Int := if a < b then -1 else if a > b then 1 else 0
theorem compare_eq (a b : Int) : cmp_Compare_int64.f a b = some (cmpI a b) := by
  unfold cmp_Compare_int64.f cmp_isNaN_int64.f cmpI
  simp only [Option.bind_some, bne_self_eq_false]
  rw [if_neg (by simp), if_neg (by simp)]
  split
  · rfl
  · split <;> rfl
def orI (a b : Int) : Int := if a = 0 then b else a
theorem or_ev (a b : Int) : Ev (fun k => cmp_Or_int.f k [a, b]) (orI a b) := by
  unfold cmp_Or_int.f orI
  by_cases ha : a = 0
  · rw [if_pos ha]
    refine Ev.step (f := fun k => cmp_Or_int.l0 k 0 [a, b] 2 1) (fun k => ?_) ?_
    · simp only [cmp_Or_int.l0]
      rw [if_pos (by simp), if_pos (by omega), if_pos (by simp), if_pos (by simpa [rd] using ha), show wrap64 (0 + 1) = 1 from by unfold wrap64; omega]; rfl
    · by_cases hb : b = 0
      · refine Ev.step (f := fun k => cmp_Or_int.l0 k 0 [a, b] 2 2) (fun k => ?_) (Ev.one (fun k => ?_))
        · simp only [cmp_Or_int.l0]
          rw [if_pos (by omega), if_pos (by omega), if_pos (by simp), if_pos (by simpa [rd] using hb), show wrap64 (1 + 1) = 2 from by unfold wrap64; omega]
        · simp only [cmp_Or_int.l0]
          rw [if_neg (by omega), hb]
      · refine Ev.one (fun k => ?_)
        simp only [cmp_Or_int.l0]
        rw [if_pos (by omega), if_pos (by omega), if_pos (by simp), if_neg (by simpa [rd] using hb)]; rfl
  · rw [if_neg ha]
    refine Ev.one (fun k => ?_)
    simp only [cmp_Or_int.l0]
    rw [if_pos (by simp), if_pos (by omega), if_pos (by simp), if_neg (by simpa [rd] using ha)]; rfl
def ordE (x y : En) : Int := orI (cmpI x.f0 y.f0) (cmpI x.f1 y.f1)
theorem order_ev (x y : En) : Ev (fun k => impl_Entry_order.f k x.f0 x.f1 x.f2 y.f0 y.f1 y.f2) (ordE x y) := by
  unfold impl_Entry_order.f
  exact Ev.take (compare_eq _ _) (Ev.take (compare_eq _ _) (Ev.bind (or_ev _ _) (Ev.now _)))
def ltE (x y : En) : Prop := x.f0 < y.f0 ∨ x.f0 = y.f0 ∧ x.f1 < y.f1
instance (x y : En) : Decidable (ltE x y) := by unfold ltE; exact inferInstance
theorem ordE_neg (x y : En) : ordE x y < 0 ↔ ltE x y := by
  unfold ordE ltE orI cmpI; repeat' split
  all_goals omega
theorem ordE_zero (x y : En) : ordE x y = 0 ↔ x.f0 = y.f0 ∧ x.f1 = y.f1 := by
  unfold ordE orI cmpI; repeat' split
  all_goals omega
theorem l04Less_eq (x y : En) : spec_l04Less.f x.f0 x.f1 x.f2 y.f0 y.f1 y.f2 = some (decide (ltE x y)) := by
  unfold spec_l04Less.f
  by_cases h : x.f0 < y.f0
  · rw [if_pos h]; congr 1; exact (decide_eq_true (show ltE x y from Or.inl h)).symm
  · rw [if_neg h]
    by_cases h2 : x.f0 = y.f0
    · rw [if_pos h2]; congr 1; rw [decide_eq_decide]; unfold ltE; omega
    · rw [if_neg h2, decide_eq_false (by unfold ltE; omega)]
def enOk (least : Int) (x : En) : Bool := decide ((1 ≤ x.f0 ∧ x.f0 ≤ 6) ∧ (0 ≤ x.f1 ∧ x.f1 ≤ 6) ∧ (least ≤ x.f2 ∧ x.f2 ≤ 1000000))
theorem l04Entry_eq (x : En) : spec_l04Entry.f x.f0 x.f1 x.f2 false = some (enOk 1 x) := by
  unfold spec_l04Entry.f enOk
  rw [is_eq, is_eq, l02Id_eq]
  simp only [Option.bind_some]
  repeat' split
  all_goals (simp_all; try omega)
def stFrom : Option En → List En → Bool
  | _, [] => true
  | p, x :: r => (enOk 1 x && (match p with | none => true | some q => decide (ltE q x))) && stFrom (some x) r
def stRight (l : List En) : Bool := decide (l.length ≤ 400) && stFrom none l

theorem spec_row_l0 (l : List En) (hl : l.length ≤ 9223372036854775806) (d : Nat) : ∀ (i : Nat) (p : Option En), i + d = l.length →
    (i = 0 ∧ p = none ∨ ∃ h : 0 < i ∧ i ≤ l.length, p = some (l[i - 1]'(by omega))) →
    Ev (fun k => spec_l04Row.l0 k l false (i : Int)) (stFrom p (l.drop i)) := by
  induction d with
  | zero =>
    intro i p hi _
    refine Ev.one (fun k => ?_)
    simp only [spec_l04Row.l0]
    rw [if_neg (by omega), List.drop_of_length_le (by omega)]; rfl
  | succ d ih =>
    intro i p hi hp
    have hlt : i < l.length := by omega
    rw [drop_cons hlt]
    have hw : wrap64 ((i : Int) + 1) = ((i + 1 : Nat) : Int) := by unfold wrap64; omega
    have ihn := ih (i + 1) (some l[i]) (by omega) (Or.inr ⟨⟨by omega, by omega⟩, by simp only [Nat.add_sub_cancel]⟩)
    generalize hx : l[i] = x at ihn
    have hx' : rd_T86 l (i : Int) = x := by rw [en_at hlt, hx]
    simp only [stFrom]
    cases he : enOk 1 x
    · rw [Bool.false_and, Bool.false_and]
      refine Ev.one (fun k => ?_)
      simp only [spec_l04Row.l0]
      rw [if_pos (by omega), if_pos (by omega), hx', l04Entry_eq, he]
      simp only [Option.bind_some]
      rw [if_neg (by simp)]
    · rw [Bool.true_and]
      rcases hp with ⟨rfl, rfl⟩ | ⟨⟨p1, p2⟩, hlo⟩
      · rw [Bool.true_and]
        refine Ev.step (f := fun k => spec_l04Row.l0 k l false ((0 + 1 : Nat) : Int)) (fun k => ?_) ihn
        simp only [spec_l04Row.l0]
        rw [if_pos (by omega), if_pos (by omega), hx', l04Entry_eq, he]
        simp only [Option.bind_some]
        rw [if_pos (by trivial), if_neg (by omega), hw]
      · have e1 : wrap64 ((i : Int) - 1) = ((i - 1 : Nat) : Int) := by unfold wrap64; omega
        have e2 : rd_T86 l ((i - 1 : Nat) : Int) = l[i - 1]'(by omega) := en_at (by omega)
        rw [hlo]
        generalize l[i - 1]'(by omega) = q at e2
        by_cases c : ltE q x
        · simp only [decide_eq_true c, Bool.true_and]
          refine Ev.step (f := fun k => spec_l04Row.l0 k l false ((i + 1 : Nat) : Int)) (fun k => ?_) ihn
          simp only [spec_l04Row.l0]
          rw [if_pos (by omega), if_pos (by omega), hx', l04Entry_eq, he]
          simp only [Option.bind_some]
          rw [if_pos (by trivial), if_pos (by omega), e1, if_pos (by omega), if_pos (by omega), e2, l04Less_eq, decide_eq_true c]
          simp only [Option.bind_some]
          rw [if_pos (by trivial), hw]
        · simp only [decide_eq_false c, Bool.false_and]
          refine Ev.one (fun k => ?_)
          simp only [spec_l04Row.l0]
          rw [if_pos (by omega), if_pos (by omega), hx', l04Entry_eq, he]
          simp only [Option.bind_some]
          rw [if_pos (by trivial), if_pos (by omega), e1, if_pos (by omega), if_pos (by omega), e2, l04Less_eq, decide_eq_false c]
          simp only [Option.bind_some]
          rw [if_neg (by simp)]
theorem spec_StateRight_ev (l : List En) (hl : l.length ≤ 9223372036854775806) : Ev (fun k => spec_StateRight.f k l) (stRight l) := by
  unfold spec_StateRight.f spec_l04Row.f stRight
  refine Ev.bind (a := stRight l) ?_ (Ev.now _)
  unfold stRight
  by_cases c : l.length ≤ 400
  · refine Ev.neg (by omega) (Ev.to ?_ (spec_row_l0 l hl l.length 0 none (by omega) (Or.inl ⟨rfl, rfl⟩)))
    simp [c]
  · exact Ev.pos (by omega) (Ev.to (by simp [c]) (Ev.now _))

theorem impl_row_l0 (l : List En) (hl : l.length ≤ 9223372036854775806) (d : Nat) : ∀ (i : Nat) (p : Option En), i + d = l.length →
    (i = 0 ∧ p = none ∨ ∃ h : 0 < i ∧ i ≤ l.length, p = some (l[i - 1]'(by omega))) →
    Ev (fun k => impl_entriesRight.l0 k l 1 l (l.length : Int) (i : Int)) (stFrom p (l.drop i) && decide (l.length ≤ 400)) := by
  induction d with
  | zero =>
    intro i p hi _
    refine Ev.one (fun k => ?_)
    simp only [impl_entriesRight.l0]
    rw [if_neg (by omega), List.drop_of_length_le (by omega)]
    simp [stFrom]; omega
  | succ d ih =>
    intro i p hi hp
    have hlt : i < l.length := by omega
    rw [drop_cons hlt]
    have hw : wrap64 ((i : Int) + 1) = ((i + 1 : Nat) : Int) := by unfold wrap64; omega
    have ihn := ih (i + 1) (some l[i]) (by omega) (Or.inr ⟨⟨by omega, by omega⟩, by simp only [Nat.add_sub_cancel]⟩)
    generalize hx : l[i] = x at ihn
    have hx' : rd_T86 l (i : Int) = x := by rw [en_at hlt, hx]
    simp only [stFrom]
    by_cases c1 : 1 ≤ x.f0 ∧ x.f0 ≤ 6
    · by_cases c2 : 0 ≤ x.f1 ∧ x.f1 ≤ 6
      · by_cases c3 : 1 ≤ x.f2 ∧ x.f2 ≤ 1000000
        · have he : enOk 1 x = true := decide_eq_true ⟨c1, c2, c3⟩
          rw [he, Bool.true_and]
          rcases hp with ⟨rfl, rfl⟩ | ⟨⟨p1, p2⟩, hlo⟩
          · rw [Bool.true_and]
            refine Ev.step (f := fun k => impl_entriesRight.l0 k l 1 l (l.length : Int) ((0 + 1 : Nat) : Int)) (fun k => ?_) ihn
            simp only [impl_entriesRight.l0]
            rw [if_pos (by omega), if_pos (by omega), if_pos (by omega), hx', in_eq, in_eq, in_eq]
            simp only [Option.bind_some]
            rw [if_pos (by simpa using c1), if_pos (by simpa using c2), if_pos (by simpa using c3), if_neg (by omega), hw]
          · have e1 : wrap64 ((i : Int) - 1) = ((i - 1 : Nat) : Int) := by unfold wrap64; omega
            have e2 : rd_T86 l ((i - 1 : Nat) : Int) = l[i - 1]'(by omega) := en_at (by omega)
            rw [hlo]
            generalize l[i - 1]'(by omega) = q at e2
            refine Ev.step (f := fun k => (impl_Entry_order.f k q.f0 q.f1 q.f2 x.f0 x.f1 x.f2).bind fun t => if t ≥ 0 then some false else impl_entriesRight.l0 k l 1 l (l.length : Int) ((i + 1 : Nat) : Int)) (fun k => ?_) (Ev.bind (order_ev q x) ?_)
            · simp only [impl_entriesRight.l0]
              rw [if_pos (by omega), if_pos (by omega), if_pos (by omega), hx', in_eq, in_eq, in_eq]
              simp only [Option.bind_some]
              rw [if_pos (by simpa using c1), if_pos (by simpa using c2), if_pos (by simpa using c3), if_pos (by omega), e1, if_pos (by omega), if_pos (by omega), e2, hw]
            · by_cases c : ltE q x
              · simp only [decide_eq_true c, Bool.true_and]
                exact Ev.neg (by have := (ordE_neg q x).2 c; omega) ihn
              · simp only [decide_eq_false c, Bool.false_and]
                exact Ev.pos (by have := mt (ordE_neg q x).1 c; omega) (Ev.now _)
        · rw [show enOk 1 x = false from decide_eq_false (by omega), Bool.false_and, Bool.false_and, Bool.false_and]
          refine Ev.one (fun k => ?_)
          simp only [impl_entriesRight.l0]
          rw [if_pos (by omega), if_pos (by omega), if_pos (by omega), hx', in_eq, in_eq, in_eq]
          simp only [Option.bind_some]
          rw [if_pos (by simpa using c1), if_pos (by simpa using c2), if_neg (by simpa using c3)]
      · rw [show enOk 1 x = false from decide_eq_false (by omega), Bool.false_and, Bool.false_and, Bool.false_and]
        refine Ev.one (fun k => ?_)
        simp only [impl_entriesRight.l0]
        rw [if_pos (by omega), if_pos (by omega), if_pos (by omega), hx', in_eq, in_eq]
        simp only [Option.bind_some]
        rw [if_pos (by simpa using c1), if_neg (by simpa using c2)]
    · rw [show enOk 1 x = false from decide_eq_false (by omega), Bool.false_and, Bool.false_and, Bool.false_and]
      refine Ev.one (fun k => ?_)
      simp only [impl_entriesRight.l0]
      rw [if_pos (by omega), if_pos (by omega), if_pos (by omega), hx', in_eq]
      simp only [Option.bind_some]
      rw [if_neg (by simpa using c1)]
theorem impl_StateRight_ev (l : List En) (hl : l.length ≤ 9223372036854775806) : Ev (fun k => impl_StateRight.f k l) (stRight l) := by
  unfold impl_StateRight.f impl_entriesRight.f stRight
  rw [Bool.and_comm]
  exact Ev.bind (by simpa using impl_row_l0 l hl l.length 0 none (by omega) (Or.inl ⟨rfl, rfl⟩)) (Ev.now _)

/-! ### the laws' own helpers -/
theorem szEntryS_eq (l : List EnL) (a : Int) (ha : -1 ≤ a) (h : a ≤ 1048576) (hn : l.length ≤ 9223372036854775807) :
    laws_szEntryS.f l a = some (if a < l.length then -1 else a - l.length) := by
  unfold laws_szEntryS.f
  rw [w64 (by omega) (by omega)]
  by_cases c : a < l.length
  · rw [if_pos (by omega), if_pos c]
  · rw [if_neg (by omega), if_neg c]
theorem toEntry_eq (a b c : Int) : laws_toEntry.f a b c = some (a, b, c) := rfl
theorem toEntryS_l0 (l : List EnL) (hl : l.length ≤ 1048576) (d : Nat) : ∀ (i : Nat) (acc : List En), i + d = l.length → acc.length = l.length → acc.take i = (l.take i).map toEn →
    Ev (fun k => laws_toEntryS.l0 k l acc (i : Int)) (l.map toEn) := by
  induction d with
  | zero =>
    intro i acc hi ha hp
    refine Ev.to ?_ (Ev.one (r := acc) (fun k => ?_))
    · rw [List.take_of_length_le (by omega), List.take_of_length_le (by omega)] at hp
      exact hp
    · simp only [laws_toEntryS.l0]
      rw [if_neg (by omega)]
  | succ d ih =>
    intro i acc hi ha hp
    have hlt : i < l.length := by omega
    refine Ev.step (f := fun k => laws_toEntryS.l0 k l (acc.set i (toEn l[i])) ((i + 1 : Nat) : Int)) (fun k => ?_) (ih (i + 1) (acc.set i (toEn l[i])) (by omega) (by simpa using ha) ?_)
    · simp only [laws_toEntryS.l0]
      rw [if_pos (by omega), if_pos (by omega), enL_at hlt, toEntry_eq]
      simp only [Option.bind_some]
      rw [if_pos (by omega), w64 (by omega) (by omega), Int.toNat_natCast]
      rfl
    · rw [List.take_succ_eq_append_getElem (by simp; omega), List.take_succ_eq_append_getElem hlt, List.map_append, ← hp, List.take_set_of_le (by omega)]
      simp
theorem toEntryS_ev (l : List EnL) (hl : l.length ≤ 1048576) : Ev (fun k => laws_toEntryS.f k l) (l.map toEn) := by
  unfold laws_toEntryS.f
  refine Ev.pos (by omega) (Ev.pos (by simp; omega) ?_)
  exact toEntryS_l0 l hl l.length 0 _ (by omega) (by simp) (by simp)
theorem eqEntry_self (a b c : Int) : laws_eqEntry.f a b c a b c = some true := by unfold laws_eqEntry.f; simp
theorem eqEntryS_l0 (l : List En) (hl : l.length ≤ 9223372036854775806) (d : Nat) : ∀ i : Nat, i + d = l.length → Ev (fun k => laws_eqEntryS.l0 k l l (i : Int)) true := by
  induction d with
  | zero =>
    intro i hi
    refine Ev.one (fun k => ?_)
    simp only [laws_eqEntryS.l0]
    rw [if_neg (by omega)]
  | succ d ih =>
    intro i hi
    refine Ev.step (f := fun k => laws_eqEntryS.l0 k l l ((i + 1 : Nat) : Int)) (fun k => ?_) (ih (i + 1) (by omega))
    simp only [laws_eqEntryS.l0]
    rw [if_pos (by omega), if_pos (by omega), if_pos (by omega), eqEntry_self]
    simp only [Option.bind_some, if_true]
    rw [w64 (by omega) (by omega)]; rfl
theorem eqEntryS_ev (l : List En) (hl : l.length ≤ 9223372036854775806) : Ev (fun k => laws_eqEntryS.f k l l) true := by
  unfold laws_eqEntryS.f
  exact Ev.pos rfl (eqEntryS_l0 l hl l.length 0 (by omega))

/-! The place of an entry. -/
theorem mid_eq (i j : Nat) (h : i ≤ j) (hj : j ≤ 4611686018427387903) : wrap64 ((IntKind.u64.wrap (wrap64 ((i : Int) + (j : Int)))) / 2) = (((i + j) / 2 : Nat) : Int) := by
  rw [IntKind.wrap_u64]; unfold wrap64; omega
/-- The first place of which p does not hold, where it holds of a beginning. -/
def Cut (p : En → Bool) (l : List En) (r : Nat) : Prop := (∀ t (h : t < l.length), t < r → p l[t] = true) ∧ (∀ t (h : t < l.length), r ≤ t → p l[t] = false)
def hitAt (l : List En) (x : En) (r : Nat) : Bool := if h : r < l.length then decide (ordE l[r] x = 0) else false
theorem bs_l0 (l : List En) (x : En) (hl : l.length ≤ 4611686018427387903) (d : Nat) : ∀ (i j : Nat), j - i ≤ d → i ≤ j → j ≤ l.length →
    ∃ r : Nat, i ≤ r ∧ r ≤ j ∧ Ev (fun k => impl_Entry.l0 k l (l.length : Int) (i : Int) (j : Int) x.f0 x.f1 x.f2) ((r : Int), hitAt l x r) ∧
      ((∀ s t (hs : s < l.length) (ht : t < l.length), s ≤ t → ltE l[t] x → ltE l[s] x) → (∀ t (h : t < l.length), t < i → ltE l[t] x) → (∀ t (h : t < l.length), j ≤ t → ¬ ltE l[t] x) → Cut (fun y => decide (ltE y x)) l r) := by
  have fin : ∀ i : Nat, i ≤ l.length → Ev (fun k => impl_Entry.l0 k l (l.length : Int) (i : Int) (i : Int) x.f0 x.f1 x.f2) ((i : Int), hitAt l x i) := by
    intro i hi
    by_cases c : i < l.length
    · refine Ev.step (f := fun k => (impl_Entry_order.f k l[i].f0 l[i].f1 l[i].f2 x.f0 x.f1 x.f2).bind fun t => some ((i : Int), (t == 0))) (fun k => ?_) (Ev.bind (order_ev l[i] x) (Ev.here ?_))
      · simp only [impl_Entry.l0]
        rw [if_neg (by omega), if_pos (by omega), if_pos (by omega), if_pos (by omega), en_at c]
      · unfold hitAt; rw [dif_pos c]
        congr 2
    · refine Ev.one (fun k => ?_)
      simp only [impl_Entry.l0]
      rw [if_neg (by omega), if_neg (by omega)]
      unfold hitAt; rw [dif_neg c]
  induction d with
  | zero =>
    intro i j hd hij hj
    obtain rfl : i = j := by omega
    refine ⟨i, Nat.le_refl _, Nat.le_refl _, fin i hj, fun _ h1 h2 => ⟨fun t h ht => decide_eq_true (h1 t h ht), fun t h ht => decide_eq_false (h2 t h ht)⟩⟩
  | succ d ih =>
    intro i j hd hij hj
    by_cases e : i = j
    · subst e
      refine ⟨i, Nat.le_refl _, Nat.le_refl _, fin i hj, fun _ h1 h2 => ⟨fun t h ht => decide_eq_true (h1 t h ht), fun t h ht => decide_eq_false (h2 t h ht)⟩⟩
    · have hm := mid_eq i j hij (by omega)
      generalize hmm : (i + j) / 2 = m at hm
      have hml : m < l.length := by omega
      have hget := en_at hml
      have one : ∀ res, Ev (fun k => if ordE l[m] x < 0 then impl_Entry.l0 k l (l.length : Int) ((m + 1 : Nat) : Int) (j : Int) x.f0 x.f1 x.f2 else impl_Entry.l0 k l (l.length : Int) (i : Int) (m : Int) x.f0 x.f1 x.f2) res →
          Ev (fun k => impl_Entry.l0 k l (l.length : Int) (i : Int) (j : Int) x.f0 x.f1 x.f2) res := by
        intro res h
        have hm1 : wrap64 ((m : Int) + 1) = ((m + 1 : Nat) : Int) := by clear hm; unfold wrap64; omega
        refine Ev.step (f := fun k => (impl_Entry_order.f k l[m].f0 l[m].f1 l[m].f2 x.f0 x.f1 x.f2).bind fun t => if t < 0 then impl_Entry.l0 k l (l.length : Int) ((m + 1 : Nat) : Int) (j : Int) x.f0 x.f1 x.f2 else impl_Entry.l0 k l (l.length : Int) (i : Int) (m : Int) x.f0 x.f1 x.f2) (fun k => ?_) (Ev.bind (order_ev l[m] x) h)
        simp only [impl_Entry.l0]
        rw [if_pos (by clear hm hm1; omega), hm, if_pos (by clear hm hm1; omega), if_pos (by clear hm hm1; omega), hget, hm1]
      clear hm
      by_cases c : ltE l[m] x
      · obtain ⟨r, h1, h2, h3, h4⟩ := ih (m + 1) j (by omega) (by omega) hj
        refine ⟨r, by omega, h2, one _ (Ev.pos ((ordE_neg _ _).2 c) h3), fun hmono hlo hhi => h4 hmono (fun t h ht => ?_) hhi⟩
        exact hmono t m h hml (by omega) c
      · obtain ⟨r, h1, h2, h3, h4⟩ := ih i m (by omega) (by omega) (by omega)
        refine ⟨r, h1, by omega, one _ (Ev.neg (mt (ordE_neg _ _).1 c) h3), fun hmono hlo hhi => h4 hmono hlo (fun t h ht hlt => c ?_)⟩
        exact hmono m t hml h ht hlt
theorem place_ev (l : List En) (x : En) (hl : l.length ≤ 4611686018427387903) :
    ∃ r : Nat, r ≤ l.length ∧ Ev (fun k => impl_place.f k l x.f0 x.f1 x.f2) ((r : Int), hitAt l x r) ∧
      ((∀ s t (hs : s < l.length) (ht : t < l.length), s ≤ t → ltE l[t] x → ltE l[s] x) → Cut (fun y => decide (ltE y x)) l r) := by
  obtain ⟨r, _, h2, h3, h4⟩ := bs_l0 l x hl l.length 0 l.length (by omega) (by omega) (by omega)
  refine ⟨r, h2, ?_, fun hm => h4 hm (fun t h ht => absurd ht (by omega)) (fun t h ht => absurd ht (by omega))⟩
  unfold impl_place.f
  refine Ev.bind (a := ((r : Int), hitAt l x r)) ?_ (Ev.now _)
  unfold impl_Entry.f
  exact h3

/-- A valid state rises. -/
theorem ltE_trans {x y z : En} (h : ltE x y) (g : ltE y z) : ltE x z := by unfold ltE at *; omega
theorem stFrom_rise (l : List En) : ∀ p, stFrom p l = true → (∀ (s t : Nat) (hs : s < l.length) (ht : t < l.length), s < t → ltE l[s] l[t]) ∧ (∀ q, p = some q → ∀ t (ht : t < l.length), ltE q l[t]) := by
  induction l with
  | nil => intro p _; exact ⟨fun s t hs => absurd hs (by simp), fun q _ t ht => absurd ht (by simp)⟩
  | cons x r ih =>
    intro p h
    simp only [stFrom, Bool.and_eq_true] at h
    obtain ⟨⟨_, h1⟩, h2⟩ := h
    obtain ⟨i1, i2⟩ := ih _ h2
    refine ⟨fun s t hs ht hst => ?_, fun q hq t ht => ?_⟩
    · cases t with
      | zero => omega
      | succ t =>
        cases s with
        | zero => exact i2 x rfl t (by simpa using ht)
        | succ s => exact i1 s t (by simpa using hs) (by simpa using ht) (by omega)
    · subst hq
      have hqx : ltE q x := by simpa using h1
      cases t with
      | zero => exact hqx
      | succ t => exact ltE_trans hqx (i2 x rfl t (by simpa using ht))
theorem stRight_rise {l : List En} (h : stRight l = true) : l.length ≤ 400 ∧ ∀ (s t : Nat) (hs : s < l.length) (ht : t < l.length), s < t → ltE l[s] l[t] := by
  unfold stRight at h
  rw [Bool.and_eq_true, decide_eq_true_iff] at h
  exact ⟨h.1, (stFrom_rise l none h.2).1⟩
/-- The Id of a kind and key: what both sides come to. -/
def stId (l : List En) (kind key : Int) : Int := match l.find? (fun y => decide (y.f0 = kind ∧ y.f1 = key)) with | some y => y.f2 | none => 0
theorem l04At_l0 (l : List En) (kind key : Int) (hl : l.length ≤ 9223372036854775806) (d : Nat) : ∀ i : Nat, i + d = l.length → Ev (fun k => spec_l04At.l0 k l kind key (i : Int)) (stId (l.drop i) kind key) := by
  induction d with
  | zero =>
    intro i hi
    refine Ev.one (fun k => ?_)
    simp only [spec_l04At.l0]
    rw [if_neg (by omega), List.drop_of_length_le (by omega)]; rfl
  | succ d ih =>
    intro i hi
    have hlt : i < l.length := by omega
    rw [drop_cons hlt]
    have hw : wrap64 ((i : Int) + 1) = ((i + 1 : Nat) : Int) := by unfold wrap64; omega
    by_cases c1 : l[i].f0 = kind ∧ l[i].f1 = key
    · refine Ev.one (fun k => ?_)
      simp only [spec_l04At.l0]
      rw [if_pos (by omega), if_pos (by omega), en_at hlt, if_pos c1.1, if_pos c1.2]
      unfold stId; rw [List.find?_cons, decide_eq_true c1]
    · refine Ev.step (f := fun k => spec_l04At.l0 k l kind key ((i + 1 : Nat) : Int)) (fun k => ?_) (Ev.to ?_ (ih (i + 1) (by omega)))
      · simp only [spec_l04At.l0]
        rw [if_pos (by omega), if_pos (by omega), en_at hlt, hw]
        by_cases c2 : l[i].f0 = kind
        · rw [if_pos c2, if_neg (fun h => c1 ⟨c2, h⟩)]
        · rw [if_neg c2]
      · simp only [stId, List.find?_cons, decide_eq_false c1]
theorem l04At_ev (l : List En) (kind key : Int) (hl : l.length ≤ 9223372036854775806) : Ev (fun k => spec_l04At.f k l kind key) (stId l kind key) := by
  unfold spec_l04At.f
  simpa using l04At_l0 l kind key hl l.length 0 (by omega)
theorem find_at {l : List En} (hrise : ∀ (s t : Nat) (hs : s < l.length) (ht : t < l.length), s < t → ltE l[s] l[t]) (kind key : Int) (r : Nat)
    (hc : Cut (fun y => decide (ltE y ⟨kind, key, 0⟩)) l r) : stId l kind key = if h : r < l.length then (if l[r].f0 = kind ∧ l[r].f1 = key then l[r].f2 else 0) else 0 := by
  have hno : ∀ t (h : t < l.length), t ≠ r → ¬ (l[t].f0 = kind ∧ l[t].f1 = key) := by
    intro t h ht hk
    rcases Nat.lt_or_ge t r with h1 | h1
    · have := hc.1 t h h1
      simp only [decide_eq_true_iff] at this
      unfold ltE at this
      simp only at this
      omega
    · have hr : r < l.length := by omega
      have h2 := hrise r t hr h (by omega)
      have h3 := hc.2 r hr (Nat.le_refl _)
      simp only [decide_eq_false_iff_not] at h3
      unfold ltE at h2 h3
      simp only at h3
      omega
  by_cases h : r < l.length
  · rw [dif_pos h]
    by_cases hk : l[r].f0 = kind ∧ l[r].f1 = key
    · rw [if_pos hk]
      unfold stId
      have : l.find? (fun y => decide (y.f0 = kind ∧ y.f1 = key)) = some l[r] := by
        rw [List.find?_eq_some_iff_getElem]
        refine ⟨decide_eq_true hk, r, h, rfl, fun j hj => ?_⟩
        simp only [Bool.not_eq_true', decide_eq_false_iff_not]
        exact hno j (by omega) (by omega)
      rw [this]
    · rw [if_neg hk]
      unfold stId
      have : l.find? (fun y => decide (y.f0 = kind ∧ y.f1 = key)) = none := by
        rw [List.find?_eq_none]
        intro y hy hyk
        obtain ⟨t, ht, rfl⟩ := List.getElem_of_mem hy
        have hyk := of_decide_eq_true hyk
        by_cases e : t = r
        · subst e; exact hk hyk
        · exact hno t ht e hyk
      rw [this]
  · rw [dif_neg h]
    unfold stId
    have : l.find? (fun y => decide (y.f0 = kind ∧ y.f1 = key)) = none := by
      rw [List.find?_eq_none]
      intro y hy hyk
      obtain ⟨t, ht, rfl⟩ := List.getElem_of_mem hy
      exact hno t ht (by omega) (of_decide_eq_true hyk)
    rw [this]
theorem idAt_ev (l : List En) (kind key : Int) (h : stRight l = true) : Ev (fun k => impl_idAt.f k l kind key) (stId l kind key) := by
  obtain ⟨hl, hrise⟩ := stRight_rise h
  obtain ⟨r, h1, h2, h3⟩ := place_ev l ⟨kind, key, 0⟩ (by omega)
  have hc := h3 (fun s t hs ht hst hlt => by
    rcases Nat.lt_or_ge s t with h | h
    · exact ltE_trans (hrise s t hs ht h) hlt
    · obtain rfl : s = t := by omega
      exact hlt)
  rw [find_at hrise kind key r hc]
  unfold impl_idAt.f
  refine Ev.bind h2 ?_
  unfold hitAt
  by_cases c : r < l.length
  · rw [dif_pos c, dif_pos c]
    by_cases hk : l[r].f0 = kind ∧ l[r].f1 = key
    · rw [if_pos hk]
      refine Ev.pos (decide_eq_true ((ordE_zero _ _).2 hk)) (Ev.pos (by simp only []; omega) (Ev.pos (by simp only []; omega) (Ev.here ?_)))
      rw [en_at c]
    · rw [if_neg hk]
      exact Ev.neg (by simp only [decide_eq_true_iff]; exact fun h => hk ((ordE_zero _ _).1 h)) (Ev.now _)
  · rw [dif_neg c, dif_neg c]
    exact Ev.neg (by simp) (Ev.now _)
def stAt (l : List En) (kind key : Int) : Int := if stRight l then stId l kind key else 0
theorem impl_StateAt_ev (l : List En) (kind key : Int) (hl : l.length ≤ 9223372036854775806) : Ev (fun k => impl_StateAt.f k l kind key) (stAt l kind key) := by
  unfold impl_StateAt.f stAt
  refine Ev.bind (impl_StateRight_ev l hl) ?_
  by_cases c : stRight l = true
  · rw [if_pos c]; exact Ev.pos c (Ev.bind (idAt_ev l kind key c) (Ev.now _))
  · rw [if_neg c]; exact Ev.neg c (Ev.now _)
theorem spec_StateAt_ev (l : List En) (kind key : Int) (hl : l.length ≤ 9223372036854775806) : Ev (fun k => spec_StateAt.f k l kind key) (stAt l kind key) := by
  unfold spec_StateAt.f stAt
  refine Ev.bind (spec_StateRight_ev l hl) ?_
  by_cases c : stRight l = true
  · rw [if_pos c]; exact Ev.pos c (Ev.bind (l04At_ev l kind key hl) (Ev.now _))
  · rw [if_neg c]; exact Ev.neg c (Ev.now _)


end Go.Proofs.Ytjijknajgamdaaa.Print
