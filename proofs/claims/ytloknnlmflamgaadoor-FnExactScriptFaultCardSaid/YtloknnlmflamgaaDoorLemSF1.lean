/- Lemmas: an act's text. -/
import Derived.Test.YtloknnlmflamgaaDoorPrint0
import Derived.Test.YtloknnlmflamgaaDoorPrint1
import Derived.Test.YtloknnlmflamgaaDoorPrint2
import Derived.Test.YtloknnlmflamgaaDoorPrint3
import Derived.Test.YtloknnlmflamgaaDoorPrint4
import Derived.Test.YtloknnlmflamgaaDoorPrint5
import Derived.Test.YtloknnlmflamgaaDoorPrint6
import Derived.Test.YtloknnlmflamgaaDoorPrint7
import Derived.Test.YtloknnlmflamgaaDoorPrint8
import Derived.Test.YtloknnlmflamgaaDoorPrint9
import Derived.Test.YtloknnlmflamgaaDoorTabW
import Derived.Laws.Bits64
import Derived.Lib.ItoaNum
import Derived.Lib.Join
namespace Go.Proofs.YtloknnlmflamgaaDoor.Print
open Go.RowKit Go.Proofs.YtloknnlmflamgaaDoorW.PrintWords Go.Proofs.YtloknnlmflamgaaDoorW.PrintLast Go.Proofs.YtloknnlmflamgaaDoorW.PrintMore
set_option linter.unusedVariables false
set_option linter.unusedSimpArgs false

/-! Rounds: small helpers. -/
theorem Ev.pos {α : Type} {c : Prop} [Decidable c] {f g : Nat → Option α} {r : α} (hc : c) (h : Ev f r) : Ev (fun n => if c then f n else g n) r := by
  simp only [hc, if_true]; exact h
theorem Ev.neg {α : Type} {c : Prop} [Decidable c] {f g : Nat → Option α} {r : α} (hc : ¬ c) (h : Ev g r) : Ev (fun n => if c then f n else g n) r := by
  simp only [hc, if_false]; exact h
theorem Ev.here {α : Type} {o : Option α} {r : α} (h : o = some r) : Ev (fun _ => o) r := ⟨0, fun _ _ => h⟩
theorem Ev.take {α β : Type} {o : Option α} {f : Nat → α → Option β} {a : α} {r : β} (h : o = some a) (k : Ev (fun n => f n a) r) : Ev (fun n => o.bind (f n)) r := by
  subst h; exact k
theorem Ev.one {α : Type} {g : Nat → Option α} {r : α} (h : ∀ k, g (k + 1) = some r) : Ev g r := Ev.step (f := fun _ => some r) h (Ev.now r)
theorem Ev.to {α : Type} {g : Nat → Option α} {r q : α} (e : r = q) (h : Ev g r) : Ev g q := e ▸ h

/-! A byte of a string. -/
theorem bt_at {s : ByteArray} {i : Nat} (h : i < s.size) : bt s (i : Int) = ((s.data.toList[i]'(by simpa using h)).toNat : Int) := by
  unfold bt
  rw [dif_pos (by simpa using h)]
  rfl

/-! Lists of structs, read one by one. -/
theorem w64 {n : Int} (h0 : -9223372036854775808 ≤ n) (h1 : n ≤ 9223372036854775807) : wrap64 n = n := by unfold wrap64; omega
theorem drop_cons {α : Type} {l : List α} {i : Nat} (h : i < l.length) : l.drop i = l[i] :: l.drop (i + 1) := List.drop_eq_getElem_cons h
theorem getD_at {α : Type} {l : List α} {i : Nat} (d : α) (h : i < l.length) : l.getD ((i : Int)).toNat d = l[i] := by
  rw [Int.toNat_natCast, List.getD_eq_getElem?_getD, List.getElem?_eq_getElem h]; rfl

/-! Ranges. -/
theorem in_eq (a b c : Int) : impl_in.f a b c = some (decide (b ≤ a ∧ a ≤ c)) := by
  unfold impl_in.f; split <;> simp [*]
theorem is_eq (a b c : Int) : spec_l02Is.f a b c = some (decide (b ≤ a ∧ a ≤ c)) := by
  unfold spec_l02Is.f
  by_cases h : b ≤ a
  · rw [if_pos h]; simp [h]
  · rw [if_neg h]; simp [h]

/-! The laws' helpers on lists of numbers. -/
theorem rd_at {l : List Int} {i : Nat} (h : i < l.length) : rd l (i : Int) = l[i] := getD_at _ h
/-! Valid acts. -/
theorem or2 {α : Type} {f : Bool → α} {t A B : List UInt8} : (if t = A then f (t == A) else f (t == B)) = f (decide (t = A ∨ t = B)) := by
  by_cases h : t = A
  · rw [if_pos h]; congr 1; simp [h]
  · rw [if_neg h]; congr 1; rw [Bool.eq_iff_iff]; simp [h]
theorem or3 {α : Type} {f : Bool → α} {t A B C : List UInt8} : (if t = A then f (t == A) else if t = B then f (t == B) else f (t == C)) = f (decide (t = A ∨ t = B ∨ t = C)) := by
  by_cases h : t = A
  · simp [h]
  · rw [if_neg h, or2]; simp [h]
theorem or4 {α : Type} {f : Bool → α} {t A B C D : List UInt8} : (if t = A then f (t == A) else if t = B then f (t == B) else if t = C then f (t == C) else f (t == D)) = f (decide (t = A ∨ t = B ∨ t = C ∨ t = D)) := by
  by_cases h : t = A
  · simp [h]
  · rw [if_neg h, or3]; simp [h]
def wDoor (t : List UInt8) : Prop := t = [100, 111, 111, 114] ∨ t = [115, 105, 103, 104, 116] ∨ t = [104, 105, 100, 101] ∨ t = [115, 121, 110, 99]
def wMember (t : List UInt8) : Prop := t = [109, 101, 109, 98, 101, 114] ∨ t = [112, 111, 119, 101, 114] ∨ t = [98, 97, 99, 107]
def wMade (t : List UInt8) : Prop := t = [99, 114, 101, 97, 116, 101] ∨ t = [115, 101, 101]
def wSay (t : List UInt8) : Prop := t = [115, 97, 121] ∨ t = [116, 111, 112, 105, 99]
def wTwo (t : List UInt8) : Prop := t = [99, 114, 101, 97, 116, 101] ∨ t = [115, 101, 101] ∨ t = [115, 97, 121] ∨ t = [116, 111, 112, 105, 99]
def wSpeak (t : List UInt8) : Prop := t = [115, 97, 121] ∨ t = [116, 111, 112, 105, 99] ∨ t = [99, 111, 109, 101] ∨ t = [102, 105, 110, 100]
instance (t : List UInt8) : Decidable (wDoor t) := by unfold wDoor; infer_instance
instance (t : List UInt8) : Decidable (wMember t) := by unfold wMember; infer_instance
instance (t : List UInt8) : Decidable (wMade t) := by unfold wMade; infer_instance
instance (t : List UInt8) : Decidable (wSay t) := by unfold wSay; infer_instance
instance (t : List UInt8) : Decidable (wTwo t) := by unfold wTwo; infer_instance
instance (t : List UInt8) : Decidable (wSpeak t) := by unfold wSpeak; infer_instance
def wm (t : List UInt8) : Int := if t = [102, 105, 110, 100] then 1 else if wTwo t then 2 else if wDoor t then 3 else if wMember t then 4 else if t = [99, 111, 109, 101] then 5 else -1
def fo (t : List UInt8) : Int × Bool × Bool := if wMade t then (2, false, true) else if wDoor t then (3, false, true) else if wMember t then (4, false, true) else if wSay t then (2, true, true) else
  if t = [99, 111, 109, 101] then (5, true, true) else if t = [102, 105, 110, 100] then (1, true, true) else (0, false, false)
theorem spec_many_ev (w : ByteArray) : Ev (fun k => spec_l14Many.f k w) (wm w.toList) := by
  have j2 : ∀ b, Ev (fun k => spec_l14Many.j2 k w b) (if b = true then 4 else if w.toList = [99, 111, 109, 101] then 5 else -1 : Int) := by
    intro b; refine Ev.one (fun k => ?_)
    rw [spec_l14Many.j2]; split
    · rfl
    · split <;> rfl
  have j1 : ∀ b, Ev (fun k => spec_l14Many.j1 k w b) (if b = true then 3 else if wMember w.toList then 4 else if w.toList = [99, 111, 109, 101] then 5 else -1 : Int) := by
    intro b
    cases b
    · refine Ev.step (f := fun k => spec_l14Many.j2 k w (decide (wMember w.toList))) (fun k => ?_) (Ev.to (by simp) (j2 _))
      rw [spec_l14Many.j1, if_neg (by simp)]; exact or3
    · exact Ev.one (fun k => by rw [spec_l14Many.j1, if_pos rfl]; rfl)
  have j0 : ∀ b, Ev (fun k => spec_l14Many.j0 k w b) (if b = true then 2 else if wDoor w.toList then 3 else if wMember w.toList then 4 else if w.toList = [99, 111, 109, 101] then 5 else -1 : Int) := by
    intro b
    cases b
    · refine Ev.step (f := fun k => spec_l14Many.j1 k w (decide (wDoor w.toList))) (fun k => ?_) (Ev.to (by simp) (j1 _))
      rw [spec_l14Many.j0, if_neg (by simp)]; exact or4
    · exact Ev.one (fun k => by rw [spec_l14Many.j0, if_pos rfl]; rfl)
  unfold spec_l14Many.f wm
  by_cases h : w.toList = [102, 105, 110, 100]
  · rw [if_pos h]; exact Ev.pos h (Ev.now _)
  · rw [if_neg h]
    refine Ev.neg h ?_
    have e : (fun k => if w.toList = ([99, 114, 101, 97, 116, 101] : List UInt8) then (spec_l14Many.j0 k w (w.toList == ([99, 114, 101, 97, 116, 101] : List UInt8))) else (if w.toList = ([115, 101, 101] : List UInt8) then (spec_l14Many.j0 k w (w.toList == ([115, 101, 101] : List UInt8))) else (if w.toList = ([115, 97, 121] : List UInt8) then (spec_l14Many.j0 k w (w.toList == ([115, 97, 121] : List UInt8))) else (spec_l14Many.j0 k w (w.toList == ([116, 111, 112, 105, 99] : List UInt8)))))) = fun k => spec_l14Many.j0 k w (decide (wTwo w.toList)) := by
      funext k; exact or4
    rw [e]
    exact Ev.to (by simp) (j0 _)
theorem speaks_eq (w : ByteArray) : spec_l14Speaks.f w = some (decide (wSpeak w.toList)) := by
  unfold spec_l14Speaks.f wSpeak
  split
  · simp [*]
  · split
    · simp [*]
    · split
      · simp [*]
      · rename_i h1 h2 h3
        by_cases g : w.toList = [102, 105, 110, 100] <;> simp [h1, h2, h3, g]
theorem form_ev (w : ByteArray) : Ev (fun k => impl_formOf.f k w) (fo w.toList) := by
  have j3 : ∀ b, Ev (fun k => impl_formOf.j3 k w b) (if b = true then (2, true, true) else if w.toList = [99, 111, 109, 101] then (5, true, true) else if w.toList = [102, 105, 110, 100] then (1, true, true) else (0, false, false) : Int × Bool × Bool) := by
    intro b; refine Ev.one (fun k => ?_)
    rw [impl_formOf.j3]; split
    · rfl
    · split
      · rfl
      · split <;> rfl
  have j2 : ∀ b, Ev (fun k => impl_formOf.j2 k w b) (if b = true then (4, false, true) else if wSay w.toList then (2, true, true) else if w.toList = [99, 111, 109, 101] then (5, true, true) else if w.toList = [102, 105, 110, 100] then (1, true, true) else (0, false, false) : Int × Bool × Bool) := by
    intro b
    cases b
    · refine Ev.step (f := fun k => impl_formOf.j3 k w (decide (wSay w.toList))) (fun k => ?_) (Ev.to (by simp) (j3 _))
      rw [impl_formOf.j2, if_neg (by simp)]; exact or2
    · exact Ev.one (fun k => by rw [impl_formOf.j2, if_pos rfl]; rfl)
  have j1 : ∀ b, Ev (fun k => impl_formOf.j1 k w b) (if b = true then (3, false, true) else if wMember w.toList then (4, false, true) else if wSay w.toList then (2, true, true) else if w.toList = [99, 111, 109, 101] then (5, true, true) else if w.toList = [102, 105, 110, 100] then (1, true, true) else (0, false, false) : Int × Bool × Bool) := by
    intro b
    cases b
    · refine Ev.step (f := fun k => impl_formOf.j2 k w (decide (wMember w.toList))) (fun k => ?_) (Ev.to (by simp) (j2 _))
      rw [impl_formOf.j1, if_neg (by simp)]; exact or3
    · exact Ev.one (fun k => by rw [impl_formOf.j1, if_pos rfl]; rfl)
  have j0 : ∀ b, Ev (fun k => impl_formOf.j0 k w b) (if b = true then (2, false, true) else if wDoor w.toList then (3, false, true) else if wMember w.toList then (4, false, true) else if wSay w.toList then (2, true, true) else if w.toList = [99, 111, 109, 101] then (5, true, true) else if w.toList = [102, 105, 110, 100] then (1, true, true) else (0, false, false) : Int × Bool × Bool) := by
    intro b
    cases b
    · refine Ev.step (f := fun k => impl_formOf.j1 k w (decide (wDoor w.toList))) (fun k => ?_) (Ev.to (by simp) (j1 _))
      rw [impl_formOf.j0, if_neg (by simp)]; exact or4
    · exact Ev.one (fun k => by rw [impl_formOf.j0, if_pos rfl]; rfl)
  unfold impl_formOf.f
  have e : (fun k => if w.toList = ([99, 114, 101, 97, 116, 101] : List UInt8) then (impl_formOf.j0 k w (w.toList == ([99, 114, 101, 97, 116, 101] : List UInt8))) else (impl_formOf.j0 k w (w.toList == ([115, 101, 101] : List UInt8)))) = fun k => impl_formOf.j0 k w (decide (wMade w.toList)) := by
    funext k; exact or2
  rw [e]
  exact Ev.to (by simp [fo]) (j0 _)
theorem fo_wm (t : List UInt8) : ((fo t).2.2 = false ∧ wm t = -1) ∨ ((fo t).2.2 = true ∧ (fo t).1 = wm t ∧ (fo t).2.1 = decide (wSpeak t)) := by
  by_cases h1 : t = [99, 114, 101, 97, 116, 101]
  · subst h1; right; decide
  by_cases h2 : t = [115, 101, 101]
  · subst h2; right; decide
  by_cases h3 : t = [100, 111, 111, 114]
  · subst h3; right; decide
  by_cases h4 : t = [115, 105, 103, 104, 116]
  · subst h4; right; decide
  by_cases h5 : t = [104, 105, 100, 101]
  · subst h5; right; decide
  by_cases h6 : t = [115, 121, 110, 99]
  · subst h6; right; decide
  by_cases h7 : t = [109, 101, 109, 98, 101, 114]
  · subst h7; right; decide
  by_cases h8 : t = [112, 111, 119, 101, 114]
  · subst h8; right; decide
  by_cases h9 : t = [98, 97, 99, 107]
  · subst h9; right; decide
  by_cases h10 : t = [115, 97, 121]
  · subst h10; right; decide
  by_cases h11 : t = [116, 111, 112, 105, 99]
  · subst h11; right; decide
  by_cases h12 : t = [99, 111, 109, 101]
  · subst h12; right; decide
  by_cases h13 : t = [102, 105, 110, 100]
  · subst h13; right; decide
  left
  constructor
  · unfold fo wMade wDoor wMember wSay; simp [h1, h2, h3, h4, h5, h6, h7, h8, h9, h10, h11, h12, h13]
  · unfold wm wTwo wDoor wMember; simp [h1, h2, h3, h4, h5, h6, h7, h8, h9, h10, h11, h12, h13]
def chFrom (s : ByteArray) : Nat → Nat → Bool
  | _, 0 => true
  | i, d + 1 => decide (33 ≤ bt s (i : Int) ∧ bt s (i : Int) ≤ 126) && chFrom s (i + 1) d
theorem act_l1 (w : ByteArray) (l : List Int) (s : ByteArray) (hs : s.size ≤ 9223372036854775806) (d : Nat) : ∀ i : Nat, i + d = s.size → Ev (fun k => spec_ActRight.l1 k (i : Int) w l s) (chFrom s i d) := by
  induction d with
  | zero =>
    intro i hi
    refine Ev.one (fun k => ?_)
    rw [spec_ActRight.l1, if_neg (by omega)]; rfl
  | succ d ih =>
    intro i hi
    have hw : wrap64 ((i : Int) + 1) = ((i + 1 : Nat) : Int) := by unfold wrap64; omega
    have ih' := ih (i + 1) (by omega)
    unfold chFrom
    by_cases c : 33 ≤ bt s (i : Int) ∧ bt s (i : Int) ≤ 126
    · rw [decide_eq_true c, Bool.true_and]
      refine Ev.step (fun k => ?_) ih'
      rw [spec_ActRight.l1, if_pos (by omega), if_pos (by omega), if_neg (by omega), if_neg (by omega), hw]
    · rw [decide_eq_false c, Bool.false_and]
      refine Ev.one (fun k => ?_)
      rw [spec_ActRight.l1, if_pos (by omega), if_pos (by omega)]
      by_cases c1 : bt s (i : Int) < 33
      · rw [if_pos c1]
      · rw [if_neg c1, if_pos (by omega)]
def numOk (x : Int) : Bool := decide (0 ≤ x ∧ x ≤ 999999999)
theorem act_l0 (w : ByteArray) (l : List Int) (s : ByteArray) (hs : s.size ≤ 9223372036854775806) (hl : l.length ≤ 9223372036854775806) (d : Nat) : ∀ i : Nat, i + d = l.length →
    Ev (fun k => spec_ActRight.l0 k (i : Int) w l s) ((l.drop i).all numOk && chFrom s 0 s.size) := by
  induction d with
  | zero =>
    intro i hi
    refine Ev.step (f := fun k => spec_ActRight.l1 k ((0 : Nat) : Int) w l s) (fun k => ?_) (Ev.to ?_ (act_l1 w l s hs s.size 0 (by omega)))
    · rw [spec_ActRight.l0, if_neg (by omega)]; rfl
    · rw [List.drop_of_length_le (by omega)]; rfl
  | succ d ih =>
    intro i hi
    have hlt : i < l.length := by omega
    have hw : wrap64 ((i : Int) + 1) = ((i + 1 : Nat) : Int) := by unfold wrap64; omega
    rw [drop_cons hlt, List.all_cons]
    by_cases c : 0 ≤ l[i] ∧ l[i] ≤ 999999999
    · rw [show numOk l[i] = true from decide_eq_true c, Bool.true_and]
      refine Ev.step (f := fun k => spec_ActRight.l0 k ((i + 1 : Nat) : Int) w l s) (fun k => ?_) (ih (i + 1) (by omega))
      rw [spec_ActRight.l0, if_pos (by omega), if_pos (by omega), rd_at hlt, is_eq, decide_eq_true c, hw]; rfl
    · rw [show numOk l[i] = false from decide_eq_false c, Bool.false_and, Bool.false_and]
      refine Ev.one (fun k => ?_)
      rw [spec_ActRight.l0, if_pos (by omega), if_pos (by omega), rd_at hlt, is_eq, decide_eq_false c]; rfl
/-- An act is valid. -/
def actRight (w : ByteArray) (l : List Int) (s : ByteArray) : Bool :=
  decide ((l.length : Int) = wm w.toList) && (decide (s.size ≠ 0) == decide (wSpeak w.toList)) && decide (s.size ≤ 30) && (l.all numOk && chFrom s 0 s.size)
theorem size_zero_iff (s : ByteArray) : s.toList = [] ↔ s.size = 0 := by
  rw [ByteArray.toList_eq]
  constructor
  · intro h; have := congrArg List.length h; simpa using this
  · intro h; exact List.eq_nil_of_length_eq_zero (by simpa using h)
theorem toList_nil_beq (s : ByteArray) : (s.toList == ([] : List UInt8)) = decide (s.size = 0) := by
  rw [Bool.eq_iff_iff, beq_iff_eq, decide_eq_true_iff, size_zero_iff]
theorem spec_ActRight_ev (w : ByteArray) (l : List Int) (s : ByteArray) (hs : s.size ≤ 9223372036854775806) (hl : l.length ≤ 9223372036854775806) : Ev (fun k => spec_ActRight.f k w l s) (actRight w l s) := by
  have no : Ev (fun k => spec_ActRight.j0 k true w l s) false := Ev.one (fun k => by rw [spec_ActRight.j0, if_pos rfl])
  unfold spec_ActRight.f actRight
  refine Ev.bind (spec_many_ev w) ?_
  by_cases c : (l.length : Int) = wm w.toList
  · refine Ev.pos c (Ev.take (speaks_eq w) ?_)
    rw [decide_eq_true c, Bool.true_and]
    have e : (s.toList != ([] : List UInt8)) = decide (s.size ≠ 0) := by
      unfold bne; rw [toList_nil_beq]; by_cases h : s.size = 0 <;> simp [h]
    rw [e]
    by_cases c2 : decide (s.size ≠ 0) = decide (wSpeak w.toList)
    · refine Ev.neg (by rw [c2]; simp) ?_
      rw [c2, beq_self_eq_true, Bool.true_and]
      by_cases c3 : s.size ≤ 30
      · rw [decide_eq_true c3, Bool.true_and]
        refine Ev.step (f := fun k => spec_ActRight.l0 k ((0 : Nat) : Int) w l s) (fun k => ?_) (Ev.to (by rw [List.drop_zero]) (act_l0 w l s hs hl l.length 0 (by omega)))
        rw [spec_ActRight.j0, if_neg (by simp; omega)]; rfl
      · rw [decide_eq_false c3, Bool.false_and]
        rw [decide_eq_true (show (s.size : Int) > 30 by omega)]; exact no
    · refine Ev.pos (by simpa using c2) ?_
      rw [beq_eq_false_iff_ne.2 c2, Bool.false_and, Bool.false_and]; exact no
  · refine Ev.neg c ?_
    rw [decide_eq_false c, Bool.false_and, Bool.false_and, Bool.false_and]; exact no
theorem act_index_l0 (l : List Int) (hl : l.length ≤ 9223372036854775806) (d : Nat) : ∀ i : Nat, i + d = l.length →
    ∃ r : Int, Ev (fun k => slices_IndexFunc_int64_int64.l0 k l (l.length : Int) (i : Int)) r ∧ decide (r ≥ 0) = !((l.drop i).all numOk) := by
  induction d with
  | zero =>
    intro i hi
    refine ⟨-1, Ev.one (fun k => ?_), ?_⟩
    · rw [slices_IndexFunc_int64_int64.l0, if_neg (by omega)]
    · rw [List.drop_of_length_le (by omega)]; rfl
  | succ d ih =>
    intro i hi
    have hlt : i < l.length := by omega
    have hw : wrap64 ((i : Int) + 1) = ((i + 1 : Nat) : Int) := by unfold wrap64; omega
    have hp : ∀ x : Int, impl_ActRight_1.f x = some (!decide (0 ≤ x ∧ x ≤ 999999999)) := by intro x; unfold impl_ActRight_1.f; rw [in_eq]; rfl
    rw [drop_cons hlt, List.all_cons]
    by_cases c : 0 ≤ l[i] ∧ l[i] ≤ 999999999
    · obtain ⟨r, h1, h2⟩ := ih (i + 1) (by omega)
      refine ⟨r, Ev.step (f := fun k => slices_IndexFunc_int64_int64.l0 k l (l.length : Int) ((i + 1 : Nat) : Int)) (fun k => ?_) h1, ?_⟩
      · rw [slices_IndexFunc_int64_int64.l0, if_pos (by omega), if_pos (by omega), if_pos (by omega), rd_at hlt, hp, decide_eq_true c, hw]; rfl
      · rw [h2, show numOk l[i] = true from decide_eq_true c, Bool.true_and]
    · refine ⟨(i : Int), Ev.one (fun k => ?_), ?_⟩
      · rw [slices_IndexFunc_int64_int64.l0, if_pos (by omega), if_pos (by omega), if_pos (by omega), rd_at hlt, hp, decide_eq_false c]; rfl
      · rw [show numOk l[i] = false from decide_eq_false c, Bool.false_and]; exact decide_eq_true (by omega)
theorem text_l0 (s : ByteArray) (hs : s.size ≤ 9223372036854775806) (d : Nat) : ∀ i : Nat, i + d = s.size → Ev (fun k => impl_isActText.l0 k s (s.size : Int) (i : Int)) (chFrom s i d && decide (1 ≤ s.size ∧ s.size ≤ 30)) := by
  induction d with
  | zero =>
    intro i hi
    refine Ev.one (fun k => ?_)
    rw [impl_isActText.l0, if_neg (by omega), in_eq]
    show some (decide (1 ≤ (s.size : Int) ∧ (s.size : Int) ≤ 30)) = some (true && decide (1 ≤ s.size ∧ s.size ≤ 30))
    rw [Bool.true_and]; congr 1; rw [decide_eq_decide]; omega
  | succ d ih =>
    intro i hi
    have hw : wrap64 ((i : Int) + 1) = ((i + 1 : Nat) : Int) := by unfold wrap64; omega
    have ih' := ih (i + 1) (by omega)
    unfold chFrom
    by_cases c : 33 ≤ bt s (i : Int) ∧ bt s (i : Int) ≤ 126
    · rw [decide_eq_true c, Bool.true_and]
      refine Ev.step (fun k => ?_) ih'
      rw [impl_isActText.l0, if_pos (by omega), if_pos (by omega), if_pos (by omega), if_neg (by omega), if_neg (by omega), hw]
    · rw [decide_eq_false c, Bool.false_and, Bool.false_and]
      refine Ev.one (fun k => ?_)
      rw [impl_isActText.l0, if_pos (by omega), if_pos (by omega), if_pos (by omega)]
      by_cases c1 : bt s (i : Int) < 33
      · rw [if_pos c1]
      · rw [if_neg c1, if_pos (by omega)]
theorem impl_ActRight_ev (w : ByteArray) (l : List Int) (s : ByteArray) (hs : s.size ≤ 9223372036854775806) (hl : l.length ≤ 9223372036854775806) : Ev (fun k => impl_ActRight.f k w l s) (actRight w l s) := by
  have no : ∀ b, Ev (fun k => impl_ActRight.j0 k b true w l s) false := fun b => Ev.one (fun k => by rw [impl_ActRight.j0, if_pos rfl])
  unfold impl_ActRight.f
  refine Ev.bind (form_ev w) ?_
  rcases fo_wm w.toList with ⟨h1, h2⟩ | ⟨h1, h2, h3⟩
  · refine Ev.neg (by rw [h1]; simp) (Ev.to ?_ (no _))
    unfold actRight; rw [h2, decide_eq_false (by omega), Bool.false_and, Bool.false_and, Bool.false_and]
  · refine Ev.pos h1 ?_
    rw [h2, h3]
    unfold actRight
    by_cases c : (l.length : Int) = wm w.toList
    · refine Ev.pos c ?_
      rw [decide_eq_true c, Bool.true_and]
      obtain ⟨r, i1, i2⟩ := act_index_l0 l hl l.length 0 (by omega)
      rw [List.drop_zero] at i2
      refine Ev.bind (a := !(l.all numOk)) ?_ ?_
      · unfold slices_ContainsFunc_int64_int64.f slices_IndexFunc_int64_int64.f
        rw [← i2]
        exact Ev.bind i1 (Ev.now _)
      · cases ha : l.all numOk
        · refine Ev.to ?_ (no _)
          simp
        · by_cases cs : wSpeak w.toList
          · rw [decide_eq_true cs]
            refine Ev.step (f := fun k => (impl_isActText.f k s).bind fun t129 => some t129) (fun k => ?_) (Ev.to ?_ (Ev.bind (a := chFrom s 0 s.size && decide (1 ≤ s.size ∧ s.size ≤ 30)) ?_ (Ev.now _)))
            · rw [impl_ActRight.j0, if_neg (by simp), if_pos rfl]
            · by_cases c1 : 1 ≤ s.size ∧ s.size ≤ 30
              · rw [decide_eq_true c1, decide_eq_true c1.2, decide_eq_true (show s.size ≠ 0 by omega)]; simp
              · rw [decide_eq_false c1]
                by_cases c0 : s.size = 0
                · simp [c0]
                · rw [decide_eq_false (show ¬ s.size ≤ 30 by omega)]; simp
            · unfold impl_isActText.f; exact text_l0 s hs s.size 0 (by omega)
          · rw [decide_eq_false cs]
            refine Ev.one (r := _) (fun k => ?_)
            rw [impl_ActRight.j0, if_neg (by simp), if_neg (by simp), toList_nil_beq]
            congr 1
            by_cases c0 : s.size = 0
            · rw [c0]; rfl
            · simp [c0]
    · refine Ev.neg c (Ev.to ?_ (no _))
      rw [decide_eq_false c, Bool.false_and, Bool.false_and, Bool.false_and]
/-! Numbers in digits. -/
theorem by_ext {a b : ByteArray} (h : a.data.toList = b.data.toList) : a = b := by
  cases a; cases b; simp at h; rw [h]
def byt (l : List UInt8) : ByteArray := ⟨l.toArray⟩
theorem byt_append (a b : List UInt8) : byt (a ++ b) = byt a ++ byt b := by
  apply by_ext; simp [byt]
theorem byt_size (a : List UInt8) : (byt a).size = a.length := by simp [byt, ByteArray.size]
theorem digits_ge {u : Nat} (h : 10 ≤ u) : Lib.decDigits u = Lib.decDigits (u / 10) ++ [UInt8.ofNat (48 + u % 10)] := by rw [Lib.decDigits, dif_neg (by omega)]
theorem digits_len (d : Nat) : ∀ u : Nat, u < 10 ^ d → (Lib.decDigits u).length ≤ max d 1 := by
  induction d with
  | zero => intro u h; rw [Lib.decDigits_one (by simp at h; omega)]; simp
  | succ d ih =>
    intro u h
    by_cases hu : u < 10
    · rw [Lib.decDigits_one hu]; simp only [List.length_singleton]; omega
    · rw [digits_ge (by omega), List.length_append, List.length_singleton]
      have := ih (u / 10) (by rw [Nat.pow_succ] at h; omega)
      have h2 : d ≠ 0 := by rintro rfl; simp at h; omega
      omega
theorem dec_l0 (d : Nat) : ∀ (u : Nat) (acc : ByteArray), u < 10 ^ d → u < 9223372036854775808 → acc.size + d < 9223372036854775807 → 0 < u →
    Ev (fun k => spec_l01Dec.l0 k (u : Int) false acc) (byt (Lib.decDigits u) ++ acc) := by
  induction d with
  | zero => intro u acc h _ _ h0; simp at h; omega
  | succ d ih =>
    intro u acc h h64 hs h0
    have hc : strOfNums [(wrap64 (48 + (Int.tmod (u : Int) 10))) % 256] = byt [UInt8.ofNat (48 + u % 10)] := by
      rw [Int.tmod_eq_emod_of_nonneg (by omega), show (wrap64 (48 + (u : Int) % 10)) % 256 = ((48 + u % 10 : Nat) : Int) from by unfold wrap64; omega]
      rfl
    have hq : wrap64 (Int.tdiv (u : Int) 10) = ((u / 10 : Nat) : Int) := by
      rw [Int.tdiv_eq_ediv_of_nonneg (by omega)]; unfold wrap64; omega
    have hm : ¬ (Int.tmod (u : Int) 10 < 0) := by rw [Int.tmod_eq_emod_of_nonneg (by omega)]; omega
    have hz : ¬ ((u : Int) = 0) := by omega
    have hb : (byt [UInt8.ofNat (48 + u % 10)]).size + acc.size ≤ 9223372036854775807 := by rw [byt_size]; simp only [List.length_singleton]; omega
    have step : ∀ k, spec_l01Dec.l0 (k + 1) (u : Int) false acc = spec_l01Dec.l0 k ((u / 10 : Nat) : Int) false (byt [UInt8.ofNat (48 + u % 10)] ++ acc) := by
      intro k
      simp only [spec_l01Dec.l0]
      rw [if_neg hz, if_neg hm]
      simp only [Option.bind_some]
      rw [hc, hq, if_pos hb]
    refine Ev.step step ?_
    by_cases h10 : u < 10
    · rw [show u / 10 = 0 by omega, Lib.decDigits_one h10, show u % 10 = u by omega]
      refine Ev.one (fun k => ?_)
      simp only [spec_l01Dec.l0]
      rw [if_pos (show ((0 : Nat) : Int) = 0 from rfl), if_neg (by simp)]
    · rw [digits_ge (by omega), byt_append, ByteArray.append_assoc]
      exact ih (u / 10) _ (by rw [Nat.pow_succ] at h; omega) (by omega) (by rw [ByteArray.size_append, byt_size]; simp only [List.length_singleton]; omega) (by omega)
theorem spec_dec_ev (u : Nat) (h : u < 1000000000000000000) : Ev (fun k => spec_l01Dec.f k (u : Int)) (byt (Lib.decDigits u)) := by
  unfold spec_l01Dec.f
  by_cases h0 : u = 0
  · subst h0
    exact Ev.pos rfl (Ev.to (by rw [Lib.decDigits_one (by omega)]; rfl) (Ev.now _))
  · refine Ev.neg (by omega) ?_
    rw [decide_eq_false (by omega)]
    refine Ev.to ?_ (dec_l0 18 u ⟨#[]⟩ (by omega) (by omega) (by simp [ByteArray.size]) (by omega))
    apply by_ext; simp
theorem itoa_nat (u : Nat) : Lib.itoa (u : Int) = Lib.decDigits u := by
  unfold Lib.itoa; rw [if_neg (by omega), Int.toNat_natCast]
theorem impl_dec_eq (u : Nat) (h : u < 9223372036854775808) : impl_dec.f (u : Int) = some (byt (Lib.decDigits u)) := by
  unfold impl_dec.f strconv_FormatInt.f
  rw [if_pos (by omega), itoa_nat]; rfl
/-- A token, of a user and a position that may be so. -/
def tokOf (a p : Nat) : ByteArray := (((⟨#[116]⟩ : ByteArray) ++ byt (Lib.decDigits a)) ++ (⟨#[45]⟩ : ByteArray)) ++ byt (Lib.decDigits p)
def tokS (a p : Int) : ByteArray := if (1 ≤ a ∧ a ≤ 6) ∧ 0 ≤ p ∧ p ≤ 120 then tokOf a.toNat p.toNat else ⟨#[]⟩
theorem tok_sizes (a p : Nat) (ha : a ≤ 6) (hp : p ≤ 120) : (byt (Lib.decDigits a)).size ≤ 3 ∧ (byt (Lib.decDigits p)).size ≤ 3 := by
  rw [byt_size, byt_size]
  exact ⟨digits_len 3 a (by omega), digits_len 3 p (by omega)⟩
theorem one_size : (⟨#[116]⟩ : ByteArray).size = 1 ∧ (⟨#[45]⟩ : ByteArray).size = 1 := ⟨rfl, rfl⟩
/-! A token, read. -/
theorem digits_all (u : Nat) : ∀ c ∈ Lib.decDigits u, 48 ≤ c.toNat ∧ c.toNat ≤ 57 := by
  induction u using Nat.strongRecOn with
  | ind u ih =>
    by_cases h : u < 10
    · rw [Lib.decDigits_one h]
      intro c hc
      rw [List.mem_singleton.1 hc, UInt8.toNat_ofNat']
      omega
    · rw [digits_ge (by omega)]
      intro c hc
      rcases List.mem_append.1 hc with hc | hc
      · exact ih (u / 10) (by omega) c hc
      · rw [List.mem_singleton.1 hc, UInt8.toNat_ofNat']
        omega
theorem parse_append (u : Nat) : ∀ r : List UInt8, u < 1000000000000000000 → Lib.parseUint10 0 (Lib.decDigits u ++ r) = Lib.parseUint10 u r := by
  induction u using Nat.strongRecOn with
  | ind u ih =>
    intro r hu
    by_cases h : u < 10
    · rw [Lib.decDigits_one h, List.singleton_append]
      simp only [Lib.parseUint10]
      have e : (UInt8.ofNat (48 + u)).toNat = 48 + u := by rw [UInt8.toNat_ofNat']; omega
      rw [e, if_pos (by omega), if_neg (by omega), if_neg (by omega)]
      congr 1; omega
    · rw [digits_ge (by omega), List.append_assoc, ih (u / 10) (by omega) _ (by omega), List.singleton_append]
      simp only [Lib.parseUint10]
      have e : (UInt8.ofNat (48 + u % 10)).toNat = 48 + u % 10 := by rw [UInt8.toNat_ofNat']; omega
      rw [e, if_pos (by omega), if_neg (by omega), if_neg (by omega)]
      congr 1; omega
theorem digits_ne (u : Nat) : Lib.decDigits u ≠ [] := by
  by_cases h : u < 10
  · rw [Lib.decDigits_one h]; simp
  · rw [digits_ge (by omega)]; simp
theorem parse_digits (u : Nat) (h : u < 1000000000000000000) : Lib.parseIntB 64 (Lib.decDigits u) = .ok (u : Int) := by
  rw [Lib.parseIntB_64]
  have hm : Lib.parseMag (Lib.decDigits u) = .ok u := by
    unfold Lib.parseMag
    rw [if_neg (digits_ne u)]
    have := parse_append u [] h
    rw [List.append_nil] at this
    rw [this]; rfl
  have ha := digits_all u
  have hn := digits_ne u
  cases hd : Lib.decDigits u with
  | nil => exact absurd hd hn
  | cons c r =>
    rw [hd] at hm ha
    have hc := ha c List.mem_cons_self
    rw [Lib.atoiAll_plain c r (by omega) (by omega), hm]
    unfold Lib.signless
    simp only []
    rw [if_neg (by omega)]
theorem digits_inj {p q : Nat} (hp : p < 1000000000000000000) (hq : q < 1000000000000000000) (h : Lib.decDigits p = Lib.decDigits q) : p = q := by
  have h1 := parse_digits p hp
  rw [h, parse_digits q hq] at h1
  injection h1 with h1
  omega
/-- What a token begins with. -/
def tokP (a : Nat) : ByteArray := ((⟨#[116]⟩ : ByteArray) ++ byt (Lib.decDigits a)) ++ (⟨#[45]⟩ : ByteArray)
theorem tokOf_eq (a p : Nat) : tokOf a p = tokP a ++ byt (Lib.decDigits p) := rfl
theorem ba_data_append (a b : ByteArray) : (a ++ b).data.toList = a.data.toList ++ b.data.toList := by simp
theorem ba_cancel {a b c : ByteArray} (h : a ++ b = a ++ c) : b = c := by
  have := congrArg (fun x : ByteArray => x.data.toList) h
  simp only [ba_data_append] at this
  exact by_ext (List.append_cancel_left this)
theorem byt_inj {l m : List UInt8} (h : byt l = byt m) : l = m := by
  have := congrArg (fun x : ByteArray => x.data.toList) h
  simpa [byt] using this
theorem tokOf_inj {a p q : Nat} (hp : p ≤ 120) (hq : q ≤ 120) (h : tokOf a p = tokOf a q) : p = q := by
  rw [tokOf_eq, tokOf_eq] at h
  exact digits_inj (by omega) (by omega) (byt_inj (ba_cancel h))
theorem ba_head (a u : ByteArray) : (a ++ u).extract 0 a.size = a := by
  apply by_ext
  rw [ByteArray.data_extract, Array.toList_extract, List.extract_eq_take_drop, ba_data_append, show a.size = a.data.toList.length from rfl, List.drop_zero, Nat.sub_zero, List.take_left]
theorem ba_tail (a u : ByteArray) : (a ++ u).extract a.size (a ++ u).size = u := by
  apply by_ext
  have e : (a ++ u).size = a.data.toList.length + u.data.toList.length := by rw [ByteArray.size_append]; rfl
  rw [ByteArray.data_extract, Array.toList_extract, List.extract_eq_take_drop, e, ba_data_append, show a.size = a.data.toList.length from rfl, Nat.add_sub_cancel_left, List.drop_left, List.take_length]
theorem ba_split (t : ByteArray) (n : Nat) (h : n ≤ t.size) : t = t.extract 0 n ++ t.extract n t.size := by
  rw [ByteArray.extract_append_extract]; simp
theorem ba_toList {a b : ByteArray} (h : a.toList = b.toList) : a = b := by
  rw [ByteArray.toList_eq, ByteArray.toList_eq] at h; exact by_ext h
theorem tokS_ok {a : Nat} {p : Nat} (ha : 1 ≤ a ∧ a ≤ 6) (hp : p ≤ 120) : tokS (a : Int) (p : Int) = tokOf a p := by
  unfold tokS; rw [if_pos (by omega), Int.toNat_natCast, Int.toNat_natCast]
theorem readDec_digits (p : Nat) (lo hi : Int) (hp : p < 1000000000000000000) : impl_readDec.f (byt (Lib.decDigits p)) lo hi = some ((p : Int), decide (lo ≤ (p : Int) ∧ (p : Int) ≤ hi)) := by
  unfold impl_readDec.f
  have hl := digits_len 18 p (by omega)
  rw [if_pos (by rw [byt_size]; omega)]
  have e : (byt (Lib.decDigits p)).data.toList = Lib.decDigits p := by simp [byt]
  rw [e, parse_digits p hp]
  show some ((p : Int), Lib.itoa (p : Int) == (byt (Lib.decDigits p)).toList && decide (lo ≤ (p : Int) ∧ (p : Int) ≤ hi)) = _
  rw [itoa_nat, ByteArray.toList_eq, e]
  simp
theorem readDec_any (s : ByteArray) (lo hi : Int) (h0 : 0 ≤ lo) (hs : s.size ≤ 281474976710656) : ∃ n b, impl_readDec.f s lo hi = some (n, b) ∧ (b = true → ∃ p : Nat, n = (p : Int) ∧ lo ≤ (p : Int) ∧ (p : Int) ≤ hi ∧ s = byt (Lib.decDigits p)) := by
  unfold impl_readDec.f
  rw [if_pos hs]
  cases hp : Lib.parseIntB 64 s.data.toList with
  | ok v =>
    refine ⟨_, _, rfl, ?_⟩
    intro h
    rw [Bool.and_eq_true, beq_iff_eq, decide_eq_true_iff] at h
    obtain ⟨h1, h2, h3⟩ := h
    refine ⟨v.toNat, by omega, by omega, by omega, ?_⟩
    have hv : v = ((v.toNat : Nat) : Int) := by omega
    rw [hv, itoa_nat, ByteArray.toList_eq] at h1
    apply by_ext
    rw [← h1]; simp [byt]
  | range => exact ⟨_, _, rfl, fun h => by cases h⟩
  | _ => exact ⟨_, _, rfl, fun h => by cases h⟩
theorem tokP_size (a : Nat) (ha : a ≤ 6) : (byt (Lib.decDigits a)).size ≤ 3 := (tok_sizes a 0 ha (by omega)).1
/-! An act's text. -/
/-- The bytes behind a word: each number behind a blank, then the text, if there is one. -/
def actTail : List Int → ByteArray → List UInt8
  | [], s => if s.toList = [] then [] else 32 :: s.data.toList
  | x :: r, s => 32 :: (Lib.decDigits x.toNat ++ actTail r s)
theorem actTail_len (l : List Int) (s : ByteArray) (h : ∀ x ∈ l, 0 ≤ x ∧ x ≤ 999999999) : (actTail l s).length ≤ 10 * l.length + s.size + 1 := by
  induction l with
  | nil =>
    unfold actTail
    split
    · simp
    · simp only [List.length_cons, List.length_nil, Array.length_toList, ByteArray.size_data]; omega
  | cons x r ih =>
    have h1 := ih (fun y hy => h y (List.mem_cons_of_mem _ hy))
    have h2 := digits_len 9 x.toNat (by have := h x List.mem_cons_self; omega)
    unfold actTail
    simp only [List.length_cons, List.length_append]
    omega
theorem byt_data (s : ByteArray) : byt s.data.toList = s := by apply by_ext; simp [byt]
theorem byt_of (l : List UInt8) : (byt l).data.toList = l := by simp [byt]
theorem byt_cons (c : UInt8) (l : List UInt8) : byt (c :: l) = byt [c] ++ byt l := by rw [← byt_append]; rfl
theorem blank : (⟨#[32]⟩ : ByteArray) = byt [32] := rfl
theorem blank_size : (⟨#[32]⟩ : ByteArray).size = 1 := rfl
theorem sat_l0 (w : ByteArray) (l : List Int) (s : ByteArray) (hl : ∀ x ∈ l, 0 ≤ x ∧ x ≤ 999999999) (hs : s.size ≤ 1048576) (hn : l.length ≤ 1048576) (d : Nat) : ∀ (i : Nat) (acc : ByteArray), i + d = l.length → acc.size + 10 * d ≤ 100000000 →
    Ev (fun k => spec_ActText.l0 k acc (i : Int) w l s) (acc ++ byt (actTail (l.drop i) s)) := by
  induction d with
  | zero =>
    intro i acc hi ha
    refine Ev.one (fun k => ?_)
    simp only [spec_ActText.l0]
    rw [if_neg (by omega), List.drop_of_length_le (by omega)]
    unfold actTail
    by_cases c : s.toList = ([] : List UInt8)
    · rw [if_pos c, if_pos c]
      congr 1
      apply by_ext; simp [byt]
    · rw [if_neg c, if_neg c, if_pos (by omega), if_pos (by rw [ByteArray.size_append, blank_size]; omega), byt_cons, byt_data, blank, ByteArray.append_assoc]
  | succ d ih =>
    intro i acc hi ha
    have hlt : i < l.length := by omega
    have hx := hl l[i] (List.getElem_mem hlt)
    have hdl := digits_len 9 l[i].toNat (by omega)
    have hdz : (byt (Lib.decDigits l[i].toNat)).size ≤ 9 := by rw [byt_size]; omega
    have hd := spec_dec_ev l[i].toNat (by omega)
    rw [Int.toNat_of_nonneg hx.1] at hd
    refine Ev.step (f := fun k => spec_ActText.l0 (k + 1) acc (i : Int) w l s) (fun k => rfl) ?_
    simp only [spec_ActText.l0]
    rw [rd_at hlt, show wrap64 ((i : Int) + 1) = ((i + 1 : Nat) : Int) from by unfold wrap64; omega]
    refine Ev.pos (by omega) (Ev.pos (by omega) (Ev.pos (by omega) (Ev.bind hd (Ev.pos (by rw [ByteArray.size_append, blank_size]; omega) ?_))))
    have := ih (i + 1) ((acc ++ (⟨#[32]⟩ : ByteArray)) ++ byt (Lib.decDigits l[i].toNat)) (by omega) (by rw [ByteArray.size_append, ByteArray.size_append, blank_size]; omega)
    rw [drop_cons hlt, show actTail (l[i] :: l.drop (i + 1)) s = 32 :: (Lib.decDigits l[i].toNat ++ actTail (l.drop (i + 1)) s) from rfl, byt_cons, byt_append]
    simpa only [ByteArray.append_assoc, blank] using this
/-- The words of an act, ahead of what is joined. -/
def actWords (l : List Int) (s : ByteArray) : List ByteArray := l.map (fun x => byt (Lib.decDigits x.toNat)) ++ (if s.toList = [] then [] else [s])
theorem join_tail (l : List Int) (s : ByteArray) : Lib.joinTail [32] ((actWords l s).map (·.data.toList)) = actTail l s := by
  unfold actWords
  induction l with
  | nil =>
    unfold actTail
    by_cases c : s.toList = ([] : List UInt8)
    · rw [if_pos c, if_pos c]; rfl
    · rw [if_neg c, if_neg c]; simp [Lib.joinTail]
  | cons x r ih =>
    rw [show actTail (x :: r) s = 32 :: (Lib.decDigits x.toNat ++ actTail r s) from rfl, ← ih]
    simp [Lib.joinTail, byt_of]
theorem iat_l0 (w : ByteArray) (l : List Int) (s : ByteArray) (hl : ∀ x ∈ l, 0 ≤ x ∧ x ≤ 999999999) (hw : w.size ≤ 1048576) (hs : s.size ≤ 1048576) (hn : l.length ≤ 1048576) (d : Nat) : ∀ (i : Nat) (acc : List ByteArray), i + d = l.length → acc = w :: (l.take i).map (fun x => byt (Lib.decDigits x.toNat)) →
    Ev (fun k => impl_ActText.l0 k acc l (l.length : Int) (i : Int) w l s) (w ++ byt (actTail l s)) := by
  have hjoin : ∀ ws : List ByteArray, ws = w :: actWords l s → strings_Join.f ws (⟨#[32]⟩ : ByteArray) = some (w ++ byt (actTail l s)) := by
    rintro ws rfl
    have hj : Lib.join ((w :: actWords l s).map (·.data.toList)) (⟨#[32]⟩ : ByteArray).data.toList = w.data.toList ++ actTail l s := by
      rw [List.map_cons, Lib.join_cons, show (⟨#[32]⟩ : ByteArray).data.toList = [32] from rfl, join_tail]
    have ht := actTail_len l s hl
    unfold strings_Join.f
    rw [hj, if_pos ⟨by
      unfold actWords
      simp only [List.length_cons, List.length_append, List.length_map]
      split
      · simp only [List.length_nil]; omega
      · simp only [List.length_cons, List.length_nil]; omega, by
      rw [List.length_append, Array.length_toList, ByteArray.size_data]; omega⟩]
    refine congrArg some (by_ext ?_)
    simp [byt]
  induction d with
  | zero =>
    intro i acc hi ha
    refine Ev.one (fun k => ?_)
    simp only [impl_ActText.l0]
    have hl2 : acc.length ≤ 1048577 := by rw [ha]; simp only [List.length_cons, List.length_map, List.length_take]; omega
    rw [List.take_of_length_le (by omega)] at ha
    rw [if_neg (by omega)]
    by_cases c : s.toList = ([] : List UInt8)
    · rw [if_pos c, hjoin acc (by rw [ha]; unfold actWords; rw [if_pos c, List.append_nil])]; rfl
    · rw [if_neg c, if_pos (by omega), hjoin (acc ++ [s]) (by rw [ha]; unfold actWords; rw [if_neg c]; rfl)]; rfl
  | succ d ih =>
    intro i acc hi ha
    have hlt : i < l.length := by omega
    have hx := hl l[i] (List.getElem_mem hlt)
    have hd := impl_dec_eq l[i].toNat (by omega)
    rw [Int.toNat_of_nonneg hx.1] at hd
    have hl2 : acc.length ≤ 1048577 := by rw [ha]; simp only [List.length_cons, List.length_map, List.length_take]; omega
    refine Ev.step (f := fun k => impl_ActText.l0 (k + 1) acc l (l.length : Int) (i : Int) w l s) (fun k => rfl) ?_
    simp only [impl_ActText.l0]
    rw [rd_at hlt, show wrap64 ((i : Int) + 1) = ((i + 1 : Nat) : Int) from by unfold wrap64; omega]
    refine Ev.pos (by omega) (Ev.pos (by omega) (Ev.pos (by omega) (Ev.take hd (Ev.pos (by omega) ?_))))
    refine ih (i + 1) _ (by omega) ?_
    rw [ha, List.take_add_one, List.getElem?_eq_getElem hlt, List.map_append]
    rfl
theorem actRight_nums {w : ByteArray} {l : List Int} {s : ByteArray} (h : actRight w l s = true) : ∀ x ∈ l, 0 ≤ x ∧ x ≤ 999999999 := by
  unfold actRight at h
  simp only [Bool.and_eq_true, List.all_eq_true] at h
  intro x hx
  have := h.2.1 x hx
  unfold numOk at this
  exact of_decide_eq_true this
def actText (w : ByteArray) (l : List Int) (s : ByteArray) : ByteArray := if actRight w l s = true then w ++ byt (actTail l s) else ⟨#[]⟩
theorem spec_AT_ev (w : ByteArray) (l : List Int) (s : ByteArray) (hw : w.size ≤ 1048576) (hs : s.size ≤ 1048576) (hn : l.length ≤ 1048576) : Ev (fun k => spec_ActText.f k w l s) (actText w l s) := by
  unfold spec_ActText.f actText
  refine Ev.bind (spec_ActRight_ev w l s (by omega) (by omega)) ?_
  by_cases c : actRight w l s = true
  · rw [if_pos c]
    refine Ev.pos c ?_
    have := sat_l0 w l s (actRight_nums c) hs hn l.length 0 w (by omega) (by omega)
    simpa only [List.drop_zero, Int.natCast_zero] using this
  · rw [if_neg c]; exact Ev.neg c (Ev.now _)
theorem impl_AT_ev (w : ByteArray) (l : List Int) (s : ByteArray) (hw : w.size ≤ 1048576) (hs : s.size ≤ 1048576) (hn : l.length ≤ 1048576) : Ev (fun k => impl_ActText.f k w l s) (actText w l s) := by
  unfold impl_ActText.f actText
  refine Ev.bind (impl_ActRight_ev w l s (by omega) (by omega)) ?_
  by_cases c : actRight w l s = true
  · rw [if_pos c]
    refine Ev.pos c ?_
    have := iat_l0 w l s (actRight_nums c) hw hs hn l.length 0 [w] (by omega) (by simp)
    simpa only [Int.natCast_zero] using this
  · rw [if_neg c]; exact Ev.neg c (Ev.now _)


end Go.Proofs.YtloknnlmflamgaaDoor.Print
