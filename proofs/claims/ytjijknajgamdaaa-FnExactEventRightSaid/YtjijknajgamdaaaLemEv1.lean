/- Lemmas: valid events. -/
import Derived.Test.YtjijknajgamdaaaStFnExactEventRight
import Derived.Laws.Bits64
namespace Go.Proofs.Ytjijknajgamdaaa.Print
open Go.RowKit Go.Proofs.YtjijknajgamdaaaW.PrintWords Go.Proofs.YtjijknajgamdaaaW.PrintLast Go.Proofs.YtjijknajgamdaaaW.PrintMore
set_option linter.unusedVariables false
set_option linter.unusedSimpArgs false

/-! Rounds: small helpers. -/
theorem Ev.pos {α : Type} {c : Prop} [Decidable c] {f g : Nat → Option α} {r : α} (hc : c) (h : Ev f r) : Ev (fun n => if c then f n else g n) r := by
  simp only [hc, if_true]; exact h
theorem Ev.neg {α : Type} {c : Prop} [Decidable c] {f g : Nat → Option α} {r : α} (hc : ¬ c) (h : Ev g r) : Ev (fun n => if c then f n else g n) r := by
  simp only [hc, if_false]; exact h
theorem Ev.here {α : Type} {o : Option α} {r : α} (h : o = some r) : Ev (fun _ => o) r := ⟨0, fun _ _ => h⟩
theorem Ev.take {α β : Type} {o : Option α} {f : Nat → α → Option β} {a : α} {r : β} (h : o = some a) (k : Ev (fun n => f n a) r) : Ev (fun n => o.bind (f n)) r := by
  subst h; exact k
theorem Ev.one {α : Type} {g : Nat → Option α} {r : α} (h : ∀ k, g (k + 1) = some r) : Ev g r := Ev.step (f := fun _ => some r) h (Ev.now r)
theorem Ev.to {α : Type} {g : Nat → Option α} {r q : α} (e : r = q) (h : Ev g r) : Ev g q := e ▸ h

/-! Lists of structs, read one by one. -/
theorem w64 {n : Int} (h0 : -9223372036854775808 ≤ n) (h1 : n ≤ 9223372036854775807) : wrap64 n = n := by unfold wrap64; omega
theorem drop_cons {α : Type} {l : List α} {i : Nat} (h : i < l.length) : l.drop i = l[i] :: l.drop (i + 1) := List.drop_eq_getElem_cons h
theorem getD_at {α : Type} {l : List α} {i : Nat} (d : α) (h : i < l.length) : l.getD ((i : Int)).toNat d = l[i] := by
  rw [Int.toNat_natCast, List.getD_eq_getElem?_getD, List.getElem?_eq_getElem h]; rfl

/-! Ranges. -/
theorem in_eq (a b c : Int) : impl_in.f a b c = some (decide (b ≤ a ∧ a ≤ c)) := by
  unfold impl_in.f; split <;> simp [*]
theorem is_eq (a b c : Int) : spec_l02Is.f a b c = some (decide (b ≤ a ∧ a ≤ c)) := by
  unfold spec_l02Is.f
  by_cases h : b ≤ a
  · rw [if_pos h]; simp [h]
  · rw [if_neg h]; simp [h]

theorem isId_eq (a : Int) : impl_isId.f a = some (decide (1 ≤ a ∧ a ≤ 1000000)) := by unfold impl_isId.f; rw [in_eq]; rfl

theorem l02Id_eq (a : Int) : spec_l02Id.f a = some (decide (1 ≤ a ∧ a ≤ 1000000)) := by unfold spec_l02Id.f; rw [is_eq]; rfl

/-! The laws' helpers on lists of numbers. -/
theorem rd_at {l : List Int} {i : Nat} (h : i < l.length) : rd l (i : Int) = l[i] := getD_at _ h
theorem szInt64S_eq (l : List Int) (a : Int) (ha : -1 ≤ a) (h : a ≤ 1048576) (hn : l.length ≤ 9223372036854775807) : laws_szInt64S.f l a = some (if a < l.length then -1 else a - l.length) := by
  unfold laws_szInt64S.f
  rw [w64 (by omega) (by omega)]
  by_cases c : a < l.length
  · rw [if_pos (by omega), if_pos c]
  · rw [if_neg (by omega), if_neg c]
theorem toInt64S_l0 (l : List Int) (hl : l.length ≤ 1048576) (d : Nat) : ∀ (i : Nat) (acc : List Int), i + d = l.length → acc.length = l.length → acc.take i = l.take i →
    Ev (fun k => laws_toInt64S.l0 k l acc (i : Int)) l := by
  induction d with
  | zero =>
    intro i acc hi ha hp
    refine Ev.to ?_ (Ev.one (r := acc) (fun k => ?_))
    · rw [List.take_of_length_le (by omega), List.take_of_length_le (by omega)] at hp
      exact hp
    · simp only [laws_toInt64S.l0]
      rw [if_neg (by omega)]
  | succ d ih =>
    intro i acc hi ha hp
    have hlt : i < l.length := by omega
    refine Ev.step (f := fun k => laws_toInt64S.l0 k l (acc.set i l[i]) ((i + 1 : Nat) : Int)) (fun k => ?_) (ih (i + 1) (acc.set i l[i]) (by omega) (by simpa using ha) ?_)
    · simp only [laws_toInt64S.l0]
      rw [if_pos (by omega), if_pos (by omega), if_pos (by omega), rd_at hlt, w64 (by omega) (by omega), Int.toNat_natCast]
      rfl
    · rw [List.take_succ_eq_append_getElem (by simp; omega), List.take_succ_eq_append_getElem hlt, ← hp, List.take_set_of_le (by omega)]
      simp
theorem toInt64S_ev (l : List Int) (hl : l.length ≤ 1048576) : Ev (fun k => laws_toInt64S.f k l) l := by
  unfold laws_toInt64S.f
  refine Ev.pos (by omega) (Ev.pos (by simp; omega) ?_)
  exact toInt64S_l0 l hl l.length 0 _ (by omega) (by simp) (by simp)
theorem eqInt64S_l0 (l : List Int) (hl : l.length ≤ 9223372036854775806) (d : Nat) : ∀ i : Nat, i + d = l.length → Ev (fun k => laws_eqInt64S.l0 k l l (i : Int)) true := by
  induction d with
  | zero =>
    intro i hi
    refine Ev.one (fun k => ?_)
    simp only [laws_eqInt64S.l0]
    rw [if_neg (by omega)]
  | succ d ih =>
    intro i hi
    refine Ev.step (f := fun k => laws_eqInt64S.l0 k l l ((i + 1 : Nat) : Int)) (fun k => ?_) (ih (i + 1) (by omega))
    simp only [laws_eqInt64S.l0]
    rw [if_pos (by omega), if_pos (by omega), if_pos (by omega), if_pos (by trivial), w64 (by omega) (by omega)]; rfl
theorem eqInt64S_ev (l : List Int) (hl : l.length ≤ 9223372036854775806) : Ev (fun k => laws_eqInt64S.f k l l) true := by
  unfold laws_eqInt64S.f
  exact Ev.pos rfl (eqInt64S_l0 l hl l.length 0 (by omega))

/-! Valid events. -/
theorem isUser_eq (a : Int) : impl_isUser.f a = some (decide (1 ≤ a ∧ a ≤ 6)) := by unfold impl_isUser.f; rw [in_eq]; rfl
theorem l02User_eq (a : Int) : spec_l02User.f a = some (decide (1 ≤ a ∧ a ≤ 6)) := by unfold spec_l02User.f; rw [is_eq]; rfl
theorem isRoom_eq (a : Int) : impl_isRoom.f a = some (decide (1 ≤ a ∧ a ≤ 3)) := by unfold impl_isRoom.f; rw [in_eq]; rfl
theorem isTime_eq (a : Int) : impl_isTime.f a = some (decide (0 ≤ a ∧ a ≤ 1000000)) := by unfold impl_isTime.f; rw [in_eq]; rfl
theorem l02Time_eq (a : Int) : spec_l02Time.f a = some (decide (0 ≤ a ∧ a ≤ 1000000)) := by unfold spec_l02Time.f; rw [is_eq]; rfl
def incFrom : Int → List Int → Bool
  | _, [] => true
  | lo, x :: r => decide (lo ≤ x ∧ x ≤ 1000000) && incFrom (x + 1) r
def prevRight (l : List Int) (id : Int) : Bool := decide (l.length ≤ 4) && (incFrom 1 l && !l.contains id)

theorem incr_l0 (l : List Int) (hl : l.length ≤ 9223372036854775806) (d : Nat) : ∀ (i : Nat) (lo : Int), i + d = l.length → 1 ≤ lo →
    (i = 0 ∧ lo = 1 ∨ ∃ h : 0 < i ∧ i ≤ l.length, lo = (l[i - 1]'(by omega)) + 1) →
    Ev (fun k => impl_increasing.l0 k l 1 1000000 l (l.length : Int) (i : Int)) (incFrom lo (l.drop i)) := by
  induction d with
  | zero =>
    intro i lo hi _ _
    refine Ev.one (fun k => ?_)
    simp only [impl_increasing.l0]
    rw [if_neg (by omega), List.drop_of_length_le (by omega)]; rfl
  | succ d ih =>
    intro i lo hi h1 hp
    have hlt : i < l.length := by omega
    rw [drop_cons hlt]
    have hw : wrap64 ((i : Int) + 1) = ((i + 1 : Nat) : Int) := by unfold wrap64; omega
    generalize hx : l[i] = x
    have hx' : rd l (i : Int) = x := by rw [rd_at hlt, hx]
    simp only [incFrom]
    by_cases c1 : 1 ≤ x ∧ x ≤ 1000000
    · by_cases c3 : lo ≤ x
      · rw [show decide (lo ≤ x ∧ x ≤ 1000000) = true from decide_eq_true ⟨c3, c1.2⟩, Bool.true_and]
        refine Ev.step (f := fun k => impl_increasing.l0 k l 1 1000000 l (l.length : Int) ((i + 1 : Nat) : Int)) (fun k => ?_) (ih (i + 1) (x + 1) (by omega) (by omega) (Or.inr ⟨⟨by omega, by omega⟩, by simp only [Nat.add_sub_cancel]; rw [hx]⟩))
        simp only [impl_increasing.l0]
        rw [if_pos (by omega), if_pos (by omega), if_pos (by omega), hx', in_eq, hw]
        simp only [Option.bind_some]
        rw [if_pos (by simpa using c1)]
        rcases hp with ⟨rfl, rfl⟩ | ⟨⟨p1, p2⟩, hlo⟩
        · rw [if_neg (by omega)]
        · have e1 : wrap64 ((i : Int) - 1) = ((i - 1 : Nat) : Int) := by unfold wrap64; omega
          rw [if_pos (by omega), e1, if_pos (by omega), if_pos (by omega), rd_at (by omega), if_neg (by omega)]
      · rw [show decide (lo ≤ x ∧ x ≤ 1000000) = false from decide_eq_false (by omega), Bool.false_and]
        refine Ev.one (fun k => ?_)
        simp only [impl_increasing.l0]
        rw [if_pos (by omega), if_pos (by omega), if_pos (by omega), hx', in_eq]
        simp only [Option.bind_some]
        rw [if_pos (by simpa using c1)]
        rcases hp with ⟨rfl, rfl⟩ | ⟨⟨p1, p2⟩, hlo⟩
        · omega
        · have e1 : wrap64 ((i : Int) - 1) = ((i - 1 : Nat) : Int) := by unfold wrap64; omega
          rw [if_pos (by omega), e1, if_pos (by omega), if_pos (by omega), rd_at (by omega), if_pos (by omega)]
    · rw [show decide (lo ≤ x ∧ x ≤ 1000000) = false from decide_eq_false (by omega), Bool.false_and]
      refine Ev.one (fun k => ?_)
      simp only [impl_increasing.l0]
      rw [if_pos (by omega), if_pos (by omega), if_pos (by omega), hx', in_eq]
      simp only [Option.bind_some]
      rw [if_neg (by simpa using c1)]
theorem incr_ev (l : List Int) (hl : l.length ≤ 9223372036854775806) : Ev (fun k => impl_increasing.f k l 1 1000000) (incFrom 1 l) := by
  unfold impl_increasing.f
  simpa using incr_l0 l hl l.length 0 1 (by omega) (by omega) (Or.inl ⟨rfl, rfl⟩)

theorem index_l0 (l : List Int) (a : Int) (hl : l.length ≤ 9223372036854775806) (d : Nat) : ∀ i : Nat, i + d = l.length →
    ∃ r : Int, Ev (fun k => slices_Index_int64_int64.l0 k l a (l.length : Int) (i : Int)) r ∧ decide (r ≥ 0) = (l.drop i).contains a := by
  induction d with
  | zero =>
    intro i hi
    refine ⟨-1, Ev.one (fun k => ?_), ?_⟩
    · simp only [slices_Index_int64_int64.l0]
      rw [if_neg (by omega)]
    · rw [List.drop_of_length_le (by omega)]; rfl
  | succ d ih =>
    intro i hi
    have hlt : i < l.length := by omega
    rw [drop_cons hlt]
    by_cases c : a = l[i]
    · refine ⟨(i : Int), Ev.one (fun k => ?_), ?_⟩
      · simp only [slices_Index_int64_int64.l0]
        rw [if_pos (by omega), if_pos (by omega), if_pos (by omega), rd_at hlt, if_pos c]
      · rw [decide_eq_true (by omega), List.contains_cons, ← c]; simp
    · obtain ⟨r, hr, hc⟩ := ih (i + 1) (by omega)
      refine ⟨r, Ev.step (f := fun k => slices_Index_int64_int64.l0 k l a (l.length : Int) ((i + 1 : Nat) : Int)) (fun k => ?_) hr, ?_⟩
      · simp only [slices_Index_int64_int64.l0]
        rw [if_pos (by omega), if_pos (by omega), if_pos (by omega), rd_at hlt, if_neg c, w64 (by omega) (by omega)]; rfl
      · rw [hc, List.contains_cons, show (a == l[i]) = false from by simpa using c, Bool.false_or]
theorem contains_ev (l : List Int) (a : Int) (hl : l.length ≤ 9223372036854775806) : Ev (fun k => slices_Contains_int64_int64.f k l a) (l.contains a) := by
  unfold slices_Contains_int64_int64.f slices_Index_int64_int64.f
  obtain ⟨r, hr, hc⟩ := index_l0 l a hl l.length 0 (by omega)
  rw [List.drop_zero] at hc
  exact Ev.bind hr (Ev.to hc (Ev.now _))

theorem prev_l0 (l : List Int) (id : Int) (hl : l.length ≤ 9223372036854775806) (d : Nat) : ∀ (i : Nat) (lo : Int), i + d = l.length → 1 ≤ lo →
    (i = 0 ∧ lo = 1 ∨ ∃ h : 0 < i ∧ i ≤ l.length, lo = (l[i - 1]'(by omega)) + 1) →
    Ev (fun k => spec_l02Prev.l0 k l id (i : Int)) (incFrom lo (l.drop i) && !(l.drop i).contains id) := by
  induction d with
  | zero =>
    intro i lo hi _ _
    refine Ev.one (fun k => ?_)
    simp only [spec_l02Prev.l0]
    rw [if_neg (by omega), List.drop_of_length_le (by omega)]; rfl
  | succ d ih =>
    intro i lo hi h1 hp
    have hlt : i < l.length := by omega
    rw [drop_cons hlt]
    have hw : wrap64 ((i : Int) + 1) = ((i + 1 : Nat) : Int) := by unfold wrap64; omega
    generalize hx : l[i] = x
    have hx' : rd l (i : Int) = x := by rw [rd_at hlt, hx]
    simp only [incFrom, List.contains_cons]
    by_cases c1 : 1 ≤ x ∧ x ≤ 1000000
    · by_cases c2 : x = id
      · rw [show (id == x) = true from by simp [c2], Bool.true_or, Bool.not_true, Bool.and_false]
        refine Ev.one (fun k => ?_)
        simp only [spec_l02Prev.l0]
        rw [if_pos (by omega), if_pos (by omega), hx', l02Id_eq]
        simp only [Option.bind_some]
        rw [if_pos (by simpa using c1), if_pos c2]
      · rw [show (id == x) = false from by simpa using fun h => c2 h.symm, Bool.false_or]
        by_cases c3 : lo ≤ x
        · rw [show decide (lo ≤ x ∧ x ≤ 1000000) = true from decide_eq_true ⟨c3, c1.2⟩, Bool.true_and]
          refine Ev.step (f := fun k => spec_l02Prev.l0 k l id ((i + 1 : Nat) : Int)) (fun k => ?_) (ih (i + 1) (x + 1) (by omega) (by omega) (Or.inr ⟨⟨by omega, by omega⟩, by simp only [Nat.add_sub_cancel]; rw [hx]⟩))
          simp only [spec_l02Prev.l0]
          rw [if_pos (by omega), if_pos (by omega), hx', l02Id_eq, hw]
          simp only [Option.bind_some]
          rw [if_pos (by simpa using c1), if_neg c2]
          rcases hp with ⟨rfl, rfl⟩ | ⟨⟨p1, p2⟩, hlo⟩
          · rw [if_neg (by omega)]
          · have e1 : wrap64 ((i : Int) - 1) = ((i - 1 : Nat) : Int) := by unfold wrap64; omega
            rw [if_pos (by omega), e1, if_pos (by omega), if_pos (by omega), rd_at (by omega), if_neg (by omega)]
        · rw [show decide (lo ≤ x ∧ x ≤ 1000000) = false from decide_eq_false (by omega), Bool.false_and, Bool.false_and]
          refine Ev.one (fun k => ?_)
          simp only [spec_l02Prev.l0]
          rw [if_pos (by omega), if_pos (by omega), hx', l02Id_eq]
          simp only [Option.bind_some]
          rw [if_pos (by simpa using c1), if_neg c2]
          rcases hp with ⟨rfl, rfl⟩ | ⟨⟨p1, p2⟩, hlo⟩
          · omega
          · have e1 : wrap64 ((i : Int) - 1) = ((i - 1 : Nat) : Int) := by unfold wrap64; omega
            rw [if_pos (by omega), e1, if_pos (by omega), if_pos (by omega), rd_at (by omega), if_pos (by omega)]
    · rw [show decide (lo ≤ x ∧ x ≤ 1000000) = false from decide_eq_false (by omega), Bool.false_and, Bool.false_and]
      refine Ev.one (fun k => ?_)
      simp only [spec_l02Prev.l0]
      rw [if_pos (by omega), if_pos (by omega), hx', l02Id_eq]
      simp only [Option.bind_some]
      rw [if_neg (by simpa using c1)]
theorem spec_prev_ev (l : List Int) (id : Int) (hl : l.length ≤ 9223372036854775806) : Ev (fun k => spec_l02Prev.f k l id) (prevRight l id) := by
  unfold spec_l02Prev.f prevRight
  by_cases c : l.length ≤ 4
  · refine Ev.neg (by omega) (Ev.to ?_ (prev_l0 l id hl l.length 0 1 (by omega) (by omega) (Or.inl ⟨rfl, rfl⟩)))
    simp [c]
  · exact Ev.pos (by omega) (Ev.to (by simp [c]) (Ev.now _))

/-- The fields that a kind of event has. -/
def evFields (kind key n : Int) (size : Nat) : Bool :=
  if kind = 1 then decide (key = 0 ∧ n = 0 ∧ size = 0) else
  if kind = 2 then decide ((1 ≤ key ∧ key ≤ 6) ∧ (1 ≤ n ∧ n ≤ 4) ∧ size = 0) else
  if kind = 3 then decide ((1 ≤ key ∧ key ≤ 6) ∧ (0 ≤ n ∧ n ≤ 100) ∧ size = 0) else
  if kind = 4 then decide (key = 0 ∧ n = 0 ∧ size ≤ 30) else
  if kind = 5 then decide (key = 0 ∧ (1 ≤ n ∧ n ≤ 2) ∧ size = 0) else
  if kind = 6 then decide (key = 0 ∧ (1 ≤ n ∧ n ≤ 3) ∧ size = 0) else
  if kind = 7 then decide (key = 0 ∧ n = 0 ∧ 1 ≤ size ∧ size ≤ 30) else
  if kind = 8 then decide ((1 ≤ key ∧ key ≤ 1000000) ∧ n = 0 ∧ size = 0) else false
theorem size_zero_iff (s : ByteArray) : s.toList = [] ↔ s.size = 0 := by
  rw [ByteArray.toList_eq]
  constructor
  · intro h; have := congrArg List.length h; simpa using this
  · intro h; exact List.eq_nil_of_length_eq_zero (by simpa using h)
theorem toList_nil_beq (s : ByteArray) : (s.toList == ([] : List UInt8)) = decide (s.size = 0) := by
  rw [Bool.eq_iff_iff, beq_iff_eq, decide_eq_true_iff, size_zero_iff]
theorem size_beq (s : ByteArray) : ((s.size : Int) == 0) = decide (s.size = 0) := by
  rw [Bool.eq_iff_iff, beq_iff_eq, decide_eq_true_iff]; omega
theorem some_ite {c : Prop} [Decidable c] {A X : Option Bool} {b y : Bool} (h1 : A = some b) (h2 : X = some y) : (if c then A else X) = some (if c then b else y) := by
  split
  · exact h1
  · exact h2
theorem some_and {c d : Prop} [Decidable c] [Decidable d] {A : Option Bool} (h1 : A = some (decide d)) : (if c then A else some false) = some (decide (c ∧ d)) := by
  by_cases h : c
  · rw [if_pos h, h1]; simp [h]
  · rw [if_neg h]; simp [h]
theorem some_andT {c d : Prop} [Decidable c] [Decidable d] {A : Option Bool} (h1 : A = some (decide d)) : (if decide c = true then A else some false) = some (decide (c ∧ d)) := by
  by_cases h : c
  · rw [if_pos (by simpa using h), h1]; simp [h]
  · rw [if_neg (by simpa using h)]; simp [h]
theorem cast30 (s : Nat) : some (decide ((s : Int) ≤ 30)) = some (decide (s ≤ 30)) := by congr 1; rw [decide_eq_decide]; omega
theorem impl_fields (a0 a1 a2 kind key n : Int) (s : ByteArray) (l : List Int) (t : Int) : impl_Event_fieldsRight.f a0 a1 a2 kind key n s l t = some (evFields kind key n s.size) := by
  unfold impl_Event_fieldsRight.f evFields
  simp only [isUser_eq, in_eq, isId_eq, Option.bind_some, size_beq]
  refine some_ite (some_and (some_and rfl)) (some_ite (some_andT (some_andT rfl)) (some_ite (some_andT (some_andT rfl)) (some_ite (some_and (some_and (cast30 _))) (some_ite (some_and (some_andT rfl)) (some_ite (some_and (some_andT rfl)) (some_ite (some_and (some_and ?_)) (some_ite (some_andT (some_and rfl)) rfl)))))))
  congr 1; rw [decide_eq_decide]; omega
theorem spec_fields (a0 a1 a2 kind key n : Int) (s : ByteArray) (l : List Int) (t : Int) : spec_l02Body.f a0 a1 a2 kind key n s l t = some (evFields kind key n s.size) := by
  unfold spec_l02Body.f evFields
  simp only [l02User_eq, is_eq, l02Id_eq, Option.bind_some, toList_nil_beq]
  refine some_ite (some_and (some_and rfl)) (some_ite (some_andT (some_andT rfl)) (some_ite (some_andT (some_andT rfl)) (some_ite (some_and (some_and (cast30 _))) (some_ite (some_and (some_andT rfl)) (some_ite (some_and (some_andT rfl)) (some_ite (some_and (some_and ?_)) (some_ite (some_andT (some_and rfl)) rfl)))))))
  rw [cast30]
  by_cases h : 1 ≤ s.size
  · rw [if_pos (by omega)]; simp [h]
  · rw [if_neg (by omega)]; simp [h]
/-- An event is valid, but for how many Prev it has. -/
def evRight0 (id room author kind key n : Int) (s : ByteArray) (l : List Int) (t : Int) : Bool :=
  decide (1 ≤ id ∧ id ≤ 1000000) && (decide (1 ≤ room ∧ room ≤ 3) && (decide (1 ≤ author ∧ author ≤ 6) && (decide (0 ≤ t ∧ t ≤ 1000000) && (prevRight l id && evFields kind key n s.size))))
def evRight (id room author kind key n : Int) (s : ByteArray) (l : List Int) (t : Int) : Bool := evRight0 id room author kind key n s l t && (decide (kind = 1) == decide (l.length = 0))
theorem Ev.ifb {c : Bool} {f : Nat → Option Bool} {r : Bool} (h : Ev f r) : Ev (fun n => if c = true then f n else some false) (c && r) := by
  cases c
  · exact Ev.neg (by simp) (Ev.now _)
  · exact Ev.pos rfl h
theorem Ev.ifnb {c : Bool} {f : Nat → Option Bool} {r : Bool} (h : Ev f r) : Ev (fun n => if c = true then some false else f n) (!c && r) := by
  cases c
  · exact Ev.neg (by simp) h
  · exact Ev.pos rfl (Ev.now _)
theorem impl_right_ev (id room author kind key n : Int) (s : ByteArray) (l : List Int) (t : Int) (hl : l.length ≤ 9223372036854775806) : Ev (fun k => impl_Event_right.f k id room author kind key n s l t) (evRight0 id room author kind key n s l t) := by
  unfold impl_Event_right.f evRight0
  refine Ev.take (isId_eq _) (Ev.ifb (Ev.take (isRoom_eq _) (Ev.ifb (Ev.take (isUser_eq _) (Ev.ifb (Ev.take (isTime_eq _) (Ev.ifb ?_)))))))
  unfold prevRight
  by_cases c : l.length ≤ 4
  · refine Ev.pos (by omega) (Ev.to ?_ (Ev.bind (incr_ev l hl) (Ev.ifb (Ev.bind (contains_ev l id hl) (Ev.ifnb (Ev.take (impl_fields _ _ _ _ _ _ _ _ _) (Ev.now _)))))))
    simp [c, Bool.and_assoc]
  · exact Ev.neg (by omega) (Ev.to (by simp [c]) (Ev.now _))
theorem createB (kind : Int) (l : List Int) : ((kind == 1) == ((l.length : Int) == 0)) = (decide (kind = 1) == decide (l.length = 0)) := by
  have e1 : (kind == 1) = decide (kind = 1) := by rw [Bool.eq_iff_iff, beq_iff_eq, decide_eq_true_iff]
  have e2 : ((l.length : Int) == 0) = decide (l.length = 0) := by rw [Bool.eq_iff_iff, beq_iff_eq, decide_eq_true_iff]; omega
  rw [e1, e2]
theorem impl_EventRight_ev (id room author kind key n : Int) (s : ByteArray) (l : List Int) (t : Int) (hl : l.length ≤ 9223372036854775806) : Ev (fun k => impl_EventRight.f k id room author kind key n s l t) (evRight id room author kind key n s l t) := by
  unfold impl_EventRight.f evRight
  rw [← createB]
  exact Ev.bind (impl_right_ev id room author kind key n s l t hl) (Ev.ifb (Ev.now _))
theorem spec_EventRight_ev (id room author kind key n : Int) (s : ByteArray) (l : List Int) (t : Int) (hl : l.length ≤ 9223372036854775806) : Ev (fun k => spec_EventRight.f k id room author kind key n s l t) (evRight id room author kind key n s l t) := by
  unfold spec_EventRight.f evRight evRight0
  rw [← createB]
  refine Ev.to ?_ (Ev.take (l02Id_eq _) (Ev.ifb (Ev.take (is_eq _ _ _) (Ev.ifb (Ev.take (l02User_eq _) (Ev.ifb (Ev.take (l02Time_eq _) (Ev.ifb (Ev.bind (spec_prev_ev l id hl) (Ev.ifb (Ev.ifb (Ev.take (spec_fields _ _ _ _ _ _ _ _ _) (Ev.now _)))))))))))))
  simp only [Bool.and_assoc, Bool.and_comm (evFields kind key n s.size)]
theorem evRight_kind {id room author kind key n : Int} {s : ByteArray} {l : List Int} {t : Int} (h : evRight id room author kind key n s l t = true) : 1 ≤ kind ∧ kind ≤ 8 := by
  unfold evRight evRight0 at h
  simp only [Bool.and_eq_true] at h
  have h2 := h.1.2.2.2.2.2
  unfold evFields at h2
  repeat' split at h2
  all_goals first | omega | simp at h2
/-! ### the laws' helpers on one event -/
theorem szEvent_eq (a0 a1 a2 a3 a4 a5 : Int) (s : ByteArray) (l : List Int) (a8 : Int) (a : Int) (ha : -1 ≤ a) (h : a ≤ 1048576) (hs : s.size ≤ 9223372036854775807) (hn : l.length ≤ 9223372036854775807) :
    laws_szEvent.f a0 a1 a2 a3 a4 a5 s l a8 a = some (if a < s.size + l.length then -1 else a - s.size - l.length) := by
  unfold laws_szEvent.f
  rw [w64 (by omega) (by omega)]
  by_cases c : a < s.size
  · rw [if_pos (by omega), if_pos (by omega)]
  · rw [if_neg (by omega), szInt64S_eq l _ (by omega) (by omega) hn]
    simp only [Option.bind_some]
    by_cases c2 : a - s.size < l.length
    · rw [if_pos c2, if_pos (by omega), if_pos (by omega)]
    · rw [if_neg c2, if_neg (by omega), if_neg (by omega)]
theorem toEvent_ev (a0 a1 a2 a3 a4 a5 : Int) (s : ByteArray) (l : List Int) (a8 : Int) (hl : l.length ≤ 1048576) : Ev (fun k => laws_toEvent.f k a0 a1 a2 a3 a4 a5 s l a8) (a0, a1, a2, a3, a4, a5, s, l, a8) := by
  unfold laws_toEvent.f
  exact Ev.bind (toInt64S_ev l hl) (Ev.now _)
theorem eqEvent_ev (a0 a1 a2 a3 a4 a5 : Int) (s : ByteArray) (l : List Int) (a8 : Int) (hl : l.length ≤ 9223372036854775806) : Ev (fun k => laws_eqEvent.f k a0 a1 a2 a3 a4 a5 s l a8 a0 a1 a2 a3 a4 a5 s l a8) true := by
  unfold laws_eqEvent.f
  exact Ev.pos rfl (Ev.pos rfl (Ev.pos rfl (Ev.pos rfl (Ev.pos rfl (Ev.pos rfl (Ev.pos rfl (Ev.bind (eqInt64S_ev l hl) (Ev.pos rfl (Ev.pos rfl (Ev.now _))))))))))


end Go.Proofs.Ytjijknajgamdaaa.Print
