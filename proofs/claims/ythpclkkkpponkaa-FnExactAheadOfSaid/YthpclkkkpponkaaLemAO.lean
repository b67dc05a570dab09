/- Lemmas: graphs. -/
import Derived.Test.YthpclkkkpponkaaStFnExactAheadOf
import Derived.Laws.Bits64
namespace Go.Proofs.Ythpclkkkpponkaa.Print
open Go.RowKit Go.Proofs.YthpclkkkpponkaaW.PrintWords Go.Proofs.YthpclkkkpponkaaW.PrintLast Go.Proofs.YthpclkkkpponkaaW.PrintMore
set_option linter.unusedVariables false
set_option linter.unusedSimpArgs false

/-! Rounds: small helpers. -/
theorem Ev.pos {α : Type} {c : Prop} [Decidable c] {f g : Nat → Option α} {r : α} (hc : c) (h : Ev f r) : Ev (fun n => if c then f n else g n) r := by
  simp only [hc, if_true]; exact h
theorem Ev.neg {α : Type} {c : Prop} [Decidable c] {f g : Nat → Option α} {r : α} (hc : ¬ c) (h : Ev g r) : Ev (fun n => if c then f n else g n) r := by
  simp only [hc, if_false]; exact h
theorem Ev.here {α : Type} {o : Option α} {r : α} (h : o = some r) : Ev (fun _ => o) r := ⟨0, fun _ _ => h⟩
theorem Ev.take {α β : Type} {o : Option α} {f : Nat → α → Option β} {a : α} {r : β} (h : o = some a) (k : Ev (fun n => f n a) r) : Ev (fun n => o.bind (f n)) r := by
  subst h; exact k
theorem Ev.one {α : Type} {g : Nat → Option α} {r : α} (h : ∀ k, g (k + 1) = some r) : Ev g r := Ev.step (f := fun _ => some r) h (Ev.now r)
theorem Ev.to {α : Type} {g : Nat → Option α} {r q : α} (e : r = q) (h : Ev g r) : Ev g q := e ▸ h

/-! Lists of structs, read one by one. -/
theorem w64 {n : Int} (h0 : -9223372036854775808 ≤ n) (h1 : n ≤ 9223372036854775807) : wrap64 n = n := by unfold wrap64; omega
theorem drop_cons {α : Type} {l : List α} {i : Nat} (h : i < l.length) : l.drop i = l[i] :: l.drop (i + 1) := List.drop_eq_getElem_cons h
theorem getD_at {α : Type} {l : List α} {i : Nat} (d : α) (h : i < l.length) : l.getD ((i : Int)).toNat d = l[i] := by
  rw [Int.toNat_natCast, List.getD_eq_getElem?_getD, List.getElem?_eq_getElem h]; rfl

/-! Ranges. -/
theorem in_eq (a b c : Int) : impl_in.f a b c = some (decide (b ≤ a ∧ a ≤ c)) := by
  unfold impl_in.f; split <;> simp [*]
theorem is_eq (a b c : Int) : spec_l02Is.f a b c = some (decide (b ≤ a ∧ a ≤ c)) := by
  unfold spec_l02Is.f
  by_cases h : b ≤ a
  · rw [if_pos h]; simp [h]
  · rw [if_neg h]; simp [h]

theorem isId_eq (a : Int) : impl_isId.f a = some (decide (1 ≤ a ∧ a ≤ 1000000)) := by unfold impl_isId.f; rw [in_eq]; rfl

theorem l02Id_eq (a : Int) : spec_l02Id.f a = some (decide (1 ≤ a ∧ a ≤ 1000000)) := by unfold spec_l02Id.f; rw [is_eq]; rfl

/-! The laws' helpers on lists of numbers. -/
theorem rd_at {l : List Int} {i : Nat} (h : i < l.length) : rd l (i : Int) = l[i] := getD_at _ h
theorem szInt64S_eq (l : List Int) (a : Int) (ha : -1 ≤ a) (h : a ≤ 1048576) (hn : l.length ≤ 9223372036854775807) : laws_szInt64S.f l a = some (if a < l.length then -1 else a - l.length) := by
  unfold laws_szInt64S.f
  rw [w64 (by omega) (by omega)]
  by_cases c : a < l.length
  · rw [if_pos (by omega), if_pos c]
  · rw [if_neg (by omega), if_neg c]
theorem toInt64S_l0 (l : List Int) (hl : l.length ≤ 1048576) (d : Nat) : ∀ (i : Nat) (acc : List Int), i + d = l.length → acc.length = l.length → acc.take i = l.take i →
    Ev (fun k => laws_toInt64S.l0 k l acc (i : Int)) l := by
  induction d with
  | zero =>
    intro i acc hi ha hp
    refine Ev.to ?_ (Ev.one (r := acc) (fun k => ?_))
    · rw [List.take_of_length_le (by omega), List.take_of_length_le (by omega)] at hp
      exact hp
    · simp only [laws_toInt64S.l0]
      rw [if_neg (by omega)]
  | succ d ih =>
    intro i acc hi ha hp
    have hlt : i < l.length := by omega
    refine Ev.step (f := fun k => laws_toInt64S.l0 k l (acc.set i l[i]) ((i + 1 : Nat) : Int)) (fun k => ?_) (ih (i + 1) (acc.set i l[i]) (by omega) (by simpa using ha) ?_)
    · simp only [laws_toInt64S.l0]
      rw [if_pos (by omega), if_pos (by omega), if_pos (by omega), rd_at hlt, w64 (by omega) (by omega), Int.toNat_natCast]
      rfl
    · rw [List.take_succ_eq_append_getElem (by simp; omega), List.take_succ_eq_append_getElem hlt, ← hp, List.take_set_of_le (by omega)]
      simp
theorem toInt64S_ev (l : List Int) (hl : l.length ≤ 1048576) : Ev (fun k => laws_toInt64S.f k l) l := by
  unfold laws_toInt64S.f
  refine Ev.pos (by omega) (Ev.pos (by simp; omega) ?_)
  exact toInt64S_l0 l hl l.length 0 _ (by omega) (by simp) (by simp)
theorem eqInt64S_l0 (l : List Int) (hl : l.length ≤ 9223372036854775806) (d : Nat) : ∀ i : Nat, i + d = l.length → Ev (fun k => laws_eqInt64S.l0 k l l (i : Int)) true := by
  induction d with
  | zero =>
    intro i hi
    refine Ev.one (fun k => ?_)
    simp only [laws_eqInt64S.l0]
    rw [if_neg (by omega)]
  | succ d ih =>
    intro i hi
    refine Ev.step (f := fun k => laws_eqInt64S.l0 k l l ((i + 1 : Nat) : Int)) (fun k => ?_) (ih (i + 1) (by omega))
    simp only [laws_eqInt64S.l0]
    rw [if_pos (by omega), if_pos (by omega), if_pos (by omega), if_pos (by trivial), w64 (by omega) (by omega)]; rfl
theorem eqInt64S_ev (l : List Int) (hl : l.length ≤ 9223372036854775806) : Ev (fun k => laws_eqInt64S.f k l l) true := by
  unfold laws_eqInt64S.f
  exact Ev.pos rfl (eqInt64S_l0 l hl l.length 0 (by omega))

/-! Valid events. -/
theorem isUser_eq (a : Int) : impl_isUser.f a = some (decide (1 ≤ a ∧ a ≤ 6)) := by unfold impl_isUser.f; rw [in_eq]; rfl
theorem l02User_eq (a : Int) : spec_l02User.f a = some (decide (1 ≤ a ∧ a ≤ 6)) := by unfold spec_l02User.f; rw [is_eq]; rfl
theorem isRoom_eq (a : Int) : impl_isRoom.f a = some (decide (1 ≤ a ∧ a ≤ 3)) := by unfold impl_isRoom.f; rw [in_eq]; rfl
theorem isTime_eq (a : Int) : impl_isTime.f a = some (decide (0 ≤ a ∧ a ≤ 1000000)) := by unfold impl_isTime.f; rw [in_eq]; rfl
theorem l02Time_eq (a : Int) : spec_l02Time.f a = some (decide (0 ≤ a ∧ a ≤ 1000000)) := by unfold spec_l02Time.f; rw [is_eq]; rfl
def incFrom : Int → List Int → Bool
  | _, [] => true
  | lo, x :: r => decide (lo ≤ x ∧ x ≤ 1000000) && incFrom (x + 1) r
def prevRight (l : List Int) (id : Int) : Bool := decide (l.length ≤ 4) && (incFrom 1 l && !l.contains id)

theorem incr_l0 (l : List Int) (hl : l.length ≤ 9223372036854775806) (d : Nat) : ∀ (i : Nat) (lo : Int), i + d = l.length → 1 ≤ lo →
    (i = 0 ∧ lo = 1 ∨ ∃ h : 0 < i ∧ i ≤ l.length, lo = (l[i - 1]'(by omega)) + 1) →
    Ev (fun k => impl_increasing.l0 k l 1 1000000 l (l.length : Int) (i : Int)) (incFrom lo (l.drop i)) := by
  induction d with
  | zero =>
    intro i lo hi _ _
    refine Ev.one (fun k => ?_)
    simp only [impl_increasing.l0]
    rw [if_neg (by omega), List.drop_of_length_le (by omega)]; rfl
  | succ d ih =>
    intro i lo hi h1 hp
    have hlt : i < l.length := by omega
    rw [drop_cons hlt]
    have hw : wrap64 ((i : Int) + 1) = ((i + 1 : Nat) : Int) := by unfold wrap64; omega
    generalize hx : l[i] = x
    have hx' : rd l (i : Int) = x := by rw [rd_at hlt, hx]
    simp only [incFrom]
    by_cases c1 : 1 ≤ x ∧ x ≤ 1000000
    · by_cases c3 : lo ≤ x
      · rw [show decide (lo ≤ x ∧ x ≤ 1000000) = true from decide_eq_true ⟨c3, c1.2⟩, Bool.true_and]
        refine Ev.step (f := fun k => impl_increasing.l0 k l 1 1000000 l (l.length : Int) ((i + 1 : Nat) : Int)) (fun k => ?_) (ih (i + 1) (x + 1) (by omega) (by omega) (Or.inr ⟨⟨by omega, by omega⟩, by simp only [Nat.add_sub_cancel]; rw [hx]⟩))
        simp only [impl_increasing.l0]
        rw [if_pos (by omega), if_pos (by omega), if_pos (by omega), hx', in_eq, hw]
        simp only [Option.bind_some]
        rw [if_pos (by simpa using c1)]
        rcases hp with ⟨rfl, rfl⟩ | ⟨⟨p1, p2⟩, hlo⟩
        · rw [if_neg (by omega)]
        · have e1 : wrap64 ((i : Int) - 1) = ((i - 1 : Nat) : Int) := by unfold wrap64; omega
          rw [if_pos (by omega), e1, if_pos (by omega), if_pos (by omega), rd_at (by omega), if_neg (by omega)]
      · rw [show decide (lo ≤ x ∧ x ≤ 1000000) = false from decide_eq_false (by omega), Bool.false_and]
        refine Ev.one (fun k => ?_)
        simp only [impl_increasing.l0]
        rw [if_pos (by omega), if_pos (by omega), if_pos (by omega), hx', in_eq]
        simp only [Option.bind_some]
        rw [if_pos (by simpa using c1)]
        rcases hp with ⟨rfl, rfl⟩ | ⟨⟨p1, p2⟩, hlo⟩
        · omega
        · have e1 : wrap64 ((i : Int) - 1) = ((i - 1 : Nat) : Int) := by unfold wrap64; omega
          rw [if_pos (by omega), e1, if_pos (by omega), if_pos (by omega), rd_at (by omega), if_pos (by omega)]
    · rw [show decide (lo ≤ x ∧ x ≤ 1000000) = false from decide_eq_false (by omega), Bool.false_and]
      refine Ev.one (fun k => ?_)
      simp only [impl_increasing.l0]
      rw [if_pos (by omega), if_pos (by omega), if_pos (by omega), hx', in_eq]
      simp only [Option.bind_some]
      rw [if_neg (by simpa using c1)]
theorem incr_ev (l : List Int) (hl : l.length ≤ 9223372036854775806) : Ev (fun k => impl_increasing.f k l 1 1000000) (incFrom 1 l) := by
  unfold impl_increasing.f
  simpa using incr_l0 l hl l.length 0 1 (by omega) (by omega) (Or.inl ⟨rfl, rfl⟩)

theorem index_l0 (l : List Int) (a : Int) (hl : l.length ≤ 9223372036854775806) (d : Nat) : ∀ i : Nat, i + d = l.length →
    ∃ r : Int, Ev (fun k => slices_Index_int64_int64.l0 k l a (l.length : Int) (i : Int)) r ∧ decide (r ≥ 0) = (l.drop i).contains a := by
  induction d with
  | zero =>
    intro i hi
    refine ⟨-1, Ev.one (fun k => ?_), ?_⟩
    · simp only [slices_Index_int64_int64.l0]
      rw [if_neg (by omega)]
    · rw [List.drop_of_length_le (by omega)]; rfl
  | succ d ih =>
    intro i hi
    have hlt : i < l.length := by omega
    rw [drop_cons hlt]
    by_cases c : a = l[i]
    · refine ⟨(i : Int), Ev.one (fun k => ?_), ?_⟩
      · simp only [slices_Index_int64_int64.l0]
        rw [if_pos (by omega), if_pos (by omega), if_pos (by omega), rd_at hlt, if_pos c]
      · rw [decide_eq_true (by omega), List.contains_cons, ← c]; simp
    · obtain ⟨r, hr, hc⟩ := ih (i + 1) (by omega)
      refine ⟨r, Ev.step (f := fun k => slices_Index_int64_int64.l0 k l a (l.length : Int) ((i + 1 : Nat) : Int)) (fun k => ?_) hr, ?_⟩
      · simp only [slices_Index_int64_int64.l0]
        rw [if_pos (by omega), if_pos (by omega), if_pos (by omega), rd_at hlt, if_neg c, w64 (by omega) (by omega)]; rfl
      · rw [hc, List.contains_cons, show (a == l[i]) = false from by simpa using c, Bool.false_or]
theorem contains_ev (l : List Int) (a : Int) (hl : l.length ≤ 9223372036854775806) : Ev (fun k => slices_Contains_int64_int64.f k l a) (l.contains a) := by
  unfold slices_Contains_int64_int64.f slices_Index_int64_int64.f
  obtain ⟨r, hr, hc⟩ := index_l0 l a hl l.length 0 (by omega)
  rw [List.drop_zero] at hc
  exact Ev.bind hr (Ev.to hc (Ev.now _))

theorem prev_l0 (l : List Int) (id : Int) (hl : l.length ≤ 9223372036854775806) (d : Nat) : ∀ (i : Nat) (lo : Int), i + d = l.length → 1 ≤ lo →
    (i = 0 ∧ lo = 1 ∨ ∃ h : 0 < i ∧ i ≤ l.length, lo = (l[i - 1]'(by omega)) + 1) →
    Ev (fun k => spec_l02Prev.l0 k l id (i : Int)) (incFrom lo (l.drop i) && !(l.drop i).contains id) := by
  induction d with
  | zero =>
    intro i lo hi _ _
    refine Ev.one (fun k => ?_)
    simp only [spec_l02Prev.l0]
    rw [if_neg (by omega), List.drop_of_length_le (by omega)]; rfl
  | succ d ih =>
    intro i lo hi h1 hp
    have hlt : i < l.length := by omega
    rw [drop_cons hlt]
    have hw : wrap64 ((i : Int) + 1) = ((i + 1 : Nat) : Int) := by unfold wrap64; omega
    generalize hx : l[i] = x
    have hx' : rd l (i : Int) = x := by rw [rd_at hlt, hx]
    simp only [incFrom, List.contains_cons]
    by_cases c1 : 1 ≤ x ∧ x ≤ 1000000
    · by_cases c2 : x = id
      · rw [show (id == x) = true from by simp [c2], Bool.true_or, Bool.not_true, Bool.and_false]
        refine Ev.one (fun k => ?_)
        simp only [spec_l02Prev.l0]
        rw [if_pos (by omega), if_pos (by omega), hx', l02Id_eq]
        simp only [Option.bind_some]
        rw [if_pos (by simpa using c1), if_pos c2]
      · rw [show (id == x) = false from by simpa using fun h => c2 h.symm, Bool.false_or]
        by_cases c3 : lo ≤ x
        · rw [show decide (lo ≤ x ∧ x ≤ 1000000) = true from decide_eq_true ⟨c3, c1.2⟩, Bool.true_and]
          refine Ev.step (f := fun k => spec_l02Prev.l0 k l id ((i + 1 : Nat) : Int)) (fun k => ?_) (ih (i + 1) (x + 1) (by omega) (by omega) (Or.inr ⟨⟨by omega, by omega⟩, by simp only [Nat.add_sub_cancel]; rw [hx]⟩))
          simp only [spec_l02Prev.l0]
          rw [if_pos (by omega), if_pos (by omega), hx', l02Id_eq, hw]
          simp only [Option.bind_some]
          rw [if_pos (by simpa using c1), if_neg c2]
          rcases hp with ⟨rfl, rfl⟩ | ⟨⟨p1, p2⟩, hlo⟩
          · rw [if_neg (by omega)]
          · have e1 : wrap64 ((i : Int) - 1) = ((i - 1 : Nat) : Int) := by unfold wrap64; omega
            rw [if_pos (by omega), e1, if_pos (by omega), if_pos (by omega), rd_at (by omega), if_neg (by omega)]
        · rw [show decide (lo ≤ x ∧ x ≤ 1000000) = false from decide_eq_false (by omega), Bool.false_and, Bool.false_and]
          refine Ev.one (fun k => ?_)
          simp only [spec_l02Prev.l0]
          rw [if_pos (by omega), if_pos (by omega), hx', l02Id_eq]
          simp only [Option.bind_some]
          rw [if_pos (by simpa using c1), if_neg c2]
          rcases hp with ⟨rfl, rfl⟩ | ⟨⟨p1, p2⟩, hlo⟩
          · omega
          · have e1 : wrap64 ((i : Int) - 1) = ((i - 1 : Nat) : Int) := by unfold wrap64; omega
            rw [if_pos (by omega), e1, if_pos (by omega), if_pos (by omega), rd_at (by omega), if_pos (by omega)]
    · rw [show decide (lo ≤ x ∧ x ≤ 1000000) = false from decide_eq_false (by omega), Bool.false_and, Bool.false_and]
      refine Ev.one (fun k => ?_)
      simp only [spec_l02Prev.l0]
      rw [if_pos (by omega), if_pos (by omega), hx', l02Id_eq]
      simp only [Option.bind_some]
      rw [if_neg (by simpa using c1)]
theorem spec_prev_ev (l : List Int) (id : Int) (hl : l.length ≤ 9223372036854775806) : Ev (fun k => spec_l02Prev.f k l id) (prevRight l id) := by
  unfold spec_l02Prev.f prevRight
  by_cases c : l.length ≤ 4
  · refine Ev.neg (by omega) (Ev.to ?_ (prev_l0 l id hl l.length 0 1 (by omega) (by omega) (Or.inl ⟨rfl, rfl⟩)))
    simp [c]
  · exact Ev.pos (by omega) (Ev.to (by simp [c]) (Ev.now _))

/-- The fields that a kind of event has. -/
def evFields (kind key n : Int) (size : Nat) : Bool :=
  if kind = 1 then decide (key = 0 ∧ n = 0 ∧ size = 0) else
  if kind = 2 then decide ((1 ≤ key ∧ key ≤ 6) ∧ (1 ≤ n ∧ n ≤ 4) ∧ size = 0) else
  if kind = 3 then decide ((1 ≤ key ∧ key ≤ 6) ∧ (0 ≤ n ∧ n ≤ 100) ∧ size = 0) else
  if kind = 4 then decide (key = 0 ∧ n = 0 ∧ size ≤ 30) else
  if kind = 5 then decide (key = 0 ∧ (1 ≤ n ∧ n ≤ 2) ∧ size = 0) else
  if kind = 6 then decide (key = 0 ∧ (1 ≤ n ∧ n ≤ 3) ∧ size = 0) else
  if kind = 7 then decide (key = 0 ∧ n = 0 ∧ 1 ≤ size ∧ size ≤ 30) else
  if kind = 8 then decide ((1 ≤ key ∧ key ≤ 1000000) ∧ n = 0 ∧ size = 0) else false
theorem size_zero_iff (s : ByteArray) : s.toList = [] ↔ s.size = 0 := by
  rw [ByteArray.toList_eq]
  constructor
  · intro h; have := congrArg List.length h; simpa using this
  · intro h; exact List.eq_nil_of_length_eq_zero (by simpa using h)
theorem toList_nil_beq (s : ByteArray) : (s.toList == ([] : List UInt8)) = decide (s.size = 0) := by
  rw [Bool.eq_iff_iff, beq_iff_eq, decide_eq_true_iff, size_zero_iff]
theorem size_beq (s : ByteArray) : ((s.size : Int) == 0) = decide (s.size = 0) := by
  rw [Bool.eq_iff_iff, beq_iff_eq, decide_eq_true_iff]; omega
theorem some_ite {c : Prop} [Decidable c] {A X : Option Bool} {b y : Bool} (h1 : A = some b) (h2 : X = some y) : (if c then A else X) = some (if c then b else y) := by
  split
  · exact h1
  · exact h2
theorem some_and {c d : Prop} [Decidable c] [Decidable d] {A : Option Bool} (h1 : A = some (decide d)) : (if c then A else some false) = some (decide (c ∧ d)) := by
  by_cases h : c
  · rw [if_pos h, h1]; simp [h]
  · rw [if_neg h]; simp [h]
theorem some_andT {c d : Prop} [Decidable c] [Decidable d] {A : Option Bool} (h1 : A = some (decide d)) : (if decide c = true then A else some false) = some (decide (c ∧ d)) := by
  by_cases h : c
  · rw [if_pos (by simpa using h), h1]; simp [h]
  · rw [if_neg (by simpa using h)]; simp [h]
theorem cast30 (s : Nat) : some (decide ((s : Int) ≤ 30)) = some (decide (s ≤ 30)) := by congr 1; rw [decide_eq_decide]; omega
theorem impl_fields (a0 a1 a2 kind key n : Int) (s : ByteArray) (l : List Int) (t : Int) : impl_Event_fieldsRight.f a0 a1 a2 kind key n s l t = some (evFields kind key n s.size) := by
  unfold impl_Event_fieldsRight.f evFields
  simp only [isUser_eq, in_eq, isId_eq, Option.bind_some, size_beq]
  refine some_ite (some_and (some_and rfl)) (some_ite (some_andT (some_andT rfl)) (some_ite (some_andT (some_andT rfl)) (some_ite (some_and (some_and (cast30 _))) (some_ite (some_and (some_andT rfl)) (some_ite (some_and (some_andT rfl)) (some_ite (some_and (some_and ?_)) (some_ite (some_andT (some_and rfl)) rfl)))))))
  congr 1; rw [decide_eq_decide]; omega
theorem spec_fields (a0 a1 a2 kind key n : Int) (s : ByteArray) (l : List Int) (t : Int) : spec_l02Body.f a0 a1 a2 kind key n s l t = some (evFields kind key n s.size) := by
  unfold spec_l02Body.f evFields
  simp only [l02User_eq, is_eq, l02Id_eq, Option.bind_some, toList_nil_beq]
  refine some_ite (some_and (some_and rfl)) (some_ite (some_andT (some_andT rfl)) (some_ite (some_andT (some_andT rfl)) (some_ite (some_and (some_and (cast30 _))) (some_ite (some_and (some_andT rfl)) (some_ite (some_and (some_andT rfl)) (some_ite (some_and (some_and ?_)) (some_ite (some_andT (some_and rfl)) rfl)))))))
  rw [cast30]
  by_cases h : 1 ≤ s.size
  · rw [if_pos (by omega)]; simp [h]
  · rw [if_neg (by omega)]; simp [h]
/-- An event is valid, but for how many Prev it has. -/
def evRight0 (id room author kind key n : Int) (s : ByteArray) (l : List Int) (t : Int) : Bool :=
  decide (1 ≤ id ∧ id ≤ 1000000) && (decide (1 ≤ room ∧ room ≤ 3) && (decide (1 ≤ author ∧ author ≤ 6) && (decide (0 ≤ t ∧ t ≤ 1000000) && (prevRight l id && evFields kind key n s.size))))
def evRight (id room author kind key n : Int) (s : ByteArray) (l : List Int) (t : Int) : Bool := evRight0 id room author kind key n s l t && (decide (kind = 1) == decide (l.length = 0))
theorem Ev.ifb {c : Bool} {f : Nat → Option Bool} {r : Bool} (h : Ev f r) : Ev (fun n => if c = true then f n else some false) (c && r) := by
  cases c
  · exact Ev.neg (by simp) (Ev.now _)
  · exact Ev.pos rfl h
theorem Ev.ifnb {c : Bool} {f : Nat → Option Bool} {r : Bool} (h : Ev f r) : Ev (fun n => if c = true then some false else f n) (!c && r) := by
  cases c
  · exact Ev.neg (by simp) h
  · exact Ev.pos rfl (Ev.now _)
theorem impl_right_ev (id room author kind key n : Int) (s : ByteArray) (l : List Int) (t : Int) (hl : l.length ≤ 9223372036854775806) : Ev (fun k => impl_Event_right.f k id room author kind key n s l t) (evRight0 id room author kind key n s l t) := by
  unfold impl_Event_right.f evRight0
  refine Ev.take (isId_eq _) (Ev.ifb (Ev.take (isRoom_eq _) (Ev.ifb (Ev.take (isUser_eq _) (Ev.ifb (Ev.take (isTime_eq _) (Ev.ifb ?_)))))))
  unfold prevRight
  by_cases c : l.length ≤ 4
  · refine Ev.pos (by omega) (Ev.to ?_ (Ev.bind (incr_ev l hl) (Ev.ifb (Ev.bind (contains_ev l id hl) (Ev.ifnb (Ev.take (impl_fields _ _ _ _ _ _ _ _ _) (Ev.now _)))))))
    simp [c, Bool.and_assoc]
  · exact Ev.neg (by omega) (Ev.to (by simp [c]) (Ev.now _))
theorem createB (kind : Int) (l : List Int) : ((kind == 1) == ((l.length : Int) == 0)) = (decide (kind = 1) == decide (l.length = 0)) := by
  have e1 : (kind == 1) = decide (kind = 1) := by rw [Bool.eq_iff_iff, beq_iff_eq, decide_eq_true_iff]
  have e2 : ((l.length : Int) == 0) = decide (l.length = 0) := by rw [Bool.eq_iff_iff, beq_iff_eq, decide_eq_true_iff]; omega
  rw [e1, e2]
theorem impl_EventRight_ev (id room author kind key n : Int) (s : ByteArray) (l : List Int) (t : Int) (hl : l.length ≤ 9223372036854775806) : Ev (fun k => impl_EventRight.f k id room author kind key n s l t) (evRight id room author kind key n s l t) := by
  unfold impl_EventRight.f evRight
  rw [← createB]
  exact Ev.bind (impl_right_ev id room author kind key n s l t hl) (Ev.ifb (Ev.now _))
theorem spec_EventRight_ev (id room author kind key n : Int) (s : ByteArray) (l : List Int) (t : Int) (hl : l.length ≤ 9223372036854775806) : Ev (fun k => spec_EventRight.f k id room author kind key n s l t) (evRight id room author kind key n s l t) := by
  unfold spec_EventRight.f evRight evRight0
  rw [← createB]
  refine Ev.to ?_ (Ev.take (l02Id_eq _) (Ev.ifb (Ev.take (is_eq _ _ _) (Ev.ifb (Ev.take (l02User_eq _) (Ev.ifb (Ev.take (l02Time_eq _) (Ev.ifb (Ev.bind (spec_prev_ev l id hl) (Ev.ifb (Ev.ifb (Ev.take (spec_fields _ _ _ _ _ _ _ _ _) (Ev.now _)))))))))))))
  simp only [Bool.and_assoc, Bool.and_comm (evFields kind key n s.size)]
theorem evRight_kind {id room author kind key n : Int} {s : ByteArray} {l : List Int} {t : Int} (h : evRight id room author kind key n s l t = true) : 1 ≤ kind ∧ kind ≤ 8 := by
  unfold evRight evRight0 at h
  simp only [Bool.and_eq_true] at h
  have h2 := h.1.2.2.2.2.2
  unfold evFields at h2
  repeat' split at h2
  all_goals first | omega | simp at h2
/-! ### the laws' helpers on one event -/
theorem szEvent_eq (a0 a1 a2 a3 a4 a5 : Int) (s : ByteArray) (l : List Int) (a8 : Int) (a : Int) (ha : -1 ≤ a) (h : a ≤ 1048576) (hs : s.size ≤ 9223372036854775807) (hn : l.length ≤ 9223372036854775807) :
    laws_szEvent.f a0 a1 a2 a3 a4 a5 s l a8 a = some (if a < s.size + l.length then -1 else a - s.size - l.length) := by
  unfold laws_szEvent.f
  rw [w64 (by omega) (by omega)]
  by_cases c : a < s.size
  · rw [if_pos (by omega), if_pos (by omega)]
  · rw [if_neg (by omega), szInt64S_eq l _ (by omega) (by omega) hn]
    simp only [Option.bind_some]
    by_cases c2 : a - s.size < l.length
    · rw [if_pos c2, if_pos (by omega), if_pos (by omega)]
    · rw [if_neg c2, if_neg (by omega), if_neg (by omega)]
theorem toEvent_ev (a0 a1 a2 a3 a4 a5 : Int) (s : ByteArray) (l : List Int) (a8 : Int) (hl : l.length ≤ 1048576) : Ev (fun k => laws_toEvent.f k a0 a1 a2 a3 a4 a5 s l a8) (a0, a1, a2, a3, a4, a5, s, l, a8) := by
  unfold laws_toEvent.f
  exact Ev.bind (toInt64S_ev l hl) (Ev.now _)
theorem eqEvent_ev (a0 a1 a2 a3 a4 a5 : Int) (s : ByteArray) (l : List Int) (a8 : Int) (hl : l.length ≤ 9223372036854775806) : Ev (fun k => laws_eqEvent.f k a0 a1 a2 a3 a4 a5 s l a8 a0 a1 a2 a3 a4 a5 s l a8) true := by
  unfold laws_eqEvent.f
  exact Ev.pos rfl (Ev.pos rfl (Ev.pos rfl (Ev.pos rfl (Ev.pos rfl (Ev.pos rfl (Ev.pos rfl (Ev.bind (eqInt64S_ev l hl) (Ev.pos rfl (Ev.pos rfl (Ev.now _))))))))))

/-! Rows of events: their size, their copy, their likeness. -/
abbrev GE := S39
abbrev GL := S45
theorem rdE {l : List GE} {i : Nat} (h : i < l.length) : rd_T39 l (i : Int) = l[i] := getD_at _ h
theorem rdL {l : List GL} {i : Nat} (h : i < l.length) : rd_T45 l (i : Int) = l[i] := getD_at _ h
def mkE (x : GL) : GE := ⟨x.f0, x.f1, x.f2, x.f3, x.f4, x.f5, x.f6, x.f7, x.f8⟩
theorem szEventS_l0 (l : List GL) (hok : ∀ x ∈ l, x.f6.size ≤ 9223372036854775807 ∧ x.f7.length ≤ 9223372036854775807) (hl : l.length ≤ 1048576) (d : Nat) : ∀ (i : Nat) (a : Int), i + d = l.length → 0 ≤ a → a ≤ 1048576 →
    ∃ r, Ev (fun k => laws_szEventS.l0 k l a (i : Int)) r ∧ r ≤ a ∧ (0 ≤ r → ∀ t (h : t < l.length), i ≤ t → (l[t]).f7.length ≤ 1048576) := by
  induction d with
  | zero =>
    intro i a hi h0 h1
    refine ⟨a, Ev.one (fun k => ?_), by omega, fun _ t h ht => absurd h (by omega)⟩
    simp only [laws_szEventS.l0]
    rw [if_neg (by omega)]
  | succ d ih =>
    intro i a hi h0 h1
    have hlt : i < l.length := by omega
    have hx := hok _ (List.getElem_mem hlt)
    have hs := szEvent_eq (l[i]).f0 (l[i]).f1 (l[i]).f2 (l[i]).f3 (l[i]).f4 (l[i]).f5 (l[i]).f6 (l[i]).f7 (l[i]).f8 a (by omega) h1 hx.1 hx.2
    by_cases c : a < ((l[i]).f6.size : Int) + (l[i]).f7.length
    · rw [if_pos c] at hs
      refine ⟨-1, Ev.one (fun k => ?_), by omega, fun h => absurd h (by omega)⟩
      simp only [laws_szEventS.l0]
      rw [if_pos (by omega), if_pos (by omega), rdL hlt, hs]
      rfl
    · rw [if_neg c] at hs
      obtain ⟨r, hr, h2, h3⟩ := ih (i + 1) (a - ((l[i]).f6.size : Int) - (l[i]).f7.length) (by omega) (by omega) (by omega)
      refine ⟨r, Ev.step (fun k => ?_) hr, by omega, fun h t ht hit => ?_⟩
      · simp only [laws_szEventS.l0]
        rw [if_pos (by omega), if_pos (by omega), rdL hlt, hs]
        simp only [Option.bind_some]
        rw [if_neg (by omega), w64 (by omega) (by omega)]
        rfl
      · by_cases e : t = i
        · subst e; omega
        · exact h3 h t ht (by omega)
theorem szEventS_ev (l : List GL) (hl : l.length ≤ 9223372036854775807) (hok : ∀ x ∈ l, x.f6.size ≤ 9223372036854775807 ∧ x.f7.length ≤ 9223372036854775807) (a : Int) (h0 : 0 ≤ a) (h1 : a ≤ 1048576) :
    ∃ r, Ev (fun k => laws_szEventS.f k l a) r ∧ r ≤ 1048576 ∧ (0 ≤ r → l.length ≤ 1048576 ∧ ∀ x ∈ l, x.f7.length ≤ 1048576) := by
  unfold laws_szEventS.f
  rw [w64 (by omega) (by omega)]
  by_cases c : a - (l.length : Int) < 0
  · exact ⟨-1, Ev.pos c (Ev.now _), by omega, fun h => absurd h (by omega)⟩
  · obtain ⟨r, hr, h2, h3⟩ := szEventS_l0 l hok (by omega) l.length 0 (a - l.length) (by omega) (by omega) (by omega)
    refine ⟨r, Ev.neg c hr, by omega, fun h => ⟨by omega, fun x hx => ?_⟩⟩
    obtain ⟨t, ht, rfl⟩ := List.getElem_of_mem hx
    exact h3 h t ht (by omega)
theorem toEventS_l0 (l : List GL) (hl : l.length ≤ 1048576) (hp : ∀ x ∈ l, x.f7.length ≤ 1048576) (d : Nat) : ∀ (i : Nat) (acc : List GE), i + d = l.length → acc.length = l.length → acc.take i = (l.map mkE).take i →
    Ev (fun k => laws_toEventS.l0 k l acc (i : Int)) (l.map mkE) := by
  induction d with
  | zero =>
    intro i acc hi ha hp2
    refine Ev.to ?_ (Ev.one (r := acc) (fun k => ?_))
    · rw [List.take_of_length_le (by omega), List.take_of_length_le (by rw [List.length_map]; omega)] at hp2
      exact hp2
    · simp only [laws_toEventS.l0]
      rw [if_neg (by omega)]
  | succ d ih =>
    intro i acc hi ha hp2
    have hlt : i < l.length := by omega
    have hx := hp _ (List.getElem_mem hlt)
    refine Ev.step (f := fun k => (laws_toEvent.f k (l[i]).f0 (l[i]).f1 (l[i]).f2 (l[i]).f3 (l[i]).f4 (l[i]).f5 (l[i]).f6 (l[i]).f7 (l[i]).f8).bind fun b => laws_toEventS.l0 k l (acc.set i (⟨b.1, b.2.1, b.2.2.1, b.2.2.2.1, b.2.2.2.2.1, b.2.2.2.2.2.1, b.2.2.2.2.2.2.1, b.2.2.2.2.2.2.2.1, b.2.2.2.2.2.2.2.2⟩ : GE)) ((i + 1 : Nat) : Int)) (fun k => ?_) (Ev.bind (toEvent_ev _ _ _ _ _ _ _ _ _ hx) (ih (i + 1) (acc.set i (mkE l[i])) (by omega) (by simpa using ha) ?_))
    · simp only [laws_toEventS.l0]
      rw [if_pos (by omega), if_pos (by omega), rdL hlt, w64 (by omega) (by omega), Int.toNat_natCast]
      simp only [if_pos (show (i : Int) < (acc.length : Int) by omega)]
      rfl
    · rw [List.take_succ_eq_append_getElem (by simp; omega), List.take_succ_eq_append_getElem (by rw [List.length_map]; exact hlt), ← hp2, List.take_set_of_le (by omega)]
      simp
theorem toEventS_ev (l : List GL) (hl : l.length ≤ 1048576) (hp : ∀ x ∈ l, x.f7.length ≤ 1048576) : Ev (fun k => laws_toEventS.f k l) (l.map mkE) := by
  unfold laws_toEventS.f
  refine Ev.pos (by omega) (Ev.pos (by simp; omega) ?_)
  exact toEventS_l0 l hl hp l.length 0 _ (by omega) (by simp) (by simp)
theorem toGraph_ev (a : Int) (l m : List GL) (hl : l.length ≤ 1048576) (hp : ∀ x ∈ l, x.f7.length ≤ 1048576) (hm : m.length ≤ 1048576) (hq : ∀ x ∈ m, x.f7.length ≤ 1048576) : Ev (fun k => laws_toGraph.f k a l m) (a, l.map mkE, m.map mkE) := by
  unfold laws_toGraph.f
  exact Ev.bind (toEventS_ev l hl hp) (Ev.bind (toEventS_ev m hm hq) (Ev.now _))
theorem eqEventS_l0 (l : List GE) (hl : l.length ≤ 9223372036854775806) (hp : ∀ x ∈ l, x.f7.length ≤ 9223372036854775806) (d : Nat) : ∀ i : Nat, i + d = l.length → Ev (fun k => laws_eqEventS.l0 k l l (i : Int)) true := by
  induction d with
  | zero =>
    intro i hi
    refine Ev.one (fun k => ?_)
    simp only [laws_eqEventS.l0]
    rw [if_neg (by omega)]
  | succ d ih =>
    intro i hi
    have hlt : i < l.length := by omega
    have hx := hp _ (List.getElem_mem hlt)
    refine Ev.step (f := fun k => (laws_eqEvent.f k (l[i]).f0 (l[i]).f1 (l[i]).f2 (l[i]).f3 (l[i]).f4 (l[i]).f5 (l[i]).f6 (l[i]).f7 (l[i]).f8 (l[i]).f0 (l[i]).f1 (l[i]).f2 (l[i]).f3 (l[i]).f4 (l[i]).f5 (l[i]).f6 (l[i]).f7 (l[i]).f8).bind fun b => if b = true then laws_eqEventS.l0 k l l ((i + 1 : Nat) : Int) else some false) (fun k => ?_) (Ev.bind (eqEvent_ev _ _ _ _ _ _ _ _ _ hx) (Ev.pos rfl (ih (i + 1) (by omega))))
    simp only [laws_eqEventS.l0]
    rw [if_pos (by omega), if_pos (by omega), if_pos (by omega), rdE hlt, w64 (by omega) (by omega)]
    rfl
theorem eqEventS_ev (l : List GE) (hl : l.length ≤ 9223372036854775806) (hp : ∀ x ∈ l, x.f7.length ≤ 9223372036854775806) : Ev (fun k => laws_eqEventS.f k l l) true := by
  unfold laws_eqEventS.f
  exact Ev.pos rfl (eqEventS_l0 l hl hp l.length 0 (by omega))
theorem eqGraph_ev (a : Int) (l m : List GE) (hl : l.length ≤ 9223372036854775806) (hp : ∀ x ∈ l, x.f7.length ≤ 9223372036854775806) (hm : m.length ≤ 9223372036854775806) (hq : ∀ x ∈ m, x.f7.length ≤ 9223372036854775806) : Ev (fun k => laws_eqGraph.f k a l m a l m) true := by
  unfold laws_eqGraph.f
  exact Ev.pos rfl (Ev.bind (eqEventS_ev l hl hp) (Ev.pos rfl (Ev.bind (eqEventS_ev m hm hq) (Ev.pos rfl (Ev.now _)))))

/-! Events by their ids. -/
def atF : List GE → Int → Nat → Int
  | [], _, _ => -1
  | x :: l, id, n => if x.f0 = id then (n : Int) else atF l id (n + 1)
theorem l03At_l0 (l : List GE) (id : Int) (hl : l.length ≤ 9223372036854775806) (d : Nat) : ∀ i : Nat, i + d = l.length → Ev (fun k => spec_l03At.l0 k l id (i : Int)) (atF (l.drop i) id i) := by
  induction d with
  | zero =>
    intro i hi
    rw [List.drop_of_length_le (by omega)]
    refine Ev.one (fun k => ?_)
    simp only [spec_l03At.l0, atF]
    rw [if_neg (by omega)]
  | succ d ih =>
    intro i hi
    have hlt : i < l.length := by omega
    rw [drop_cons hlt]
    unfold atF
    by_cases c : (l[i]).f0 = id
    · rw [if_pos c]
      refine Ev.one (fun k => ?_)
      simp only [spec_l03At.l0]
      rw [if_pos (by omega), if_pos (by omega), rdE hlt, if_pos c]
    · rw [if_neg c]
      refine Ev.step (fun k => ?_) (ih (i + 1) (by omega))
      simp only [spec_l03At.l0]
      rw [if_pos (by omega), if_pos (by omega), rdE hlt, if_neg c, w64 (by omega) (by omega)]
      rfl
theorem l03At_ev (l : List GE) (id : Int) (hl : l.length ≤ 9223372036854775806) : Ev (fun k => spec_l03At.f k l id) (atF l id 0) := by
  have := l03At_l0 l id hl l.length 0 (by omega)
  simpa [spec_l03At.f] using this
theorem atF_cases (id : Int) : ∀ (l : List GE) (n : Nat), (∃ (j : Nat) (h : j < l.length), (l[j]).f0 = id ∧ atF l id n = ((n + j : Nat) : Int)) ∨ (∀ x ∈ l, x.f0 ≠ id) ∧ atF l id n = -1
  | [], n => Or.inr ⟨fun x hx => absurd hx (by simp), rfl⟩
  | x :: l, n => by
    unfold atF
    by_cases c : x.f0 = id
    · rw [if_pos c]
      exact Or.inl ⟨0, by simp, c, by simp⟩
    · rw [if_neg c]
      rcases atF_cases id l (n + 1) with ⟨j, h, h1, h2⟩ | ⟨h1, h2⟩
      · exact Or.inl ⟨j + 1, by simpa using h, by simpa using h1, by rw [h2]; omega⟩
      · refine Or.inr ⟨fun y hy => ?_, h2⟩
        rcases List.mem_cons.1 hy with rfl | hy
        · exact c
        · exact h1 y hy
def hasB (l : List GE) (id : Int) : Bool := decide (0 ≤ atF l id 0)
theorem hasB_iff (l : List GE) (id : Int) : hasB l id = true ↔ ∃ x ∈ l, x.f0 = id := by
  unfold hasB
  rw [decide_eq_true_iff]
  rcases atF_cases id l 0 with ⟨j, h, h1, h2⟩ | ⟨h1, h2⟩
  · exact ⟨fun _ => ⟨l[j], List.getElem_mem h, h1⟩, fun _ => by omega⟩
  · exact ⟨fun h => absurd h (by omega), fun ⟨x, hx, e⟩ => absurd e (h1 x hx)⟩
def Rise (l : List GE) : Prop := ∀ (s t : Nat) (hs : s < l.length) (ht : t < l.length), s < t → (l[s]).f0 < (l[t]).f0
theorem rise_at {l : List GE} (hr : Rise l) {j : Nat} (h : j < l.length) : atF l (l[j]).f0 0 = (j : Int) := by
  rcases atF_cases (l[j]).f0 l 0 with ⟨i, hi, h1, h2⟩ | ⟨h1, _⟩
  · rw [h2]
    rcases Nat.lt_trichotomy i j with c | c | c
    · have := hr i j hi h c; omega
    · omega
    · have := hr j i h hi c; omega
  · exact absurd rfl (h1 _ (List.getElem_mem h))
def cmpI (a b : Int) : Int := if a < b then -1 else if a > b then 1 else 0
theorem find1_eq (x : GE) (id : Int) : impl_find_1.f x.f0 x.f1 x.f2 x.f3 x.f4 x.f5 x.f6 x.f7 x.f8 id = some (cmpI x.f0 id) := by
  unfold impl_find_1.f cmp_Compare_int64.f cmp_isNaN_int64.f cmpI
  simp only [Option.bind_some, bne_self_eq_false, Bool.false_eq_true, if_false]
  by_cases c : x.f0 < id
  · simp [c]
  · by_cases c2 : x.f0 > id
    · simp [c, c2]
    · simp [c, c2]
def hitI (l : List GE) (id : Int) (r : Nat) : Bool := if h : r < l.length then decide ((l[r]).f0 = id) else false
theorem find_l0 (l : List GE) (id : Int) (hl : l.length ≤ 4611686018427387903) (hr : Rise l) (d : Nat) : ∀ (i j : Nat), j - i ≤ d → i ≤ j → j ≤ l.length →
    (∀ t (h : t < l.length), t < i → (l[t]).f0 < id) → (∀ t (h : t < l.length), j ≤ t → ¬ (l[t]).f0 < id) →
    ∃ r : Nat, r ≤ l.length ∧ Ev (fun k => impl_Event_int64.l0 k l id (l.length : Int) (i : Int) (j : Int)) ((r : Int), hitI l id r) ∧ (∀ t (h : t < l.length), t < r → (l[t]).f0 < id) ∧ (∀ t (h : t < l.length), r ≤ t → ¬ (l[t]).f0 < id) := by
  induction d with
  | zero =>
    intro i j hd hij hj h1 h2
    have e : i = j := by omega
    subst e
    refine ⟨i, hj, Ev.one (fun k => ?_), h1, h2⟩
    simp only [impl_Event_int64.l0]
    rw [if_neg (by omega)]
    unfold hitI
    by_cases c : i < l.length
    · rw [if_pos (by omega), if_pos (by omega), if_pos (by omega), rdE c, find1_eq, dif_pos c]
      simp only [Option.bind_some, Option.some.injEq, Prod.mk.injEq, true_and]
      unfold cmpI
      by_cases e1 : (l[i]).f0 < id
      · rw [if_pos e1]; simp; omega
      · rw [if_neg e1]
        by_cases e2 : (l[i]).f0 > id
        · rw [if_pos e2]; simp; omega
        · rw [if_neg e2]; simp; omega
    · rw [if_neg (by omega), dif_neg c]
  | succ d ih =>
    intro i j hd hij hj h1 h2
    by_cases e : i = j
    · exact ih i j (by omega) hij hj h1 h2
    have hm : wrap64 ((IntKind.u64.wrap (wrap64 ((i : Int) + (j : Int)))) / 2) = (((i + j) / 2 : Nat) : Int) := by
      rw [IntKind.wrap_u64]; unfold wrap64; omega
    have hlt : (i + j) / 2 < l.length := by omega
    by_cases c : (l[(i + j) / 2]).f0 < id
    · obtain ⟨r, g0, g1, g2, g3⟩ := ih ((i + j) / 2 + 1) j (by omega) (by omega) hj (fun t h ht => by
        rcases Nat.lt_or_ge t ((i + j) / 2) with q | q
        · have := hr t ((i + j) / 2) h hlt q; omega
        · have e3 : t = (i + j) / 2 := by omega
          subst e3; exact c) h2
      refine ⟨r, g0, Ev.step (fun k => ?_) g1, g2, g3⟩
      simp only [impl_Event_int64.l0]
      rw [if_pos (by omega), hm, if_pos (by omega), if_pos (by omega), rdE hlt, find1_eq]
      simp only [Option.bind_some]
      rw [if_pos (by unfold cmpI; rw [if_pos c]; omega), w64 (by omega) (by omega)]
      rfl
    · obtain ⟨r, g0, g1, g2, g3⟩ := ih i ((i + j) / 2) (by omega) (by omega) (by omega) h1 (fun t h ht => by
        rcases Nat.lt_or_ge ((i + j) / 2) t with q | q
        · have := hr ((i + j) / 2) t hlt h q; omega
        · have e3 : t = (i + j) / 2 := by omega
          subst e3; exact c)
      refine ⟨r, g0, Ev.step (fun k => ?_) g1, g2, g3⟩
      simp only [impl_Event_int64.l0]
      rw [if_pos (by omega), hm, if_pos (by omega), if_pos (by omega), rdE hlt, find1_eq]
      simp only [Option.bind_some]
      rw [if_neg (by unfold cmpI; rw [if_neg c]; split <;> omega)]
/-- Behind the search: whether it is there, and where. -/
theorem find_ev (l : List GE) (id : Int) (hl : l.length ≤ 4611686018427387903) (hr : Rise l) : ∃ r : Nat, Ev (fun k => impl_find.f k l id) ((r : Int), hasB l id) ∧ (hasB l id = true → (r : Int) = atF l id 0 ∧ r < l.length) := by
  obtain ⟨r, g0, g1, g2, g3⟩ := find_l0 l id hl hr l.length 0 l.length (by omega) (by omega) (by omega) (fun t _ h => absurd h (by omega)) (fun t h h2 => absurd h (by omega))
  have hb : hitI l id r = hasB l id := by
    rw [Bool.eq_iff_iff, hasB_iff]
    unfold hitI
    constructor
    · intro h
      by_cases c : r < l.length
      · rw [dif_pos c] at h
        exact ⟨l[r], List.getElem_mem c, of_decide_eq_true h⟩
      · rw [dif_neg c] at h; cases h
    · rintro ⟨x, hx, e⟩
      obtain ⟨t, ht, rfl⟩ := List.getElem_of_mem hx
      rcases Nat.lt_trichotomy t r with q | q | q
      · have := g2 t ht q; omega
      · subst q; rw [dif_pos ht]; exact decide_eq_true e
      · have h1 := g3 r (by omega) (by omega)
        have h2 := hr r t (by omega) ht q
        omega
  refine ⟨r, ?_, fun h => ?_⟩
  · unfold impl_find.f impl_Event_int64.f
    rw [hb] at g1
    exact Ev.bind g1 (Ev.now _)
  · rw [← hb] at h
    unfold hitI at h
    by_cases c : r < l.length
    · rw [dif_pos c] at h
      have e := of_decide_eq_true h
      have := rise_at hr c
      rw [e] at this
      exact ⟨this.symm, c⟩
    · rw [dif_neg c] at h; cases h
theorem has_ev (a : Int) (l m : List GE) (id : Int) (hl : l.length ≤ 4611686018427387903) (hr : Rise l) : Ev (fun k => impl_Graph_has.f k a l m id) (hasB l id) := by
  obtain ⟨r, h, _⟩ := find_ev l id hl hr
  unfold impl_Graph_has.f
  exact Ev.bind h (Ev.now _)
/-- All that an event stands behind are there. -/
def allB (l : List GE) (r : List Int) : Bool := r.all (hasB l)

/-! Rows that may be so; what stands behind what. -/
def evE (x : GE) : Bool := evRight x.f0 x.f1 x.f2 x.f3 x.f4 x.f5 x.f6 x.f7 x.f8
def rowB (room : Int) : Option Int → List GE → Bool
  | _, [] => true
  | p, x :: l => evE x && (decide (x.f1 = room) && ((match p with | none => true | some q => decide (q < x.f0)) && rowB room (some x.f0) l))
def pId (l : List GE) (i : Nat) : Option Int := if h : 0 < i ∧ i - 1 < l.length then some (l[i - 1]'h.2).f0 else none
theorem pId_zero (l : List GE) : pId l 0 = none := by unfold pId; rw [dif_neg (by omega)]
theorem pId_succ (l : List GE) (i : Nat) (h : i < l.length) : pId l (i + 1) = some (l[i]).f0 := by
  unfold pId; rw [dif_pos (show 0 < i + 1 ∧ i + 1 - 1 < l.length from ⟨by omega, by omega⟩)]; rfl
def stepB (l : List GE) (i : Nat) (x : GE) : Bool := match pId l i with | none => true | some q => decide (q < x.f0)
theorem stepB_pos (l : List GE) (i : Nat) (h : i < l.length) (h0 : 0 < i) (x : GE) : stepB l i x = decide ((l[i - 1]'(by omega)).f0 < x.f0) := by
  unfold stepB pId; rw [dif_pos ⟨h0, by omega⟩]
theorem stepB_zero (l : List GE) (x : GE) : stepB l 0 x = true := by unfold stepB; rw [pId_zero]
theorem l03Row_l0 (l : List GE) (room : Int) (hl : l.length ≤ 9223372036854775806) (hp : ∀ x ∈ l, x.f7.length ≤ 9223372036854775806) (d : Nat) : ∀ i : Nat, i + d = l.length →
    Ev (fun k => spec_l03Row.l0 k l room (i : Int)) (rowB room (pId l i) (l.drop i)) := by
  induction d with
  | zero =>
    intro i hi
    rw [List.drop_of_length_le (by omega)]
    refine Ev.one (fun k => ?_)
    simp only [spec_l03Row.l0, rowB]
    rw [if_neg (by omega)]
  | succ d ih =>
    intro i hi
    have hlt : i < l.length := by omega
    have hx := hp _ (List.getElem_mem hlt)
    rw [drop_cons hlt]
    show Ev _ (evE l[i] && (decide ((l[i]).f1 = room) && (stepB l i l[i] && rowB room (some (l[i]).f0) (l.drop (i + 1)))))
    have hrec := ih (i + 1) (by omega)
    rw [pId_succ l i hlt] at hrec
    refine Ev.step (f := fun k => (spec_EventRight.f k (l[i]).f0 (l[i]).f1 (l[i]).f2 (l[i]).f3 (l[i]).f4 (l[i]).f5 (l[i]).f6 (l[i]).f7 (l[i]).f8).bind fun t => if t = true then (if (l[i]).f1 = room then (if stepB l i l[i] = true then spec_l03Row.l0 k l room ((i + 1 : Nat) : Int) else some false) else some false) else some false) (fun k => ?_) (Ev.bind (spec_EventRight_ev _ _ _ _ _ _ _ _ _ hx) ?_)
    · simp only [spec_l03Row.l0]
      rw [if_pos (by omega), if_pos (by omega), rdE hlt, w64 (n := (i : Int) + 1) (by omega) (by omega)]
      congr 1
      funext t
      by_cases c1 : t = true
      · rw [if_pos c1, if_pos c1]
        by_cases c2 : (l[i]).f1 = room
        · rw [if_pos c2, if_pos c2]
          by_cases c3 : 0 < i
          · rw [if_pos (by omega), w64 (by omega) (by omega), if_pos (by omega), if_pos (by omega), show (i : Int) - 1 = ((i - 1 : Nat) : Int) by omega, rdE (show i - 1 < l.length by omega), stepB_pos l i hlt c3]
            by_cases c4 : (l[i - 1]'(by omega)).f0 < (l[i]).f0
            · rw [if_neg (by omega), if_pos (by simpa using c4)]; rfl
            · rw [if_pos (by omega), if_neg (by simpa using c4)]
          · have e : i = 0 := by omega
            subst e
            rw [if_neg (by omega), if_pos (stepB_zero l _)]; rfl
        · rw [if_neg c2, if_neg c2]
      · rw [if_neg c1, if_neg c1]
    · refine Ev.ifb (c := evE l[i]) ?_
      by_cases c2 : (l[i]).f1 = room
      · rw [decide_eq_true c2, Bool.true_and]
        exact Ev.pos c2 (Ev.ifb hrec)
      · rw [decide_eq_false c2, Bool.false_and]
        exact Ev.neg c2 (Ev.now _)
theorem l03Row_ev (l : List GE) (room most : Int) (hl : l.length ≤ 9223372036854775806) (hp : ∀ x ∈ l, x.f7.length ≤ 9223372036854775806) :
    Ev (fun k => spec_l03Row.f k l room most) (!decide ((l.length : Int) > most) && rowB room none l) := by
  unfold spec_l03Row.f
  have h := l03Row_l0 l room hl hp l.length 0 (by omega)
  rw [pId_zero, List.drop_zero] at h
  by_cases c : (l.length : Int) > most
  · rw [decide_eq_true c]; exact Ev.pos c (Ev.now _)
  · rw [decide_eq_false c]; exact Ev.neg c h
theorem areRight_l0 (l : List GE) (room : Int) (m1 m2 : List GE) (hl : l.length ≤ 9223372036854775806) (hp : ∀ x ∈ l, x.f7.length ≤ 9223372036854775806) (d : Nat) : ∀ i : Nat, i + d = l.length →
    Ev (fun k => impl_Graph_areRight.l0 k l l (l.length : Int) (i : Int) room m1 m2) (rowB room (pId l i) (l.drop i)) := by
  induction d with
  | zero =>
    intro i hi
    rw [List.drop_of_length_le (by omega)]
    refine Ev.one (fun k => ?_)
    simp only [impl_Graph_areRight.l0, rowB]
    rw [if_neg (by omega)]
  | succ d ih =>
    intro i hi
    have hlt : i < l.length := by omega
    have hx := hp _ (List.getElem_mem hlt)
    rw [drop_cons hlt]
    show Ev _ (evE l[i] && (decide ((l[i]).f1 = room) && (stepB l i l[i] && rowB room (some (l[i]).f0) (l.drop (i + 1)))))
    have hrec := ih (i + 1) (by omega)
    rw [pId_succ l i hlt] at hrec
    refine Ev.step (f := fun k => (impl_EventRight.f k (l[i]).f0 (l[i]).f1 (l[i]).f2 (l[i]).f3 (l[i]).f4 (l[i]).f5 (l[i]).f6 (l[i]).f7 (l[i]).f8).bind fun t => if t = true then (if (l[i]).f1 = room then (if stepB l i l[i] = true then impl_Graph_areRight.l0 k l l (l.length : Int) ((i + 1 : Nat) : Int) room m1 m2 else some false) else some false) else some false) (fun k => ?_) (Ev.bind (impl_EventRight_ev _ _ _ _ _ _ _ _ _ hx) ?_)
    · simp only [impl_Graph_areRight.l0]
      rw [if_pos (by omega), if_pos (by omega), if_pos (by omega), rdE hlt, w64 (n := (i : Int) + 1) (by omega) (by omega)]
      congr 1
      funext t
      by_cases c1 : t = true
      · rw [if_pos c1, if_pos c1]
        by_cases c2 : (l[i]).f1 = room
        · rw [if_pos c2, if_pos c2]
          by_cases c3 : 0 < i
          · rw [if_pos (by omega), w64 (by omega) (by omega), if_pos (by omega), if_pos (by omega), show (i : Int) - 1 = ((i - 1 : Nat) : Int) by omega, rdE (show i - 1 < l.length by omega), stepB_pos l i hlt c3]
            by_cases c4 : (l[i - 1]'(by omega)).f0 < (l[i]).f0
            · rw [if_neg (by omega), if_pos (by simpa using c4)]; rfl
            · rw [if_pos (by omega), if_neg (by simpa using c4)]
          · have e : i = 0 := by omega
            subst e
            rw [if_neg (by omega), if_pos (stepB_zero l _)]; rfl
        · rw [if_neg c2, if_neg c2]
      · rw [if_neg c1, if_neg c1]
    · refine Ev.ifb (c := evE l[i]) ?_
      by_cases c2 : (l[i]).f1 = room
      · rw [decide_eq_true c2, Bool.true_and]
        exact Ev.pos c2 (Ev.ifb hrec)
      · rw [decide_eq_false c2, Bool.false_and]
        exact Ev.neg c2 (Ev.now _)
theorem areRight_ev (room : Int) (m1 m2 l : List GE) (hl : l.length ≤ 9223372036854775806) (hp : ∀ x ∈ l, x.f7.length ≤ 9223372036854775806) :
    Ev (fun k => impl_Graph_areRight.f k room m1 m2 l) (rowB room none l) := by
  unfold impl_Graph_areRight.f
  have h := areRight_l0 l room m1 m2 hl hp l.length 0 (by omega)
  rw [pId_zero, List.drop_zero] at h
  exact h
theorem rowB_first (room : Int) : ∀ (l : List GE) (p : Option Int), rowB room p l = true → ∀ q, p = some q → ∀ x ∈ l, q < x.f0
  | [], _, _, _, _, x, hx => absurd hx (by simp)
  | y :: l, p, h, q, e, x, hx => by
    subst e
    simp only [rowB, Bool.and_eq_true, decide_eq_true_eq] at h
    obtain ⟨_, _, h3, h4⟩ := h
    rcases List.mem_cons.1 hx with rfl | hx
    · exact h3
    · have := rowB_first room l (some y.f0) h4 y.f0 rfl x hx
      omega
theorem rowB_rise (room : Int) : ∀ (l : List GE) (p : Option Int), rowB room p l = true → Rise l
  | [], _, _ => fun s t hs => absurd hs (by simp)
  | y :: l, p, h => by
    simp only [rowB, Bool.and_eq_true, decide_eq_true_eq] at h
    obtain ⟨_, _, _, h4⟩ := h
    have hr := rowB_rise room l _ h4
    have hf := rowB_first room l _ h4 y.f0 rfl
    intro s t hs ht hst
    cases t with
    | zero => omega
    | succ t =>
      cases s with
      | zero => exact hf _ (List.getElem_mem (by simpa using ht))
      | succ s => exact hr s t (by simpa using hs) (by simpa using ht) (by omega)
theorem rowB_right (room : Int) : ∀ (l : List GE) (p : Option Int), rowB room p l = true → ∀ x ∈ l, evE x = true
  | [], _, _, x, hx => absurd hx (by simp)
  | y :: l, p, h, x, hx => by
    simp only [rowB, Bool.and_eq_true, decide_eq_true_eq] at h
    obtain ⟨h1, _, _, h4⟩ := h
    rcases List.mem_cons.1 hx with rfl | hx
    · exact h1
    · exact rowB_right room l _ h4 x hx
theorem l03All_l0 (l : List GE) (x : GE) (hl : l.length ≤ 9223372036854775806) (hp : x.f7.length ≤ 9223372036854775806) (d : Nat) : ∀ i : Nat, i + d = x.f7.length →
    Ev (fun k => spec_l03All.l0 k l (i : Int) x.f0 x.f1 x.f2 x.f3 x.f4 x.f5 x.f6 x.f7 x.f8) (allB l (x.f7.drop i)) := by
  induction d with
  | zero =>
    intro i hi
    rw [List.drop_of_length_le (by omega)]
    refine Ev.one (fun k => ?_)
    simp only [spec_l03All.l0]
    rw [if_neg (by omega)]
    rfl
  | succ d ih =>
    intro i hi
    have hlt : i < x.f7.length := by omega
    rw [List.drop_eq_getElem_cons hlt]
    show Ev _ (hasB l x.f7[i] && allB l (x.f7.drop (i + 1)))
    refine Ev.step (f := fun k => (spec_l03At.f k l x.f7[i]).bind fun t => if t < 0 then some false else spec_l03All.l0 k l ((i + 1 : Nat) : Int) x.f0 x.f1 x.f2 x.f3 x.f4 x.f5 x.f6 x.f7 x.f8) (fun k => ?_) (Ev.bind (l03At_ev l _ hl) ?_)
    · simp only [spec_l03All.l0]
      rw [if_pos (by omega), if_pos (by omega), rd_at hlt, w64 (n := (i : Int) + 1) (by omega) (by omega)]
      rfl
    · unfold hasB
      by_cases c : atF l x.f7[i] 0 < 0
      · rw [decide_eq_false (show ¬ 0 ≤ atF l x.f7[i] 0 by omega), Bool.false_and]
        exact Ev.pos c (Ev.now _)
      · rw [decide_eq_true (show 0 ≤ atF l x.f7[i] 0 by omega), Bool.true_and]
        exact Ev.neg c (ih (i + 1) (by omega))
theorem l03All_ev (l : List GE) (x : GE) (hl : l.length ≤ 9223372036854775806) (hp : x.f7.length ≤ 9223372036854775806) : Ev (fun k => spec_l03All.f k l x.f0 x.f1 x.f2 x.f3 x.f4 x.f5 x.f6 x.f7 x.f8) (allB l x.f7) := by
  unfold spec_l03All.f
  have := l03All_l0 l x hl hp x.f7.length 0 (by omega)
  rw [List.drop_zero] at this
  exact this
theorem anyQ_ev {α : Type} {q : Nat → α → Option Bool} {p : α → Bool} : ∀ (l : List α), (∀ x ∈ l, Ev (fun k => q k x) (p x)) → Ev (fun k => anyQ (q k) l) (l.any p)
  | [], _ => Ev.now _
  | x :: l, h => by
    have h1 := h x (by simp)
    have h2 := anyQ_ev l (fun y hy => h y (by simp [hy]))
    exact Ev.bind h1 (Ev.bind h2 (Ev.now _))
theorem complete_ev (g0 : Int) (g1 g2 : List GE) (e7 : List Int) (hl : g1.length ≤ 4611686018427387903) (hr : Rise g1) : Ev (fun k => impl_Graph_complete.f k g0 g1 g2 e7) (allB g1 e7) := by
  unfold impl_Graph_complete.f
  have h := anyQ_ev (q := fun k => impl_Graph_complete.q k g0 g1 g2) (p := fun id => !hasB g1 id) e7 (fun id _ => Ev.bind (has_ev g0 g1 g2 id hl hr) (Ev.now _))
  refine Ev.to ?_ (Ev.bind h (Ev.now _))
  unfold allB
  induction e7 with
  | nil => rfl
  | cons x l ih => rw [List.any_cons, List.all_cons, Bool.not_or, Bool.not_not, ih (anyQ_ev (q := fun k => impl_Graph_complete.q k g0 g1 g2) (p := fun id => !hasB g1 id) l (fun id _ => Ev.bind (has_ev g0 g1 g2 id hl hr) (Ev.now _)))]

/-! Depths: rounds over a row of places, each of which waits for others. -/
/-- The depth of what waits for the places r; 0: one of them has none. -/
def ownD (d : List Int) : List Nat → Int → Int
  | [], a => a
  | p :: r, a => if d.getD p 0 = 0 then 0 else ownD d r (max a (d.getD p 0 + 1))
def zeros (d : List Int) : Nat := d.countP (fun x => decide (x = 0))
def swp (pv : Nat → List Nat) (d : List Int) (i : Nat) : List Int := if 0 < d.getD i 0 then d else if 0 < ownD d (pv i) 1 then d.set i (ownD d (pv i) 1) else d
def sweepF (pv : Nat → List Nat) : Nat → Nat → List Int → List Int
  | 0, _, d => d
  | m + 1, i, d => sweepF pv m (i + 1) (swp pv d i)
def sweep (pv : Nat → List Nat) (d : List Int) : List Int := sweepF pv d.length 0 d
def roundsD (pv : Nat → List Nat) : Nat → List Int → List Int
  | 0, d => d
  | k + 1, d => roundsD pv k (sweep pv d)
/-- What holds of depths at any time. -/
def DepOk (d : List Int) : Prop := ∀ j : Nat, 0 ≤ d.getD j 0 ∧ d.getD j 0 + (zeros d : Int) ≤ (d.length : Int)
theorem getD_set_eq (d : List Int) (i j : Nat) (v : Int) (h : i < d.length) : (d.set i v).getD j 0 = if j = i then v else d.getD j 0 := by
  simp only [List.getD_eq_getElem?_getD]
  by_cases e : j = i
  · subst e; rw [if_pos rfl, List.getElem?_set_self h]; rfl
  · rw [if_neg e, List.getElem?_set_ne (by omega)]
theorem zeros_le (d : List Int) : zeros d ≤ d.length := List.countP_le_length
theorem zeros_set (d : List Int) : ∀ (i : Nat) (v : Int), i < d.length → d.getD i 0 = 0 → v ≠ 0 → zeros (d.set i v) + 1 = zeros d := by
  unfold zeros
  induction d with
  | nil => intro i v h; simp at h
  | cons x r ih =>
    intro i v h h0 hv
    cases i with
    | zero =>
      simp only [List.getD_cons_zero] at h0
      subst h0
      rw [List.set_cons_zero, List.countP_cons, List.countP_cons, decide_eq_false hv]
      simp
    | succ i =>
      have := ih i v (by simpa using h) (by simpa using h0) hv
      rw [List.set_cons_succ, List.countP_cons, List.countP_cons]
      omega
theorem zeros_zero {d : List Int} (h : zeros d = 0) (i : Nat) (hi : i < d.length) : d.getD i 0 ≠ 0 := by
  intro e
  unfold zeros at h
  rw [List.countP_eq_zero] at h
  have hm := h d[i] (List.getElem_mem hi)
  rw [List.getD_eq_getElem?_getD, List.getElem?_eq_getElem hi] at e
  exact hm (decide_eq_true e)
theorem ownD_nonneg (d : List Int) (r : List Nat) : ∀ a : Int, 0 ≤ a → 0 ≤ ownD d r a := by
  induction r with
  | nil => intro a h; exact h
  | cons p r ih =>
    intro a h
    unfold ownD
    split
    · omega
    · exact ih _ (by omega)
theorem ownD_le (d : List Int) (b : Int) (hd : ∀ j : Nat, d.getD j 0 + 1 ≤ b) (r : List Nat) : ∀ a : Int, a ≤ b → 0 ≤ b → ownD d r a ≤ b := by
  induction r with
  | nil => intro a h _; exact h
  | cons p r ih =>
    intro a h hb
    unfold ownD
    split
    · exact hb
    · exact ih _ (by have := hd p; omega) hb
theorem swp_cases (pv : Nat → List Nat) (d : List Int) (i : Nat) (hi : i < d.length) (hok : DepOk d) :
    (swp pv d i).length = d.length ∧ DepOk (swp pv d i) ∧ (swp pv d i = d ∨ d.getD i 0 = 0 ∧ 0 < ownD d (pv i) 1 ∧ swp pv d i = d.set i (ownD d (pv i) 1) ∧ zeros (swp pv d i) + 1 = zeros d) := by
  unfold swp
  by_cases c : 0 < d.getD i 0
  · rw [if_pos c]; exact ⟨rfl, hok, Or.inl rfl⟩
  · rw [if_neg c]
    have h0 : d.getD i 0 = 0 := by have := (hok i).1; omega
    by_cases c2 : 0 < ownD d (pv i) 1
    · rw [if_pos c2]
      have hz := zeros_set d i (ownD d (pv i) 1) hi h0 (by omega)
      refine ⟨List.length_set, fun j => ?_, Or.inr ⟨h0, c2, rfl, hz⟩⟩
      rw [getD_set_eq d i j _ hi, List.length_set]
      by_cases e : j = i
      · rw [if_pos e]
        have := ownD_le d ((d.length : Int) - zeros d + 1) (fun j => by have := (hok j).2; omega) (pv i) 1 (by have := zeros_le d; omega) (by have := zeros_le d; omega)
        omega
      · rw [if_neg e]
        have := hok j
        omega
    · rw [if_neg c2]; exact ⟨rfl, hok, Or.inl rfl⟩
theorem sweepF_cases (pv : Nat → List Nat) (m : Nat) : ∀ (i : Nat) (d : List Int), i + m = d.length → DepOk d →
    (sweepF pv m i d).length = d.length ∧ DepOk (sweepF pv m i d) ∧ (sweepF pv m i d = d ∨ zeros (sweepF pv m i d) < zeros d) := by
  induction m with
  | zero => intro i d _ h; exact ⟨rfl, h, Or.inl rfl⟩
  | succ m ih =>
    intro i d hi hok
    obtain ⟨h1, h2, h3⟩ := swp_cases pv d i (by omega) hok
    obtain ⟨g1, g2, g3⟩ := ih (i + 1) (swp pv d i) (by omega) h2
    unfold sweepF
    refine ⟨by omega, g2, ?_⟩
    rcases h3 with h3 | ⟨_, _, _, h3⟩
    · rw [h3] at g3 ⊢; exact g3
    · rcases g3 with g3 | g3
      · rw [g3]; exact Or.inr (by omega)
      · exact Or.inr (by omega)
theorem sweep_cases (pv : Nat → List Nat) (d : List Int) (hok : DepOk d) : (sweep pv d).length = d.length ∧ DepOk (sweep pv d) ∧ (sweep pv d = d ∨ zeros (sweep pv d) < zeros d) :=
  sweepF_cases pv d.length 0 d (by omega) hok
theorem rounds_fix (pv : Nat → List Nat) (d : List Int) (h : sweep pv d = d) (k : Nat) : roundsD pv k d = d := by
  induction k with
  | zero => rfl
  | succ k ih => unfold roundsD; rw [h]; exact ih
theorem sweep_done (pv : Nat → List Nat) (d : List Int) (hok : DepOk d) (h : zeros d = 0) : sweep pv d = d := by
  rcases (sweep_cases pv d hok).2.2 with e | e
  · exact e
  · omega
theorem rounds_ok (pv : Nat → List Nat) (k : Nat) : ∀ d : List Int, DepOk d → (roundsD pv k d).length = d.length ∧ DepOk (roundsD pv k d) := by
  induction k with
  | zero => intro d h; exact ⟨rfl, h⟩
  | succ k ih =>
    intro d h
    obtain ⟨h1, h2, _⟩ := sweep_cases pv d h
    obtain ⟨g1, g2⟩ := ih _ h2
    exact ⟨by unfold roundsD; omega, g2⟩
theorem depOk_zero (n : Nat) : DepOk (List.replicate n 0) := by
  intro j
  have h0 : (List.replicate n (0 : Int)).getD j 0 = 0 := by
    rw [List.getD_eq_getElem?_getD, List.getElem?_replicate]; split <;> rfl
  have h1 := zeros_le (List.replicate n (0 : Int))
  rw [h0]
  omega
theorem zeros_replicate (n : Nat) : zeros (List.replicate n 0) = n := by
  unfold zeros; simp [List.countP_replicate]

/-! Depths: the program's rounds and the reference's. -/
def pv (l : List GE) (i : Nat) : List Nat := if h : i < l.length then (l[i]).f7.map (fun id => (atF l id 0).toNat) else []
theorem atF_lt {l : List GE} {id : Int} (h : 0 ≤ atF l id 0) : (atF l id 0).toNat < l.length := by
  rcases atF_cases id l 0 with ⟨j, h1, _, h2⟩ | ⟨_, h2⟩
  · omega
  · omega
theorem rd_getD {d : List Int} {i : Nat} (h : i < d.length) : rd d (i : Int) = d.getD i 0 := by
  rw [rd_at h, List.getD_eq_getElem?_getD, List.getElem?_eq_getElem h]; rfl
def inS (d : List Int) : List Nat → Int → Bool → Int × Bool
  | [], m, ok => (m, ok)
  | p :: r, m, ok => inS d r (if d.getD p 0 > m then d.getD p 0 else m) (ok && decide (d.getD p 0 > 0))
theorem inS_false (d : List Int) : ∀ (r : List Nat) (m : Int), (inS d r m false).2 = false
  | [], _ => rfl
  | p :: r, m => by unfold inS; rw [Bool.false_and]; exact inS_false d r _
theorem inS_own (d : List Int) (hd : ∀ j : Nat, 0 ≤ d.getD j 0) : ∀ (r : List Nat) (m : Int), 0 ≤ m → ((inS d r m true).2 = true → ownD d r (m + 1) = (inS d r m true).1 + 1 ∧ 0 ≤ (inS d r m true).1) ∧ ((inS d r m true).2 = false → ownD d r (m + 1) = 0)
  | [], m, hm => by
    refine ⟨fun _ => ⟨rfl, hm⟩, fun h => ?_⟩
    have h' : true = false := h
    cases h'
  | p :: r, m, hm => by
    have hp := hd p
    unfold inS ownD
    by_cases c : d.getD p 0 = 0
    · rw [if_pos c, Bool.true_and, decide_eq_false (show ¬ d.getD p 0 > 0 by omega)]
      exact ⟨fun h => (by rw [inS_false] at h; cases h), fun _ => rfl⟩
    · rw [if_neg c, Bool.true_and, decide_eq_true (show d.getD p 0 > 0 by omega)]
      have e : max (m + 1) (d.getD p 0 + 1) = (if d.getD p 0 > m then d.getD p 0 else m) + 1 := by split <;> omega
      rw [e]
      exact inS_own d hd r _ (by split <;> omega)
theorem inS_le (d : List Int) (b : Int) (hd : ∀ j : Nat, d.getD j 0 ≤ b) : ∀ (r : List Nat) (m : Int) (ok : Bool), m ≤ b → (inS d r m ok).1 ≤ b
  | [], _, _, h => h
  | p :: r, m, ok, h => by unfold inS; exact inS_le d b hd r _ _ (by have := hd p; split <;> omega)
/-- What an event waits for, from a place on. -/
def pvs (l : List GE) (r : List Int) : List Nat := r.map (fun id => (atF l id 0).toNat)
theorem sD_l2 (l : List GE) (hl : l.length ≤ 60) (d : List Int) (hd : d.length = l.length) (hok : DepOk d) (x4 : Int) (i : Nat) (hi : i < l.length) (hp : (l[i]).f7.length ≤ 1000) (hall : allB l (l[i]).f7 = true) (res : List Int) (e : Nat) :
    ∀ (j : Nat) (m : Int) (ok : Bool), j + e = (l[i]).f7.length → 0 ≤ m → m ≤ 60 →
    ((inS d (pvs l ((l[i]).f7.drop j)) m ok).2 = true → Ev (fun k => spec_l03Depths.l1 k l (d.set i ((inS d (pvs l ((l[i]).f7.drop j)) m ok).1 + 1)) x4 ((i + 1 : Nat) : Int)) res) →
    ((inS d (pvs l ((l[i]).f7.drop j)) m ok).2 = false → Ev (fun k => spec_l03Depths.l1 k l d x4 ((i + 1 : Nat) : Int)) res) →
    Ev (fun k => spec_l03Depths.l2 k l d x4 (i : Int) m ok (j : Int)) res := by
  have hb : ∀ q : Nat, d.getD q 0 ≤ 60 := fun q => by have := (hok q).2; omega
  induction e with
  | zero =>
    intro j m ok hj h0 h1 hT hF
    rw [List.drop_of_length_le (by omega)] at hT hF
    have hT' : ok = true → Ev (fun k => spec_l03Depths.l1 k l (d.set i (m + 1)) x4 ((i + 1 : Nat) : Int)) res := hT
    have hF' : ok = false → Ev (fun k => spec_l03Depths.l1 k l d x4 ((i + 1 : Nat) : Int)) res := hF
    cases ok with
    | true =>
      refine Ev.step (fun k => ?_) (hT' rfl)
      simp only [spec_l03Depths.l2]
      rw [if_pos (by omega), if_pos (by omega), rdE hi, if_neg (by omega), if_pos (by first | rfl | trivial), if_pos (by omega), w64 (n := m + 1) (by omega) (by omega), w64 (n := (i : Int) + 1) (by omega) (by omega), Int.toNat_natCast]
      rfl
    | false =>
      refine Ev.step (fun k => ?_) (hF' rfl)
      simp only [spec_l03Depths.l2]
      rw [if_pos (by omega), if_pos (by omega), rdE hi, if_neg (by omega), if_neg (by simp), w64 (n := (i : Int) + 1) (by omega) (by omega)]
      rfl
  | succ e ih =>
    intro j m ok hj h0 h1 hT hF
    have hlt : j < (l[i]).f7.length := by omega
    have hid : hasB l (l[i]).f7[j] = true := by
      unfold allB at hall
      exact (List.all_eq_true.1 hall) _ (List.getElem_mem hlt)
    have hat : 0 ≤ atF l (l[i]).f7[j] 0 := of_decide_eq_true hid
    have hat2 := atF_lt hat
    rw [List.drop_eq_getElem_cons hlt] at hT hF
    have hg : rd d (atF l (l[i]).f7[j] 0) = d.getD (atF l (l[i]).f7[j] 0).toNat 0 := by
      rw [← rd_getD (show (atF l (l[i]).f7[j] 0).toNat < d.length by omega), Int.toNat_of_nonneg hat]
    have h0g := (hok (atF l (l[i]).f7[j] 0).toNat).1
    have h1g := hb (atF l (l[i]).f7[j] 0).toNat
    have hrec := ih (j + 1) (if d.getD (atF l (l[i]).f7[j] 0).toNat 0 > m then d.getD (atF l (l[i]).f7[j] 0).toNat 0 else m) (ok && decide (d.getD (atF l (l[i]).f7[j] 0).toNat 0 > 0)) (by omega) (by split <;> omega) (by split <;> omega) hT hF
    refine Ev.step (f := fun k => (spec_l03At.f k l (l[i]).f7[j]).bind fun t => if 0 ≤ t then (if t < (d.length : Int) then spec_l03Depths.l2 k l d x4 (i : Int) (if rd d t > m then rd d t else m) (ok && decide (rd d t > 0)) ((j + 1 : Nat) : Int) else none) else none) (fun k => ?_) (Ev.bind (l03At_ev l _ (by omega)) (Ev.pos hat (Ev.pos (by omega) ?_)))
    · simp only [spec_l03Depths.l2]
      rw [if_pos (by omega), if_pos (by omega), rdE hi, if_pos (by omega), if_pos (by omega), rd_at hlt, w64 (n := (j : Int) + 1) (by omega) (by omega)]
      congr 1
      funext t
      by_cases q1 : 0 ≤ t
      · rw [if_pos q1, if_pos q1]
        by_cases q2 : t < (d.length : Int)
        · rw [if_pos q2, if_pos q2]
          cases ok with
          | true =>
            rw [if_pos (by first | rfl | trivial), Bool.true_and]
            by_cases q3 : rd d t > m
            · rw [if_pos q3, if_pos q3]; rfl
            · rw [if_neg q3, if_neg q3]; rfl
          | false =>
            rw [if_neg (by simp), Bool.false_and]
            by_cases q3 : rd d t > m
            · rw [if_pos q3, if_pos q3]; rfl
            · rw [if_neg q3, if_neg q3]; rfl
        · rw [if_neg q2, if_neg q2]
      · rw [if_neg q1, if_neg q1]
    · rw [hg]; exact hrec
theorem sD_l1 (l : List GE) (hl : l.length ≤ 60) (hp : ∀ x ∈ l, x.f7.length ≤ 1000) (hall : ∀ x ∈ l, allB l x.f7 = true) (x4 : Int) (res : List Int) (m : Nat) : ∀ (i : Nat) (d : List Int), i + m = l.length → d.length = l.length → DepOk d →
    Ev (fun k => spec_l03Depths.l0 k l (sweepF (pv l) m i d) (wrap64 (x4 + 1))) res → Ev (fun k => spec_l03Depths.l1 k l d x4 (i : Int)) res := by
  induction m with
  | zero =>
    intro i d hi hd hok h
    refine Ev.step (fun k => ?_) h
    simp only [spec_l03Depths.l1]
    rw [if_neg (by omega)]
    rfl
  | succ m ih =>
    intro i d hi hd hok h
    have hlt : i < l.length := by omega
    obtain ⟨s1, s2, _⟩ := swp_cases (pv l) d i (by omega) hok
    have hrec := ih (i + 1) (swp (pv l) d i) (by omega) (by omega) s2 h
    have h0 := (hok i).1
    by_cases c : 0 < d.getD i 0
    · have e : swp (pv l) d i = d := by unfold swp; rw [if_pos c]
      rw [e] at hrec
      refine Ev.step (fun k => ?_) hrec
      simp only [spec_l03Depths.l1]
      rw [if_pos (by omega), if_pos (by omega), if_pos (by omega), rd_getD (by omega), if_pos c, w64 (n := (i : Int) + 1) (by omega) (by omega)]
      rfl
    · have ep : pv l i = pvs l (l[i]).f7 := by unfold pv pvs; rw [dif_pos hlt]
      obtain ⟨o1, o2⟩ := inS_own d (fun j => (hok j).1) (pvs l (l[i]).f7) 0 (by omega)
      have h2 := sD_l2 l hl d hd hok x4 i hlt (hp _ (List.getElem_mem hlt)) (hall _ (List.getElem_mem hlt)) res (l[i]).f7.length 0 0 true (by omega) (by omega) (by omega)
        (fun hT => by
          rw [List.drop_zero] at hT ⊢
          obtain ⟨o3', o4⟩ := o1 hT
          have o3 : ownD d (pvs l (l[i]).f7) 1 = (inS d (pvs l (l[i]).f7) 0 true).1 + 1 := o3'
          have e : swp (pv l) d i = d.set i ((inS d (pvs l (l[i]).f7) 0 true).1 + 1) := by
            unfold swp; rw [if_neg c, ep, o3, if_pos (by omega)]
          rw [e] at hrec; exact hrec)
        (fun hF => by
          rw [List.drop_zero] at hF
          have o3 : ownD d (pvs l (l[i]).f7) 1 = 0 := o2 hF
          have e : swp (pv l) d i = d := by
            unfold swp; rw [if_neg c, ep, o3, if_neg (by omega)]
          rw [e] at hrec; exact hrec)
      refine Ev.step (fun k => ?_) h2
      simp only [spec_l03Depths.l1]
      rw [if_pos (by omega), if_pos (by omega), if_pos (by omega), rd_getD (by omega), if_neg c]
      rfl
theorem sD_l0 (l : List GE) (hl : l.length ≤ 60) (hp : ∀ x ∈ l, x.f7.length ≤ 1000) (hall : ∀ x ∈ l, allB l x.f7 = true) (m : Nat) : ∀ (i : Nat) (d : List Int), i + m = l.length → d.length = l.length → DepOk d →
    Ev (fun k => spec_l03Depths.l0 k l d (i : Int)) (roundsD (pv l) m d) := by
  induction m with
  | zero =>
    intro i d hi hd hok
    refine Ev.one (fun k => ?_)
    simp only [spec_l03Depths.l0]
    rw [if_neg (by omega)]
    rfl
  | succ m ih =>
    intro i d hi hd hok
    obtain ⟨s1, s2, _⟩ := sweep_cases (pv l) d hok
    have hrec := ih (i + 1) (sweep (pv l) d) (by omega) (by omega) s2
    have h1 := sD_l1 l hl hp hall (i : Int) (roundsD (pv l) (m + 1) d) l.length 0 d (by omega) hd hok (by
      rw [w64 (n := (i : Int) + 1) (by omega) (by omega)]
      unfold sweep at hrec
      rw [hd] at hrec
      unfold roundsD sweep
      rw [hd]
      exact hrec)
    refine Ev.step (fun k => ?_) h1
    simp only [spec_l03Depths.l0]
    rw [if_pos (by omega)]
    rfl
theorem spec_depths_ev (l : List GE) (hl : l.length ≤ 60) (hp : ∀ x ∈ l, x.f7.length ≤ 1000) (hall : ∀ x ∈ l, allB l x.f7 = true) : Ev (fun k => spec_l03Depths.f k l) (roundsD (pv l) l.length (List.replicate l.length 0)) := by
  unfold spec_l03Depths.f
  refine Ev.pos (by omega) (Ev.pos (by rw [Int.toNat_natCast]; omega) ?_)
  have := sD_l0 l hl hp hall l.length 0 (List.replicate l.length 0) (by omega) (by simp) (depOk_zero _)
  rw [Int.toNat_natCast]
  exact this

/-! The program's depths. -/
theorem rounds_add (p : Nat → List Nat) (b : Nat) : ∀ (a : Nat) (d : List Int), roundsD p (a + b) d = roundsD p b (roundsD p a d)
  | 0, d => by rw [Nat.zero_add]; rfl
  | a + 1, d => by rw [show a + 1 + b = (a + b) + 1 by omega]; exact rounds_add p b a (sweep p d)
def chF (p : Nat → List Nat) : Nat → Nat → List Int → Bool → Bool
  | 0, _, _, c => c
  | m + 1, i, d, c => chF p m (i + 1) (swp p d i) (if 0 < d.getD i 0 then c else if 0 < ownD d (p i) 1 then true else c)
theorem chF_true (p : Nat → List Nat) (m : Nat) : ∀ (i : Nat) (d : List Int), i + m = d.length → DepOk d → (zeros (sweepF p m i d) ≤ zeros d) ∧ (chF p m i d false = true → zeros (sweepF p m i d) < zeros d) ∧ (chF p m i d false = false → sweepF p m i d = d) ∧ chF p m i d true = true := by
  induction m with
  | zero => intro i d _ _; exact ⟨Nat.le_refl _, fun h => (by cases h), fun _ => rfl, rfl⟩
  | succ m ih =>
    intro i d hi hok
    obtain ⟨s1, s2, s3⟩ := swp_cases p d i (by omega) hok
    obtain ⟨g0, g1, g2, g3⟩ := ih (i + 1) (swp p d i) (by omega) s2
    unfold sweepF chF
    by_cases c : 0 < d.getD i 0
    · have e : swp p d i = d := by unfold swp; rw [if_pos c]
      rw [if_pos c, if_pos c]
      rw [e] at g0 g1 g2 g3 ⊢
      exact ⟨g0, g1, g2, g3⟩
    · rw [if_neg c, if_neg c]
      by_cases c2 : 0 < ownD d (p i) 1
      · rw [if_pos c2, if_pos c2]
        have e : swp p d i = d.set i (ownD d (p i) 1) := by unfold swp; rw [if_neg c, if_pos c2]
        have hz : zeros (swp p d i) + 1 = zeros d := by
          have h0 := (hok i).1
          rw [e]
          exact zeros_set d i _ (by omega) (by omega) (by omega)
        exact ⟨by omega, fun _ => by omega, fun h => (by rw [g3] at h; cases h), g3⟩
      · rw [if_neg c2, if_neg c2]
        have e : swp p d i = d := by unfold swp; rw [if_neg c, if_neg c2]
        rw [e] at g0 g1 g2 g3 ⊢
        exact ⟨g0, g1, g2, g3⟩
theorem chF_or (p : Nat → List Nat) (m : Nat) (i : Nat) (d : List Int) (hi : i + m = d.length) (hok : DepOk d) : chF p m i d true = true := (chF_true p m i d hi hok).2.2.2
theorem iD_l2 (l : List GE) (a0 : Int) (m2 : List GE) (hl : l.length ≤ 60) (hr : Rise l) (d : List Int) (hd : d.length = l.length) (hok : DepOk d) (left : Int) (ch : Bool) (i : Nat) (hi : i < l.length) (hp : (l[i]).f7.length ≤ 1000) (hall : allB l (l[i]).f7 = true) (res : List Int × Bool) (e : Nat) :
    ∀ (j : Nat) (a : Int), j + e = (l[i]).f7.length → 1 ≤ a → a ≤ 61 →
    (0 < ownD d (pvs l ((l[i]).f7.drop j)) a → Ev (fun k => impl_Graph_depths.l1 k (d.set i (ownD d (pvs l ((l[i]).f7.drop j)) a)) (wrap64 (left - 1)) true l (l.length : Int) ((i + 1 : Nat) : Int) a0 l m2) res) →
    (¬ 0 < ownD d (pvs l ((l[i]).f7.drop j)) a → Ev (fun k => impl_Graph_depths.l1 k d left ch l (l.length : Int) ((i + 1 : Nat) : Int) a0 l m2) res) →
    Ev (fun k => impl_Graph_depths.l2 k d left ch (i : Int) a l (l.length : Int) (i : Int) (l[i]).f7 ((l[i]).f7.length : Int) (j : Int) a0 l m2) res := by
  have hb : ∀ q : Nat, d.getD q 0 ≤ 60 := fun q => by have := (hok q).2; omega
  induction e with
  | zero =>
    intro j a hj h0 h1 hT hF
    rw [List.drop_of_length_le (by omega)] at hT hF
    refine Ev.step (fun k => ?_) (hT (show 0 < a by omega))
    simp only [impl_Graph_depths.l2]
    rw [if_neg (by omega), if_pos (by omega), if_pos (by omega), if_pos (by omega), w64 (n := (i : Int) + 1) (by omega) (by omega), Int.toNat_natCast]
    rfl
  | succ e ih =>
    intro j a hj h0 h1 hT hF
    have hlt : j < (l[i]).f7.length := by omega
    have hid : hasB l (l[i]).f7[j] = true := by
      unfold allB at hall
      exact (List.all_eq_true.1 hall) _ (List.getElem_mem hlt)
    have hat : 0 ≤ atF l (l[i]).f7[j] 0 := of_decide_eq_true hid
    obtain ⟨r, hf, hrr⟩ := find_ev l (l[i]).f7[j] (by omega) hr
    obtain ⟨hr1, hr2⟩ := hrr hid
    rw [List.drop_eq_getElem_cons hlt] at hT hF
    have ep : pvs l ((l[i]).f7[j] :: (l[i]).f7.drop (j + 1)) = r :: pvs l ((l[i]).f7.drop (j + 1)) := by
      unfold pvs; rw [List.map_cons, ← hr1, Int.toNat_natCast]
    rw [ep] at hT hF
    unfold ownD at hT hF
    have hg : rd d (r : Int) = d.getD r 0 := rd_getD (by omega)
    have h0g := (hok r).1
    have h1g := hb r
    refine Ev.step (f := fun k => (impl_find.f k l (l[i]).f7[j]).bind fun t => if 0 ≤ t.1 then (if t.1 < (d.length : Int) then (if rd d t.1 = 0 then impl_Graph_depths.l1 k d left ch l (l.length : Int) ((i + 1 : Nat) : Int) a0 l m2 else impl_Graph_depths.l2 k d left ch (i : Int) (mx a (wrap64 (rd d t.1 + 1))) l (l.length : Int) (i : Int) (l[i]).f7 ((l[i]).f7.length : Int) ((j + 1 : Nat) : Int) a0 l m2) else none) else none) (fun k => ?_) (Ev.bind hf (Ev.pos (show 0 ≤ (r : Int) by omega) (Ev.pos (show (r : Int) < (d.length : Int) by omega) ?_)))
    · simp only [impl_Graph_depths.l2]
      rw [if_pos (by omega), if_pos (by omega), if_pos (by omega), rd_at hlt, w64 (n := (i : Int) + 1) (by omega) (by omega), w64 (n := (j : Int) + 1) (by omega) (by omega)]
      simp only [if_neg (show ¬ ((0 : Nat) > 0) by omega)]
      rfl
    · by_cases c : d.getD r 0 = 0
      · rw [if_pos c] at hF
        exact Ev.pos (by rw [hg]; exact c) (hF (by omega))
      · rw [if_neg c] at hT hF
        refine Ev.neg (by rw [hg]; exact c) ?_
        have em : mx a (wrap64 (rd d (r : Int) + 1)) = max a (d.getD r 0 + 1) := by
          rw [hg, w64 (by omega) (by omega)]
          unfold mx; split <;> omega
        show Ev (fun k => impl_Graph_depths.l2 k d left ch (i : Int) (mx a (wrap64 (rd d (r : Int) + 1))) l (l.length : Int) (i : Int) (l[i]).f7 ((l[i]).f7.length : Int) ((j + 1 : Nat) : Int) a0 l m2) res
        rw [em]
        exact ih (j + 1) _ (by omega) (by omega) (by omega) hT hF
theorem iD_l1 (l : List GE) (a0 : Int) (m2 : List GE) (hl : l.length ≤ 60) (hr : Rise l) (hp : ∀ x ∈ l, x.f7.length ≤ 1000) (hall : ∀ x ∈ l, allB l x.f7 = true) (res : List Int × Bool) (m : Nat) : ∀ (i : Nat) (d : List Int) (ch : Bool), i + m = l.length → d.length = l.length → DepOk d →
    Ev (fun k => impl_Graph_depths.l0 k (sweepF (pv l) m i d) (zeros (sweepF (pv l) m i d) : Int) (chF (pv l) m i d ch) a0 l m2) res → Ev (fun k => impl_Graph_depths.l1 k d (zeros d : Int) ch l (l.length : Int) (i : Int) a0 l m2) res := by
  induction m with
  | zero =>
    intro i d ch hi hd hok h
    refine Ev.step (fun k => ?_) h
    simp only [impl_Graph_depths.l1]
    rw [if_neg (by omega)]
    rfl
  | succ m ih =>
    intro i d ch hi hd hok h
    have hlt : i < l.length := by omega
    obtain ⟨s1, s2, _⟩ := swp_cases (pv l) d i (by omega) hok
    have h0 := (hok i).1
    have hzl := zeros_le d
    unfold sweepF chF at h
    have ep : pv l i = pvs l (l[i]).f7 := by unfold pv pvs; rw [dif_pos hlt]
    have hrec := fun c' => ih (i + 1) (swp (pv l) d i) c' (by omega) (by omega) s2
    by_cases c : 0 < d.getD i 0
    · have e : swp (pv l) d i = d := by unfold swp; rw [if_pos c]
      rw [if_pos c] at h
      have h2 := hrec ch h
      rw [e] at h2
      refine Ev.step (fun k => ?_) h2
      simp only [impl_Graph_depths.l1]
      rw [if_pos (by omega), if_pos (by omega), if_pos (by omega), if_pos (by omega), rd_getD (by omega), if_pos c, w64 (n := (i : Int) + 1) (by omega) (by omega)]
      rfl
    · rw [if_neg c] at h
      have h2 := iD_l2 l a0 m2 hl hr d hd hok (zeros d : Int) ch i hlt (hp _ (List.getElem_mem hlt)) (hall _ (List.getElem_mem hlt)) res (l[i]).f7.length 0 1 (by omega) (by omega) (by omega)
        (fun hT => by
          rw [List.drop_zero] at hT ⊢
          rw [ep, if_pos hT] at h
          have e : swp (pv l) d i = d.set i (ownD d (pvs l (l[i]).f7) 1) := by unfold swp; rw [if_neg c, ep, if_pos hT]
          have hz : zeros (swp (pv l) d i) + 1 = zeros d := by
            rw [e]; exact zeros_set d i _ (by omega) (by omega) (by omega)
          have h3 := hrec true h
          rw [show (zeros (swp (pv l) d i) : Int) = wrap64 ((zeros d : Int) - 1) by rw [w64 (by omega) (by omega)]; omega, e] at h3
          exact h3)
        (fun hF => by
          rw [List.drop_zero] at hF
          rw [ep, if_neg hF] at h
          have e : swp (pv l) d i = d := by unfold swp; rw [if_neg c, ep, if_neg hF]
          have h3 := hrec ch h
          rw [e] at h3
          exact h3)
      refine Ev.step (fun k => ?_) h2
      simp only [impl_Graph_depths.l1]
      rw [if_pos (by omega), if_pos (by omega), if_pos (by omega), if_pos (by omega), rd_getD (by omega), if_neg c, rdE hlt]
      rfl
theorem iD_end (l : List GE) (a0 : Int) (m2 : List GE) (d : List Int) (ch : Bool) (h : ch = false ∨ zeros d = 0) : Ev (fun k => impl_Graph_depths.l0 k d (zeros d : Int) ch a0 l m2) (d, decide (zeros d = 0)) := by
  have hb : ((zeros d : Int) == 0) = decide (zeros d = 0) := by
    by_cases c : zeros d = 0
    · rw [c]; rfl
    · rw [decide_eq_false c]; exact beq_eq_false_iff_ne.mpr (by omega)
  have hj : Ev (fun k => impl_Graph_depths.j1 k d (zeros d : Int) false a0 l m2) (d, decide (zeros d = 0)) := by
    refine Ev.one (fun k => ?_)
    simp only [impl_Graph_depths.j1]
    rw [if_neg (by simp), hb]
  refine Ev.step (fun k => ?_) hj
  simp only [impl_Graph_depths.l0]
  cases ch with
  | false => rw [if_neg (by simp)]
  | true =>
    rcases h with h | h
    · cases h
    · rw [if_pos (by first | rfl | trivial), decide_eq_false (by omega)]
theorem iD_l0 (l : List GE) (a0 : Int) (m2 : List GE) (hl : l.length ≤ 60) (hr : Rise l) (hp : ∀ x ∈ l, x.f7.length ≤ 1000) (hall : ∀ x ∈ l, allB l x.f7 = true) (n : Nat) : ∀ (d : List Int), zeros d ≤ n → d.length = l.length → DepOk d →
    ∃ (m : Nat) (r : List Int), m ≤ zeros d ∧ r = roundsD (pv l) m d ∧ sweep (pv l) r = r ∧ Ev (fun k => impl_Graph_depths.l0 k d (zeros d : Int) true a0 l m2) (r, decide (zeros r = 0)) := by
  induction n with
  | zero =>
    intro d hn hd hok
    exact ⟨0, d, Nat.zero_le _, rfl, sweep_done _ d hok (by omega), iD_end l a0 m2 d true (Or.inr (by omega))⟩
  | succ n ih =>
    intro d hn hd hok
    by_cases c : zeros d = 0
    · exact ⟨0, d, Nat.zero_le _, rfl, sweep_done _ d hok c, iD_end l a0 m2 d true (Or.inr c)⟩
    have hgo : ∀ res, Ev (fun k => impl_Graph_depths.l0 k (sweep (pv l) d) (zeros (sweep (pv l) d) : Int) (chF (pv l) l.length 0 d false) a0 l m2) res → Ev (fun k => impl_Graph_depths.l0 k d (zeros d : Int) true a0 l m2) res := by
      intro res h
      have h1 := iD_l1 l a0 m2 hl hr hp hall res l.length 0 d false (by omega) hd hok (by unfold sweep at h; rw [hd] at h; exact h)
      have hj : Ev (fun k => impl_Graph_depths.j1 k d (zeros d : Int) true a0 l m2) res := by
        refine Ev.step (fun k => ?_) h1
        simp only [impl_Graph_depths.j1]
        rw [if_pos (by first | rfl | trivial)]
        rfl
      refine Ev.step (fun k => ?_) hj
      simp only [impl_Graph_depths.l0]
      rw [if_pos (by first | rfl | trivial), decide_eq_true (by omega)]
    obtain ⟨t1, t2, t3, _⟩ := chF_true (pv l) l.length 0 d (by omega) hok
    obtain ⟨s1, s2, _⟩ := sweep_cases (pv l) d hok
    have es : sweepF (pv l) l.length 0 d = sweep (pv l) d := by unfold sweep; rw [hd]
    rw [es] at t1 t2 t3
    cases hc : chF (pv l) l.length 0 d false with
    | false =>
      have e := t3 hc
      refine ⟨0, d, Nat.zero_le _, rfl, e, hgo _ ?_⟩
      rw [hc, e]
      exact iD_end l a0 m2 d false (Or.inl rfl)
    | true =>
      have hz := t2 hc
      obtain ⟨m, r, g1, g2, g3, g4⟩ := ih (sweep (pv l) d) (by omega) (by omega) s2
      refine ⟨m + 1, r, by omega, g2, g3, hgo _ ?_⟩
      rw [hc]
      exact g4
theorem impl_depths_ev (a0 : Int) (l m2 : List GE) (hl : l.length ≤ 60) (hr : Rise l) (hp : ∀ x ∈ l, x.f7.length ≤ 1000) (hall : ∀ x ∈ l, allB l x.f7 = true) :
    Ev (fun k => impl_Graph_depths.f k a0 l m2) (roundsD (pv l) l.length (List.replicate l.length 0), decide (zeros (roundsD (pv l) l.length (List.replicate l.length 0)) = 0)) := by
  unfold impl_Graph_depths.f
  refine Ev.pos (by omega) (Ev.pos (by rw [Int.toNat_natCast]; omega) ?_)
  rw [Int.toNat_natCast]
  obtain ⟨m, r, g1, g2, g3, g4⟩ := iD_l0 l a0 m2 hl hr hp hall l.length (List.replicate l.length 0) (by rw [zeros_replicate]; exact Nat.le_refl _) (by simp) (depOk_zero _)
  rw [zeros_replicate] at g1 g4
  have e : roundsD (pv l) l.length (List.replicate l.length 0) = r := by
    rw [show l.length = m + (l.length - m) by omega, rounds_add, show m + (l.length - m) = l.length by omega, ← g2]
    exact rounds_fix _ r g3 _
  rw [e]
  exact g4

/-! Graphs that may be so. -/
theorem evE_len {x : GE} (h : evE x = true) : x.f7.length ≤ 4 := by
  unfold evE evRight evRight0 prevRight at h
  simp only [Bool.and_eq_true, decide_eq_true_eq] at h
  omega
def depB (g1 : List GE) : Bool := decide (zeros (roundsD (pv g1) g1.length (List.replicate g1.length 0)) = 0)
def evP (g1 g2 : List GE) (x : GE) : Bool := allB g1 x.f7 && !hasB g2 x.f0
def bodyB (g1 g2 : List GE) : Bool := g1.all (evP g1 g2) && (g2.all (fun x => !allB g1 x.f7) && depB g1)
def graphB (a : Int) (g1 g2 : List GE) : Bool := decide (1 ≤ a ∧ a ≤ 3) && (decide (g1.length ≤ 60) && (decide (g2.length ≤ 20) && (rowB a none g1 && (rowB a none g2 && bodyB g1 g2))))
theorem sG_l2 (d : List Int) (hd : d.length ≤ 9223372036854775806) (m : Nat) : ∀ i : Nat, i + m = d.length → Ev (fun k => spec_GraphRight.l2 k d (i : Int)) ((d.drop i).all (fun x => decide (x ≠ 0))) := by
  induction m with
  | zero =>
    intro i hi
    rw [List.drop_of_length_le (by omega)]
    refine Ev.one (fun k => ?_)
    simp only [spec_GraphRight.l2]
    rw [if_neg (by omega)]
    rfl
  | succ m ih =>
    intro i hi
    have hlt : i < d.length := by omega
    rw [List.drop_eq_getElem_cons hlt, List.all_cons]
    by_cases c : d[i] = 0
    · rw [decide_eq_false (by simpa using c), Bool.false_and]
      refine Ev.one (fun k => ?_)
      simp only [spec_GraphRight.l2]
      rw [if_pos (by omega), if_pos (by omega), rd_at hlt, if_pos c]
    · rw [decide_eq_true c, Bool.true_and]
      refine Ev.step (fun k => ?_) (ih (i + 1) (by omega))
      simp only [spec_GraphRight.l2]
      rw [if_pos (by omega), if_pos (by omega), rd_at hlt, if_neg c, w64 (by omega) (by omega)]
      rfl
theorem all_zeros (d : List Int) : d.all (fun x => decide (x ≠ 0)) = decide (zeros d = 0) := by
  rw [Bool.eq_iff_iff, decide_eq_true_iff, List.all_eq_true]
  unfold zeros
  rw [List.countP_eq_zero]
  constructor
  · intro h x hx; have := h x hx; simpa using this
  · intro h x hx; have := h x hx; simpa using this
theorem sG_l1 (a : Int) (g1 g2 : List GE) (h1 : g1.length ≤ 9223372036854775806) (h2 : g2.length ≤ 9223372036854775806) (hp : ∀ x ∈ g2, x.f7.length ≤ 9223372036854775806) (R : Bool) (hR : Ev (fun k => (spec_l03Depths.f k g1).bind fun t => spec_GraphRight.l2 k t 0) R) (m : Nat) :
    ∀ i : Nat, i + m = g2.length → Ev (fun k => spec_GraphRight.l1 k (i : Int) a g1 g2) ((g2.drop i).all (fun x => !allB g1 x.f7) && R) := by
  induction m with
  | zero =>
    intro i hi
    rw [List.drop_of_length_le (by omega)]
    refine Ev.step (fun k => ?_) (Ev.to (show R = _ by rfl) hR)
    simp only [spec_GraphRight.l1]
    rw [if_neg (by omega)]
  | succ m ih =>
    intro i hi
    have hlt : i < g2.length := by omega
    rw [drop_cons hlt, List.all_cons]
    refine Ev.step (f := fun k => (spec_l03All.f k g1 (g2[i]).f0 (g2[i]).f1 (g2[i]).f2 (g2[i]).f3 (g2[i]).f4 (g2[i]).f5 (g2[i]).f6 (g2[i]).f7 (g2[i]).f8).bind fun t => if t = true then some false else spec_GraphRight.l1 k ((i + 1 : Nat) : Int) a g1 g2) (fun k => ?_) (Ev.bind (l03All_ev g1 g2[i] h1 (hp _ (List.getElem_mem hlt))) ?_)
    · simp only [spec_GraphRight.l1]
      rw [if_pos (by omega), if_pos (by omega), rdE hlt, w64 (by omega) (by omega)]
      rfl
    · cases c : allB g1 (g2[i]).f7 with
      | true => exact Ev.pos rfl (Ev.now _)
      | false =>
        refine Ev.neg (by simp) ?_
        simpa using ih (i + 1) (by omega)
theorem sG_l0 (a : Int) (g1 g2 : List GE) (h1 : g1.length ≤ 9223372036854775806) (h2 : g2.length ≤ 9223372036854775806) (hp : ∀ x ∈ g1, x.f7.length ≤ 9223372036854775806) (R : Bool) (m : Nat) :
    ∀ i : Nat, i + m = g1.length → ((g1.drop i).all (evP g1 g2) = true → Ev (fun k => spec_GraphRight.l1 k 0 a g1 g2) R) → Ev (fun k => spec_GraphRight.l0 k (i : Int) a g1 g2) ((g1.drop i).all (evP g1 g2) && R) := by
  induction m with
  | zero =>
    intro i hi hR
    rw [List.drop_of_length_le (by omega)] at hR ⊢
    refine Ev.step (fun k => ?_) (Ev.to (show R = _ by rfl) (hR rfl))
    simp only [spec_GraphRight.l0]
    rw [if_neg (by omega)]
  | succ m ih =>
    intro i hi hR
    have hlt : i < g1.length := by omega
    rw [drop_cons hlt, List.all_cons] at hR ⊢
    refine Ev.step (f := fun k => (spec_l03All.f k g1 (g1[i]).f0 (g1[i]).f1 (g1[i]).f2 (g1[i]).f3 (g1[i]).f4 (g1[i]).f5 (g1[i]).f6 (g1[i]).f7 (g1[i]).f8).bind fun t => if t = true then ((spec_l03At.f k g2 (g1[i]).f0).bind fun u => if u ≥ 0 then some false else spec_GraphRight.l0 k ((i + 1 : Nat) : Int) a g1 g2) else some false) (fun k => ?_) (Ev.bind (l03All_ev g1 g1[i] h1 (hp _ (List.getElem_mem hlt))) ?_)
    · simp only [spec_GraphRight.l0]
      rw [if_pos (by omega), if_pos (by omega), rdE hlt, w64 (by omega) (by omega)]
      rfl
    · cases c : allB g1 (g1[i]).f7 with
      | false =>
        have e : evP g1 g2 g1[i] = false := by unfold evP; rw [c]; rfl
        rw [e]
        exact Ev.neg (by simp) (Ev.now _)
      | true =>
        refine Ev.pos rfl (Ev.bind (l03At_ev g2 _ h2) ?_)
        by_cases q : atF g2 (g1[i]).f0 0 ≥ 0
        · have e : evP g1 g2 g1[i] = false := by unfold evP hasB; rw [decide_eq_true q, c]; rfl
          rw [e]
          exact Ev.pos q (Ev.now _)
        · have e : evP g1 g2 g1[i] = true := by unfold evP hasB; rw [decide_eq_false q, c]; rfl
          rw [e, Bool.true_and] at hR ⊢
          exact Ev.neg q (ih (i + 1) (by omega) hR)
theorem all_of_evP {g1 g2 : List GE} (h : g1.all (evP g1 g2) = true) : ∀ x ∈ g1, allB g1 x.f7 = true := by
  intro x hx
  have := (List.all_eq_true.1 h) x hx
  unfold evP at this
  simp only [Bool.and_eq_true] at this
  exact this.1
theorem sG_body (a : Int) (g1 g2 : List GE) (h1 : g1.length ≤ 60) (h2 : g2.length ≤ 20) (hr1 : rowB a none g1 = true) (hr2 : rowB a none g2 = true) : Ev (fun k => spec_GraphRight.l0 k 0 a g1 g2) (bodyB g1 g2) := by
  have l1 : ∀ x ∈ g1, x.f7.length ≤ 4 := fun x hx => evE_len (rowB_right a g1 none hr1 x hx)
  have l2 : ∀ x ∈ g2, x.f7.length ≤ 4 := fun x hx => evE_len (rowB_right a g2 none hr2 x hx)
  have h := sG_l0 a g1 g2 (by omega) (by omega) (fun x hx => by have := l1 x hx; omega) (g2.all (fun x => !allB g1 x.f7) && depB g1) g1.length 0 (by omega) (fun hall => by
    rw [List.drop_zero] at hall
    have hd := spec_depths_ev g1 h1 (fun x hx => by have := l1 x hx; omega) (all_of_evP hall)
    have hz := sG_l2 (roundsD (pv g1) g1.length (List.replicate g1.length 0)) (by have := (rounds_ok (pv g1) g1.length (List.replicate g1.length 0) (depOk_zero _)).1; rw [List.length_replicate] at this; omega) (roundsD (pv g1) g1.length (List.replicate g1.length 0)).length 0 (by omega)
    rw [List.drop_zero, all_zeros] at hz
    have := sG_l1 a g1 g2 (by omega) (by omega) (fun x hx => by have := l2 x hx; omega) (depB g1) (Ev.bind hd hz) g2.length 0 (by omega)
    rw [List.drop_zero] at this
    exact this)
  rw [List.drop_zero] at h
  exact h
theorem sG_true (a : Int) (g1 g2 : List GE) : Ev (fun k => spec_GraphRight.j0 k true a g1 g2) false := Ev.one (fun k => by simp only [spec_GraphRight.j0]; rw [if_pos (by first | rfl | trivial)])
theorem spec_GraphRight_ev (a : Int) (g1 g2 : List GE) (h1 : g1.length ≤ 9223372036854775806) (h2 : g2.length ≤ 9223372036854775806) (hp1 : ∀ x ∈ g1, x.f7.length ≤ 9223372036854775806) (hp2 : ∀ x ∈ g2, x.f7.length ≤ 9223372036854775806) :
    Ev (fun k => spec_GraphRight.f k a g1 g2) (graphB a g1 g2) := by
  unfold spec_GraphRight.f graphB
  refine Ev.take (is_eq a 1 3) ?_
  by_cases c0 : 1 ≤ a ∧ a ≤ 3
  · rw [decide_eq_true c0, Bool.true_and]
    refine Ev.pos rfl (Ev.bind (l03Row_ev g1 a 60 h1 hp1) ?_)
    by_cases c1 : g1.length ≤ 60
    · rw [decide_eq_true c1, Bool.true_and, decide_eq_false (show ¬ (g1.length : Int) > 60 by omega), Bool.not_false, Bool.true_and]
      cases r1 : rowB a none g1 with
      | false => rw [Bool.false_and, Bool.and_false]; exact Ev.neg (by simp) (sG_true a g1 g2)
      | true =>
        rw [Bool.true_and]
        refine Ev.pos rfl (Ev.bind (l03Row_ev g2 a 20 h2 hp2) ?_)
        by_cases c2 : g2.length ≤ 20
        · rw [decide_eq_true c2, Bool.true_and, decide_eq_false (show ¬ (g2.length : Int) > 20 by omega), Bool.not_false, Bool.true_and]
          cases r2 : rowB a none g2 with
          | false => rw [Bool.false_and]; exact sG_true a g1 g2
          | true =>
            rw [Bool.true_and]
            refine Ev.step (fun k => ?_) (sG_body a g1 g2 c1 c2 r1 r2)
            simp only [spec_GraphRight.j0]
            rw [if_neg (by simp)]
        · rw [decide_eq_false c2, Bool.false_and, decide_eq_true (show (g2.length : Int) > 20 by omega), Bool.not_true, Bool.false_and]
          exact sG_true a g1 g2
    · rw [decide_eq_false c1, Bool.false_and, decide_eq_true (show (g1.length : Int) > 60 by omega), Bool.not_true, Bool.false_and]
      exact Ev.neg (by simp) (sG_true a g1 g2)
  · rw [decide_eq_false c0, Bool.false_and]
    exact Ev.neg (by simp) (sG_true a g1 g2)
theorem apart_eq (g1 g2 : List GE) : g1.all (fun x => !hasB g2 x.f0) = g2.all (fun x => !hasB g1 x.f0) := by
  rw [Bool.eq_iff_iff, List.all_eq_true, List.all_eq_true]
  simp only [Bool.not_eq_true', Bool.eq_false_iff, ne_eq, hasB_iff]
  constructor
  · intro h x hx ⟨y, hy, e⟩
    exact h y hy ⟨x, hx, e.symm⟩
  · intro h x hx ⟨y, hy, e⟩
    exact h y hy ⟨x, hx, e.symm⟩
theorem all_and {α : Type} (p q : α → Bool) : ∀ l : List α, l.all (fun x => p x && q x) = (l.all p && l.all q)
  | [] => rfl
  | x :: l => by
    rw [List.all_cons, List.all_cons, List.all_cons, all_and p q l]
    cases p x <;> cases q x <;> simp
theorem any_not {α : Type} (p : α → Bool) : ∀ l : List α, (!l.any p) = l.all (fun x => !p x)
  | [] => rfl
  | x :: l => by rw [List.any_cons, List.all_cons, Bool.not_or, any_not p l]
theorem body_eq (g1 g2 : List GE) : (!g1.any (fun x => !allB g1 x.f7) && (!g2.any (fun x => hasB g1 x.f0 || allB g1 x.f7) && depB g1)) = bodyB g1 g2 := by
  unfold bodyB
  rw [any_not, any_not]
  have e1 : g1.all (evP g1 g2) = (g1.all (fun x => allB g1 x.f7) && g1.all (fun x => !hasB g2 x.f0)) := all_and _ _ g1
  have e2 : g2.all (fun x => !(hasB g1 x.f0 || allB g1 x.f7)) = (g2.all (fun x => !hasB g1 x.f0) && g2.all (fun x => !allB g1 x.f7)) := by
    rw [← all_and]; congr 1; funext x; rw [Bool.not_or]
  rw [e1, e2, apart_eq]
  simp only [Bool.not_not, Bool.and_assoc]
theorem iG_body (a : Int) (g1 g2 : List GE) (h1 : g1.length ≤ 60) (h2 : g2.length ≤ 20) (hr1 : rowB a none g1 = true) (hr2 : rowB a none g2 = true) : Ev (fun k => impl_GraphRight.j0 k a g1 g2) (bodyB g1 g2) := by
  have l1 : ∀ x ∈ g1, x.f7.length ≤ 4 := fun x hx => evE_len (rowB_right a g1 none hr1 x hx)
  have hr := rowB_rise a g1 none hr1
  unfold impl_GraphRight.j0
  rw [← body_eq]
  have q1 := anyQ_ev (q := fun k => impl_GraphRight.q1 k a g1 g2) (p := fun x => !allB g1 x.f7) g1 (fun x _ => Ev.bind (complete_ev a g1 g2 x.f7 (by omega) hr) (Ev.now _))
  refine Ev.bind q1 ?_
  cases c : g1.any (fun x => !allB g1 x.f7) with
  | true => rw [Bool.not_true, Bool.false_and]; exact Ev.pos rfl (Ev.now _)
  | false =>
    rw [Bool.not_false, Bool.true_and]
    refine Ev.neg (by simp) ?_
    have hall : ∀ x ∈ g1, allB g1 x.f7 = true := by
      intro x hx
      rw [← Bool.not_eq_true, List.any_eq_true] at c
      cases e : allB g1 x.f7 with
      | true => rfl
      | false => exact absurd ⟨x, hx, by rw [e]; rfl⟩ c
    have q2 := anyQ_ev (q := fun k => impl_GraphRight.q2 k a g1 g2) (p := fun x => hasB g1 x.f0 || allB g1 x.f7) g2 (fun x _ => by
      refine Ev.bind (has_ev a g1 g2 x.f0 (by omega) hr) ?_
      cases e : hasB g1 x.f0 with
      | true => rw [Bool.true_or]; exact Ev.pos rfl (Ev.now _)
      | false => rw [Bool.false_or]; exact Ev.neg (by simp) (complete_ev a g1 g2 x.f7 (by omega) hr))
    refine Ev.bind q2 ?_
    cases c2 : g2.any (fun x => hasB g1 x.f0 || allB g1 x.f7) with
    | true => rw [Bool.not_true, Bool.false_and]; exact Ev.pos rfl (Ev.now _)
    | false =>
      rw [Bool.not_false, Bool.true_and]
      exact Ev.neg (by simp) (Ev.bind (impl_depths_ev a g1 g2 h1 hr (fun x hx => by have := l1 x hx; omega) hall) (Ev.now _))
theorem impl_GraphRight_ev (a : Int) (g1 g2 : List GE) (h1 : g1.length ≤ 9223372036854775806) (h2 : g2.length ≤ 9223372036854775806) (hp1 : ∀ x ∈ g1, x.f7.length ≤ 9223372036854775806) (hp2 : ∀ x ∈ g2, x.f7.length ≤ 9223372036854775806) :
    Ev (fun k => impl_GraphRight.f k a g1 g2) (graphB a g1 g2) := by
  unfold impl_GraphRight.f graphB
  refine Ev.take (isRoom_eq a) ?_
  by_cases c0 : 1 ≤ a ∧ a ≤ 3
  · rw [decide_eq_true c0, Bool.true_and]
    refine Ev.pos rfl ?_
    by_cases c1 : g1.length ≤ 60
    · rw [decide_eq_true c1, Bool.true_and]
      refine Ev.neg (by omega) ?_
      by_cases c2 : g2.length ≤ 20
      · rw [decide_eq_true c2, Bool.true_and]
        refine Ev.neg (by omega) (Ev.bind (areRight_ev a g1 g2 g1 h1 hp1) ?_)
        cases r1 : rowB a none g1 with
        | false => rw [Bool.false_and]; exact Ev.neg (by simp) (Ev.now _)
        | true =>
          rw [Bool.true_and]
          refine Ev.pos rfl (Ev.bind (areRight_ev a g1 g2 g2 h2 hp2) ?_)
          cases r2 : rowB a none g2 with
          | false => rw [Bool.false_and]; exact Ev.neg (by simp) (Ev.now _)
          | true =>
            rw [Bool.true_and]
            exact Ev.pos rfl (iG_body a g1 g2 c1 c2 r1 r2)
      · rw [decide_eq_false c2, Bool.false_and]
        exact Ev.pos (by omega) (Ev.now _)
    · rw [decide_eq_false c1, Bool.false_and]
      exact Ev.pos (by omega) (Ev.now _)
  · rw [decide_eq_false c0, Bool.false_and]
    exact Ev.neg (by simp) (Ev.now _)

/-! What stands behind what: the program's search with a set of numbers, the reference's with a row of marks. -/
theorem graphB_facts {a : Int} {g1 g2 : List GE} (h : graphB a g1 g2 = true) : g1.length ≤ 60 ∧ Rise g1 ∧ (∀ x ∈ g1, x.f7.length ≤ 4) ∧ ∀ x ∈ g1, allB g1 x.f7 = true := by
  unfold graphB bodyB at h
  simp only [Bool.and_eq_true, decide_eq_true_eq] at h
  obtain ⟨_, h1, _, h3, _, h5, _⟩ := h
  exact ⟨h1, rowB_rise a g1 none h3, fun x hx => evE_len (rowB_right a g1 none h3 x hx), all_of_evP h5⟩
def evGet (l : List GE) (id : Int) : Option GE := if 0 ≤ atF l id 0 then some (rd_T39 l (atF l id 0)) else none
theorem evGet_some {l : List GE} {id : Int} {e : GE} (h : evGet l id = some e) : e ∈ l ∧ e.f0 = id := by
  unfold evGet at h
  by_cases c : 0 ≤ atF l id 0
  · rw [if_pos c] at h
    rcases atF_cases id l 0 with ⟨j, hj, h1, h2⟩ | ⟨_, h2⟩
    · rw [h2, Nat.zero_add, rdE hj] at h
      obtain rfl := Option.some.inj h
      exact ⟨List.getElem_mem hj, h1⟩
    · omega
  · rw [if_neg c] at h; cases h
theorem evGet_none {l : List GE} {id : Int} (h : ∀ x ∈ l, x.f0 ≠ id) : evGet l id = none := by
  unfold evGet
  rcases atF_cases id l 0 with ⟨j, hj, h1, _⟩ | ⟨_, h2⟩
  · exact absurd h1 (h _ (List.getElem_mem hj))
  · rw [if_neg (by omega)]
def zeroE : GE := ⟨0, 0, 0, 0, 0, 0, ⟨#[]⟩, [], 0⟩
def tupE (e : GE) : Int × Int × Int × Int × Int × Int × ByteArray × List Int × Int := (e.f0, e.f1, e.f2, e.f3, e.f4, e.f5, e.f6, e.f7, e.f8)
def tupB (o : Option GE) : Int × Int × Int × Int × Int × Int × ByteArray × List Int × Int × Bool := let e := o.getD zeroE; (e.f0, e.f1, e.f2, e.f3, e.f4, e.f5, e.f6, e.f7, e.f8, o.isSome)
theorem at_ev (a : Int) (l m : List GE) (id : Int) (hl : l.length ≤ 4611686018427387903) (hr : Rise l) : Ev (fun k => impl_Graph_at.f k a l m id) (tupB (evGet l id)) := by
  obtain ⟨r, h1, h2⟩ := find_ev l id hl hr
  unfold impl_Graph_at.f
  refine Ev.bind h1 ?_
  by_cases c : hasB l id = true
  · obtain ⟨e1, e2⟩ := h2 c
    have h0 : 0 ≤ atF l id 0 := of_decide_eq_true c
    refine Ev.pos c (Ev.pos (by omega) (Ev.pos (by omega) (Ev.to ?_ (Ev.now _))))
    unfold evGet
    rw [if_pos h0, ← e1]; rfl
  · refine Ev.neg c (Ev.to ?_ (Ev.now _))
    unfold hasB at c
    rw [decide_eq_true_iff] at c
    unfold evGet
    rw [if_neg c]; rfl
theorem count_marked : ∀ (m : List Bool) (j : Nat) (h : j < m.length), m[j] = false → (m.set j true).count false + 1 = m.count false
  | [], j, h, _ => by simp at h
  | b :: m, 0, _, e => by
    have e' : b = false := e
    subst e'
    simp
  | b :: m, j + 1, h, e => by
    have h' : j < m.length := by simpa using h
    have ih := count_marked m j h' (by simpa using e)
    rw [List.set_cons_succ, List.count_cons, List.count_cons]
    omega
theorem sA_step (k : Nat) (a a0 : Int) (l m : List GE) (mk : List Bool) (id : Int) (r : List Int) :
    spec_l03Ahead.l0 (k + 1) a mk (id :: r) a0 l m = (spec_l03At.f k l id).bind fun t => if id = a then some true else if 0 ≤ t then (if t < (mk.length : Int) then (if rdOf false mk t = true then spec_l03Ahead.l0 k a mk r a0 l m else if t < (l.length : Int) then (if r.length + ((rd_T39 l t).f7).length < 17592186044416 then spec_l03Ahead.l0 k a (mk.set (t : Int).toNat true) (r ++ (rd_T39 l t).f7) a0 l m else none) else none) else none) else none := by
  simp only [spec_l03Ahead.l0]
  rw [if_pos (by simp only [List.length_cons]; omega), if_pos (by simp only [List.length_cons]; omega), if_pos (by simp only [List.length_cons]; omega)]
  rfl
theorem iA_step (k : Nat) (a a0 : Int) (l m : List GE) (q s : List Int) (i : Nat) (h : i < q.length) (id : Int) (hid : q[i] = id) (hq : q.length ≤ 9223372036854775806) (ho : ok64 id) (hs : s.length < 1000000) :
    impl_Graph_ahead.l0 (k + 1) a0 l m a q s (i : Int) = if id = a then some true else if id ∈ s then impl_Graph_ahead.l0 k a0 l m a q s ((i + 1 : Nat) : Int) else (impl_Graph_at.f k a0 l m id).bind fun x => if q.length + x.2.2.2.2.2.2.2.1.length < 17592186044416 then impl_Graph_ahead.l0 k a0 l m a (q ++ x.2.2.2.2.2.2.2.1) (id :: s) ((i + 1 : Nat) : Int) else none := by
  simp only [impl_Graph_ahead.l0]
  rw [if_pos (by omega), if_pos (by omega), rd_at h, hid, if_pos (show ok64 id ∧ s.length < 1000000 from ⟨ho, hs⟩), w64 (by omega) (by omega)]
  rfl
theorem ahead_twin (a0 : Int) (l m : List GE) (a : Int) (hl : l.length ≤ 60) (hr : Rise l) (h4 : ∀ x ∈ l, x.f7.length ≤ 4) (hall : ∀ x ∈ l, allB l x.f7 = true) (hok : ∀ x ∈ l, ok64 x.f0) : ∀ (n : Nat) (todo s : List Int) (mk : List Bool) (q : List Int) (i : Nat),
    todo.length + 4 * mk.count false ≤ n → mk.length = l.length → (∀ (j : Nat) (h : j < l.length) (h' : j < mk.length), mk[j] = decide ((l[j]).f0 ∈ s)) → s.length + mk.count false = l.length → q.length ≤ 4 + 4 * s.length → i ≤ q.length → q.drop i = todo → (∀ id ∈ todo, hasB l id = true) →
    ∃ b : Bool, Ev (fun k => impl_Graph_ahead.l0 k a0 l m a q s (i : Int)) b ∧ Ev (fun k => spec_l03Ahead.l0 k a mk todo a0 l m) b := by
  intro n
  induction n with
  | zero =>
    intro todo s mk q i hn _ _ _ _ hi hd _
    have h0 : todo.length = 0 := by omega
    have hq : q.length ≤ i := by
      have := congrArg List.length hd
      rw [List.length_drop, h0] at this
      omega
    obtain rfl := List.eq_nil_of_length_eq_zero h0
    refine ⟨false, Ev.one (fun k => ?_), Ev.one (fun k => ?_)⟩
    · simp only [impl_Graph_ahead.l0]
      rw [if_neg (by omega)]
    · simp only [spec_l03Ahead.l0]
      rw [if_neg (by simp)]
  | succ n ih =>
    intro todo s mk q i hn hml hmk hsum hql hi hd hmem
    cases todo with
    | nil =>
      have hq : q.length ≤ i := by
        have := congrArg List.length hd
        rw [List.length_drop, List.length_nil] at this
        omega
      refine ⟨false, Ev.one (fun k => ?_), Ev.one (fun k => ?_)⟩
      · simp only [impl_Graph_ahead.l0]
        rw [if_neg (by omega)]
      · simp only [spec_l03Ahead.l0]
        rw [if_neg (by simp)]
    | cons id r =>
      have hlt : i < q.length := by
        have := congrArg List.length hd
        rw [List.length_drop, List.length_cons] at this
        omega
      rw [List.drop_eq_getElem_cons hlt] at hd
      injection hd with hid hrest
      have hb := hmem id (List.mem_cons_self)
      have h0 : 0 ≤ atF l id 0 := of_decide_eq_true hb
      have hat := l03At_ev l id (by omega)
      rcases atF_cases id l 0 with ⟨j, hj, h1, h2⟩ | ⟨_, h2⟩
      case inr => omega
      rw [Nat.zero_add] at h2
      rw [h2] at hat
      have ho : ok64 id := h1 ▸ hok _ (List.getElem_mem hj)
      have hs : s.length < 1000000 := by omega
      have hq9 : q.length ≤ 9223372036854775806 := by omega
      by_cases ca : id = a
      · refine ⟨true, Ev.one (fun k => ?_), Ev.step (fun k => sA_step k a a0 l m mk id r) (Ev.bind hat (Ev.pos ca (Ev.now _)))⟩
        rw [iA_step k a a0 l m q s i hlt id hid hq9 ho hs, if_pos ca]
      · have hjm : j < mk.length := by omega
        have hval := hmk j hj hjm
        rw [h1] at hval
        have hrd : rdOf false mk (j : Int) = mk[j] := getD_at _ hjm
        by_cases cs : id ∈ s
        · rw [decide_eq_true cs] at hval
          obtain ⟨b, e1, e2⟩ := ih r s mk q (i + 1) (by simp only [List.length_cons] at hn; omega) hml hmk hsum hql (by omega) hrest (fun y hy => hmem y (List.mem_cons_of_mem _ hy))
          refine ⟨b, Ev.step (fun k => ?_) e1, Ev.step (fun k => sA_step k a a0 l m mk id r) (Ev.bind hat (Ev.neg ca (Ev.pos (by omega) (Ev.pos (by omega) (Ev.pos (by rw [hrd, hval]) e2)))))⟩
          rw [iA_step k a a0 l m q s i hlt id hid hq9 ho hs, if_neg ca, if_pos cs]
        · rw [decide_eq_false cs] at hval
          have hcount := count_marked mk j hjm hval
          have hmemj : l[j] ∈ l := List.getElem_mem hj
          have hp4 := h4 _ hmemj
          have hget : evGet l id = some l[j] := by
            unfold evGet
            rw [if_pos h0, h2, rdE hj]
          have hI := at_ev a0 l m id (by omega) hr
          rw [hget] at hI
          obtain ⟨b, e1, e2⟩ := ih (r ++ (l[j]).f7) (id :: s) (mk.set j true) (q ++ (l[j]).f7) (i + 1) (by simp only [List.length_cons, List.length_append] at hn ⊢; omega) (by rw [List.length_set]; exact hml)
            (fun j' h' h'' => by
              rw [List.getElem_set]
              by_cases cj : j = j'
              · subst cj
                rw [if_pos rfl, h1, decide_eq_true (List.mem_cons_self)]
              · rw [if_neg cj, hmk j' h' (by rw [List.length_set] at h''; exact h''), decide_eq_decide, List.mem_cons]
                refine ⟨.inr, fun h => h.resolve_left (fun he => ?_)⟩
                rcases Nat.lt_or_gt_of_ne cj with c | c
                · have := hr j j' hj h' c
                  omega
                · have := hr j' j h' hj c
                  omega) (by simp only [List.length_cons]; omega) (by simp only [List.length_cons, List.length_append]; omega) (by rw [List.length_append]; omega)
            (by rw [List.drop_append_of_le_length (by omega), hrest])
            (fun y hy => by
              rcases List.mem_append.1 hy with h | h
              · exact hmem y (List.mem_cons_of_mem _ h)
              · exact List.all_eq_true.1 (hall _ hmemj) y h)
          have hI2 : Ev (fun k => (impl_Graph_at.f k a0 l m id).bind fun x => if q.length + x.2.2.2.2.2.2.2.1.length < 17592186044416 then impl_Graph_ahead.l0 k a0 l m a (q ++ x.2.2.2.2.2.2.2.1) (id :: s) ((i + 1 : Nat) : Int) else none) b := by
            refine Ev.bind (f := fun k x => if q.length + x.2.2.2.2.2.2.2.1.length < 17592186044416 then impl_Graph_ahead.l0 k a0 l m a (q ++ x.2.2.2.2.2.2.2.1) (id :: s) ((i + 1 : Nat) : Int) else none) hI ?_
            show Ev (fun k => if q.length + (l[j]).f7.length < 17592186044416 then impl_Graph_ahead.l0 k a0 l m a (q ++ (l[j]).f7) (id :: s) ((i + 1 : Nat) : Int) else none) b
            exact Ev.pos (by omega) e1
          refine ⟨b, Ev.step (fun k => ?_) hI2, Ev.step (fun k => sA_step k a a0 l m mk id r) (Ev.bind hat (Ev.neg ca (Ev.pos (by omega) (Ev.pos (by omega) (Ev.neg (by rw [hrd, hval]; simp) (Ev.pos (by omega) ?_))))))⟩
          · rw [iA_step k a a0 l m q s i hlt id hid hq9 ho hs, if_neg ca, if_neg cs]
          · rw [rdE hj]
            refine Ev.pos ?_ e2
            have := congrArg List.length hrest
            rw [List.length_drop] at this
            omega
theorem event_prev (a0 : Int) (l m : List GE) (id : Int) (hl : l.length ≤ 60) (h4 : ∀ x ∈ l, x.f7.length ≤ 4) (j : Nat) (hj : j < l.length) (h2 : atF l id 0 = (j : Int)) : ∃ t, Ev (fun k => spec_l03Event.f k a0 l m id) t ∧ t.2.2.2.2.2.2.2.1 = (l[j]).f7 := by
  have hat := l03At_ev l id (by omega)
  rw [h2] at hat
  have hp4 := h4 _ (List.getElem_mem hj)
  refine ⟨((l[j]).f0, (l[j]).f1, (l[j]).f2, (l[j]).f3, (l[j]).f4, (l[j]).f5, (l[j]).f6, (l[j]).f7, (l[j]).f8), ?_, rfl⟩
  unfold spec_l03Event.f
  refine Ev.bind hat (Ev.neg (by omega) (Ev.pos (by omega) (Ev.pos (by omega) ?_)))
  rw [rdE hj]
  refine Ev.here ?_
  unfold spec_l02Copy.f
  simp only [Option.bind_some, List.nil_append, List.length_nil]
  rw [if_pos (by omega)]
  rfl
/-- In a right graph both searches give one answer. -/
theorem ahead_both (a0 : Int) (l m : List GE) (a b : Int) (hl : l.length ≤ 60) (hr : Rise l) (h4 : ∀ x ∈ l, x.f7.length ≤ 4) (hall : ∀ x ∈ l, allB l x.f7 = true) (hok : ∀ x ∈ l, ok64 x.f0) :
    ∃ r : Bool, Ev (fun k => (impl_Graph_has.f k a0 l m a).bind fun t => impl_AheadOf.j0 k a b (!t) a0 l m) r ∧ Ev (fun k => spec_l03Ahead.f k a0 l m a b) r := by
  have hA := has_ev a0 l m a (by omega) hr
  have sA := l03At_ev l a (by omega)
  have sB := l03At_ev l b (by omega)
  have sT : Ev (fun k => spec_l03Ahead.j0 k a b true a0 l m) false := Ev.one (fun k => by simp only [spec_l03Ahead.j0]; rw [if_pos (by first | rfl | trivial)])
  unfold spec_l03Ahead.f
  by_cases ca : hasB l a = true
  case neg =>
    refine ⟨false, Ev.bind hA ?_, Ev.bind sA (Ev.pos (by unfold hasB at ca; simpa using ca) sT)⟩
    rw [show hasB l a = false by simpa using ca]
    exact Ev.one (fun k => by simp only [impl_AheadOf.j0]; rw [if_pos (by first | rfl | trivial)])
  have h0 : 0 ≤ atF l a 0 := of_decide_eq_true ca
  have hB := at_ev a0 l m b (by omega) hr
  rcases atF_cases b l 0 with ⟨j, hj, h1, h2⟩ | ⟨_, h2⟩
  case inr =>
    refine ⟨false, Ev.bind hA ?_, Ev.bind sA (Ev.neg (by omega) (Ev.bind sB ?_))⟩
    · rw [ca]
      have hg : evGet l b = none := by unfold evGet; rw [if_neg (by omega)]
      rw [hg] at hB
      refine Ev.step (f := fun k => (impl_Graph_at.f k a0 l m b).bind fun x => if x.2.2.2.2.2.2.2.2.2 = true then ((impl_Graph_ahead.f k a0 l m a x.1 x.2.1 x.2.2.1 x.2.2.2.1 x.2.2.2.2.1 x.2.2.2.2.2.1 x.2.2.2.2.2.2.1 x.2.2.2.2.2.2.2.1 x.2.2.2.2.2.2.2.2.1).bind fun t => some t) else some false) (fun k => ?_) (Ev.bind hB (Ev.neg (fun h => by cases h) (Ev.now _)))
      simp only [impl_AheadOf.j0]
      rw [if_neg (by simp)]
    · rw [decide_eq_true (show atF l b 0 < 0 by omega)]
      exact sT
  rw [Nat.zero_add] at h2
  have hget : evGet l b = some l[j] := by
    unfold evGet
    rw [if_pos (by omega), h2, rdE hj]
  rw [hget] at hB
  have hmemj : l[j] ∈ l := List.getElem_mem hj
  have hp4 := h4 _ hmemj
  obtain ⟨r, e1, e2⟩ := ahead_twin a0 l m a hl hr h4 hall hok ((l[j]).f7.length + 4 * (List.replicate l.length false).count false) (l[j]).f7 [] (List.replicate l.length false) (l[j]).f7 0 (Nat.le_refl _) (List.length_replicate) (fun j' _ _ => by rw [List.getElem_replicate]; exact (decide_eq_false (by simp)).symm) (by rw [List.count_replicate_self]; simp) (by simp only [List.length_nil]; omega) (by omega) (List.drop_zero) (fun y hy => List.all_eq_true.1 (hall _ hmemj) y hy)
  refine ⟨r, Ev.bind hA ?_, Ev.bind sA (Ev.neg (by omega) (Ev.bind sB ?_))⟩
  · rw [ca]
    refine Ev.step (f := fun k => (impl_Graph_at.f k a0 l m b).bind fun x => if x.2.2.2.2.2.2.2.2.2 = true then ((impl_Graph_ahead.f k a0 l m a x.1 x.2.1 x.2.2.1 x.2.2.2.1 x.2.2.2.2.1 x.2.2.2.2.2.1 x.2.2.2.2.2.2.1 x.2.2.2.2.2.2.2.1 x.2.2.2.2.2.2.2.2.1).bind fun t => some t) else some false) (fun k => ?_) (Ev.bind hB (Ev.pos rfl (Ev.bind ?_ (Ev.now _))))
    · simp only [impl_AheadOf.j0]
      rw [if_neg (by simp)]
    · unfold impl_Graph_ahead.f slices_Clone_int64_int64.f
      show Ev (fun k => (if (l[j]).f7.length ≤ 1000000000000 then some (l[j]).f7 else none).bind fun q => impl_Graph_ahead.l0 k a0 l m a q [] 0) r
      rw [if_pos (by omega)]
      exact e1
  · rw [decide_eq_false (show ¬ atF l b 0 < 0 by omega)]
    obtain ⟨t, ht, htp⟩ := event_prev a0 l m b hl h4 j hj h2
    refine Ev.step (f := fun k => (spec_l03Event.f k a0 l m b).bind fun t => if ([] : List Int).length + t.2.2.2.2.2.2.2.1.length < 17592186044416 then spec_l03Ahead.l0 k a (List.replicate ((l.length : Int) : Int).toNat false) ([] ++ t.2.2.2.2.2.2.2.1) a0 l m else none) (fun k => ?_) (Ev.bind ht ?_)
    · simp only [spec_l03Ahead.j0]
      rw [if_neg (by simp), if_pos (by omega), if_pos (by omega)]
      rfl
    · rw [htp]
      refine Ev.pos (by simp only [List.length_nil]; omega) ?_
      rw [List.nil_append, Int.toNat_natCast]
      exact e2
/-- AheadOf of both, with one answer. -/
theorem AheadOf_both (a : Int) (g1 g2 : List GE) (x y : Int) (h1 : g1.length ≤ 4611686018427387903) (h2 : g2.length ≤ 9223372036854775806) (hp1 : ∀ x ∈ g1, x.f7.length ≤ 9223372036854775806) (hp2 : ∀ x ∈ g2, x.f7.length ≤ 9223372036854775806) (hok : ∀ x ∈ g1, ok64 x.f0) :
    ∃ r : Bool, Ev (fun k => spec_AheadOf.f k a g1 g2 x y) r ∧ Ev (fun k => impl_AheadOf.f k a g1 g2 x y) r := by
  unfold spec_AheadOf.f impl_AheadOf.f
  have hG := impl_GraphRight_ev a g1 g2 (by omega) h2 hp1 hp2
  have hS := spec_GraphRight_ev a g1 g2 (by omega) h2 hp1 hp2
  by_cases c : graphB a g1 g2 = true
  · obtain ⟨f1, f2, f3, f4⟩ := graphB_facts c
    obtain ⟨r, e1, e2⟩ := ahead_both a g1 g2 x y f1 f2 f3 f4 hok
    exact ⟨r, Ev.bind hS (Ev.pos c (Ev.bind e2 (Ev.now _))), Ev.bind hG (Ev.pos c e1)⟩
  · exact ⟨false, Ev.bind hS (Ev.neg c (Ev.now _)), Ev.bind hG (Ev.neg c (Ev.one (fun k => by simp only [impl_AheadOf.j0]; rw [if_pos (by first | rfl | trivial)])))⟩


end Go.Proofs.Ythpclkkkpponkaa.Print
