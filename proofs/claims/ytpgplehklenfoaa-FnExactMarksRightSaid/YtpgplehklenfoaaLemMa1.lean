/- Lemmas: valid marks. -/
import Derived.Test.YtpgplehklenfoaaStFnExactMarksRight
import Derived.Laws.Bits64
namespace Go.Proofs.Ytpgplehklenfoaa.Print
open Go.RowKit Go.Proofs.YtpgplehklenfoaaW.PrintWords Go.Proofs.YtpgplehklenfoaaW.PrintLast Go.Proofs.YtpgplehklenfoaaW.PrintMore
set_option linter.unusedVariables false
set_option linter.unusedSimpArgs false

/-! Rounds: small helpers. -/
theorem Ev.pos {α : Type} {c : Prop} [Decidable c] {f g : Nat → Option α} {r : α} (hc : c) (h : Ev f r) : Ev (fun n => if c then f n else g n) r := by
  simp only [hc, if_true]; exact h
theorem Ev.neg {α : Type} {c : Prop} [Decidable c] {f g : Nat → Option α} {r : α} (hc : ¬ c) (h : Ev g r) : Ev (fun n => if c then f n else g n) r := by
  simp only [hc, if_false]; exact h
theorem Ev.here {α : Type} {o : Option α} {r : α} (h : o = some r) : Ev (fun _ => o) r := ⟨0, fun _ _ => h⟩
theorem Ev.take {α β : Type} {o : Option α} {f : Nat → α → Option β} {a : α} {r : β} (h : o = some a) (k : Ev (fun n => f n a) r) : Ev (fun n => o.bind (f n)) r := by
  subst h; exact k
theorem Ev.one {α : Type} {g : Nat → Option α} {r : α} (h : ∀ k, g (k + 1) = some r) : Ev g r := Ev.step (f := fun _ => some r) h (Ev.now r)
theorem Ev.to {α : Type} {g : Nat → Option α} {r q : α} (e : r = q) (h : Ev g r) : Ev g q := e ▸ h

/-! Lists of structs, read one by one. -/
theorem w64 {n : Int} (h0 : -9223372036854775808 ≤ n) (h1 : n ≤ 9223372036854775807) : wrap64 n = n := by unfold wrap64; omega
theorem drop_cons {α : Type} {l : List α} {i : Nat} (h : i < l.length) : l.drop i = l[i] :: l.drop (i + 1) := List.drop_eq_getElem_cons h
theorem getD_at {α : Type} {l : List α} {i : Nat} (d : α) (h : i < l.length) : l.getD ((i : Int)).toNat d = l[i] := by
  rw [Int.toNat_natCast, List.getD_eq_getElem?_getD, List.getElem?_eq_getElem h]; rfl

/-! Ranges. -/
theorem in_eq (a b c : Int) : impl_in.f a b c = some (decide (b ≤ a ∧ a ≤ c)) := by
  unfold impl_in.f; split <;> simp [*]
theorem is_eq (a b c : Int) : spec_l02Is.f a b c = some (decide (b ≤ a ∧ a ≤ c)) := by
  unfold spec_l02Is.f
  by_cases h : b ≤ a
  · rw [if_pos h]; simp [h]
  · rw [if_neg h]; simp [h]

theorem isUser_eq (a : Int) : impl_isUser.f a = some (decide (1 ≤ a ∧ a ≤ 6)) := by unfold impl_isUser.f; rw [in_eq]; rfl
theorem l02User_eq (a : Int) : spec_l02User.f a = some (decide (1 ≤ a ∧ a ≤ 6)) := by unfold spec_l02User.f; rw [is_eq]; rfl

/-! The laws' helpers on lists of numbers. -/
theorem rd_at {l : List Int} {i : Nat} (h : i < l.length) : rd l (i : Int) = l[i] := getD_at _ h
theorem szInt64S_eq (l : List Int) (a : Int) (ha : -1 ≤ a) (h : a ≤ 1048576) (hn : l.length ≤ 9223372036854775807) : laws_szInt64S.f l a = some (if a < l.length then -1 else a - l.length) := by
  unfold laws_szInt64S.f
  rw [w64 (by omega) (by omega)]
  by_cases c : a < l.length
  · rw [if_pos (by omega), if_pos c]
  · rw [if_neg (by omega), if_neg c]
theorem toInt64S_l0 (l : List Int) (hl : l.length ≤ 1048576) (d : Nat) : ∀ (i : Nat) (acc : List Int), i + d = l.length → acc.length = l.length → acc.take i = l.take i →
    Ev (fun k => laws_toInt64S.l0 k l acc (i : Int)) l := by
  induction d with
  | zero =>
    intro i acc hi ha hp
    refine Ev.to ?_ (Ev.one (r := acc) (fun k => ?_))
    · rw [List.take_of_length_le (by omega), List.take_of_length_le (by omega)] at hp
      exact hp
    · simp only [laws_toInt64S.l0]
      rw [if_neg (by omega)]
  | succ d ih =>
    intro i acc hi ha hp
    have hlt : i < l.length := by omega
    refine Ev.step (f := fun k => laws_toInt64S.l0 k l (acc.set i l[i]) ((i + 1 : Nat) : Int)) (fun k => ?_) (ih (i + 1) (acc.set i l[i]) (by omega) (by simpa using ha) ?_)
    · simp only [laws_toInt64S.l0]
      rw [if_pos (by omega), if_pos (by omega), if_pos (by omega), rd_at hlt, w64 (by omega) (by omega), Int.toNat_natCast]
      rfl
    · rw [List.take_succ_eq_append_getElem (by simp; omega), List.take_succ_eq_append_getElem hlt, ← hp, List.take_set_of_le (by omega)]
      simp
theorem toInt64S_ev (l : List Int) (hl : l.length ≤ 1048576) : Ev (fun k => laws_toInt64S.f k l) l := by
  unfold laws_toInt64S.f
  refine Ev.pos (by omega) (Ev.pos (by simp; omega) ?_)
  exact toInt64S_l0 l hl l.length 0 _ (by omega) (by simp) (by simp)
theorem eqInt64S_l0 (l : List Int) (hl : l.length ≤ 9223372036854775806) (d : Nat) : ∀ i : Nat, i + d = l.length → Ev (fun k => laws_eqInt64S.l0 k l l (i : Int)) true := by
  induction d with
  | zero =>
    intro i hi
    refine Ev.one (fun k => ?_)
    simp only [laws_eqInt64S.l0]
    rw [if_neg (by omega)]
  | succ d ih =>
    intro i hi
    refine Ev.step (f := fun k => laws_eqInt64S.l0 k l l ((i + 1 : Nat) : Int)) (fun k => ?_) (ih (i + 1) (by omega))
    simp only [laws_eqInt64S.l0]
    rw [if_pos (by omega), if_pos (by omega), if_pos (by omega), if_pos (by trivial), w64 (by omega) (by omega)]; rfl
theorem eqInt64S_ev (l : List Int) (hl : l.length ≤ 9223372036854775806) : Ev (fun k => laws_eqInt64S.f k l l) true := by
  unfold laws_eqInt64S.f
  exact Ev.pos rfl (eqInt64S_l0 l hl l.length 0 (by omega))

/-! Valid marks. -/
def mkRight (u : Int) (l : List Int) : Bool := decide (1 ≤ u ∧ u ≤ 6) && (decide (l.length = 3) && l.all fun x => decide (0 ≤ x ∧ x ≤ 120))
theorem mk_index_l0 (l : List Int) (hl : l.length ≤ 9223372036854775806) (d : Nat) : ∀ i : Nat, i + d = l.length →
    ∃ r : Int, Ev (fun k => slices_IndexFunc_int64_int64.l0 k l (l.length : Int) (i : Int)) r ∧ decide (r ≥ 0) = !((l.drop i).all fun x => decide (0 ≤ x ∧ x ≤ 120)) := by
  induction d with
  | zero =>
    intro i hi
    refine ⟨-1, Ev.one (fun k => ?_), ?_⟩
    · simp only [slices_IndexFunc_int64_int64.l0]
      rw [if_neg (by omega)]
    · rw [List.drop_of_length_le (by omega)]; rfl
  | succ d ih =>
    intro i hi
    have hlt : i < l.length := by omega
    have hw : wrap64 ((i : Int) + 1) = ((i + 1 : Nat) : Int) := by unfold wrap64; omega
    have hp : ∀ x : Int, impl_MarksRight_1.f x = some (!decide (0 ≤ x ∧ x ≤ 120)) := by intro x; unfold impl_MarksRight_1.f; rw [in_eq]; rfl
    rw [drop_cons hlt, List.all_cons]
    by_cases c : 0 ≤ l[i] ∧ l[i] ≤ 120
    · obtain ⟨r, h1, h2⟩ := ih (i + 1) (by omega)
      refine ⟨r, Ev.step (f := fun k => slices_IndexFunc_int64_int64.l0 k l (l.length : Int) ((i + 1 : Nat) : Int)) (fun k => ?_) h1, ?_⟩
      · simp only [slices_IndexFunc_int64_int64.l0]
        rw [if_pos (by omega), if_pos (by omega), if_pos (by omega), rd_at hlt, hp, decide_eq_true c, hw]; rfl
      · rw [h2, decide_eq_true c, Bool.true_and]
    · refine ⟨(i : Int), Ev.one (fun k => ?_), ?_⟩
      · simp only [slices_IndexFunc_int64_int64.l0]
        rw [if_pos (by omega), if_pos (by omega), if_pos (by omega), rd_at hlt, hp, decide_eq_false c]; rfl
      · rw [decide_eq_false c, Bool.false_and]; exact decide_eq_true (by omega)
theorem impl_MarksRight_ev (u : Int) (l : List Int) (hl : l.length ≤ 9223372036854775806) : Ev (fun k => impl_MarksRight.f k u l) (mkRight u l) := by
  unfold impl_MarksRight.f mkRight
  refine Ev.take (isUser_eq u) ?_
  by_cases c : 1 ≤ u ∧ u ≤ 6
  · refine Ev.pos (decide_eq_true c) ?_
    rw [decide_eq_true c, Bool.true_and]
    by_cases c3 : l.length = 3
    · refine Ev.pos (by omega) ?_
      rw [decide_eq_true c3, Bool.true_and]
      obtain ⟨r, h1, h2⟩ := mk_index_l0 l hl l.length 0 (by omega)
      refine Ev.bind (a := decide (r ≥ 0)) ?_ (Ev.to ?_ (Ev.now _))
      · unfold slices_ContainsFunc_int64_int64.f slices_IndexFunc_int64_int64.f
        exact Ev.bind h1 (Ev.now _)
      · rw [h2, List.drop_zero, Bool.not_not]
    · refine Ev.neg (by omega) ?_
      rw [decide_eq_false c3, Bool.false_and]; exact Ev.now _
  · refine Ev.neg (by simpa using c) ?_
    rw [decide_eq_false c, Bool.false_and]; exact Ev.now _
theorem mk_spec_l0 (u : Int) (l : List Int) (hl : l.length ≤ 9223372036854775806) (d : Nat) : ∀ i : Nat, i + d = l.length →
    Ev (fun k => spec_MarksRight.l0 k (i : Int) u l) ((l.drop i).all fun x => decide (0 ≤ x ∧ x ≤ 120)) := by
  induction d with
  | zero =>
    intro i hi
    refine Ev.one (fun k => ?_)
    simp only [spec_MarksRight.l0]
    rw [if_neg (by omega), List.drop_of_length_le (by omega)]; rfl
  | succ d ih =>
    intro i hi
    have hlt : i < l.length := by omega
    have hw : wrap64 ((i : Int) + 1) = ((i + 1 : Nat) : Int) := by unfold wrap64; omega
    rw [drop_cons hlt, List.all_cons]
    by_cases c : 0 ≤ l[i] ∧ l[i] ≤ 120
    · rw [decide_eq_true c, Bool.true_and]
      refine Ev.step (f := fun k => spec_MarksRight.l0 k ((i + 1 : Nat) : Int) u l) (fun k => ?_) (ih (i + 1) (by omega))
      simp only [spec_MarksRight.l0]
      rw [if_pos (by omega), if_pos (by omega), rd_at hlt, is_eq, decide_eq_true c, hw]; rfl
    · rw [decide_eq_false c, Bool.false_and]
      refine Ev.one (fun k => ?_)
      simp only [spec_MarksRight.l0]
      rw [if_pos (by omega), if_pos (by omega), rd_at hlt, is_eq, decide_eq_false c]; rfl
theorem spec_MarksRight_ev (u : Int) (l : List Int) (hl : l.length ≤ 9223372036854775806) : Ev (fun k => spec_MarksRight.f k u l) (mkRight u l) := by
  unfold spec_MarksRight.f mkRight
  refine Ev.take (l02User_eq u) ?_
  by_cases c : 1 ≤ u ∧ u ≤ 6
  · refine Ev.pos (decide_eq_true c) ?_
    rw [decide_eq_true c, Bool.true_and]
    by_cases c3 : l.length = 3
    · rw [decide_eq_true c3, Bool.true_and]
      refine Ev.step (f := fun k => spec_MarksRight.l0 k 0 u l) (fun k => ?_) (mk_spec_l0 u l hl l.length 0 (by omega))
      rw [spec_MarksRight.j0, if_neg (by simp [c3])]
    · rw [decide_eq_false c3, Bool.false_and]
      refine Ev.one (fun k => ?_)
      rw [spec_MarksRight.j0, if_pos (by simp; omega)]
  · refine Ev.neg (by simpa using c) ?_
    rw [decide_eq_false c, Bool.false_and]
    refine Ev.one (fun k => ?_)
    rw [spec_MarksRight.j0, if_pos rfl]
theorem szMarks_eq (u : Int) (l : List Int) (a : Int) (ha : -1 ≤ a) (h : a ≤ 1048576) (hn : l.length ≤ 9223372036854775807) : laws_szMarks.f u l a = some (if a < l.length then -1 else a - l.length) := by
  unfold laws_szMarks.f
  rw [szInt64S_eq l a ha h hn]
  simp only [Option.bind_some]
  split
  · rfl
  · rw [if_neg (by omega)]


end Go.Proofs.Ytpgplehklenfoaa.Print
