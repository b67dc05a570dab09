/- Lemmas: two events. -/
import Derived.Test.YtjijknajgamdaaaStFnExactSameEvent
import Derived.Laws.Bits64
namespace Go.Proofs.Ytjijknajgamdaaa.Print
open Go.RowKit Go.Proofs.YtjijknajgamdaaaW.PrintWords Go.Proofs.YtjijknajgamdaaaW.PrintLast Go.Proofs.YtjijknajgamdaaaW.PrintMore
set_option linter.unusedVariables false
set_option linter.unusedSimpArgs false

/-! Rounds: small helpers. -/
theorem Ev.pos {α : Type} {c : Prop} [Decidable c] {f g : Nat → Option α} {r : α} (hc : c) (h : Ev f r) : Ev (fun n => if c then f n else g n) r := by
  simp only [hc, if_true]; exact h
theorem Ev.neg {α : Type} {c : Prop} [Decidable c] {f g : Nat → Option α} {r : α} (hc : ¬ c) (h : Ev g r) : Ev (fun n => if c then f n else g n) r := by
  simp only [hc, if_false]; exact h
theorem Ev.here {α : Type} {o : Option α} {r : α} (h : o = some r) : Ev (fun _ => o) r := ⟨0, fun _ _ => h⟩
theorem Ev.take {α β : Type} {o : Option α} {f : Nat → α → Option β} {a : α} {r : β} (h : o = some a) (k : Ev (fun n => f n a) r) : Ev (fun n => o.bind (f n)) r := by
  subst h; exact k
theorem Ev.one {α : Type} {g : Nat → Option α} {r : α} (h : ∀ k, g (k + 1) = some r) : Ev g r := Ev.step (f := fun _ => some r) h (Ev.now r)
theorem Ev.to {α : Type} {g : Nat → Option α} {r q : α} (e : r = q) (h : Ev g r) : Ev g q := e ▸ h

/-! Lists of structs, read one by one. -/
theorem w64 {n : Int} (h0 : -9223372036854775808 ≤ n) (h1 : n ≤ 9223372036854775807) : wrap64 n = n := by unfold wrap64; omega
theorem drop_cons {α : Type} {l : List α} {i : Nat} (h : i < l.length) : l.drop i = l[i] :: l.drop (i + 1) := List.drop_eq_getElem_cons h
theorem getD_at {α : Type} {l : List α} {i : Nat} (d : α) (h : i < l.length) : l.getD ((i : Int)).toNat d = l[i] := by
  rw [Int.toNat_natCast, List.getD_eq_getElem?_getD, List.getElem?_eq_getElem h]; rfl

/-! Ranges. -/
/-! The laws' helpers on lists of numbers. -/
theorem rd_at {l : List Int} {i : Nat} (h : i < l.length) : rd l (i : Int) = l[i] := getD_at _ h
theorem szInt64S_eq (l : List Int) (a : Int) (ha : -1 ≤ a) (h : a ≤ 1048576) (hn : l.length ≤ 9223372036854775807) : laws_szInt64S.f l a = some (if a < l.length then -1 else a - l.length) := by
  unfold laws_szInt64S.f
  rw [w64 (by omega) (by omega)]
  by_cases c : a < l.length
  · rw [if_pos (by omega), if_pos c]
  · rw [if_neg (by omega), if_neg c]
theorem toInt64S_l0 (l : List Int) (hl : l.length ≤ 1048576) (d : Nat) : ∀ (i : Nat) (acc : List Int), i + d = l.length → acc.length = l.length → acc.take i = l.take i →
    Ev (fun k => laws_toInt64S.l0 k l acc (i : Int)) l := by
  induction d with
  | zero =>
    intro i acc hi ha hp
    refine Ev.to ?_ (Ev.one (r := acc) (fun k => ?_))
    · rw [List.take_of_length_le (by omega), List.take_of_length_le (by omega)] at hp
      exact hp
    · simp only [laws_toInt64S.l0]
      rw [if_neg (by omega)]
  | succ d ih =>
    intro i acc hi ha hp
    have hlt : i < l.length := by omega
    refine Ev.step (f := fun k => laws_toInt64S.l0 k l (acc.set i l[i]) ((i + 1 : Nat) : Int)) (fun k => ?_) (ih (i + 1) (acc.set i l[i]) (by omega) (by simpa using ha) ?_)
    · simp only [laws_toInt64S.l0]
      rw [if_pos (by omega), if_pos (by omega), if_pos (by omega), rd_at hlt, w64 (by omega) (by omega), Int.toNat_natCast]
      rfl
    · rw [List.take_succ_eq_append_getElem (by simp; omega), List.take_succ_eq_append_getElem hlt, ← hp, List.take_set_of_le (by omega)]
      simp
theorem toInt64S_ev (l : List Int) (hl : l.length ≤ 1048576) : Ev (fun k => laws_toInt64S.f k l) l := by
  unfold laws_toInt64S.f
  refine Ev.pos (by omega) (Ev.pos (by simp; omega) ?_)
  exact toInt64S_l0 l hl l.length 0 _ (by omega) (by simp) (by simp)
theorem eqInt64S_l0 (l : List Int) (hl : l.length ≤ 9223372036854775806) (d : Nat) : ∀ i : Nat, i + d = l.length → Ev (fun k => laws_eqInt64S.l0 k l l (i : Int)) true := by
  induction d with
  | zero =>
    intro i hi
    refine Ev.one (fun k => ?_)
    simp only [laws_eqInt64S.l0]
    rw [if_neg (by omega)]
  | succ d ih =>
    intro i hi
    refine Ev.step (f := fun k => laws_eqInt64S.l0 k l l ((i + 1 : Nat) : Int)) (fun k => ?_) (ih (i + 1) (by omega))
    simp only [laws_eqInt64S.l0]
    rw [if_pos (by omega), if_pos (by omega), if_pos (by omega), if_pos (by trivial), w64 (by omega) (by omega)]; rfl
theorem eqInt64S_ev (l : List Int) (hl : l.length ≤ 9223372036854775806) : Ev (fun k => laws_eqInt64S.f k l l) true := by
  unfold laws_eqInt64S.f
  exact Ev.pos rfl (eqInt64S_l0 l hl l.length 0 (by omega))

/-! Valid events. -/
def incFrom : Int → List Int → Bool
  | _, [] => true
  | lo, x :: r => decide (lo ≤ x ∧ x ≤ 1000000) && incFrom (x + 1) r
def prevRight (l : List Int) (id : Int) : Bool := decide (l.length ≤ 4) && (incFrom 1 l && !l.contains id)

/-- The fields that a kind of event has. -/
def evFields (kind key n : Int) (size : Nat) : Bool :=
  if kind = 1 then decide (key = 0 ∧ n = 0 ∧ size = 0) else
  if kind = 2 then decide ((1 ≤ key ∧ key ≤ 6) ∧ (1 ≤ n ∧ n ≤ 4) ∧ size = 0) else
  if kind = 3 then decide ((1 ≤ key ∧ key ≤ 6) ∧ (0 ≤ n ∧ n ≤ 100) ∧ size = 0) else
  if kind = 4 then decide (key = 0 ∧ n = 0 ∧ size ≤ 30) else
  if kind = 5 then decide (key = 0 ∧ (1 ≤ n ∧ n ≤ 2) ∧ size = 0) else
  if kind = 6 then decide (key = 0 ∧ (1 ≤ n ∧ n ≤ 3) ∧ size = 0) else
  if kind = 7 then decide (key = 0 ∧ n = 0 ∧ 1 ≤ size ∧ size ≤ 30) else
  if kind = 8 then decide ((1 ≤ key ∧ key ≤ 1000000) ∧ n = 0 ∧ size = 0) else false
theorem size_zero_iff (s : ByteArray) : s.toList = [] ↔ s.size = 0 := by
  rw [ByteArray.toList_eq]
  constructor
  · intro h; have := congrArg List.length h; simpa using this
  · intro h; exact List.eq_nil_of_length_eq_zero (by simpa using h)
theorem toList_nil_beq (s : ByteArray) : (s.toList == ([] : List UInt8)) = decide (s.size = 0) := by
  rw [Bool.eq_iff_iff, beq_iff_eq, decide_eq_true_iff, size_zero_iff]
theorem size_beq (s : ByteArray) : ((s.size : Int) == 0) = decide (s.size = 0) := by
  rw [Bool.eq_iff_iff, beq_iff_eq, decide_eq_true_iff]; omega
theorem some_ite {c : Prop} [Decidable c] {A X : Option Bool} {b y : Bool} (h1 : A = some b) (h2 : X = some y) : (if c then A else X) = some (if c then b else y) := by
  split
  · exact h1
  · exact h2
theorem some_and {c d : Prop} [Decidable c] [Decidable d] {A : Option Bool} (h1 : A = some (decide d)) : (if c then A else some false) = some (decide (c ∧ d)) := by
  by_cases h : c
  · rw [if_pos h, h1]; simp [h]
  · rw [if_neg h]; simp [h]
theorem some_andT {c d : Prop} [Decidable c] [Decidable d] {A : Option Bool} (h1 : A = some (decide d)) : (if decide c = true then A else some false) = some (decide (c ∧ d)) := by
  by_cases h : c
  · rw [if_pos (by simpa using h), h1]; simp [h]
  · rw [if_neg (by simpa using h)]; simp [h]
theorem cast30 (s : Nat) : some (decide ((s : Int) ≤ 30)) = some (decide (s ≤ 30)) := by congr 1; rw [decide_eq_decide]; omega
/-- An event is valid, but for how many Prev it has. -/
def evRight0 (id room author kind key n : Int) (s : ByteArray) (l : List Int) (t : Int) : Bool :=
  decide (1 ≤ id ∧ id ≤ 1000000) && (decide (1 ≤ room ∧ room ≤ 3) && (decide (1 ≤ author ∧ author ≤ 6) && (decide (0 ≤ t ∧ t ≤ 1000000) && (prevRight l id && evFields kind key n s.size))))
def evRight (id room author kind key n : Int) (s : ByteArray) (l : List Int) (t : Int) : Bool := evRight0 id room author kind key n s l t && (decide (kind = 1) == decide (l.length = 0))
theorem Ev.ifb {c : Bool} {f : Nat → Option Bool} {r : Bool} (h : Ev f r) : Ev (fun n => if c = true then f n else some false) (c && r) := by
  cases c
  · exact Ev.neg (by simp) (Ev.now _)
  · exact Ev.pos rfl h
theorem Ev.ifnb {c : Bool} {f : Nat → Option Bool} {r : Bool} (h : Ev f r) : Ev (fun n => if c = true then some false else f n) (!c && r) := by
  cases c
  · exact Ev.neg (by simp) h
  · exact Ev.pos rfl (Ev.now _)
theorem createB (kind : Int) (l : List Int) : ((kind == 1) == ((l.length : Int) == 0)) = (decide (kind = 1) == decide (l.length = 0)) := by
  have e1 : (kind == 1) = decide (kind = 1) := by rw [Bool.eq_iff_iff, beq_iff_eq, decide_eq_true_iff]
  have e2 : ((l.length : Int) == 0) = decide (l.length = 0) := by rw [Bool.eq_iff_iff, beq_iff_eq, decide_eq_true_iff]; omega
  rw [e1, e2]
theorem evRight_kind {id room author kind key n : Int} {s : ByteArray} {l : List Int} {t : Int} (h : evRight id room author kind key n s l t = true) : 1 ≤ kind ∧ kind ≤ 8 := by
  unfold evRight evRight0 at h
  simp only [Bool.and_eq_true] at h
  have h2 := h.1.2.2.2.2.2
  unfold evFields at h2
  repeat' split at h2
  all_goals first | omega | simp at h2
/-! ### the laws' helpers on one event -/
theorem szEvent_eq (a0 a1 a2 a3 a4 a5 : Int) (s : ByteArray) (l : List Int) (a8 : Int) (a : Int) (ha : -1 ≤ a) (h : a ≤ 1048576) (hs : s.size ≤ 9223372036854775807) (hn : l.length ≤ 9223372036854775807) :
    laws_szEvent.f a0 a1 a2 a3 a4 a5 s l a8 a = some (if a < s.size + l.length then -1 else a - s.size - l.length) := by
  unfold laws_szEvent.f
  rw [w64 (by omega) (by omega)]
  by_cases c : a < s.size
  · rw [if_pos (by omega), if_pos (by omega)]
  · rw [if_neg (by omega), szInt64S_eq l _ (by omega) (by omega) hn]
    simp only [Option.bind_some]
    by_cases c2 : a - s.size < l.length
    · rw [if_pos c2, if_pos (by omega), if_pos (by omega)]
    · rw [if_neg c2, if_neg (by omega), if_neg (by omega)]
theorem toEvent_ev (a0 a1 a2 a3 a4 a5 : Int) (s : ByteArray) (l : List Int) (a8 : Int) (hl : l.length ≤ 1048576) : Ev (fun k => laws_toEvent.f k a0 a1 a2 a3 a4 a5 s l a8) (a0, a1, a2, a3, a4, a5, s, l, a8) := by
  unfold laws_toEvent.f
  exact Ev.bind (toInt64S_ev l hl) (Ev.now _)
theorem eqEvent_ev (a0 a1 a2 a3 a4 a5 : Int) (s : ByteArray) (l : List Int) (a8 : Int) (hl : l.length ≤ 9223372036854775806) : Ev (fun k => laws_eqEvent.f k a0 a1 a2 a3 a4 a5 s l a8 a0 a1 a2 a3 a4 a5 s l a8) true := by
  unfold laws_eqEvent.f
  exact Ev.pos rfl (Ev.pos rfl (Ev.pos rfl (Ev.pos rfl (Ev.pos rfl (Ev.pos rfl (Ev.pos rfl (Ev.bind (eqInt64S_ev l hl) (Ev.pos rfl (Ev.pos rfl (Ev.now _))))))))))

/-! Two events: the same in every field. -/
theorem Ev.ifp {c : Prop} [Decidable c] {f : Nat → Option Bool} {r : Bool} (h : Ev f r) : Ev (fun n => if c then f n else some false) (decide c && r) := by
  by_cases hc : c
  · rw [decide_eq_true hc]; exact Ev.pos hc h
  · rw [decide_eq_false hc]; exact Ev.neg hc (Ev.now _)
theorem drop_same (l r : List Int) (i : Nat) (hl : i < l.length) (hr : i < r.length) : decide (l.drop i = r.drop i) = (decide (l[i] = r[i]) && decide (l.drop (i + 1) = r.drop (i + 1))) := by
  rw [drop_cons hl, drop_cons hr, Bool.eq_iff_iff, Bool.and_eq_true, decide_eq_true_iff, decide_eq_true_iff, decide_eq_true_iff, List.cons.injEq]
theorem nums_l0 (l r : List Int) (h : l.length = r.length) (hl : l.length ≤ 9223372036854775806) (d : Nat) : ∀ i : Nat, i + d = l.length → Ev (fun k => spec_l02Nums.l0 k l r (i : Int)) (decide (l.drop i = r.drop i)) := by
  induction d with
  | zero =>
    intro i hi
    refine Ev.one (fun k => ?_)
    simp only [spec_l02Nums.l0]
    rw [if_neg (by omega), List.drop_of_length_le (by omega), List.drop_of_length_le (by omega)]; rfl
  | succ d ih =>
    intro i hi
    have hlt : i < l.length := by omega
    have hrt : i < r.length := by omega
    rw [drop_same l r i hlt hrt]
    by_cases c : l[i] = r[i]
    · rw [decide_eq_true c, Bool.true_and]
      refine Ev.step (f := fun k => spec_l02Nums.l0 k l r ((i + 1 : Nat) : Int)) (fun k => ?_) (ih (i + 1) (by omega))
      simp only [spec_l02Nums.l0]
      rw [if_pos (by omega), if_pos (by omega), if_pos (by omega), rd_at hlt, rd_at hrt, if_pos c, w64 (by omega) (by omega)]; rfl
    · rw [decide_eq_false c, Bool.false_and]
      refine Ev.one (fun k => ?_)
      simp only [spec_l02Nums.l0]
      rw [if_pos (by omega), if_pos (by omega), if_pos (by omega), rd_at hlt, rd_at hrt, if_neg c]
theorem nums_ev (l r : List Int) (hl : l.length ≤ 9223372036854775806) : Ev (fun k => spec_l02Nums.f k l r) (decide (l = r)) := by
  unfold spec_l02Nums.f
  by_cases h : l.length = r.length
  · exact Ev.pos (by omega) (by simpa using nums_l0 l r h hl l.length 0 (by omega))
  · exact Ev.neg (by omega) (Ev.to (by symm; rw [decide_eq_false_iff_not]; rintro rfl; exact h rfl) (Ev.now _))
theorem equal_l0 (l r : List Int) (h : l.length = r.length) (hl : l.length ≤ 9223372036854775806) (d : Nat) : ∀ i : Nat, i + d = l.length → Ev (fun k => slices_Equal_int64_int64.l0 k l r (l.length : Int) (i : Int)) (decide (l.drop i = r.drop i)) := by
  induction d with
  | zero =>
    intro i hi
    refine Ev.one (fun k => ?_)
    simp only [slices_Equal_int64_int64.l0]
    rw [if_neg (by omega), List.drop_of_length_le (by omega), List.drop_of_length_le (by omega)]; rfl
  | succ d ih =>
    intro i hi
    have hlt : i < l.length := by omega
    have hrt : i < r.length := by omega
    rw [drop_same l r i hlt hrt]
    by_cases c : l[i] = r[i]
    · rw [decide_eq_true c, Bool.true_and]
      refine Ev.step (f := fun k => slices_Equal_int64_int64.l0 k l r (l.length : Int) ((i + 1 : Nat) : Int)) (fun k => ?_) (ih (i + 1) (by omega))
      simp only [slices_Equal_int64_int64.l0]
      rw [if_pos (by omega), if_pos (by omega), if_pos (by omega), if_pos (by omega), rd_at hlt, rd_at hrt, if_pos c, w64 (by omega) (by omega)]; rfl
    · rw [decide_eq_false c, Bool.false_and]
      refine Ev.one (fun k => ?_)
      simp only [slices_Equal_int64_int64.l0]
      rw [if_pos (by omega), if_pos (by omega), if_pos (by omega), if_pos (by omega), rd_at hlt, rd_at hrt, if_neg c]
theorem equal_ev (l r : List Int) (hl : l.length ≤ 9223372036854775806) : Ev (fun k => slices_Equal_int64_int64.f k l r) (decide (l = r)) := by
  unfold slices_Equal_int64_int64.f
  by_cases h : l.length = r.length
  · exact Ev.pos (by omega) (by simpa using equal_l0 l r h hl l.length 0 (by omega))
  · exact Ev.neg (by omega) (Ev.to (by symm; rw [decide_eq_false_iff_not]; rintro rfl; exact h rfl) (Ev.now _))
/-- What both sides say of two events. -/
def sameB (a0 a1 a2 a3 a4 a5 : Int) (s : ByteArray) (l : List Int) (a8 b0 b1 b2 b3 b4 b5 : Int) (t : ByteArray) (r : List Int) (b8 : Int) : Bool :=
  decide (a0 = b0) && (decide (a1 = b1) && (decide (a2 = b2) && (decide (a3 = b3) && (decide (a4 = b4) && (decide (a5 = b5) && (decide (s.toList = t.toList) && (decide (a8 = b8) && decide (l = r))))))))
theorem spec_same_ev (a0 a1 a2 a3 a4 a5 : Int) (s : ByteArray) (l : List Int) (a8 b0 b1 b2 b3 b4 b5 : Int) (t : ByteArray) (r : List Int) (b8 : Int) (hl : l.length ≤ 9223372036854775806) :
    Ev (fun k => spec_SameEvent.f k a0 a1 a2 a3 a4 a5 s l a8 b0 b1 b2 b3 b4 b5 t r b8) (sameB a0 a1 a2 a3 a4 a5 s l a8 b0 b1 b2 b3 b4 b5 t r b8) := by
  unfold spec_SameEvent.f sameB
  exact Ev.ifp (Ev.ifp (Ev.ifp (Ev.ifp (Ev.ifp (Ev.ifp (Ev.ifp (Ev.ifp (Ev.bind (nums_ev l r hl) (Ev.now _)))))))))
theorem impl_same_ev (a0 a1 a2 a3 a4 a5 : Int) (s : ByteArray) (l : List Int) (a8 b0 b1 b2 b3 b4 b5 : Int) (t : ByteArray) (r : List Int) (b8 : Int) (hl : l.length ≤ 9223372036854775806) :
    Ev (fun k => impl_SameEvent.f k a0 a1 a2 a3 a4 a5 s l a8 b0 b1 b2 b3 b4 b5 t r b8) (sameB a0 a1 a2 a3 a4 a5 s l a8 b0 b1 b2 b3 b4 b5 t r b8) := by
  unfold impl_SameEvent.f sameB
  refine Ev.ifp (Ev.ifp (Ev.ifp (Ev.ifp (Ev.ifp (Ev.ifp (Ev.ifp (Ev.bind (equal_ev l r hl) ?_)))))))
  rw [Bool.and_comm]
  by_cases c : l = r
  · rw [decide_eq_true c, Bool.true_and]; exact Ev.pos rfl (Ev.to (by rw [Bool.eq_iff_iff, beq_iff_eq, decide_eq_true_iff]) (Ev.now _))
  · rw [decide_eq_false c, Bool.false_and]; exact Ev.neg (by simp) (Ev.now _)


end Go.Proofs.Ytjijknajgamdaaa.Print
