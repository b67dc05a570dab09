/- Lemmas: a range set's bytes, read. -/
import Derived.Test.YtibdkoepmejgdaaPrint0
import Derived.Test.YtibdkoepmejgdaaPrint1
import Derived.Test.YtibdkoepmejgdaaPrint2
import Derived.Test.YtibdkoepmejgdaaPrint3
import Derived.Test.YtibdkoepmejgdaaPrint4
import Derived.Test.YtibdkoepmejgdaaPrint5
import Derived.Test.YtibdkoepmejgdaaPrint6
import Derived.Test.YtibdkoepmejgdaaPrint7
import Derived.Test.YtibdkoepmejgdaaPrint8
import Derived.Test.YtibdkoepmejgdaaPrint9
import Derived.Test.YtibdkoepmejgdaaPrint10
import Derived.Test.YtibdkoepmejgdaaPrint11
import Derived.Laws.Bits64
namespace Go.Proofs.Ytibdkoepmejgdaa.Print
open Go.RowKit Go.Proofs.YtibdkoepmejgdaaW.PrintWords Go.Proofs.YtibdkoepmejgdaaW.PrintLast Go.Proofs.YtibdkoepmejgdaaW.PrintMore
set_option linter.unusedVariables false
set_option linter.unusedSimpArgs false

/-! Rounds: small helpers. -/
theorem Ev.pos {α : Type} {c : Prop} [Decidable c] {f g : Nat → Option α} {r : α} (hc : c) (h : Ev f r) : Ev (fun n => if c then f n else g n) r := by
  simp only [hc, if_true]; exact h
theorem Ev.neg {α : Type} {c : Prop} [Decidable c] {f g : Nat → Option α} {r : α} (hc : ¬ c) (h : Ev g r) : Ev (fun n => if c then f n else g n) r := by
  simp only [hc, if_false]; exact h
theorem Ev.here {α : Type} {o : Option α} {r : α} (h : o = some r) : Ev (fun _ => o) r := ⟨0, fun _ _ => h⟩
theorem Ev.take {α β : Type} {o : Option α} {f : Nat → α → Option β} {a : α} {r : β} (h : o = some a) (k : Ev (fun n => f n a) r) : Ev (fun n => o.bind (f n)) r := by
  subst h; exact k
theorem Ev.one {α : Type} {g : Nat → Option α} {r : α} (h : ∀ k, g (k + 1) = some r) : Ev g r := Ev.step (f := fun _ => some r) h (Ev.now r)
theorem Ev.to {α : Type} {g : Nat → Option α} {r q : α} (e : r = q) (h : Ev g r) : Ev g q := e ▸ h

/-! A byte of a string. -/
theorem bt_at {s : ByteArray} {i : Nat} (h : i < s.size) : bt s (i : Int) = ((s.data.toList[i]'(by simpa using h)).toNat : Int) := by
  unfold bt
  rw [dif_pos (by simpa using h)]
  rfl

/-! Lists of structs, read one by one. -/
theorem w64 {n : Int} (h0 : -9223372036854775808 ≤ n) (h1 : n ≤ 9223372036854775807) : wrap64 n = n := by unfold wrap64; omega
theorem drop_cons {α : Type} {l : List α} {i : Nat} (h : i < l.length) : l.drop i = l[i] :: l.drop (i + 1) := List.drop_eq_getElem_cons h
theorem getD_at {α : Type} {l : List α} {i : Nat} (d : α) (h : i < l.length) : l.getD ((i : Int)).toNat d = l[i] := by
  rw [Int.toNat_natCast, List.getD_eq_getElem?_getD, List.getElem?_eq_getElem h]; rfl

/-! Varints: what numBytes and the reference's PutNum come to. -/
theorem wfi64 {n : Int} (h : (Lit.int .i64 n).wf = true) : -9223372036854775808 ≤ n ∧ n ≤ 9223372036854775807 := by
  simpa [Lit.wf, IntKind.min, IntKind.max, IntKind.signed, IntKind.bits] using h

/-- The bytes of an unsigned number, seven bits each. -/
def enc (u : Nat) : List Int := if u < 128 then [(u : Int)] else ((u % 128 + 128 : Nat) : Int) :: enc (u / 128)
termination_by u
decreasing_by omega

theorem enc_lt {u : Nat} (h : u < 128) : enc u = [(u : Int)] := by rw [enc, if_pos h]
theorem enc_ge {u : Nat} (h : 128 ≤ u) : enc u = ((u % 128 + 128 : Nat) : Int) :: enc (u / 128) := by rw [enc, if_neg (by omega)]

theorem enc_length (d : Nat) : ∀ u : Nat, u < 128 ^ d → (enc u).length ≤ max d 1 := by
  induction d with
  | zero => intro u h; rw [enc_lt (by omega)]; simp
  | succ d ih =>
    intro u h
    by_cases hu : u < 128
    · rw [enc_lt hu]; simp only [List.length_cons, List.length_nil]; omega
    · rw [enc_ge (by omega)]
      have := ih (u / 128) (by rw [Nat.pow_succ] at h; omega)
      have h2 : d ≠ 0 := by rintro rfl; simp at h; omega
      simp only [List.length_cons]; omega

theorem bits_or128_fin : ∀ a : Fin 256, 128 ≤ a.val → Go.bits .or .u8 (a.val : Int) 128 = ((a.val % 128 + 128 : Nat) : Int) := by decide +kernel
theorem bits_or128_fin' : ∀ a : Fin 256, Go.bits .or .u8 (a.val : Int) 128 = ((a.val % 128 + 128 : Nat) : Int) := by decide +kernel
theorem bits_or128 (u : Nat) : Go.bits .or .u8 ((u : Int) % 256) 128 = ((u % 128 + 128 : Nat) : Int) := by
  have h := bits_or128_fin' ⟨u % 256, by omega⟩
  have e : ((u : Int) % 256) = ((u % 256 : Nat) : Int) := by omega
  rw [e]
  refine h.trans ?_
  simp only []
  omega

theorem bits_xor_ones (a : Nat) (h : a < 18446744073709551616) : Go.bits .xor .u64 (a : Int) 18446744073709551615 = 18446744073709551615 - (a : Int) := by
  have e : BitVec.ofInt 64 18446744073709551615 = BitVec.allOnes 64 := by decide
  have h1 : (BitVec.ofInt 64 (a : Int)).toNat = a := by
    rw [BitVec.ofInt_natCast, BitVec.toNat_ofNat]; exact Nat.mod_eq_of_lt (by omega)
  show IntKind.u64.wrap ((BitVec.ofInt 64 (a : Int) ^^^ BitVec.ofInt 64 18446744073709551615).toNat : Int) = _
  rw [e, BitVec.xor_allOnes, BitVec.toNat_not, h1, IntKind.wrap_u64]
  omega
theorem bits_xor_zero (a : Nat) (h : a < 18446744073709551616) : Go.bits .xor .u64 (a : Int) 0 = (a : Int) := by
  have := bits_xor_u64_nat a 0 h (by omega)
  simpa using this

/-- A number folded: the sign in the lowest bit. -/
def zig (n : Int) : Nat := if n < 0 then (-2 * n - 1).toNat else (2 * n).toNat
theorem zig_lt {n : Int} (h0 : -9223372036854775808 ≤ n) (h1 : n ≤ 9223372036854775807) : zig n < 18446744073709551616 := by unfold zig; split <;> omega

theorem impl_zig {n : Int} (h0 : -9223372036854775808 ≤ n) (h1 : n ≤ 9223372036854775807) :
    Go.bits .xor .u64 (IntKind.u64.wrap ((IntKind.u64.wrap n) * 2)) (IntKind.u64.wrap (n / 9223372036854775808)) = (zig n : Int) := by
  unfold zig
  by_cases h : n < 0
  · rw [if_pos h]
    have e1 : IntKind.u64.wrap ((IntKind.u64.wrap n) * 2) = ((2 * n + 18446744073709551616).toNat : Int) := by
      simp only [IntKind.wrap_u64]; omega
    have e2 : IntKind.u64.wrap (n / 9223372036854775808) = 18446744073709551615 := by
      simp only [IntKind.wrap_u64]; omega
    rw [e1, e2, bits_xor_ones _ (by omega)]
    omega
  · rw [if_neg h]
    have e1 : IntKind.u64.wrap ((IntKind.u64.wrap n) * 2) = ((2 * n).toNat : Int) := by
      simp only [IntKind.wrap_u64]; omega
    have e2 : IntKind.u64.wrap (n / 9223372036854775808) = 0 := by
      simp only [IntKind.wrap_u64]; omega
    rw [e1, e2, bits_xor_zero _ (by omega)]

theorem spec_zig {n : Int} (h0 : -9223372036854775808 ≤ n) (h1 : n ≤ 9223372036854775807) : spec_l01Fold.f n = some ((zig n : Nat) : Int) := by
  unfold spec_l01Fold.f zig
  by_cases h : n < 0
  · rw [if_pos h, if_pos h]
    congr 1
    simp only [IntKind.wrap_u64]; unfold wrap64; omega
  · rw [if_neg h, if_neg h]
    congr 1
    simp only [IntKind.wrap_u64]; omega

theorem impl_numBytes_l0 (d : Nat) : ∀ u : Nat, u < 128 ^ (d + 1) → u < 18446744073709551616 → ∀ acc : List Int, acc.length + d < 140737488355328 →
    Ev (fun k => impl_numBytes.l0 k (u : Int) acc) (acc ++ enc u) := by
  induction d with
  | zero =>
    intro u h1 h2 acc h3
    refine Ev.step (f := fun _ => some (acc ++ enc u)) (fun k => ?_) (Ev.now _)
    simp only [impl_numBytes.l0]
    rw [if_neg (by omega), if_pos (by omega), enc_lt (by omega)]
    congr 3; omega
  | succ d ih =>
    intro u h1 h2 acc h3
    by_cases hu : u < 128
    · refine Ev.step (f := fun _ => some (acc ++ enc u)) (fun k => ?_) (Ev.now _)
      simp only [impl_numBytes.l0]
      rw [if_neg (by omega), if_pos (by omega), enc_lt (by omega)]
      congr 3; omega
    · refine Ev.step (f := fun k => impl_numBytes.l0 k ((u / 128 : Nat) : Int) (acc ++ [((u % 128 + 128 : Nat) : Int)])) (fun k => ?_) ?_
      · simp only [impl_numBytes.l0]
        rw [if_pos (by omega), if_pos (by omega), bits_or128]
        congr 1
      · have := ih (u / 128) (by rw [Nat.pow_succ] at h1; omega) (by omega) (acc ++ [((u % 128 + 128 : Nat) : Int)]) (by simp; omega)
        rw [enc_ge (by omega)]
        simpa using this

theorem impl_numBytes_ev {n : Int} (h0 : -9223372036854775808 ≤ n) (h1 : n ≤ 9223372036854775807) : Ev (fun k => impl_numBytes.f k n) (enc (zig n)) := by
  unfold impl_numBytes.f
  rw [impl_zig h0 h1]
  simpa using impl_numBytes_l0 9 (zig n) (by have := zig_lt h0 h1; omega) (zig_lt h0 h1) [] (by simp)

theorem spec_PutNum_l0 (d : Nat) : ∀ u : Nat, u < 128 ^ (d + 1) → u < 18446744073709551616 → ∀ acc : List Int, acc.length + d < 140737488355328 →
    Ev (fun k => spec_PutNum.l0 k (u : Int) acc) (strOfNums (acc ++ enc u)) := by
  induction d with
  | zero =>
    intro u h1 h2 acc h3
    refine Ev.step (f := fun _ => some (strOfNums (acc ++ enc u))) (fun k => ?_) (Ev.now _)
    simp only [spec_PutNum.l0]
    rw [if_neg (by omega), if_pos (by omega), enc_lt (by omega)]
    congr 4; omega
  | succ d ih =>
    intro u h1 h2 acc h3
    by_cases hu : u < 128
    · refine Ev.step (f := fun _ => some (strOfNums (acc ++ enc u))) (fun k => ?_) (Ev.now _)
      simp only [spec_PutNum.l0]
      rw [if_neg (by omega), if_pos (by omega), enc_lt (by omega)]
      congr 4; omega
    · refine Ev.step (f := fun k => spec_PutNum.l0 k ((u / 128 : Nat) : Int) (acc ++ [((u % 128 + 128 : Nat) : Int)])) (fun k => ?_) ?_
      · simp only [spec_PutNum.l0]
        rw [if_pos (by omega), if_pos (by omega)]
        have e1 : IntKind.u64.wrap (Int.tdiv (u : Int) 128) = ((u / 128 : Nat) : Int) := by
          rw [Int.tdiv_eq_ediv_of_nonneg (by omega), IntKind.wrap_u64]; omega
        have e2 : (IntKind.u64.wrap ((Int.tmod (u : Int) 128) + 128)) % 256 = ((u % 128 + 128 : Nat) : Int) := by
          rw [Int.tmod_eq_emod_of_nonneg (by omega), IntKind.wrap_u64]; omega
        rw [e1, e2]
      · have := ih (u / 128) (by rw [Nat.pow_succ] at h1; omega) (by omega) (acc ++ [((u % 128 + 128 : Nat) : Int)]) (by simp; omega)
        rw [enc_ge (by omega)]
        simpa using this

theorem spec_PutNum_ev {n : Int} (h0 : -9223372036854775808 ≤ n) (h1 : n ≤ 9223372036854775807) : Ev (fun k => spec_PutNum.f k n) (strOfNums (enc (zig n))) := by
  unfold spec_PutNum.f
  rw [spec_zig h0 h1]
  simp only [Option.bind_some]
  simpa using spec_PutNum_l0 9 (zig n) (by have := zig_lt h0 h1; omega) (zig_lt h0 h1) [] (by simp)

theorem size_strOfNums (l : List Int) : (strOfNums l).size = l.length := by simp [strOfNums, ByteArray.size]
theorem enc_zig_length {n : Int} (h0 : -9223372036854775808 ≤ n) (h1 : n ≤ 9223372036854775807) : (enc (zig n)).length ≤ 10 := by
  have := enc_length 10 (zig n) (by have := zig_lt h0 h1; omega)
  omega

/-! Range sets: valid ones; copies; comparisons. -/
abbrev Sp := S48
theorem sp_at {l : List Sp} {i : Nat} (h : i < l.length) : rd_T48 l (i : Int) = l[i] := getD_at _ h
theorem in_eq (a b c : Int) : impl_in.f a b c = some (decide (b ≤ a ∧ a ≤ c)) := by
  unfold impl_in.f; split <;> simp [*]
theorem is_eq (a b c : Int) : spec_l02Is.f a b c = some (decide (b ≤ a ∧ a ≤ c)) := by
  unfold spec_l02Is.f
  by_cases h : b ≤ a
  · rw [if_pos h]; simp [h]
  · rw [if_neg h]; simp [h]
theorem isId_eq (a : Int) : impl_isId.f a = some (decide (1 ≤ a ∧ a ≤ 1000000)) := by unfold impl_isId.f; rw [in_eq]; rfl
theorem l02Id_eq (a : Int) : spec_l02Id.f a = some (decide (1 ≤ a ∧ a ≤ 1000000)) := by unfold spec_l02Id.f; rw [is_eq]; rfl
/-- Valid from a least number on. -/
def okFrom : Int → List Sp → Bool
  | _, [] => true
  | lo, x :: r => decide (lo ≤ x.f0 ∧ x.f0 ≤ x.f1 ∧ x.f1 ≤ 1000000) && okFrom (x.f1 + 2) r
def spRight (l : List Sp) : Bool := decide (l.length ≤ 400) && okFrom 1 l

/-- What a round of either side's loop asks of an element behind another one. -/
theorem okFrom_step {lo : Int} {x : Sp} {r : List Sp} : okFrom lo (x :: r) = (decide (lo ≤ x.f0 ∧ x.f0 ≤ x.f1 ∧ x.f1 ≤ 1000000) && okFrom (x.f1 + 2) r) := rfl

theorem impl_SR_l0 (l : List Sp) (hl : l.length ≤ 9223372036854775807) (d : Nat) : ∀ (i : Nat) (lo : Int), i + d = l.length → 1 ≤ lo → lo ≤ 1000002 →
    (i = 0 ∧ lo = 1 ∨ ∃ h : 0 < i ∧ i ≤ l.length, lo = (l[i - 1]'(by omega)).f1 + 2) →
    Ev (fun k => impl_SpansRight.l0 k l l (l.length : Int) (i : Int)) (okFrom lo (l.drop i) && decide (l.length ≤ 400)) := by
  induction d with
  | zero =>
    intro i lo hi _ _ _
    refine Ev.one (fun k => ?_)
    simp only [impl_SpansRight.l0]
    rw [if_neg (by omega), List.drop_of_length_le (by omega)]
    simp [okFrom]
    omega
  | succ d ih =>
    intro i lo hi h1 h2 hp
    have hlt : i < l.length := by omega
    rw [drop_cons hlt, okFrom_step]
    have hw : wrap64 ((i : Int) + 1) = ((i + 1 : Nat) : Int) := by unfold wrap64; omega
    generalize hx : l[i] = x
    have hx' : rd_T48 l (i : Int) = x := by rw [sp_at hlt, hx]
    by_cases c1 : 1 ≤ x.f0 ∧ x.f0 ≤ 1000000
    · by_cases c2 : x.f0 ≤ x.f1 ∧ x.f1 ≤ 1000000
      · by_cases c3 : lo ≤ x.f0
        · refine Ev.step (f := fun k => impl_SpansRight.l0 k l l (l.length : Int) ((i + 1 : Nat) : Int)) (fun k => ?_) ?_
          · simp only [impl_SpansRight.l0]
            rw [if_pos (by omega), if_pos (by omega), if_pos (by omega), hx', isId_eq, in_eq, hw]
            simp only [Option.bind_some]
            rw [if_pos (by simpa using c1), if_pos (by simpa using c2)]
            rcases hp with ⟨rfl, rfl⟩ | ⟨⟨p1, p2⟩, hlo⟩
            · rw [if_neg (by omega)]
            · have e1 : wrap64 ((i : Int) - 1) = ((i - 1 : Nat) : Int) := by unfold wrap64; omega
              have e2 : wrap64 ((l[i - 1]'(by omega)).f1 + 2) = lo := by rw [← hlo]; exact w64 (by omega) (by omega)
              rw [if_pos (by omega), e1, if_pos (by omega), if_pos (by omega), sp_at (by omega), e2, if_neg (by omega)]
          · have := ih (i + 1) (x.f1 + 2) (by omega) (by omega) (by omega) (Or.inr ⟨⟨by omega, by omega⟩, by
              simp only [Nat.add_sub_cancel]; rw [hx]⟩)
            rw [show decide (lo ≤ x.f0 ∧ x.f0 ≤ x.f1 ∧ x.f1 ≤ 1000000) = true from decide_eq_true ⟨c3, c2⟩, Bool.true_and]
            exact this
        · rw [show decide (lo ≤ x.f0 ∧ x.f0 ≤ x.f1 ∧ x.f1 ≤ 1000000) = false from decide_eq_false (by omega), Bool.false_and, Bool.false_and]
          refine Ev.one (fun k => ?_)
          simp only [impl_SpansRight.l0]
          rw [if_pos (by omega), if_pos (by omega), if_pos (by omega), hx', isId_eq, in_eq]
          simp only [Option.bind_some]
          rw [if_pos (by simpa using c1), if_pos (by simpa using c2)]
          rcases hp with ⟨rfl, rfl⟩ | ⟨⟨p1, p2⟩, hlo⟩
          · omega
          · have e1 : wrap64 ((i : Int) - 1) = ((i - 1 : Nat) : Int) := by unfold wrap64; omega
            have e2 : wrap64 ((l[i - 1]'(by omega)).f1 + 2) = lo := by rw [← hlo]; exact w64 (by omega) (by omega)
            rw [if_pos (by omega), e1, if_pos (by omega), if_pos (by omega), sp_at (by omega), e2, if_pos (by omega)]
      · rw [show decide (lo ≤ x.f0 ∧ x.f0 ≤ x.f1 ∧ x.f1 ≤ 1000000) = false from decide_eq_false (by omega), Bool.false_and, Bool.false_and]
        refine Ev.one (fun k => ?_)
        simp only [impl_SpansRight.l0]
        rw [if_pos (by omega), if_pos (by omega), if_pos (by omega), hx', isId_eq, in_eq]
        simp only [Option.bind_some]
        rw [if_pos (by simpa using c1), if_neg (by simpa using c2)]
    · rw [show decide (lo ≤ x.f0 ∧ x.f0 ≤ x.f1 ∧ x.f1 ≤ 1000000) = false from decide_eq_false (by omega), Bool.false_and, Bool.false_and]
      refine Ev.one (fun k => ?_)
      simp only [impl_SpansRight.l0]
      rw [if_pos (by omega), if_pos (by omega), if_pos (by omega), hx', isId_eq]
      simp only [Option.bind_some]
      rw [if_neg (by simpa using c1)]
theorem impl_SR_ev (l : List Sp) (hl : l.length ≤ 9223372036854775807) : Ev (fun k => impl_SpansRight.f k l) (spRight l) := by
  unfold impl_SpansRight.f spRight
  rw [Bool.and_comm]
  simpa using impl_SR_l0 l hl l.length 0 1 (by omega) (by omega) (by omega) (Or.inl ⟨rfl, rfl⟩)

theorem spec_SR_l0 (l : List Sp) (hl : l.length ≤ 9223372036854775807) (d : Nat) : ∀ (i : Nat) (lo : Int), i + d = l.length → 1 ≤ lo → lo ≤ 1000002 →
    (i = 0 ∧ lo = 1 ∨ ∃ h : 0 < i ∧ i ≤ l.length, lo = (l[i - 1]'(by omega)).f1 + 2) →
    Ev (fun k => spec_SpansRight.l0 k l (i : Int)) (okFrom lo (l.drop i)) := by
  induction d with
  | zero =>
    intro i lo hi _ _ _
    refine Ev.one (fun k => ?_)
    simp only [spec_SpansRight.l0]
    rw [if_neg (by omega), List.drop_of_length_le (by omega)]
    simp [okFrom]
  | succ d ih =>
    intro i lo hi h1 h2 hp
    have hlt : i < l.length := by omega
    rw [drop_cons hlt, okFrom_step]
    have hw : wrap64 ((i : Int) + 1) = ((i + 1 : Nat) : Int) := by unfold wrap64; omega
    generalize hx : l[i] = x
    have hx' : rd_T48 l (i : Int) = x := by rw [sp_at hlt, hx]
    by_cases c1 : 1 ≤ x.f0 ∧ x.f0 ≤ 1000000
    · by_cases c2 : x.f0 ≤ x.f1 ∧ x.f1 ≤ 1000000
      · by_cases c3 : lo ≤ x.f0
        · refine Ev.step (f := fun k => spec_SpansRight.l0 k l ((i + 1 : Nat) : Int)) (fun k => ?_) ?_
          · simp only [spec_SpansRight.l0]
            rw [if_pos (by omega), if_pos (by omega), hx', l02Id_eq, is_eq, hw]
            simp only [Option.bind_some]
            rw [if_pos (by simpa using c1), if_pos (by simpa using c2)]
            rcases hp with ⟨rfl, rfl⟩ | ⟨⟨p1, p2⟩, hlo⟩
            · rw [if_neg (by omega)]
            · have e1 : wrap64 ((i : Int) - 1) = ((i - 1 : Nat) : Int) := by unfold wrap64; omega
              have e2 : wrap64 ((l[i - 1]'(by omega)).f1 + 2) = lo := by rw [← hlo]; exact w64 (by omega) (by omega)
              rw [if_pos (by omega), e1, if_pos (by omega), if_pos (by omega), sp_at (by omega), e2, if_neg (by omega)]
          · have := ih (i + 1) (x.f1 + 2) (by omega) (by omega) (by omega) (Or.inr ⟨⟨by omega, by omega⟩, by
              simp only [Nat.add_sub_cancel]; rw [hx]⟩)
            rw [show decide (lo ≤ x.f0 ∧ x.f0 ≤ x.f1 ∧ x.f1 ≤ 1000000) = true from decide_eq_true ⟨c3, c2⟩, Bool.true_and]
            exact this
        · rw [show decide (lo ≤ x.f0 ∧ x.f0 ≤ x.f1 ∧ x.f1 ≤ 1000000) = false from decide_eq_false (by omega), Bool.false_and]
          refine Ev.one (fun k => ?_)
          simp only [spec_SpansRight.l0]
          rw [if_pos (by omega), if_pos (by omega), hx', l02Id_eq, is_eq]
          simp only [Option.bind_some]
          rw [if_pos (by simpa using c1), if_pos (by simpa using c2)]
          rcases hp with ⟨rfl, rfl⟩ | ⟨⟨p1, p2⟩, hlo⟩
          · omega
          · have e1 : wrap64 ((i : Int) - 1) = ((i - 1 : Nat) : Int) := by unfold wrap64; omega
            have e2 : wrap64 ((l[i - 1]'(by omega)).f1 + 2) = lo := by rw [← hlo]; exact w64 (by omega) (by omega)
            rw [if_pos (by omega), e1, if_pos (by omega), if_pos (by omega), sp_at (by omega), e2, if_pos (by omega)]
      · rw [show decide (lo ≤ x.f0 ∧ x.f0 ≤ x.f1 ∧ x.f1 ≤ 1000000) = false from decide_eq_false (by omega), Bool.false_and]
        refine Ev.one (fun k => ?_)
        simp only [spec_SpansRight.l0]
        rw [if_pos (by omega), if_pos (by omega), hx', l02Id_eq, is_eq]
        simp only [Option.bind_some]
        rw [if_pos (by simpa using c1), if_neg (by simpa using c2)]
    · rw [show decide (lo ≤ x.f0 ∧ x.f0 ≤ x.f1 ∧ x.f1 ≤ 1000000) = false from decide_eq_false (by omega), Bool.false_and]
      refine Ev.one (fun k => ?_)
      simp only [spec_SpansRight.l0]
      rw [if_pos (by omega), if_pos (by omega), hx', l02Id_eq]
      simp only [Option.bind_some]
      rw [if_neg (by simpa using c1)]
theorem spec_SR_ev (l : List Sp) (hl : l.length ≤ 9223372036854775807) : Ev (fun k => spec_SpansRight.f k l) (spRight l) := by
  unfold spec_SpansRight.f spRight
  by_cases c : l.length ≤ 400
  · refine Ev.neg (by omega) (Ev.to ?_ (spec_SR_l0 l hl l.length 0 1 (by omega) (by omega) (by omega) (Or.inl ⟨rfl, rfl⟩)))
    simp [c]
  · exact Ev.pos (by omega) (Ev.to (by simp [c]) (Ev.now _))

/-! ### the laws' own helpers -/
theorem sz_ge (n : Nat) (a : Int) (ha : -1 ≤ a) (h : a ≤ 1048576) (hn : n ≤ 9223372036854775807) : wrap64 (a - (n : Int)) = a - n := w64 (by omega) (by omega)
theorem eqSpan_self (a b : Int) : laws_eqSpan.f a b a b = some true := by unfold laws_eqSpan.f; simp
theorem eqSpanS_l0 (l : List Sp) (hl : l.length ≤ 9223372036854775806) (d : Nat) : ∀ i : Nat, i + d = l.length → Ev (fun k => laws_eqSpanS.l0 k l l (i : Int)) true := by
  induction d with
  | zero =>
    intro i hi
    refine Ev.one (fun k => ?_)
    simp only [laws_eqSpanS.l0]
    rw [if_neg (by omega)]
  | succ d ih =>
    intro i hi
    refine Ev.step (f := fun k => laws_eqSpanS.l0 k l l ((i + 1 : Nat) : Int)) (fun k => ?_) (ih (i + 1) (by omega))
    simp only [laws_eqSpanS.l0]
    rw [if_pos (by omega), if_pos (by omega), if_pos (by omega), eqSpan_self]
    simp only [Option.bind_some, if_true]
    rw [w64 (by omega) (by omega)]; rfl
theorem eqSpanS_ev (l : List Sp) (hl : l.length ≤ 9223372036854775806) : Ev (fun k => laws_eqSpanS.f k l l) true := by
  unfold laws_eqSpanS.f
  exact Ev.pos rfl (eqSpanS_l0 l hl l.length 0 (by omega))

/-! Numbers' bytes, joined. -/
theorem ba_ext {a b : ByteArray} (h : a.data.toList = b.data.toList) : a = b := by
  cases a; cases b; simp at h; rw [h]
theorem son_append (a b : List Int) : strOfNums (a ++ b) = strOfNums a ++ strOfNums b := by
  apply ba_ext; simp [strOfNums]
theorem son_bytes (t : ByteArray) : strOfNums (bytesOf t) = t := by
  apply ba_ext
  simp only [strOfNums, bytesOf, List.map_map]
  conv => rhs; rw [← List.map_id t.data.toList]
  apply List.map_congr_left
  intro x _
  show UInt8.ofNat ((x.toNat : Int)).toNat = x
  rw [Int.toNat_natCast]; simp
theorem ba_nil (a : ByteArray) : (⟨#[]⟩ : ByteArray) ++ a = a := by apply ba_ext; simp
def i64r (n : Int) : Prop := -9223372036854775808 ≤ n ∧ n ≤ 9223372036854775807
/-- A number's bytes; the bytes of some numbers. -/
def pn (n : Int) : ByteArray := strOfNums (enc (zig n))
def encs : List Int → List Int
  | [] => []
  | x :: r => enc (zig x) ++ encs r
def pns (l : List Int) : ByteArray := strOfNums (encs l)
theorem pns_cons (x : Int) (r : List Int) : pns (x :: r) = pn x ++ pns r := son_append _ _
theorem pn_size {n : Int} (h : i64r n) : (pn n).size ≤ 10 := by unfold pn; rw [size_strOfNums]; exact enc_zig_length h.1 h.2
theorem spec_pn {n : Int} (h : i64r n) : Ev (fun k => spec_PutNum.f k n) (pn n) := spec_PutNum_ev h.1 h.2
theorem impl_nb {n : Int} (h : i64r n) : Ev (fun k => impl_numBytes.f k n) (enc (zig n)) := impl_numBytes_ev h.1 h.2
theorem enc_size {n : Int} (h : i64r n) : (enc (zig n)).length ≤ 10 := enc_zig_length h.1 h.2
theorem len_i64 (n : Nat) (h : n ≤ 9223372036854775807) : i64r (n : Int) := ⟨by omega, by omega⟩

/-! Reading a number: what both sides' loops come to. -/
/-- The byte at a place, as a number. -/
def byteAt (s : ByteArray) (i : Nat) : Nat := if h : i < s.size then (s.data.toList[i]'(by simpa using h)).toNat else 0
theorem byteAt_lt (s : ByteArray) (i : Nat) : byteAt s i < 256 := by
  unfold byteAt; split
  · exact UInt8.toNat_lt _
  · omega
theorem bt_byte {s : ByteArray} {i : Nat} (h : i < s.size) : bt s (i : Int) = (byteAt s i : Int) := by
  rw [bt_at h]; unfold byteAt; rw [dif_pos h]
/-- From a folded number back. -/
def unzig (u : Nat) : Int := if u % 2 = 1 then -((u / 2 : Nat) : Int) - 1 else ((u / 2 : Nat) : Int)
/-- Places from i on, with the bits u so far; fuel: how many bytes may still come. -/
def gn (s : ByteArray) (a : Nat) : Nat → Nat → Nat → Int × Int × Int
  | 0, _, _ => (0, 0, 3)
  | f + 1, i, u => if s.size ≤ a + i then (0, 0, 4) else
      if i = 9 ∧ 1 < byteAt s (a + i) ∨ byteAt s (a + i) = 0 ∧ 0 < i then (0, 0, 3) else
      if byteAt s (a + i) < 128 then (unzig (u + byteAt s (a + i) % 128 * 2 ^ (7 * i)), ((a + i + 1 : Nat) : Int), 0) else
      gn s a f (i + 1) (u + byteAt s (a + i) % 128 * 2 ^ (7 * i))
def getNumR (s : ByteArray) (a : Int) : Int × Int × Int := if a < 0 then (0, 0, 1) else gn s a.toNat 10 0 0

theorem bits_and127 (c : Nat) (h : c < 256) : Go.bits .and .u8 (c : Int) 127 = ((c % 128 : Nat) : Int) := by
  have := bits_mask .u8 8 (by decide) wraps_u8 7 (by decide) (c : Int) (by omega) (by omega)
  simp only [Int.pow_succ, Int.pow_zero] at this
  simpa using this
theorem bits_and64_1 (a : Nat) (ha : a < 18446744073709551616) : Go.bits .and .u64 (a : Int) 1 = ((a % 2 : Nat) : Int) := by
  have := bits_mask .u64 64 (by decide) (fun n h0 h1 => by rw [IntKind.wrap_u64]; omega) 1 (by decide) (a : Int) (by omega) (by omega)
  simp only [Int.pow_succ, Int.pow_zero] at this
  simpa using this
theorem bits_or64 (u v i : Nat) (hu : u < 2 ^ i) (hv : v * 2 ^ i < 18446744073709551616) (hu' : u < 18446744073709551616) :
    Go.bits .or .u64 (u : Int) ((v * 2 ^ i : Nat) : Int) = ((u + v * 2 ^ i : Nat) : Int) := by
  have h1 := (bits_nat .u64 64 (by decide) (fun n h0 h1 => by rw [IntKind.wrap_u64]; omega) u (v * 2 ^ i) (by omega) (by omega)).2
  rw [h1]
  congr 1
  rw [Nat.or_comm, Nat.mul_comm, ← Nat.two_pow_add_eq_or_of_lt hu, Nat.add_comm]
theorem xor_ones64 (a : Nat) (h : a < 9223372036854775808) : Go.bits .xor .i64 (a : Int) (-1) = -(a : Int) - 1 := by
  have e : BitVec.ofInt 64 (-1) = BitVec.allOnes 64 := by decide
  have h1 : (BitVec.ofInt 64 (a : Int)).toNat = a := by
    rw [BitVec.ofInt_natCast, BitVec.toNat_ofNat]; exact Nat.mod_eq_of_lt (by omega)
  show IntKind.i64.wrap ((BitVec.ofInt 64 (a : Int) ^^^ BitVec.ofInt 64 (-1)).toNat : Int) = _
  rw [e, BitVec.xor_allOnes, BitVec.toNat_not, h1, IntKind.wrap_i64]
  omega
theorem xor_zero64 (a : Nat) (h : a < 9223372036854775808) : Go.bits .xor .i64 (a : Int) 0 = (a : Int) := by
  have e : BitVec.ofInt 64 0 = (0#64) := by decide
  have h1 : (BitVec.ofInt 64 (a : Int)).toNat = a := by
    rw [BitVec.ofInt_natCast, BitVec.toNat_ofNat]; exact Nat.mod_eq_of_lt (by omega)
  show IntKind.i64.wrap ((BitVec.ofInt 64 (a : Int) ^^^ BitVec.ofInt 64 0).toNat : Int) = _
  rw [e, BitVec.xor_zero, h1, IntKind.wrap_i64]
  omega
theorem impl_unzig (u : Nat) (h : u < 18446744073709551616) : Go.bits .xor .i64 (wrap64 ((u : Int) / 2)) (wrap64 (-(wrap64 (Go.bits .and .u64 (u : Int) 1)))) = unzig u := by
  rw [bits_and64_1 u h]
  have e1 : wrap64 ((u : Int) / 2) = ((u / 2 : Nat) : Int) := by unfold wrap64; omega
  rw [e1]
  unfold unzig
  by_cases c : u % 2 = 1
  · rw [if_pos c, c, show wrap64 (-(wrap64 ((1 : Nat) : Int))) = -1 from by unfold wrap64; omega]
    exact xor_ones64 (u / 2) (by omega)
  · rw [if_neg c, show u % 2 = 0 by omega, show wrap64 (-(wrap64 ((0 : Nat) : Int))) = 0 from by unfold wrap64; omega]
    exact xor_zero64 (u / 2) (by omega)
theorem shl_fits (c i : Nat) (hc : c < 128) (hi : i ≤ 9) (h9 : i = 9 → c ≤ 1) : shl .u64 (c : Int) ((7 * i : Nat) : Int) = ((c * 2 ^ (7 * i) : Nat) : Int) ∧ c * 2 ^ (7 * i) < 18446744073709551616 := by
  have h : c * 2 ^ (7 * i) < 18446744073709551616 := by
    rcases (show i = 0 ∨ i = 1 ∨ i = 2 ∨ i = 3 ∨ i = 4 ∨ i = 5 ∨ i = 6 ∨ i = 7 ∨ i = 8 ∨ i = 9 by omega) with rfl | rfl | rfl | rfl | rfl | rfl | rfl | rfl | rfl | rfl <;> omega
  refine ⟨?_, h⟩
  unfold shl
  rw [Int.toNat_natCast, show min (7 * i) IntKind.u64.bits = 7 * i from Nat.min_eq_left (by show 7 * i ≤ 64; omega), IntKind.wrap_u64]
  have : ((c : Int) * 2 ^ (7 * i)) = ((c * 2 ^ (7 * i) : Nat) : Int) := by simp
  rw [this]; omega
theorem pow_le (i : Nat) (h : i ≤ 9) : 2 ^ (7 * i) ≤ 9223372036854775808 :=
  Nat.le_trans (Nat.pow_le_pow_right (by decide) (show 7 * i ≤ 63 by omega)) (by decide)
theorem next_lt (u c i : Nat) (hu : u < 2 ^ (7 * i)) (hc : c < 128) : u + c * 2 ^ (7 * i) < 2 ^ (7 * (i + 1)) := by
  have e : 2 ^ (7 * (i + 1)) = 128 * 2 ^ (7 * i) := by rw [show 7 * (i + 1) = 7 + 7 * i by omega, Nat.pow_add]
  rw [e]
  have : c * 2 ^ (7 * i) ≤ 127 * 2 ^ (7 * i) := Nat.mul_le_mul_right _ (by omega)
  omega
theorem sum_lt (u c i : Nat) (hu : u < 2 ^ (7 * i)) (hc : c < 128) (hi : i ≤ 9) (h9 : i = 9 → c ≤ 1) : u + c * 2 ^ (7 * i) < 18446744073709551616 := by
  rcases (show i = 0 ∨ i = 1 ∨ i = 2 ∨ i = 3 ∨ i = 4 ∨ i = 5 ∨ i = 6 ∨ i = 7 ∨ i = 8 ∨ i = 9 by omega) with rfl | rfl | rfl | rfl | rfl | rfl | rfl | rfl | rfl | rfl <;> omega

theorem impl_step (s : ByteArray) (hs : s.size ≤ 140737488351232) (a : Nat) (ha : a ≤ 9223372036854775807) (f : Nat) (i u : Nat) (hi : i + f = 9) (hu : u < 2 ^ (7 * i))
    (ih : 0 < f → ∀ u' : Nat, u' < 2 ^ (7 * (i + 1)) → Ev (fun k => impl_getNum.l0 k s a (u' : Int) ((i + 1 : Nat) : Int)) (gn s a f (i + 1) u')) :
    Ev (fun k => impl_getNum.l0 k s a (u : Int) (i : Int)) (gn s a (f + 1) i u) := by
  have hlast : ∀ x25 : Bool, x25 = decide (s.size ≤ a + i) → Ev (fun k => impl_getNum.j1 k s a (u : Int) (i : Int) x25) (gn s a (f + 1) i u) := by
    intro x25 hx
    unfold gn
    by_cases c0 : s.size ≤ a + i
    · rw [if_pos c0]
      refine Ev.one (fun k => ?_)
      simp only [impl_getNum.j1]
      rw [if_pos (by rw [hx]; simpa using c0)]
    · rw [if_neg c0]
      have hw : wrap64 ((a : Int) + (i : Int)) = ((a + i : Nat) : Int) := by unfold wrap64; omega
      have hb := bt_byte (s := s) (i := a + i) (by omega)
      have hlt := byteAt_lt s (a + i)
      generalize hcv : byteAt s (a + i) = c at hb hlt
      have fin3 : ∀ x32 : Bool, x32 = decide (i = 9 ∧ 1 < c ∨ c = 0 ∧ 0 < i) →
          Ev (fun k => impl_getNum.j3 k s a (u : Int) (i : Int) (c : Int) x32) (if i = 9 ∧ 1 < c ∨ c = 0 ∧ 0 < i then (0, 0, 3) else if c < 128 then (unzig (u + c % 128 * 2 ^ (7 * i)), ((a + i + 1 : Nat) : Int), 0) else gn s a f (i + 1) (u + c % 128 * 2 ^ (7 * i))) := by
        intro x32 hx32
        by_cases cc : i = 9 ∧ 1 < c ∨ c = 0 ∧ 0 < i
        · rw [if_pos cc]
          refine Ev.one (fun k => ?_)
          simp only [impl_getNum.j3]
          rw [if_pos (by rw [hx32]; simpa using cc)]
        · rw [if_neg cc]
          have h9 : i = 9 → c % 128 ≤ 1 := by omega
          have h7p : (0 : Int) ≤ ((7 * i : Nat) : Int) := Int.natCast_nonneg _
          have hnext : c % 128 < 128 := by omega
          have hi9 : i ≤ 9 := by omega
          obtain ⟨h7, hc1, hat, hi1⟩ : wrap64 (7 * (i : Int)) = ((7 * i : Nat) : Int) ∧ IntKind.u64.wrap (Go.bits .and .u8 (c : Int) 127) = ((c % 128 : Nat) : Int) ∧
              wrap64 (((a + i : Nat) : Int) + 1) = ((a + i + 1 : Nat) : Int) ∧ wrap64 ((i : Int) + 1) = ((i + 1 : Nat) : Int) :=
            ⟨by unfold wrap64; clear hw hu; omega, by rw [bits_and127 c hlt, IntKind.wrap_u64]; clear hw hu; omega, by unfold wrap64; clear hw hu; omega, by unfold wrap64; clear hw hu; omega⟩
          obtain ⟨hsh, hshb⟩ := shl_fits (c % 128) i hnext hi9 h9
          have hsum := sum_lt u (c % 128) i hu hnext hi9 h9
          have hnx := next_lt u (c % 128) i hu hnext
          have hor := bits_or64 u (c % 128) (7 * i) hu hshb (Nat.lt_of_lt_of_le hu (Nat.le_trans (pow_le i hi9) (by decide)))
          clear hu hshb
          generalize c % 128 * 2 ^ (7 * i) = v at hsh hsum hor hnx ⊢
          by_cases c128 : c < 128
          · rw [if_pos c128]
            refine Ev.one (fun k => ?_)
            have c128' : ((c : Int) < 128) := by clear h7 hat hi1 hc1 hsum hor hnx hw; omega
            simp only [impl_getNum.j3]
            rw [if_neg (by rw [hx32]; simpa using cc), h7, if_pos h7p, if_pos c128', hc1, hsh, hor, impl_unzig _ hsum, hw, hat]
          · rw [if_neg c128]
            refine Ev.step (f := fun k => impl_getNum.l0 k s a ((u + v : Nat) : Int) ((i + 1 : Nat) : Int)) (fun k => ?_) ?_
            · have c128' : ¬ ((c : Int) < 128) := by clear h7 hat hi1 hc1 hsum hor hnx hw; omega
              simp only [impl_getNum.j3]
              rw [if_neg (by rw [hx32]; simpa using cc), h7, if_pos h7p, if_neg c128', hc1, hsh, hor, hi1]
            · exact ih (by clear hnx h7 hat hi1 hc1 hsum hor hw; omega) _ hnx
      have fin2 : ∀ x32 : Bool, x32 = decide (i = 9 ∧ 1 < c) →
          Ev (fun k => impl_getNum.j2 k s a (u : Int) (i : Int) (c : Int) x32) (if i = 9 ∧ 1 < c ∨ c = 0 ∧ 0 < i then (0, 0, 3) else if c < 128 then (unzig (u + c % 128 * 2 ^ (7 * i)), ((a + i + 1 : Nat) : Int), 0) else gn s a f (i + 1) (u + c % 128 * 2 ^ (7 * i))) := by
        intro x32 hx32
        by_cases c9 : i = 9 ∧ 1 < c
        · refine Ev.step (f := fun k => impl_getNum.j3 k s a (u : Int) (i : Int) (c : Int) x32) (fun k => ?_) (fin3 x32 (by rw [hx32]; simp [c9]))
          simp only [impl_getNum.j2]
          rw [if_pos (by rw [hx32]; simpa using c9)]
        · by_cases cz : c = 0
          · refine Ev.step (f := fun k => impl_getNum.j3 k s a (u : Int) (i : Int) (c : Int) (decide ((i : Int) > 0))) (fun k => ?_) (fin3 _ ?_)
            · simp only [impl_getNum.j2]
              rw [if_neg (by rw [hx32]; simpa using c9), if_pos (by omega)]
            · rw [decide_eq_decide]; omega
          · refine Ev.step (f := fun k => impl_getNum.j3 k s a (u : Int) (i : Int) (c : Int) false) (fun k => ?_) (fin3 _ ?_)
            · simp only [impl_getNum.j2]
              rw [if_neg (by rw [hx32]; simpa using c9), if_neg (by omega)]
            · symm; rw [decide_eq_false_iff_not]; omega
      by_cases i9 : i = 9
      · refine Ev.step (f := fun k => impl_getNum.j2 k s a (u : Int) (i : Int) (c : Int) (decide ((c : Int) > 1))) (fun k => ?_) (fin2 _ ?_)
        · simp only [impl_getNum.j1]
          rw [if_neg (by rw [hx]; simpa using c0), hw, if_pos (by omega), if_pos (by omega), if_pos (by omega), hb]
        · rw [decide_eq_decide]; omega
      · refine Ev.step (f := fun k => impl_getNum.j2 k s a (u : Int) (i : Int) (c : Int) false) (fun k => ?_) (fin2 _ ?_)
        · simp only [impl_getNum.j1]
          rw [if_neg (by rw [hx]; simpa using c0), hw, if_pos (by omega), if_pos (by omega), if_neg (by omega), hb]
        · symm; rw [decide_eq_false_iff_not]; omega
  by_cases ov : wrap64 ((a : Int) + (i : Int)) < (a : Int)
  · refine Ev.step (f := fun k => impl_getNum.j1 k s a (u : Int) (i : Int) true) (fun k => ?_) (hlast true ?_)
    · simp only [impl_getNum.l0]
      rw [if_pos ov]
    · symm; rw [decide_eq_true_iff]; unfold wrap64 at ov; clear hlast hu; omega
  · refine Ev.step (f := fun k => impl_getNum.j1 k s a (u : Int) (i : Int) (decide ((wrap64 ((a : Int) + (i : Int))) ≥ (s.size : Int)))) (fun k => ?_) (hlast _ ?_)
    · simp only [impl_getNum.l0]
      rw [if_neg ov]
    · rw [decide_eq_decide]; unfold wrap64 at ov ⊢; clear hlast hu; omega

theorem impl_gn (s : ByteArray) (hs : s.size ≤ 140737488351232) (a : Nat) (ha : a ≤ 9223372036854775807) (f : Nat) : ∀ (i u : Nat), i + f = 9 → u < 2 ^ (7 * i) →
    Ev (fun k => impl_getNum.l0 k s a (u : Int) (i : Int)) (gn s a (f + 1) i u) := by
  induction f with
  | zero =>
    intro i u hi hu
    exact impl_step s hs a ha 0 i u hi hu (fun h => absurd h (by omega))
  | succ f ih =>
    intro i u hi hu
    exact impl_step s hs a ha (f + 1) i u hi hu (fun _ u' h' => ih (i + 1) u' (by omega) h')

theorem impl_getNum_ev (s : ByteArray) (hs : s.size ≤ 140737488351232) (a : Int) (ha : a ≤ 9223372036854775807) : Ev (fun k => impl_getNum.f k s a) (getNumR s a) := by
  unfold impl_getNum.f getNumR
  by_cases c : a < 0
  · rw [if_pos c]; exact Ev.pos c (Ev.now _)
  · rw [if_neg c]; refine Ev.neg c ?_
    have := impl_gn s hs a.toNat (by omega) 9 0 0 rfl (by decide)
    rw [Int.toNat_of_nonneg (by omega)] at this
    exact this

theorem spec_unzig (u : Nat) (h : u < 18446744073709551616) :
    (if (Int.tmod (u : Int) 2) = 1 then wrap64 ((wrap64 (-(wrap64 (IntKind.u64.wrap (Int.tdiv (u : Int) 2))))) - 1) else wrap64 (IntKind.u64.wrap (Int.tdiv (u : Int) 2))) = unzig u := by
  have e1 : IntKind.u64.wrap (Int.tdiv (u : Int) 2) = ((u / 2 : Nat) : Int) := by
    rw [Int.tdiv_eq_ediv_of_nonneg (by omega), IntKind.wrap_u64]; omega
  have e2 : Int.tmod (u : Int) 2 = ((u % 2 : Nat) : Int) := by
    rw [Int.tmod_eq_emod_of_nonneg (by omega)]; omega
  rw [e1, e2]
  unfold unzig
  by_cases c : u % 2 = 1
  · rw [if_pos c, if_pos (by omega)]; unfold wrap64; omega
  · rw [if_neg c, if_neg (by omega)]; unfold wrap64; omega

theorem spec_gn (s : ByteArray) (hs : s.size ≤ 8000) (a : Nat) (ha : a ≤ 9223372036854775807) (f : Nat) : ∀ (i u : Nat), i + f = 10 → u < 2 ^ (7 * i) →
    Ev (fun k => spec_GetNum.l0 k s a (u : Int) (i : Int)) (gn s a f i u) := by
  induction f with
  | zero =>
    intro i u hi hu
    refine Ev.one (fun k => ?_)
    simp only [spec_GetNum.l0]
    rw [if_neg (by omega)]; rfl
  | succ f ih =>
    intro i u hi hu
    have hsz : wrap64 ((s.size : Int) - (i : Int)) = (s.size : Int) - (i : Int) := by unfold wrap64; omega
    unfold gn
    by_cases c0 : s.size ≤ a + i
    · rw [if_pos c0]
      refine Ev.one (fun k => ?_)
      simp only [spec_GetNum.l0]
      rw [if_pos (by omega), hsz, if_pos (by omega)]
    · rw [if_neg c0]
      have hb := bt_byte (s := s) (i := a + i) (by clear hsz; omega)
      have hlt := byteAt_lt s (a + i)
      generalize byteAt s (a + i) = c at hb hlt
      obtain ⟨hw, hc64, h7, hi1, hcm⟩ : wrap64 ((a : Int) + (i : Int)) = ((a + i : Nat) : Int) ∧ IntKind.u64.wrap (c : Int) = (c : Int) ∧ IntKind.u64.wrap (wrap64 (7 * (i : Int))) = ((7 * i : Nat) : Int) ∧
          wrap64 ((i : Int) + 1) = ((i + 1 : Nat) : Int) ∧ Int.tmod (c : Int) 128 = ((c % 128 : Nat) : Int) :=
        ⟨by unfold wrap64; clear hsz hu; omega, by rw [IntKind.wrap_u64]; clear hsz hu; omega, by rw [IntKind.wrap_u64]; unfold wrap64; clear hsz hu; omega, by unfold wrap64; clear hsz hu; omega,
          by rw [Int.tmod_eq_emod_of_nonneg (by omega)]; clear hsz hu; omega⟩
      have hat : wrap64 ((wrap64 ((a : Int) + (i : Int))) + 1) = ((a + i + 1 : Nat) : Int) := by rw [hw]; unfold wrap64; clear hw hc64 h7 hi1 hsz hu hcm; omega
      obtain ⟨p10, psz, pa0, pas⟩ : (i : Int) < 10 ∧ ¬ ((a : Int) ≥ (s.size : Int) - (i : Int)) ∧ (0 : Int) ≤ ((a + i : Nat) : Int) ∧ ((a + i : Nat) : Int) < (s.size : Int) := by
        clear hw hc64 h7 hi1 hsz hu hcm hat; omega
      have fin1 : ∀ x38 : Bool, x38 = decide (i = 9 ∧ 1 < c) →
          Ev (fun k => spec_GetNum.j1 k s a (u : Int) (i : Int) (c : Int) x38) (if i = 9 ∧ 1 < c ∨ c = 0 ∧ 0 < i then (0, 0, 3) else if c < 128 then (unzig (u + c % 128 * 2 ^ (7 * i)), ((a + i + 1 : Nat) : Int), 0) else gn s a f (i + 1) (u + c % 128 * 2 ^ (7 * i))) := by
        intro x38 hx
        by_cases c9 : i = 9 ∧ 1 < c
        · rw [if_pos (Or.inl c9)]
          refine Ev.one (fun k => ?_)
          simp only [spec_GetNum.j1]
          rw [if_pos (by rw [hx]; simpa using c9)]
        · have h9 : i = 9 → c % 128 ≤ 1 := by clear hw hc64 h7 hi1 hsz hcm hat hb hu; omega
          have h7p : (0 : Int) ≤ ((7 * i : Nat) : Int) := Int.natCast_nonneg _
          have hnext : c % 128 < 128 := by clear hw hc64 h7 hi1 hsz hcm hat hb hu; omega
          have hi9 : i ≤ 9 := by clear hw hc64 h7 hi1 hsz hcm hat hb hu; omega
          obtain ⟨hsh, hshb⟩ := shl_fits (c % 128) i hnext hi9 h9
          have hsum := sum_lt u (c % 128) i hu hnext hi9 h9
          have hnx := next_lt u (c % 128) i hu hnext
          clear hu hshb
          generalize c % 128 * 2 ^ (7 * i) = v at hsh hsum hnx ⊢
          have hadd : IntKind.u64.wrap ((u : Int) + (v : Int)) = ((u + v : Nat) : Int) := by rw [IntKind.wrap_u64]; clear hw hc64 h7 hi1 hsz hcm hat hb hnx hsh; omega
          by_cases c128 : c < 128
          · have fin2 : ∀ x55 : Bool, x55 = decide (c = 0 ∧ 0 < i) →
                Ev (fun k => spec_GetNum.j2 k a ((u + v : Nat) : Int) (i : Int) x55) (if i = 9 ∧ 1 < c ∨ c = 0 ∧ 0 < i then (0, 0, 3) else if c < 128 then (unzig (u + v), ((a + i + 1 : Nat) : Int), 0) else gn s a f (i + 1) (u + v)) := by
              intro x55 hx5
              have su := spec_unzig _ hsum
              clear hnx hadd hsh hw hc64 h7 hi1 hsz hcm hb
              generalize u + v = v at su ⊢
              by_cases cz : c = 0 ∧ 0 < i
              · rw [if_pos (Or.inr cz)]
                refine Ev.one (fun k => ?_)
                simp only [spec_GetNum.j2]
                rw [if_pos (by rw [hx5]; simpa using cz)]
              · rw [if_neg (fun h => h.elim c9 cz), if_pos c128]
                refine Ev.one (fun k => ?_)
                simp only [spec_GetNum.j2]
                rw [if_neg (by rw [hx5]; simpa using cz), hat, ← su]
                split <;> rfl
            by_cases cz : c = 0
            · refine Ev.step (f := fun k => spec_GetNum.j2 k a ((u + v : Nat) : Int) (i : Int) (decide ((i : Int) > 0))) (fun k => ?_) (fin2 _ ?_)
              · simp only [spec_GetNum.j1]
                rw [if_neg (by rw [hx]; simpa using c9), h7, if_pos h7p, if_pos (by clear hw hc64 h7 hi1 hsz hcm hat hb hsh hadd hsum hnx fin2 h9 hx; omega), if_pos (by rw [cz]; rfl), hcm, hsh, hadd]
              · rw [decide_eq_decide]; clear hw hc64 h7 hi1 hsz hcm hat hb hsh hadd hsum hnx fin2 h9 hx; omega
            · refine Ev.step (f := fun k => spec_GetNum.j2 k a ((u + v : Nat) : Int) (i : Int) false) (fun k => ?_) (fin2 _ ?_)
              · simp only [spec_GetNum.j1]
                rw [if_neg (by rw [hx]; simpa using c9), h7, if_pos h7p, if_pos (by clear hw hc64 h7 hi1 hsz hcm hat hb hsh hadd hsum hnx fin2 h9 hx; omega), if_neg (by clear hw hc64 h7 hi1 hsz hcm hat hb hsh hadd hsum hnx fin2 h9 hx; omega), hcm, hsh, hadd]
              · symm; rw [decide_eq_false_iff_not]; clear hw hc64 h7 hi1 hsz hcm hat hb hsh hadd hsum hnx fin2 h9 hx; omega
          · rw [if_neg (by clear hw hc64 h7 hi1 hsz hcm hat hb hnx hsh hadd hsum; omega), if_neg c128]
            refine Ev.step (f := fun k => spec_GetNum.l0 k s a ((u + v : Nat) : Int) ((i + 1 : Nat) : Int)) (fun k => ?_) ?_
            · simp only [spec_GetNum.j1]
              rw [if_neg (by rw [hx]; simpa using c9), h7, if_pos h7p, if_neg (by clear hw hc64 h7 hi1 hsz hcm hat hb hsh hadd hsum hnx; omega), hcm, hsh, hadd, hi1]
            · exact ih (i + 1) _ (by clear hw hc64 h7 hi1 hsz hcm hat hb hnx hsh hadd hsum; omega) hnx
      by_cases i9 : i = 9
      · refine Ev.step (f := fun k => spec_GetNum.j1 k s a (u : Int) (i : Int) (c : Int) (decide ((c : Int) > 1))) (fun k => ?_) (fin1 _ ?_)
        · simp only [spec_GetNum.l0]
          rw [if_pos p10, hsz, if_neg psz, hw, if_pos pa0, if_pos pas, if_pos (by rw [i9]; rfl), hb, hc64]
        · rw [decide_eq_decide]; clear hw hc64 h7 hi1 hsz hcm hat hb; omega
      · refine Ev.step (f := fun k => spec_GetNum.j1 k s a (u : Int) (i : Int) (c : Int) false) (fun k => ?_) (fin1 _ ?_)
        · simp only [spec_GetNum.l0]
          rw [if_pos p10, hsz, if_neg psz, hw, if_pos pa0, if_pos pas, if_neg (by clear hw hc64 h7 hi1 hsz hcm hat hb hu fin1; omega), hb, hc64]
        · symm; rw [decide_eq_false_iff_not]; clear hw hc64 h7 hi1 hsz hcm hat hb; omega

def getNumS (s : ByteArray) (a : Int) : Int × Int × Int := if s.size > 8000 then (0, 0, 2) else getNumR s a
theorem spec_GetNum_ev (s : ByteArray) (hs : s.size ≤ 140737488351232) (a : Int) (ha : a ≤ 9223372036854775807) : Ev (fun k => spec_GetNum.f k s a) (getNumS s a) := by
  unfold spec_GetNum.f getNumS getNumR
  by_cases c8 : s.size > 8000
  · rw [if_pos c8]; exact Ev.pos (by omega) (Ev.now _)
  · rw [if_neg c8]; refine Ev.neg (by omega) ?_
    by_cases c : a < 0
    · rw [if_pos c]; exact Ev.pos c (Ev.now _)
    · rw [if_neg c]; refine Ev.neg c ?_
      have := spec_gn s (by omega) a.toNat (by omega) 10 0 0 rfl (by decide)
      rw [Int.toNat_of_nonneg (by omega)] at this
      exact this

/-- What a number read is: a code alone, or the number and the place behind it. -/
theorem gn_cases (s : ByteArray) (a f : Nat) : ∀ i u : Nat, (gn s a f i u).2.2 = 3 ∧ gn s a f i u = (0, 0, 3) ∨ gn s a f i u = (0, 0, 4) ∨
    (gn s a f i u).2.2 = 0 ∧ ∃ e : Nat, (gn s a f i u).2.1 = (e : Int) ∧ a + i < e ∧ e ≤ s.size := by
  induction f with
  | zero => intro i u; exact Or.inl ⟨rfl, rfl⟩
  | succ f ih =>
    intro i u
    unfold gn
    by_cases c0 : s.size ≤ a + i
    · rw [if_pos c0]; exact Or.inr (Or.inl rfl)
    · rw [if_neg c0]
      split
      · exact Or.inl ⟨rfl, rfl⟩
      · split
        · exact Or.inr (Or.inr ⟨rfl, a + i + 1, rfl, by omega, by omega⟩)
        · rcases ih (i + 1) (u + byteAt s (a + i) % 128 * 2 ^ (7 * i)) with h | h | ⟨h, e, h1, h2, h3⟩
          · exact Or.inl h
          · exact Or.inr (Or.inl h)
          · exact Or.inr (Or.inr ⟨h, e, h1, by omega, h3⟩)
theorem unzig_wf (u : Nat) (h : u < 18446744073709551616) : -9223372036854775808 ≤ unzig u ∧ unzig u ≤ 9223372036854775807 := by
  unfold unzig; split <;> omega
theorem gn_wf (s : ByteArray) (a f : Nat) : ∀ i u : Nat, i + f = 10 → u < 2 ^ (7 * i) → -9223372036854775808 ≤ (gn s a f i u).1 ∧ (gn s a f i u).1 ≤ 9223372036854775807 := by
  induction f with
  | zero => intro i u _ _; exact ⟨by show (-9223372036854775808 : Int) ≤ 0; omega, by show (0 : Int) ≤ _; omega⟩
  | succ f ih =>
    intro i u hi hu
    unfold gn
    by_cases c0 : s.size ≤ a + i
    · rw [if_pos c0]; exact ⟨by show (-9223372036854775808 : Int) ≤ 0; omega, by show (0 : Int) ≤ _; omega⟩
    · rw [if_neg c0]
      split
      · exact ⟨by show (-9223372036854775808 : Int) ≤ 0; omega, by show (0 : Int) ≤ _; omega⟩
      · rename_i hc
        have hlt := byteAt_lt s (a + i)
        split
        · exact unzig_wf _ (sum_lt u _ i hu (by omega) (by omega) (by omega))
        · exact ih (i + 1) _ (by omega) (next_lt u _ i hu (by omega))
/-! Empty texts. -/
theorem size_zero_iff (s : ByteArray) : s.toList = [] ↔ s.size = 0 := by
  rw [ByteArray.toList_eq]
  constructor
  · intro h; have := congrArg List.length h; simpa using this
  · intro h; exact List.eq_nil_of_length_eq_zero (by simpa using h)

/-! A range set's bytes. -/
def spEnc : Int → List Sp → List Int
  | _, [] => []
  | a, x :: r => enc (zig (x.f0 - a)) ++ (enc (zig (x.f1 - x.f0)) ++ spEnc x.f1 r)
def spFin (b : List Int) : ByteArray := if 8000 < b.length then ⟨#[]⟩ else strOfNums b
def spBytes (l : List Sp) : ByteArray := if spRight l = true then spFin (enc (zig (l.length : Int)) ++ spEnc 0 l) else ⟨#[]⟩
theorem okFrom_mem (l : List Sp) : ∀ lo : Int, 1 ≤ lo → okFrom lo l = true → ∀ x ∈ l, 1 ≤ x.f0 ∧ x.f0 ≤ x.f1 ∧ x.f1 ≤ 1000000 := by
  induction l with
  | nil => intro lo _ _ x hx; cases hx
  | cons y r ih =>
    intro lo hlo h x hx
    rw [okFrom_step, Bool.and_eq_true] at h
    have h1 := of_decide_eq_true h.1
    rcases List.mem_cons.1 hx with e | e
    · rw [e]; omega
    · exact ih (y.f1 + 2) (by omega) h.2 x e
theorem spRight_mem {l : List Sp} (h : spRight l = true) : l.length ≤ 400 ∧ ∀ x ∈ l, 1 ≤ x.f0 ∧ x.f0 ≤ x.f1 ∧ x.f1 ≤ 1000000 := by
  unfold spRight at h
  rw [Bool.and_eq_true] at h
  exact ⟨of_decide_eq_true h.1, okFrom_mem l 1 (by omega) h.2⟩
theorem impl_SB_l0 (l : List Sp) (hm : ∀ x ∈ l, 1 ≤ x.f0 ∧ x.f0 ≤ x.f1 ∧ x.f1 ≤ 1000000) (hl : l.length ≤ 400) (d : Nat) : ∀ (i : Nat) (acc : List Int) (a : Int), i + d = l.length → 0 ≤ a → a ≤ 1000000 → acc.length ≤ 10 + 20 * i →
    Ev (fun k => impl_SpansBytes.l0 k acc a l (l.length : Int) (i : Int)) (spFin (acc ++ spEnc a (l.drop i))) := by
  induction d with
  | zero =>
    intro i acc a hi _ _ _
    refine Ev.one (fun k => ?_)
    simp only [impl_SpansBytes.l0]
    rw [if_neg (by omega), List.drop_of_length_le (by omega)]
    unfold spEnc spFin
    rw [List.append_nil]
    by_cases c : 8000 < acc.length
    · rw [if_pos c, if_pos (by omega)]
    · rw [if_neg c, if_neg (by omega)]
  | succ d ih =>
    intro i acc a hi ha0 ha1 hac
    have hlt : i < l.length := by omega
    obtain ⟨x0, x1, x2⟩ := hm l[i] (List.getElem_mem hlt)
    have w1 : wrap64 (l[i].f0 - a) = l[i].f0 - a := w64 (by omega) (by omega)
    have w2 : wrap64 (l[i].f1 - l[i].f0) = l[i].f1 - l[i].f0 := w64 (by omega) (by omega)
    have r1 : i64r (l[i].f0 - a) := ⟨by omega, by omega⟩
    have r2 : i64r (l[i].f1 - l[i].f0) := ⟨by omega, by omega⟩
    have z1 := enc_size r1
    have z2 := enc_size r2
    refine Ev.step (f := fun k => impl_SpansBytes.l0 (k + 1) acc a l (l.length : Int) (i : Int)) (fun k => rfl) ?_
    simp only [impl_SpansBytes.l0]
    rw [sp_at hlt, w1, w2, show wrap64 ((i : Int) + 1) = ((i + 1 : Nat) : Int) from by unfold wrap64; omega]
    refine Ev.pos (by omega) (Ev.pos (by omega) (Ev.pos (by omega) (Ev.bind (impl_nb r1) (Ev.pos (by omega) ?_))))
    refine Ev.take rfl (Ev.bind (impl_nb r2) (Ev.pos (by rw [List.length_append]; omega) ?_))
    have := ih (i + 1) ((acc ++ enc (zig (l[i].f0 - a))) ++ enc (zig (l[i].f1 - l[i].f0))) l[i].f1 (by omega) (by omega) (by omega) (by rw [List.length_append, List.length_append]; omega)
    rw [drop_cons hlt]
    show Ev _ (spFin (acc ++ (enc (zig (l[i].f0 - a)) ++ (enc (zig (l[i].f1 - l[i].f0)) ++ spEnc l[i].f1 (l.drop (i + 1))))))
    rw [← List.append_assoc, ← List.append_assoc]
    exact this
theorem impl_SB_ev (l : List Sp) (hl : l.length ≤ 9223372036854775807) : Ev (fun k => impl_SpansBytes.f k l) (spBytes l) := by
  unfold impl_SpansBytes.f spBytes
  refine Ev.bind (impl_SR_ev l hl) ?_
  by_cases c : spRight l = true
  · obtain ⟨h1, h2⟩ := spRight_mem c
    rw [if_pos c]
    refine Ev.pos c (Ev.bind (impl_nb (len_i64 _ (by omega))) ?_)
    exact impl_SB_l0 l h2 h1 l.length 0 _ 0 (by omega) (by omega) (by omega) (by have := enc_size (len_i64 l.length (by omega)); omega)
  · rw [if_neg c]; exact Ev.neg c (Ev.now _)
theorem son_size (b : List Int) : (strOfNums b).size = b.length := size_strOfNums b
theorem spec_SB_l0 (l : List Sp) (hm : ∀ x ∈ l, 1 ≤ x.f0 ∧ x.f0 ≤ x.f1 ∧ x.f1 ≤ 1000000) (hl : l.length ≤ 400) (d : Nat) : ∀ (i : Nat) (acc : List Int) (a : Int), i + d = l.length → 0 ≤ a → a ≤ 1000000 → acc.length ≤ 10 + 20 * i →
    Ev (fun k => spec_SpansBytes.l0 k l (strOfNums acc) a (i : Int)) (spFin (acc ++ spEnc a (l.drop i))) := by
  induction d with
  | zero =>
    intro i acc a hi _ _ _
    refine Ev.one (fun k => ?_)
    simp only [spec_SpansBytes.l0]
    rw [if_neg (by omega), List.drop_of_length_le (by omega), son_size]
    unfold spEnc spFin
    rw [List.append_nil]
    by_cases c : 8000 < acc.length
    · rw [if_pos c, if_pos (by omega)]
    · rw [if_neg c, if_neg (by omega)]
  | succ d ih =>
    intro i acc a hi ha0 ha1 hac
    have hlt : i < l.length := by omega
    obtain ⟨x0, x1, x2⟩ := hm l[i] (List.getElem_mem hlt)
    have w1 : wrap64 (l[i].f0 - a) = l[i].f0 - a := w64 (by omega) (by omega)
    have w2 : wrap64 (l[i].f1 - l[i].f0) = l[i].f1 - l[i].f0 := w64 (by omega) (by omega)
    have r1 : i64r (l[i].f0 - a) := ⟨by omega, by omega⟩
    have r2 : i64r (l[i].f1 - l[i].f0) := ⟨by omega, by omega⟩
    have z1 := enc_size r1
    have z2 := enc_size r2
    refine Ev.step (f := fun k => spec_SpansBytes.l0 (k + 1) l (strOfNums acc) a (i : Int)) (fun k => rfl) ?_
    simp only [spec_SpansBytes.l0]
    rw [sp_at hlt, w1, w2, show wrap64 ((i : Int) + 1) = ((i + 1 : Nat) : Int) from by unfold wrap64; omega]
    refine Ev.pos (by omega) (Ev.pos (by omega) (Ev.bind (spec_pn r1) (Ev.bind (spec_pn r2) (Ev.pos ?_ ?_))))
    · unfold pn; rw [son_size, son_size, son_size]; omega
    · have := ih (i + 1) ((acc ++ enc (zig (l[i].f0 - a))) ++ enc (zig (l[i].f1 - l[i].f0))) l[i].f1 (by omega) (by omega) (by omega) (by rw [List.length_append, List.length_append]; omega)
      rw [drop_cons hlt]
      show Ev _ (spFin (acc ++ (enc (zig (l[i].f0 - a)) ++ (enc (zig (l[i].f1 - l[i].f0)) ++ spEnc l[i].f1 (l.drop (i + 1))))))
      rw [← List.append_assoc, ← List.append_assoc]
      rw [son_append, son_append, ByteArray.append_assoc] at this
      exact this
theorem spec_SB_ev (l : List Sp) (hl : l.length ≤ 9223372036854775807) : Ev (fun k => spec_SpansBytes.f k l) (spBytes l) := by
  unfold spec_SpansBytes.f spBytes
  refine Ev.bind (spec_SR_ev l hl) ?_
  by_cases c : spRight l = true
  · obtain ⟨h1, h2⟩ := spRight_mem c
    rw [if_pos c]
    refine Ev.pos c (Ev.bind (spec_pn (len_i64 _ (by omega))) (Ev.pos (by have := pn_size (len_i64 l.length (by omega)); omega) ?_))
    exact spec_SB_l0 l h2 h1 l.length 0 _ 0 (by omega) (by omega) (by omega) (by have := enc_size (len_i64 l.length (by omega)); omega)
  · rw [if_neg c]; exact Ev.neg c (Ev.now _)

/-! Marks of a range set. -/
/-- What marking leaves, and that it is still there. -/
def markSp (m : Int) : List Sp → List Sp
  | [] => []
  | _ :: r => ⟨m, m + 1⟩ :: markSp (m + 2) r
theorem markSp_length (l : List Sp) : ∀ m, (markSp m l).length = l.length := by
  induction l with
  | nil => intro m; rfl
  | cons x r ih => intro m; simp [markSp, ih]
theorem markSpanS_l0 (n : Nat) (hn : n ≤ 4194304) (d : Nat) : ∀ (i : Nat) (l : List Sp) (m : Int), i + d = l.length → l.length = n → 0 ≤ m → m ≤ 1099511627776 →
    Ev (fun k => laws_markSpanS.l0 k l (m + 2 * i) (i : Int)) (m + 2 * n, l.take i ++ markSp (m + 2 * i) (l.drop i)) := by
  induction d with
  | zero =>
    intro i l m hi hl h0 h1
    refine Ev.one (fun k => ?_)
    simp only [laws_markSpanS.l0]
    rw [if_neg (by omega), List.drop_of_length_le (by omega), List.take_of_length_le (by omega)]
    simp [markSp]; omega
  | succ d ih =>
    intro i l m hi hl h0 h1
    have hlt : i < l.length := by omega
    refine Ev.step (f := fun k => laws_markSpanS.l0 k (l.set i ⟨m + 2 * i, m + 2 * i + 1⟩) (m + 2 * ((i + 1 : Nat) : Int)) ((i + 1 : Nat) : Int)) (fun k => ?_)
      (Ev.to ?_ (ih (i + 1) (l.set i ⟨m + 2 * i, m + 2 * i + 1⟩) m (by simp; omega) (by simpa using hl) h0 h1))
    · simp only [laws_markSpanS.l0]
      rw [if_pos (by omega), if_pos (by omega)]
      simp only [Option.bind_some, Int.toNat_natCast]
      have e1 : wrap64 (m + 2 * (i : Int) + 1) = m + 2 * i + 1 := w64 (by omega) (by omega)
      have e2 : wrap64 (m + 2 * (i : Int) + 1 + 1) = m + 2 * ((i + 1 : Nat) : Int) := by rw [w64 (by omega) (by omega)]; omega
      have e3 : wrap64 ((i : Int) + 1) = ((i + 1 : Nat) : Int) := by unfold wrap64; omega
      rw [e1, e2, e3, sp_at hlt, sp_at (l := l.set i ⟨m + 2 * i, l[i].f1⟩) (i := i) (by simpa using hlt)]
      simp
    · rw [drop_cons hlt, List.take_succ_eq_append_getElem (by simpa using hlt)]
      have e : m + 2 * ((i + 1 : Nat) : Int) = m + 2 * i + 2 := by omega
      rw [e]; simp only [markSp]
      rw [List.take_set_of_le (Nat.le_refl _), List.drop_set_of_lt (by omega)]; simp
theorem markSpanS_ev (l : List Sp) (m : Int) (hl : l.length ≤ 4194304) (h0 : 0 ≤ m) (h1 : m ≤ 1099511627776) : Ev (fun k => laws_markSpanS.f k l m) (m + 2 * l.length, markSp m l) := by
  unfold laws_markSpanS.f
  simpa using markSpanS_l0 l.length hl l.length 0 l m (by omega) rfl h0 h1
theorem heldSpanS_l0 (m : Int) (h0 : 0 ≤ m) (h1 : m ≤ 1099511627776) (l0 : List Sp) (hl : l0.length ≤ 4194304) (d : Nat) : ∀ i : Nat, i + d = l0.length →
    Ev (fun k => laws_heldSpanS.l0 k (markSp m l0) (m + 2 * i) (i : Int)) (m + 2 * l0.length) := by
  have hget : ∀ (l : List Sp) (m : Int) (i : Nat) (h : i < (markSp m l).length), (markSp m l)[i] = ⟨m + 2 * i, m + 2 * i + 1⟩ := by
    intro l
    induction l with
    | nil => intro m i h; simp [markSp] at h
    | cons x r ih =>
      intro m i h
      cases i with
      | zero => simp [markSp]
      | succ i =>
        simp only [markSp, List.getElem_cons_succ]
        rw [ih]
        congr 1 <;> omega
  induction d with
  | zero =>
    intro i hi
    refine Ev.one (fun k => ?_)
    simp only [laws_heldSpanS.l0]
    rw [markSp_length, if_neg (by omega)]
    congr 1; omega
  | succ d ih =>
    intro i hi
    have hlt : i < (markSp m l0).length := by rw [markSp_length]; omega
    refine Ev.step (f := fun k => laws_heldSpanS.l0 k (markSp m l0) (m + 2 * ((i + 1 : Nat) : Int)) ((i + 1 : Nat) : Int)) (fun k => ?_) (ih (i + 1) (by omega))
    simp only [laws_heldSpanS.l0]
    have e1 : wrap64 (m + 2 * (i : Int) + 1) = m + 2 * i + 1 := w64 (by omega) (by omega)
    have e2 : wrap64 (m + 2 * (i : Int) + 1 + 1) = m + 2 * ((i + 1 : Nat) : Int) := by rw [w64 (by omega) (by omega)]; omega
    have e3 : wrap64 ((i : Int) + 1) = ((i + 1 : Nat) : Int) := by unfold wrap64; omega
    rw [if_pos (by omega), if_pos (by omega), sp_at hlt, hget, e1, if_pos rfl, if_pos rfl, e2, e3]
theorem heldSpanS_ev (l : List Sp) (m : Int) (hl : l.length ≤ 4194304) (h0 : 0 ≤ m) (h1 : m ≤ 1099511627776) : Ev (fun k => laws_heldSpanS.f k (markSp m l) m) (m + 2 * l.length) := by
  unfold laws_heldSpanS.f
  simpa using heldSpanS_l0 m h0 h1 l hl l.length 0 (by omega)

/-! Two readers of numbers, side by side. -/
theorem Ev.uniq {α : Type} {g : Nat → Option α} {r q : α} (h1 : Ev g r) (h2 : Ev g q) : r = q := by
  obtain ⟨a, ha⟩ := h1
  obtain ⟨b, hb⟩ := h2
  exact Option.some.inj ((ha (max a b) (Nat.le_max_left _ _)).symm.trans (hb _ (Nat.le_max_right _ _)))
theorem getNumR_facts (s : ByteArray) (a : Int) : i64r (getNumR s a).1 ∧ 0 ≤ (getNumR s a).2.1 ∧ (getNumR s a).2.1 ≤ s.size := by
  unfold getNumR
  by_cases c : a < 0
  · rw [if_pos c]; exact ⟨⟨by show (-9223372036854775808 : Int) ≤ 0; omega, by show (0 : Int) ≤ _; omega⟩, by show (0 : Int) ≤ 0; omega, by show (0 : Int) ≤ _; omega⟩
  · rw [if_neg c]
    refine ⟨gn_wf s a.toNat 10 0 0 rfl (by decide), ?_⟩
    rcases gn_cases s a.toNat 10 0 0 with h | h | ⟨h, e, h1, h2, h3⟩
    · rw [h.2]; exact ⟨by show (0 : Int) ≤ 0; omega, by show (0 : Int) ≤ _; omega⟩
    · rw [h]; exact ⟨by show (0 : Int) ≤ 0; omega, by show (0 : Int) ≤ _; omega⟩
    · rw [h1]; omega
/-- Both readers' places; they are one while nothing is wrong. -/
def Rd (b : ByteArray) (a : Int) (bad : Bool) (a' : Int) : Prop := (0 ≤ a ∧ a ≤ b.size) ∧ (0 ≤ a' ∧ a' ≤ b.size) ∧ (bad = false → a = a')
theorem num_both (b : ByteArray) (hb : b.size ≤ 8000) (a : Int) (bad : Bool) (a' : Int) (h : Rd b a bad a') :
    ∃ n n' a1 bad1 a1', Ev (fun k => spec_l02Reader_num.f k b a bad) (n, b, a1, bad1) ∧ Ev (fun k => impl_decoder_num.f k b a' bad) (n', b, a1', bad1) ∧ Rd b a1 bad1 a1' ∧ (bad1 = false → bad = false ∧ n = n') ∧ i64r n ∧ i64r n' := by
  obtain ⟨h1, h2, h3⟩ := h
  have hS := spec_GetNum_ev b (by omega) a (by omega)
  have hI := impl_getNum_ev b (by omega) a' (by omega)
  rw [show getNumS b a = getNumR b a from by unfold getNumS; rw [if_neg (by omega)]] at hS
  have f1 := getNumR_facts b a
  have f2 := getNumR_facts b a'
  have z0 : i64r 0 := ⟨by omega, by omega⟩
  cases bad with
  | true =>
    exact ⟨0, (getNumR b a').1, a, true, (getNumR b a').2.1, by unfold spec_l02Reader_num.f; exact Ev.bind hS (Ev.pos rfl (Ev.now _)), by unfold impl_decoder_num.f; exact Ev.bind hI (Ev.pos rfl (Ev.now _)), ⟨h1, f2.2, fun e => by cases e⟩, fun e => (by cases e), z0, f2.1⟩
  | false =>
    obtain rfl := h3 rfl
    by_cases c : (getNumR b a).2.2 = 0
    · refine ⟨(getNumR b a).1, (getNumR b a).1, (getNumR b a).2.1, false, (getNumR b a).2.1, by unfold spec_l02Reader_num.f; exact Ev.bind hS (Ev.neg (by simp) (Ev.pos c (Ev.now _))), ?_, ⟨f1.2, f1.2, fun _ => rfl⟩, fun _ => ⟨rfl, rfl⟩, f1.1, f1.1⟩
      unfold impl_decoder_num.f
      refine Ev.bind hI (Ev.neg (by simp) (Ev.to ?_ (Ev.now _)))
      rw [c]; rfl
    · refine ⟨0, (getNumR b a).1, a, true, (getNumR b a).2.1, by unfold spec_l02Reader_num.f; exact Ev.bind hS (Ev.neg (by simp) (Ev.neg c (Ev.now _))), ?_, ⟨h1, f1.2, fun e => by cases e⟩, fun e => (by cases e), z0, f1.1⟩
      unfold impl_decoder_num.f
      refine Ev.bind hI (Ev.neg (by simp) (Ev.to ?_ (Ev.now _)))
      rw [show ((getNumR b a).2.2 != 0) = true from bne_iff_ne.mpr c]
/-- Each reader for itself. -/
theorem snum_any (b : ByteArray) (hb : b.size ≤ 8000) (a : Int) (bad : Bool) (h : 0 ≤ a ∧ a ≤ b.size) : ∃ n a1 bad1, Ev (fun k => spec_l02Reader_num.f k b a bad) (n, b, a1, bad1) ∧ (0 ≤ a1 ∧ a1 ≤ b.size) ∧ (bad1 = false → bad = false) ∧ i64r n := by
  obtain ⟨n, _, a1, b1, _, h1, _, h2, h3, h4, _⟩ := num_both b hb a bad a ⟨h, h, fun _ => rfl⟩
  exact ⟨n, a1, b1, h1, h2.1, fun e => (h3 e).1, h4⟩
theorem inum_any (b : ByteArray) (hb : b.size ≤ 8000) (a : Int) (bad : Bool) (h : 0 ≤ a ∧ a ≤ b.size) : ∃ n a1 bad1, Ev (fun k => impl_decoder_num.f k b a bad) (n, b, a1, bad1) ∧ (0 ≤ a1 ∧ a1 ≤ b.size) ∧ (bad1 = false → bad = false) ∧ i64r n := by
  obtain ⟨_, n, _, b1, a1, _, h1, h2, h3, _, h4⟩ := num_both b hb a bad a ⟨h, h, fun _ => rfl⟩
  exact ⟨n, a1, b1, h1, h2.2.1, fun e => (h3 e).1, h4⟩


end Go.Proofs.Ytibdkoepmejgdaa.Print
