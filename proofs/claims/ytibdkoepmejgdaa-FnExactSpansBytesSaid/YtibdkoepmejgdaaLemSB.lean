/- Lemmas: a range set's bytes. -/
import Derived.Test.YtibdkoepmejgdaaStFnExactSpansBytes
import Derived.Laws.Bits64
namespace Go.Proofs.Ytibdkoepmejgdaa.Print
open Go.RowKit Go.Proofs.YtibdkoepmejgdaaW.PrintWords Go.Proofs.YtibdkoepmejgdaaW.PrintLast Go.Proofs.YtibdkoepmejgdaaW.PrintMore
set_option linter.unusedVariables false
set_option linter.unusedSimpArgs false

/-! Rounds: small helpers. -/
theorem Ev.pos {α : Type} {c : Prop} [Decidable c] {f g : Nat → Option α} {r : α} (hc : c) (h : Ev f r) : Ev (fun n => if c then f n else g n) r := by
  simp only [hc, if_true]; exact h
theorem Ev.neg {α : Type} {c : Prop} [Decidable c] {f g : Nat → Option α} {r : α} (hc : ¬ c) (h : Ev g r) : Ev (fun n => if c then f n else g n) r := by
  simp only [hc, if_false]; exact h
theorem Ev.here {α : Type} {o : Option α} {r : α} (h : o = some r) : Ev (fun _ => o) r := ⟨0, fun _ _ => h⟩
theorem Ev.take {α β : Type} {o : Option α} {f : Nat → α → Option β} {a : α} {r : β} (h : o = some a) (k : Ev (fun n => f n a) r) : Ev (fun n => o.bind (f n)) r := by
  subst h; exact k
theorem Ev.one {α : Type} {g : Nat → Option α} {r : α} (h : ∀ k, g (k + 1) = some r) : Ev g r := Ev.step (f := fun _ => some r) h (Ev.now r)
theorem Ev.to {α : Type} {g : Nat → Option α} {r q : α} (e : r = q) (h : Ev g r) : Ev g q := e ▸ h

/-! A byte of a string. -/
theorem bt_at {s : ByteArray} {i : Nat} (h : i < s.size) : bt s (i : Int) = ((s.data.toList[i]'(by simpa using h)).toNat : Int) := by
  unfold bt
  rw [dif_pos (by simpa using h)]
  rfl

/-! Lists of structs, read one by one. -/
theorem w64 {n : Int} (h0 : -9223372036854775808 ≤ n) (h1 : n ≤ 9223372036854775807) : wrap64 n = n := by unfold wrap64; omega
theorem drop_cons {α : Type} {l : List α} {i : Nat} (h : i < l.length) : l.drop i = l[i] :: l.drop (i + 1) := List.drop_eq_getElem_cons h
theorem getD_at {α : Type} {l : List α} {i : Nat} (d : α) (h : i < l.length) : l.getD ((i : Int)).toNat d = l[i] := by
  rw [Int.toNat_natCast, List.getD_eq_getElem?_getD, List.getElem?_eq_getElem h]; rfl

/-! Varints: what numBytes and the reference's PutNum come to. -/
theorem wfi64 {n : Int} (h : (Lit.int .i64 n).wf = true) : -9223372036854775808 ≤ n ∧ n ≤ 9223372036854775807 := by
  simpa [Lit.wf, IntKind.min, IntKind.max, IntKind.signed, IntKind.bits] using h

/-- The bytes of an unsigned number, seven bits each. -/
def enc (u : Nat) : List Int := if u < 128 then [(u : Int)] else ((u % 128 + 128 : Nat) : Int) :: enc (u / 128)
termination_by u
decreasing_by omega

theorem enc_lt {u : Nat} (h : u < 128) : enc u = [(u : Int)] := by rw [enc, if_pos h]
theorem enc_ge {u : Nat} (h : 128 ≤ u) : enc u = ((u % 128 + 128 : Nat) : Int) :: enc (u / 128) := by rw [enc, if_neg (by omega)]

theorem enc_length (d : Nat) : ∀ u : Nat, u < 128 ^ d → (enc u).length ≤ max d 1 := by
  induction d with
  | zero => intro u h; rw [enc_lt (by omega)]; simp
  | succ d ih =>
    intro u h
    by_cases hu : u < 128
    · rw [enc_lt hu]; simp only [List.length_cons, List.length_nil]; omega
    · rw [enc_ge (by omega)]
      have := ih (u / 128) (by rw [Nat.pow_succ] at h; omega)
      have h2 : d ≠ 0 := by rintro rfl; simp at h; omega
      simp only [List.length_cons]; omega

theorem bits_or128_fin : ∀ a : Fin 256, 128 ≤ a.val → Go.bits .or .u8 (a.val : Int) 128 = ((a.val % 128 + 128 : Nat) : Int) := by decide +kernel
theorem bits_or128_fin' : ∀ a : Fin 256, Go.bits .or .u8 (a.val : Int) 128 = ((a.val % 128 + 128 : Nat) : Int) := by decide +kernel
theorem bits_or128 (u : Nat) : Go.bits .or .u8 ((u : Int) % 256) 128 = ((u % 128 + 128 : Nat) : Int) := by
  have h := bits_or128_fin' ⟨u % 256, by omega⟩
  have e : ((u : Int) % 256) = ((u % 256 : Nat) : Int) := by omega
  rw [e]
  refine h.trans ?_
  simp only []
  omega

theorem bits_xor_ones (a : Nat) (h : a < 18446744073709551616) : Go.bits .xor .u64 (a : Int) 18446744073709551615 = 18446744073709551615 - (a : Int) := by
  have e : BitVec.ofInt 64 18446744073709551615 = BitVec.allOnes 64 := by decide
  have h1 : (BitVec.ofInt 64 (a : Int)).toNat = a := by
    rw [BitVec.ofInt_natCast, BitVec.toNat_ofNat]; exact Nat.mod_eq_of_lt (by omega)
  show IntKind.u64.wrap ((BitVec.ofInt 64 (a : Int) ^^^ BitVec.ofInt 64 18446744073709551615).toNat : Int) = _
  rw [e, BitVec.xor_allOnes, BitVec.toNat_not, h1, IntKind.wrap_u64]
  omega
theorem bits_xor_zero (a : Nat) (h : a < 18446744073709551616) : Go.bits .xor .u64 (a : Int) 0 = (a : Int) := by
  have := bits_xor_u64_nat a 0 h (by omega)
  simpa using this

/-- A number folded: the sign in the lowest bit. -/
def zig (n : Int) : Nat := if n < 0 then (-2 * n - 1).toNat else (2 * n).toNat
theorem zig_lt {n : Int} (h0 : -9223372036854775808 ≤ n) (h1 : n ≤ 9223372036854775807) : zig n < 18446744073709551616 := by unfold zig; split <;> omega

theorem impl_zig {n : Int} (h0 : -9223372036854775808 ≤ n) (h1 : n ≤ 9223372036854775807) :
    Go.bits .xor .u64 (IntKind.u64.wrap ((IntKind.u64.wrap n) * 2)) (IntKind.u64.wrap (n / 9223372036854775808)) = (zig n : Int) := by
  unfold zig
  by_cases h : n < 0
  · rw [if_pos h]
    have e1 : IntKind.u64.wrap ((IntKind.u64.wrap n) * 2) = ((2 * n + 18446744073709551616).toNat : Int) := by
      simp only [IntKind.wrap_u64]; omega
    have e2 : IntKind.u64.wrap (n / 9223372036854775808) = 18446744073709551615 := by
      simp only [IntKind.wrap_u64]; omega
    rw [e1, e2, bits_xor_ones _ (by omega)]
    omega
  · rw [if_neg h]
    have e1 : IntKind.u64.wrap ((IntKind.u64.wrap n) * 2) = ((2 * n).toNat : Int) := by
      simp only [IntKind.wrap_u64]; omega
    have e2 : IntKind.u64.wrap (n / 9223372036854775808) = 0 := by
      simp only [IntKind.wrap_u64]; omega
    rw [e1, e2, bits_xor_zero _ (by omega)]

theorem spec_zig {n : Int} (h0 : -9223372036854775808 ≤ n) (h1 : n ≤ 9223372036854775807) : spec_l01Fold.f n = some ((zig n : Nat) : Int) := by
  unfold spec_l01Fold.f zig
  by_cases h : n < 0
  · rw [if_pos h, if_pos h]
    congr 1
    simp only [IntKind.wrap_u64]; unfold wrap64; omega
  · rw [if_neg h, if_neg h]
    congr 1
    simp only [IntKind.wrap_u64]; omega

theorem impl_numBytes_l0 (d : Nat) : ∀ u : Nat, u < 128 ^ (d + 1) → u < 18446744073709551616 → ∀ acc : List Int, acc.length + d < 140737488355328 →
    Ev (fun k => impl_numBytes.l0 k (u : Int) acc) (acc ++ enc u) := by
  induction d with
  | zero =>
    intro u h1 h2 acc h3
    refine Ev.step (f := fun _ => some (acc ++ enc u)) (fun k => ?_) (Ev.now _)
    simp only [impl_numBytes.l0]
    rw [if_neg (by omega), if_pos (by omega), enc_lt (by omega)]
    congr 3; omega
  | succ d ih =>
    intro u h1 h2 acc h3
    by_cases hu : u < 128
    · refine Ev.step (f := fun _ => some (acc ++ enc u)) (fun k => ?_) (Ev.now _)
      simp only [impl_numBytes.l0]
      rw [if_neg (by omega), if_pos (by omega), enc_lt (by omega)]
      congr 3; omega
    · refine Ev.step (f := fun k => impl_numBytes.l0 k ((u / 128 : Nat) : Int) (acc ++ [((u % 128 + 128 : Nat) : Int)])) (fun k => ?_) ?_
      · simp only [impl_numBytes.l0]
        rw [if_pos (by omega), if_pos (by omega), bits_or128]
        congr 1
      · have := ih (u / 128) (by rw [Nat.pow_succ] at h1; omega) (by omega) (acc ++ [((u % 128 + 128 : Nat) : Int)]) (by simp; omega)
        rw [enc_ge (by omega)]
        simpa using this

theorem impl_numBytes_ev {n : Int} (h0 : -9223372036854775808 ≤ n) (h1 : n ≤ 9223372036854775807) : Ev (fun k => impl_numBytes.f k n) (enc (zig n)) := by
  unfold impl_numBytes.f
  rw [impl_zig h0 h1]
  simpa using impl_numBytes_l0 9 (zig n) (by have := zig_lt h0 h1; omega) (zig_lt h0 h1) [] (by simp)

theorem spec_PutNum_l0 (d : Nat) : ∀ u : Nat, u < 128 ^ (d + 1) → u < 18446744073709551616 → ∀ acc : List Int, acc.length + d < 140737488355328 →
    Ev (fun k => spec_PutNum.l0 k (u : Int) acc) (strOfNums (acc ++ enc u)) := by
  induction d with
  | zero =>
    intro u h1 h2 acc h3
    refine Ev.step (f := fun _ => some (strOfNums (acc ++ enc u))) (fun k => ?_) (Ev.now _)
    simp only [spec_PutNum.l0]
    rw [if_neg (by omega), if_pos (by omega), enc_lt (by omega)]
    congr 4; omega
  | succ d ih =>
    intro u h1 h2 acc h3
    by_cases hu : u < 128
    · refine Ev.step (f := fun _ => some (strOfNums (acc ++ enc u))) (fun k => ?_) (Ev.now _)
      simp only [spec_PutNum.l0]
      rw [if_neg (by omega), if_pos (by omega), enc_lt (by omega)]
      congr 4; omega
    · refine Ev.step (f := fun k => spec_PutNum.l0 k ((u / 128 : Nat) : Int) (acc ++ [((u % 128 + 128 : Nat) : Int)])) (fun k => ?_) ?_
      · simp only [spec_PutNum.l0]
        rw [if_pos (by omega), if_pos (by omega)]
        have e1 : IntKind.u64.wrap (Int.tdiv (u : Int) 128) = ((u / 128 : Nat) : Int) := by
          rw [Int.tdiv_eq_ediv_of_nonneg (by omega), IntKind.wrap_u64]; omega
        have e2 : (IntKind.u64.wrap ((Int.tmod (u : Int) 128) + 128)) % 256 = ((u % 128 + 128 : Nat) : Int) := by
          rw [Int.tmod_eq_emod_of_nonneg (by omega), IntKind.wrap_u64]; omega
        rw [e1, e2]
      · have := ih (u / 128) (by rw [Nat.pow_succ] at h1; omega) (by omega) (acc ++ [((u % 128 + 128 : Nat) : Int)]) (by simp; omega)
        rw [enc_ge (by omega)]
        simpa using this

theorem spec_PutNum_ev {n : Int} (h0 : -9223372036854775808 ≤ n) (h1 : n ≤ 9223372036854775807) : Ev (fun k => spec_PutNum.f k n) (strOfNums (enc (zig n))) := by
  unfold spec_PutNum.f
  rw [spec_zig h0 h1]
  simp only [Option.bind_some]
  simpa using spec_PutNum_l0 9 (zig n) (by have := zig_lt h0 h1; omega) (zig_lt h0 h1) [] (by simp)

theorem size_strOfNums (l : List Int) : (strOfNums l).size = l.length := by simp [strOfNums, ByteArray.size]
theorem enc_zig_length {n : Int} (h0 : -9223372036854775808 ≤ n) (h1 : n ≤ 9223372036854775807) : (enc (zig n)).length ≤ 10 := by
  have := enc_length 10 (zig n) (by have := zig_lt h0 h1; omega)
  omega

/-! Range sets: valid ones; copies; comparisons. -/
abbrev Sp := S48
abbrev SpL := S50
def toSp (x : SpL) : Sp := ⟨x.f0, x.f1⟩
theorem sp_at {l : List Sp} {i : Nat} (h : i < l.length) : rd_T48 l (i : Int) = l[i] := getD_at _ h
theorem spL_at {l : List SpL} {i : Nat} (h : i < l.length) : rd_T50 l (i : Int) = l[i] := getD_at _ h
theorem in_eq (a b c : Int) : impl_in.f a b c = some (decide (b ≤ a ∧ a ≤ c)) := by
  unfold impl_in.f; split <;> simp [*]
theorem is_eq (a b c : Int) : spec_l02Is.f a b c = some (decide (b ≤ a ∧ a ≤ c)) := by
  unfold spec_l02Is.f
  by_cases h : b ≤ a
  · rw [if_pos h]; simp [h]
  · rw [if_neg h]; simp [h]
theorem isId_eq (a : Int) : impl_isId.f a = some (decide (1 ≤ a ∧ a ≤ 1000000)) := by unfold impl_isId.f; rw [in_eq]; rfl
theorem l02Id_eq (a : Int) : spec_l02Id.f a = some (decide (1 ≤ a ∧ a ≤ 1000000)) := by unfold spec_l02Id.f; rw [is_eq]; rfl
/-- Valid from a least number on. -/
def okFrom : Int → List Sp → Bool
  | _, [] => true
  | lo, x :: r => decide (lo ≤ x.f0 ∧ x.f0 ≤ x.f1 ∧ x.f1 ≤ 1000000) && okFrom (x.f1 + 2) r
def spRight (l : List Sp) : Bool := decide (l.length ≤ 400) && okFrom 1 l

/-- What a round of either side's loop asks of an element behind another one. -/
theorem okFrom_step {lo : Int} {x : Sp} {r : List Sp} : okFrom lo (x :: r) = (decide (lo ≤ x.f0 ∧ x.f0 ≤ x.f1 ∧ x.f1 ≤ 1000000) && okFrom (x.f1 + 2) r) := rfl

theorem impl_SR_l0 (l : List Sp) (hl : l.length ≤ 9223372036854775807) (d : Nat) : ∀ (i : Nat) (lo : Int), i + d = l.length → 1 ≤ lo → lo ≤ 1000002 →
    (i = 0 ∧ lo = 1 ∨ ∃ h : 0 < i ∧ i ≤ l.length, lo = (l[i - 1]'(by omega)).f1 + 2) →
    Ev (fun k => impl_SpansRight.l0 k l l (l.length : Int) (i : Int)) (okFrom lo (l.drop i) && decide (l.length ≤ 400)) := by
  induction d with
  | zero =>
    intro i lo hi _ _ _
    refine Ev.one (fun k => ?_)
    simp only [impl_SpansRight.l0]
    rw [if_neg (by omega), List.drop_of_length_le (by omega)]
    simp [okFrom]
    omega
  | succ d ih =>
    intro i lo hi h1 h2 hp
    have hlt : i < l.length := by omega
    rw [drop_cons hlt, okFrom_step]
    have hw : wrap64 ((i : Int) + 1) = ((i + 1 : Nat) : Int) := by unfold wrap64; omega
    generalize hx : l[i] = x
    have hx' : rd_T48 l (i : Int) = x := by rw [sp_at hlt, hx]
    by_cases c1 : 1 ≤ x.f0 ∧ x.f0 ≤ 1000000
    · by_cases c2 : x.f0 ≤ x.f1 ∧ x.f1 ≤ 1000000
      · by_cases c3 : lo ≤ x.f0
        · refine Ev.step (f := fun k => impl_SpansRight.l0 k l l (l.length : Int) ((i + 1 : Nat) : Int)) (fun k => ?_) ?_
          · simp only [impl_SpansRight.l0]
            rw [if_pos (by omega), if_pos (by omega), if_pos (by omega), hx', isId_eq, in_eq, hw]
            simp only [Option.bind_some]
            rw [if_pos (by simpa using c1), if_pos (by simpa using c2)]
            rcases hp with ⟨rfl, rfl⟩ | ⟨⟨p1, p2⟩, hlo⟩
            · rw [if_neg (by omega)]
            · have e1 : wrap64 ((i : Int) - 1) = ((i - 1 : Nat) : Int) := by unfold wrap64; omega
              have e2 : wrap64 ((l[i - 1]'(by omega)).f1 + 2) = lo := by rw [← hlo]; exact w64 (by omega) (by omega)
              rw [if_pos (by omega), e1, if_pos (by omega), if_pos (by omega), sp_at (by omega), e2, if_neg (by omega)]
          · have := ih (i + 1) (x.f1 + 2) (by omega) (by omega) (by omega) (Or.inr ⟨⟨by omega, by omega⟩, by
              simp only [Nat.add_sub_cancel]; rw [hx]⟩)
            rw [show decide (lo ≤ x.f0 ∧ x.f0 ≤ x.f1 ∧ x.f1 ≤ 1000000) = true from decide_eq_true ⟨c3, c2⟩, Bool.true_and]
            exact this
        · rw [show decide (lo ≤ x.f0 ∧ x.f0 ≤ x.f1 ∧ x.f1 ≤ 1000000) = false from decide_eq_false (by omega), Bool.false_and, Bool.false_and]
          refine Ev.one (fun k => ?_)
          simp only [impl_SpansRight.l0]
          rw [if_pos (by omega), if_pos (by omega), if_pos (by omega), hx', isId_eq, in_eq]
          simp only [Option.bind_some]
          rw [if_pos (by simpa using c1), if_pos (by simpa using c2)]
          rcases hp with ⟨rfl, rfl⟩ | ⟨⟨p1, p2⟩, hlo⟩
          · omega
          · have e1 : wrap64 ((i : Int) - 1) = ((i - 1 : Nat) : Int) := by unfold wrap64; omega
            have e2 : wrap64 ((l[i - 1]'(by omega)).f1 + 2) = lo := by rw [← hlo]; exact w64 (by omega) (by omega)
            rw [if_pos (by omega), e1, if_pos (by omega), if_pos (by omega), sp_at (by omega), e2, if_pos (by omega)]
      · rw [show decide (lo ≤ x.f0 ∧ x.f0 ≤ x.f1 ∧ x.f1 ≤ 1000000) = false from decide_eq_false (by omega), Bool.false_and, Bool.false_and]
        refine Ev.one (fun k => ?_)
        simp only [impl_SpansRight.l0]
        rw [if_pos (by omega), if_pos (by omega), if_pos (by omega), hx', isId_eq, in_eq]
        simp only [Option.bind_some]
        rw [if_pos (by simpa using c1), if_neg (by simpa using c2)]
    · rw [show decide (lo ≤ x.f0 ∧ x.f0 ≤ x.f1 ∧ x.f1 ≤ 1000000) = false from decide_eq_false (by omega), Bool.false_and, Bool.false_and]
      refine Ev.one (fun k => ?_)
      simp only [impl_SpansRight.l0]
      rw [if_pos (by omega), if_pos (by omega), if_pos (by omega), hx', isId_eq]
      simp only [Option.bind_some]
      rw [if_neg (by simpa using c1)]
theorem impl_SR_ev (l : List Sp) (hl : l.length ≤ 9223372036854775807) : Ev (fun k => impl_SpansRight.f k l) (spRight l) := by
  unfold impl_SpansRight.f spRight
  rw [Bool.and_comm]
  simpa using impl_SR_l0 l hl l.length 0 1 (by omega) (by omega) (by omega) (Or.inl ⟨rfl, rfl⟩)

theorem spec_SR_l0 (l : List Sp) (hl : l.length ≤ 9223372036854775807) (d : Nat) : ∀ (i : Nat) (lo : Int), i + d = l.length → 1 ≤ lo → lo ≤ 1000002 →
    (i = 0 ∧ lo = 1 ∨ ∃ h : 0 < i ∧ i ≤ l.length, lo = (l[i - 1]'(by omega)).f1 + 2) →
    Ev (fun k => spec_SpansRight.l0 k l (i : Int)) (okFrom lo (l.drop i)) := by
  induction d with
  | zero =>
    intro i lo hi _ _ _
    refine Ev.one (fun k => ?_)
    simp only [spec_SpansRight.l0]
    rw [if_neg (by omega), List.drop_of_length_le (by omega)]
    simp [okFrom]
  | succ d ih =>
    intro i lo hi h1 h2 hp
    have hlt : i < l.length := by omega
    rw [drop_cons hlt, okFrom_step]
    have hw : wrap64 ((i : Int) + 1) = ((i + 1 : Nat) : Int) := by unfold wrap64; omega
    generalize hx : l[i] = x
    have hx' : rd_T48 l (i : Int) = x := by rw [sp_at hlt, hx]
    by_cases c1 : 1 ≤ x.f0 ∧ x.f0 ≤ 1000000
    · by_cases c2 : x.f0 ≤ x.f1 ∧ x.f1 ≤ 1000000
      · by_cases c3 : lo ≤ x.f0
        · refine Ev.step (f := fun k => spec_SpansRight.l0 k l ((i + 1 : Nat) : Int)) (fun k => ?_) ?_
          · simp only [spec_SpansRight.l0]
            rw [if_pos (by omega), if_pos (by omega), hx', l02Id_eq, is_eq, hw]
            simp only [Option.bind_some]
            rw [if_pos (by simpa using c1), if_pos (by simpa using c2)]
            rcases hp with ⟨rfl, rfl⟩ | ⟨⟨p1, p2⟩, hlo⟩
            · rw [if_neg (by omega)]
            · have e1 : wrap64 ((i : Int) - 1) = ((i - 1 : Nat) : Int) := by unfold wrap64; omega
              have e2 : wrap64 ((l[i - 1]'(by omega)).f1 + 2) = lo := by rw [← hlo]; exact w64 (by omega) (by omega)
              rw [if_pos (by omega), e1, if_pos (by omega), if_pos (by omega), sp_at (by omega), e2, if_neg (by omega)]
          · have := ih (i + 1) (x.f1 + 2) (by omega) (by omega) (by omega) (Or.inr ⟨⟨by omega, by omega⟩, by
              simp only [Nat.add_sub_cancel]; rw [hx]⟩)
            rw [show decide (lo ≤ x.f0 ∧ x.f0 ≤ x.f1 ∧ x.f1 ≤ 1000000) = true from decide_eq_true ⟨c3, c2⟩, Bool.true_and]
            exact this
        · rw [show decide (lo ≤ x.f0 ∧ x.f0 ≤ x.f1 ∧ x.f1 ≤ 1000000) = false from decide_eq_false (by omega), Bool.false_and]
          refine Ev.one (fun k => ?_)
          simp only [spec_SpansRight.l0]
          rw [if_pos (by omega), if_pos (by omega), hx', l02Id_eq, is_eq]
          simp only [Option.bind_some]
          rw [if_pos (by simpa using c1), if_pos (by simpa using c2)]
          rcases hp with ⟨rfl, rfl⟩ | ⟨⟨p1, p2⟩, hlo⟩
          · omega
          · have e1 : wrap64 ((i : Int) - 1) = ((i - 1 : Nat) : Int) := by unfold wrap64; omega
            have e2 : wrap64 ((l[i - 1]'(by omega)).f1 + 2) = lo := by rw [← hlo]; exact w64 (by omega) (by omega)
            rw [if_pos (by omega), e1, if_pos (by omega), if_pos (by omega), sp_at (by omega), e2, if_pos (by omega)]
      · rw [show decide (lo ≤ x.f0 ∧ x.f0 ≤ x.f1 ∧ x.f1 ≤ 1000000) = false from decide_eq_false (by omega), Bool.false_and]
        refine Ev.one (fun k => ?_)
        simp only [spec_SpansRight.l0]
        rw [if_pos (by omega), if_pos (by omega), hx', l02Id_eq, is_eq]
        simp only [Option.bind_some]
        rw [if_pos (by simpa using c1), if_neg (by simpa using c2)]
    · rw [show decide (lo ≤ x.f0 ∧ x.f0 ≤ x.f1 ∧ x.f1 ≤ 1000000) = false from decide_eq_false (by omega), Bool.false_and]
      refine Ev.one (fun k => ?_)
      simp only [spec_SpansRight.l0]
      rw [if_pos (by omega), if_pos (by omega), hx', l02Id_eq]
      simp only [Option.bind_some]
      rw [if_neg (by simpa using c1)]
theorem spec_SR_ev (l : List Sp) (hl : l.length ≤ 9223372036854775807) : Ev (fun k => spec_SpansRight.f k l) (spRight l) := by
  unfold spec_SpansRight.f spRight
  by_cases c : l.length ≤ 400
  · refine Ev.neg (by omega) (Ev.to ?_ (spec_SR_l0 l hl l.length 0 1 (by omega) (by omega) (by omega) (Or.inl ⟨rfl, rfl⟩)))
    simp [c]
  · exact Ev.pos (by omega) (Ev.to (by simp [c]) (Ev.now _))

/-! ### the laws' own helpers -/
theorem sz_ge (n : Nat) (a : Int) (ha : -1 ≤ a) (h : a ≤ 1048576) (hn : n ≤ 9223372036854775807) : wrap64 (a - (n : Int)) = a - n := w64 (by omega) (by omega)
theorem szSpanS_eq (l : List SpL) (a : Int) (ha : -1 ≤ a) (h : a ≤ 1048576) (hn : l.length ≤ 9223372036854775807) :
    laws_szSpanS.f l a = some (if a < l.length then -1 else a - l.length) := by
  unfold laws_szSpanS.f
  rw [sz_ge _ _ ha h hn]
  by_cases c : a < l.length
  · rw [if_pos (by omega), if_pos c]
  · rw [if_neg (by omega), if_neg c]
theorem toSpan_eq (a b : Int) : laws_toSpan.f a b = some (a, b) := rfl
theorem toSpanS_l0 (l : List SpL) (hl : l.length ≤ 1048576) (d : Nat) : ∀ (i : Nat) (acc : List Sp), i + d = l.length → acc.length = l.length → acc.take i = (l.take i).map toSp →
    Ev (fun k => laws_toSpanS.l0 k l acc (i : Int)) (l.map toSp) := by
  induction d with
  | zero =>
    intro i acc hi ha hp
    refine Ev.to ?_ (Ev.one (r := acc) (fun k => ?_))
    · rw [List.take_of_length_le (by omega), List.take_of_length_le (by omega)] at hp
      exact hp
    · simp only [laws_toSpanS.l0]
      rw [if_neg (by omega)]
  | succ d ih =>
    intro i acc hi ha hp
    have hlt : i < l.length := by omega
    refine Ev.step (f := fun k => laws_toSpanS.l0 k l (acc.set i (toSp l[i])) ((i + 1 : Nat) : Int)) (fun k => ?_) (ih (i + 1) (acc.set i (toSp l[i])) (by omega) (by simpa using ha) ?_)
    · simp only [laws_toSpanS.l0]
      rw [if_pos (by omega), if_pos (by omega), spL_at hlt, toSpan_eq]
      simp only [Option.bind_some]
      rw [if_pos (by omega), w64 (by omega) (by omega), Int.toNat_natCast]
      rfl
    · rw [List.take_succ_eq_append_getElem (by simp; omega), List.take_succ_eq_append_getElem hlt, List.map_append, ← hp, List.take_set_of_le (by omega)]
      simp
theorem toSpanS_ev (l : List SpL) (hl : l.length ≤ 1048576) : Ev (fun k => laws_toSpanS.f k l) (l.map toSp) := by
  unfold laws_toSpanS.f
  refine Ev.pos (by omega) (Ev.pos (by simp; omega) ?_)
  exact toSpanS_l0 l hl l.length 0 _ (by omega) (by simp) (by simp)
theorem eqSpan_self (a b : Int) : laws_eqSpan.f a b a b = some true := by unfold laws_eqSpan.f; simp
theorem eqSpanS_l0 (l : List Sp) (hl : l.length ≤ 9223372036854775806) (d : Nat) : ∀ i : Nat, i + d = l.length → Ev (fun k => laws_eqSpanS.l0 k l l (i : Int)) true := by
  induction d with
  | zero =>
    intro i hi
    refine Ev.one (fun k => ?_)
    simp only [laws_eqSpanS.l0]
    rw [if_neg (by omega)]
  | succ d ih =>
    intro i hi
    refine Ev.step (f := fun k => laws_eqSpanS.l0 k l l ((i + 1 : Nat) : Int)) (fun k => ?_) (ih (i + 1) (by omega))
    simp only [laws_eqSpanS.l0]
    rw [if_pos (by omega), if_pos (by omega), if_pos (by omega), eqSpan_self]
    simp only [Option.bind_some, if_true]
    rw [w64 (by omega) (by omega)]; rfl
theorem eqSpanS_ev (l : List Sp) (hl : l.length ≤ 9223372036854775806) : Ev (fun k => laws_eqSpanS.f k l l) true := by
  unfold laws_eqSpanS.f
  exact Ev.pos rfl (eqSpanS_l0 l hl l.length 0 (by omega))

/-! Numbers' bytes, joined. -/
theorem ba_ext {a b : ByteArray} (h : a.data.toList = b.data.toList) : a = b := by
  cases a; cases b; simp at h; rw [h]
theorem son_append (a b : List Int) : strOfNums (a ++ b) = strOfNums a ++ strOfNums b := by
  apply ba_ext; simp [strOfNums]
theorem son_bytes (t : ByteArray) : strOfNums (bytesOf t) = t := by
  apply ba_ext
  simp only [strOfNums, bytesOf, List.map_map]
  conv => rhs; rw [← List.map_id t.data.toList]
  apply List.map_congr_left
  intro x _
  show UInt8.ofNat ((x.toNat : Int)).toNat = x
  rw [Int.toNat_natCast]; simp
theorem ba_nil (a : ByteArray) : (⟨#[]⟩ : ByteArray) ++ a = a := by apply ba_ext; simp
def i64r (n : Int) : Prop := -9223372036854775808 ≤ n ∧ n ≤ 9223372036854775807
/-- A number's bytes; the bytes of some numbers. -/
def pn (n : Int) : ByteArray := strOfNums (enc (zig n))
def encs : List Int → List Int
  | [] => []
  | x :: r => enc (zig x) ++ encs r
def pns (l : List Int) : ByteArray := strOfNums (encs l)
theorem pns_cons (x : Int) (r : List Int) : pns (x :: r) = pn x ++ pns r := son_append _ _
theorem pn_size {n : Int} (h : i64r n) : (pn n).size ≤ 10 := by unfold pn; rw [size_strOfNums]; exact enc_zig_length h.1 h.2
theorem spec_pn {n : Int} (h : i64r n) : Ev (fun k => spec_PutNum.f k n) (pn n) := spec_PutNum_ev h.1 h.2
theorem impl_nb {n : Int} (h : i64r n) : Ev (fun k => impl_numBytes.f k n) (enc (zig n)) := impl_numBytes_ev h.1 h.2
theorem enc_size {n : Int} (h : i64r n) : (enc (zig n)).length ≤ 10 := enc_zig_length h.1 h.2
theorem len_i64 (n : Nat) (h : n ≤ 9223372036854775807) : i64r (n : Int) := ⟨by omega, by omega⟩

/-! A range set's bytes. -/
def spEnc : Int → List Sp → List Int
  | _, [] => []
  | a, x :: r => enc (zig (x.f0 - a)) ++ (enc (zig (x.f1 - x.f0)) ++ spEnc x.f1 r)
def spFin (b : List Int) : ByteArray := if 8000 < b.length then ⟨#[]⟩ else strOfNums b
def spBytes (l : List Sp) : ByteArray := if spRight l = true then spFin (enc (zig (l.length : Int)) ++ spEnc 0 l) else ⟨#[]⟩
theorem okFrom_mem (l : List Sp) : ∀ lo : Int, 1 ≤ lo → okFrom lo l = true → ∀ x ∈ l, 1 ≤ x.f0 ∧ x.f0 ≤ x.f1 ∧ x.f1 ≤ 1000000 := by
  induction l with
  | nil => intro lo _ _ x hx; cases hx
  | cons y r ih =>
    intro lo hlo h x hx
    rw [okFrom_step, Bool.and_eq_true] at h
    have h1 := of_decide_eq_true h.1
    rcases List.mem_cons.1 hx with e | e
    · rw [e]; omega
    · exact ih (y.f1 + 2) (by omega) h.2 x e
theorem spRight_mem {l : List Sp} (h : spRight l = true) : l.length ≤ 400 ∧ ∀ x ∈ l, 1 ≤ x.f0 ∧ x.f0 ≤ x.f1 ∧ x.f1 ≤ 1000000 := by
  unfold spRight at h
  rw [Bool.and_eq_true] at h
  exact ⟨of_decide_eq_true h.1, okFrom_mem l 1 (by omega) h.2⟩
theorem impl_SB_l0 (l : List Sp) (hm : ∀ x ∈ l, 1 ≤ x.f0 ∧ x.f0 ≤ x.f1 ∧ x.f1 ≤ 1000000) (hl : l.length ≤ 400) (d : Nat) : ∀ (i : Nat) (acc : List Int) (a : Int), i + d = l.length → 0 ≤ a → a ≤ 1000000 → acc.length ≤ 10 + 20 * i →
    Ev (fun k => impl_SpansBytes.l0 k acc a l (l.length : Int) (i : Int)) (spFin (acc ++ spEnc a (l.drop i))) := by
  induction d with
  | zero =>
    intro i acc a hi _ _ _
    refine Ev.one (fun k => ?_)
    simp only [impl_SpansBytes.l0]
    rw [if_neg (by omega), List.drop_of_length_le (by omega)]
    unfold spEnc spFin
    rw [List.append_nil]
    by_cases c : 8000 < acc.length
    · rw [if_pos c, if_pos (by omega)]
    · rw [if_neg c, if_neg (by omega)]
  | succ d ih =>
    intro i acc a hi ha0 ha1 hac
    have hlt : i < l.length := by omega
    obtain ⟨x0, x1, x2⟩ := hm l[i] (List.getElem_mem hlt)
    have w1 : wrap64 (l[i].f0 - a) = l[i].f0 - a := w64 (by omega) (by omega)
    have w2 : wrap64 (l[i].f1 - l[i].f0) = l[i].f1 - l[i].f0 := w64 (by omega) (by omega)
    have r1 : i64r (l[i].f0 - a) := ⟨by omega, by omega⟩
    have r2 : i64r (l[i].f1 - l[i].f0) := ⟨by omega, by omega⟩
    have z1 := enc_size r1
    have z2 := enc_size r2
    refine Ev.step (f := fun k => impl_SpansBytes.l0 (k + 1) acc a l (l.length : Int) (i : Int)) (fun k => rfl) ?_
    simp only [impl_SpansBytes.l0]
    rw [sp_at hlt, w1, w2, show wrap64 ((i : Int) + 1) = ((i + 1 : Nat) : Int) from by unfold wrap64; omega]
    refine Ev.pos (by omega) (Ev.pos (by omega) (Ev.pos (by omega) (Ev.bind (impl_nb r1) (Ev.pos (by omega) ?_))))
    refine Ev.take rfl (Ev.bind (impl_nb r2) (Ev.pos (by rw [List.length_append]; omega) ?_))
    have := ih (i + 1) ((acc ++ enc (zig (l[i].f0 - a))) ++ enc (zig (l[i].f1 - l[i].f0))) l[i].f1 (by omega) (by omega) (by omega) (by rw [List.length_append, List.length_append]; omega)
    rw [drop_cons hlt]
    show Ev _ (spFin (acc ++ (enc (zig (l[i].f0 - a)) ++ (enc (zig (l[i].f1 - l[i].f0)) ++ spEnc l[i].f1 (l.drop (i + 1))))))
    rw [← List.append_assoc, ← List.append_assoc]
    exact this
theorem impl_SB_ev (l : List Sp) (hl : l.length ≤ 9223372036854775807) : Ev (fun k => impl_SpansBytes.f k l) (spBytes l) := by
  unfold impl_SpansBytes.f spBytes
  refine Ev.bind (impl_SR_ev l hl) ?_
  by_cases c : spRight l = true
  · obtain ⟨h1, h2⟩ := spRight_mem c
    rw [if_pos c]
    refine Ev.pos c (Ev.bind (impl_nb (len_i64 _ (by omega))) ?_)
    exact impl_SB_l0 l h2 h1 l.length 0 _ 0 (by omega) (by omega) (by omega) (by have := enc_size (len_i64 l.length (by omega)); omega)
  · rw [if_neg c]; exact Ev.neg c (Ev.now _)
theorem son_size (b : List Int) : (strOfNums b).size = b.length := size_strOfNums b
theorem spec_SB_l0 (l : List Sp) (hm : ∀ x ∈ l, 1 ≤ x.f0 ∧ x.f0 ≤ x.f1 ∧ x.f1 ≤ 1000000) (hl : l.length ≤ 400) (d : Nat) : ∀ (i : Nat) (acc : List Int) (a : Int), i + d = l.length → 0 ≤ a → a ≤ 1000000 → acc.length ≤ 10 + 20 * i →
    Ev (fun k => spec_SpansBytes.l0 k l (strOfNums acc) a (i : Int)) (spFin (acc ++ spEnc a (l.drop i))) := by
  induction d with
  | zero =>
    intro i acc a hi _ _ _
    refine Ev.one (fun k => ?_)
    simp only [spec_SpansBytes.l0]
    rw [if_neg (by omega), List.drop_of_length_le (by omega), son_size]
    unfold spEnc spFin
    rw [List.append_nil]
    by_cases c : 8000 < acc.length
    · rw [if_pos c, if_pos (by omega)]
    · rw [if_neg c, if_neg (by omega)]
  | succ d ih =>
    intro i acc a hi ha0 ha1 hac
    have hlt : i < l.length := by omega
    obtain ⟨x0, x1, x2⟩ := hm l[i] (List.getElem_mem hlt)
    have w1 : wrap64 (l[i].f0 - a) = l[i].f0 - a := w64 (by omega) (by omega)
    have w2 : wrap64 (l[i].f1 - l[i].f0) = l[i].f1 - l[i].f0 := w64 (by omega) (by omega)
    have r1 : i64r (l[i].f0 - a) := ⟨by omega, by omega⟩
    have r2 : i64r (l[i].f1 - l[i].f0) := ⟨by omega, by omega⟩
    have z1 := enc_size r1
    have z2 := enc_size r2
    refine Ev.step (f := fun k => spec_SpansBytes.l0 (k + 1) l (strOfNums acc) a (i : Int)) (fun k => rfl) ?_
    simp only [spec_SpansBytes.l0]
    rw [sp_at hlt, w1, w2, show wrap64 ((i : Int) + 1) = ((i + 1 : Nat) : Int) from by unfold wrap64; omega]
    refine Ev.pos (by omega) (Ev.pos (by omega) (Ev.bind (spec_pn r1) (Ev.bind (spec_pn r2) (Ev.pos ?_ ?_))))
    · unfold pn; rw [son_size, son_size, son_size]; omega
    · have := ih (i + 1) ((acc ++ enc (zig (l[i].f0 - a))) ++ enc (zig (l[i].f1 - l[i].f0))) l[i].f1 (by omega) (by omega) (by omega) (by rw [List.length_append, List.length_append]; omega)
      rw [drop_cons hlt]
      show Ev _ (spFin (acc ++ (enc (zig (l[i].f0 - a)) ++ (enc (zig (l[i].f1 - l[i].f0)) ++ spEnc l[i].f1 (l.drop (i + 1))))))
      rw [← List.append_assoc, ← List.append_assoc]
      rw [son_append, son_append, ByteArray.append_assoc] at this
      exact this
theorem spec_SB_ev (l : List Sp) (hl : l.length ≤ 9223372036854775807) : Ev (fun k => spec_SpansBytes.f k l) (spBytes l) := by
  unfold spec_SpansBytes.f spBytes
  refine Ev.bind (spec_SR_ev l hl) ?_
  by_cases c : spRight l = true
  · obtain ⟨h1, h2⟩ := spRight_mem c
    rw [if_pos c]
    refine Ev.pos c (Ev.bind (spec_pn (len_i64 _ (by omega))) (Ev.pos (by have := pn_size (len_i64 l.length (by omega)); omega) ?_))
    exact spec_SB_l0 l h2 h1 l.length 0 _ 0 (by omega) (by omega) (by omega) (by have := enc_size (len_i64 l.length (by omega)); omega)
  · rw [if_neg c]; exact Ev.neg c (Ev.now _)


end Go.Proofs.Ytibdkoepmejgdaa.Print
