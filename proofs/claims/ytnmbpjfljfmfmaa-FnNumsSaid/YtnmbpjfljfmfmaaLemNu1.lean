/- Lemmas: numbers and texts, got back. -/
import Derived.Test.YtnmbpjfljfmfmaaPrint7
import Derived.Laws.Bits64
namespace Go.Proofs.Ytnmbpjfljfmfmaa.Print
open Go.RowKit Go.Proofs.YtnmbpjfljfmfmaaW.PrintWords Go.Proofs.YtnmbpjfljfmfmaaW.PrintLast Go.Proofs.YtnmbpjfljfmfmaaW.PrintMore
set_option linter.unusedVariables false
set_option linter.unusedSimpArgs false

/-! Rounds: small helpers. -/
theorem Ev.pos {α : Type} {c : Prop} [Decidable c] {f g : Nat → Option α} {r : α} (hc : c) (h : Ev f r) : Ev (fun n => if c then f n else g n) r := by
  simp only [hc, if_true]; exact h
theorem Ev.neg {α : Type} {c : Prop} [Decidable c] {f g : Nat → Option α} {r : α} (hc : ¬ c) (h : Ev g r) : Ev (fun n => if c then f n else g n) r := by
  simp only [hc, if_false]; exact h
theorem Ev.here {α : Type} {o : Option α} {r : α} (h : o = some r) : Ev (fun _ => o) r := ⟨0, fun _ _ => h⟩
theorem Ev.take {α β : Type} {o : Option α} {f : Nat → α → Option β} {a : α} {r : β} (h : o = some a) (k : Ev (fun n => f n a) r) : Ev (fun n => o.bind (f n)) r := by
  subst h; exact k
theorem Ev.one {α : Type} {g : Nat → Option α} {r : α} (h : ∀ k, g (k + 1) = some r) : Ev g r := Ev.step (f := fun _ => some r) h (Ev.now r)
theorem Ev.to {α : Type} {g : Nat → Option α} {r q : α} (e : r = q) (h : Ev g r) : Ev g q := e ▸ h

/-! A byte of a string. -/
theorem bt_at {s : ByteArray} {i : Nat} (h : i < s.size) : bt s (i : Int) = ((s.data.toList[i]'(by simpa using h)).toNat : Int) := by
  unfold bt
  rw [dif_pos (by simpa using h)]
  rfl

/-! Varints: what numBytes and the reference's PutNum come to. -/
theorem wfi64 {n : Int} (h : (Lit.int .i64 n).wf = true) : -9223372036854775808 ≤ n ∧ n ≤ 9223372036854775807 := by
  simpa [Lit.wf, IntKind.min, IntKind.max, IntKind.signed, IntKind.bits] using h

/-- The bytes of an unsigned number, seven bits each. -/
def enc (u : Nat) : List Int := if u < 128 then [(u : Int)] else ((u % 128 + 128 : Nat) : Int) :: enc (u / 128)
termination_by u
decreasing_by omega

theorem enc_lt {u : Nat} (h : u < 128) : enc u = [(u : Int)] := by rw [enc, if_pos h]
theorem enc_ge {u : Nat} (h : 128 ≤ u) : enc u = ((u % 128 + 128 : Nat) : Int) :: enc (u / 128) := by rw [enc, if_neg (by omega)]

theorem enc_length (d : Nat) : ∀ u : Nat, u < 128 ^ d → (enc u).length ≤ max d 1 := by
  induction d with
  | zero => intro u h; rw [enc_lt (by omega)]; simp
  | succ d ih =>
    intro u h
    by_cases hu : u < 128
    · rw [enc_lt hu]; simp only [List.length_cons, List.length_nil]; omega
    · rw [enc_ge (by omega)]
      have := ih (u / 128) (by rw [Nat.pow_succ] at h; omega)
      have h2 : d ≠ 0 := by rintro rfl; simp at h; omega
      simp only [List.length_cons]; omega

theorem bits_or128_fin : ∀ a : Fin 256, 128 ≤ a.val → Go.bits .or .u8 (a.val : Int) 128 = ((a.val % 128 + 128 : Nat) : Int) := by decide +kernel
theorem bits_or128_fin' : ∀ a : Fin 256, Go.bits .or .u8 (a.val : Int) 128 = ((a.val % 128 + 128 : Nat) : Int) := by decide +kernel
theorem bits_or128 (u : Nat) : Go.bits .or .u8 ((u : Int) % 256) 128 = ((u % 128 + 128 : Nat) : Int) := by
  have h := bits_or128_fin' ⟨u % 256, by omega⟩
  have e : ((u : Int) % 256) = ((u % 256 : Nat) : Int) := by omega
  rw [e]
  refine h.trans ?_
  simp only []
  omega

theorem bits_xor_ones (a : Nat) (h : a < 18446744073709551616) : Go.bits .xor .u64 (a : Int) 18446744073709551615 = 18446744073709551615 - (a : Int) := by
  have e : BitVec.ofInt 64 18446744073709551615 = BitVec.allOnes 64 := by decide
  have h1 : (BitVec.ofInt 64 (a : Int)).toNat = a := by
    rw [BitVec.ofInt_natCast, BitVec.toNat_ofNat]; exact Nat.mod_eq_of_lt (by omega)
  show IntKind.u64.wrap ((BitVec.ofInt 64 (a : Int) ^^^ BitVec.ofInt 64 18446744073709551615).toNat : Int) = _
  rw [e, BitVec.xor_allOnes, BitVec.toNat_not, h1, IntKind.wrap_u64]
  omega
theorem bits_xor_zero (a : Nat) (h : a < 18446744073709551616) : Go.bits .xor .u64 (a : Int) 0 = (a : Int) := by
  have := bits_xor_u64_nat a 0 h (by omega)
  simpa using this

/-- A number folded: the sign in the lowest bit. -/
def zig (n : Int) : Nat := if n < 0 then (-2 * n - 1).toNat else (2 * n).toNat
theorem zig_lt {n : Int} (h0 : -9223372036854775808 ≤ n) (h1 : n ≤ 9223372036854775807) : zig n < 18446744073709551616 := by unfold zig; split <;> omega

theorem impl_zig {n : Int} (h0 : -9223372036854775808 ≤ n) (h1 : n ≤ 9223372036854775807) :
    Go.bits .xor .u64 (IntKind.u64.wrap ((IntKind.u64.wrap n) * 2)) (IntKind.u64.wrap (n / 9223372036854775808)) = (zig n : Int) := by
  unfold zig
  by_cases h : n < 0
  · rw [if_pos h]
    have e1 : IntKind.u64.wrap ((IntKind.u64.wrap n) * 2) = ((2 * n + 18446744073709551616).toNat : Int) := by
      simp only [IntKind.wrap_u64]; omega
    have e2 : IntKind.u64.wrap (n / 9223372036854775808) = 18446744073709551615 := by
      simp only [IntKind.wrap_u64]; omega
    rw [e1, e2, bits_xor_ones _ (by omega)]
    omega
  · rw [if_neg h]
    have e1 : IntKind.u64.wrap ((IntKind.u64.wrap n) * 2) = ((2 * n).toNat : Int) := by
      simp only [IntKind.wrap_u64]; omega
    have e2 : IntKind.u64.wrap (n / 9223372036854775808) = 0 := by
      simp only [IntKind.wrap_u64]; omega
    rw [e1, e2, bits_xor_zero _ (by omega)]

theorem spec_zig {n : Int} (h0 : -9223372036854775808 ≤ n) (h1 : n ≤ 9223372036854775807) : spec_l01Fold.f n = some ((zig n : Nat) : Int) := by
  unfold spec_l01Fold.f zig
  by_cases h : n < 0
  · rw [if_pos h, if_pos h]
    congr 1
    simp only [IntKind.wrap_u64]; unfold wrap64; omega
  · rw [if_neg h, if_neg h]
    congr 1
    simp only [IntKind.wrap_u64]; omega

theorem impl_numBytes_l0 (d : Nat) : ∀ u : Nat, u < 128 ^ (d + 1) → u < 18446744073709551616 → ∀ acc : List Int, acc.length + d < 140737488355328 →
    Ev (fun k => impl_numBytes.l0 k (u : Int) acc) (acc ++ enc u) := by
  induction d with
  | zero =>
    intro u h1 h2 acc h3
    refine Ev.step (f := fun _ => some (acc ++ enc u)) (fun k => ?_) (Ev.now _)
    simp only [impl_numBytes.l0]
    rw [if_neg (by omega), if_pos (by omega), enc_lt (by omega)]
    congr 3; omega
  | succ d ih =>
    intro u h1 h2 acc h3
    by_cases hu : u < 128
    · refine Ev.step (f := fun _ => some (acc ++ enc u)) (fun k => ?_) (Ev.now _)
      simp only [impl_numBytes.l0]
      rw [if_neg (by omega), if_pos (by omega), enc_lt (by omega)]
      congr 3; omega
    · refine Ev.step (f := fun k => impl_numBytes.l0 k ((u / 128 : Nat) : Int) (acc ++ [((u % 128 + 128 : Nat) : Int)])) (fun k => ?_) ?_
      · simp only [impl_numBytes.l0]
        rw [if_pos (by omega), if_pos (by omega), bits_or128]
        congr 1
      · have := ih (u / 128) (by rw [Nat.pow_succ] at h1; omega) (by omega) (acc ++ [((u % 128 + 128 : Nat) : Int)]) (by simp; omega)
        rw [enc_ge (by omega)]
        simpa using this

theorem impl_numBytes_ev {n : Int} (h0 : -9223372036854775808 ≤ n) (h1 : n ≤ 9223372036854775807) : Ev (fun k => impl_numBytes.f k n) (enc (zig n)) := by
  unfold impl_numBytes.f
  rw [impl_zig h0 h1]
  simpa using impl_numBytes_l0 9 (zig n) (by have := zig_lt h0 h1; omega) (zig_lt h0 h1) [] (by simp)

theorem spec_PutNum_l0 (d : Nat) : ∀ u : Nat, u < 128 ^ (d + 1) → u < 18446744073709551616 → ∀ acc : List Int, acc.length + d < 140737488355328 →
    Ev (fun k => spec_PutNum.l0 k (u : Int) acc) (strOfNums (acc ++ enc u)) := by
  induction d with
  | zero =>
    intro u h1 h2 acc h3
    refine Ev.step (f := fun _ => some (strOfNums (acc ++ enc u))) (fun k => ?_) (Ev.now _)
    simp only [spec_PutNum.l0]
    rw [if_neg (by omega), if_pos (by omega), enc_lt (by omega)]
    congr 4; omega
  | succ d ih =>
    intro u h1 h2 acc h3
    by_cases hu : u < 128
    · refine Ev.step (f := fun _ => some (strOfNums (acc ++ enc u))) (fun k => ?_) (Ev.now _)
      simp only [spec_PutNum.l0]
      rw [if_neg (by omega), if_pos (by omega), enc_lt (by omega)]
      congr 4; omega
    · refine Ev.step (f := fun k => spec_PutNum.l0 k ((u / 128 : Nat) : Int) (acc ++ [((u % 128 + 128 : Nat) : Int)])) (fun k => ?_) ?_
      · simp only [spec_PutNum.l0]
        rw [if_pos (by omega), if_pos (by omega)]
        have e1 : IntKind.u64.wrap (Int.tdiv (u : Int) 128) = ((u / 128 : Nat) : Int) := by
          rw [Int.tdiv_eq_ediv_of_nonneg (by omega), IntKind.wrap_u64]; omega
        have e2 : (IntKind.u64.wrap ((Int.tmod (u : Int) 128) + 128)) % 256 = ((u % 128 + 128 : Nat) : Int) := by
          rw [Int.tmod_eq_emod_of_nonneg (by omega), IntKind.wrap_u64]; omega
        rw [e1, e2]
      · have := ih (u / 128) (by rw [Nat.pow_succ] at h1; omega) (by omega) (acc ++ [((u % 128 + 128 : Nat) : Int)]) (by simp; omega)
        rw [enc_ge (by omega)]
        simpa using this

theorem spec_PutNum_ev {n : Int} (h0 : -9223372036854775808 ≤ n) (h1 : n ≤ 9223372036854775807) : Ev (fun k => spec_PutNum.f k n) (strOfNums (enc (zig n))) := by
  unfold spec_PutNum.f
  rw [spec_zig h0 h1]
  simp only [Option.bind_some]
  simpa using spec_PutNum_l0 9 (zig n) (by have := zig_lt h0 h1; omega) (zig_lt h0 h1) [] (by simp)

theorem impl_PutNum_ev {n : Int} (h0 : -9223372036854775808 ≤ n) (h1 : n ≤ 9223372036854775807) : Ev (fun k => impl_PutNum.f k n) (strOfNums (enc (zig n))) := by
  unfold impl_PutNum.f
  exact Ev.bind (impl_numBytes_ev h0 h1) (Ev.now _)

theorem size_strOfNums (l : List Int) : (strOfNums l).size = l.length := by simp [strOfNums, ByteArray.size]
theorem enc_zig_length {n : Int} (h0 : -9223372036854775808 ≤ n) (h1 : n ≤ 9223372036854775807) : (enc (zig n)).length ≤ 10 := by
  have := enc_length 10 (zig n) (by have := zig_lt h0 h1; omega)
  omega

/-! PutText on both sides. -/
def putText (t : ByteArray) : ByteArray := if t.size > 8000 then ⟨#[]⟩ else strOfNums (enc (zig t.size)) ++ t
theorem impl_PutText_ev (t : ByteArray) (h : t.size ≤ 140737488351232) : Ev (fun k => impl_PutText.f k t) (putText t) := by
  unfold impl_PutText.f putText
  by_cases c : t.size > 8000
  · rw [if_pos c]; simp only [show (t.size : Int) > 8000 from by omega, if_true]; exact Ev.now _
  · rw [if_neg c]; simp only [show ¬ (t.size : Int) > 8000 from by omega, if_false]
    refine Ev.bind (impl_PutNum_ev (by omega) (by omega)) ?_
    have := enc_zig_length (n := t.size) (by omega) (by omega)
    rw [if_pos (by rw [size_strOfNums]; omega)]
    exact Ev.now _
theorem spec_PutText_ev (t : ByteArray) (h : t.size ≤ 140737488351232) : Ev (fun k => spec_PutText.f k t) (putText t) := by
  unfold spec_PutText.f putText
  by_cases c : t.size > 8000
  · rw [if_pos c]; simp only [show (t.size : Int) > 8000 from by omega, if_true]; exact Ev.now _
  · rw [if_neg c]; simp only [show ¬ (t.size : Int) > 8000 from by omega, if_false]
    refine Ev.bind (spec_PutNum_ev (by omega) (by omega)) ?_
    have := enc_zig_length (n := t.size) (by omega) (by omega)
    rw [if_pos (by rw [size_strOfNums]; omega)]
    exact Ev.now _

/-! Ranges. -/
theorem in_eq (a b c : Int) : impl_in.f a b c = some (decide (b ≤ a ∧ a ≤ c)) := by
  unfold impl_in.f; split <;> simp [*]
/-! Reading a number: what both sides' loops come to. -/
/-- The byte at a place, as a number. -/
def byteAt (s : ByteArray) (i : Nat) : Nat := if h : i < s.size then (s.data.toList[i]'(by simpa using h)).toNat else 0
theorem byteAt_lt (s : ByteArray) (i : Nat) : byteAt s i < 256 := by
  unfold byteAt; split
  · exact UInt8.toNat_lt _
  · omega
theorem bt_byte {s : ByteArray} {i : Nat} (h : i < s.size) : bt s (i : Int) = (byteAt s i : Int) := by
  rw [bt_at h]; unfold byteAt; rw [dif_pos h]
/-- From a folded number back. -/
def unzig (u : Nat) : Int := if u % 2 = 1 then -((u / 2 : Nat) : Int) - 1 else ((u / 2 : Nat) : Int)
/-- Places from i on, with the bits u so far; fuel: how many bytes may still come. -/
def gn (s : ByteArray) (a : Nat) : Nat → Nat → Nat → Int × Int × Int
  | 0, _, _ => (0, 0, 3)
  | f + 1, i, u => if s.size ≤ a + i then (0, 0, 4) else
      if i = 9 ∧ 1 < byteAt s (a + i) ∨ byteAt s (a + i) = 0 ∧ 0 < i then (0, 0, 3) else
      if byteAt s (a + i) < 128 then (unzig (u + byteAt s (a + i) % 128 * 2 ^ (7 * i)), ((a + i + 1 : Nat) : Int), 0) else
      gn s a f (i + 1) (u + byteAt s (a + i) % 128 * 2 ^ (7 * i))
def getNumR (s : ByteArray) (a : Int) : Int × Int × Int := if a < 0 then (0, 0, 1) else gn s a.toNat 10 0 0

theorem bits_and127 (c : Nat) (h : c < 256) : Go.bits .and .u8 (c : Int) 127 = ((c % 128 : Nat) : Int) := by
  have := bits_mask .u8 8 (by decide) wraps_u8 7 (by decide) (c : Int) (by omega) (by omega)
  simp only [Int.pow_succ, Int.pow_zero] at this
  simpa using this
theorem bits_and64_1 (a : Nat) (ha : a < 18446744073709551616) : Go.bits .and .u64 (a : Int) 1 = ((a % 2 : Nat) : Int) := by
  have := bits_mask .u64 64 (by decide) (fun n h0 h1 => by rw [IntKind.wrap_u64]; omega) 1 (by decide) (a : Int) (by omega) (by omega)
  simp only [Int.pow_succ, Int.pow_zero] at this
  simpa using this
theorem bits_or64 (u v i : Nat) (hu : u < 2 ^ i) (hv : v * 2 ^ i < 18446744073709551616) (hu' : u < 18446744073709551616) :
    Go.bits .or .u64 (u : Int) ((v * 2 ^ i : Nat) : Int) = ((u + v * 2 ^ i : Nat) : Int) := by
  have h1 := (bits_nat .u64 64 (by decide) (fun n h0 h1 => by rw [IntKind.wrap_u64]; omega) u (v * 2 ^ i) (by omega) (by omega)).2
  rw [h1]
  congr 1
  rw [Nat.or_comm, Nat.mul_comm, ← Nat.two_pow_add_eq_or_of_lt hu, Nat.add_comm]
theorem xor_ones64 (a : Nat) (h : a < 9223372036854775808) : Go.bits .xor .i64 (a : Int) (-1) = -(a : Int) - 1 := by
  have e : BitVec.ofInt 64 (-1) = BitVec.allOnes 64 := by decide
  have h1 : (BitVec.ofInt 64 (a : Int)).toNat = a := by
    rw [BitVec.ofInt_natCast, BitVec.toNat_ofNat]; exact Nat.mod_eq_of_lt (by omega)
  show IntKind.i64.wrap ((BitVec.ofInt 64 (a : Int) ^^^ BitVec.ofInt 64 (-1)).toNat : Int) = _
  rw [e, BitVec.xor_allOnes, BitVec.toNat_not, h1, IntKind.wrap_i64]
  omega
theorem xor_zero64 (a : Nat) (h : a < 9223372036854775808) : Go.bits .xor .i64 (a : Int) 0 = (a : Int) := by
  have e : BitVec.ofInt 64 0 = (0#64) := by decide
  have h1 : (BitVec.ofInt 64 (a : Int)).toNat = a := by
    rw [BitVec.ofInt_natCast, BitVec.toNat_ofNat]; exact Nat.mod_eq_of_lt (by omega)
  show IntKind.i64.wrap ((BitVec.ofInt 64 (a : Int) ^^^ BitVec.ofInt 64 0).toNat : Int) = _
  rw [e, BitVec.xor_zero, h1, IntKind.wrap_i64]
  omega
theorem impl_unzig (u : Nat) (h : u < 18446744073709551616) : Go.bits .xor .i64 (wrap64 ((u : Int) / 2)) (wrap64 (-(wrap64 (Go.bits .and .u64 (u : Int) 1)))) = unzig u := by
  rw [bits_and64_1 u h]
  have e1 : wrap64 ((u : Int) / 2) = ((u / 2 : Nat) : Int) := by unfold wrap64; omega
  rw [e1]
  unfold unzig
  by_cases c : u % 2 = 1
  · rw [if_pos c, c, show wrap64 (-(wrap64 ((1 : Nat) : Int))) = -1 from by unfold wrap64; omega]
    exact xor_ones64 (u / 2) (by omega)
  · rw [if_neg c, show u % 2 = 0 by omega, show wrap64 (-(wrap64 ((0 : Nat) : Int))) = 0 from by unfold wrap64; omega]
    exact xor_zero64 (u / 2) (by omega)
theorem shl_fits (c i : Nat) (hc : c < 128) (hi : i ≤ 9) (h9 : i = 9 → c ≤ 1) : shl .u64 (c : Int) ((7 * i : Nat) : Int) = ((c * 2 ^ (7 * i) : Nat) : Int) ∧ c * 2 ^ (7 * i) < 18446744073709551616 := by
  have h : c * 2 ^ (7 * i) < 18446744073709551616 := by
    rcases (show i = 0 ∨ i = 1 ∨ i = 2 ∨ i = 3 ∨ i = 4 ∨ i = 5 ∨ i = 6 ∨ i = 7 ∨ i = 8 ∨ i = 9 by omega) with rfl | rfl | rfl | rfl | rfl | rfl | rfl | rfl | rfl | rfl <;> omega
  refine ⟨?_, h⟩
  unfold shl
  rw [Int.toNat_natCast, show min (7 * i) IntKind.u64.bits = 7 * i from Nat.min_eq_left (by show 7 * i ≤ 64; omega), IntKind.wrap_u64]
  have : ((c : Int) * 2 ^ (7 * i)) = ((c * 2 ^ (7 * i) : Nat) : Int) := by simp
  rw [this]; omega
theorem pow_le (i : Nat) (h : i ≤ 9) : 2 ^ (7 * i) ≤ 9223372036854775808 :=
  Nat.le_trans (Nat.pow_le_pow_right (by decide) (show 7 * i ≤ 63 by omega)) (by decide)
theorem next_lt (u c i : Nat) (hu : u < 2 ^ (7 * i)) (hc : c < 128) : u + c * 2 ^ (7 * i) < 2 ^ (7 * (i + 1)) := by
  have e : 2 ^ (7 * (i + 1)) = 128 * 2 ^ (7 * i) := by rw [show 7 * (i + 1) = 7 + 7 * i by omega, Nat.pow_add]
  rw [e]
  have : c * 2 ^ (7 * i) ≤ 127 * 2 ^ (7 * i) := Nat.mul_le_mul_right _ (by omega)
  omega
theorem sum_lt (u c i : Nat) (hu : u < 2 ^ (7 * i)) (hc : c < 128) (hi : i ≤ 9) (h9 : i = 9 → c ≤ 1) : u + c * 2 ^ (7 * i) < 18446744073709551616 := by
  rcases (show i = 0 ∨ i = 1 ∨ i = 2 ∨ i = 3 ∨ i = 4 ∨ i = 5 ∨ i = 6 ∨ i = 7 ∨ i = 8 ∨ i = 9 by omega) with rfl | rfl | rfl | rfl | rfl | rfl | rfl | rfl | rfl | rfl <;> omega

theorem impl_step (s : ByteArray) (hs : s.size ≤ 140737488351232) (a : Nat) (ha : a ≤ 9223372036854775807) (f : Nat) (i u : Nat) (hi : i + f = 9) (hu : u < 2 ^ (7 * i))
    (ih : 0 < f → ∀ u' : Nat, u' < 2 ^ (7 * (i + 1)) → Ev (fun k => impl_getNum.l0 k s a (u' : Int) ((i + 1 : Nat) : Int)) (gn s a f (i + 1) u')) :
    Ev (fun k => impl_getNum.l0 k s a (u : Int) (i : Int)) (gn s a (f + 1) i u) := by
  have hlast : ∀ x25 : Bool, x25 = decide (s.size ≤ a + i) → Ev (fun k => impl_getNum.j1 k s a (u : Int) (i : Int) x25) (gn s a (f + 1) i u) := by
    intro x25 hx
    unfold gn
    by_cases c0 : s.size ≤ a + i
    · rw [if_pos c0]
      refine Ev.one (fun k => ?_)
      simp only [impl_getNum.j1]
      rw [if_pos (by rw [hx]; simpa using c0)]
    · rw [if_neg c0]
      have hw : wrap64 ((a : Int) + (i : Int)) = ((a + i : Nat) : Int) := by unfold wrap64; omega
      have hb := bt_byte (s := s) (i := a + i) (by omega)
      have hlt := byteAt_lt s (a + i)
      generalize hcv : byteAt s (a + i) = c at hb hlt
      have fin3 : ∀ x32 : Bool, x32 = decide (i = 9 ∧ 1 < c ∨ c = 0 ∧ 0 < i) →
          Ev (fun k => impl_getNum.j3 k s a (u : Int) (i : Int) (c : Int) x32) (if i = 9 ∧ 1 < c ∨ c = 0 ∧ 0 < i then (0, 0, 3) else if c < 128 then (unzig (u + c % 128 * 2 ^ (7 * i)), ((a + i + 1 : Nat) : Int), 0) else gn s a f (i + 1) (u + c % 128 * 2 ^ (7 * i))) := by
        intro x32 hx32
        by_cases cc : i = 9 ∧ 1 < c ∨ c = 0 ∧ 0 < i
        · rw [if_pos cc]
          refine Ev.one (fun k => ?_)
          simp only [impl_getNum.j3]
          rw [if_pos (by rw [hx32]; simpa using cc)]
        · rw [if_neg cc]
          have h9 : i = 9 → c % 128 ≤ 1 := by omega
          have h7p : (0 : Int) ≤ ((7 * i : Nat) : Int) := Int.natCast_nonneg _
          have hnext : c % 128 < 128 := by omega
          have hi9 : i ≤ 9 := by omega
          obtain ⟨h7, hc1, hat, hi1⟩ : wrap64 (7 * (i : Int)) = ((7 * i : Nat) : Int) ∧ IntKind.u64.wrap (Go.bits .and .u8 (c : Int) 127) = ((c % 128 : Nat) : Int) ∧
              wrap64 (((a + i : Nat) : Int) + 1) = ((a + i + 1 : Nat) : Int) ∧ wrap64 ((i : Int) + 1) = ((i + 1 : Nat) : Int) :=
            ⟨by unfold wrap64; clear hw hu; omega, by rw [bits_and127 c hlt, IntKind.wrap_u64]; clear hw hu; omega, by unfold wrap64; clear hw hu; omega, by unfold wrap64; clear hw hu; omega⟩
          obtain ⟨hsh, hshb⟩ := shl_fits (c % 128) i hnext hi9 h9
          have hsum := sum_lt u (c % 128) i hu hnext hi9 h9
          have hnx := next_lt u (c % 128) i hu hnext
          have hor := bits_or64 u (c % 128) (7 * i) hu hshb (Nat.lt_of_lt_of_le hu (Nat.le_trans (pow_le i hi9) (by decide)))
          clear hu hshb
          generalize c % 128 * 2 ^ (7 * i) = v at hsh hsum hor hnx ⊢
          by_cases c128 : c < 128
          · rw [if_pos c128]
            refine Ev.one (fun k => ?_)
            have c128' : ((c : Int) < 128) := by clear h7 hat hi1 hc1 hsum hor hnx hw; omega
            simp only [impl_getNum.j3]
            rw [if_neg (by rw [hx32]; simpa using cc), h7, if_pos h7p, if_pos c128', hc1, hsh, hor, impl_unzig _ hsum, hw, hat]
          · rw [if_neg c128]
            refine Ev.step (f := fun k => impl_getNum.l0 k s a ((u + v : Nat) : Int) ((i + 1 : Nat) : Int)) (fun k => ?_) ?_
            · have c128' : ¬ ((c : Int) < 128) := by clear h7 hat hi1 hc1 hsum hor hnx hw; omega
              simp only [impl_getNum.j3]
              rw [if_neg (by rw [hx32]; simpa using cc), h7, if_pos h7p, if_neg c128', hc1, hsh, hor, hi1]
            · exact ih (by clear hnx h7 hat hi1 hc1 hsum hor hw; omega) _ hnx
      have fin2 : ∀ x32 : Bool, x32 = decide (i = 9 ∧ 1 < c) →
          Ev (fun k => impl_getNum.j2 k s a (u : Int) (i : Int) (c : Int) x32) (if i = 9 ∧ 1 < c ∨ c = 0 ∧ 0 < i then (0, 0, 3) else if c < 128 then (unzig (u + c % 128 * 2 ^ (7 * i)), ((a + i + 1 : Nat) : Int), 0) else gn s a f (i + 1) (u + c % 128 * 2 ^ (7 * i))) := by
        intro x32 hx32
        by_cases c9 : i = 9 ∧ 1 < c
        · refine Ev.step (f := fun k => impl_getNum.j3 k s a (u : Int) (i : Int) (c : Int) x32) (fun k => ?_) (fin3 x32 (by rw [hx32]; simp [c9]))
          simp only [impl_getNum.j2]
          rw [if_pos (by rw [hx32]; simpa using c9)]
        · by_cases cz : c = 0
          · refine Ev.step (f := fun k => impl_getNum.j3 k s a (u : Int) (i : Int) (c : Int) (decide ((i : Int) > 0))) (fun k => ?_) (fin3 _ ?_)
            · simp only [impl_getNum.j2]
              rw [if_neg (by rw [hx32]; simpa using c9), if_pos (by omega)]
            · rw [decide_eq_decide]; omega
          · refine Ev.step (f := fun k => impl_getNum.j3 k s a (u : Int) (i : Int) (c : Int) false) (fun k => ?_) (fin3 _ ?_)
            · simp only [impl_getNum.j2]
              rw [if_neg (by rw [hx32]; simpa using c9), if_neg (by omega)]
            · symm; rw [decide_eq_false_iff_not]; omega
      by_cases i9 : i = 9
      · refine Ev.step (f := fun k => impl_getNum.j2 k s a (u : Int) (i : Int) (c : Int) (decide ((c : Int) > 1))) (fun k => ?_) (fin2 _ ?_)
        · simp only [impl_getNum.j1]
          rw [if_neg (by rw [hx]; simpa using c0), hw, if_pos (by omega), if_pos (by omega), if_pos (by omega), hb]
        · rw [decide_eq_decide]; omega
      · refine Ev.step (f := fun k => impl_getNum.j2 k s a (u : Int) (i : Int) (c : Int) false) (fun k => ?_) (fin2 _ ?_)
        · simp only [impl_getNum.j1]
          rw [if_neg (by rw [hx]; simpa using c0), hw, if_pos (by omega), if_pos (by omega), if_neg (by omega), hb]
        · symm; rw [decide_eq_false_iff_not]; omega
  by_cases ov : wrap64 ((a : Int) + (i : Int)) < (a : Int)
  · refine Ev.step (f := fun k => impl_getNum.j1 k s a (u : Int) (i : Int) true) (fun k => ?_) (hlast true ?_)
    · simp only [impl_getNum.l0]
      rw [if_pos ov]
    · symm; rw [decide_eq_true_iff]; unfold wrap64 at ov; clear hlast hu; omega
  · refine Ev.step (f := fun k => impl_getNum.j1 k s a (u : Int) (i : Int) (decide ((wrap64 ((a : Int) + (i : Int))) ≥ (s.size : Int)))) (fun k => ?_) (hlast _ ?_)
    · simp only [impl_getNum.l0]
      rw [if_neg ov]
    · rw [decide_eq_decide]; unfold wrap64 at ov ⊢; clear hlast hu; omega

theorem impl_gn (s : ByteArray) (hs : s.size ≤ 140737488351232) (a : Nat) (ha : a ≤ 9223372036854775807) (f : Nat) : ∀ (i u : Nat), i + f = 9 → u < 2 ^ (7 * i) →
    Ev (fun k => impl_getNum.l0 k s a (u : Int) (i : Int)) (gn s a (f + 1) i u) := by
  induction f with
  | zero =>
    intro i u hi hu
    exact impl_step s hs a ha 0 i u hi hu (fun h => absurd h (by omega))
  | succ f ih =>
    intro i u hi hu
    exact impl_step s hs a ha (f + 1) i u hi hu (fun _ u' h' => ih (i + 1) u' (by omega) h')

theorem impl_getNum_ev (s : ByteArray) (hs : s.size ≤ 140737488351232) (a : Int) (ha : a ≤ 9223372036854775807) : Ev (fun k => impl_getNum.f k s a) (getNumR s a) := by
  unfold impl_getNum.f getNumR
  by_cases c : a < 0
  · rw [if_pos c]; exact Ev.pos c (Ev.now _)
  · rw [if_neg c]; refine Ev.neg c ?_
    have := impl_gn s hs a.toNat (by omega) 9 0 0 rfl (by decide)
    rw [Int.toNat_of_nonneg (by omega)] at this
    exact this

theorem spec_unzig (u : Nat) (h : u < 18446744073709551616) :
    (if (Int.tmod (u : Int) 2) = 1 then wrap64 ((wrap64 (-(wrap64 (IntKind.u64.wrap (Int.tdiv (u : Int) 2))))) - 1) else wrap64 (IntKind.u64.wrap (Int.tdiv (u : Int) 2))) = unzig u := by
  have e1 : IntKind.u64.wrap (Int.tdiv (u : Int) 2) = ((u / 2 : Nat) : Int) := by
    rw [Int.tdiv_eq_ediv_of_nonneg (by omega), IntKind.wrap_u64]; omega
  have e2 : Int.tmod (u : Int) 2 = ((u % 2 : Nat) : Int) := by
    rw [Int.tmod_eq_emod_of_nonneg (by omega)]; omega
  rw [e1, e2]
  unfold unzig
  by_cases c : u % 2 = 1
  · rw [if_pos c, if_pos (by omega)]; unfold wrap64; omega
  · rw [if_neg c, if_neg (by omega)]; unfold wrap64; omega

def getNumS (s : ByteArray) (a : Int) : Int × Int × Int := if s.size > 8000 then (0, 0, 2) else getNumR s a
/-- What a number read is: a code alone, or the number and the place behind it. -/
theorem gn_cases (s : ByteArray) (a f : Nat) : ∀ i u : Nat, (gn s a f i u).2.2 = 3 ∧ gn s a f i u = (0, 0, 3) ∨ gn s a f i u = (0, 0, 4) ∨
    (gn s a f i u).2.2 = 0 ∧ ∃ e : Nat, (gn s a f i u).2.1 = (e : Int) ∧ a + i < e ∧ e ≤ s.size := by
  induction f with
  | zero => intro i u; exact Or.inl ⟨rfl, rfl⟩
  | succ f ih =>
    intro i u
    unfold gn
    by_cases c0 : s.size ≤ a + i
    · rw [if_pos c0]; exact Or.inr (Or.inl rfl)
    · rw [if_neg c0]
      split
      · exact Or.inl ⟨rfl, rfl⟩
      · split
        · exact Or.inr (Or.inr ⟨rfl, a + i + 1, rfl, by omega, by omega⟩)
        · rcases ih (i + 1) (u + byteAt s (a + i) % 128 * 2 ^ (7 * i)) with h | h | ⟨h, e, h1, h2, h3⟩
          · exact Or.inl h
          · exact Or.inr (Or.inl h)
          · exact Or.inr (Or.inr ⟨h, e, h1, by omega, h3⟩)
theorem unzig_wf (u : Nat) (h : u < 18446744073709551616) : -9223372036854775808 ≤ unzig u ∧ unzig u ≤ 9223372036854775807 := by
  unfold unzig; split <;> omega
theorem gn_wf (s : ByteArray) (a f : Nat) : ∀ i u : Nat, i + f = 10 → u < 2 ^ (7 * i) → -9223372036854775808 ≤ (gn s a f i u).1 ∧ (gn s a f i u).1 ≤ 9223372036854775807 := by
  induction f with
  | zero => intro i u _ _; exact ⟨by show (-9223372036854775808 : Int) ≤ 0; omega, by show (0 : Int) ≤ _; omega⟩
  | succ f ih =>
    intro i u hi hu
    unfold gn
    by_cases c0 : s.size ≤ a + i
    · rw [if_pos c0]; exact ⟨by show (-9223372036854775808 : Int) ≤ 0; omega, by show (0 : Int) ≤ _; omega⟩
    · rw [if_neg c0]
      split
      · exact ⟨by show (-9223372036854775808 : Int) ≤ 0; omega, by show (0 : Int) ≤ _; omega⟩
      · rename_i hc
        have hlt := byteAt_lt s (a + i)
        split
        · exact unzig_wf _ (sum_lt u _ i hu (by omega) (by omega) (by omega))
        · exact ih (i + 1) _ (by omega) (next_lt u _ i hu (by omega))
theorem impl_GetNum_ev (s : ByteArray) (hs : s.size ≤ 140737488351232) (a : Int) (ha : a ≤ 9223372036854775807) : Ev (fun k => impl_GetNum.f k s a) (getNumS s a) := by
  unfold impl_GetNum.f getNumS
  by_cases c8 : s.size > 8000
  · rw [if_pos c8]; exact Ev.pos (by omega) (Ev.now _)
  · rw [if_neg c8]; refine Ev.neg (by omega) ?_
    exact Ev.bind (impl_getNum_ev s hs a ha) (Ev.now _)

/-! Reading a text. -/
def textAt (s : ByteArray) (x : Int × Int × Int) : ByteArray × Int × Int :=
  if x.2.2 ≠ 0 then (⟨#[]⟩, 0, x.2.2) else if x.1 < 0 ∨ 8000 < x.1 then (⟨#[]⟩, 0, 3) else
  if (s.size : Int) < x.2.1 + x.1 then (⟨#[]⟩, 0, 4) else (s.extract x.2.1.toNat (x.2.1 + x.1).toNat, x.2.1 + x.1, 0)
theorem textAt_ok (s : ByteArray) (x : Int × Int × Int) (h : x.2.2 = 0) : textAt s x = if x.1 < 0 ∨ 8000 < x.1 then (⟨#[]⟩, 0, 3) else
  if (s.size : Int) < x.2.1 + x.1 then (⟨#[]⟩, 0, 4) else (s.extract x.2.1.toNat (x.2.1 + x.1).toNat, x.2.1 + x.1, 0) := by
  unfold textAt; rw [if_neg (fun g => g h)]
theorem textAt_no (s : ByteArray) (x : Int × Int × Int) (h : ¬ x.2.2 = 0) : textAt s x = (⟨#[]⟩, 0, x.2.2) := by
  unfold textAt; rw [if_pos h]
def getTextS (s : ByteArray) (a : Int) : ByteArray × Int × Int := textAt s (getNumS s a)
theorem getNumS_cases (s : ByteArray) (a : Int) : (getNumS s a).2.2 ≠ 0 ∨ (getNumS s a).2.2 = 0 ∧ s.size ≤ 8000 ∧ 0 < (getNumS s a).2.1 ∧ (getNumS s a).2.1 ≤ s.size := by
  unfold getNumS getNumR
  split
  · exact Or.inl (show (2 : Int) ≠ 0 by decide)
  · split
    · exact Or.inl (show (1 : Int) ≠ 0 by decide)
    · rcases gn_cases s a.toNat 10 0 0 with h | h | ⟨h, e, h1, h2, h3⟩
      · exact Or.inl (by rw [h.1]; decide)
      · exact Or.inl (by rw [h]; decide)
      · exact Or.inr ⟨h, by omega, by rw [h1]; omega, by rw [h1]; omega⟩
theorem impl_GetText_ev (s : ByteArray) (hs : s.size ≤ 140737488351232) (a : Int) (ha : a ≤ 9223372036854775807) : Ev (fun k => impl_GetText.f k s a) (getTextS s a) := by
  unfold impl_GetText.f getTextS
  have hc := getNumS_cases s a
  by_cases c8 : s.size > 8000
  · refine Ev.pos (by omega) (Ev.to ?_ (Ev.now _))
    unfold getNumS textAt
    rw [if_pos c8]; rfl
  · refine Ev.neg (by omega) ?_
    have e : getNumS s a = getNumR s a := by unfold getNumS; rw [if_neg c8]
    rw [e] at hc ⊢
    refine Ev.bind (impl_getNum_ev s hs a ha) ?_
    generalize getNumR s a = x at hc
    by_cases c0 : x.2.2 = 0
    · rw [textAt_ok s x c0]
      obtain ⟨h1, h2, h3⟩ : s.size ≤ 8000 ∧ 0 < x.2.1 ∧ x.2.1 ≤ s.size := by
        rcases hc with h | ⟨_, h1, h2, h3⟩
        · exact absurd c0 h
        · exact ⟨h1, h2, h3⟩
      refine Ev.pos c0 (Ev.take (in_eq _ _ _) ?_)
      by_cases cr : x.1 < 0 ∨ 8000 < x.1
      · rw [if_pos cr]; exact Ev.neg (by simp; omega) (Ev.now _)
      · rw [if_neg cr]
        have e2 : wrap64 (x.2.1 + x.1) = x.2.1 + x.1 := by unfold wrap64; omega
        rw [e2]
        refine Ev.pos (by simp; omega) ?_
        by_cases cs : (s.size : Int) < x.2.1 + x.1
        · exact Ev.to (if_pos cs).symm (Ev.pos cs (Ev.now _))
        · exact Ev.to (if_neg cs).symm (Ev.neg cs (Ev.pos (by omega) (Ev.pos (by omega) (Ev.pos (by omega) (Ev.now _)))))
    · rw [textAt_no s x c0]; exact Ev.neg c0 (Ev.now _)

/-! Draws: they end, and what they give is in range. -/
theorem source_l0 (l : List Int) (d : Nat) : ∀ (i : Nat) (mix : Int), i + d = 64 → ∃ mix' sz, Ev (fun k => spec_l01Source.l0 k l (i : Int) l 0 mix 0) (l, 0, mix', sz) := by
  have fin : ∀ mix : Int, ∃ sz, ∀ g : Nat → Option (List Int × Int × Int × Int), (∀ k, g (k + 1) = if (wrap64 ((l.length : Int) / 20)) > 12 then (some (l, 0, mix, 12)) else (some (l, 0, mix, wrap64 ((l.length : Int) / 20)))) → Ev g (l, 0, mix, sz) := by
    intro mix
    by_cases c : (wrap64 ((l.length : Int) / 20)) > 12
    · exact ⟨12, fun g h => Ev.one fun k => by rw [h, if_pos c]⟩
    · exact ⟨_, fun g h => Ev.one fun k => by rw [h, if_neg c]⟩
  induction d with
  | zero =>
    intro i mix hi
    obtain ⟨sz, h⟩ := fin mix
    refine ⟨mix, sz, h _ fun k => ?_⟩
    simp only [spec_l01Source.l0]
    by_cases c : (i : Int) < (l.length : Int)
    · rw [if_pos c, if_neg (by omega)]
    · rw [if_neg c]
  | succ d ih =>
    intro i mix hi
    by_cases c : (i : Int) < (l.length : Int)
    · obtain ⟨m2, sz, h⟩ := ih (i + 1) (IntKind.u64.wrap ((Go.bits .xor .u64 mix (IntKind.u64.wrap (rd l (i : Int)))) * 1099511628211)) (by omega)
      refine ⟨m2, sz, Ev.step (fun k => ?_) h⟩
      simp only [spec_l01Source.l0]
      rw [if_pos c, if_pos (by omega), if_pos (by omega), show wrap64 ((i : Int) + 1) = ((i + 1 : Nat) : Int) from by unfold wrap64; omega]
    · obtain ⟨sz, h⟩ := fin mix
      refine ⟨mix, sz, h _ fun k => ?_⟩
      simp only [spec_l01Source.l0]
      rw [if_neg c]
theorem source_ev (l : List Int) : ∃ mix sz, Ev (fun k => spec_l01Source.f k l) (l, 0, mix, sz) := by
  unfold spec_l01Source.f
  exact source_l0 l 64 0 _ rfl
/-- A number below most is drawn. -/
theorem n_some (l : List Int) (a mix sz m : Int) (hl : l.length ≤ 9223372036854775806) (h0 : 0 ≤ a) (h1 : a ≤ l.length) (hm2 : m ≤ 9223372036854775807) :
    ∃ v a' mix', spec_l01Src_n.f l a mix sz m = some (v, a', mix', sz) ∧ 0 ≤ v ∧ (v = 0 ∨ v < m) ∧ 0 ≤ a' ∧ a' ≤ l.length := by
  unfold spec_l01Src_n.f
  by_cases hm : m ≤ 1
  · rw [if_pos hm]; exact ⟨0, a, mix, rfl, by omega, Or.inl rfl, h0, h1⟩
  rw [if_neg hm]
  have hm3 : IntKind.u64.wrap m = m := by rw [IntKind.wrap_u64]; omega
  have key : ∀ x : Int, 0 ≤ wrap64 (Int.tmod (IntKind.u64.wrap x) (IntKind.u64.wrap m)) ∧ wrap64 (Int.tmod (IntKind.u64.wrap x) (IntKind.u64.wrap m)) < m := by
    intro x
    rw [hm3]
    have h : 0 ≤ IntKind.u64.wrap x := by rw [IntKind.wrap_u64]; omega
    rw [Int.tmod_eq_emod_of_nonneg h]
    have h2 := Int.emod_nonneg (IntKind.u64.wrap x) (show m ≠ 0 by omega)
    have h3 := Int.emod_lt_of_pos (IntKind.u64.wrap x) (show 0 < m by omega)
    generalize IntKind.u64.wrap x % m = y at h2 h3
    unfold wrap64; omega
  by_cases c : a < (l.length : Int)
  · rw [if_pos c, if_pos h0, if_neg (by rw [hm3]; omega)]
    exact ⟨_, _, _, rfl, (key _).1, Or.inr (key _).2, by unfold wrap64; omega, by unfold wrap64; omega⟩
  · rw [if_neg c, if_neg (by rw [hm3]; omega)]
    exact ⟨_, _, _, rfl, (key _).1, Or.inr (key _).2, h0, h1⟩
theorem one_some (l : List Int) (a mix sz m : Int) (hl : l.length ≤ 9223372036854775806) (h0 : 0 ≤ a) (h1 : a ≤ l.length) (hm2 : m ≤ 9223372036854775807) :
    ∃ (b : Bool) (a' mix' : Int), spec_l01Src_one.f l a mix sz m = some (b, a', mix', sz) ∧ 0 ≤ a' ∧ a' ≤ l.length := by
  obtain ⟨v, a', mix', h, _, _, h3, h4⟩ := n_some l a mix sz m hl h0 h1 hm2
  unfold spec_l01Src_one.f
  rw [h]
  exact ⟨_, _, _, rfl, h3, h4⟩
theorem edge_vals : ∀ i : Fin 14, -9223372036854775808 ≤ rd [0, 1, (-1), 2, 1000, 1001, 2147483648, 2147483647, (-2147483648), 4611686018427387904, 9223372036854775807, (-9223372036854775808), 1000000, 1000001] ((i.val : Nat) : Int) ∧ rd [0, 1, (-1), 2, 1000, 1001, 2147483648, 2147483647, (-2147483648), 4611686018427387904, 9223372036854775807, (-9223372036854775808), 1000000, 1000001] ((i.val : Nat) : Int) ≤ 9223372036854775807 := by decide +kernel
theorem edge_some (l : List Int) (a mix sz : Int) (hl : l.length ≤ 9223372036854775806) (h0 : 0 ≤ a) (h1 : a ≤ l.length) :
    ∃ (v a' mix' : Int), spec_l01Src_edge.f l a mix sz = some (v, a', mix', sz) ∧ (-9223372036854775808 ≤ v ∧ v ≤ 9223372036854775807) ∧ 0 ≤ a' ∧ a' ≤ l.length := by
  obtain ⟨v, a', mix', h, hv0, hv, h3, h4⟩ := n_some l a mix sz 14 hl h0 h1 (by omega)
  unfold spec_l01Src_edge.f
  simp only [Option.bind_some]
  rw [h]
  simp only [Option.bind_some]
  rw [if_pos hv0, if_pos (by simp only [List.length_cons, List.length_nil]; omega)]
  refine ⟨_, _, _, rfl, ?_, h3, h4⟩
  have := edge_vals ⟨v.toNat, by omega⟩
  simp only [] at this
  rwa [Int.toNat_of_nonneg hv0] at this
theorem any_some (l : List Int) (a mix sz : Int) (hl : l.length ≤ 9223372036854775806) (h0 : 0 ≤ a) (h1 : a ≤ l.length) :
    ∃ (v a' mix' : Int), spec_l01Src_l01Any.f l a mix sz = some (v, a', mix', sz) ∧ (-9223372036854775808 ≤ v ∧ v ≤ 9223372036854775807) ∧ 0 ≤ a' ∧ a' ≤ l.length := by
  obtain ⟨b, a1, m1, h, h2, h3⟩ := one_some l a mix sz 4 hl h0 h1 (by omega)
  unfold spec_l01Src_l01Any.f
  rw [h]
  simp only [Option.bind_some]
  cases b
  · rw [if_neg (by simp)]
    obtain ⟨v, a2, m2, g, _, _, g3, g4⟩ := n_some l a1 m1 sz 1099511627776 hl h2 h3 (by omega)
    rw [g]
    exact ⟨_, _, _, rfl, by unfold wrap64; omega, g3, g4⟩
  · rw [if_pos rfl]
    obtain ⟨v, a2, m2, g, gv, g3, g4⟩ := edge_some l a1 m1 sz hl h2 h3
    rw [g]
    exact ⟨_, _, _, rfl, gv, g3, g4⟩
theorem DrawPutNum_ev (l : List Int) (hl : l.length ≤ 9223372036854775806) : ∃ n, Ev (fun k => spec_DrawPutNum.f k l) n ∧ -9223372036854775808 ≤ n ∧ n ≤ 9223372036854775807 := by
  obtain ⟨mix, sz, h⟩ := source_ev l
  obtain ⟨v, a', mix', g, gv, _⟩ := any_some l 0 mix sz hl (by omega) (by omega)
  refine ⟨v, ?_, gv⟩
  unfold spec_DrawPutNum.f
  exact Ev.bind h (Ev.take g (Ev.now _))
theorem bytes_l0 (l : List Int) (hl : l.length ≤ 9223372036854775806) (m sz : Int) (hm : m ≤ 9223372036854775806) (d : Nat) : ∀ (i : Nat) (acc : List Int) (a mix : Int), (i : Int) + d = m → acc.length + d < 140737488355328 → 0 ≤ a → a ≤ l.length →
    ∃ (t : ByteArray) (a' mix' : Int), Ev (fun k => spec_l01Src_bytes.l0 k m acc (i : Int) l a mix sz) (t, a', mix', sz) ∧ t.size = acc.length + d ∧ 0 ≤ a' ∧ a' ≤ l.length := by
  induction d with
  | zero =>
    intro i acc a mix hi hacc h0 h1
    refine ⟨strOfNums acc, a, mix, Ev.one fun k => ?_, by rw [strOfNums_size]; rfl, h0, h1⟩
    simp only [spec_l01Src_bytes.l0]
    rw [if_neg (by omega)]
  | succ d ih =>
    intro i acc a mix hi hacc h0 h1
    obtain ⟨v, a1, m1, g, _, _, g3, g4⟩ := n_some l a mix sz 256 hl h0 h1 (by omega)
    obtain ⟨t, a2, m2, h, ht, h3, h4⟩ := ih (i + 1) (acc ++ [v % 256]) a1 m1 (by omega) (by rw [List.length_append, List.length_singleton]; omega) g3 g4
    refine ⟨t, a2, m2, Ev.step (fun k => ?_) h, by rw [ht, List.length_append, List.length_singleton]; omega, h3, h4⟩
    simp only [spec_l01Src_bytes.l0]
    rw [if_pos (by omega), g]
    simp only [Option.bind_some]
    rw [if_pos (by omega), show wrap64 ((i : Int) + 1) = ((i + 1 : Nat) : Int) from by unfold wrap64; omega]
theorem bytes_ev (l : List Int) (a mix sz m : Int) (hl : l.length ≤ 9223372036854775806) (h0 : 0 ≤ a) (h1 : a ≤ l.length) (hm0 : 0 ≤ m) (hm : m ≤ 100000) :
    ∃ (t : ByteArray) (a' mix' : Int), Ev (fun k => spec_l01Src_bytes.f k l a mix sz m) (t, a', mix', sz) ∧ t.size ≤ 100000 ∧ 0 ≤ a' ∧ a' ≤ l.length := by
  unfold spec_l01Src_bytes.f
  obtain ⟨t, a', m', h, ht, h3, h4⟩ := bytes_l0 l hl m sz (by omega) m.toNat 0 [] a mix (by omega) (by simp only [List.length_nil]; omega) h0 h1
  exact ⟨t, a', m', h, by rw [ht]; simp only [List.length_nil]; omega, h3, h4⟩
theorem DrawPutText_ev (l : List Int) (hl : l.length ≤ 9223372036854775806) : ∃ u, Ev (fun k => spec_DrawPutText.f k l) u ∧ u.size ≤ 100000 := by
  obtain ⟨mix, sz, h⟩ := source_ev l
  obtain ⟨b, a1, m1, h1, h2, h3⟩ := one_some l 0 mix sz 8 hl (by omega) (by omega) (by omega)
  unfold spec_DrawPutText.f
  cases b
  · obtain ⟨v, a2, m2, g, gv0, gv, g3, g4⟩ := n_some l a1 m1 sz 20 hl h2 h3 (by omega)
    obtain ⟨t, a3, m3, e, et, _⟩ := bytes_ev l a2 m2 sz v hl g3 g4 gv0 (by omega)
    exact ⟨t, Ev.bind h (Ev.take h1 (Ev.neg (by simp) (Ev.take g (Ev.bind e (Ev.now _))))), et⟩
  · obtain ⟨v, a2, m2, g, gv0, gv, g3, g4⟩ := n_some l a1 m1 sz 3 hl h2 h3 (by omega)
    have e1 : wrap64 (19999 + v) = 19999 + v := by unfold wrap64; omega
    refine ⟨strOfNums (List.replicate (wrap64 (19999 + v)).toNat 0), Ev.bind h (Ev.take h1 (Ev.pos rfl (Ev.take g (Ev.pos ?_ (Ev.pos ?_ (Ev.now _)))))), ?_⟩
    · rw [e1]; omega
    · rw [e1]; omega
    · rw [strOfNums_size, List.length_replicate, e1]; omega

/-! A number, and a text, is got back from its bytes. -/
theorem byteAt_getD (s : ByteArray) (i : Nat) : byteAt s i = (s.data.toList.getD i 0).toNat := by
  unfold byteAt
  by_cases h : i < s.size
  · rw [dif_pos h, List.getD_eq_getElem?_getD, List.getElem?_eq_getElem (by simpa using h)]; rfl
  · rw [dif_neg h, List.getD_eq_getElem?_getD, List.getElem?_eq_none (by simpa using h)]; rfl
theorem unzig_zig {n : Int} (h0 : -9223372036854775808 ≤ n) (h1 : n ≤ 9223372036854775807) : unzig (zig n) = n := by
  unfold unzig zig
  by_cases c : n < 0
  · rw [if_pos c, if_pos (by omega)]; omega
  · rw [if_neg c, if_neg (by omega)]; omega
theorem enc_pos (u : Nat) : 0 < (enc u).length := by
  by_cases h : u < 128
  · rw [enc_lt h]; simp
  · rw [enc_ge (by omega)]; simp
theorem pow_step (i v : Nat) (hi : i ≤ 8) (hv : v < 2 ^ (64 - 7 * i)) : v / 128 < 2 ^ (64 - 7 * (i + 1)) := by
  rw [show 64 - 7 * i = 64 - 7 * (i + 1) + 7 by omega, Nat.pow_add] at hv
  exact Nat.div_lt_of_lt_mul (by omega)
theorem gn_enc (s : ByteArray) (a f : Nat) : ∀ (i u v : Nat), i + f = 10 → v < 2 ^ (64 - 7 * i) → (i = 0 ∨ 0 < v) → a + i + (enc v).length ≤ s.size →
    (∀ j, j < (enc v).length → ((byteAt s (a + i + j) : Nat) : Int) = (enc v).getD j 0) → gn s a f i u = (unzig (u + v * 2 ^ (7 * i)), ((a + i + (enc v).length : Nat) : Int), 0) := by
  induction f with
  | zero =>
    intro i u v hi hv hp
    rw [show i = 10 by omega] at hv hp
    have : v < 1 := hv
    omega
  | succ f ih =>
    intro i u v hi hv hp hs hb
    have hpos := enc_pos v
    unfold gn
    rw [if_neg (by omega)]
    have h0 := hb 0 hpos
    rw [Nat.add_zero] at h0
    by_cases c : v < 128
    · rw [enc_lt c] at h0 ⊢
      have h0' : byteAt s (a + i) = v := Int.ofNat.inj h0
      rw [h0']
      have h9 : i = 9 → v ≤ 1 := by
        rintro rfl
        have : v < 2 := hv
        omega
      rw [if_neg (by omega), if_pos c, Nat.mod_eq_of_lt c]
      rfl
    · rw [enc_ge (by omega)] at h0 hs hb ⊢
      have h0' : byteAt s (a + i) = v % 128 + 128 := Int.ofNat.inj h0
      have h9 : i ≠ 9 := by
        rintro rfl
        have : v < 2 := hv
        omega
      rw [h0', if_neg (by omega), if_neg (by omega), show (v % 128 + 128) % 128 = v % 128 by omega]
      rw [List.length_cons] at hs hb
      rw [ih (i + 1) (u + v % 128 * 2 ^ (7 * i)) (v / 128) (by omega) (pow_step i v (by omega) hv) (Or.inr (by omega)) (by omega) (fun j hj => ?_)]
      · have e1 : u + v % 128 * 2 ^ (7 * i) + v / 128 * 2 ^ (7 * (i + 1)) = u + v * 2 ^ (7 * i) := by
          rw [show 7 * (i + 1) = 7 + 7 * i by omega, Nat.pow_add, ← Nat.mul_assoc, Nat.add_assoc, ← Nat.add_mul, show v % 128 + v / 128 * 2 ^ 7 = v by omega]
        rw [e1, List.length_cons, show a + (i + 1) + (enc (v / 128)).length = a + i + ((enc (v / 128)).length + 1) by omega]
      · have := hb (j + 1) (by omega)
        rw [show a + (i + 1) + j = a + i + (j + 1) by omega, this]
        rfl
theorem gn_short (s : ByteArray) (a f : Nat) : ∀ (i u v : Nat), i + f = 10 → v < 2 ^ (64 - 7 * i) → s.size + 1 = a + i + (enc v).length → i ≤ 9 →
    (∀ j, j + 1 < (enc v).length → ((byteAt s (a + i + j) : Nat) : Int) = (enc v).getD j 0) → gn s a f i u = (0, 0, 4) := by
  induction f with
  | zero => intro i u v hi hv hs h9; omega
  | succ f ih =>
    intro i u v hi hv hs h9 hb
    unfold gn
    by_cases c : v < 128
    · rw [enc_lt c] at hs
      rw [if_pos (by simp only [List.length_cons, List.length_nil] at hs; omega)]
    · have hp := enc_pos (v / 128)
      rw [enc_ge (by omega)] at hs hb
      rw [List.length_cons] at hs hb
      have h0 := hb 0 (by omega)
      rw [Nat.add_zero] at h0
      have h0' : byteAt s (a + i) = v % 128 + 128 := Int.ofNat.inj h0
      have h9' : i ≠ 9 := by
        rintro rfl
        have : v < 2 := hv
        omega
      rw [if_neg (by omega), h0', if_neg (by omega), if_neg (by omega)]
      refine ih (i + 1) _ (v / 128) (by omega) (pow_step i v (by omega) hv) (by omega) (by omega) (fun j hj => ?_)
      have := hb (j + 1) (by omega)
      rw [show a + (i + 1) + j = a + i + (j + 1) by omega, this]
      rfl
theorem enc_byte (v : Nat) : ∀ x ∈ enc v, 0 ≤ x ∧ x < 256 := by
  induction v using Nat.strongRecOn with
  | ind v ih =>
    by_cases h : v < 128
    · rw [enc_lt h]; intro x hx; rw [List.mem_singleton.1 hx]; omega
    · rw [enc_ge (by omega)]
      intro x hx
      rcases List.mem_cons.1 hx with rfl | hx
      · omega
      · exact ih (v / 128) (by omega) x hx
/-- The bytes of a list of numbers, behind others and ahead of others. -/
theorem byte_mid (pre post : List UInt8) (l : List Int) (hl : ∀ x ∈ l, 0 ≤ x ∧ x < 256) (s : ByteArray) (hs : s.data.toList = pre ++ (l.map fun n => UInt8.ofNat n.toNat) ++ post) (j : Nat) (hj : j < l.length) :
    ((byteAt s (pre.length + j) : Nat) : Int) = l.getD j 0 := by
  rw [byteAt_getD, hs, List.getD_eq_getElem?_getD, List.append_assoc, List.getElem?_append_right (by omega), Nat.add_sub_cancel_left, List.getElem?_append_left (by rw [List.length_map]; exact hj), List.getElem?_map, List.getElem?_eq_getElem hj,
    List.getD_eq_getElem?_getD, List.getElem?_eq_getElem hj]
  have := hl l[j] (List.getElem_mem hj)
  simp only [Option.map_some, Option.getD_some, UInt8.toNat_ofNat']
  omega
theorem getNum_enc (pre post : List UInt8) (n : Int) (h0 : -9223372036854775808 ≤ n) (h1 : n ≤ 9223372036854775807) (s : ByteArray)
    (hs : s.data.toList = pre ++ ((enc (zig n)).map fun n => UInt8.ofNat n.toNat) ++ post) : getNumR s (pre.length : Int) = (n, ((pre.length + (enc (zig n)).length : Nat) : Int), 0) := by
  have hz := zig_lt h0 h1
  have hsz : s.size = pre.length + (enc (zig n)).length + post.length := by
    have := congrArg List.length hs
    simp only [List.length_append, List.length_map, Array.length_toList, ByteArray.size_data] at this
    omega
  unfold getNumR
  rw [if_neg (by omega), Int.toNat_natCast, gn_enc s pre.length 10 0 0 (zig n) rfl (by simpa using hz) (Or.inl rfl) (by omega) (fun j hj => byte_mid pre post _ (enc_byte _) s hs j hj)]
  rw [Nat.mul_zero, Nat.pow_zero, Nat.mul_one, Nat.zero_add, unzig_zig h0 h1, Nat.add_zero]
theorem getNum_short (n : Int) (h0 : -9223372036854775808 ≤ n) (h1 : n ≤ 9223372036854775807) (s : ByteArray) (hs : s.size + 1 = (enc (zig n)).length)
    (hb : s.data.toList = ((enc (zig n)).map fun n => UInt8.ofNat n.toNat).take s.size) : getNumR s 0 = (0, 0, 4) := by
  have hz := zig_lt h0 h1
  unfold getNumR
  rw [if_neg (by omega)]
  refine gn_short s 0 10 0 0 (zig n) rfl (by simpa using hz) (by omega) (by omega) (fun j hj => ?_)
  have hj2 : j < s.size := by omega
  rw [byteAt_getD, hb, List.getD_eq_getElem?_getD, Nat.add_zero, Nat.zero_add, List.getElem?_take_of_lt hj2, List.getElem?_map, List.getElem?_eq_getElem (by omega), List.getD_eq_getElem?_getD, List.getElem?_eq_getElem (by omega)]
  have := enc_byte (zig n) (enc (zig n))[j] (List.getElem_mem (by omega))
  simp only [Option.map_some, Option.getD_some, UInt8.toNat_ofNat']
  omega
theorem data_append (a b : ByteArray) : (a ++ b).data.toList = a.data.toList ++ b.data.toList := by simp
theorem data_take (a : ByteArray) (n : Nat) : (a.extract 0 n).data.toList = a.data.toList.take n := by simp


end Go.Proofs.Ytnmbpjfljfmfmaa.Print
