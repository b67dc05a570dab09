/- Lemmas: an event's bytes. -/
import Derived.Test.YtjijknajgamdaaaStFnExactEventBytes
import Derived.Laws.Bits64
namespace Go.Proofs.Ytjijknajgamdaaa.Print
open Go.RowKit Go.Proofs.YtjijknajgamdaaaW.PrintWords Go.Proofs.YtjijknajgamdaaaW.PrintLast Go.Proofs.YtjijknajgamdaaaW.PrintMore
set_option linter.unusedVariables false
set_option linter.unusedSimpArgs false

/-! Rounds: small helpers. -/
theorem Ev.pos {α : Type} {c : Prop} [Decidable c] {f g : Nat → Option α} {r : α} (hc : c) (h : Ev f r) : Ev (fun n => if c then f n else g n) r := by
  simp only [hc, if_true]; exact h
theorem Ev.neg {α : Type} {c : Prop} [Decidable c] {f g : Nat → Option α} {r : α} (hc : ¬ c) (h : Ev g r) : Ev (fun n => if c then f n else g n) r := by
  simp only [hc, if_false]; exact h
theorem Ev.here {α : Type} {o : Option α} {r : α} (h : o = some r) : Ev (fun _ => o) r := ⟨0, fun _ _ => h⟩
theorem Ev.take {α β : Type} {o : Option α} {f : Nat → α → Option β} {a : α} {r : β} (h : o = some a) (k : Ev (fun n => f n a) r) : Ev (fun n => o.bind (f n)) r := by
  subst h; exact k
theorem Ev.one {α : Type} {g : Nat → Option α} {r : α} (h : ∀ k, g (k + 1) = some r) : Ev g r := Ev.step (f := fun _ => some r) h (Ev.now r)
theorem Ev.to {α : Type} {g : Nat → Option α} {r q : α} (e : r = q) (h : Ev g r) : Ev g q := e ▸ h

/-! A byte of a string. -/
theorem bt_at {s : ByteArray} {i : Nat} (h : i < s.size) : bt s (i : Int) = ((s.data.toList[i]'(by simpa using h)).toNat : Int) := by
  unfold bt
  rw [dif_pos (by simpa using h)]
  rfl

/-! Varints: what numBytes and the reference's PutNum come to. -/
theorem wfi64 {n : Int} (h : (Lit.int .i64 n).wf = true) : -9223372036854775808 ≤ n ∧ n ≤ 9223372036854775807 := by
  simpa [Lit.wf, IntKind.min, IntKind.max, IntKind.signed, IntKind.bits] using h

/-- The bytes of an unsigned number, seven bits each. -/
def enc (u : Nat) : List Int := if u < 128 then [(u : Int)] else ((u % 128 + 128 : Nat) : Int) :: enc (u / 128)
termination_by u
decreasing_by omega

theorem enc_lt {u : Nat} (h : u < 128) : enc u = [(u : Int)] := by rw [enc, if_pos h]
theorem enc_ge {u : Nat} (h : 128 ≤ u) : enc u = ((u % 128 + 128 : Nat) : Int) :: enc (u / 128) := by rw [enc, if_neg (by omega)]

theorem enc_length (d : Nat) : ∀ u : Nat, u < 128 ^ d → (enc u).length ≤ max d 1 := by
  induction d with
  | zero => intro u h; rw [enc_lt (by omega)]; simp
  | succ d ih =>
    intro u h
    by_cases hu : u < 128
    · rw [enc_lt hu]; simp only [List.length_cons, List.length_nil]; omega
    · rw [enc_ge (by omega)]
      have := ih (u / 128) (by rw [Nat.pow_succ] at h; omega)
      have h2 : d ≠ 0 := by rintro rfl; simp at h; omega
      simp only [List.length_cons]; omega

theorem bits_or128_fin : ∀ a : Fin 256, 128 ≤ a.val → Go.bits .or .u8 (a.val : Int) 128 = ((a.val % 128 + 128 : Nat) : Int) := by decide +kernel
theorem bits_or128_fin' : ∀ a : Fin 256, Go.bits .or .u8 (a.val : Int) 128 = ((a.val % 128 + 128 : Nat) : Int) := by decide +kernel
theorem bits_or128 (u : Nat) : Go.bits .or .u8 ((u : Int) % 256) 128 = ((u % 128 + 128 : Nat) : Int) := by
  have h := bits_or128_fin' ⟨u % 256, by omega⟩
  have e : ((u : Int) % 256) = ((u % 256 : Nat) : Int) := by omega
  rw [e]
  refine h.trans ?_
  simp only []
  omega

theorem bits_xor_ones (a : Nat) (h : a < 18446744073709551616) : Go.bits .xor .u64 (a : Int) 18446744073709551615 = 18446744073709551615 - (a : Int) := by
  have e : BitVec.ofInt 64 18446744073709551615 = BitVec.allOnes 64 := by decide
  have h1 : (BitVec.ofInt 64 (a : Int)).toNat = a := by
    rw [BitVec.ofInt_natCast, BitVec.toNat_ofNat]; exact Nat.mod_eq_of_lt (by omega)
  show IntKind.u64.wrap ((BitVec.ofInt 64 (a : Int) ^^^ BitVec.ofInt 64 18446744073709551615).toNat : Int) = _
  rw [e, BitVec.xor_allOnes, BitVec.toNat_not, h1, IntKind.wrap_u64]
  omega
theorem bits_xor_zero (a : Nat) (h : a < 18446744073709551616) : Go.bits .xor .u64 (a : Int) 0 = (a : Int) := by
  have := bits_xor_u64_nat a 0 h (by omega)
  simpa using this

/-- A number folded: the sign in the lowest bit. -/
def zig (n : Int) : Nat := if n < 0 then (-2 * n - 1).toNat else (2 * n).toNat
theorem zig_lt {n : Int} (h0 : -9223372036854775808 ≤ n) (h1 : n ≤ 9223372036854775807) : zig n < 18446744073709551616 := by unfold zig; split <;> omega

theorem impl_zig {n : Int} (h0 : -9223372036854775808 ≤ n) (h1 : n ≤ 9223372036854775807) :
    Go.bits .xor .u64 (IntKind.u64.wrap ((IntKind.u64.wrap n) * 2)) (IntKind.u64.wrap (n / 9223372036854775808)) = (zig n : Int) := by
  unfold zig
  by_cases h : n < 0
  · rw [if_pos h]
    have e1 : IntKind.u64.wrap ((IntKind.u64.wrap n) * 2) = ((2 * n + 18446744073709551616).toNat : Int) := by
      simp only [IntKind.wrap_u64]; omega
    have e2 : IntKind.u64.wrap (n / 9223372036854775808) = 18446744073709551615 := by
      simp only [IntKind.wrap_u64]; omega
    rw [e1, e2, bits_xor_ones _ (by omega)]
    omega
  · rw [if_neg h]
    have e1 : IntKind.u64.wrap ((IntKind.u64.wrap n) * 2) = ((2 * n).toNat : Int) := by
      simp only [IntKind.wrap_u64]; omega
    have e2 : IntKind.u64.wrap (n / 9223372036854775808) = 0 := by
      simp only [IntKind.wrap_u64]; omega
    rw [e1, e2, bits_xor_zero _ (by omega)]

theorem spec_zig {n : Int} (h0 : -9223372036854775808 ≤ n) (h1 : n ≤ 9223372036854775807) : spec_l01Fold.f n = some ((zig n : Nat) : Int) := by
  unfold spec_l01Fold.f zig
  by_cases h : n < 0
  · rw [if_pos h, if_pos h]
    congr 1
    simp only [IntKind.wrap_u64]; unfold wrap64; omega
  · rw [if_neg h, if_neg h]
    congr 1
    simp only [IntKind.wrap_u64]; omega

theorem impl_numBytes_l0 (d : Nat) : ∀ u : Nat, u < 128 ^ (d + 1) → u < 18446744073709551616 → ∀ acc : List Int, acc.length + d < 140737488355328 →
    Ev (fun k => impl_numBytes.l0 k (u : Int) acc) (acc ++ enc u) := by
  induction d with
  | zero =>
    intro u h1 h2 acc h3
    refine Ev.step (f := fun _ => some (acc ++ enc u)) (fun k => ?_) (Ev.now _)
    simp only [impl_numBytes.l0]
    rw [if_neg (by omega), if_pos (by omega), enc_lt (by omega)]
    congr 3; omega
  | succ d ih =>
    intro u h1 h2 acc h3
    by_cases hu : u < 128
    · refine Ev.step (f := fun _ => some (acc ++ enc u)) (fun k => ?_) (Ev.now _)
      simp only [impl_numBytes.l0]
      rw [if_neg (by omega), if_pos (by omega), enc_lt (by omega)]
      congr 3; omega
    · refine Ev.step (f := fun k => impl_numBytes.l0 k ((u / 128 : Nat) : Int) (acc ++ [((u % 128 + 128 : Nat) : Int)])) (fun k => ?_) ?_
      · simp only [impl_numBytes.l0]
        rw [if_pos (by omega), if_pos (by omega), bits_or128]
        congr 1
      · have := ih (u / 128) (by rw [Nat.pow_succ] at h1; omega) (by omega) (acc ++ [((u % 128 + 128 : Nat) : Int)]) (by simp; omega)
        rw [enc_ge (by omega)]
        simpa using this

theorem impl_numBytes_ev {n : Int} (h0 : -9223372036854775808 ≤ n) (h1 : n ≤ 9223372036854775807) : Ev (fun k => impl_numBytes.f k n) (enc (zig n)) := by
  unfold impl_numBytes.f
  rw [impl_zig h0 h1]
  simpa using impl_numBytes_l0 9 (zig n) (by have := zig_lt h0 h1; omega) (zig_lt h0 h1) [] (by simp)

theorem spec_PutNum_l0 (d : Nat) : ∀ u : Nat, u < 128 ^ (d + 1) → u < 18446744073709551616 → ∀ acc : List Int, acc.length + d < 140737488355328 →
    Ev (fun k => spec_PutNum.l0 k (u : Int) acc) (strOfNums (acc ++ enc u)) := by
  induction d with
  | zero =>
    intro u h1 h2 acc h3
    refine Ev.step (f := fun _ => some (strOfNums (acc ++ enc u))) (fun k => ?_) (Ev.now _)
    simp only [spec_PutNum.l0]
    rw [if_neg (by omega), if_pos (by omega), enc_lt (by omega)]
    congr 4; omega
  | succ d ih =>
    intro u h1 h2 acc h3
    by_cases hu : u < 128
    · refine Ev.step (f := fun _ => some (strOfNums (acc ++ enc u))) (fun k => ?_) (Ev.now _)
      simp only [spec_PutNum.l0]
      rw [if_neg (by omega), if_pos (by omega), enc_lt (by omega)]
      congr 4; omega
    · refine Ev.step (f := fun k => spec_PutNum.l0 k ((u / 128 : Nat) : Int) (acc ++ [((u % 128 + 128 : Nat) : Int)])) (fun k => ?_) ?_
      · simp only [spec_PutNum.l0]
        rw [if_pos (by omega), if_pos (by omega)]
        have e1 : IntKind.u64.wrap (Int.tdiv (u : Int) 128) = ((u / 128 : Nat) : Int) := by
          rw [Int.tdiv_eq_ediv_of_nonneg (by omega), IntKind.wrap_u64]; omega
        have e2 : (IntKind.u64.wrap ((Int.tmod (u : Int) 128) + 128)) % 256 = ((u % 128 + 128 : Nat) : Int) := by
          rw [Int.tmod_eq_emod_of_nonneg (by omega), IntKind.wrap_u64]; omega
        rw [e1, e2]
      · have := ih (u / 128) (by rw [Nat.pow_succ] at h1; omega) (by omega) (acc ++ [((u % 128 + 128 : Nat) : Int)]) (by simp; omega)
        rw [enc_ge (by omega)]
        simpa using this

theorem spec_PutNum_ev {n : Int} (h0 : -9223372036854775808 ≤ n) (h1 : n ≤ 9223372036854775807) : Ev (fun k => spec_PutNum.f k n) (strOfNums (enc (zig n))) := by
  unfold spec_PutNum.f
  rw [spec_zig h0 h1]
  simp only [Option.bind_some]
  simpa using spec_PutNum_l0 9 (zig n) (by have := zig_lt h0 h1; omega) (zig_lt h0 h1) [] (by simp)

theorem impl_PutNum_ev {n : Int} (h0 : -9223372036854775808 ≤ n) (h1 : n ≤ 9223372036854775807) : Ev (fun k => impl_PutNum.f k n) (strOfNums (enc (zig n))) := by
  unfold impl_PutNum.f
  exact Ev.bind (impl_numBytes_ev h0 h1) (Ev.now _)

theorem size_strOfNums (l : List Int) : (strOfNums l).size = l.length := by simp [strOfNums, ByteArray.size]
theorem enc_zig_length {n : Int} (h0 : -9223372036854775808 ≤ n) (h1 : n ≤ 9223372036854775807) : (enc (zig n)).length ≤ 10 := by
  have := enc_length 10 (zig n) (by have := zig_lt h0 h1; omega)
  omega

/-! PutText on both sides. -/
def putText (t : ByteArray) : ByteArray := if t.size > 8000 then ⟨#[]⟩ else strOfNums (enc (zig t.size)) ++ t
theorem impl_PutText_ev (t : ByteArray) (h : t.size ≤ 140737488351232) : Ev (fun k => impl_PutText.f k t) (putText t) := by
  unfold impl_PutText.f putText
  by_cases c : t.size > 8000
  · rw [if_pos c]; simp only [show (t.size : Int) > 8000 from by omega, if_true]; exact Ev.now _
  · rw [if_neg c]; simp only [show ¬ (t.size : Int) > 8000 from by omega, if_false]
    refine Ev.bind (impl_PutNum_ev (by omega) (by omega)) ?_
    have := enc_zig_length (n := t.size) (by omega) (by omega)
    rw [if_pos (by rw [size_strOfNums]; omega)]
    exact Ev.now _
theorem spec_PutText_ev (t : ByteArray) (h : t.size ≤ 140737488351232) : Ev (fun k => spec_PutText.f k t) (putText t) := by
  unfold spec_PutText.f putText
  by_cases c : t.size > 8000
  · rw [if_pos c]; simp only [show (t.size : Int) > 8000 from by omega, if_true]; exact Ev.now _
  · rw [if_neg c]; simp only [show ¬ (t.size : Int) > 8000 from by omega, if_false]
    refine Ev.bind (spec_PutNum_ev (by omega) (by omega)) ?_
    have := enc_zig_length (n := t.size) (by omega) (by omega)
    rw [if_pos (by rw [size_strOfNums]; omega)]
    exact Ev.now _

/-! The checksum, by numbers. -/
theorem bits_xor32 (a b : Nat) (ha : a < 4294967296) (hb : b < 4294967296) : Go.bits .xor .u32 (a : Int) (b : Int) = ((a ^^^ b : Nat) : Int) := by
  have hx : a ^^^ b < 2 ^ 32 := Nat.xor_lt_two_pow (by omega) (by omega)
  have h1 : (BitVec.ofInt 32 (a : Int)).toNat = a := by
    rw [BitVec.ofInt_natCast, BitVec.toNat_ofNat]; exact Nat.mod_eq_of_lt (by omega)
  have h2 : (BitVec.ofInt 32 (b : Int)).toNat = b := by
    rw [BitVec.ofInt_natCast, BitVec.toNat_ofNat]; exact Nat.mod_eq_of_lt (by omega)
  show IntKind.u32.wrap ((BitVec.ofInt 32 (a : Int) ^^^ BitVec.ofInt 32 (b : Int)).toNat : Int) = _
  rw [BitVec.toNat_xor, h1, h2, IntKind.wrap_u32]
  omega
theorem bits_and32_1 (a : Nat) (ha : a < 4294967296) : Go.bits .and .u32 (a : Int) 1 = ((a % 2 : Nat) : Int) := by
  have := bits_mask .u32 32 (by decide) (fun n h0 h1 => by rw [IntKind.wrap_u32]; omega) 1 (by decide) (a : Int) (by omega) (by omega)
  simp only [Int.pow_succ, Int.pow_zero] at this
  simpa using this
theorem xor_lt32 {a b : Nat} (ha : a < 4294967296) (hb : b < 4294967296) : a ^^^ b < 4294967296 := by
  have : a ^^^ b < 2 ^ 32 := Nat.xor_lt_two_pow (by omega) (by omega)
  omega
/-- One bit's step, eight of them, a byte's step, a list's. -/
def tstep (r : Nat) : Nat := if r % 2 = 1 then (r / 2) ^^^ 3988292384 else r / 2
def tn : Nat → Nat → Nat
  | 0, r => r
  | n + 1, r => tn n (tstep r)
theorem tstep_lt {r : Nat} (h : r < 4294967296) : tstep r < 4294967296 := by
  unfold tstep; split
  · exact xor_lt32 (by omega) (by omega)
  · omega
theorem tn_lt (n : Nat) : ∀ {r : Nat}, r < 4294967296 → tn n r < 4294967296 := by
  induction n with
  | zero => intro r h; exact h
  | succ n ih => intro r h; exact ih (tstep_lt h)
def upd (r : Nat) (c : UInt8) : Nat := tn 8 (r ^^^ c.toNat)
theorem upd_lt {r : Nat} (c : UInt8) (h : r < 4294967296) : upd r c < 4294967296 :=
  tn_lt 8 (xor_lt32 h (by have := c.toNat_lt; omega))
def crcL (r : Nat) (l : List UInt8) : Nat := l.foldl upd r
theorem crcL_lt (l : List UInt8) : ∀ {r : Nat}, r < 4294967296 → crcL r l < 4294967296 := by
  induction l with
  | nil => intro r h; exact h
  | cons c l ih => intro r h; exact ih (upd_lt c h)
theorem crcL_append (r : Nat) (l m : List UInt8) : crcL r (l ++ m) = crcL (crcL r l) m := List.foldl_append ..
def crcOf (crc : Nat) (s : ByteArray) : Nat := crcL (crc ^^^ 4294967295) s.data.toList ^^^ 4294967295
theorem crcOf_lt {crc : Nat} (s : ByteArray) (h : crc < 4294967296) : crcOf crc s < 4294967296 := xor_lt32 (crcL_lt _ (xor_lt32 h (by omega))) (by omega)

theorem drop_at {s : ByteArray} {i : Nat} (h : i < s.size) : s.data.toList.drop i = (s.data.toList[i]'(by simpa using h)) :: s.data.toList.drop (i + 1) :=
  List.drop_eq_getElem_cons (by simpa using h)

theorem spec_l1 (s : ByteArray) (i : Int) (res : Int) (d : Nat) : ∀ r : Nat, r < 4294967296 → d ≤ 8 →
    Ev (fun k => spec_l01Crc.l0 k s ((tn d r : Nat) : Int) (wrap64 (i + 1))) res → Ev (fun k => spec_l01Crc.l1 k s (r : Int) i ((8 - d : Nat) : Int)) res := by
  induction d with
  | zero =>
    intro r hr _ h
    refine Ev.step (f := fun k => spec_l01Crc.l0 k s ((tn 0 r : Nat) : Int) (wrap64 (i + 1))) (fun k => ?_) h
    simp only [spec_l01Crc.l1]
    rw [if_neg (by omega)]; rfl
  | succ d ih =>
    intro r hr hd h
    have hb : (((8 - (d + 1) : Nat) : Int)) < 8 := by omega
    have hw : wrap64 (((8 - (d + 1) : Nat) : Int) + 1) = ((8 - d : Nat) : Int) := by unfold wrap64; omega
    have ht : tn (d + 1) r = tn d (tstep r) := rfl
    rw [ht] at h
    refine Ev.step (f := fun k => spec_l01Crc.l1 k s ((tstep r : Nat) : Int) i ((8 - d : Nat) : Int)) (fun k => ?_) (ih _ (tstep_lt hr) (by omega) h)
    simp only [spec_l01Crc.l1]
    rw [if_pos hb, hw, bits_and32_1 r hr]
    unfold tstep
    by_cases c : r % 2 = 1
    · rw [if_pos (by omega), if_pos c]
      have e : ((r : Int) / 2) = ((r / 2 : Nat) : Int) := by omega
      rw [e]
      have := bits_xor32 (r / 2) 3988292384 (by omega) (by omega)
      rw [show (3988292384 : Int) = ((3988292384 : Nat) : Int) from rfl, this]
    · rw [if_neg (by omega), if_neg c]
      have e : ((r : Int) / 2) = ((r / 2 : Nat) : Int) := by omega
      rw [e]

theorem spec_l0 (s : ByteArray) (hs : s.size ≤ 140737488351232) (d : Nat) : ∀ (i r : Nat), i + d = s.size → r < 4294967296 →
    Ev (fun k => spec_l01Crc.l0 k s (r : Int) (i : Int)) ((crcL r (s.data.toList.drop i) ^^^ 4294967295 : Nat) : Int) := by
  induction d with
  | zero =>
    intro i r hi hr
    refine Ev.one (fun k => ?_)
    simp only [spec_l01Crc.l0]
    rw [if_neg (by omega), List.drop_of_length_le (by simp; omega)]
    have := bits_xor32 r 4294967295 hr (by omega)
    rw [show (4294967295 : Int) = ((4294967295 : Nat) : Int) from rfl, this]
    have h2 := xor_lt32 hr (show 4294967295 < 4294967296 by omega)
    congr 1
    show wrap64 _ = ((r ^^^ 4294967295 : Nat) : Int)
    unfold wrap64; omega
  | succ d ih =>
    intro i r hi hr
    have hlt : i < s.size := by omega
    refine Ev.step (f := fun k => spec_l01Crc.l1 k s ((r ^^^ (s.data.toList[i]'(by simpa using hlt)).toNat : Nat) : Int) i ((8 - 8 : Nat) : Int)) (fun k => ?_) ?_
    · simp only [spec_l01Crc.l0]
      rw [if_pos (by omega), if_pos (by omega), bt_at hlt]
      have hc := (s.data.toList[i]'(by simpa using hlt)).toNat_lt
      have e : (((s.data.toList[i]'(by simpa using hlt)).toNat : Int)) % 4294967296 = (((s.data.toList[i]'(by simpa using hlt)).toNat : Nat) : Int) := by omega
      rw [e, bits_xor32 _ _ hr (by omega)]
      rfl
    · have hc := (s.data.toList[i]'(by simpa using hlt)).toNat_lt
      refine spec_l1 s i _ 8 _ (xor_lt32 hr (by omega)) (by omega) ?_
      have hw : wrap64 ((i : Int) + 1) = ((i + 1 : Nat) : Int) := by unfold wrap64; omega
      rw [hw, drop_at hlt]
      exact ih (i + 1) _ (by omega) (upd_lt _ hr)

theorem spec_crc_ev (crc : Nat) (hc : crc < 4294967296) (s : ByteArray) (hs : s.size ≤ 140737488351232) : Ev (fun k => spec_l01Crc.f k (crc : Int) s) ((crcOf crc s : Nat) : Int) := by
  unfold spec_l01Crc.f crcOf
  have e : ((crc : Int) % 4294967296) = (crc : Int) := by omega
  rw [e]
  have := bits_xor32 crc 4294967295 hc (by omega)
  rw [show (4294967295 : Int) = ((4294967295 : Nat) : Int) from rfl, this]
  simpa using spec_l0 s hs s.size 0 (crc ^^^ 4294967295) (by omega) (xor_lt32 hc (by omega))

theorem impl_l1 (s : ByteArray) (i : Nat) (n : Int) (res : Int) (d : Nat) : ∀ r : Nat, r < 4294967296 → d ≤ 8 →
    Ev (fun k => impl_crcFrom.l0 k s ((tn d r : Nat) : Int) n (wrap64 (i + 1))) res → Ev (fun k => impl_crcFrom.l1 k s (r : Int) n i ((8 - d : Nat) : Int)) res := by
  induction d with
  | zero =>
    intro r hr _ h
    refine Ev.step (f := fun k => impl_crcFrom.l0 k s ((tn 0 r : Nat) : Int) n (wrap64 (i + 1))) (fun k => ?_) h
    simp only [impl_crcFrom.l1]
    rw [if_neg (by omega)]; rfl
  | succ d ih =>
    intro r hr hd h
    have hb : (((8 - (d + 1) : Nat) : Int)) < 8 := by omega
    have hw : wrap64 (((8 - (d + 1) : Nat) : Int) + 1) = ((8 - d : Nat) : Int) := by unfold wrap64; omega
    have ht : tn (d + 1) r = tn d (tstep r) := rfl
    rw [ht] at h
    refine Ev.step (f := fun k => impl_crcFrom.l1 k s ((tstep r : Nat) : Int) n i ((8 - d : Nat) : Int)) (fun k => ?_) (ih _ (tstep_lt hr) (by omega) h)
    simp only [impl_crcFrom.l1]
    rw [if_pos hb, hw, bits_and32_1 r hr]
    unfold tstep
    by_cases c : r % 2 = 1
    · rw [if_pos (by omega), if_pos c]
      have e : ((r : Int) / 2) = ((r / 2 : Nat) : Int) := by omega
      rw [e]
      have := bits_xor32 (r / 2) 3988292384 (by omega) (by omega)
      rw [show (3988292384 : Int) = ((3988292384 : Nat) : Int) from rfl, this]
    · rw [if_neg (by omega), if_neg c]
      have e : ((r : Int) / 2) = ((r / 2 : Nat) : Int) := by omega
      rw [e]

theorem impl_l0 (s : ByteArray) (hs : s.size ≤ 140737488351232) (d : Nat) : ∀ (i r : Nat), i + d = s.size → r < 4294967296 →
    Ev (fun k => impl_crcFrom.l0 k s (r : Int) (s.size : Int) (i : Int)) ((crcL r (s.data.toList.drop i) ^^^ 4294967295 : Nat) : Int) := by
  induction d with
  | zero =>
    intro i r hi hr
    refine Ev.one (fun k => ?_)
    simp only [impl_crcFrom.l0]
    rw [if_neg (by omega), List.drop_of_length_le (by simp; omega)]
    have := bits_xor32 4294967295 r (by omega) hr
    rw [show (4294967295 : Int) = ((4294967295 : Nat) : Int) from rfl, this, Nat.xor_comm]
    rfl
  | succ d ih =>
    intro i r hi hr
    have hlt : i < s.size := by omega
    refine Ev.step (f := fun k => impl_crcFrom.l1 k s ((r ^^^ (s.data.toList[i]'(by simpa using hlt)).toNat : Nat) : Int) (s.size : Int) i ((8 - 8 : Nat) : Int)) (fun k => ?_) ?_
    · simp only [impl_crcFrom.l0]
      rw [if_pos (by omega), if_pos (by omega), if_pos (by omega), bt_at hlt]
      have hc := (s.data.toList[i]'(by simpa using hlt)).toNat_lt
      have e : (((s.data.toList[i]'(by simpa using hlt)).toNat : Int)) % 4294967296 = (((s.data.toList[i]'(by simpa using hlt)).toNat : Nat) : Int) := by omega
      rw [e, bits_xor32 _ _ hr (by omega)]
      rfl
    · have hc := (s.data.toList[i]'(by simpa using hlt)).toNat_lt
      refine impl_l1 s i _ _ 8 _ (xor_lt32 hr (by omega)) (by omega) ?_
      have hw : wrap64 ((i : Int) + 1) = ((i + 1 : Nat) : Int) := by unfold wrap64; omega
      rw [hw, drop_at hlt]
      exact ih (i + 1) _ (by omega) (upd_lt _ hr)

theorem impl_crc_ev (crc : Nat) (hc : crc < 4294967296) (s : ByteArray) (hs : s.size ≤ 140737488351232) : Ev (fun k => impl_crcFrom.f k (crc : Int) s) ((crcOf crc s : Nat) : Int) := by
  unfold impl_crcFrom.f crcOf
  have := bits_xor32 4294967295 crc (by omega) hc
  rw [show (4294967295 : Int) = ((4294967295 : Nat) : Int) from rfl, this, Nat.xor_comm]
  simpa using impl_l0 s hs s.size 0 (crc ^^^ 4294967295) (by omega) (xor_lt32 hc (by omega))

/-! Crc, CrcMore, Seal and Unseal on both sides. -/
def crcI (s : ByteArray) : Int := if s.size > 8000 then 0 else (crcOf 0 s : Nat)
def crcMoreI (crc : Int) (s : ByteArray) : Int := if s.size > 8000 ∨ crc < 0 ∨ crc > 4294967295 then 0 else (crcOf crc.toNat s : Nat)
theorem in_eq (a b c : Int) : impl_in.f a b c = some (decide (b ≤ a ∧ a ≤ c)) := by
  unfold impl_in.f; split <;> simp [*]
def four (n : Nat) : ByteArray := strOfNums [((n % 256 : Nat) : Int), ((n / 256 % 256 : Nat) : Int), ((n / 65536 % 256 : Nat) : Int), ((n / 16777216 % 256 : Nat) : Int)]
theorem four_size (n : Nat) : (four n).size = 4 := rfl
theorem spec_four (n : Nat) : spec_l01Four.f (n : Int) = some (four n) := by
  unfold spec_l01Four.f four; simp
def sealed (s : ByteArray) : ByteArray := if s.size > 7996 then ⟨#[]⟩ else s ++ four (crcOf 0 s)
theorem spec_Seal_ev (s : ByteArray) (hs : s.size ≤ 140737488351232) : Ev (fun k => spec_Seal.f k s) (sealed s) := by
  unfold spec_Seal.f sealed
  by_cases c : s.size > 7996
  · rw [if_pos c]; exact Ev.pos (by omega) (Ev.now _)
  · rw [if_neg c]
    refine Ev.neg (by omega) (Ev.bind (spec_crc_ev 0 (by omega) s hs) (Ev.take (spec_four _) (Ev.pos ?_ (Ev.now _))))
    rw [four_size]; omega
theorem impl_Seal_ev (s : ByteArray) (hs : s.size ≤ 140737488351232) : Ev (fun k => impl_Seal.f k s) (sealed s) := by
  unfold impl_Seal.f sealed
  by_cases c : s.size > 7996
  · rw [if_pos c]; exact Ev.pos (by omega) (Ev.now _)
  · rw [if_neg c]
    refine Ev.neg (by omega) (Ev.bind (impl_crc_ev 0 (by omega) s hs) (Ev.take (a := [((crcOf 0 s % 256 : Nat) : Int), ((crcOf 0 s / 256 % 256 : Nat) : Int), ((crcOf 0 s / 65536 % 256 : Nat) : Int), ((crcOf 0 s / 16777216 % 256 : Nat) : Int)]) ?_ (Ev.pos ?_ (Ev.now _))))
    · simp
    · rw [size_strOfNums]; simp; omega

theorem toList_inj {a b : ByteArray} (h : a.toList = b.toList) : a = b := by
  rw [ByteArray.toList_eq, ByteArray.toList_eq] at h
  cases a; cases b; simp at h; rw [h]
theorem toList_iff {a b : ByteArray} : a.toList = b.toList ↔ a = b := ⟨toList_inj, fun h => by rw [h]⟩
theorem append_extract (s : ByteArray) (i : Nat) (h : i ≤ s.size) : s.extract 0 i ++ s.extract i s.size = s := by
  rw [ByteArray.extract_append_extract]; simp
theorem size_extract (s : ByteArray) (i j : Nat) (h : j ≤ s.size) : (s.extract i j).size = j - i := by
  rw [ByteArray.size_extract]; omega

def unsealed (s : ByteArray) : ByteArray × Int × Int :=
  if s.size > 8000 then (⟨#[]⟩, 0, 2) else if s.size < 4 then (⟨#[]⟩, 0, 4) else
  if sealed (s.extract 0 (s.size - 4)) = s then (s.extract 0 (s.size - 4), 0, 0) else (⟨#[]⟩, 0, 5)
/-! Lists of structs, read one by one. -/
theorem w64 {n : Int} (h0 : -9223372036854775808 ≤ n) (h1 : n ≤ 9223372036854775807) : wrap64 n = n := by unfold wrap64; omega
theorem drop_cons {α : Type} {l : List α} {i : Nat} (h : i < l.length) : l.drop i = l[i] :: l.drop (i + 1) := List.drop_eq_getElem_cons h
theorem getD_at {α : Type} {l : List α} {i : Nat} (d : α) (h : i < l.length) : l.getD ((i : Int)).toNat d = l[i] := by
  rw [Int.toNat_natCast, List.getD_eq_getElem?_getD, List.getElem?_eq_getElem h]; rfl

/-! Ranges. -/
theorem is_eq (a b c : Int) : spec_l02Is.f a b c = some (decide (b ≤ a ∧ a ≤ c)) := by
  unfold spec_l02Is.f
  by_cases h : b ≤ a
  · rw [if_pos h]; simp [h]
  · rw [if_neg h]; simp [h]

theorem isId_eq (a : Int) : impl_isId.f a = some (decide (1 ≤ a ∧ a ≤ 1000000)) := by unfold impl_isId.f; rw [in_eq]; rfl

theorem l02Id_eq (a : Int) : spec_l02Id.f a = some (decide (1 ≤ a ∧ a ≤ 1000000)) := by unfold spec_l02Id.f; rw [is_eq]; rfl

/-! The laws' helpers on lists of numbers. -/
theorem rd_at {l : List Int} {i : Nat} (h : i < l.length) : rd l (i : Int) = l[i] := getD_at _ h
theorem szInt64S_eq (l : List Int) (a : Int) (ha : -1 ≤ a) (h : a ≤ 1048576) (hn : l.length ≤ 9223372036854775807) : laws_szInt64S.f l a = some (if a < l.length then -1 else a - l.length) := by
  unfold laws_szInt64S.f
  rw [w64 (by omega) (by omega)]
  by_cases c : a < l.length
  · rw [if_pos (by omega), if_pos c]
  · rw [if_neg (by omega), if_neg c]
theorem toInt64S_l0 (l : List Int) (hl : l.length ≤ 1048576) (d : Nat) : ∀ (i : Nat) (acc : List Int), i + d = l.length → acc.length = l.length → acc.take i = l.take i →
    Ev (fun k => laws_toInt64S.l0 k l acc (i : Int)) l := by
  induction d with
  | zero =>
    intro i acc hi ha hp
    refine Ev.to ?_ (Ev.one (r := acc) (fun k => ?_))
    · rw [List.take_of_length_le (by omega), List.take_of_length_le (by omega)] at hp
      exact hp
    · simp only [laws_toInt64S.l0]
      rw [if_neg (by omega)]
  | succ d ih =>
    intro i acc hi ha hp
    have hlt : i < l.length := by omega
    refine Ev.step (f := fun k => laws_toInt64S.l0 k l (acc.set i l[i]) ((i + 1 : Nat) : Int)) (fun k => ?_) (ih (i + 1) (acc.set i l[i]) (by omega) (by simpa using ha) ?_)
    · simp only [laws_toInt64S.l0]
      rw [if_pos (by omega), if_pos (by omega), if_pos (by omega), rd_at hlt, w64 (by omega) (by omega), Int.toNat_natCast]
      rfl
    · rw [List.take_succ_eq_append_getElem (by simp; omega), List.take_succ_eq_append_getElem hlt, ← hp, List.take_set_of_le (by omega)]
      simp
theorem toInt64S_ev (l : List Int) (hl : l.length ≤ 1048576) : Ev (fun k => laws_toInt64S.f k l) l := by
  unfold laws_toInt64S.f
  refine Ev.pos (by omega) (Ev.pos (by simp; omega) ?_)
  exact toInt64S_l0 l hl l.length 0 _ (by omega) (by simp) (by simp)
theorem eqInt64S_l0 (l : List Int) (hl : l.length ≤ 9223372036854775806) (d : Nat) : ∀ i : Nat, i + d = l.length → Ev (fun k => laws_eqInt64S.l0 k l l (i : Int)) true := by
  induction d with
  | zero =>
    intro i hi
    refine Ev.one (fun k => ?_)
    simp only [laws_eqInt64S.l0]
    rw [if_neg (by omega)]
  | succ d ih =>
    intro i hi
    refine Ev.step (f := fun k => laws_eqInt64S.l0 k l l ((i + 1 : Nat) : Int)) (fun k => ?_) (ih (i + 1) (by omega))
    simp only [laws_eqInt64S.l0]
    rw [if_pos (by omega), if_pos (by omega), if_pos (by omega), if_pos (by trivial), w64 (by omega) (by omega)]; rfl
theorem eqInt64S_ev (l : List Int) (hl : l.length ≤ 9223372036854775806) : Ev (fun k => laws_eqInt64S.f k l l) true := by
  unfold laws_eqInt64S.f
  exact Ev.pos rfl (eqInt64S_l0 l hl l.length 0 (by omega))

/-! Valid events. -/
theorem isUser_eq (a : Int) : impl_isUser.f a = some (decide (1 ≤ a ∧ a ≤ 6)) := by unfold impl_isUser.f; rw [in_eq]; rfl
theorem l02User_eq (a : Int) : spec_l02User.f a = some (decide (1 ≤ a ∧ a ≤ 6)) := by unfold spec_l02User.f; rw [is_eq]; rfl
theorem isRoom_eq (a : Int) : impl_isRoom.f a = some (decide (1 ≤ a ∧ a ≤ 3)) := by unfold impl_isRoom.f; rw [in_eq]; rfl
theorem isTime_eq (a : Int) : impl_isTime.f a = some (decide (0 ≤ a ∧ a ≤ 1000000)) := by unfold impl_isTime.f; rw [in_eq]; rfl
theorem l02Time_eq (a : Int) : spec_l02Time.f a = some (decide (0 ≤ a ∧ a ≤ 1000000)) := by unfold spec_l02Time.f; rw [is_eq]; rfl
def incFrom : Int → List Int → Bool
  | _, [] => true
  | lo, x :: r => decide (lo ≤ x ∧ x ≤ 1000000) && incFrom (x + 1) r
def prevRight (l : List Int) (id : Int) : Bool := decide (l.length ≤ 4) && (incFrom 1 l && !l.contains id)

theorem incr_l0 (l : List Int) (hl : l.length ≤ 9223372036854775806) (d : Nat) : ∀ (i : Nat) (lo : Int), i + d = l.length → 1 ≤ lo →
    (i = 0 ∧ lo = 1 ∨ ∃ h : 0 < i ∧ i ≤ l.length, lo = (l[i - 1]'(by omega)) + 1) →
    Ev (fun k => impl_increasing.l0 k l 1 1000000 l (l.length : Int) (i : Int)) (incFrom lo (l.drop i)) := by
  induction d with
  | zero =>
    intro i lo hi _ _
    refine Ev.one (fun k => ?_)
    simp only [impl_increasing.l0]
    rw [if_neg (by omega), List.drop_of_length_le (by omega)]; rfl
  | succ d ih =>
    intro i lo hi h1 hp
    have hlt : i < l.length := by omega
    rw [drop_cons hlt]
    have hw : wrap64 ((i : Int) + 1) = ((i + 1 : Nat) : Int) := by unfold wrap64; omega
    generalize hx : l[i] = x
    have hx' : rd l (i : Int) = x := by rw [rd_at hlt, hx]
    simp only [incFrom]
    by_cases c1 : 1 ≤ x ∧ x ≤ 1000000
    · by_cases c3 : lo ≤ x
      · rw [show decide (lo ≤ x ∧ x ≤ 1000000) = true from decide_eq_true ⟨c3, c1.2⟩, Bool.true_and]
        refine Ev.step (f := fun k => impl_increasing.l0 k l 1 1000000 l (l.length : Int) ((i + 1 : Nat) : Int)) (fun k => ?_) (ih (i + 1) (x + 1) (by omega) (by omega) (Or.inr ⟨⟨by omega, by omega⟩, by simp only [Nat.add_sub_cancel]; rw [hx]⟩))
        simp only [impl_increasing.l0]
        rw [if_pos (by omega), if_pos (by omega), if_pos (by omega), hx', in_eq, hw]
        simp only [Option.bind_some]
        rw [if_pos (by simpa using c1)]
        rcases hp with ⟨rfl, rfl⟩ | ⟨⟨p1, p2⟩, hlo⟩
        · rw [if_neg (by omega)]
        · have e1 : wrap64 ((i : Int) - 1) = ((i - 1 : Nat) : Int) := by unfold wrap64; omega
          rw [if_pos (by omega), e1, if_pos (by omega), if_pos (by omega), rd_at (by omega), if_neg (by omega)]
      · rw [show decide (lo ≤ x ∧ x ≤ 1000000) = false from decide_eq_false (by omega), Bool.false_and]
        refine Ev.one (fun k => ?_)
        simp only [impl_increasing.l0]
        rw [if_pos (by omega), if_pos (by omega), if_pos (by omega), hx', in_eq]
        simp only [Option.bind_some]
        rw [if_pos (by simpa using c1)]
        rcases hp with ⟨rfl, rfl⟩ | ⟨⟨p1, p2⟩, hlo⟩
        · omega
        · have e1 : wrap64 ((i : Int) - 1) = ((i - 1 : Nat) : Int) := by unfold wrap64; omega
          rw [if_pos (by omega), e1, if_pos (by omega), if_pos (by omega), rd_at (by omega), if_pos (by omega)]
    · rw [show decide (lo ≤ x ∧ x ≤ 1000000) = false from decide_eq_false (by omega), Bool.false_and]
      refine Ev.one (fun k => ?_)
      simp only [impl_increasing.l0]
      rw [if_pos (by omega), if_pos (by omega), if_pos (by omega), hx', in_eq]
      simp only [Option.bind_some]
      rw [if_neg (by simpa using c1)]
theorem incr_ev (l : List Int) (hl : l.length ≤ 9223372036854775806) : Ev (fun k => impl_increasing.f k l 1 1000000) (incFrom 1 l) := by
  unfold impl_increasing.f
  simpa using incr_l0 l hl l.length 0 1 (by omega) (by omega) (Or.inl ⟨rfl, rfl⟩)

theorem index_l0 (l : List Int) (a : Int) (hl : l.length ≤ 9223372036854775806) (d : Nat) : ∀ i : Nat, i + d = l.length →
    ∃ r : Int, Ev (fun k => slices_Index_int64_int64.l0 k l a (l.length : Int) (i : Int)) r ∧ decide (r ≥ 0) = (l.drop i).contains a := by
  induction d with
  | zero =>
    intro i hi
    refine ⟨-1, Ev.one (fun k => ?_), ?_⟩
    · simp only [slices_Index_int64_int64.l0]
      rw [if_neg (by omega)]
    · rw [List.drop_of_length_le (by omega)]; rfl
  | succ d ih =>
    intro i hi
    have hlt : i < l.length := by omega
    rw [drop_cons hlt]
    by_cases c : a = l[i]
    · refine ⟨(i : Int), Ev.one (fun k => ?_), ?_⟩
      · simp only [slices_Index_int64_int64.l0]
        rw [if_pos (by omega), if_pos (by omega), if_pos (by omega), rd_at hlt, if_pos c]
      · rw [decide_eq_true (by omega), List.contains_cons, ← c]; simp
    · obtain ⟨r, hr, hc⟩ := ih (i + 1) (by omega)
      refine ⟨r, Ev.step (f := fun k => slices_Index_int64_int64.l0 k l a (l.length : Int) ((i + 1 : Nat) : Int)) (fun k => ?_) hr, ?_⟩
      · simp only [slices_Index_int64_int64.l0]
        rw [if_pos (by omega), if_pos (by omega), if_pos (by omega), rd_at hlt, if_neg c, w64 (by omega) (by omega)]; rfl
      · rw [hc, List.contains_cons, show (a == l[i]) = false from by simpa using c, Bool.false_or]
theorem contains_ev (l : List Int) (a : Int) (hl : l.length ≤ 9223372036854775806) : Ev (fun k => slices_Contains_int64_int64.f k l a) (l.contains a) := by
  unfold slices_Contains_int64_int64.f slices_Index_int64_int64.f
  obtain ⟨r, hr, hc⟩ := index_l0 l a hl l.length 0 (by omega)
  rw [List.drop_zero] at hc
  exact Ev.bind hr (Ev.to hc (Ev.now _))

theorem prev_l0 (l : List Int) (id : Int) (hl : l.length ≤ 9223372036854775806) (d : Nat) : ∀ (i : Nat) (lo : Int), i + d = l.length → 1 ≤ lo →
    (i = 0 ∧ lo = 1 ∨ ∃ h : 0 < i ∧ i ≤ l.length, lo = (l[i - 1]'(by omega)) + 1) →
    Ev (fun k => spec_l02Prev.l0 k l id (i : Int)) (incFrom lo (l.drop i) && !(l.drop i).contains id) := by
  induction d with
  | zero =>
    intro i lo hi _ _
    refine Ev.one (fun k => ?_)
    simp only [spec_l02Prev.l0]
    rw [if_neg (by omega), List.drop_of_length_le (by omega)]; rfl
  | succ d ih =>
    intro i lo hi h1 hp
    have hlt : i < l.length := by omega
    rw [drop_cons hlt]
    have hw : wrap64 ((i : Int) + 1) = ((i + 1 : Nat) : Int) := by unfold wrap64; omega
    generalize hx : l[i] = x
    have hx' : rd l (i : Int) = x := by rw [rd_at hlt, hx]
    simp only [incFrom, List.contains_cons]
    by_cases c1 : 1 ≤ x ∧ x ≤ 1000000
    · by_cases c2 : x = id
      · rw [show (id == x) = true from by simp [c2], Bool.true_or, Bool.not_true, Bool.and_false]
        refine Ev.one (fun k => ?_)
        simp only [spec_l02Prev.l0]
        rw [if_pos (by omega), if_pos (by omega), hx', l02Id_eq]
        simp only [Option.bind_some]
        rw [if_pos (by simpa using c1), if_pos c2]
      · rw [show (id == x) = false from by simpa using fun h => c2 h.symm, Bool.false_or]
        by_cases c3 : lo ≤ x
        · rw [show decide (lo ≤ x ∧ x ≤ 1000000) = true from decide_eq_true ⟨c3, c1.2⟩, Bool.true_and]
          refine Ev.step (f := fun k => spec_l02Prev.l0 k l id ((i + 1 : Nat) : Int)) (fun k => ?_) (ih (i + 1) (x + 1) (by omega) (by omega) (Or.inr ⟨⟨by omega, by omega⟩, by simp only [Nat.add_sub_cancel]; rw [hx]⟩))
          simp only [spec_l02Prev.l0]
          rw [if_pos (by omega), if_pos (by omega), hx', l02Id_eq, hw]
          simp only [Option.bind_some]
          rw [if_pos (by simpa using c1), if_neg c2]
          rcases hp with ⟨rfl, rfl⟩ | ⟨⟨p1, p2⟩, hlo⟩
          · rw [if_neg (by omega)]
          · have e1 : wrap64 ((i : Int) - 1) = ((i - 1 : Nat) : Int) := by unfold wrap64; omega
            rw [if_pos (by omega), e1, if_pos (by omega), if_pos (by omega), rd_at (by omega), if_neg (by omega)]
        · rw [show decide (lo ≤ x ∧ x ≤ 1000000) = false from decide_eq_false (by omega), Bool.false_and, Bool.false_and]
          refine Ev.one (fun k => ?_)
          simp only [spec_l02Prev.l0]
          rw [if_pos (by omega), if_pos (by omega), hx', l02Id_eq]
          simp only [Option.bind_some]
          rw [if_pos (by simpa using c1), if_neg c2]
          rcases hp with ⟨rfl, rfl⟩ | ⟨⟨p1, p2⟩, hlo⟩
          · omega
          · have e1 : wrap64 ((i : Int) - 1) = ((i - 1 : Nat) : Int) := by unfold wrap64; omega
            rw [if_pos (by omega), e1, if_pos (by omega), if_pos (by omega), rd_at (by omega), if_pos (by omega)]
    · rw [show decide (lo ≤ x ∧ x ≤ 1000000) = false from decide_eq_false (by omega), Bool.false_and, Bool.false_and]
      refine Ev.one (fun k => ?_)
      simp only [spec_l02Prev.l0]
      rw [if_pos (by omega), if_pos (by omega), hx', l02Id_eq]
      simp only [Option.bind_some]
      rw [if_neg (by simpa using c1)]
theorem spec_prev_ev (l : List Int) (id : Int) (hl : l.length ≤ 9223372036854775806) : Ev (fun k => spec_l02Prev.f k l id) (prevRight l id) := by
  unfold spec_l02Prev.f prevRight
  by_cases c : l.length ≤ 4
  · refine Ev.neg (by omega) (Ev.to ?_ (prev_l0 l id hl l.length 0 1 (by omega) (by omega) (Or.inl ⟨rfl, rfl⟩)))
    simp [c]
  · exact Ev.pos (by omega) (Ev.to (by simp [c]) (Ev.now _))

/-- The fields that a kind of event has. -/
def evFields (kind key n : Int) (size : Nat) : Bool :=
  if kind = 1 then decide (key = 0 ∧ n = 0 ∧ size = 0) else
  if kind = 2 then decide ((1 ≤ key ∧ key ≤ 6) ∧ (1 ≤ n ∧ n ≤ 4) ∧ size = 0) else
  if kind = 3 then decide ((1 ≤ key ∧ key ≤ 6) ∧ (0 ≤ n ∧ n ≤ 100) ∧ size = 0) else
  if kind = 4 then decide (key = 0 ∧ n = 0 ∧ size ≤ 30) else
  if kind = 5 then decide (key = 0 ∧ (1 ≤ n ∧ n ≤ 2) ∧ size = 0) else
  if kind = 6 then decide (key = 0 ∧ (1 ≤ n ∧ n ≤ 3) ∧ size = 0) else
  if kind = 7 then decide (key = 0 ∧ n = 0 ∧ 1 ≤ size ∧ size ≤ 30) else
  if kind = 8 then decide ((1 ≤ key ∧ key ≤ 1000000) ∧ n = 0 ∧ size = 0) else false
theorem size_zero_iff (s : ByteArray) : s.toList = [] ↔ s.size = 0 := by
  rw [ByteArray.toList_eq]
  constructor
  · intro h; have := congrArg List.length h; simpa using this
  · intro h; exact List.eq_nil_of_length_eq_zero (by simpa using h)
theorem toList_nil_beq (s : ByteArray) : (s.toList == ([] : List UInt8)) = decide (s.size = 0) := by
  rw [Bool.eq_iff_iff, beq_iff_eq, decide_eq_true_iff, size_zero_iff]
theorem size_beq (s : ByteArray) : ((s.size : Int) == 0) = decide (s.size = 0) := by
  rw [Bool.eq_iff_iff, beq_iff_eq, decide_eq_true_iff]; omega
theorem some_ite {c : Prop} [Decidable c] {A X : Option Bool} {b y : Bool} (h1 : A = some b) (h2 : X = some y) : (if c then A else X) = some (if c then b else y) := by
  split
  · exact h1
  · exact h2
theorem some_and {c d : Prop} [Decidable c] [Decidable d] {A : Option Bool} (h1 : A = some (decide d)) : (if c then A else some false) = some (decide (c ∧ d)) := by
  by_cases h : c
  · rw [if_pos h, h1]; simp [h]
  · rw [if_neg h]; simp [h]
theorem some_andT {c d : Prop} [Decidable c] [Decidable d] {A : Option Bool} (h1 : A = some (decide d)) : (if decide c = true then A else some false) = some (decide (c ∧ d)) := by
  by_cases h : c
  · rw [if_pos (by simpa using h), h1]; simp [h]
  · rw [if_neg (by simpa using h)]; simp [h]
theorem cast30 (s : Nat) : some (decide ((s : Int) ≤ 30)) = some (decide (s ≤ 30)) := by congr 1; rw [decide_eq_decide]; omega
theorem impl_fields (a0 a1 a2 kind key n : Int) (s : ByteArray) (l : List Int) (t : Int) : impl_Event_fieldsRight.f a0 a1 a2 kind key n s l t = some (evFields kind key n s.size) := by
  unfold impl_Event_fieldsRight.f evFields
  simp only [isUser_eq, in_eq, isId_eq, Option.bind_some, size_beq]
  refine some_ite (some_and (some_and rfl)) (some_ite (some_andT (some_andT rfl)) (some_ite (some_andT (some_andT rfl)) (some_ite (some_and (some_and (cast30 _))) (some_ite (some_and (some_andT rfl)) (some_ite (some_and (some_andT rfl)) (some_ite (some_and (some_and ?_)) (some_ite (some_andT (some_and rfl)) rfl)))))))
  congr 1; rw [decide_eq_decide]; omega
theorem spec_fields (a0 a1 a2 kind key n : Int) (s : ByteArray) (l : List Int) (t : Int) : spec_l02Body.f a0 a1 a2 kind key n s l t = some (evFields kind key n s.size) := by
  unfold spec_l02Body.f evFields
  simp only [l02User_eq, is_eq, l02Id_eq, Option.bind_some, toList_nil_beq]
  refine some_ite (some_and (some_and rfl)) (some_ite (some_andT (some_andT rfl)) (some_ite (some_andT (some_andT rfl)) (some_ite (some_and (some_and (cast30 _))) (some_ite (some_and (some_andT rfl)) (some_ite (some_and (some_andT rfl)) (some_ite (some_and (some_and ?_)) (some_ite (some_andT (some_and rfl)) rfl)))))))
  rw [cast30]
  by_cases h : 1 ≤ s.size
  · rw [if_pos (by omega)]; simp [h]
  · rw [if_neg (by omega)]; simp [h]
/-- An event is valid, but for how many Prev it has. -/
def evRight0 (id room author kind key n : Int) (s : ByteArray) (l : List Int) (t : Int) : Bool :=
  decide (1 ≤ id ∧ id ≤ 1000000) && (decide (1 ≤ room ∧ room ≤ 3) && (decide (1 ≤ author ∧ author ≤ 6) && (decide (0 ≤ t ∧ t ≤ 1000000) && (prevRight l id && evFields kind key n s.size))))
def evRight (id room author kind key n : Int) (s : ByteArray) (l : List Int) (t : Int) : Bool := evRight0 id room author kind key n s l t && (decide (kind = 1) == decide (l.length = 0))
theorem Ev.ifb {c : Bool} {f : Nat → Option Bool} {r : Bool} (h : Ev f r) : Ev (fun n => if c = true then f n else some false) (c && r) := by
  cases c
  · exact Ev.neg (by simp) (Ev.now _)
  · exact Ev.pos rfl h
theorem Ev.ifnb {c : Bool} {f : Nat → Option Bool} {r : Bool} (h : Ev f r) : Ev (fun n => if c = true then some false else f n) (!c && r) := by
  cases c
  · exact Ev.neg (by simp) h
  · exact Ev.pos rfl (Ev.now _)
theorem impl_right_ev (id room author kind key n : Int) (s : ByteArray) (l : List Int) (t : Int) (hl : l.length ≤ 9223372036854775806) : Ev (fun k => impl_Event_right.f k id room author kind key n s l t) (evRight0 id room author kind key n s l t) := by
  unfold impl_Event_right.f evRight0
  refine Ev.take (isId_eq _) (Ev.ifb (Ev.take (isRoom_eq _) (Ev.ifb (Ev.take (isUser_eq _) (Ev.ifb (Ev.take (isTime_eq _) (Ev.ifb ?_)))))))
  unfold prevRight
  by_cases c : l.length ≤ 4
  · refine Ev.pos (by omega) (Ev.to ?_ (Ev.bind (incr_ev l hl) (Ev.ifb (Ev.bind (contains_ev l id hl) (Ev.ifnb (Ev.take (impl_fields _ _ _ _ _ _ _ _ _) (Ev.now _)))))))
    simp [c, Bool.and_assoc]
  · exact Ev.neg (by omega) (Ev.to (by simp [c]) (Ev.now _))
theorem createB (kind : Int) (l : List Int) : ((kind == 1) == ((l.length : Int) == 0)) = (decide (kind = 1) == decide (l.length = 0)) := by
  have e1 : (kind == 1) = decide (kind = 1) := by rw [Bool.eq_iff_iff, beq_iff_eq, decide_eq_true_iff]
  have e2 : ((l.length : Int) == 0) = decide (l.length = 0) := by rw [Bool.eq_iff_iff, beq_iff_eq, decide_eq_true_iff]; omega
  rw [e1, e2]
theorem impl_EventRight_ev (id room author kind key n : Int) (s : ByteArray) (l : List Int) (t : Int) (hl : l.length ≤ 9223372036854775806) : Ev (fun k => impl_EventRight.f k id room author kind key n s l t) (evRight id room author kind key n s l t) := by
  unfold impl_EventRight.f evRight
  rw [← createB]
  exact Ev.bind (impl_right_ev id room author kind key n s l t hl) (Ev.ifb (Ev.now _))
theorem spec_EventRight_ev (id room author kind key n : Int) (s : ByteArray) (l : List Int) (t : Int) (hl : l.length ≤ 9223372036854775806) : Ev (fun k => spec_EventRight.f k id room author kind key n s l t) (evRight id room author kind key n s l t) := by
  unfold spec_EventRight.f evRight evRight0
  rw [← createB]
  refine Ev.to ?_ (Ev.take (l02Id_eq _) (Ev.ifb (Ev.take (is_eq _ _ _) (Ev.ifb (Ev.take (l02User_eq _) (Ev.ifb (Ev.take (l02Time_eq _) (Ev.ifb (Ev.bind (spec_prev_ev l id hl) (Ev.ifb (Ev.ifb (Ev.take (spec_fields _ _ _ _ _ _ _ _ _) (Ev.now _)))))))))))))
  simp only [Bool.and_assoc, Bool.and_comm (evFields kind key n s.size)]
theorem evRight_kind {id room author kind key n : Int} {s : ByteArray} {l : List Int} {t : Int} (h : evRight id room author kind key n s l t = true) : 1 ≤ kind ∧ kind ≤ 8 := by
  unfold evRight evRight0 at h
  simp only [Bool.and_eq_true] at h
  have h2 := h.1.2.2.2.2.2
  unfold evFields at h2
  repeat' split at h2
  all_goals first | omega | simp at h2
/-! ### the laws' helpers on one event -/
theorem szEvent_eq (a0 a1 a2 a3 a4 a5 : Int) (s : ByteArray) (l : List Int) (a8 : Int) (a : Int) (ha : -1 ≤ a) (h : a ≤ 1048576) (hs : s.size ≤ 9223372036854775807) (hn : l.length ≤ 9223372036854775807) :
    laws_szEvent.f a0 a1 a2 a3 a4 a5 s l a8 a = some (if a < s.size + l.length then -1 else a - s.size - l.length) := by
  unfold laws_szEvent.f
  rw [w64 (by omega) (by omega)]
  by_cases c : a < s.size
  · rw [if_pos (by omega), if_pos (by omega)]
  · rw [if_neg (by omega), szInt64S_eq l _ (by omega) (by omega) hn]
    simp only [Option.bind_some]
    by_cases c2 : a - s.size < l.length
    · rw [if_pos c2, if_pos (by omega), if_pos (by omega)]
    · rw [if_neg c2, if_neg (by omega), if_neg (by omega)]
theorem toEvent_ev (a0 a1 a2 a3 a4 a5 : Int) (s : ByteArray) (l : List Int) (a8 : Int) (hl : l.length ≤ 1048576) : Ev (fun k => laws_toEvent.f k a0 a1 a2 a3 a4 a5 s l a8) (a0, a1, a2, a3, a4, a5, s, l, a8) := by
  unfold laws_toEvent.f
  exact Ev.bind (toInt64S_ev l hl) (Ev.now _)
theorem eqEvent_ev (a0 a1 a2 a3 a4 a5 : Int) (s : ByteArray) (l : List Int) (a8 : Int) (hl : l.length ≤ 9223372036854775806) : Ev (fun k => laws_eqEvent.f k a0 a1 a2 a3 a4 a5 s l a8 a0 a1 a2 a3 a4 a5 s l a8) true := by
  unfold laws_eqEvent.f
  exact Ev.pos rfl (Ev.pos rfl (Ev.pos rfl (Ev.pos rfl (Ev.pos rfl (Ev.pos rfl (Ev.pos rfl (Ev.bind (eqInt64S_ev l hl) (Ev.pos rfl (Ev.pos rfl (Ev.now _))))))))))

/-! An event's bytes. -/
theorem ba_ext {a b : ByteArray} (h : a.data.toList = b.data.toList) : a = b := by
  cases a; cases b; simp at h; rw [h]
theorem son_append (a b : List Int) : strOfNums (a ++ b) = strOfNums a ++ strOfNums b := by
  apply ba_ext; simp [strOfNums]
theorem son_bytes (t : ByteArray) : strOfNums (bytesOf t) = t := by
  apply ba_ext
  simp only [strOfNums, bytesOf, List.map_map]
  conv => rhs; rw [← List.map_id t.data.toList]
  apply List.map_congr_left
  intro x _
  show UInt8.ofNat ((x.toNat : Int)).toNat = x
  rw [Int.toNat_natCast]; simp
theorem ba_nil (a : ByteArray) : (⟨#[]⟩ : ByteArray) ++ a = a := by apply ba_ext; simp
def i64r (n : Int) : Prop := -9223372036854775808 ≤ n ∧ n ≤ 9223372036854775807
/-- A number's bytes; the bytes of some numbers. -/
def pn (n : Int) : ByteArray := strOfNums (enc (zig n))
def encs : List Int → List Int
  | [] => []
  | x :: r => enc (zig x) ++ encs r
def pns (l : List Int) : ByteArray := strOfNums (encs l)
theorem pns_cons (x : Int) (r : List Int) : pns (x :: r) = pn x ++ pns r := son_append _ _
theorem pn_size {n : Int} (h : i64r n) : (pn n).size ≤ 10 := by unfold pn; rw [size_strOfNums]; exact enc_zig_length h.1 h.2
theorem spec_pn {n : Int} (h : i64r n) : Ev (fun k => spec_PutNum.f k n) (pn n) := spec_PutNum_ev h.1 h.2
theorem impl_nb {n : Int} (h : i64r n) : Ev (fun k => impl_numBytes.f k n) (enc (zig n)) := impl_numBytes_ev h.1 h.2
theorem enc_size {n : Int} (h : i64r n) : (enc (zig n)).length ≤ 10 := enc_zig_length h.1 h.2
theorem len_i64 (n : Nat) (h : n ≤ 9223372036854775807) : i64r (n : Int) := ⟨by omega, by omega⟩
theorem putText_size (s : ByteArray) (h : s.size ≤ 9223372036854775807) : (putText s).size ≤ s.size + 10 := by
  unfold putText
  split
  · exact Nat.zero_le _
  · rw [ByteArray.size_append, size_strOfNums]
    have := enc_zig_length (n := (s.size : Int)) (by omega) (by omega)
    omega
theorem l02_l0 (a0 a1 a2 a3 a4 a5 : Int) (s : ByteArray) (l : List Int) (t : Int) (ht : i64r t) (hl : ∀ x ∈ l, i64r x) (hn : l.length ≤ 1048576) (d : Nat) : ∀ (i : Nat) (acc : ByteArray), i + d = l.length → acc.size + 10 * d ≤ 100000000 →
    Ev (fun k => spec_l02Bytes.l0 k acc (i : Int) a0 a1 a2 a3 a4 a5 s l t) (sealed (acc ++ (pns (l.drop i) ++ pn t))) := by
  induction d with
  | zero =>
    intro i acc hi hs
    refine Ev.step (f := fun k => spec_l02Bytes.l0 (k + 1) acc (i : Int) a0 a1 a2 a3 a4 a5 s l t) (fun k => rfl) ?_
    simp only [spec_l02Bytes.l0]
    have h1 := pn_size ht
    refine Ev.neg (by omega) (Ev.bind (spec_pn ht) (Ev.pos (by omega) ?_))
    refine Ev.to ?_ (Ev.bind (spec_Seal_ev (acc ++ pn t) (by rw [ByteArray.size_append]; omega)) (Ev.now _))
    rw [List.drop_of_length_le (by omega)]
    rw [show pns [] = ⟨#[]⟩ from rfl, ba_nil]
  | succ d ih =>
    intro i acc hi hs
    have hlt : i < l.length := by omega
    have hx := hl l[i] (List.getElem_mem hlt)
    have h1 := pn_size hx
    refine Ev.step (f := fun k => spec_l02Bytes.l0 (k + 1) acc (i : Int) a0 a1 a2 a3 a4 a5 s l t) (fun k => rfl) ?_
    simp only [spec_l02Bytes.l0]
    rw [rd_at hlt, show wrap64 ((i : Int) + 1) = ((i + 1 : Nat) : Int) from by unfold wrap64; omega]
    refine Ev.pos (by omega) (Ev.pos (by omega) (Ev.bind (spec_pn hx) (Ev.pos (by omega) ?_)))
    have := ih (i + 1) (acc ++ pn l[i]) (by omega) (by rw [ByteArray.size_append]; omega)
    rw [drop_cons hlt, pns_cons]
    simpa only [ByteArray.append_assoc] using this
/-- What is sealed. -/
def evB (a0 a1 a2 a3 a4 a5 : Int) (s : ByteArray) (l : List Int) (t : Int) : ByteArray :=
  pn a0 ++ (pn a1 ++ (pn a2 ++ (pn a3 ++ (pn a4 ++ (pn a5 ++ (putText s ++ (pn l.length ++ (pns l ++ pn t))))))))
theorem l02Bytes_ev (a0 a1 a2 a3 a4 a5 : Int) (s : ByteArray) (l : List Int) (t : Int) (h0 : i64r a0) (h1 : i64r a1) (h2 : i64r a2) (h3 : i64r a3) (h4 : i64r a4) (h5 : i64r a5) (hs : s.size ≤ 1048576) (hl : ∀ x ∈ l, i64r x) (hn : l.length ≤ 1048576) (ht : i64r t) :
    Ev (fun k => spec_l02Bytes.f k a0 a1 a2 a3 a4 a5 s l t) (sealed (evB a0 a1 a2 a3 a4 a5 s l t)) := by
  unfold spec_l02Bytes.f
  have z0 := pn_size h0
  have z1 := pn_size h1
  have z2 := pn_size h2
  have z3 := pn_size h3
  have z4 := pn_size h4
  have z5 := pn_size h5
  have zs := putText_size s (by omega)
  have hln := len_i64 l.length (by omega)
  have zl := pn_size hln
  refine Ev.bind (spec_pn h0) (Ev.bind (spec_pn h1) (Ev.pos (by omega) (Ev.bind (spec_pn h2) (Ev.pos (by simp only [ByteArray.size_append]; omega) (Ev.bind (spec_pn h3) (Ev.pos (by simp only [ByteArray.size_append]; omega)
    (Ev.bind (spec_pn h4) (Ev.pos (by simp only [ByteArray.size_append]; omega) (Ev.bind (spec_pn h5) (Ev.pos (by simp only [ByteArray.size_append]; omega) (Ev.bind (spec_PutText_ev s (by omega)) (Ev.pos (by simp only [ByteArray.size_append]; omega)
    (Ev.bind (spec_pn hln) (Ev.pos (by simp only [ByteArray.size_append]; omega) ?_))))))))))))))
  have := l02_l0 a0 a1 a2 a3 a4 a5 s l t ht hl hn l.length 0 (pn a0 ++ pn a1 ++ pn a2 ++ pn a3 ++ pn a4 ++ pn a5 ++ putText s ++ pn l.length) (by omega) (by simp only [ByteArray.size_append]; omega)
  unfold evB
  simpa only [ByteArray.append_assoc, List.drop_zero, Int.natCast_zero] using this
theorem eb_l1 (a0 a1 a2 a3 a4 a5 : Int) (s : ByteArray) (l : List Int) (t : Int) (ht : i64r t) (hl : ∀ x ∈ l, i64r x) (hn : l.length ≤ 1048576) (d : Nat) : ∀ (i : Nat) (acc : List Int), i + d = l.length → acc.length + 10 * d ≤ 100000000 →
    Ev (fun k => impl_EventBytes.l1 k acc l (l.length : Int) (i : Int) a0 a1 a2 a3 a4 a5 s l t) (sealed (strOfNums (acc ++ (encs (l.drop i) ++ enc (zig t))))) := by
  induction d with
  | zero =>
    intro i acc hi hs
    refine Ev.step (f := fun k => impl_EventBytes.l1 (k + 1) acc l (l.length : Int) (i : Int) a0 a1 a2 a3 a4 a5 s l t) (fun k => rfl) ?_
    simp only [impl_EventBytes.l1]
    have h1 := enc_size ht
    refine Ev.neg (by omega) (Ev.bind (impl_nb ht) (Ev.pos (by omega) ?_))
    refine Ev.to ?_ (Ev.bind (impl_Seal_ev (strOfNums (acc ++ enc (zig t))) (by rw [size_strOfNums, List.length_append]; omega)) (Ev.now _))
    rw [List.drop_of_length_le (by omega)]; rfl
  | succ d ih =>
    intro i acc hi hs
    have hlt : i < l.length := by omega
    have hx := hl l[i] (List.getElem_mem hlt)
    have h1 := enc_size hx
    refine Ev.step (f := fun k => impl_EventBytes.l1 (k + 1) acc l (l.length : Int) (i : Int) a0 a1 a2 a3 a4 a5 s l t) (fun k => rfl) ?_
    simp only [impl_EventBytes.l1]
    rw [rd_at hlt, show wrap64 ((i : Int) + 1) = ((i + 1 : Nat) : Int) from by unfold wrap64; omega]
    refine Ev.pos (by omega) (Ev.pos (by omega) (Ev.pos (by omega) (Ev.bind (impl_nb hx) (Ev.pos (by omega) ?_))))
    have := ih (i + 1) (acc ++ enc (zig l[i])) (by omega) (by rw [List.length_append]; omega)
    rw [drop_cons hlt, show encs (l[i] :: l.drop (i + 1)) = enc (zig l[i]) ++ encs (l.drop (i + 1)) from rfl]
    simpa only [List.append_assoc] using this
theorem eb_l0 (y : List Int) (hy : ∀ x ∈ y, i64r x) (hyn : y.length ≤ 6) (a0 a1 a2 a3 a4 a5 : Int) (s : ByteArray) (l : List Int) (t : Int) (hs : s.size ≤ 1048576) (ht : i64r t) (hl : ∀ x ∈ l, i64r x) (hn : l.length ≤ 1048576) (d : Nat) : ∀ (i : Nat) (acc : List Int), i + d = y.length → acc.length + 10 * d ≤ 100 →
    Ev (fun k => impl_EventBytes.l0 k acc y (y.length : Int) (i : Int) a0 a1 a2 a3 a4 a5 s l t) (sealed (strOfNums (acc ++ (encs (y.drop i) ++ (bytesOf (putText s) ++ (enc (zig l.length) ++ (encs l ++ enc (zig t)))))))) := by
  induction d with
  | zero =>
    intro i acc hi ha
    refine Ev.step (f := fun k => impl_EventBytes.l0 (k + 1) acc y (y.length : Int) (i : Int) a0 a1 a2 a3 a4 a5 s l t) (fun k => rfl) ?_
    simp only [impl_EventBytes.l0]
    have zs := putText_size s (by omega)
    have hln := len_i64 l.length (by omega)
    have zl := enc_size hln
    refine Ev.neg (by omega) (Ev.bind (impl_PutText_ev s (by omega)) (Ev.pos (by omega) ?_))
    simp only [Option.bind_some]
    refine Ev.bind (impl_nb hln) (Ev.pos (by rw [List.length_append, bytesOf_length]; omega) ?_)
    have := eb_l1 a0 a1 a2 a3 a4 a5 s l t ht hl hn l.length 0 ((acc ++ bytesOf (putText s)) ++ enc (zig l.length)) (by omega) (by rw [List.length_append, List.length_append, bytesOf_length]; omega)
    rw [List.drop_of_length_le (show y.length ≤ i by omega)]
    simpa only [List.append_assoc, List.drop_zero, encs, List.nil_append, Int.natCast_zero] using this
  | succ d ih =>
    intro i acc hi ha
    have hlt : i < y.length := by omega
    have hx := hy y[i] (List.getElem_mem hlt)
    have h1 := enc_size hx
    refine Ev.step (f := fun k => impl_EventBytes.l0 (k + 1) acc y (y.length : Int) (i : Int) a0 a1 a2 a3 a4 a5 s l t) (fun k => rfl) ?_
    simp only [impl_EventBytes.l0]
    rw [rd_at hlt, show wrap64 ((i : Int) + 1) = ((i + 1 : Nat) : Int) from by unfold wrap64; omega]
    refine Ev.pos (by omega) (Ev.pos (by omega) (Ev.pos (by omega) (Ev.bind (impl_nb hx) (Ev.pos (by omega) ?_))))
    have := ih (i + 1) (acc ++ enc (zig y[i])) (by omega) (by rw [List.length_append]; omega)
    rw [drop_cons hlt, show encs (y[i] :: y.drop (i + 1)) = enc (zig y[i]) ++ encs (y.drop (i + 1)) from rfl]
    simpa only [List.append_assoc] using this
theorem evB_son (a0 a1 a2 a3 a4 a5 : Int) (s : ByteArray) (l : List Int) (t : Int) :
    strOfNums (encs [a0, a1, a2, a3, a4, a5] ++ (bytesOf (putText s) ++ (enc (zig l.length) ++ (encs l ++ enc (zig t))))) = evB a0 a1 a2 a3 a4 a5 s l t := by
  unfold evB pn pns
  simp only [encs, son_append, son_bytes, ByteArray.append_assoc]
  rw [show strOfNums [] = ⟨#[]⟩ from rfl, ba_nil]
theorem spec_EB_ev (a0 a1 a2 a3 a4 a5 : Int) (s : ByteArray) (l : List Int) (t : Int) (h0 : i64r a0) (h1 : i64r a1) (h2 : i64r a2) (h3 : i64r a3) (h4 : i64r a4) (h5 : i64r a5) (hs : s.size ≤ 1048576) (hl : ∀ x ∈ l, i64r x) (hn : l.length ≤ 1048576) (ht : i64r t) :
    Ev (fun k => spec_EventBytes.f k a0 a1 a2 a3 a4 a5 s l t) (if evRight a0 a1 a2 a3 a4 a5 s l t = true then sealed (evB a0 a1 a2 a3 a4 a5 s l t) else ⟨#[]⟩) := by
  unfold spec_EventBytes.f
  refine Ev.bind (spec_EventRight_ev a0 a1 a2 a3 a4 a5 s l t (by omega)) ?_
  by_cases c : evRight a0 a1 a2 a3 a4 a5 s l t = true
  · rw [if_pos c]; exact Ev.pos c (Ev.bind (l02Bytes_ev a0 a1 a2 a3 a4 a5 s l t h0 h1 h2 h3 h4 h5 hs hl hn ht) (Ev.now _))
  · rw [if_neg c]; exact Ev.neg c (Ev.now _)
theorem impl_EB_ev (a0 a1 a2 a3 a4 a5 : Int) (s : ByteArray) (l : List Int) (t : Int) (h0 : i64r a0) (h1 : i64r a1) (h2 : i64r a2) (h3 : i64r a3) (h4 : i64r a4) (h5 : i64r a5) (hs : s.size ≤ 1048576) (hl : ∀ x ∈ l, i64r x) (hn : l.length ≤ 1048576) (ht : i64r t) :
    Ev (fun k => impl_EventBytes.f k a0 a1 a2 a3 a4 a5 s l t) (if evRight a0 a1 a2 a3 a4 a5 s l t = true then sealed (evB a0 a1 a2 a3 a4 a5 s l t) else ⟨#[]⟩) := by
  unfold impl_EventBytes.f
  refine Ev.bind (impl_EventRight_ev a0 a1 a2 a3 a4 a5 s l t (by omega)) ?_
  by_cases c : evRight a0 a1 a2 a3 a4 a5 s l t = true
  · rw [if_pos c]
    refine Ev.pos c ?_
    simp only [Option.bind_some]
    have := eb_l0 [a0, a1, a2, a3, a4, a5] (by intro x hx; simp only [List.mem_cons, List.not_mem_nil, or_false] at hx; rcases hx with rfl | rfl | rfl | rfl | rfl | rfl <;> assumption) (by simp) a0 a1 a2 a3 a4 a5 s l t hs ht hl hn 6 0 [] (by simp) (by simp)
    rw [List.nil_append, List.drop_zero, evB_son] at this
    exact this
  · rw [if_neg c]; exact Ev.neg c (Ev.now _)


end Go.Proofs.Ytjijknajgamdaaa.Print
