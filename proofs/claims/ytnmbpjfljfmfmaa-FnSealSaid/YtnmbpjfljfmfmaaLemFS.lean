/- Lemmas: seals. -/
import Derived.Test.YtnmbpjfljfmfmaaWalkFnSeal
import Derived.Laws.Bits64
namespace Go.Proofs.Ytnmbpjfljfmfmaa.Print
open Go.RowKit Go.Proofs.YtnmbpjfljfmfmaaW.PrintWords Go.Proofs.YtnmbpjfljfmfmaaW.PrintLast Go.Proofs.YtnmbpjfljfmfmaaW.PrintMore
set_option linter.unusedVariables false
set_option linter.unusedSimpArgs false

/-! Rounds: small helpers. -/
theorem Ev.pos {α : Type} {c : Prop} [Decidable c] {f g : Nat → Option α} {r : α} (hc : c) (h : Ev f r) : Ev (fun n => if c then f n else g n) r := by
  simp only [hc, if_true]; exact h
theorem Ev.neg {α : Type} {c : Prop} [Decidable c] {f g : Nat → Option α} {r : α} (hc : ¬ c) (h : Ev g r) : Ev (fun n => if c then f n else g n) r := by
  simp only [hc, if_false]; exact h
theorem Ev.here {α : Type} {o : Option α} {r : α} (h : o = some r) : Ev (fun _ => o) r := ⟨0, fun _ _ => h⟩
theorem Ev.take {α β : Type} {o : Option α} {f : Nat → α → Option β} {a : α} {r : β} (h : o = some a) (k : Ev (fun n => f n a) r) : Ev (fun n => o.bind (f n)) r := by
  subst h; exact k
theorem Ev.one {α : Type} {g : Nat → Option α} {r : α} (h : ∀ k, g (k + 1) = some r) : Ev g r := Ev.step (f := fun _ => some r) h (Ev.now r)
theorem Ev.to {α : Type} {g : Nat → Option α} {r q : α} (e : r = q) (h : Ev g r) : Ev g q := e ▸ h

/-! A byte of a string. -/
theorem bt_at {s : ByteArray} {i : Nat} (h : i < s.size) : bt s (i : Int) = ((s.data.toList[i]'(by simpa using h)).toNat : Int) := by
  unfold bt
  rw [dif_pos (by simpa using h)]
  rfl

/-! Varints: what numBytes and the reference's PutNum come to. -/
theorem wfi64 {n : Int} (h : (Lit.int .i64 n).wf = true) : -9223372036854775808 ≤ n ∧ n ≤ 9223372036854775807 := by
  simpa [Lit.wf, IntKind.min, IntKind.max, IntKind.signed, IntKind.bits] using h

/-- The bytes of an unsigned number, seven bits each. -/
def enc (u : Nat) : List Int := if u < 128 then [(u : Int)] else ((u % 128 + 128 : Nat) : Int) :: enc (u / 128)
termination_by u
decreasing_by omega

theorem enc_lt {u : Nat} (h : u < 128) : enc u = [(u : Int)] := by rw [enc, if_pos h]
theorem enc_ge {u : Nat} (h : 128 ≤ u) : enc u = ((u % 128 + 128 : Nat) : Int) :: enc (u / 128) := by rw [enc, if_neg (by omega)]

theorem enc_length (d : Nat) : ∀ u : Nat, u < 128 ^ d → (enc u).length ≤ max d 1 := by
  induction d with
  | zero => intro u h; rw [enc_lt (by omega)]; simp
  | succ d ih =>
    intro u h
    by_cases hu : u < 128
    · rw [enc_lt hu]; simp only [List.length_cons, List.length_nil]; omega
    · rw [enc_ge (by omega)]
      have := ih (u / 128) (by rw [Nat.pow_succ] at h; omega)
      have h2 : d ≠ 0 := by rintro rfl; simp at h; omega
      simp only [List.length_cons]; omega

theorem bits_or128_fin : ∀ a : Fin 256, 128 ≤ a.val → Go.bits .or .u8 (a.val : Int) 128 = ((a.val % 128 + 128 : Nat) : Int) := by decide +kernel
theorem bits_or128_fin' : ∀ a : Fin 256, Go.bits .or .u8 (a.val : Int) 128 = ((a.val % 128 + 128 : Nat) : Int) := by decide +kernel
theorem bits_or128 (u : Nat) : Go.bits .or .u8 ((u : Int) % 256) 128 = ((u % 128 + 128 : Nat) : Int) := by
  have h := bits_or128_fin' ⟨u % 256, by omega⟩
  have e : ((u : Int) % 256) = ((u % 256 : Nat) : Int) := by omega
  rw [e]
  refine h.trans ?_
  simp only []
  omega

theorem bits_xor_ones (a : Nat) (h : a < 18446744073709551616) : Go.bits .xor .u64 (a : Int) 18446744073709551615 = 18446744073709551615 - (a : Int) := by
  have e : BitVec.ofInt 64 18446744073709551615 = BitVec.allOnes 64 := by decide
  have h1 : (BitVec.ofInt 64 (a : Int)).toNat = a := by
    rw [BitVec.ofInt_natCast, BitVec.toNat_ofNat]; exact Nat.mod_eq_of_lt (by omega)
  show IntKind.u64.wrap ((BitVec.ofInt 64 (a : Int) ^^^ BitVec.ofInt 64 18446744073709551615).toNat : Int) = _
  rw [e, BitVec.xor_allOnes, BitVec.toNat_not, h1, IntKind.wrap_u64]
  omega
theorem bits_xor_zero (a : Nat) (h : a < 18446744073709551616) : Go.bits .xor .u64 (a : Int) 0 = (a : Int) := by
  have := bits_xor_u64_nat a 0 h (by omega)
  simpa using this

/-- A number folded: the sign in the lowest bit. -/
def zig (n : Int) : Nat := if n < 0 then (-2 * n - 1).toNat else (2 * n).toNat
theorem zig_lt {n : Int} (h0 : -9223372036854775808 ≤ n) (h1 : n ≤ 9223372036854775807) : zig n < 18446744073709551616 := by unfold zig; split <;> omega

theorem impl_zig {n : Int} (h0 : -9223372036854775808 ≤ n) (h1 : n ≤ 9223372036854775807) :
    Go.bits .xor .u64 (IntKind.u64.wrap ((IntKind.u64.wrap n) * 2)) (IntKind.u64.wrap (n / 9223372036854775808)) = (zig n : Int) := by
  unfold zig
  by_cases h : n < 0
  · rw [if_pos h]
    have e1 : IntKind.u64.wrap ((IntKind.u64.wrap n) * 2) = ((2 * n + 18446744073709551616).toNat : Int) := by
      simp only [IntKind.wrap_u64]; omega
    have e2 : IntKind.u64.wrap (n / 9223372036854775808) = 18446744073709551615 := by
      simp only [IntKind.wrap_u64]; omega
    rw [e1, e2, bits_xor_ones _ (by omega)]
    omega
  · rw [if_neg h]
    have e1 : IntKind.u64.wrap ((IntKind.u64.wrap n) * 2) = ((2 * n).toNat : Int) := by
      simp only [IntKind.wrap_u64]; omega
    have e2 : IntKind.u64.wrap (n / 9223372036854775808) = 0 := by
      simp only [IntKind.wrap_u64]; omega
    rw [e1, e2, bits_xor_zero _ (by omega)]

theorem size_strOfNums (l : List Int) : (strOfNums l).size = l.length := by simp [strOfNums, ByteArray.size]
theorem enc_zig_length {n : Int} (h0 : -9223372036854775808 ≤ n) (h1 : n ≤ 9223372036854775807) : (enc (zig n)).length ≤ 10 := by
  have := enc_length 10 (zig n) (by have := zig_lt h0 h1; omega)
  omega

/-! PutText on both sides. -/
def putText (t : ByteArray) : ByteArray := if t.size > 8000 then ⟨#[]⟩ else strOfNums (enc (zig t.size)) ++ t
/-! Ranges. -/
theorem in_eq (a b c : Int) : impl_in.f a b c = some (decide (b ≤ a ∧ a ≤ c)) := by
  unfold impl_in.f; split <;> simp [*]
/-! The checksum, by numbers. -/
theorem bits_xor32 (a b : Nat) (ha : a < 4294967296) (hb : b < 4294967296) : Go.bits .xor .u32 (a : Int) (b : Int) = ((a ^^^ b : Nat) : Int) := by
  have hx : a ^^^ b < 2 ^ 32 := Nat.xor_lt_two_pow (by omega) (by omega)
  have h1 : (BitVec.ofInt 32 (a : Int)).toNat = a := by
    rw [BitVec.ofInt_natCast, BitVec.toNat_ofNat]; exact Nat.mod_eq_of_lt (by omega)
  have h2 : (BitVec.ofInt 32 (b : Int)).toNat = b := by
    rw [BitVec.ofInt_natCast, BitVec.toNat_ofNat]; exact Nat.mod_eq_of_lt (by omega)
  show IntKind.u32.wrap ((BitVec.ofInt 32 (a : Int) ^^^ BitVec.ofInt 32 (b : Int)).toNat : Int) = _
  rw [BitVec.toNat_xor, h1, h2, IntKind.wrap_u32]
  omega
theorem bits_and32_1 (a : Nat) (ha : a < 4294967296) : Go.bits .and .u32 (a : Int) 1 = ((a % 2 : Nat) : Int) := by
  have := bits_mask .u32 32 (by decide) (fun n h0 h1 => by rw [IntKind.wrap_u32]; omega) 1 (by decide) (a : Int) (by omega) (by omega)
  simp only [Int.pow_succ, Int.pow_zero] at this
  simpa using this
theorem xor_lt32 {a b : Nat} (ha : a < 4294967296) (hb : b < 4294967296) : a ^^^ b < 4294967296 := by
  have : a ^^^ b < 2 ^ 32 := Nat.xor_lt_two_pow (by omega) (by omega)
  omega
/-- One bit's step, eight of them, a byte's step, a list's. -/
def tstep (r : Nat) : Nat := if r % 2 = 1 then (r / 2) ^^^ 3988292384 else r / 2
def tn : Nat → Nat → Nat
  | 0, r => r
  | n + 1, r => tn n (tstep r)
theorem tstep_lt {r : Nat} (h : r < 4294967296) : tstep r < 4294967296 := by
  unfold tstep; split
  · exact xor_lt32 (by omega) (by omega)
  · omega
theorem tn_lt (n : Nat) : ∀ {r : Nat}, r < 4294967296 → tn n r < 4294967296 := by
  induction n with
  | zero => intro r h; exact h
  | succ n ih => intro r h; exact ih (tstep_lt h)
def upd (r : Nat) (c : UInt8) : Nat := tn 8 (r ^^^ c.toNat)
theorem upd_lt {r : Nat} (c : UInt8) (h : r < 4294967296) : upd r c < 4294967296 :=
  tn_lt 8 (xor_lt32 h (by have := c.toNat_lt; omega))
def crcL (r : Nat) (l : List UInt8) : Nat := l.foldl upd r
theorem crcL_lt (l : List UInt8) : ∀ {r : Nat}, r < 4294967296 → crcL r l < 4294967296 := by
  induction l with
  | nil => intro r h; exact h
  | cons c l ih => intro r h; exact ih (upd_lt c h)
theorem crcL_append (r : Nat) (l m : List UInt8) : crcL r (l ++ m) = crcL (crcL r l) m := List.foldl_append ..
def crcOf (crc : Nat) (s : ByteArray) : Nat := crcL (crc ^^^ 4294967295) s.data.toList ^^^ 4294967295
theorem crcOf_lt {crc : Nat} (s : ByteArray) (h : crc < 4294967296) : crcOf crc s < 4294967296 := xor_lt32 (crcL_lt _ (xor_lt32 h (by omega))) (by omega)

theorem drop_at {s : ByteArray} {i : Nat} (h : i < s.size) : s.data.toList.drop i = (s.data.toList[i]'(by simpa using h)) :: s.data.toList.drop (i + 1) :=
  List.drop_eq_getElem_cons (by simpa using h)

theorem spec_l1 (s : ByteArray) (i : Int) (res : Int) (d : Nat) : ∀ r : Nat, r < 4294967296 → d ≤ 8 →
    Ev (fun k => spec_l01Crc.l0 k s ((tn d r : Nat) : Int) (wrap64 (i + 1))) res → Ev (fun k => spec_l01Crc.l1 k s (r : Int) i ((8 - d : Nat) : Int)) res := by
  induction d with
  | zero =>
    intro r hr _ h
    refine Ev.step (f := fun k => spec_l01Crc.l0 k s ((tn 0 r : Nat) : Int) (wrap64 (i + 1))) (fun k => ?_) h
    simp only [spec_l01Crc.l1]
    rw [if_neg (by omega)]; rfl
  | succ d ih =>
    intro r hr hd h
    have hb : (((8 - (d + 1) : Nat) : Int)) < 8 := by omega
    have hw : wrap64 (((8 - (d + 1) : Nat) : Int) + 1) = ((8 - d : Nat) : Int) := by unfold wrap64; omega
    have ht : tn (d + 1) r = tn d (tstep r) := rfl
    rw [ht] at h
    refine Ev.step (f := fun k => spec_l01Crc.l1 k s ((tstep r : Nat) : Int) i ((8 - d : Nat) : Int)) (fun k => ?_) (ih _ (tstep_lt hr) (by omega) h)
    simp only [spec_l01Crc.l1]
    rw [if_pos hb, hw, bits_and32_1 r hr]
    unfold tstep
    by_cases c : r % 2 = 1
    · rw [if_pos (by omega), if_pos c]
      have e : ((r : Int) / 2) = ((r / 2 : Nat) : Int) := by omega
      rw [e]
      have := bits_xor32 (r / 2) 3988292384 (by omega) (by omega)
      rw [show (3988292384 : Int) = ((3988292384 : Nat) : Int) from rfl, this]
    · rw [if_neg (by omega), if_neg c]
      have e : ((r : Int) / 2) = ((r / 2 : Nat) : Int) := by omega
      rw [e]

theorem spec_l0 (s : ByteArray) (hs : s.size ≤ 140737488351232) (d : Nat) : ∀ (i r : Nat), i + d = s.size → r < 4294967296 →
    Ev (fun k => spec_l01Crc.l0 k s (r : Int) (i : Int)) ((crcL r (s.data.toList.drop i) ^^^ 4294967295 : Nat) : Int) := by
  induction d with
  | zero =>
    intro i r hi hr
    refine Ev.one (fun k => ?_)
    simp only [spec_l01Crc.l0]
    rw [if_neg (by omega), List.drop_of_length_le (by simp; omega)]
    have := bits_xor32 r 4294967295 hr (by omega)
    rw [show (4294967295 : Int) = ((4294967295 : Nat) : Int) from rfl, this]
    have h2 := xor_lt32 hr (show 4294967295 < 4294967296 by omega)
    congr 1
    show wrap64 _ = ((r ^^^ 4294967295 : Nat) : Int)
    unfold wrap64; omega
  | succ d ih =>
    intro i r hi hr
    have hlt : i < s.size := by omega
    refine Ev.step (f := fun k => spec_l01Crc.l1 k s ((r ^^^ (s.data.toList[i]'(by simpa using hlt)).toNat : Nat) : Int) i ((8 - 8 : Nat) : Int)) (fun k => ?_) ?_
    · simp only [spec_l01Crc.l0]
      rw [if_pos (by omega), if_pos (by omega), bt_at hlt]
      have hc := (s.data.toList[i]'(by simpa using hlt)).toNat_lt
      have e : (((s.data.toList[i]'(by simpa using hlt)).toNat : Int)) % 4294967296 = (((s.data.toList[i]'(by simpa using hlt)).toNat : Nat) : Int) := by omega
      rw [e, bits_xor32 _ _ hr (by omega)]
      rfl
    · have hc := (s.data.toList[i]'(by simpa using hlt)).toNat_lt
      refine spec_l1 s i _ 8 _ (xor_lt32 hr (by omega)) (by omega) ?_
      have hw : wrap64 ((i : Int) + 1) = ((i + 1 : Nat) : Int) := by unfold wrap64; omega
      rw [hw, drop_at hlt]
      exact ih (i + 1) _ (by omega) (upd_lt _ hr)

theorem spec_crc_ev (crc : Nat) (hc : crc < 4294967296) (s : ByteArray) (hs : s.size ≤ 140737488351232) : Ev (fun k => spec_l01Crc.f k (crc : Int) s) ((crcOf crc s : Nat) : Int) := by
  unfold spec_l01Crc.f crcOf
  have e : ((crc : Int) % 4294967296) = (crc : Int) := by omega
  rw [e]
  have := bits_xor32 crc 4294967295 hc (by omega)
  rw [show (4294967295 : Int) = ((4294967295 : Nat) : Int) from rfl, this]
  simpa using spec_l0 s hs s.size 0 (crc ^^^ 4294967295) (by omega) (xor_lt32 hc (by omega))

theorem impl_l1 (s : ByteArray) (i : Nat) (n : Int) (res : Int) (d : Nat) : ∀ r : Nat, r < 4294967296 → d ≤ 8 →
    Ev (fun k => impl_crcFrom.l0 k s ((tn d r : Nat) : Int) n (wrap64 (i + 1))) res → Ev (fun k => impl_crcFrom.l1 k s (r : Int) n i ((8 - d : Nat) : Int)) res := by
  induction d with
  | zero =>
    intro r hr _ h
    refine Ev.step (f := fun k => impl_crcFrom.l0 k s ((tn 0 r : Nat) : Int) n (wrap64 (i + 1))) (fun k => ?_) h
    simp only [impl_crcFrom.l1]
    rw [if_neg (by omega)]; rfl
  | succ d ih =>
    intro r hr hd h
    have hb : (((8 - (d + 1) : Nat) : Int)) < 8 := by omega
    have hw : wrap64 (((8 - (d + 1) : Nat) : Int) + 1) = ((8 - d : Nat) : Int) := by unfold wrap64; omega
    have ht : tn (d + 1) r = tn d (tstep r) := rfl
    rw [ht] at h
    refine Ev.step (f := fun k => impl_crcFrom.l1 k s ((tstep r : Nat) : Int) n i ((8 - d : Nat) : Int)) (fun k => ?_) (ih _ (tstep_lt hr) (by omega) h)
    simp only [impl_crcFrom.l1]
    rw [if_pos hb, hw, bits_and32_1 r hr]
    unfold tstep
    by_cases c : r % 2 = 1
    · rw [if_pos (by omega), if_pos c]
      have e : ((r : Int) / 2) = ((r / 2 : Nat) : Int) := by omega
      rw [e]
      have := bits_xor32 (r / 2) 3988292384 (by omega) (by omega)
      rw [show (3988292384 : Int) = ((3988292384 : Nat) : Int) from rfl, this]
    · rw [if_neg (by omega), if_neg c]
      have e : ((r : Int) / 2) = ((r / 2 : Nat) : Int) := by omega
      rw [e]

theorem impl_l0 (s : ByteArray) (hs : s.size ≤ 140737488351232) (d : Nat) : ∀ (i r : Nat), i + d = s.size → r < 4294967296 →
    Ev (fun k => impl_crcFrom.l0 k s (r : Int) (s.size : Int) (i : Int)) ((crcL r (s.data.toList.drop i) ^^^ 4294967295 : Nat) : Int) := by
  induction d with
  | zero =>
    intro i r hi hr
    refine Ev.one (fun k => ?_)
    simp only [impl_crcFrom.l0]
    rw [if_neg (by omega), List.drop_of_length_le (by simp; omega)]
    have := bits_xor32 4294967295 r (by omega) hr
    rw [show (4294967295 : Int) = ((4294967295 : Nat) : Int) from rfl, this, Nat.xor_comm]
    rfl
  | succ d ih =>
    intro i r hi hr
    have hlt : i < s.size := by omega
    refine Ev.step (f := fun k => impl_crcFrom.l1 k s ((r ^^^ (s.data.toList[i]'(by simpa using hlt)).toNat : Nat) : Int) (s.size : Int) i ((8 - 8 : Nat) : Int)) (fun k => ?_) ?_
    · simp only [impl_crcFrom.l0]
      rw [if_pos (by omega), if_pos (by omega), if_pos (by omega), bt_at hlt]
      have hc := (s.data.toList[i]'(by simpa using hlt)).toNat_lt
      have e : (((s.data.toList[i]'(by simpa using hlt)).toNat : Int)) % 4294967296 = (((s.data.toList[i]'(by simpa using hlt)).toNat : Nat) : Int) := by omega
      rw [e, bits_xor32 _ _ hr (by omega)]
      rfl
    · have hc := (s.data.toList[i]'(by simpa using hlt)).toNat_lt
      refine impl_l1 s i _ _ 8 _ (xor_lt32 hr (by omega)) (by omega) ?_
      have hw : wrap64 ((i : Int) + 1) = ((i + 1 : Nat) : Int) := by unfold wrap64; omega
      rw [hw, drop_at hlt]
      exact ih (i + 1) _ (by omega) (upd_lt _ hr)

theorem impl_crc_ev (crc : Nat) (hc : crc < 4294967296) (s : ByteArray) (hs : s.size ≤ 140737488351232) : Ev (fun k => impl_crcFrom.f k (crc : Int) s) ((crcOf crc s : Nat) : Int) := by
  unfold impl_crcFrom.f crcOf
  have := bits_xor32 4294967295 crc (by omega) hc
  rw [show (4294967295 : Int) = ((4294967295 : Nat) : Int) from rfl, this, Nat.xor_comm]
  simpa using impl_l0 s hs s.size 0 (crc ^^^ 4294967295) (by omega) (xor_lt32 hc (by omega))

/-! Crc, CrcMore, Seal and Unseal on both sides. -/
def crcI (s : ByteArray) : Int := if s.size > 8000 then 0 else (crcOf 0 s : Nat)
theorem spec_Crc_ev (s : ByteArray) (hs : s.size ≤ 140737488351232) : Ev (fun k => spec_Crc.f k s) (crcI s) := by
  unfold spec_Crc.f crcI
  by_cases c : s.size > 8000
  · rw [if_pos c]; exact Ev.pos (by omega) (Ev.now _)
  · rw [if_neg c]; exact Ev.neg (by omega) (Ev.bind (spec_crc_ev 0 (by omega) s hs) (Ev.now _))
theorem impl_Crc_ev (s : ByteArray) (hs : s.size ≤ 140737488351232) : Ev (fun k => impl_Crc.f k s) (crcI s) := by
  unfold impl_Crc.f crcI
  by_cases c : s.size > 8000
  · rw [if_pos c]; exact Ev.pos (by omega) (Ev.now _)
  · rw [if_neg c]; refine Ev.neg (by omega) (Ev.bind (impl_crc_ev 0 (by omega) s hs) ?_)
    have := crcOf_lt s (show 0 < 4294967296 by omega)
    refine Ev.here ?_
    congr 1; unfold wrap64; omega
def crcMoreI (crc : Int) (s : ByteArray) : Int := if s.size > 8000 ∨ crc < 0 ∨ crc > 4294967295 then 0 else (crcOf crc.toNat s : Nat)
theorem spec_CrcMore_ev (crc : Int) (s : ByteArray) (hs : s.size ≤ 140737488351232) : Ev (fun k => spec_CrcMore.f k crc s) (crcMoreI crc s) := by
  unfold spec_CrcMore.f crcMoreI
  by_cases c : s.size > 8000
  · rw [if_pos (by omega)]; exact Ev.pos (by omega) (Ev.now _)
  · refine Ev.neg (by omega) ?_
    by_cases c1 : crc < 0
    · rw [if_pos (by omega)]; exact Ev.pos (by omega) (Ev.now _)
    · refine Ev.neg (by omega) ?_
      by_cases c2 : crc > 4294967295
      · rw [if_pos (by omega)]; exact Ev.pos (by omega) (Ev.now _)
      · rw [if_neg (by omega)]; refine Ev.neg (by omega) ?_
        have := spec_crc_ev crc.toNat (by omega) s hs
        rw [Int.toNat_of_nonneg (by omega)] at this
        exact Ev.bind this (Ev.now _)
theorem impl_CrcMore_ev (crc : Int) (s : ByteArray) (hs : s.size ≤ 140737488351232) : Ev (fun k => impl_CrcMore.f k crc s) (crcMoreI crc s) := by
  unfold impl_CrcMore.f crcMoreI
  by_cases c : s.size > 8000
  · rw [if_pos (by omega)]; exact Ev.pos (by omega) (Ev.now _)
  · refine Ev.neg (by omega) (Ev.take (in_eq _ _ _) ?_)
    by_cases c1 : 0 ≤ crc ∧ crc ≤ 4294967295
    · rw [if_neg (by omega)]; refine Ev.pos (by simpa using c1) ?_
      have := impl_crc_ev crc.toNat (by omega) s hs
      rw [Int.toNat_of_nonneg (by omega)] at this
      rw [show crc % 4294967296 = crc by omega]
      refine Ev.bind this ?_
      have := crcOf_lt s (show crc.toNat < 4294967296 by omega)
      refine Ev.here ?_
      congr 1; unfold wrap64; omega
    · rw [if_pos (by omega)]; exact Ev.neg (by simpa using c1) (Ev.now _)

def four (n : Nat) : ByteArray := strOfNums [((n % 256 : Nat) : Int), ((n / 256 % 256 : Nat) : Int), ((n / 65536 % 256 : Nat) : Int), ((n / 16777216 % 256 : Nat) : Int)]
theorem four_size (n : Nat) : (four n).size = 4 := rfl
theorem spec_four (n : Nat) : spec_l01Four.f (n : Int) = some (four n) := by
  unfold spec_l01Four.f four; simp
def sealed (s : ByteArray) : ByteArray := if s.size > 7996 then ⟨#[]⟩ else s ++ four (crcOf 0 s)
theorem spec_Seal_ev (s : ByteArray) (hs : s.size ≤ 140737488351232) : Ev (fun k => spec_Seal.f k s) (sealed s) := by
  unfold spec_Seal.f sealed
  by_cases c : s.size > 7996
  · rw [if_pos c]; exact Ev.pos (by omega) (Ev.now _)
  · rw [if_neg c]
    refine Ev.neg (by omega) (Ev.bind (spec_crc_ev 0 (by omega) s hs) (Ev.take (spec_four _) (Ev.pos ?_ (Ev.now _))))
    rw [four_size]; omega
theorem impl_Seal_ev (s : ByteArray) (hs : s.size ≤ 140737488351232) : Ev (fun k => impl_Seal.f k s) (sealed s) := by
  unfold impl_Seal.f sealed
  by_cases c : s.size > 7996
  · rw [if_pos c]; exact Ev.pos (by omega) (Ev.now _)
  · rw [if_neg c]
    refine Ev.neg (by omega) (Ev.bind (impl_crc_ev 0 (by omega) s hs) (Ev.take (a := [((crcOf 0 s % 256 : Nat) : Int), ((crcOf 0 s / 256 % 256 : Nat) : Int), ((crcOf 0 s / 65536 % 256 : Nat) : Int), ((crcOf 0 s / 16777216 % 256 : Nat) : Int)]) ?_ (Ev.pos ?_ (Ev.now _))))
    · simp
    · rw [size_strOfNums]; simp; omega

theorem toList_inj {a b : ByteArray} (h : a.toList = b.toList) : a = b := by
  rw [ByteArray.toList_eq, ByteArray.toList_eq] at h
  cases a; cases b; simp at h; rw [h]
theorem toList_iff {a b : ByteArray} : a.toList = b.toList ↔ a = b := ⟨toList_inj, fun h => by rw [h]⟩
theorem append_extract (s : ByteArray) (i : Nat) (h : i ≤ s.size) : s.extract 0 i ++ s.extract i s.size = s := by
  rw [ByteArray.extract_append_extract]; simp
theorem size_extract (s : ByteArray) (i j : Nat) (h : j ≤ s.size) : (s.extract i j).size = j - i := by
  rw [ByteArray.size_extract]; omega

def unsealed (s : ByteArray) : ByteArray × Int × Int :=
  if s.size > 8000 then (⟨#[]⟩, 0, 2) else if s.size < 4 then (⟨#[]⟩, 0, 4) else
  if sealed (s.extract 0 (s.size - 4)) = s then (s.extract 0 (s.size - 4), 0, 0) else (⟨#[]⟩, 0, 5)
theorem impl_Unseal_ev (s : ByteArray) (hs : s.size ≤ 140737488351232) : Ev (fun k => impl_Unseal.f k s) (unsealed s) := by
  unfold impl_Unseal.f unsealed
  by_cases c : s.size > 8000
  · rw [if_pos c]; exact Ev.pos (by omega) (Ev.now _)
  · rw [if_neg c]
    have hw : wrap64 ((s.size : Int) - 4) = (s.size : Int) - 4 := by unfold wrap64; omega
    rw [hw]
    refine Ev.neg (by omega) ?_
    by_cases c4 : s.size < 4
    · rw [if_pos c4]; exact Ev.pos (by omega) (Ev.now _)
    · rw [if_neg c4]
      refine Ev.neg (by omega) (Ev.pos (by omega) (Ev.pos (by omega) ?_))
      rw [show ((s.size : Int) - 4).toNat = s.size - 4 by omega]
      refine Ev.bind (impl_Seal_ev _ (by rw [size_extract _ _ _ (by omega)]; omega)) ?_
      by_cases e : sealed (s.extract 0 (s.size - 4)) = s
      · rw [if_pos e]; exact Ev.pos (by rw [e]) (Ev.now _)
      · rw [if_neg e]; exact Ev.neg (by rw [toList_iff]; exact e) (Ev.now _)
/-! A byte turned: the seal does not hold; a CRC goes on from text to text. -/
theorem xor_cancel_r {a b p : Nat} (h : a ^^^ p = b ^^^ p) : a = b := by
  have := congrArg (· ^^^ p) h
  simpa [Nat.xor_assoc] using this
theorem xor_cancel_l {a b p : Nat} (h : p ^^^ a = p ^^^ b) : a = b := by
  rw [Nat.xor_comm p a, Nat.xor_comm p b] at h
  exact xor_cancel_r h
theorem top_low {a : Nat} (h : a < 2147483648) : a.testBit 31 = false := Nat.testBit_lt_two_pow (by omega)
theorem tstep_top {a b : Nat} (ha : a < 4294967296) (hb : b < 4294967296) (h : (a / 2) ^^^ 3988292384 = b / 2) : False := by
  have h1 := congrArg (fun n => Nat.testBit n 31) h
  simp only [Nat.testBit_xor] at h1
  rw [top_low (show a / 2 < 2147483648 by omega), top_low (show b / 2 < 2147483648 by omega), show Nat.testBit 3988292384 31 = true by decide] at h1
  simp at h1
theorem tstep_inj {a b : Nat} (ha : a < 4294967296) (hb : b < 4294967296) (h : tstep a = tstep b) : a = b := by
  unfold tstep at h
  by_cases c : a % 2 = 1
  · rw [if_pos c] at h
    by_cases d : b % 2 = 1
    · rw [if_pos d] at h
      have := xor_cancel_r h
      omega
    · rw [if_neg d] at h
      exact (tstep_top ha hb h).elim
  · rw [if_neg c] at h
    by_cases d : b % 2 = 1
    · rw [if_pos d] at h
      exact (tstep_top hb ha h.symm).elim
    · rw [if_neg d] at h
      omega
theorem tn_inj (n : Nat) : ∀ {a b : Nat}, a < 4294967296 → b < 4294967296 → tn n a = tn n b → a = b := by
  induction n with
  | zero => intro a b _ _ h; exact h
  | succ n ih => intro a b ha hb h; exact tstep_inj ha hb (ih (tstep_lt ha) (tstep_lt hb) h)
theorem byte_lt32 (c : UInt8) : c.toNat < 4294967296 := by have := c.toNat_lt; omega
theorem upd_inj_r {r q : Nat} {c : UInt8} (hr : r < 4294967296) (hq : q < 4294967296) (h : upd r c = upd q c) : r = q := xor_cancel_r (tn_inj 8 (xor_lt32 hr (byte_lt32 c)) (xor_lt32 hq (byte_lt32 c)) h)
theorem upd_inj_c {r : Nat} {c d : UInt8} (hr : r < 4294967296) (h : upd r c = upd r d) : c = d := UInt8.toNat_inj.1 (xor_cancel_l (tn_inj 8 (xor_lt32 hr (byte_lt32 c)) (xor_lt32 hr (byte_lt32 d)) h))
theorem crcL_inj (l : List UInt8) : ∀ {r q : Nat}, r < 4294967296 → q < 4294967296 → crcL r l = crcL q l → r = q := by
  induction l with
  | nil => intro r q _ _ h; exact h
  | cons c l ih => intro r q hr hq h; exact upd_inj_r hr hq (ih (upd_lt c hr) (upd_lt c hq) h)
theorem crcL_set (l : List UInt8) : ∀ (i : Nat) (hi : i < l.length) (d : UInt8) {r : Nat}, r < 4294967296 → crcL r (l.set i d) = crcL r l → d = l[i] := by
  induction l with
  | nil => intro i hi; simp at hi
  | cons c l ih =>
    intro i hi d r hr h
    cases i with
    | zero =>
      have h' : crcL (upd r d) l = crcL (upd r c) l := h
      exact upd_inj_c hr (crcL_inj l (upd_lt d hr) (upd_lt c hr) h')
    | succ i =>
      have h' : crcL (upd r c) (l.set i d) = crcL (upd r c) l := h
      have := ih i (by simpa using hi) d (upd_lt c hr) h'
      simpa using this
theorem crcOf_eq {s t : ByteArray} (h : crcOf 0 s = crcOf 0 t) : crcL (0 ^^^ 4294967295) s.data.toList = crcL (0 ^^^ 4294967295) t.data.toList := xor_cancel_r h
theorem crcOf_more (t u : ByteArray) : crcOf (crcOf 0 t) u = crcOf 0 (t ++ u) := by
  unfold crcOf
  rw [show (t ++ u).data.toList = t.data.toList ++ u.data.toList from by simp, crcL_append, Nat.xor_assoc (crcL _ t.data.toList), Nat.xor_self, Nat.xor_zero]
theorem ofNat_mod {a b : Nat} (h : UInt8.ofNat (((a % 256 : Nat) : Int)).toNat = UInt8.ofNat (((b % 256 : Nat) : Int)).toNat) : a % 256 = b % 256 := by
  have h2 := congrArg UInt8.toNat h
  rw [Int.toNat_natCast, Int.toNat_natCast, UInt8.toNat_ofNat', UInt8.toNat_ofNat'] at h2
  omega
theorem four_data (n : Nat) : (four n).data.toList = [UInt8.ofNat ((n % 256 : Nat) : Int).toNat, UInt8.ofNat ((n / 256 % 256 : Nat) : Int).toNat, UInt8.ofNat ((n / 65536 % 256 : Nat) : Int).toNat, UInt8.ofNat ((n / 16777216 % 256 : Nat) : Int).toNat] := rfl
theorem four_inj {n m : Nat} (hn : n < 4294967296) (hm : m < 4294967296) (h : (four n).data.toList = (four m).data.toList) : n = m := by
  rw [four_data, four_data] at h
  simp only [List.cons.injEq, and_true] at h
  obtain ⟨h1, h2, h3, h4⟩ := h
  replace h1 := ofNat_mod h1
  replace h2 := ofNat_mod h2
  replace h3 := ofNat_mod h3
  replace h4 := ofNat_mod h4
  omega
theorem ba_ext {a b : ByteArray} (h : a.data.toList = b.data.toList) : a = b := by
  cases a; cases b; simp at h; rw [h]
theorem bits_xor8 (a b : Nat) (ha : a < 256) (hb : b < 256) : Go.bits .xor .u8 (a : Int) (b : Int) = ((a ^^^ b : Nat) : Int) := by
  have hx : a ^^^ b < 2 ^ 8 := Nat.xor_lt_two_pow (by omega) (by omega)
  have h1 : (BitVec.ofInt 8 (a : Int)).toNat = a := by
    rw [BitVec.ofInt_natCast, BitVec.toNat_ofNat]; exact Nat.mod_eq_of_lt (by omega)
  have h2 : (BitVec.ofInt 8 (b : Int)).toNat = b := by
    rw [BitVec.ofInt_natCast, BitVec.toNat_ofNat]; exact Nat.mod_eq_of_lt (by omega)
  show IntKind.u8.wrap ((BitVec.ofInt 8 (a : Int) ^^^ BitVec.ofInt 8 (b : Int)).toNat : Int) = _
  rw [BitVec.toNat_xor, h1, h2, IntKind.wrap_u8]
  omega
theorem turned_data (s : ByteArray) (i : Nat) (hi : i < s.data.toList.length) (q : Int) (h0 : 0 ≤ q) (h1 : q < 255) : ∃ y : UInt8, (turned s i q).data.toList = s.data.toList.set i y ∧ y ≠ s.data.toList[i] := by
  have hc := (s.data.toList[i]).toNat_lt
  have hg : (bytesOf s).getD i 0 = ((s.data.toList[i]).toNat : Int) := by
    simp [bytesOf, List.getD_eq_getElem?_getD, List.getElem?_eq_getElem hi]
  have hw : (wrap64 (1 + q)) % 256 = (((1 + q).toNat : Nat) : Int) := by unfold wrap64; omega
  have hx : (s.data.toList[i]).toNat ^^^ (1 + q).toNat < 256 := by
    have : (s.data.toList[i]).toNat ^^^ (1 + q).toNat < 2 ^ 8 := Nat.xor_lt_two_pow (by omega) (by omega)
    omega
  refine ⟨UInt8.ofNat ((s.data.toList[i]).toNat ^^^ (1 + q).toNat), ?_, ?_⟩
  · unfold turned
    rw [hg, hw, bits_xor8 _ _ (by omega) (by omega)]
    show ((bytesOf s).set i _).map (fun n => UInt8.ofNat n.toNat) = _
    rw [List.map_set, Int.toNat_natCast]
    congr 1
    simp only [bytesOf, List.map_map]
    conv => rhs; rw [← List.map_id s.data.toList]
    apply List.map_congr_left
    intro x _
    show UInt8.ofNat ((x.toNat : Int)).toNat = x
    rw [Int.toNat_natCast]; simp
  · intro h
    have h2 := congrArg UInt8.toNat h
    rw [UInt8.toNat_ofNat', Nat.mod_eq_of_lt (show _ < 2 ^ 8 by omega)] at h2
    have h3 : (s.data.toList[i]).toNat ^^^ (1 + q).toNat = (s.data.toList[i]).toNat ^^^ 0 := by rw [h2, Nat.xor_zero]
    have := xor_cancel_l h3
    omega
theorem sealed_small {t : ByteArray} (h : ¬ t.size > 7996) : sealed t = t ++ four (crcOf 0 t) := by unfold sealed; rw [if_neg h]
/-- Any one byte turned: the seal is refused. -/
theorem turned_refused (t : ByteArray) (ht : ¬ t.size > 7996) (i : Nat) (hi : i < (sealed t).size) (q : Int) (h0 : 0 ≤ q) (h1 : q < 255) : unsealed (turned (sealed t) i q) = (⟨#[]⟩, 0, 5) := by
  rw [sealed_small ht] at hi ⊢
  have hi' : i < (t ++ four (crcOf 0 t)).data.toList.length := by rw [data_length]; exact hi
  obtain ⟨y, hd, hy⟩ := turned_data (t ++ four (crcOf 0 t)) i hi' q h0 h1
  generalize turned (t ++ four (crcOf 0 t)) i q = s' at hd ⊢
  have hsz : s'.size = t.size + 4 := by
    have := congrArg List.length hd
    rw [List.length_set, data_length, data_length, ByteArray.size_append, four_size] at this
    exact this
  have hD : (t ++ four (crcOf 0 t)).data.toList = t.data.toList ++ (four (crcOf 0 t)).data.toList := by simp
  have hT : t.data.toList.length = t.size := data_length t
  unfold unsealed
  rw [if_neg (by omega), if_neg (by omega), if_neg ?_]
  intro h
  generalize ht' : s'.extract 0 (s'.size - 4) = t' at h
  have hs' : t'.size = t.size := by rw [← ht', ByteArray.size_extract]; omega
  rw [sealed_small (by omega)] at h
  have hl : (t' ++ four (crcOf 0 t')).data.toList = s'.data.toList := congrArg (fun x => x.data.toList) h
  rw [hd] at hl
  rw [show (t' ++ four (crcOf 0 t')).data.toList = t'.data.toList ++ (four (crcOf 0 t')).data.toList by simp] at hl
  simp only [hD] at hl hy
  have hT' : t'.data.toList.length = t.data.toList.length := by rw [data_length, data_length]; exact hs'
  by_cases c : i < t.data.toList.length
  · rw [List.set_append_left _ _ c] at hl
    obtain ⟨e1, e2⟩ := List.append_inj hl (by rw [List.length_set]; exact hT')
    have e3 := four_inj (crcOf_lt t' (by omega)) (crcOf_lt t (by omega)) e2
    have e4 := crcOf_eq e3
    rw [e1] at e4
    have e5 := crcL_set t.data.toList i c y (xor_lt32 (by omega) (by omega)) e4
    rw [List.getElem_append_left c] at hy
    exact hy e5
  · rw [List.set_append_right _ _ (by omega)] at hl
    obtain ⟨e1, e2⟩ := List.append_inj hl hT'
    have e3 : t' = t := ba_ext e1
    rw [e3] at e2
    rw [List.getElem_append_right (by omega)] at hy
    have hb : i - t.data.toList.length < (four (crcOf 0 t)).data.toList.length := by
      rw [data_length, data_length, four_size]
      rw [ByteArray.size_append, four_size] at hi
      omega
    have e4 : ((four (crcOf 0 t)).data.toList.set (i - t.data.toList.length) y)[i - t.data.toList.length]'(by rw [List.length_set]; exact hb) = y := List.getElem_set_self ..
    apply hy
    rw [← e4]
    simp only [← e2]
theorem unsealed_sealed (t : ByteArray) (ht : ¬ t.size > 7996) : unsealed (sealed t) = (t, 0, 0) := by
  have e : (sealed t).size = t.size + 4 := by rw [sealed_small ht, ByteArray.size_append, four_size]
  have e2 : (sealed t).extract 0 ((sealed t).size - 4) = t := by
    apply ba_ext
    rw [e, sealed_small ht]
    simp [List.extract_eq_take_drop]
    exact List.take_of_length_le (by rw [data_length]; exact Nat.le_refl _)
  unfold unsealed
  rw [if_neg (by omega), if_neg (by omega), e2, if_pos rfl]

/-! Reading a number: what both sides' loops come to. -/
/-- The byte at a place, as a number. -/
def byteAt (s : ByteArray) (i : Nat) : Nat := if h : i < s.size then (s.data.toList[i]'(by simpa using h)).toNat else 0
theorem byteAt_lt (s : ByteArray) (i : Nat) : byteAt s i < 256 := by
  unfold byteAt; split
  · exact UInt8.toNat_lt _
  · omega
theorem bt_byte {s : ByteArray} {i : Nat} (h : i < s.size) : bt s (i : Int) = (byteAt s i : Int) := by
  rw [bt_at h]; unfold byteAt; rw [dif_pos h]
/-- From a folded number back. -/
def unzig (u : Nat) : Int := if u % 2 = 1 then -((u / 2 : Nat) : Int) - 1 else ((u / 2 : Nat) : Int)
/-- Places from i on, with the bits u so far; fuel: how many bytes may still come. -/
def gn (s : ByteArray) (a : Nat) : Nat → Nat → Nat → Int × Int × Int
  | 0, _, _ => (0, 0, 3)
  | f + 1, i, u => if s.size ≤ a + i then (0, 0, 4) else
      if i = 9 ∧ 1 < byteAt s (a + i) ∨ byteAt s (a + i) = 0 ∧ 0 < i then (0, 0, 3) else
      if byteAt s (a + i) < 128 then (unzig (u + byteAt s (a + i) % 128 * 2 ^ (7 * i)), ((a + i + 1 : Nat) : Int), 0) else
      gn s a f (i + 1) (u + byteAt s (a + i) % 128 * 2 ^ (7 * i))
def getNumR (s : ByteArray) (a : Int) : Int × Int × Int := if a < 0 then (0, 0, 1) else gn s a.toNat 10 0 0

theorem bits_and127 (c : Nat) (h : c < 256) : Go.bits .and .u8 (c : Int) 127 = ((c % 128 : Nat) : Int) := by
  have := bits_mask .u8 8 (by decide) wraps_u8 7 (by decide) (c : Int) (by omega) (by omega)
  simp only [Int.pow_succ, Int.pow_zero] at this
  simpa using this
theorem bits_and64_1 (a : Nat) (ha : a < 18446744073709551616) : Go.bits .and .u64 (a : Int) 1 = ((a % 2 : Nat) : Int) := by
  have := bits_mask .u64 64 (by decide) (fun n h0 h1 => by rw [IntKind.wrap_u64]; omega) 1 (by decide) (a : Int) (by omega) (by omega)
  simp only [Int.pow_succ, Int.pow_zero] at this
  simpa using this
theorem bits_or64 (u v i : Nat) (hu : u < 2 ^ i) (hv : v * 2 ^ i < 18446744073709551616) (hu' : u < 18446744073709551616) :
    Go.bits .or .u64 (u : Int) ((v * 2 ^ i : Nat) : Int) = ((u + v * 2 ^ i : Nat) : Int) := by
  have h1 := (bits_nat .u64 64 (by decide) (fun n h0 h1 => by rw [IntKind.wrap_u64]; omega) u (v * 2 ^ i) (by omega) (by omega)).2
  rw [h1]
  congr 1
  rw [Nat.or_comm, Nat.mul_comm, ← Nat.two_pow_add_eq_or_of_lt hu, Nat.add_comm]
theorem xor_ones64 (a : Nat) (h : a < 9223372036854775808) : Go.bits .xor .i64 (a : Int) (-1) = -(a : Int) - 1 := by
  have e : BitVec.ofInt 64 (-1) = BitVec.allOnes 64 := by decide
  have h1 : (BitVec.ofInt 64 (a : Int)).toNat = a := by
    rw [BitVec.ofInt_natCast, BitVec.toNat_ofNat]; exact Nat.mod_eq_of_lt (by omega)
  show IntKind.i64.wrap ((BitVec.ofInt 64 (a : Int) ^^^ BitVec.ofInt 64 (-1)).toNat : Int) = _
  rw [e, BitVec.xor_allOnes, BitVec.toNat_not, h1, IntKind.wrap_i64]
  omega
theorem xor_zero64 (a : Nat) (h : a < 9223372036854775808) : Go.bits .xor .i64 (a : Int) 0 = (a : Int) := by
  have e : BitVec.ofInt 64 0 = (0#64) := by decide
  have h1 : (BitVec.ofInt 64 (a : Int)).toNat = a := by
    rw [BitVec.ofInt_natCast, BitVec.toNat_ofNat]; exact Nat.mod_eq_of_lt (by omega)
  show IntKind.i64.wrap ((BitVec.ofInt 64 (a : Int) ^^^ BitVec.ofInt 64 0).toNat : Int) = _
  rw [e, BitVec.xor_zero, h1, IntKind.wrap_i64]
  omega
theorem impl_unzig (u : Nat) (h : u < 18446744073709551616) : Go.bits .xor .i64 (wrap64 ((u : Int) / 2)) (wrap64 (-(wrap64 (Go.bits .and .u64 (u : Int) 1)))) = unzig u := by
  rw [bits_and64_1 u h]
  have e1 : wrap64 ((u : Int) / 2) = ((u / 2 : Nat) : Int) := by unfold wrap64; omega
  rw [e1]
  unfold unzig
  by_cases c : u % 2 = 1
  · rw [if_pos c, c, show wrap64 (-(wrap64 ((1 : Nat) : Int))) = -1 from by unfold wrap64; omega]
    exact xor_ones64 (u / 2) (by omega)
  · rw [if_neg c, show u % 2 = 0 by omega, show wrap64 (-(wrap64 ((0 : Nat) : Int))) = 0 from by unfold wrap64; omega]
    exact xor_zero64 (u / 2) (by omega)
theorem shl_fits (c i : Nat) (hc : c < 128) (hi : i ≤ 9) (h9 : i = 9 → c ≤ 1) : shl .u64 (c : Int) ((7 * i : Nat) : Int) = ((c * 2 ^ (7 * i) : Nat) : Int) ∧ c * 2 ^ (7 * i) < 18446744073709551616 := by
  have h : c * 2 ^ (7 * i) < 18446744073709551616 := by
    rcases (show i = 0 ∨ i = 1 ∨ i = 2 ∨ i = 3 ∨ i = 4 ∨ i = 5 ∨ i = 6 ∨ i = 7 ∨ i = 8 ∨ i = 9 by omega) with rfl | rfl | rfl | rfl | rfl | rfl | rfl | rfl | rfl | rfl <;> omega
  refine ⟨?_, h⟩
  unfold shl
  rw [Int.toNat_natCast, show min (7 * i) IntKind.u64.bits = 7 * i from Nat.min_eq_left (by show 7 * i ≤ 64; omega), IntKind.wrap_u64]
  have : ((c : Int) * 2 ^ (7 * i)) = ((c * 2 ^ (7 * i) : Nat) : Int) := by simp
  rw [this]; omega
theorem pow_le (i : Nat) (h : i ≤ 9) : 2 ^ (7 * i) ≤ 9223372036854775808 :=
  Nat.le_trans (Nat.pow_le_pow_right (by decide) (show 7 * i ≤ 63 by omega)) (by decide)
theorem next_lt (u c i : Nat) (hu : u < 2 ^ (7 * i)) (hc : c < 128) : u + c * 2 ^ (7 * i) < 2 ^ (7 * (i + 1)) := by
  have e : 2 ^ (7 * (i + 1)) = 128 * 2 ^ (7 * i) := by rw [show 7 * (i + 1) = 7 + 7 * i by omega, Nat.pow_add]
  rw [e]
  have : c * 2 ^ (7 * i) ≤ 127 * 2 ^ (7 * i) := Nat.mul_le_mul_right _ (by omega)
  omega
theorem sum_lt (u c i : Nat) (hu : u < 2 ^ (7 * i)) (hc : c < 128) (hi : i ≤ 9) (h9 : i = 9 → c ≤ 1) : u + c * 2 ^ (7 * i) < 18446744073709551616 := by
  rcases (show i = 0 ∨ i = 1 ∨ i = 2 ∨ i = 3 ∨ i = 4 ∨ i = 5 ∨ i = 6 ∨ i = 7 ∨ i = 8 ∨ i = 9 by omega) with rfl | rfl | rfl | rfl | rfl | rfl | rfl | rfl | rfl | rfl <;> omega

theorem spec_unzig (u : Nat) (h : u < 18446744073709551616) :
    (if (Int.tmod (u : Int) 2) = 1 then wrap64 ((wrap64 (-(wrap64 (IntKind.u64.wrap (Int.tdiv (u : Int) 2))))) - 1) else wrap64 (IntKind.u64.wrap (Int.tdiv (u : Int) 2))) = unzig u := by
  have e1 : IntKind.u64.wrap (Int.tdiv (u : Int) 2) = ((u / 2 : Nat) : Int) := by
    rw [Int.tdiv_eq_ediv_of_nonneg (by omega), IntKind.wrap_u64]; omega
  have e2 : Int.tmod (u : Int) 2 = ((u % 2 : Nat) : Int) := by
    rw [Int.tmod_eq_emod_of_nonneg (by omega)]; omega
  rw [e1, e2]
  unfold unzig
  by_cases c : u % 2 = 1
  · rw [if_pos c, if_pos (by omega)]; unfold wrap64; omega
  · rw [if_neg c, if_neg (by omega)]; unfold wrap64; omega

def getNumS (s : ByteArray) (a : Int) : Int × Int × Int := if s.size > 8000 then (0, 0, 2) else getNumR s a
/-- What a number read is: a code alone, or the number and the place behind it. -/
theorem gn_cases (s : ByteArray) (a f : Nat) : ∀ i u : Nat, (gn s a f i u).2.2 = 3 ∧ gn s a f i u = (0, 0, 3) ∨ gn s a f i u = (0, 0, 4) ∨
    (gn s a f i u).2.2 = 0 ∧ ∃ e : Nat, (gn s a f i u).2.1 = (e : Int) ∧ a + i < e ∧ e ≤ s.size := by
  induction f with
  | zero => intro i u; exact Or.inl ⟨rfl, rfl⟩
  | succ f ih =>
    intro i u
    unfold gn
    by_cases c0 : s.size ≤ a + i
    · rw [if_pos c0]; exact Or.inr (Or.inl rfl)
    · rw [if_neg c0]
      split
      · exact Or.inl ⟨rfl, rfl⟩
      · split
        · exact Or.inr (Or.inr ⟨rfl, a + i + 1, rfl, by omega, by omega⟩)
        · rcases ih (i + 1) (u + byteAt s (a + i) % 128 * 2 ^ (7 * i)) with h | h | ⟨h, e, h1, h2, h3⟩
          · exact Or.inl h
          · exact Or.inr (Or.inl h)
          · exact Or.inr (Or.inr ⟨h, e, h1, by omega, h3⟩)
theorem unzig_wf (u : Nat) (h : u < 18446744073709551616) : -9223372036854775808 ≤ unzig u ∧ unzig u ≤ 9223372036854775807 := by
  unfold unzig; split <;> omega
theorem gn_wf (s : ByteArray) (a f : Nat) : ∀ i u : Nat, i + f = 10 → u < 2 ^ (7 * i) → -9223372036854775808 ≤ (gn s a f i u).1 ∧ (gn s a f i u).1 ≤ 9223372036854775807 := by
  induction f with
  | zero => intro i u _ _; exact ⟨by show (-9223372036854775808 : Int) ≤ 0; omega, by show (0 : Int) ≤ _; omega⟩
  | succ f ih =>
    intro i u hi hu
    unfold gn
    by_cases c0 : s.size ≤ a + i
    · rw [if_pos c0]; exact ⟨by show (-9223372036854775808 : Int) ≤ 0; omega, by show (0 : Int) ≤ _; omega⟩
    · rw [if_neg c0]
      split
      · exact ⟨by show (-9223372036854775808 : Int) ≤ 0; omega, by show (0 : Int) ≤ _; omega⟩
      · rename_i hc
        have hlt := byteAt_lt s (a + i)
        split
        · exact unzig_wf _ (sum_lt u _ i hu (by omega) (by omega) (by omega))
        · exact ih (i + 1) _ (by omega) (next_lt u _ i hu (by omega))
/-! Draws: they end, and what they give is in range. -/
theorem source_l0 (l : List Int) (d : Nat) : ∀ (i : Nat) (mix : Int), i + d = 64 → ∃ mix' sz, Ev (fun k => spec_l01Source.l0 k l (i : Int) l 0 mix 0) (l, 0, mix', sz) := by
  have fin : ∀ mix : Int, ∃ sz, ∀ g : Nat → Option (List Int × Int × Int × Int), (∀ k, g (k + 1) = if (wrap64 ((l.length : Int) / 20)) > 12 then (some (l, 0, mix, 12)) else (some (l, 0, mix, wrap64 ((l.length : Int) / 20)))) → Ev g (l, 0, mix, sz) := by
    intro mix
    by_cases c : (wrap64 ((l.length : Int) / 20)) > 12
    · exact ⟨12, fun g h => Ev.one fun k => by rw [h, if_pos c]⟩
    · exact ⟨_, fun g h => Ev.one fun k => by rw [h, if_neg c]⟩
  induction d with
  | zero =>
    intro i mix hi
    obtain ⟨sz, h⟩ := fin mix
    refine ⟨mix, sz, h _ fun k => ?_⟩
    simp only [spec_l01Source.l0]
    by_cases c : (i : Int) < (l.length : Int)
    · rw [if_pos c, if_neg (by omega)]
    · rw [if_neg c]
  | succ d ih =>
    intro i mix hi
    by_cases c : (i : Int) < (l.length : Int)
    · obtain ⟨m2, sz, h⟩ := ih (i + 1) (IntKind.u64.wrap ((Go.bits .xor .u64 mix (IntKind.u64.wrap (rd l (i : Int)))) * 1099511628211)) (by omega)
      refine ⟨m2, sz, Ev.step (fun k => ?_) h⟩
      simp only [spec_l01Source.l0]
      rw [if_pos c, if_pos (by omega), if_pos (by omega), show wrap64 ((i : Int) + 1) = ((i + 1 : Nat) : Int) from by unfold wrap64; omega]
    · obtain ⟨sz, h⟩ := fin mix
      refine ⟨mix, sz, h _ fun k => ?_⟩
      simp only [spec_l01Source.l0]
      rw [if_neg c]
theorem source_ev (l : List Int) : ∃ mix sz, Ev (fun k => spec_l01Source.f k l) (l, 0, mix, sz) := by
  unfold spec_l01Source.f
  exact source_l0 l 64 0 _ rfl
/-- A number below most is drawn. -/
theorem n_some (l : List Int) (a mix sz m : Int) (hl : l.length ≤ 9223372036854775806) (h0 : 0 ≤ a) (h1 : a ≤ l.length) (hm2 : m ≤ 9223372036854775807) :
    ∃ v a' mix', spec_l01Src_n.f l a mix sz m = some (v, a', mix', sz) ∧ 0 ≤ v ∧ (v = 0 ∨ v < m) ∧ 0 ≤ a' ∧ a' ≤ l.length := by
  unfold spec_l01Src_n.f
  by_cases hm : m ≤ 1
  · rw [if_pos hm]; exact ⟨0, a, mix, rfl, by omega, Or.inl rfl, h0, h1⟩
  rw [if_neg hm]
  have hm3 : IntKind.u64.wrap m = m := by rw [IntKind.wrap_u64]; omega
  have key : ∀ x : Int, 0 ≤ wrap64 (Int.tmod (IntKind.u64.wrap x) (IntKind.u64.wrap m)) ∧ wrap64 (Int.tmod (IntKind.u64.wrap x) (IntKind.u64.wrap m)) < m := by
    intro x
    rw [hm3]
    have h : 0 ≤ IntKind.u64.wrap x := by rw [IntKind.wrap_u64]; omega
    rw [Int.tmod_eq_emod_of_nonneg h]
    have h2 := Int.emod_nonneg (IntKind.u64.wrap x) (show m ≠ 0 by omega)
    have h3 := Int.emod_lt_of_pos (IntKind.u64.wrap x) (show 0 < m by omega)
    generalize IntKind.u64.wrap x % m = y at h2 h3
    unfold wrap64; omega
  by_cases c : a < (l.length : Int)
  · rw [if_pos c, if_pos h0, if_neg (by rw [hm3]; omega)]
    exact ⟨_, _, _, rfl, (key _).1, Or.inr (key _).2, by unfold wrap64; omega, by unfold wrap64; omega⟩
  · rw [if_neg c, if_neg (by rw [hm3]; omega)]
    exact ⟨_, _, _, rfl, (key _).1, Or.inr (key _).2, h0, h1⟩
theorem one_some (l : List Int) (a mix sz m : Int) (hl : l.length ≤ 9223372036854775806) (h0 : 0 ≤ a) (h1 : a ≤ l.length) (hm2 : m ≤ 9223372036854775807) :
    ∃ (b : Bool) (a' mix' : Int), spec_l01Src_one.f l a mix sz m = some (b, a', mix', sz) ∧ 0 ≤ a' ∧ a' ≤ l.length := by
  obtain ⟨v, a', mix', h, _, _, h3, h4⟩ := n_some l a mix sz m hl h0 h1 hm2
  unfold spec_l01Src_one.f
  rw [h]
  exact ⟨_, _, _, rfl, h3, h4⟩
theorem edge_vals : ∀ i : Fin 14, -9223372036854775808 ≤ rd [0, 1, (-1), 2, 1000, 1001, 2147483648, 2147483647, (-2147483648), 4611686018427387904, 9223372036854775807, (-9223372036854775808), 1000000, 1000001] ((i.val : Nat) : Int) ∧ rd [0, 1, (-1), 2, 1000, 1001, 2147483648, 2147483647, (-2147483648), 4611686018427387904, 9223372036854775807, (-9223372036854775808), 1000000, 1000001] ((i.val : Nat) : Int) ≤ 9223372036854775807 := by decide +kernel
theorem edge_some (l : List Int) (a mix sz : Int) (hl : l.length ≤ 9223372036854775806) (h0 : 0 ≤ a) (h1 : a ≤ l.length) :
    ∃ (v a' mix' : Int), spec_l01Src_edge.f l a mix sz = some (v, a', mix', sz) ∧ (-9223372036854775808 ≤ v ∧ v ≤ 9223372036854775807) ∧ 0 ≤ a' ∧ a' ≤ l.length := by
  obtain ⟨v, a', mix', h, hv0, hv, h3, h4⟩ := n_some l a mix sz 14 hl h0 h1 (by omega)
  unfold spec_l01Src_edge.f
  simp only [Option.bind_some]
  rw [h]
  simp only [Option.bind_some]
  rw [if_pos hv0, if_pos (by simp only [List.length_cons, List.length_nil]; omega)]
  refine ⟨_, _, _, rfl, ?_, h3, h4⟩
  have := edge_vals ⟨v.toNat, by omega⟩
  simp only [] at this
  rwa [Int.toNat_of_nonneg hv0] at this
theorem bytes_l0 (l : List Int) (hl : l.length ≤ 9223372036854775806) (m sz : Int) (hm : m ≤ 9223372036854775806) (d : Nat) : ∀ (i : Nat) (acc : List Int) (a mix : Int), (i : Int) + d = m → acc.length + d < 140737488355328 → 0 ≤ a → a ≤ l.length →
    ∃ (t : ByteArray) (a' mix' : Int), Ev (fun k => spec_l01Src_bytes.l0 k m acc (i : Int) l a mix sz) (t, a', mix', sz) ∧ t.size = acc.length + d ∧ 0 ≤ a' ∧ a' ≤ l.length := by
  induction d with
  | zero =>
    intro i acc a mix hi hacc h0 h1
    refine ⟨strOfNums acc, a, mix, Ev.one fun k => ?_, by rw [strOfNums_size]; rfl, h0, h1⟩
    simp only [spec_l01Src_bytes.l0]
    rw [if_neg (by omega)]
  | succ d ih =>
    intro i acc a mix hi hacc h0 h1
    obtain ⟨v, a1, m1, g, _, _, g3, g4⟩ := n_some l a mix sz 256 hl h0 h1 (by omega)
    obtain ⟨t, a2, m2, h, ht, h3, h4⟩ := ih (i + 1) (acc ++ [v % 256]) a1 m1 (by omega) (by rw [List.length_append, List.length_singleton]; omega) g3 g4
    refine ⟨t, a2, m2, Ev.step (fun k => ?_) h, by rw [ht, List.length_append, List.length_singleton]; omega, h3, h4⟩
    simp only [spec_l01Src_bytes.l0]
    rw [if_pos (by omega), g]
    simp only [Option.bind_some]
    rw [if_pos (by omega), show wrap64 ((i : Int) + 1) = ((i + 1 : Nat) : Int) from by unfold wrap64; omega]
theorem bytes_ev (l : List Int) (a mix sz m : Int) (hl : l.length ≤ 9223372036854775806) (h0 : 0 ≤ a) (h1 : a ≤ l.length) (hm0 : 0 ≤ m) (hm : m ≤ 100000) :
    ∃ (t : ByteArray) (a' mix' : Int), Ev (fun k => spec_l01Src_bytes.f k l a mix sz m) (t, a', mix', sz) ∧ t.size ≤ 100000 ∧ 0 ≤ a' ∧ a' ≤ l.length := by
  unfold spec_l01Src_bytes.f
  obtain ⟨t, a', m', h, ht, h3, h4⟩ := bytes_l0 l hl m sz (by omega) m.toNat 0 [] a mix (by omega) (by simp only [List.length_nil]; omega) h0 h1
  exact ⟨t, a', m', h, by rw [ht]; simp only [List.length_nil]; omega, h3, h4⟩
/-! The law FnSeal's draws. -/
theorem wfu8 {n : Int} (h : (Lit.int .u8 n).wf = true) : 0 ≤ n ∧ n ≤ 255 := by
  simpa [Lit.wf, IntKind.min, IntKind.max, IntKind.signed, IntKind.bits] using h
theorem lwAt_some (l : List Int) (hl : l.length ≤ 9223372036854775806) (hw : ∀ x ∈ l, (Lit.int .u8 x).wf = true) (a n : Int) (h0 : 0 ≤ a) (h1 : 0 < n) (h2 : n ≤ 9223372036854775807) : ∃ v, laws_lwAt.f l a n = some v ∧ 0 ≤ v ∧ v < n := by
  unfold laws_lwAt.f
  by_cases c : n ≤ 1
  · rw [if_pos c]; exact ⟨0, rfl, by omega, by omega⟩
  rw [if_neg c]
  by_cases d : (l.length : Int) = 0
  · rw [if_pos d]; exact ⟨0, rfl, by omega, by omega⟩
  rw [if_neg d]
  have e : Int.tmod a (l.length : Int) = a % (l.length : Int) := Int.tmod_eq_emod_of_nonneg h0
  have g1 := Int.emod_nonneg a (show (l.length : Int) ≠ 0 by omega)
  have g2 := Int.emod_lt_of_pos a (show 0 < (l.length : Int) by omega)
  rw [e]
  generalize a % (l.length : Int) = i at g1 g2
  rw [if_pos g1, if_pos g2, if_neg (by omega)]
  have hi : i.toNat < l.length := by omega
  have hr : rd l i = l[i.toNat] := by unfold rd; rw [List.getD_eq_getElem?_getD, List.getElem?_eq_getElem hi]; rfl
  have hb := wfu8 (hw _ (List.getElem_mem hi))
  rw [← hr] at hb
  have hz : wrap64 (rd l i) = rd l i := by unfold wrap64; omega
  rw [hz, Int.tmod_eq_emod_of_nonneg hb.1]
  exact ⟨_, rfl, Int.emod_nonneg _ (by omega), Int.emod_lt_of_pos _ (by omega)⟩
theorem DrawSeal_ev (l : List Int) (hl : l.length ≤ 9223372036854775806) : ∃ u, Ev (fun k => spec_DrawSeal.f k l) u ∧ u.size ≤ 100000 := by
  obtain ⟨mix, sz, h⟩ := source_ev l
  obtain ⟨b, a1, m1, h1, h2, h3⟩ := one_some l 0 mix sz 30 hl (by omega) (by omega) (by omega)
  unfold spec_DrawSeal.f
  cases b
  · obtain ⟨v, a2, m2, g, gv0, gv, g3, g4⟩ := n_some l a1 m1 sz 20 hl h2 h3 (by omega)
    obtain ⟨t, a3, m3, e, et, _⟩ := bytes_ev l a2 m2 sz v hl g3 g4 gv0 (by omega)
    exact ⟨t, Ev.bind h (Ev.take h1 (Ev.neg (by simp) (Ev.take g (Ev.bind e (Ev.now _))))), et⟩
  · obtain ⟨v, a2, m2, g, gv0, gv, g3, g4⟩ := n_some l a1 m1 sz 3 hl h2 h3 (by omega)
    have e1 : wrap64 (19995 + v) = 19995 + v := by unfold wrap64; omega
    refine ⟨strOfNums (List.replicate (wrap64 (19995 + v)).toNat 0), Ev.bind h (Ev.take h1 (Ev.pos rfl (Ev.take g (Ev.pos ?_ (Ev.pos ?_ (Ev.now _)))))), ?_⟩
    · rw [e1]; omega
    · rw [e1]; omega
    · rw [strOfNums_size, List.length_replicate, e1]; omega
theorem DrawCrcMore_ev (l : List Int) (hl : l.length ≤ 9223372036854775806) : ∃ (c : Int) (u : ByteArray), Ev (fun k => spec_DrawCrcMore.f k l) (c, u) ∧ u.size ≤ 100000 := by
  obtain ⟨mix, sz, h⟩ := source_ev l
  obtain ⟨v, a1, m1, g, gv0, gv, g3, g4⟩ := n_some l 0 mix sz 9 hl (by omega) (by omega) (by omega)
  obtain ⟨t, a2, m2, e, et, e3, e4⟩ := bytes_ev l a1 m1 sz v hl g3 g4 gv0 (by omega)
  obtain ⟨b, a3, m3, k1, k2, k3⟩ := one_some l a2 m2 sz 5 hl e3 e4 (by omega)
  unfold spec_DrawCrcMore.f
  cases b
  · obtain ⟨v2, a4, m4, q, qv0, qv, q3, q4⟩ := n_some l a3 m3 sz 9 hl k2 k3 (by omega)
    obtain ⟨t2, a5, m5, y, yt, _⟩ := bytes_ev l a4 m4 sz v2 hl q3 q4 qv0 (by omega)
    exact ⟨_, t, Ev.bind h (Ev.take g (Ev.bind e (Ev.take k1 (Ev.neg (by simp) (Ev.take q (Ev.bind y (Ev.bind (spec_Crc_ev t2 (by omega)) (Ev.now _)))))))), et⟩
  · obtain ⟨v2, a4, m4, q, _⟩ := edge_some l a3 m3 sz hl k2 k3
    exact ⟨_, t, Ev.bind h (Ev.take g (Ev.bind e (Ev.take k1 (Ev.pos rfl (Ev.take q (Ev.now _)))))), et⟩


end Go.Proofs.Ytnmbpjfljfmfmaa.Print
