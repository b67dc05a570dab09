/- Lemmas: what the checksum's functions come to. -/
import Derived.Test.YtpkjggmkbmohlaaPrint
import Derived.Laws.Bits64
import Derived.Laws.BitsLemmas
namespace Go.Proofs.Ytpkjggmkbmohlaa.Print
open Go.RowKit Go.Proofs.YtpkjggmkbmohlaaW.PrintWords Go.Proofs.YtpkjggmkbmohlaaW.PrintLast Go.Proofs.YtpkjggmkbmohlaaW.PrintMore
set_option linter.unusedVariables false
set_option linter.unusedSimpArgs false

/-! Rounds: small helpers. -/
theorem Ev.pos {α : Type} {c : Prop} [Decidable c] {f g : Nat → Option α} {r : α} (hc : c) (h : Ev f r) : Ev (fun n => if c then f n else g n) r := by
  simp only [hc, if_true]; exact h
theorem Ev.neg {α : Type} {c : Prop} [Decidable c] {f g : Nat → Option α} {r : α} (hc : ¬ c) (h : Ev g r) : Ev (fun n => if c then f n else g n) r := by
  simp only [hc, if_false]; exact h
theorem Ev.here {α : Type} {o : Option α} {r : α} (h : o = some r) : Ev (fun _ => o) r := ⟨0, fun _ _ => h⟩
theorem Ev.take {α β : Type} {o : Option α} {f : Nat → α → Option β} {a : α} {r : β} (h : o = some a) (k : Ev (fun n => f n a) r) : Ev (fun n => o.bind (f n)) r := by
  subst h; exact k
theorem Ev.one {α : Type} {g : Nat → Option α} {r : α} (h : ∀ k, g (k + 1) = some r) : Ev g r := Ev.step (f := fun _ => some r) h (Ev.now r)
theorem Ev.to {α : Type} {g : Nat → Option α} {r q : α} (e : r = q) (h : Ev g r) : Ev g q := e ▸ h

/-! Varints: what numBytes and the reference's PutNum come to. -/
theorem wfi64 {n : Int} (h : (Lit.int .i64 n).wf = true) : -9223372036854775808 ≤ n ∧ n ≤ 9223372036854775807 := by
  simpa [Lit.wf, IntKind.min, IntKind.max, IntKind.signed, IntKind.bits] using h

/-- The bytes of an unsigned number, seven bits each. -/
def enc (u : Nat) : List Int := if u < 128 then [(u : Int)] else ((u % 128 + 128 : Nat) : Int) :: enc (u / 128)
termination_by u
decreasing_by omega

theorem enc_lt {u : Nat} (h : u < 128) : enc u = [(u : Int)] := by rw [enc, if_pos h]
theorem enc_ge {u : Nat} (h : 128 ≤ u) : enc u = ((u % 128 + 128 : Nat) : Int) :: enc (u / 128) := by rw [enc, if_neg (by omega)]

theorem enc_length (d : Nat) : ∀ u : Nat, u < 128 ^ d → (enc u).length ≤ max d 1 := by
  induction d with
  | zero => intro u h; rw [enc_lt (by omega)]; simp
  | succ d ih =>
    intro u h
    by_cases hu : u < 128
    · rw [enc_lt hu]; simp only [List.length_cons, List.length_nil]; omega
    · rw [enc_ge (by omega)]
      have := ih (u / 128) (by rw [Nat.pow_succ] at h; omega)
      have h2 : d ≠ 0 := by rintro rfl; simp at h; omega
      simp only [List.length_cons]; omega

theorem bits_or128_fin : ∀ a : Fin 256, 128 ≤ a.val → Go.bits .or .u8 (a.val : Int) 128 = ((a.val % 128 + 128 : Nat) : Int) := by decide +kernel
theorem bits_or128_fin' : ∀ a : Fin 256, Go.bits .or .u8 (a.val : Int) 128 = ((a.val % 128 + 128 : Nat) : Int) := by decide +kernel
theorem bits_or128 (u : Nat) : Go.bits .or .u8 ((u : Int) % 256) 128 = ((u % 128 + 128 : Nat) : Int) := by
  have h := bits_or128_fin' ⟨u % 256, by omega⟩
  have e : ((u : Int) % 256) = ((u % 256 : Nat) : Int) := by omega
  rw [e]
  refine h.trans ?_
  simp only []
  omega

theorem bits_xor_ones (a : Nat) (h : a < 18446744073709551616) : Go.bits .xor .u64 (a : Int) 18446744073709551615 = 18446744073709551615 - (a : Int) := by
  have e : BitVec.ofInt 64 18446744073709551615 = BitVec.allOnes 64 := by decide
  have h1 : (BitVec.ofInt 64 (a : Int)).toNat = a := by
    rw [BitVec.ofInt_natCast, BitVec.toNat_ofNat]; exact Nat.mod_eq_of_lt (by omega)
  show IntKind.u64.wrap ((BitVec.ofInt 64 (a : Int) ^^^ BitVec.ofInt 64 18446744073709551615).toNat : Int) = _
  rw [e, BitVec.xor_allOnes, BitVec.toNat_not, h1, IntKind.wrap_u64]
  omega
theorem bits_xor_zero (a : Nat) (h : a < 18446744073709551616) : Go.bits .xor .u64 (a : Int) 0 = (a : Int) := by
  have := bits_xor_u64_nat a 0 h (by omega)
  simpa using this

/-- A number folded: the sign in the lowest bit. -/
def zig (n : Int) : Nat := if n < 0 then (-2 * n - 1).toNat else (2 * n).toNat
theorem zig_lt {n : Int} (h0 : -9223372036854775808 ≤ n) (h1 : n ≤ 9223372036854775807) : zig n < 18446744073709551616 := by unfold zig; split <;> omega

theorem impl_zig {n : Int} (h0 : -9223372036854775808 ≤ n) (h1 : n ≤ 9223372036854775807) :
    Go.bits .xor .u64 (IntKind.u64.wrap ((IntKind.u64.wrap n) * 2)) (IntKind.u64.wrap (n / 9223372036854775808)) = (zig n : Int) := by
  unfold zig
  by_cases h : n < 0
  · rw [if_pos h]
    have e1 : IntKind.u64.wrap ((IntKind.u64.wrap n) * 2) = ((2 * n + 18446744073709551616).toNat : Int) := by
      simp only [IntKind.wrap_u64]; omega
    have e2 : IntKind.u64.wrap (n / 9223372036854775808) = 18446744073709551615 := by
      simp only [IntKind.wrap_u64]; omega
    rw [e1, e2, bits_xor_ones _ (by omega)]
    omega
  · rw [if_neg h]
    have e1 : IntKind.u64.wrap ((IntKind.u64.wrap n) * 2) = ((2 * n).toNat : Int) := by
      simp only [IntKind.wrap_u64]; omega
    have e2 : IntKind.u64.wrap (n / 9223372036854775808) = 0 := by
      simp only [IntKind.wrap_u64]; omega
    rw [e1, e2, bits_xor_zero _ (by omega)]

theorem spec_zig {n : Int} (h0 : -9223372036854775808 ≤ n) (h1 : n ≤ 9223372036854775807) : spec_l01Fold.f n = some ((zig n : Nat) : Int) := by
  unfold spec_l01Fold.f zig
  by_cases h : n < 0
  · rw [if_pos h, if_pos h]
    congr 1
    simp only [IntKind.wrap_u64]; unfold wrap64; omega
  · rw [if_neg h, if_neg h]
    congr 1
    simp only [IntKind.wrap_u64]; omega

theorem impl_numBytes_l0 (d : Nat) : ∀ u : Nat, u < 128 ^ (d + 1) → u < 18446744073709551616 → ∀ acc : List Int, acc.length + d < 140737488355328 →
    Ev (fun k => impl_numBytes.l0 k (u : Int) acc) (acc ++ enc u) := by
  induction d with
  | zero =>
    intro u h1 h2 acc h3
    refine Ev.step (f := fun _ => some (acc ++ enc u)) (fun k => ?_) (Ev.now _)
    simp only [impl_numBytes.l0]
    rw [if_neg (by omega), if_pos (by omega), enc_lt (by omega)]
    congr 3; omega
  | succ d ih =>
    intro u h1 h2 acc h3
    by_cases hu : u < 128
    · refine Ev.step (f := fun _ => some (acc ++ enc u)) (fun k => ?_) (Ev.now _)
      simp only [impl_numBytes.l0]
      rw [if_neg (by omega), if_pos (by omega), enc_lt (by omega)]
      congr 3; omega
    · refine Ev.step (f := fun k => impl_numBytes.l0 k ((u / 128 : Nat) : Int) (acc ++ [((u % 128 + 128 : Nat) : Int)])) (fun k => ?_) ?_
      · simp only [impl_numBytes.l0]
        rw [if_pos (by omega), if_pos (by omega), bits_or128]
        congr 1
      · have := ih (u / 128) (by rw [Nat.pow_succ] at h1; omega) (by omega) (acc ++ [((u % 128 + 128 : Nat) : Int)]) (by simp; omega)
        rw [enc_ge (by omega)]
        simpa using this

theorem impl_numBytes_ev {n : Int} (h0 : -9223372036854775808 ≤ n) (h1 : n ≤ 9223372036854775807) : Ev (fun k => impl_numBytes.f k n) (enc (zig n)) := by
  unfold impl_numBytes.f
  rw [impl_zig h0 h1]
  simpa using impl_numBytes_l0 9 (zig n) (by have := zig_lt h0 h1; omega) (zig_lt h0 h1) [] (by simp)

theorem spec_PutNum_l0 (d : Nat) : ∀ u : Nat, u < 128 ^ (d + 1) → u < 18446744073709551616 → ∀ acc : List Int, acc.length + d < 140737488355328 →
    Ev (fun k => spec_PutNum.l0 k (u : Int) acc) (strOfNums (acc ++ enc u)) := by
  induction d with
  | zero =>
    intro u h1 h2 acc h3
    refine Ev.step (f := fun _ => some (strOfNums (acc ++ enc u))) (fun k => ?_) (Ev.now _)
    simp only [spec_PutNum.l0]
    rw [if_neg (by omega), if_pos (by omega), enc_lt (by omega)]
    congr 4; omega
  | succ d ih =>
    intro u h1 h2 acc h3
    by_cases hu : u < 128
    · refine Ev.step (f := fun _ => some (strOfNums (acc ++ enc u))) (fun k => ?_) (Ev.now _)
      simp only [spec_PutNum.l0]
      rw [if_neg (by omega), if_pos (by omega), enc_lt (by omega)]
      congr 4; omega
    · refine Ev.step (f := fun k => spec_PutNum.l0 k ((u / 128 : Nat) : Int) (acc ++ [((u % 128 + 128 : Nat) : Int)])) (fun k => ?_) ?_
      · simp only [spec_PutNum.l0]
        rw [if_pos (by omega), if_pos (by omega)]
        have e1 : IntKind.u64.wrap (Int.tdiv (u : Int) 128) = ((u / 128 : Nat) : Int) := by
          rw [Int.tdiv_eq_ediv_of_nonneg (by omega), IntKind.wrap_u64]; omega
        have e2 : (IntKind.u64.wrap ((Int.tmod (u : Int) 128) + 128)) % 256 = ((u % 128 + 128 : Nat) : Int) := by
          rw [Int.tmod_eq_emod_of_nonneg (by omega), IntKind.wrap_u64]; omega
        rw [e1, e2]
      · have := ih (u / 128) (by rw [Nat.pow_succ] at h1; omega) (by omega) (acc ++ [((u % 128 + 128 : Nat) : Int)]) (by simp; omega)
        rw [enc_ge (by omega)]
        simpa using this

theorem spec_PutNum_ev {n : Int} (h0 : -9223372036854775808 ≤ n) (h1 : n ≤ 9223372036854775807) : Ev (fun k => spec_PutNum.f k n) (strOfNums (enc (zig n))) := by
  unfold spec_PutNum.f
  rw [spec_zig h0 h1]
  simp only [Option.bind_some]
  simpa using spec_PutNum_l0 9 (zig n) (by have := zig_lt h0 h1; omega) (zig_lt h0 h1) [] (by simp)

theorem impl_PutNum_ev {n : Int} (h0 : -9223372036854775808 ≤ n) (h1 : n ≤ 9223372036854775807) : Ev (fun k => impl_PutNum.f k n) (strOfNums (enc (zig n))) := by
  unfold impl_PutNum.f
  exact Ev.bind (impl_numBytes_ev h0 h1) (Ev.now _)

theorem size_strOfNums (l : List Int) : (strOfNums l).size = l.length := by simp [strOfNums, ByteArray.size]
theorem enc_zig_length {n : Int} (h0 : -9223372036854775808 ≤ n) (h1 : n ≤ 9223372036854775807) : (enc (zig n)).length ≤ 10 := by
  have := enc_length 10 (zig n) (by have := zig_lt h0 h1; omega)
  omega

/-! The checksum, by numbers. -/
theorem bits_xor32 (a b : Nat) (ha : a < 4294967296) (hb : b < 4294967296) : Go.bits .xor .u32 (a : Int) (b : Int) = ((a ^^^ b : Nat) : Int) := by
  have hx : a ^^^ b < 2 ^ 32 := Nat.xor_lt_two_pow (by omega) (by omega)
  have h1 : (BitVec.ofInt 32 (a : Int)).toNat = a := by
    rw [BitVec.ofInt_natCast, BitVec.toNat_ofNat]; exact Nat.mod_eq_of_lt (by omega)
  have h2 : (BitVec.ofInt 32 (b : Int)).toNat = b := by
    rw [BitVec.ofInt_natCast, BitVec.toNat_ofNat]; exact Nat.mod_eq_of_lt (by omega)
  show IntKind.u32.wrap ((BitVec.ofInt 32 (a : Int) ^^^ BitVec.ofInt 32 (b : Int)).toNat : Int) = _
  rw [BitVec.toNat_xor, h1, h2, IntKind.wrap_u32]
  omega
theorem bits_and32_1 (a : Nat) (ha : a < 4294967296) : Go.bits .and .u32 (a : Int) 1 = ((a % 2 : Nat) : Int) := by
  have := bits_mask .u32 32 (by decide) (fun n h0 h1 => by rw [IntKind.wrap_u32]; omega) 1 (by decide) (a : Int) (by omega) (by omega)
  simp only [Int.pow_succ, Int.pow_zero] at this
  simpa using this
theorem xor_lt32 {a b : Nat} (ha : a < 4294967296) (hb : b < 4294967296) : a ^^^ b < 4294967296 := by
  have : a ^^^ b < 2 ^ 32 := Nat.xor_lt_two_pow (by omega) (by omega)
  omega
/-- One bit's step, eight of them, a byte's step, a list's. -/
def tstep (r : Nat) : Nat := if r % 2 = 1 then (r / 2) ^^^ 3988292384 else r / 2
def tn : Nat → Nat → Nat
  | 0, r => r
  | n + 1, r => tn n (tstep r)
theorem tstep_lt {r : Nat} (h : r < 4294967296) : tstep r < 4294967296 := by
  unfold tstep; split
  · exact xor_lt32 (by omega) (by omega)
  · omega
theorem tn_lt (n : Nat) : ∀ {r : Nat}, r < 4294967296 → tn n r < 4294967296 := by
  induction n with
  | zero => intro r h; exact h
  | succ n ih => intro r h; exact ih (tstep_lt h)
def upd (r : Nat) (c : UInt8) : Nat := tn 8 (r ^^^ c.toNat)
theorem upd_lt {r : Nat} (c : UInt8) (h : r < 4294967296) : upd r c < 4294967296 :=
  tn_lt 8 (xor_lt32 h (by have := c.toNat_lt; omega))
def crcL (r : Nat) (l : List UInt8) : Nat := l.foldl upd r
theorem crcL_lt (l : List UInt8) : ∀ {r : Nat}, r < 4294967296 → crcL r l < 4294967296 := by
  induction l with
  | nil => intro r h; exact h
  | cons c l ih => intro r h; exact ih (upd_lt c h)
theorem crcL_append (r : Nat) (l m : List UInt8) : crcL r (l ++ m) = crcL (crcL r l) m := List.foldl_append ..
def crcOf (crc : Nat) (s : ByteArray) : Nat := crcL (crc ^^^ 4294967295) s.data.toList ^^^ 4294967295
theorem crcOf_lt {crc : Nat} (s : ByteArray) (h : crc < 4294967296) : crcOf crc s < 4294967296 := xor_lt32 (crcL_lt _ (xor_lt32 h (by omega))) (by omega)

theorem bt_at {s : ByteArray} {i : Nat} (h : i < s.size) : bt s (i : Int) = ((s.data.toList[i]'(by simpa using h)).toNat : Int) := by
  unfold bt
  rw [dif_pos (by simpa using h)]
  rfl
theorem drop_at {s : ByteArray} {i : Nat} (h : i < s.size) : s.data.toList.drop i = (s.data.toList[i]'(by simpa using h)) :: s.data.toList.drop (i + 1) :=
  List.drop_eq_getElem_cons (by simpa using h)

theorem spec_l1 (s : ByteArray) (i : Int) (res : Int) (d : Nat) : ∀ r : Nat, r < 4294967296 → d ≤ 8 →
    Ev (fun k => spec_l01Crc.l0 k s ((tn d r : Nat) : Int) (wrap64 (i + 1))) res → Ev (fun k => spec_l01Crc.l1 k s (r : Int) i ((8 - d : Nat) : Int)) res := by
  induction d with
  | zero =>
    intro r hr _ h
    refine Ev.step (f := fun k => spec_l01Crc.l0 k s ((tn 0 r : Nat) : Int) (wrap64 (i + 1))) (fun k => ?_) h
    simp only [spec_l01Crc.l1]
    rw [if_neg (by omega)]; rfl
  | succ d ih =>
    intro r hr hd h
    have hb : (((8 - (d + 1) : Nat) : Int)) < 8 := by omega
    have hw : wrap64 (((8 - (d + 1) : Nat) : Int) + 1) = ((8 - d : Nat) : Int) := by unfold wrap64; omega
    have ht : tn (d + 1) r = tn d (tstep r) := rfl
    rw [ht] at h
    refine Ev.step (f := fun k => spec_l01Crc.l1 k s ((tstep r : Nat) : Int) i ((8 - d : Nat) : Int)) (fun k => ?_) (ih _ (tstep_lt hr) (by omega) h)
    simp only [spec_l01Crc.l1]
    rw [if_pos hb, hw, bits_and32_1 r hr]
    unfold tstep
    by_cases c : r % 2 = 1
    · rw [if_pos (by omega), if_pos c]
      have e : ((r : Int) / 2) = ((r / 2 : Nat) : Int) := by omega
      rw [e]
      have := bits_xor32 (r / 2) 3988292384 (by omega) (by omega)
      rw [show (3988292384 : Int) = ((3988292384 : Nat) : Int) from rfl, this]
    · rw [if_neg (by omega), if_neg c]
      have e : ((r : Int) / 2) = ((r / 2 : Nat) : Int) := by omega
      rw [e]

theorem spec_l0 (s : ByteArray) (hs : s.size ≤ 140737488351232) (d : Nat) : ∀ (i r : Nat), i + d = s.size → r < 4294967296 →
    Ev (fun k => spec_l01Crc.l0 k s (r : Int) (i : Int)) ((crcL r (s.data.toList.drop i) ^^^ 4294967295 : Nat) : Int) := by
  induction d with
  | zero =>
    intro i r hi hr
    refine Ev.one (fun k => ?_)
    simp only [spec_l01Crc.l0]
    rw [if_neg (by omega), List.drop_of_length_le (by simp; omega)]
    have := bits_xor32 r 4294967295 hr (by omega)
    rw [show (4294967295 : Int) = ((4294967295 : Nat) : Int) from rfl, this]
    have h2 := xor_lt32 hr (show 4294967295 < 4294967296 by omega)
    congr 1
    show wrap64 _ = ((r ^^^ 4294967295 : Nat) : Int)
    unfold wrap64; omega
  | succ d ih =>
    intro i r hi hr
    have hlt : i < s.size := by omega
    refine Ev.step (f := fun k => spec_l01Crc.l1 k s ((r ^^^ (s.data.toList[i]'(by simpa using hlt)).toNat : Nat) : Int) i ((8 - 8 : Nat) : Int)) (fun k => ?_) ?_
    · simp only [spec_l01Crc.l0]
      rw [if_pos (by omega), if_pos (by omega), bt_at hlt]
      have hc := (s.data.toList[i]'(by simpa using hlt)).toNat_lt
      have e : (((s.data.toList[i]'(by simpa using hlt)).toNat : Int)) % 4294967296 = (((s.data.toList[i]'(by simpa using hlt)).toNat : Nat) : Int) := by omega
      rw [e, bits_xor32 _ _ hr (by omega)]
      rfl
    · have hc := (s.data.toList[i]'(by simpa using hlt)).toNat_lt
      refine spec_l1 s i _ 8 _ (xor_lt32 hr (by omega)) (by omega) ?_
      have hw : wrap64 ((i : Int) + 1) = ((i + 1 : Nat) : Int) := by unfold wrap64; omega
      rw [hw, drop_at hlt]
      exact ih (i + 1) _ (by omega) (upd_lt _ hr)

theorem spec_crc_ev (crc : Nat) (hc : crc < 4294967296) (s : ByteArray) (hs : s.size ≤ 140737488351232) : Ev (fun k => spec_l01Crc.f k (crc : Int) s) ((crcOf crc s : Nat) : Int) := by
  unfold spec_l01Crc.f crcOf
  have e : ((crc : Int) % 4294967296) = (crc : Int) := by omega
  rw [e]
  have := bits_xor32 crc 4294967295 hc (by omega)
  rw [show (4294967295 : Int) = ((4294967295 : Nat) : Int) from rfl, this]
  simpa using spec_l0 s hs s.size 0 (crc ^^^ 4294967295) (by omega) (xor_lt32 hc (by omega))

theorem impl_l1 (s : ByteArray) (i : Nat) (n : Int) (res : Int) (d : Nat) : ∀ r : Nat, r < 4294967296 → d ≤ 8 →
    Ev (fun k => impl_crcFrom.l0 k s ((tn d r : Nat) : Int) n (wrap64 (i + 1))) res → Ev (fun k => impl_crcFrom.l1 k s (r : Int) n i ((8 - d : Nat) : Int)) res := by
  induction d with
  | zero =>
    intro r hr _ h
    refine Ev.step (f := fun k => impl_crcFrom.l0 k s ((tn 0 r : Nat) : Int) n (wrap64 (i + 1))) (fun k => ?_) h
    simp only [impl_crcFrom.l1]
    rw [if_neg (by omega)]; rfl
  | succ d ih =>
    intro r hr hd h
    have hb : (((8 - (d + 1) : Nat) : Int)) < 8 := by omega
    have hw : wrap64 (((8 - (d + 1) : Nat) : Int) + 1) = ((8 - d : Nat) : Int) := by unfold wrap64; omega
    have ht : tn (d + 1) r = tn d (tstep r) := rfl
    rw [ht] at h
    refine Ev.step (f := fun k => impl_crcFrom.l1 k s ((tstep r : Nat) : Int) n i ((8 - d : Nat) : Int)) (fun k => ?_) (ih _ (tstep_lt hr) (by omega) h)
    simp only [impl_crcFrom.l1]
    rw [if_pos hb, hw, bits_and32_1 r hr]
    unfold tstep
    by_cases c : r % 2 = 1
    · rw [if_pos (by omega), if_pos c]
      have e : ((r : Int) / 2) = ((r / 2 : Nat) : Int) := by omega
      rw [e]
      have := bits_xor32 (r / 2) 3988292384 (by omega) (by omega)
      rw [show (3988292384 : Int) = ((3988292384 : Nat) : Int) from rfl, this]
    · rw [if_neg (by omega), if_neg c]
      have e : ((r : Int) / 2) = ((r / 2 : Nat) : Int) := by omega
      rw [e]

theorem impl_l0 (s : ByteArray) (hs : s.size ≤ 140737488351232) (d : Nat) : ∀ (i r : Nat), i + d = s.size → r < 4294967296 →
    Ev (fun k => impl_crcFrom.l0 k s (r : Int) (s.size : Int) (i : Int)) ((crcL r (s.data.toList.drop i) ^^^ 4294967295 : Nat) : Int) := by
  induction d with
  | zero =>
    intro i r hi hr
    refine Ev.one (fun k => ?_)
    simp only [impl_crcFrom.l0]
    rw [if_neg (by omega), List.drop_of_length_le (by simp; omega)]
    have := bits_xor32 4294967295 r (by omega) hr
    rw [show (4294967295 : Int) = ((4294967295 : Nat) : Int) from rfl, this, Nat.xor_comm]
    rfl
  | succ d ih =>
    intro i r hi hr
    have hlt : i < s.size := by omega
    refine Ev.step (f := fun k => impl_crcFrom.l1 k s ((r ^^^ (s.data.toList[i]'(by simpa using hlt)).toNat : Nat) : Int) (s.size : Int) i ((8 - 8 : Nat) : Int)) (fun k => ?_) ?_
    · simp only [impl_crcFrom.l0]
      rw [if_pos (by omega), if_pos (by omega), if_pos (by omega), bt_at hlt]
      have hc := (s.data.toList[i]'(by simpa using hlt)).toNat_lt
      have e : (((s.data.toList[i]'(by simpa using hlt)).toNat : Int)) % 4294967296 = (((s.data.toList[i]'(by simpa using hlt)).toNat : Nat) : Int) := by omega
      rw [e, bits_xor32 _ _ hr (by omega)]
      rfl
    · have hc := (s.data.toList[i]'(by simpa using hlt)).toNat_lt
      refine impl_l1 s i _ _ 8 _ (xor_lt32 hr (by omega)) (by omega) ?_
      have hw : wrap64 ((i : Int) + 1) = ((i + 1 : Nat) : Int) := by unfold wrap64; omega
      rw [hw, drop_at hlt]
      exact ih (i + 1) _ (by omega) (upd_lt _ hr)

theorem impl_crc_ev (crc : Nat) (hc : crc < 4294967296) (s : ByteArray) (hs : s.size ≤ 140737488351232) : Ev (fun k => impl_crcFrom.f k (crc : Int) s) ((crcOf crc s : Nat) : Int) := by
  unfold impl_crcFrom.f crcOf
  have := bits_xor32 4294967295 crc (by omega) hc
  rw [show (4294967295 : Int) = ((4294967295 : Nat) : Int) from rfl, this, Nat.xor_comm]
  simpa using impl_l0 s hs s.size 0 (crc ^^^ 4294967295) (by omega) (xor_lt32 hc (by omega))

/-! Crc, CrcMore, Seal and Unseal on both sides. -/
def crcI (s : ByteArray) : Int := if s.size > 8000 then 0 else (crcOf 0 s : Nat)
theorem spec_Crc_ev (s : ByteArray) (hs : s.size ≤ 140737488351232) : Ev (fun k => spec_Crc.f k s) (crcI s) := by
  unfold spec_Crc.f crcI
  by_cases c : s.size > 8000
  · rw [if_pos c]; exact Ev.pos (by omega) (Ev.now _)
  · rw [if_neg c]; exact Ev.neg (by omega) (Ev.bind (spec_crc_ev 0 (by omega) s hs) (Ev.now _))
theorem impl_Crc_ev (s : ByteArray) (hs : s.size ≤ 140737488351232) : Ev (fun k => impl_Crc.f k s) (crcI s) := by
  unfold impl_Crc.f crcI
  by_cases c : s.size > 8000
  · rw [if_pos c]; exact Ev.pos (by omega) (Ev.now _)
  · rw [if_neg c]; refine Ev.neg (by omega) (Ev.bind (impl_crc_ev 0 (by omega) s hs) ?_)
    have := crcOf_lt s (show 0 < 4294967296 by omega)
    refine Ev.here ?_
    congr 1; unfold wrap64; omega
def crcMoreI (crc : Int) (s : ByteArray) : Int := if s.size > 8000 ∨ crc < 0 ∨ crc > 4294967295 then 0 else (crcOf crc.toNat s : Nat)
theorem spec_CrcMore_ev (crc : Int) (s : ByteArray) (hs : s.size ≤ 140737488351232) : Ev (fun k => spec_CrcMore.f k crc s) (crcMoreI crc s) := by
  unfold spec_CrcMore.f crcMoreI
  by_cases c : s.size > 8000
  · rw [if_pos (by omega)]; exact Ev.pos (by omega) (Ev.now _)
  · refine Ev.neg (by omega) ?_
    by_cases c1 : crc < 0
    · rw [if_pos (by omega)]; exact Ev.pos (by omega) (Ev.now _)
    · refine Ev.neg (by omega) ?_
      by_cases c2 : crc > 4294967295
      · rw [if_pos (by omega)]; exact Ev.pos (by omega) (Ev.now _)
      · rw [if_neg (by omega)]; refine Ev.neg (by omega) ?_
        have := spec_crc_ev crc.toNat (by omega) s hs
        rw [Int.toNat_of_nonneg (by omega)] at this
        exact Ev.bind this (Ev.now _)
theorem in_eq (a b c : Int) : impl_in.f a b c = some (decide (b ≤ a ∧ a ≤ c)) := by
  unfold impl_in.f; split <;> simp [*]
theorem impl_CrcMore_ev (crc : Int) (s : ByteArray) (hs : s.size ≤ 140737488351232) : Ev (fun k => impl_CrcMore.f k crc s) (crcMoreI crc s) := by
  unfold impl_CrcMore.f crcMoreI
  by_cases c : s.size > 8000
  · rw [if_pos (by omega)]; exact Ev.pos (by omega) (Ev.now _)
  · refine Ev.neg (by omega) (Ev.take (in_eq _ _ _) ?_)
    by_cases c1 : 0 ≤ crc ∧ crc ≤ 4294967295
    · rw [if_neg (by omega)]; refine Ev.pos (by simpa using c1) ?_
      have := impl_crc_ev crc.toNat (by omega) s hs
      rw [Int.toNat_of_nonneg (by omega)] at this
      rw [show crc % 4294967296 = crc by omega]
      refine Ev.bind this ?_
      have := crcOf_lt s (show crc.toNat < 4294967296 by omega)
      refine Ev.here ?_
      congr 1; unfold wrap64; omega
    · rw [if_pos (by omega)]; exact Ev.neg (by simpa using c1) (Ev.now _)

def four (n : Nat) : ByteArray := strOfNums [((n % 256 : Nat) : Int), ((n / 256 % 256 : Nat) : Int), ((n / 65536 % 256 : Nat) : Int), ((n / 16777216 % 256 : Nat) : Int)]
theorem four_size (n : Nat) : (four n).size = 4 := rfl
theorem spec_four (n : Nat) : spec_l01Four.f (n : Int) = some (four n) := by
  unfold spec_l01Four.f four; simp
def sealed (s : ByteArray) : ByteArray := if s.size > 7996 then ⟨#[]⟩ else s ++ four (crcOf 0 s)
theorem spec_Seal_ev (s : ByteArray) (hs : s.size ≤ 140737488351232) : Ev (fun k => spec_Seal.f k s) (sealed s) := by
  unfold spec_Seal.f sealed
  by_cases c : s.size > 7996
  · rw [if_pos c]; exact Ev.pos (by omega) (Ev.now _)
  · rw [if_neg c]
    refine Ev.neg (by omega) (Ev.bind (spec_crc_ev 0 (by omega) s hs) (Ev.take (spec_four _) (Ev.pos ?_ (Ev.now _))))
    rw [four_size]; omega
theorem impl_Seal_ev (s : ByteArray) (hs : s.size ≤ 140737488351232) : Ev (fun k => impl_Seal.f k s) (sealed s) := by
  unfold impl_Seal.f sealed
  by_cases c : s.size > 7996
  · rw [if_pos c]; exact Ev.pos (by omega) (Ev.now _)
  · rw [if_neg c]
    refine Ev.neg (by omega) (Ev.bind (impl_crc_ev 0 (by omega) s hs) (Ev.take (a := [((crcOf 0 s % 256 : Nat) : Int), ((crcOf 0 s / 256 % 256 : Nat) : Int), ((crcOf 0 s / 65536 % 256 : Nat) : Int), ((crcOf 0 s / 16777216 % 256 : Nat) : Int)]) ?_ (Ev.pos ?_ (Ev.now _))))
    · simp
    · rw [size_strOfNums]; simp; omega

theorem toList_inj {a b : ByteArray} (h : a.toList = b.toList) : a = b := by
  rw [ByteArray.toList_eq, ByteArray.toList_eq] at h
  cases a; cases b; simp at h; rw [h]
theorem toList_iff {a b : ByteArray} : a.toList = b.toList ↔ a = b := ⟨toList_inj, fun h => by rw [h]⟩
theorem append_extract (s : ByteArray) (i : Nat) (h : i ≤ s.size) : s.extract 0 i ++ s.extract i s.size = s := by
  rw [ByteArray.extract_append_extract]; simp
theorem size_extract (s : ByteArray) (i j : Nat) (h : j ≤ s.size) : (s.extract i j).size = j - i := by
  rw [ByteArray.size_extract]; omega

def unsealed (s : ByteArray) : ByteArray × Int × Int :=
  if s.size > 8000 then (⟨#[]⟩, 0, 2) else if s.size < 4 then (⟨#[]⟩, 0, 4) else
  if sealed (s.extract 0 (s.size - 4)) = s then (s.extract 0 (s.size - 4), 0, 0) else (⟨#[]⟩, 0, 5)
theorem impl_Unseal_ev (s : ByteArray) (hs : s.size ≤ 140737488351232) : Ev (fun k => impl_Unseal.f k s) (unsealed s) := by
  unfold impl_Unseal.f unsealed
  by_cases c : s.size > 8000
  · rw [if_pos c]; exact Ev.pos (by omega) (Ev.now _)
  · rw [if_neg c]
    have hw : wrap64 ((s.size : Int) - 4) = (s.size : Int) - 4 := by unfold wrap64; omega
    rw [hw]
    refine Ev.neg (by omega) ?_
    by_cases c4 : s.size < 4
    · rw [if_pos c4]; exact Ev.pos (by omega) (Ev.now _)
    · rw [if_neg c4]
      refine Ev.neg (by omega) (Ev.pos (by omega) (Ev.pos (by omega) ?_))
      rw [show ((s.size : Int) - 4).toNat = s.size - 4 by omega]
      refine Ev.bind (impl_Seal_ev _ (by rw [size_extract _ _ _ (by omega)]; omega)) ?_
      by_cases e : sealed (s.extract 0 (s.size - 4)) = s
      · rw [if_pos e]; exact Ev.pos (by rw [e]) (Ev.now _)
      · rw [if_neg e]; exact Ev.neg (by rw [toList_iff]; exact e) (Ev.now _)
theorem spec_Unseal_ev (s : ByteArray) (hs : s.size ≤ 140737488351232) : Ev (fun k => spec_Unseal.f k s) (unsealed s) := by
  unfold spec_Unseal.f unsealed
  by_cases c : s.size > 8000
  · rw [if_pos c]; exact Ev.pos (by omega) (Ev.now _)
  · rw [if_neg c]
    have hw : wrap64 ((s.size : Int) - 4) = (s.size : Int) - 4 := by unfold wrap64; omega
    rw [hw]
    refine Ev.neg (by omega) ?_
    by_cases c4 : s.size < 4
    · rw [if_pos c4]; exact Ev.pos (by omega) (Ev.now _)
    · rw [if_neg c4]
      refine Ev.neg (by omega) (Ev.pos (by omega) (Ev.pos (by omega) ?_))
      rw [show ((s.size : Int) - 4).toNat = s.size - 4 by omega]
      have hsz : (s.extract 0 (s.size - 4)).size = s.size - 4 := by rw [size_extract _ _ _ (by omega)]; omega
      refine Ev.bind (spec_crc_ev 0 (by omega) _ (by rw [hsz]; omega)) (Ev.take (spec_four _) ?_)
      have key : four (crcOf 0 (s.extract 0 (s.size - 4))) = s.extract (s.size - 4) s.size ↔ sealed (s.extract 0 (s.size - 4)) = s := by
        unfold sealed
        rw [if_neg (by omega)]
        constructor
        · intro h; rw [h]; exact append_extract s _ (by omega)
        · intro h
          have h2 := append_extract s (s.size - 4) (by omega)
          have h3 := h.trans h2.symm
          exact (ByteArray.append_right_inj _).mp h3
      by_cases e : sealed (s.extract 0 (s.size - 4)) = s
      · rw [if_pos e]; exact Ev.pos (by rw [toList_iff]; exact key.mpr e) (Ev.now _)
      · rw [if_neg e]; exact Ev.neg (by rw [toList_iff]; exact fun h => e (key.mp h)) (Ev.now _)
theorem eqTextOut_self (a : ByteArray) (b c : Int) : laws_eqTextOut.f a b c a b c = some true := by unfold laws_eqTextOut.f; simp


end Go.Proofs.Ytpkjggmkbmohlaa.Print
