/- Lemmas: what the printed functions come to. -/
import Derived.Test.YteimdbmfgojioaaEvWalk
import Derived.Laws.Bits64
namespace Go.Proofs.Yteimdbmfgojioaa.Print
open Go.RowKit Go.Proofs.YteimdbmfgojioaaW.PrintWords Go.Proofs.YteimdbmfgojioaaW.PrintLast Go.Proofs.YteimdbmfgojioaaW.PrintMore
set_option linter.unusedVariables false
set_option linter.unusedSimpArgs false
theorem Ev.pos {α : Type} {c : Prop} [Decidable c] {f g : Nat → Option α} {r : α} (hc : c) (h : Ev f r) : Ev (fun n => if c then f n else g n) r := by
 simp only [hc, if_true]; exact h
theorem Ev.neg {α : Type} {c : Prop} [Decidable c] {f g : Nat → Option α} {r : α} (hc : ¬ c) (h : Ev g r) : Ev (fun n => if c then f n else g n) r := by
 simp only [hc, if_false]; exact h
theorem Ev.here {α : Type} {o : Option α} {r : α} (h : o = some r) : Ev (fun _ => o) r := ⟨0, fun _ _ => h⟩
theorem Ev.take {α β : Type} {o : Option α} {f : Nat → α → Option β} {a : α} {r : β} (h : o = some a) (k : Ev (fun n => f n a) r) : Ev (fun n => o.bind (f n)) r := by
 subst h; exact k
theorem Ev.one {α : Type} {g : Nat → Option α} {r : α} (h : ∀ k, g (k + 1) = some r) : Ev g r := Ev.step (f := fun _ => some r) h (Ev.now r)
theorem Ev.to {α : Type} {g : Nat → Option α} {r q : α} (e : r = q) (h : Ev g r) : Ev g q := e ▸ h
theorem bt_at {s : ByteArray} {i : Nat} (h : i < s.size) : bt s (i : Int) = ((s.data.toList[i]'(by simpa using h)).toNat : Int) := by
 unfold bt
 rw [dif_pos (by simpa using h)]
 rfl
theorem wfi64 {n : Int} (h : (Lit.int .i64 n).wf = true) : -9223372036854775808 ≤ n ∧ n ≤ 9223372036854775807 := by
 simpa [Lit.wf, IntKind.min, IntKind.max, IntKind.signed, IntKind.bits] using h
def enc (u : Nat) : List Int := if u < 128 then [(u : Int)] else ((u % 128 + 128 : Nat) : Int) :: enc (u / 128)
termination_by u
decreasing_by omega
theorem enc_lt {u : Nat} (h : u < 128) : enc u = [(u : Int)] := by rw [enc, if_pos h]
theorem enc_ge {u : Nat} (h : 128 ≤ u) : enc u = ((u % 128 + 128 : Nat) : Int) :: enc (u / 128) := by rw [enc, if_neg (by omega)]
theorem enc_length (d : Nat) : ∀ u : Nat, u < 128 ^ d → (enc u).length ≤ max d 1 := by
 induction d with
 | zero => intro u h; rw [enc_lt (by omega)]; simp
 | succ d ih =>
  intro u h
  by_cases hu : u < 128
  ·
   rw [enc_lt hu]; simp only [List.length_cons, List.length_nil]; omega
  ·
   rw [enc_ge (by omega)]
   have := ih (u / 128) (by rw [Nat.pow_succ] at h; omega)
   have h2 : d ≠ 0 := by rintro rfl; simp at h; omega
   simp only [List.length_cons]; omega
theorem bits_or128_fin : ∀ a : Fin 256, 128 ≤ a.val → Go.bits .or .u8 (a.val : Int) 128 = ((a.val % 128 + 128 : Nat) : Int) := by decide +kernel
theorem bits_or128_fin' : ∀ a : Fin 256, Go.bits .or .u8 (a.val : Int) 128 = ((a.val % 128 + 128 : Nat) : Int) := by decide +kernel
theorem bits_or128 (u : Nat) : Go.bits .or .u8 ((u : Int) % 256) 128 = ((u % 128 + 128 : Nat) : Int) := by
 have h := bits_or128_fin' ⟨u % 256, by omega⟩
 have e : ((u : Int) % 256) = ((u % 256 : Nat) : Int) := by omega
 rw [e]
 refine h.trans ?_
 simp only []
 omega
theorem bits_xor_ones (a : Nat) (h : a < 18446744073709551616) : Go.bits .xor .u64 (a : Int) 18446744073709551615 = 18446744073709551615 - (a : Int) := by
 have e : BitVec.ofInt 64 18446744073709551615 = BitVec.allOnes 64 := by decide
 have h1 : (BitVec.ofInt 64 (a : Int)).toNat = a := by
  rw [BitVec.ofInt_natCast, BitVec.toNat_ofNat]; exact Nat.mod_eq_of_lt (by omega)
 show IntKind.u64.wrap ((BitVec.ofInt 64 (a : Int) ^^^ BitVec.ofInt 64 18446744073709551615).toNat : Int) = _
 rw [e, BitVec.xor_allOnes, BitVec.toNat_not, h1, IntKind.wrap_u64]
 omega
theorem bits_xor_zero (a : Nat) (h : a < 18446744073709551616) : Go.bits .xor .u64 (a : Int) 0 = (a : Int) := by
 have := bits_xor_u64_nat a 0 h (by omega)
 simpa using this
def zig (n : Int) : Nat := if n < 0 then (-2 * n - 1).toNat else (2 * n).toNat
theorem zig_lt {n : Int} (h0 : -9223372036854775808 ≤ n) (h1 : n ≤ 9223372036854775807) : zig n < 18446744073709551616 := by unfold zig; split <;> omega
theorem impl_zig {n : Int} (h0 : -9223372036854775808 ≤ n) (h1 : n ≤ 9223372036854775807) :
  Go.bits .xor .u64 (IntKind.u64.wrap ((IntKind.u64.wrap n) * 2)) (IntKind.u64.wrap (n / 9223372036854775808)) = (zig n : Int) := by
 unfold zig
 by_cases h : n < 0
 ·
  rw [if_pos h]
  have e1 : IntKind.u64.wrap ((IntKind.u64.wrap n) * 2) = ((2 * n + 18446744073709551616).toNat : Int) := by
   simp only [IntKind.wrap_u64]; omega
  have e2 : IntKind.u64.wrap (n / 9223372036854775808) = 18446744073709551615 := by
   simp only [IntKind.wrap_u64]; omega
  rw [e1, e2, bits_xor_ones _ (by omega)]
  omega
 ·
  rw [if_neg h]
  have e1 : IntKind.u64.wrap ((IntKind.u64.wrap n) * 2) = ((2 * n).toNat : Int) := by
   simp only [IntKind.wrap_u64]; omega
  have e2 : IntKind.u64.wrap (n / 9223372036854775808) = 0 := by
   simp only [IntKind.wrap_u64]; omega
  rw [e1, e2, bits_xor_zero _ (by omega)]
theorem spec_zig {n : Int} (h0 : -9223372036854775808 ≤ n) (h1 : n ≤ 9223372036854775807) : spec_l01Fold.f n = some ((zig n : Nat) : Int) := by
 unfold spec_l01Fold.f zig
 by_cases h : n < 0
 ·
  rw [if_pos h, if_pos h]
  congr 1
  simp only [IntKind.wrap_u64]; unfold wrap64; omega
 ·
  rw [if_neg h, if_neg h]
  congr 1
  simp only [IntKind.wrap_u64]; omega
theorem impl_numBytes_l0 (d : Nat) : ∀ u : Nat, u < 128 ^ (d + 1) → u < 18446744073709551616 → ∀ acc : List Int, acc.length + d < 140737488355328 →
  Ev (fun k => impl_numBytes.l0 k (u : Int) acc) (acc ++ enc u) := by
 induction d with
 | zero =>
  intro u h1 h2 acc h3
  refine Ev.step (f := fun _ => some (acc ++ enc u)) (fun k => ?_) (Ev.now _)
  simp only [impl_numBytes.l0]
  rw [if_neg (by omega), if_pos (by omega), enc_lt (by omega)]
  congr 3; omega
 | succ d ih =>
  intro u h1 h2 acc h3
  by_cases hu : u < 128
  ·
   refine Ev.step (f := fun _ => some (acc ++ enc u)) (fun k => ?_) (Ev.now _)
   simp only [impl_numBytes.l0]
   rw [if_neg (by omega), if_pos (by omega), enc_lt (by omega)]
   congr 3; omega
  ·
   refine Ev.step (f := fun k => impl_numBytes.l0 k ((u / 128 : Nat) : Int) (acc ++ [((u % 128 + 128 : Nat) : Int)])) (fun k => ?_) ?_
   ·
    simp only [impl_numBytes.l0]
    rw [if_pos (by omega), if_pos (by omega), bits_or128]
    congr 1
   ·
    have := ih (u / 128) (by rw [Nat.pow_succ] at h1; omega) (by omega) (acc ++ [((u % 128 + 128 : Nat) : Int)]) (by simp; omega)
    rw [enc_ge (by omega)]
    simpa using this
theorem impl_numBytes_ev {n : Int} (h0 : -9223372036854775808 ≤ n) (h1 : n ≤ 9223372036854775807) : Ev (fun k => impl_numBytes.f k n) (enc (zig n)) := by
 unfold impl_numBytes.f
 rw [impl_zig h0 h1]
 simpa using impl_numBytes_l0 9 (zig n) (by have := zig_lt h0 h1; omega) (zig_lt h0 h1) [] (by simp)
theorem spec_PutNum_l0 (d : Nat) : ∀ u : Nat, u < 128 ^ (d + 1) → u < 18446744073709551616 → ∀ acc : List Int, acc.length + d < 140737488355328 →
  Ev (fun k => spec_PutNum.l0 k (u : Int) acc) (strOfNums (acc ++ enc u)) := by
 induction d with
 | zero =>
  intro u h1 h2 acc h3
  refine Ev.step (f := fun _ => some (strOfNums (acc ++ enc u))) (fun k => ?_) (Ev.now _)
  simp only [spec_PutNum.l0]
  rw [if_neg (by omega), if_pos (by omega), enc_lt (by omega)]
  congr 4; omega
 | succ d ih =>
  intro u h1 h2 acc h3
  by_cases hu : u < 128
  ·
   refine Ev.step (f := fun _ => some (strOfNums (acc ++ enc u))) (fun k => ?_) (Ev.now _)
   simp only [spec_PutNum.l0]
   rw [if_neg (by omega), if_pos (by omega), enc_lt (by omega)]
   congr 4; omega
  ·
   refine Ev.step (f := fun k => spec_PutNum.l0 k ((u / 128 : Nat) : Int) (acc ++ [((u % 128 + 128 : Nat) : Int)])) (fun k => ?_) ?_
   ·
    simp only [spec_PutNum.l0]
    rw [if_pos (by omega), if_pos (by omega)]
    have e1 : IntKind.u64.wrap (Int.tdiv (u : Int) 128) = ((u / 128 : Nat) : Int) := by
     rw [Int.tdiv_eq_ediv_of_nonneg (by omega), IntKind.wrap_u64]; omega
    have e2 : (IntKind.u64.wrap ((Int.tmod (u : Int) 128) + 128)) % 256 = ((u % 128 + 128 : Nat) : Int) := by
     rw [Int.tmod_eq_emod_of_nonneg (by omega), IntKind.wrap_u64]; omega
    rw [e1, e2]
   ·
    have := ih (u / 128) (by rw [Nat.pow_succ] at h1; omega) (by omega) (acc ++ [((u % 128 + 128 : Nat) : Int)]) (by simp; omega)
    rw [enc_ge (by omega)]
    simpa using this
theorem spec_PutNum_ev {n : Int} (h0 : -9223372036854775808 ≤ n) (h1 : n ≤ 9223372036854775807) : Ev (fun k => spec_PutNum.f k n) (strOfNums (enc (zig n))) := by
 unfold spec_PutNum.f
 rw [spec_zig h0 h1]
 simp only [Option.bind_some]
 simpa using spec_PutNum_l0 9 (zig n) (by have := zig_lt h0 h1; omega) (zig_lt h0 h1) [] (by simp)
theorem impl_PutNum_ev {n : Int} (h0 : -9223372036854775808 ≤ n) (h1 : n ≤ 9223372036854775807) : Ev (fun k => impl_PutNum.f k n) (strOfNums (enc (zig n))) := by
 unfold impl_PutNum.f
 exact Ev.bind (impl_numBytes_ev h0 h1) (Ev.now _)
theorem size_strOfNums (l : List Int) : (strOfNums l).size = l.length := by simp [strOfNums, ByteArray.size]
theorem enc_zig_length {n : Int} (h0 : -9223372036854775808 ≤ n) (h1 : n ≤ 9223372036854775807) : (enc (zig n)).length ≤ 10 := by
 have := enc_length 10 (zig n) (by have := zig_lt h0 h1; omega)
 omega
def putText (t : ByteArray) : ByteArray := if t.size > 8000 then ⟨#[]⟩ else strOfNums (enc (zig t.size)) ++ t
theorem impl_PutText_ev (t : ByteArray) (h : t.size ≤ 140737488351232) : Ev (fun k => impl_PutText.f k t) (putText t) := by
 unfold impl_PutText.f putText
 by_cases c : t.size > 8000
 ·
  rw [if_pos c]; simp only [show (t.size : Int) > 8000 from by omega, if_true]; exact Ev.now _
 ·
  rw [if_neg c]; simp only [show ¬ (t.size : Int) > 8000 from by omega, if_false]
  refine Ev.bind (impl_PutNum_ev (by omega) (by omega)) ?_
  have := enc_zig_length (n := t.size) (by omega) (by omega)
  rw [if_pos (by rw [size_strOfNums]; omega)]
  exact Ev.now _
theorem spec_PutText_ev (t : ByteArray) (h : t.size ≤ 140737488351232) : Ev (fun k => spec_PutText.f k t) (putText t) := by
 unfold spec_PutText.f putText
 by_cases c : t.size > 8000
 ·
  rw [if_pos c]; simp only [show (t.size : Int) > 8000 from by omega, if_true]; exact Ev.now _
 ·
  rw [if_neg c]; simp only [show ¬ (t.size : Int) > 8000 from by omega, if_false]
  refine Ev.bind (spec_PutNum_ev (by omega) (by omega)) ?_
  have := enc_zig_length (n := t.size) (by omega) (by omega)
  rw [if_pos (by rw [size_strOfNums]; omega)]
  exact Ev.now _
theorem bits_xor32 (a b : Nat) (ha : a < 4294967296) (hb : b < 4294967296) : Go.bits .xor .u32 (a : Int) (b : Int) = ((a ^^^ b : Nat) : Int) := by
 have hx : a ^^^ b < 2 ^ 32 := Nat.xor_lt_two_pow (by omega) (by omega)
 have h1 : (BitVec.ofInt 32 (a : Int)).toNat = a := by
  rw [BitVec.ofInt_natCast, BitVec.toNat_ofNat]; exact Nat.mod_eq_of_lt (by omega)
 have h2 : (BitVec.ofInt 32 (b : Int)).toNat = b := by
  rw [BitVec.ofInt_natCast, BitVec.toNat_ofNat]; exact Nat.mod_eq_of_lt (by omega)
 show IntKind.u32.wrap ((BitVec.ofInt 32 (a : Int) ^^^ BitVec.ofInt 32 (b : Int)).toNat : Int) = _
 rw [BitVec.toNat_xor, h1, h2, IntKind.wrap_u32]
 omega
theorem bits_and32_1 (a : Nat) (ha : a < 4294967296) : Go.bits .and .u32 (a : Int) 1 = ((a % 2 : Nat) : Int) := by
 have := bits_mask .u32 32 (by decide) (fun n h0 h1 => by rw [IntKind.wrap_u32]; omega) 1 (by decide) (a : Int) (by omega) (by omega)
 simp only [Int.pow_succ, Int.pow_zero] at this
 simpa using this
theorem xor_lt32 {a b : Nat} (ha : a < 4294967296) (hb : b < 4294967296) : a ^^^ b < 4294967296 := by
 have : a ^^^ b < 2 ^ 32 := Nat.xor_lt_two_pow (by omega) (by omega)
 omega
def tstep (r : Nat) : Nat := if r % 2 = 1 then (r / 2) ^^^ 3988292384 else r / 2
def tn : Nat → Nat → Nat
 | 0, r => r
 | n + 1, r => tn n (tstep r)
theorem tstep_lt {r : Nat} (h : r < 4294967296) : tstep r < 4294967296 := by
 unfold tstep; split
 ·
  exact xor_lt32 (by omega) (by omega)
 ·
  omega
theorem tn_lt (n : Nat) : ∀ {r : Nat}, r < 4294967296 → tn n r < 4294967296 := by
 induction n with
 | zero => intro r h; exact h
 | succ n ih => intro r h; exact ih (tstep_lt h)
def upd (r : Nat) (c : UInt8) : Nat := tn 8 (r ^^^ c.toNat)
theorem upd_lt {r : Nat} (c : UInt8) (h : r < 4294967296) : upd r c < 4294967296 :=
 tn_lt 8 (xor_lt32 h (by have := c.toNat_lt; omega))
def crcL (r : Nat) (l : List UInt8) : Nat := l.foldl upd r
theorem crcL_lt (l : List UInt8) : ∀ {r : Nat}, r < 4294967296 → crcL r l < 4294967296 := by
 induction l with
 | nil => intro r h; exact h
 | cons c l ih => intro r h; exact ih (upd_lt c h)
theorem crcL_append (r : Nat) (l m : List UInt8) : crcL r (l ++ m) = crcL (crcL r l) m := List.foldl_append ..
def crcOf (crc : Nat) (s : ByteArray) : Nat := crcL (crc ^^^ 4294967295) s.data.toList ^^^ 4294967295
theorem crcOf_lt {crc : Nat} (s : ByteArray) (h : crc < 4294967296) : crcOf crc s < 4294967296 := xor_lt32 (crcL_lt _ (xor_lt32 h (by omega))) (by omega)
theorem drop_at {s : ByteArray} {i : Nat} (h : i < s.size) : s.data.toList.drop i = (s.data.toList[i]'(by simpa using h)) :: s.data.toList.drop (i + 1) :=
 List.drop_eq_getElem_cons (by simpa using h)
theorem spec_l1 (s : ByteArray) (i : Int) (res : Int) (d : Nat) : ∀ r : Nat, r < 4294967296 → d ≤ 8 →
  Ev (fun k => spec_l01Crc.l0 k s ((tn d r : Nat) : Int) (wrap64 (i + 1))) res → Ev (fun k => spec_l01Crc.l1 k s (r : Int) i ((8 - d : Nat) : Int)) res := by
 induction d with
 | zero =>
  intro r hr _ h
  refine Ev.step (f := fun k => spec_l01Crc.l0 k s ((tn 0 r : Nat) : Int) (wrap64 (i + 1))) (fun k => ?_) h
  simp only [spec_l01Crc.l1]
  rw [if_neg (by omega)]; rfl
 | succ d ih =>
  intro r hr hd h
  have hb : (((8 - (d + 1) : Nat) : Int)) < 8 := by omega
  have hw : wrap64 (((8 - (d + 1) : Nat) : Int) + 1) = ((8 - d : Nat) : Int) := by unfold wrap64; omega
  have ht : tn (d + 1) r = tn d (tstep r) := rfl
  rw [ht] at h
  refine Ev.step (f := fun k => spec_l01Crc.l1 k s ((tstep r : Nat) : Int) i ((8 - d : Nat) : Int)) (fun k => ?_) (ih _ (tstep_lt hr) (by omega) h)
  simp only [spec_l01Crc.l1]
  rw [if_pos hb, hw, bits_and32_1 r hr]
  unfold tstep
  by_cases c : r % 2 = 1
  ·
   rw [if_pos (by omega), if_pos c]
   have e : ((r : Int) / 2) = ((r / 2 : Nat) : Int) := by omega
   rw [e]
   have := bits_xor32 (r / 2) 3988292384 (by omega) (by omega)
   rw [show (3988292384 : Int) = ((3988292384 : Nat) : Int) from rfl, this]
  ·
   rw [if_neg (by omega), if_neg c]
   have e : ((r : Int) / 2) = ((r / 2 : Nat) : Int) := by omega
   rw [e]
theorem spec_l0 (s : ByteArray) (hs : s.size ≤ 140737488351232) (d : Nat) : ∀ (i r : Nat), i + d = s.size → r < 4294967296 →
  Ev (fun k => spec_l01Crc.l0 k s (r : Int) (i : Int)) ((crcL r (s.data.toList.drop i) ^^^ 4294967295 : Nat) : Int) := by
 induction d with
 | zero =>
  intro i r hi hr
  refine Ev.one (fun k => ?_)
  simp only [spec_l01Crc.l0]
  rw [if_neg (by omega), List.drop_of_length_le (by simp; omega)]
  have := bits_xor32 r 4294967295 hr (by omega)
  rw [show (4294967295 : Int) = ((4294967295 : Nat) : Int) from rfl, this]
  have h2 := xor_lt32 hr (show 4294967295 < 4294967296 by omega)
  congr 1
  show wrap64 _ = ((r ^^^ 4294967295 : Nat) : Int)
  unfold wrap64; omega
 | succ d ih =>
  intro i r hi hr
  have hlt : i < s.size := by omega
  refine Ev.step (f := fun k => spec_l01Crc.l1 k s ((r ^^^ (s.data.toList[i]'(by simpa using hlt)).toNat : Nat) : Int) i ((8 - 8 : Nat) : Int)) (fun k => ?_) ?_
  ·
   simp only [spec_l01Crc.l0]
   rw [if_pos (by omega), if_pos (by omega), bt_at hlt]
   have hc := (s.data.toList[i]'(by simpa using hlt)).toNat_lt
   have e : (((s.data.toList[i]'(by simpa using hlt)).toNat : Int)) % 4294967296 = (((s.data.toList[i]'(by simpa using hlt)).toNat : Nat) : Int) := by omega
   rw [e, bits_xor32 _ _ hr (by omega)]
   rfl
  ·
   have hc := (s.data.toList[i]'(by simpa using hlt)).toNat_lt
   refine spec_l1 s i _ 8 _ (xor_lt32 hr (by omega)) (by omega) ?_
   have hw : wrap64 ((i : Int) + 1) = ((i + 1 : Nat) : Int) := by unfold wrap64; omega
   rw [hw, drop_at hlt]
   exact ih (i + 1) _ (by omega) (upd_lt _ hr)
theorem spec_crc_ev (crc : Nat) (hc : crc < 4294967296) (s : ByteArray) (hs : s.size ≤ 140737488351232) : Ev (fun k => spec_l01Crc.f k (crc : Int) s) ((crcOf crc s : Nat) : Int) := by
 unfold spec_l01Crc.f crcOf
 have e : ((crc : Int) % 4294967296) = (crc : Int) := by omega
 rw [e]
 have := bits_xor32 crc 4294967295 hc (by omega)
 rw [show (4294967295 : Int) = ((4294967295 : Nat) : Int) from rfl, this]
 simpa using spec_l0 s hs s.size 0 (crc ^^^ 4294967295) (by omega) (xor_lt32 hc (by omega))
theorem impl_l1 (s : ByteArray) (i : Nat) (n : Int) (res : Int) (d : Nat) : ∀ r : Nat, r < 4294967296 → d ≤ 8 →
  Ev (fun k => impl_crcFrom.l0 k s ((tn d r : Nat) : Int) n (wrap64 (i + 1))) res → Ev (fun k => impl_crcFrom.l1 k s (r : Int) n i ((8 - d : Nat) : Int)) res := by
 induction d with
 | zero =>
  intro r hr _ h
  refine Ev.step (f := fun k => impl_crcFrom.l0 k s ((tn 0 r : Nat) : Int) n (wrap64 (i + 1))) (fun k => ?_) h
  simp only [impl_crcFrom.l1]
  rw [if_neg (by omega)]; rfl
 | succ d ih =>
  intro r hr hd h
  have hb : (((8 - (d + 1) : Nat) : Int)) < 8 := by omega
  have hw : wrap64 (((8 - (d + 1) : Nat) : Int) + 1) = ((8 - d : Nat) : Int) := by unfold wrap64; omega
  have ht : tn (d + 1) r = tn d (tstep r) := rfl
  rw [ht] at h
  refine Ev.step (f := fun k => impl_crcFrom.l1 k s ((tstep r : Nat) : Int) n i ((8 - d : Nat) : Int)) (fun k => ?_) (ih _ (tstep_lt hr) (by omega) h)
  simp only [impl_crcFrom.l1]
  rw [if_pos hb, hw, bits_and32_1 r hr]
  unfold tstep
  by_cases c : r % 2 = 1
  ·
   rw [if_pos (by omega), if_pos c]
   have e : ((r : Int) / 2) = ((r / 2 : Nat) : Int) := by omega
   rw [e]
   have := bits_xor32 (r / 2) 3988292384 (by omega) (by omega)
   rw [show (3988292384 : Int) = ((3988292384 : Nat) : Int) from rfl, this]
  ·
   rw [if_neg (by omega), if_neg c]
   have e : ((r : Int) / 2) = ((r / 2 : Nat) : Int) := by omega
   rw [e]
theorem impl_l0 (s : ByteArray) (hs : s.size ≤ 140737488351232) (d : Nat) : ∀ (i r : Nat), i + d = s.size → r < 4294967296 →
  Ev (fun k => impl_crcFrom.l0 k s (r : Int) (s.size : Int) (i : Int)) ((crcL r (s.data.toList.drop i) ^^^ 4294967295 : Nat) : Int) := by
 induction d with
 | zero =>
  intro i r hi hr
  refine Ev.one (fun k => ?_)
  simp only [impl_crcFrom.l0]
  rw [if_neg (by omega), List.drop_of_length_le (by simp; omega)]
  have := bits_xor32 4294967295 r (by omega) hr
  rw [show (4294967295 : Int) = ((4294967295 : Nat) : Int) from rfl, this, Nat.xor_comm]
  rfl
 | succ d ih =>
  intro i r hi hr
  have hlt : i < s.size := by omega
  refine Ev.step (f := fun k => impl_crcFrom.l1 k s ((r ^^^ (s.data.toList[i]'(by simpa using hlt)).toNat : Nat) : Int) (s.size : Int) i ((8 - 8 : Nat) : Int)) (fun k => ?_) ?_
  ·
   simp only [impl_crcFrom.l0]
   rw [if_pos (by omega), if_pos (by omega), if_pos (by omega), bt_at hlt]
   have hc := (s.data.toList[i]'(by simpa using hlt)).toNat_lt
   have e : (((s.data.toList[i]'(by simpa using hlt)).toNat : Int)) % 4294967296 = (((s.data.toList[i]'(by simpa using hlt)).toNat : Nat) : Int) := by omega
   rw [e, bits_xor32 _ _ hr (by omega)]
   rfl
  ·
   have hc := (s.data.toList[i]'(by simpa using hlt)).toNat_lt
   refine impl_l1 s i _ _ 8 _ (xor_lt32 hr (by omega)) (by omega) ?_
   have hw : wrap64 ((i : Int) + 1) = ((i + 1 : Nat) : Int) := by unfold wrap64; omega
   rw [hw, drop_at hlt]
   exact ih (i + 1) _ (by omega) (upd_lt _ hr)
theorem impl_crc_ev (crc : Nat) (hc : crc < 4294967296) (s : ByteArray) (hs : s.size ≤ 140737488351232) : Ev (fun k => impl_crcFrom.f k (crc : Int) s) ((crcOf crc s : Nat) : Int) := by
 unfold impl_crcFrom.f crcOf
 have := bits_xor32 4294967295 crc (by omega) hc
 rw [show (4294967295 : Int) = ((4294967295 : Nat) : Int) from rfl, this, Nat.xor_comm]
 simpa using impl_l0 s hs s.size 0 (crc ^^^ 4294967295) (by omega) (xor_lt32 hc (by omega))
def crcI (s : ByteArray) : Int := if s.size > 8000 then 0 else (crcOf 0 s : Nat)
def crcMoreI (crc : Int) (s : ByteArray) : Int := if s.size > 8000 ∨ crc < 0 ∨ crc > 4294967295 then 0 else (crcOf crc.toNat s : Nat)
theorem in_eq (a b c : Int) : impl_in.f a b c = some (decide (b ≤ a ∧ a ≤ c)) := by
 unfold impl_in.f; split <;> simp [*]
def four (n : Nat) : ByteArray := strOfNums [((n % 256 : Nat) : Int), ((n / 256 % 256 : Nat) : Int), ((n / 65536 % 256 : Nat) : Int), ((n / 16777216 % 256 : Nat) : Int)]
theorem four_size (n : Nat) : (four n).size = 4 := rfl
theorem spec_four (n : Nat) : spec_l01Four.f (n : Int) = some (four n) := by
 unfold spec_l01Four.f four; simp
def sealed (s : ByteArray) : ByteArray := if s.size > 7996 then ⟨#[]⟩ else s ++ four (crcOf 0 s)
theorem spec_Seal_ev (s : ByteArray) (hs : s.size ≤ 140737488351232) : Ev (fun k => spec_Seal.f k s) (sealed s) := by
 unfold spec_Seal.f sealed
 by_cases c : s.size > 7996
 ·
  rw [if_pos c]; exact Ev.pos (by omega) (Ev.now _)
 ·
  rw [if_neg c]
  refine Ev.neg (by omega) (Ev.bind (spec_crc_ev 0 (by omega) s hs) (Ev.take (spec_four _) (Ev.pos ?_ (Ev.now _))))
  rw [four_size]; omega
theorem impl_Seal_ev (s : ByteArray) (hs : s.size ≤ 140737488351232) : Ev (fun k => impl_Seal.f k s) (sealed s) := by
 unfold impl_Seal.f sealed
 by_cases c : s.size > 7996
 ·
  rw [if_pos c]; exact Ev.pos (by omega) (Ev.now _)
 ·
  rw [if_neg c]
  refine Ev.neg (by omega) (Ev.bind (impl_crc_ev 0 (by omega) s hs) (Ev.take (a := [((crcOf 0 s % 256 : Nat) : Int), ((crcOf 0 s / 256 % 256 : Nat) : Int), ((crcOf 0 s / 65536 % 256 : Nat) : Int), ((crcOf 0 s / 16777216 % 256 : Nat) : Int)]) ?_ (Ev.pos ?_ (Ev.now _))))
  ·
   simp
  ·
   rw [size_strOfNums]; simp; omega
theorem toList_inj {a b : ByteArray} (h : a.toList = b.toList) : a = b := by
 rw [ByteArray.toList_eq, ByteArray.toList_eq] at h
 cases a; cases b; simp at h; rw [h]
theorem toList_iff {a b : ByteArray} : a.toList = b.toList ↔ a = b := ⟨toList_inj, fun h => by rw [h]⟩
theorem append_extract (s : ByteArray) (i : Nat) (h : i ≤ s.size) : s.extract 0 i ++ s.extract i s.size = s := by
 rw [ByteArray.extract_append_extract]; simp
theorem size_extract (s : ByteArray) (i j : Nat) (h : j ≤ s.size) : (s.extract i j).size = j - i := by
 rw [ByteArray.size_extract]; omega
def unsealed (s : ByteArray) : ByteArray × Int × Int :=
 if s.size > 8000 then (⟨#[]⟩, 0, 2) else if s.size < 4 then (⟨#[]⟩, 0, 4) else
 if sealed (s.extract 0 (s.size - 4)) = s then (s.extract 0 (s.size - 4), 0, 0) else (⟨#[]⟩, 0, 5)
theorem impl_Unseal_ev (s : ByteArray) (hs : s.size ≤ 140737488351232) : Ev (fun k => impl_Unseal.f k s) (unsealed s) := by
 unfold impl_Unseal.f unsealed
 by_cases c : s.size > 8000
 ·
  rw [if_pos c]; exact Ev.pos (by omega) (Ev.now _)
 ·
  rw [if_neg c]
  have hw : wrap64 ((s.size : Int) - 4) = (s.size : Int) - 4 := by unfold wrap64; omega
  rw [hw]
  refine Ev.neg (by omega) ?_
  by_cases c4 : s.size < 4
  ·
   rw [if_pos c4]; exact Ev.pos (by omega) (Ev.now _)
  ·
   rw [if_neg c4]
   refine Ev.neg (by omega) (Ev.pos (by omega) (Ev.pos (by omega) ?_))
   rw [show ((s.size : Int) - 4).toNat = s.size - 4 by omega]
   refine Ev.bind (impl_Seal_ev _ (by rw [size_extract _ _ _ (by omega)]; omega)) ?_
   by_cases e : sealed (s.extract 0 (s.size - 4)) = s
   ·
    rw [if_pos e]; exact Ev.pos (by rw [e]) (Ev.now _)
   ·
    rw [if_neg e]; exact Ev.neg (by rw [toList_iff]; exact e) (Ev.now _)
theorem spec_Unseal_ev (s : ByteArray) (hs : s.size ≤ 140737488351232) : Ev (fun k => spec_Unseal.f k s) (unsealed s) := by
 unfold spec_Unseal.f unsealed
 by_cases c : s.size > 8000
 ·
  rw [if_pos c]; exact Ev.pos (by omega) (Ev.now _)
 ·
  rw [if_neg c]
  have hw : wrap64 ((s.size : Int) - 4) = (s.size : Int) - 4 := by unfold wrap64; omega
  rw [hw]
  refine Ev.neg (by omega) ?_
  by_cases c4 : s.size < 4
  ·
   rw [if_pos c4]; exact Ev.pos (by omega) (Ev.now _)
  ·
   rw [if_neg c4]
   refine Ev.neg (by omega) (Ev.pos (by omega) (Ev.pos (by omega) ?_))
   rw [show ((s.size : Int) - 4).toNat = s.size - 4 by omega]
   have hsz : (s.extract 0 (s.size - 4)).size = s.size - 4 := by rw [size_extract _ _ _ (by omega)]; omega
   refine Ev.bind (spec_crc_ev 0 (by omega) _ (by rw [hsz]; omega)) (Ev.take (spec_four _) ?_)
   have key : four (crcOf 0 (s.extract 0 (s.size - 4))) = s.extract (s.size - 4) s.size ↔ sealed (s.extract 0 (s.size - 4)) = s := by
    unfold sealed
    rw [if_neg (by omega)]
    constructor
    ·
     intro h; rw [h]; exact append_extract s _ (by omega)
    ·
     intro h
     have h2 := append_extract s (s.size - 4) (by omega)
     have h3 := h.trans h2.symm
     exact (ByteArray.append_right_inj _).mp h3
   by_cases e : sealed (s.extract 0 (s.size - 4)) = s
   ·
    rw [if_pos e]; exact Ev.pos (by rw [toList_iff]; exact key.mpr e) (Ev.now _)
   ·
    rw [if_neg e]; exact Ev.neg (by rw [toList_iff]; exact fun h => e (key.mp h)) (Ev.now _)
theorem w64 {n : Int} (h0 : -9223372036854775808 ≤ n) (h1 : n ≤ 9223372036854775807) : wrap64 n = n := by unfold wrap64; omega
theorem drop_cons {α : Type} {l : List α} {i : Nat} (h : i < l.length) : l.drop i = l[i] :: l.drop (i + 1) := List.drop_eq_getElem_cons h
theorem getD_at {α : Type} {l : List α} {i : Nat} (d : α) (h : i < l.length) : l.getD ((i : Int)).toNat d = l[i] := by
 rw [Int.toNat_natCast, List.getD_eq_getElem?_getD, List.getElem?_eq_getElem h]; rfl
theorem is_eq (a b c : Int) : spec_l02Is.f a b c = some (decide (b ≤ a ∧ a ≤ c)) := by
 unfold spec_l02Is.f
 by_cases h : b ≤ a
 ·
  rw [if_pos h]; simp [h]
 ·
  rw [if_neg h]; simp [h]
theorem isId_eq (a : Int) : impl_isId.f a = some (decide (1 ≤ a ∧ a ≤ 1000000)) := by unfold impl_isId.f; rw [in_eq]; rfl
theorem l02Id_eq (a : Int) : spec_l02Id.f a = some (decide (1 ≤ a ∧ a ≤ 1000000)) := by unfold spec_l02Id.f; rw [is_eq]; rfl
theorem rd_at {l : List Int} {i : Nat} (h : i < l.length) : rd l (i : Int) = l[i] := getD_at _ h
theorem isUser_eq (a : Int) : impl_isUser.f a = some (decide (1 ≤ a ∧ a ≤ 6)) := by unfold impl_isUser.f; rw [in_eq]; rfl
theorem l02User_eq (a : Int) : spec_l02User.f a = some (decide (1 ≤ a ∧ a ≤ 6)) := by unfold spec_l02User.f; rw [is_eq]; rfl
theorem isRoom_eq (a : Int) : impl_isRoom.f a = some (decide (1 ≤ a ∧ a ≤ 3)) := by unfold impl_isRoom.f; rw [in_eq]; rfl
theorem isTime_eq (a : Int) : impl_isTime.f a = some (decide (0 ≤ a ∧ a ≤ 1000000)) := by unfold impl_isTime.f; rw [in_eq]; rfl
theorem l02Time_eq (a : Int) : spec_l02Time.f a = some (decide (0 ≤ a ∧ a ≤ 1000000)) := by unfold spec_l02Time.f; rw [is_eq]; rfl
def incFrom : Int → List Int → Bool
 | _, [] => true
 | lo, x :: r => decide (lo ≤ x ∧ x ≤ 1000000) && incFrom (x + 1) r
def prevRight (l : List Int) (id : Int) : Bool := decide (l.length ≤ 4) && (incFrom 1 l && !l.contains id)
theorem incr_l0 (l : List Int) (hl : l.length ≤ 9223372036854775806) (d : Nat) : ∀ (i : Nat) (lo : Int), i + d = l.length → 1 ≤ lo →
  (i = 0 ∧ lo = 1 ∨ ∃ h : 0 < i ∧ i ≤ l.length, lo = (l[i - 1]'(by omega)) + 1) →
  Ev (fun k => impl_increasing.l0 k l 1 1000000 l (l.length : Int) (i : Int)) (incFrom lo (l.drop i)) := by
 induction d with
 | zero =>
  intro i lo hi _ _
  refine Ev.one (fun k => ?_)
  simp only [impl_increasing.l0]
  rw [if_neg (by omega), List.drop_of_length_le (by omega)]; rfl
 | succ d ih =>
  intro i lo hi h1 hp
  have hlt : i < l.length := by omega
  rw [drop_cons hlt]
  have hw : wrap64 ((i : Int) + 1) = ((i + 1 : Nat) : Int) := by unfold wrap64; omega
  generalize hx : l[i] = x
  have hx' : rd l (i : Int) = x := by rw [rd_at hlt, hx]
  simp only [incFrom]
  by_cases c1 : 1 ≤ x ∧ x ≤ 1000000
  ·
   by_cases c3 : lo ≤ x
   ·
    rw [show decide (lo ≤ x ∧ x ≤ 1000000) = true from decide_eq_true ⟨c3, c1.2⟩, Bool.true_and]
    refine Ev.step (f := fun k => impl_increasing.l0 k l 1 1000000 l (l.length : Int) ((i + 1 : Nat) : Int)) (fun k => ?_) (ih (i + 1) (x + 1) (by omega) (by omega) (Or.inr ⟨⟨by omega, by omega⟩, by simp only [Nat.add_sub_cancel]; rw [hx]⟩))
    simp only [impl_increasing.l0]
    rw [if_pos (by omega), if_pos (by omega), if_pos (by omega), hx', in_eq, hw]
    simp only [Option.bind_some]
    rw [if_pos (by simpa using c1)]
    rcases hp with ⟨rfl, rfl⟩ | ⟨⟨p1, p2⟩, hlo⟩
    ·
     rw [if_neg (by omega)]
    ·
     have e1 : wrap64 ((i : Int) - 1) = ((i - 1 : Nat) : Int) := by unfold wrap64; omega
     rw [if_pos (by omega), e1, if_pos (by omega), if_pos (by omega), rd_at (by omega), if_neg (by omega)]
   ·
    rw [show decide (lo ≤ x ∧ x ≤ 1000000) = false from decide_eq_false (by omega), Bool.false_and]
    refine Ev.one (fun k => ?_)
    simp only [impl_increasing.l0]
    rw [if_pos (by omega), if_pos (by omega), if_pos (by omega), hx', in_eq]
    simp only [Option.bind_some]
    rw [if_pos (by simpa using c1)]
    rcases hp with ⟨rfl, rfl⟩ | ⟨⟨p1, p2⟩, hlo⟩
    ·
     omega
    ·
     have e1 : wrap64 ((i : Int) - 1) = ((i - 1 : Nat) : Int) := by unfold wrap64; omega
     rw [if_pos (by omega), e1, if_pos (by omega), if_pos (by omega), rd_at (by omega), if_pos (by omega)]
  ·
   rw [show decide (lo ≤ x ∧ x ≤ 1000000) = false from decide_eq_false (by omega), Bool.false_and]
   refine Ev.one (fun k => ?_)
   simp only [impl_increasing.l0]
   rw [if_pos (by omega), if_pos (by omega), if_pos (by omega), hx', in_eq]
   simp only [Option.bind_some]
   rw [if_neg (by simpa using c1)]
theorem incr_ev (l : List Int) (hl : l.length ≤ 9223372036854775806) : Ev (fun k => impl_increasing.f k l 1 1000000) (incFrom 1 l) := by
 unfold impl_increasing.f
 simpa using incr_l0 l hl l.length 0 1 (by omega) (by omega) (Or.inl ⟨rfl, rfl⟩)
theorem index_l0 (l : List Int) (a : Int) (hl : l.length ≤ 9223372036854775806) (d : Nat) : ∀ i : Nat, i + d = l.length →
  ∃ r : Int, Ev (fun k => slices_Index_int64_int64.l0 k l a (l.length : Int) (i : Int)) r ∧ decide (r ≥ 0) = (l.drop i).contains a := by
 induction d with
 | zero =>
  intro i hi
  refine ⟨-1, Ev.one (fun k => ?_), ?_⟩
  ·
   simp only [slices_Index_int64_int64.l0]
   rw [if_neg (by omega)]
  ·
   rw [List.drop_of_length_le (by omega)]; rfl
 | succ d ih =>
  intro i hi
  have hlt : i < l.length := by omega
  rw [drop_cons hlt]
  by_cases c : a = l[i]
  ·
   refine ⟨(i : Int), Ev.one (fun k => ?_), ?_⟩
   ·
    simp only [slices_Index_int64_int64.l0]
    rw [if_pos (by omega), if_pos (by omega), if_pos (by omega), rd_at hlt, if_pos c]
   ·
    rw [decide_eq_true (by omega), List.contains_cons, ← c]; simp
  ·
   obtain ⟨r, hr, hc⟩ := ih (i + 1) (by omega)
   refine ⟨r, Ev.step (f := fun k => slices_Index_int64_int64.l0 k l a (l.length : Int) ((i + 1 : Nat) : Int)) (fun k => ?_) hr, ?_⟩
   ·
    simp only [slices_Index_int64_int64.l0]
    rw [if_pos (by omega), if_pos (by omega), if_pos (by omega), rd_at hlt, if_neg c, w64 (by omega) (by omega)]; rfl
   ·
    rw [hc, List.contains_cons, show (a == l[i]) = false from by simpa using c, Bool.false_or]
theorem contains_ev (l : List Int) (a : Int) (hl : l.length ≤ 9223372036854775806) : Ev (fun k => slices_Contains_int64_int64.f k l a) (l.contains a) := by
 unfold slices_Contains_int64_int64.f slices_Index_int64_int64.f
 obtain ⟨r, hr, hc⟩ := index_l0 l a hl l.length 0 (by omega)
 rw [List.drop_zero] at hc
 exact Ev.bind hr (Ev.to hc (Ev.now _))
theorem prev_l0 (l : List Int) (id : Int) (hl : l.length ≤ 9223372036854775806) (d : Nat) : ∀ (i : Nat) (lo : Int), i + d = l.length → 1 ≤ lo →
  (i = 0 ∧ lo = 1 ∨ ∃ h : 0 < i ∧ i ≤ l.length, lo = (l[i - 1]'(by omega)) + 1) →
  Ev (fun k => spec_l02Prev.l0 k l id (i : Int)) (incFrom lo (l.drop i) && !(l.drop i).contains id) := by
 induction d with
 | zero =>
  intro i lo hi _ _
  refine Ev.one (fun k => ?_)
  simp only [spec_l02Prev.l0]
  rw [if_neg (by omega), List.drop_of_length_le (by omega)]; rfl
 | succ d ih =>
  intro i lo hi h1 hp
  have hlt : i < l.length := by omega
  rw [drop_cons hlt]
  have hw : wrap64 ((i : Int) + 1) = ((i + 1 : Nat) : Int) := by unfold wrap64; omega
  generalize hx : l[i] = x
  have hx' : rd l (i : Int) = x := by rw [rd_at hlt, hx]
  simp only [incFrom, List.contains_cons]
  by_cases c1 : 1 ≤ x ∧ x ≤ 1000000
  ·
   by_cases c2 : x = id
   ·
    rw [show (id == x) = true from by simp [c2], Bool.true_or, Bool.not_true, Bool.and_false]
    refine Ev.one (fun k => ?_)
    simp only [spec_l02Prev.l0]
    rw [if_pos (by omega), if_pos (by omega), hx', l02Id_eq]
    simp only [Option.bind_some]
    rw [if_pos (by simpa using c1), if_pos c2]
   ·
    rw [show (id == x) = false from by simpa using fun h => c2 h.symm, Bool.false_or]
    by_cases c3 : lo ≤ x
    ·
     rw [show decide (lo ≤ x ∧ x ≤ 1000000) = true from decide_eq_true ⟨c3, c1.2⟩, Bool.true_and]
     refine Ev.step (f := fun k => spec_l02Prev.l0 k l id ((i + 1 : Nat) : Int)) (fun k => ?_) (ih (i + 1) (x + 1) (by omega) (by omega) (Or.inr ⟨⟨by omega, by omega⟩, by simp only [Nat.add_sub_cancel]; rw [hx]⟩))
     simp only [spec_l02Prev.l0]
     rw [if_pos (by omega), if_pos (by omega), hx', l02Id_eq, hw]
     simp only [Option.bind_some]
     rw [if_pos (by simpa using c1), if_neg c2]
     rcases hp with ⟨rfl, rfl⟩ | ⟨⟨p1, p2⟩, hlo⟩
     ·
      rw [if_neg (by omega)]
     ·
      have e1 : wrap64 ((i : Int) - 1) = ((i - 1 : Nat) : Int) := by unfold wrap64; omega
      rw [if_pos (by omega), e1, if_pos (by omega), if_pos (by omega), rd_at (by omega), if_neg (by omega)]
    ·
     rw [show decide (lo ≤ x ∧ x ≤ 1000000) = false from decide_eq_false (by omega), Bool.false_and, Bool.false_and]
     refine Ev.one (fun k => ?_)
     simp only [spec_l02Prev.l0]
     rw [if_pos (by omega), if_pos (by omega), hx', l02Id_eq]
     simp only [Option.bind_some]
     rw [if_pos (by simpa using c1), if_neg c2]
     rcases hp with ⟨rfl, rfl⟩ | ⟨⟨p1, p2⟩, hlo⟩
     ·
      omega
     ·
      have e1 : wrap64 ((i : Int) - 1) = ((i - 1 : Nat) : Int) := by unfold wrap64; omega
      rw [if_pos (by omega), e1, if_pos (by omega), if_pos (by omega), rd_at (by omega), if_pos (by omega)]
  ·
   rw [show decide (lo ≤ x ∧ x ≤ 1000000) = false from decide_eq_false (by omega), Bool.false_and, Bool.false_and]
   refine Ev.one (fun k => ?_)
   simp only [spec_l02Prev.l0]
   rw [if_pos (by omega), if_pos (by omega), hx', l02Id_eq]
   simp only [Option.bind_some]
   rw [if_neg (by simpa using c1)]
theorem spec_prev_ev (l : List Int) (id : Int) (hl : l.length ≤ 9223372036854775806) : Ev (fun k => spec_l02Prev.f k l id) (prevRight l id) := by
 unfold spec_l02Prev.f prevRight
 by_cases c : l.length ≤ 4
 ·
  refine Ev.neg (by omega) (Ev.to ?_ (prev_l0 l id hl l.length 0 1 (by omega) (by omega) (Or.inl ⟨rfl, rfl⟩)))
  simp [c]
 ·
  exact Ev.pos (by omega) (Ev.to (by simp [c]) (Ev.now _))
def evFields (kind key n : Int) (size : Nat) : Bool :=
 if kind = 1 then decide (key = 0 ∧ n = 0 ∧ size = 0) else
 if kind = 2 then decide ((1 ≤ key ∧ key ≤ 6) ∧ (1 ≤ n ∧ n ≤ 4) ∧ size = 0) else
 if kind = 3 then decide ((1 ≤ key ∧ key ≤ 6) ∧ (0 ≤ n ∧ n ≤ 100) ∧ size = 0) else
 if kind = 4 then decide (key = 0 ∧ n = 0 ∧ size ≤ 30) else
 if kind = 5 then decide (key = 0 ∧ (1 ≤ n ∧ n ≤ 2) ∧ size = 0) else
 if kind = 6 then decide (key = 0 ∧ (1 ≤ n ∧ n ≤ 3) ∧ size = 0) else
 if kind = 7 then decide (key = 0 ∧ n = 0 ∧ 1 ≤ size ∧ size ≤ 30) else
 if kind = 8 then decide ((1 ≤ key ∧ key ≤ 1000000) ∧ n = 0 ∧ size = 0) else false
theorem size_zero_iff (s : ByteArray) : s.toList = [] ↔ s.size = 0 := by
 rw [ByteArray.toList_eq]
 constructor
 ·
  intro h; have := congrArg List.length h; simpa using this
 ·
  intro h; exact List.eq_nil_of_length_eq_zero (by simpa using h)
theorem toList_nil_beq (s : ByteArray) : (s.toList == ([] : List UInt8)) = decide (s.size = 0) := by
 rw [Bool.eq_iff_iff, beq_iff_eq, decide_eq_true_iff, size_zero_iff]
theorem size_beq (s : ByteArray) : ((s.size : Int) == 0) = decide (s.size = 0) := by
 rw [Bool.eq_iff_iff, beq_iff_eq, decide_eq_true_iff]; omega
theorem some_ite {c : Prop} [Decidable c] {A X : Option Bool} {b y : Bool} (h1 : A = some b) (h2 : X = some y) : (if c then A else X) = some (if c then b else y) := by
 split
 ·
  exact h1
 ·
  exact h2
theorem some_and {c d : Prop} [Decidable c] [Decidable d] {A : Option Bool} (h1 : A = some (decide d)) : (if c then A else some false) = some (decide (c ∧ d)) := by
 by_cases h : c
 ·
  rw [if_pos h, h1]; simp [h]
 ·
  rw [if_neg h]; simp [h]
theorem some_andT {c d : Prop} [Decidable c] [Decidable d] {A : Option Bool} (h1 : A = some (decide d)) : (if decide c = true then A else some false) = some (decide (c ∧ d)) := by
 by_cases h : c
 ·
  rw [if_pos (by simpa using h), h1]; simp [h]
 ·
  rw [if_neg (by simpa using h)]; simp [h]
theorem cast30 (s : Nat) : some (decide ((s : Int) ≤ 30)) = some (decide (s ≤ 30)) := by congr 1; rw [decide_eq_decide]; omega
theorem impl_fields (a0 a1 a2 kind key n : Int) (s : ByteArray) (l : List Int) (t : Int) : impl_Event_fieldsRight.f a0 a1 a2 kind key n s l t = some (evFields kind key n s.size) := by
 unfold impl_Event_fieldsRight.f evFields
 simp only [isUser_eq, in_eq, isId_eq, Option.bind_some, size_beq]
 refine some_ite (some_and (some_and rfl)) (some_ite (some_andT (some_andT rfl)) (some_ite (some_andT (some_andT rfl)) (some_ite (some_and (some_and (cast30 _))) (some_ite (some_and (some_andT rfl)) (some_ite (some_and (some_andT rfl)) (some_ite (some_and (some_and ?_)) (some_ite (some_andT (some_and rfl)) rfl)))))))
 congr 1; rw [decide_eq_decide]; omega
theorem spec_fields (a0 a1 a2 kind key n : Int) (s : ByteArray) (l : List Int) (t : Int) : spec_l02Body.f a0 a1 a2 kind key n s l t = some (evFields kind key n s.size) := by
 unfold spec_l02Body.f evFields
 simp only [l02User_eq, is_eq, l02Id_eq, Option.bind_some, toList_nil_beq]
 refine some_ite (some_and (some_and rfl)) (some_ite (some_andT (some_andT rfl)) (some_ite (some_andT (some_andT rfl)) (some_ite (some_and (some_and (cast30 _))) (some_ite (some_and (some_andT rfl)) (some_ite (some_and (some_andT rfl)) (some_ite (some_and (some_and ?_)) (some_ite (some_andT (some_and rfl)) rfl)))))))
 rw [cast30]
 by_cases h : 1 ≤ s.size
 ·
  rw [if_pos (by omega)]; simp [h]
 ·
  rw [if_neg (by omega)]; simp [h]
def evRight0 (id room author kind key n : Int) (s : ByteArray) (l : List Int) (t : Int) : Bool :=
 decide (1 ≤ id ∧ id ≤ 1000000) && (decide (1 ≤ room ∧ room ≤ 3) && (decide (1 ≤ author ∧ author ≤ 6) && (decide (0 ≤ t ∧ t ≤ 1000000) && (prevRight l id && evFields kind key n s.size))))
def evRight (id room author kind key n : Int) (s : ByteArray) (l : List Int) (t : Int) : Bool := evRight0 id room author kind key n s l t && (decide (kind = 1) == decide (l.length = 0))
theorem Ev.ifb {c : Bool} {f : Nat → Option Bool} {r : Bool} (h : Ev f r) : Ev (fun n => if c = true then f n else some false) (c && r) := by
 cases c
 ·
  exact Ev.neg (by simp) (Ev.now _)
 ·
  exact Ev.pos rfl h
theorem Ev.ifnb {c : Bool} {f : Nat → Option Bool} {r : Bool} (h : Ev f r) : Ev (fun n => if c = true then some false else f n) (!c && r) := by
 cases c
 ·
  exact Ev.neg (by simp) h
 ·
  exact Ev.pos rfl (Ev.now _)
theorem impl_right_ev (id room author kind key n : Int) (s : ByteArray) (l : List Int) (t : Int) (hl : l.length ≤ 9223372036854775806) : Ev (fun k => impl_Event_right.f k id room author kind key n s l t) (evRight0 id room author kind key n s l t) := by
 unfold impl_Event_right.f evRight0
 refine Ev.take (isId_eq _) (Ev.ifb (Ev.take (isRoom_eq _) (Ev.ifb (Ev.take (isUser_eq _) (Ev.ifb (Ev.take (isTime_eq _) (Ev.ifb ?_)))))))
 unfold prevRight
 by_cases c : l.length ≤ 4
 ·
  refine Ev.pos (by omega) (Ev.to ?_ (Ev.bind (incr_ev l hl) (Ev.ifb (Ev.bind (contains_ev l id hl) (Ev.ifnb (Ev.take (impl_fields _ _ _ _ _ _ _ _ _) (Ev.now _)))))))
  simp [c, Bool.and_assoc]
 ·
  exact Ev.neg (by omega) (Ev.to (by simp [c]) (Ev.now _))
theorem createB (kind : Int) (l : List Int) : ((kind == 1) == ((l.length : Int) == 0)) = (decide (kind = 1) == decide (l.length = 0)) := by
 have e1 : (kind == 1) = decide (kind = 1) := by rw [Bool.eq_iff_iff, beq_iff_eq, decide_eq_true_iff]
 have e2 : ((l.length : Int) == 0) = decide (l.length = 0) := by rw [Bool.eq_iff_iff, beq_iff_eq, decide_eq_true_iff]; omega
 rw [e1, e2]
theorem impl_EventRight_ev (id room author kind key n : Int) (s : ByteArray) (l : List Int) (t : Int) (hl : l.length ≤ 9223372036854775806) : Ev (fun k => impl_EventRight.f k id room author kind key n s l t) (evRight id room author kind key n s l t) := by
 unfold impl_EventRight.f evRight
 rw [← createB]
 exact Ev.bind (impl_right_ev id room author kind key n s l t hl) (Ev.ifb (Ev.now _))
theorem spec_EventRight_ev (id room author kind key n : Int) (s : ByteArray) (l : List Int) (t : Int) (hl : l.length ≤ 9223372036854775806) : Ev (fun k => spec_EventRight.f k id room author kind key n s l t) (evRight id room author kind key n s l t) := by
 unfold spec_EventRight.f evRight evRight0
 rw [← createB]
 refine Ev.to ?_ (Ev.take (l02Id_eq _) (Ev.ifb (Ev.take (is_eq _ _ _) (Ev.ifb (Ev.take (l02User_eq _) (Ev.ifb (Ev.take (l02Time_eq _) (Ev.ifb (Ev.bind (spec_prev_ev l id hl) (Ev.ifb (Ev.ifb (Ev.take (spec_fields _ _ _ _ _ _ _ _ _) (Ev.now _)))))))))))))
 simp only [Bool.and_assoc, Bool.and_comm (evFields kind key n s.size)]
theorem evRight_kind {id room author kind key n : Int} {s : ByteArray} {l : List Int} {t : Int} (h : evRight id room author kind key n s l t = true) : 1 ≤ kind ∧ kind ≤ 8 := by
 unfold evRight evRight0 at h
 simp only [Bool.and_eq_true] at h
 have h2 := h.1.2.2.2.2.2
 unfold evFields at h2
 repeat' split at h2
 all_goals first | omega | simp at h2
theorem ba_ext {a b : ByteArray} (h : a.data.toList = b.data.toList) : a = b := by
 cases a; cases b; simp at h; rw [h]
theorem son_append (a b : List Int) : strOfNums (a ++ b) = strOfNums a ++ strOfNums b := by
 apply ba_ext; simp [strOfNums]
theorem son_bytes (t : ByteArray) : strOfNums (bytesOf t) = t := by
 apply ba_ext
 simp only [strOfNums, bytesOf, List.map_map]
 conv => rhs; rw [← List.map_id t.data.toList]
 apply List.map_congr_left
 intro x _
 show UInt8.ofNat ((x.toNat : Int)).toNat = x
 rw [Int.toNat_natCast]; simp
theorem ba_nil (a : ByteArray) : (⟨#[]⟩ : ByteArray) ++ a = a := by apply ba_ext; simp
def i64r (n : Int) : Prop := -9223372036854775808 ≤ n ∧ n ≤ 9223372036854775807
def pn (n : Int) : ByteArray := strOfNums (enc (zig n))
def encs : List Int → List Int
 | [] => []
 | x :: r => enc (zig x) ++ encs r
def pns (l : List Int) : ByteArray := strOfNums (encs l)
theorem pns_cons (x : Int) (r : List Int) : pns (x :: r) = pn x ++ pns r := son_append _ _
theorem pn_size {n : Int} (h : i64r n) : (pn n).size ≤ 10 := by unfold pn; rw [size_strOfNums]; exact enc_zig_length h.1 h.2
theorem spec_pn {n : Int} (h : i64r n) : Ev (fun k => spec_PutNum.f k n) (pn n) := spec_PutNum_ev h.1 h.2
theorem impl_nb {n : Int} (h : i64r n) : Ev (fun k => impl_numBytes.f k n) (enc (zig n)) := impl_numBytes_ev h.1 h.2
theorem enc_size {n : Int} (h : i64r n) : (enc (zig n)).length ≤ 10 := enc_zig_length h.1 h.2
theorem len_i64 (n : Nat) (h : n ≤ 9223372036854775807) : i64r (n : Int) := ⟨by omega, by omega⟩
theorem putText_size (s : ByteArray) (h : s.size ≤ 9223372036854775807) : (putText s).size ≤ s.size + 10 := by
 unfold putText
 split
 ·
  exact Nat.zero_le _
 ·
  rw [ByteArray.size_append, size_strOfNums]
  have := enc_zig_length (n := (s.size : Int)) (by omega) (by omega)
  omega
theorem l02_l0 (a0 a1 a2 a3 a4 a5 : Int) (s : ByteArray) (l : List Int) (t : Int) (ht : i64r t) (hl : ∀ x ∈ l, i64r x) (hn : l.length ≤ 1048576) (d : Nat) : ∀ (i : Nat) (acc : ByteArray), i + d = l.length → acc.size + 10 * d ≤ 100000000 →
  Ev (fun k => spec_l02Bytes.l0 k acc (i : Int) a0 a1 a2 a3 a4 a5 s l t) (sealed (acc ++ (pns (l.drop i) ++ pn t))) := by
 induction d with
 | zero =>
  intro i acc hi hs
  refine Ev.step (f := fun k => spec_l02Bytes.l0 (k + 1) acc (i : Int) a0 a1 a2 a3 a4 a5 s l t) (fun k => rfl) ?_
  simp only [spec_l02Bytes.l0]
  have h1 := pn_size ht
  refine Ev.neg (by omega) (Ev.bind (spec_pn ht) (Ev.pos (by omega) ?_))
  refine Ev.to ?_ (Ev.bind (spec_Seal_ev (acc ++ pn t) (by rw [ByteArray.size_append]; omega)) (Ev.now _))
  rw [List.drop_of_length_le (by omega)]
  rw [show pns [] = ⟨#[]⟩ from rfl, ba_nil]
 | succ d ih =>
  intro i acc hi hs
  have hlt : i < l.length := by omega
  have hx := hl l[i] (List.getElem_mem hlt)
  have h1 := pn_size hx
  refine Ev.step (f := fun k => spec_l02Bytes.l0 (k + 1) acc (i : Int) a0 a1 a2 a3 a4 a5 s l t) (fun k => rfl) ?_
  simp only [spec_l02Bytes.l0]
  rw [rd_at hlt, show wrap64 ((i : Int) + 1) = ((i + 1 : Nat) : Int) from by unfold wrap64; omega]
  refine Ev.pos (by omega) (Ev.pos (by omega) (Ev.bind (spec_pn hx) (Ev.pos (by omega) ?_)))
  have := ih (i + 1) (acc ++ pn l[i]) (by omega) (by rw [ByteArray.size_append]; omega)
  rw [drop_cons hlt, pns_cons]
  simpa only [ByteArray.append_assoc] using this
def evB (a0 a1 a2 a3 a4 a5 : Int) (s : ByteArray) (l : List Int) (t : Int) : ByteArray :=
 pn a0 ++ (pn a1 ++ (pn a2 ++ (pn a3 ++ (pn a4 ++ (pn a5 ++ (putText s ++ (pn l.length ++ (pns l ++ pn t))))))))
theorem l02Bytes_ev (a0 a1 a2 a3 a4 a5 : Int) (s : ByteArray) (l : List Int) (t : Int) (h0 : i64r a0) (h1 : i64r a1) (h2 : i64r a2) (h3 : i64r a3) (h4 : i64r a4) (h5 : i64r a5) (hs : s.size ≤ 1048576) (hl : ∀ x ∈ l, i64r x) (hn : l.length ≤ 1048576) (ht : i64r t) :
  Ev (fun k => spec_l02Bytes.f k a0 a1 a2 a3 a4 a5 s l t) (sealed (evB a0 a1 a2 a3 a4 a5 s l t)) := by
 unfold spec_l02Bytes.f
 have z0 := pn_size h0
 have z1 := pn_size h1
 have z2 := pn_size h2
 have z3 := pn_size h3
 have z4 := pn_size h4
 have z5 := pn_size h5
 have zs := putText_size s (by omega)
 have hln := len_i64 l.length (by omega)
 have zl := pn_size hln
 refine Ev.bind (spec_pn h0) (Ev.bind (spec_pn h1) (Ev.pos (by omega) (Ev.bind (spec_pn h2) (Ev.pos (by simp only [ByteArray.size_append]; omega) (Ev.bind (spec_pn h3) (Ev.pos (by simp only [ByteArray.size_append]; omega)
  (Ev.bind (spec_pn h4) (Ev.pos (by simp only [ByteArray.size_append]; omega) (Ev.bind (spec_pn h5) (Ev.pos (by simp only [ByteArray.size_append]; omega) (Ev.bind (spec_PutText_ev s (by omega)) (Ev.pos (by simp only [ByteArray.size_append]; omega)
  (Ev.bind (spec_pn hln) (Ev.pos (by simp only [ByteArray.size_append]; omega) ?_))))))))))))))
 have := l02_l0 a0 a1 a2 a3 a4 a5 s l t ht hl hn l.length 0 (pn a0 ++ pn a1 ++ pn a2 ++ pn a3 ++ pn a4 ++ pn a5 ++ putText s ++ pn l.length) (by omega) (by simp only [ByteArray.size_append]; omega)
 unfold evB
 simpa only [ByteArray.append_assoc, List.drop_zero, Int.natCast_zero] using this
theorem eb_l1 (a0 a1 a2 a3 a4 a5 : Int) (s : ByteArray) (l : List Int) (t : Int) (ht : i64r t) (hl : ∀ x ∈ l, i64r x) (hn : l.length ≤ 1048576) (d : Nat) : ∀ (i : Nat) (acc : List Int), i + d = l.length → acc.length + 10 * d ≤ 100000000 →
  Ev (fun k => impl_EventBytes.l1 k acc l (l.length : Int) (i : Int) a0 a1 a2 a3 a4 a5 s l t) (sealed (strOfNums (acc ++ (encs (l.drop i) ++ enc (zig t))))) := by
 induction d with
 | zero =>
  intro i acc hi hs
  refine Ev.step (f := fun k => impl_EventBytes.l1 (k + 1) acc l (l.length : Int) (i : Int) a0 a1 a2 a3 a4 a5 s l t) (fun k => rfl) ?_
  simp only [impl_EventBytes.l1]
  have h1 := enc_size ht
  refine Ev.neg (by omega) (Ev.bind (impl_nb ht) (Ev.pos (by omega) ?_))
  refine Ev.to ?_ (Ev.bind (impl_Seal_ev (strOfNums (acc ++ enc (zig t))) (by rw [size_strOfNums, List.length_append]; omega)) (Ev.now _))
  rw [List.drop_of_length_le (by omega)]; rfl
 | succ d ih =>
  intro i acc hi hs
  have hlt : i < l.length := by omega
  have hx := hl l[i] (List.getElem_mem hlt)
  have h1 := enc_size hx
  refine Ev.step (f := fun k => impl_EventBytes.l1 (k + 1) acc l (l.length : Int) (i : Int) a0 a1 a2 a3 a4 a5 s l t) (fun k => rfl) ?_
  simp only [impl_EventBytes.l1]
  rw [rd_at hlt, show wrap64 ((i : Int) + 1) = ((i + 1 : Nat) : Int) from by unfold wrap64; omega]
  refine Ev.pos (by omega) (Ev.pos (by omega) (Ev.pos (by omega) (Ev.bind (impl_nb hx) (Ev.pos (by omega) ?_))))
  have := ih (i + 1) (acc ++ enc (zig l[i])) (by omega) (by rw [List.length_append]; omega)
  rw [drop_cons hlt, show encs (l[i] :: l.drop (i + 1)) = enc (zig l[i]) ++ encs (l.drop (i + 1)) from rfl]
  simpa only [List.append_assoc] using this
theorem eb_l0 (y : List Int) (hy : ∀ x ∈ y, i64r x) (hyn : y.length ≤ 6) (a0 a1 a2 a3 a4 a5 : Int) (s : ByteArray) (l : List Int) (t : Int) (hs : s.size ≤ 1048576) (ht : i64r t) (hl : ∀ x ∈ l, i64r x) (hn : l.length ≤ 1048576) (d : Nat) : ∀ (i : Nat) (acc : List Int), i + d = y.length → acc.length + 10 * d ≤ 100 →
  Ev (fun k => impl_EventBytes.l0 k acc y (y.length : Int) (i : Int) a0 a1 a2 a3 a4 a5 s l t) (sealed (strOfNums (acc ++ (encs (y.drop i) ++ (bytesOf (putText s) ++ (enc (zig l.length) ++ (encs l ++ enc (zig t)))))))) := by
 induction d with
 | zero =>
  intro i acc hi ha
  refine Ev.step (f := fun k => impl_EventBytes.l0 (k + 1) acc y (y.length : Int) (i : Int) a0 a1 a2 a3 a4 a5 s l t) (fun k => rfl) ?_
  simp only [impl_EventBytes.l0]
  have zs := putText_size s (by omega)
  have hln := len_i64 l.length (by omega)
  have zl := enc_size hln
  refine Ev.neg (by omega) (Ev.bind (impl_PutText_ev s (by omega)) (Ev.pos (by omega) ?_))
  simp only [Option.bind_some]
  refine Ev.bind (impl_nb hln) (Ev.pos (by rw [List.length_append, bytesOf_length]; omega) ?_)
  have := eb_l1 a0 a1 a2 a3 a4 a5 s l t ht hl hn l.length 0 ((acc ++ bytesOf (putText s)) ++ enc (zig l.length)) (by omega) (by rw [List.length_append, List.length_append, bytesOf_length]; omega)
  rw [List.drop_of_length_le (show y.length ≤ i by omega)]
  simpa only [List.append_assoc, List.drop_zero, encs, List.nil_append, Int.natCast_zero] using this
 | succ d ih =>
  intro i acc hi ha
  have hlt : i < y.length := by omega
  have hx := hy y[i] (List.getElem_mem hlt)
  have h1 := enc_size hx
  refine Ev.step (f := fun k => impl_EventBytes.l0 (k + 1) acc y (y.length : Int) (i : Int) a0 a1 a2 a3 a4 a5 s l t) (fun k => rfl) ?_
  simp only [impl_EventBytes.l0]
  rw [rd_at hlt, show wrap64 ((i : Int) + 1) = ((i + 1 : Nat) : Int) from by unfold wrap64; omega]
  refine Ev.pos (by omega) (Ev.pos (by omega) (Ev.pos (by omega) (Ev.bind (impl_nb hx) (Ev.pos (by omega) ?_))))
  have := ih (i + 1) (acc ++ enc (zig y[i])) (by omega) (by rw [List.length_append]; omega)
  rw [drop_cons hlt, show encs (y[i] :: y.drop (i + 1)) = enc (zig y[i]) ++ encs (y.drop (i + 1)) from rfl]
  simpa only [List.append_assoc] using this
theorem evB_son (a0 a1 a2 a3 a4 a5 : Int) (s : ByteArray) (l : List Int) (t : Int) :
  strOfNums (encs [a0, a1, a2, a3, a4, a5] ++ (bytesOf (putText s) ++ (enc (zig l.length) ++ (encs l ++ enc (zig t))))) = evB a0 a1 a2 a3 a4 a5 s l t := by
 unfold evB pn pns
 simp only [encs, son_append, son_bytes, ByteArray.append_assoc]
 rw [show strOfNums [] = ⟨#[]⟩ from rfl, ba_nil]
theorem spec_EB_ev (a0 a1 a2 a3 a4 a5 : Int) (s : ByteArray) (l : List Int) (t : Int) (h0 : i64r a0) (h1 : i64r a1) (h2 : i64r a2) (h3 : i64r a3) (h4 : i64r a4) (h5 : i64r a5) (hs : s.size ≤ 1048576) (hl : ∀ x ∈ l, i64r x) (hn : l.length ≤ 1048576) (ht : i64r t) :
  Ev (fun k => spec_EventBytes.f k a0 a1 a2 a3 a4 a5 s l t) (if evRight a0 a1 a2 a3 a4 a5 s l t = true then sealed (evB a0 a1 a2 a3 a4 a5 s l t) else ⟨#[]⟩) := by
 unfold spec_EventBytes.f
 refine Ev.bind (spec_EventRight_ev a0 a1 a2 a3 a4 a5 s l t (by omega)) ?_
 by_cases c : evRight a0 a1 a2 a3 a4 a5 s l t = true
 ·
  rw [if_pos c]; exact Ev.pos c (Ev.bind (l02Bytes_ev a0 a1 a2 a3 a4 a5 s l t h0 h1 h2 h3 h4 h5 hs hl hn ht) (Ev.now _))
 ·
  rw [if_neg c]; exact Ev.neg c (Ev.now _)
theorem impl_EB_ev (a0 a1 a2 a3 a4 a5 : Int) (s : ByteArray) (l : List Int) (t : Int) (h0 : i64r a0) (h1 : i64r a1) (h2 : i64r a2) (h3 : i64r a3) (h4 : i64r a4) (h5 : i64r a5) (hs : s.size ≤ 1048576) (hl : ∀ x ∈ l, i64r x) (hn : l.length ≤ 1048576) (ht : i64r t) :
  Ev (fun k => impl_EventBytes.f k a0 a1 a2 a3 a4 a5 s l t) (if evRight a0 a1 a2 a3 a4 a5 s l t = true then sealed (evB a0 a1 a2 a3 a4 a5 s l t) else ⟨#[]⟩) := by
 unfold impl_EventBytes.f
 refine Ev.bind (impl_EventRight_ev a0 a1 a2 a3 a4 a5 s l t (by omega)) ?_
 by_cases c : evRight a0 a1 a2 a3 a4 a5 s l t = true
 ·
  rw [if_pos c]
  refine Ev.pos c ?_
  simp only [Option.bind_some]
  have := eb_l0 [a0, a1, a2, a3, a4, a5] (by intro x hx; simp only [List.mem_cons, List.not_mem_nil, or_false] at hx; rcases hx with rfl | rfl | rfl | rfl | rfl | rfl <;> assumption) (by simp) a0 a1 a2 a3 a4 a5 s l t hs ht hl hn 6 0 [] (by simp) (by simp)
  rw [List.nil_append, List.drop_zero, evB_son] at this
  exact this
 ·
  rw [if_neg c]; exact Ev.neg c (Ev.now _)
def byteAt (s : ByteArray) (i : Nat) : Nat := if h : i < s.size then (s.data.toList[i]'(by simpa using h)).toNat else 0
theorem byteAt_lt (s : ByteArray) (i : Nat) : byteAt s i < 256 := by
 unfold byteAt; split
 ·
  exact UInt8.toNat_lt _
 ·
  omega
theorem bt_byte {s : ByteArray} {i : Nat} (h : i < s.size) : bt s (i : Int) = (byteAt s i : Int) := by
 rw [bt_at h]; unfold byteAt; rw [dif_pos h]
def unzig (u : Nat) : Int := if u % 2 = 1 then -((u / 2 : Nat) : Int) - 1 else ((u / 2 : Nat) : Int)
def gn (s : ByteArray) (a : Nat) : Nat → Nat → Nat → Int × Int × Int
 | 0, _, _ => (0, 0, 3)
 | f + 1, i, u => if s.size ≤ a + i then (0, 0, 4) else
   if i = 9 ∧ 1 < byteAt s (a + i) ∨ byteAt s (a + i) = 0 ∧ 0 < i then (0, 0, 3) else
   if byteAt s (a + i) < 128 then (unzig (u + byteAt s (a + i) % 128 * 2 ^ (7 * i)), ((a + i + 1 : Nat) : Int), 0) else
   gn s a f (i + 1) (u + byteAt s (a + i) % 128 * 2 ^ (7 * i))
def getNumR (s : ByteArray) (a : Int) : Int × Int × Int := if a < 0 then (0, 0, 1) else gn s a.toNat 10 0 0
theorem bits_and127 (c : Nat) (h : c < 256) : Go.bits .and .u8 (c : Int) 127 = ((c % 128 : Nat) : Int) := by
 have := bits_mask .u8 8 (by decide) wraps_u8 7 (by decide) (c : Int) (by omega) (by omega)
 simp only [Int.pow_succ, Int.pow_zero] at this
 simpa using this
theorem bits_and64_1 (a : Nat) (ha : a < 18446744073709551616) : Go.bits .and .u64 (a : Int) 1 = ((a % 2 : Nat) : Int) := by
 have := bits_mask .u64 64 (by decide) (fun n h0 h1 => by rw [IntKind.wrap_u64]; omega) 1 (by decide) (a : Int) (by omega) (by omega)
 simp only [Int.pow_succ, Int.pow_zero] at this
 simpa using this
theorem bits_or64 (u v i : Nat) (hu : u < 2 ^ i) (hv : v * 2 ^ i < 18446744073709551616) (hu' : u < 18446744073709551616) :
  Go.bits .or .u64 (u : Int) ((v * 2 ^ i : Nat) : Int) = ((u + v * 2 ^ i : Nat) : Int) := by
 have h1 := (bits_nat .u64 64 (by decide) (fun n h0 h1 => by rw [IntKind.wrap_u64]; omega) u (v * 2 ^ i) (by omega) (by omega)).2
 rw [h1]
 congr 1
 rw [Nat.or_comm, Nat.mul_comm, ← Nat.two_pow_add_eq_or_of_lt hu, Nat.add_comm]
theorem xor_ones64 (a : Nat) (h : a < 9223372036854775808) : Go.bits .xor .i64 (a : Int) (-1) = -(a : Int) - 1 := by
 have e : BitVec.ofInt 64 (-1) = BitVec.allOnes 64 := by decide
 have h1 : (BitVec.ofInt 64 (a : Int)).toNat = a := by
  rw [BitVec.ofInt_natCast, BitVec.toNat_ofNat]; exact Nat.mod_eq_of_lt (by omega)
 show IntKind.i64.wrap ((BitVec.ofInt 64 (a : Int) ^^^ BitVec.ofInt 64 (-1)).toNat : Int) = _
 rw [e, BitVec.xor_allOnes, BitVec.toNat_not, h1, IntKind.wrap_i64]
 omega
theorem xor_zero64 (a : Nat) (h : a < 9223372036854775808) : Go.bits .xor .i64 (a : Int) 0 = (a : Int) := by
 have e : BitVec.ofInt 64 0 = (0#64) := by decide
 have h1 : (BitVec.ofInt 64 (a : Int)).toNat = a := by
  rw [BitVec.ofInt_natCast, BitVec.toNat_ofNat]; exact Nat.mod_eq_of_lt (by omega)
 show IntKind.i64.wrap ((BitVec.ofInt 64 (a : Int) ^^^ BitVec.ofInt 64 0).toNat : Int) = _
 rw [e, BitVec.xor_zero, h1, IntKind.wrap_i64]
 omega
theorem impl_unzig (u : Nat) (h : u < 18446744073709551616) : Go.bits .xor .i64 (wrap64 ((u : Int) / 2)) (wrap64 (-(wrap64 (Go.bits .and .u64 (u : Int) 1)))) = unzig u := by
 rw [bits_and64_1 u h]
 have e1 : wrap64 ((u : Int) / 2) = ((u / 2 : Nat) : Int) := by unfold wrap64; omega
 rw [e1]
 unfold unzig
 by_cases c : u % 2 = 1
 ·
  rw [if_pos c, c, show wrap64 (-(wrap64 ((1 : Nat) : Int))) = -1 from by unfold wrap64; omega]
  exact xor_ones64 (u / 2) (by omega)
 ·
  rw [if_neg c, show u % 2 = 0 by omega, show wrap64 (-(wrap64 ((0 : Nat) : Int))) = 0 from by unfold wrap64; omega]
  exact xor_zero64 (u / 2) (by omega)
theorem shl_fits (c i : Nat) (hc : c < 128) (hi : i ≤ 9) (h9 : i = 9 → c ≤ 1) : shl .u64 (c : Int) ((7 * i : Nat) : Int) = ((c * 2 ^ (7 * i) : Nat) : Int) ∧ c * 2 ^ (7 * i) < 18446744073709551616 := by
 have h : c * 2 ^ (7 * i) < 18446744073709551616 := by
  rcases (show i = 0 ∨ i = 1 ∨ i = 2 ∨ i = 3 ∨ i = 4 ∨ i = 5 ∨ i = 6 ∨ i = 7 ∨ i = 8 ∨ i = 9 by omega) with rfl | rfl | rfl | rfl | rfl | rfl | rfl | rfl | rfl | rfl <;> omega
 refine ⟨?_, h⟩
 unfold shl
 rw [Int.toNat_natCast, show min (7 * i) IntKind.u64.bits = 7 * i from Nat.min_eq_left (by show 7 * i ≤ 64; omega), IntKind.wrap_u64]
 have : ((c : Int) * 2 ^ (7 * i)) = ((c * 2 ^ (7 * i) : Nat) : Int) := by simp
 rw [this]; omega
theorem pow_le (i : Nat) (h : i ≤ 9) : 2 ^ (7 * i) ≤ 9223372036854775808 :=
 Nat.le_trans (Nat.pow_le_pow_right (by decide) (show 7 * i ≤ 63 by omega)) (by decide)
theorem next_lt (u c i : Nat) (hu : u < 2 ^ (7 * i)) (hc : c < 128) : u + c * 2 ^ (7 * i) < 2 ^ (7 * (i + 1)) := by
 have e : 2 ^ (7 * (i + 1)) = 128 * 2 ^ (7 * i) := by rw [show 7 * (i + 1) = 7 + 7 * i by omega, Nat.pow_add]
 rw [e]
 have : c * 2 ^ (7 * i) ≤ 127 * 2 ^ (7 * i) := Nat.mul_le_mul_right _ (by omega)
 omega
theorem sum_lt (u c i : Nat) (hu : u < 2 ^ (7 * i)) (hc : c < 128) (hi : i ≤ 9) (h9 : i = 9 → c ≤ 1) : u + c * 2 ^ (7 * i) < 18446744073709551616 := by
 rcases (show i = 0 ∨ i = 1 ∨ i = 2 ∨ i = 3 ∨ i = 4 ∨ i = 5 ∨ i = 6 ∨ i = 7 ∨ i = 8 ∨ i = 9 by omega) with rfl | rfl | rfl | rfl | rfl | rfl | rfl | rfl | rfl | rfl <;> omega
theorem impl_step (s : ByteArray) (hs : s.size ≤ 140737488351232) (a : Nat) (ha : a ≤ 9223372036854775807) (f : Nat) (i u : Nat) (hi : i + f = 9) (hu : u < 2 ^ (7 * i))
  (ih : 0 < f → ∀ u' : Nat, u' < 2 ^ (7 * (i + 1)) → Ev (fun k => impl_getNum.l0 k s a (u' : Int) ((i + 1 : Nat) : Int)) (gn s a f (i + 1) u')) :
  Ev (fun k => impl_getNum.l0 k s a (u : Int) (i : Int)) (gn s a (f + 1) i u) := by
 have hlast : ∀ x25 : Bool, x25 = decide (s.size ≤ a + i) → Ev (fun k => impl_getNum.j1 k s a (u : Int) (i : Int) x25) (gn s a (f + 1) i u) := by
  intro x25 hx
  unfold gn
  by_cases c0 : s.size ≤ a + i
  ·
   rw [if_pos c0]
   refine Ev.one (fun k => ?_)
   simp only [impl_getNum.j1]
   rw [if_pos (by rw [hx]; simpa using c0)]
  ·
   rw [if_neg c0]
   have hw : wrap64 ((a : Int) + (i : Int)) = ((a + i : Nat) : Int) := by unfold wrap64; omega
   have hb := bt_byte (s := s) (i := a + i) (by omega)
   have hlt := byteAt_lt s (a + i)
   generalize hcv : byteAt s (a + i) = c at hb hlt
   have fin3 : ∀ x32 : Bool, x32 = decide (i = 9 ∧ 1 < c ∨ c = 0 ∧ 0 < i) →
     Ev (fun k => impl_getNum.j3 k s a (u : Int) (i : Int) (c : Int) x32) (if i = 9 ∧ 1 < c ∨ c = 0 ∧ 0 < i then (0, 0, 3) else if c < 128 then (unzig (u + c % 128 * 2 ^ (7 * i)), ((a + i + 1 : Nat) : Int), 0) else gn s a f (i + 1) (u + c % 128 * 2 ^ (7 * i))) := by
    intro x32 hx32
    by_cases cc : i = 9 ∧ 1 < c ∨ c = 0 ∧ 0 < i
    ·
     rw [if_pos cc]
     refine Ev.one (fun k => ?_)
     simp only [impl_getNum.j3]
     rw [if_pos (by rw [hx32]; simpa using cc)]
    ·
     rw [if_neg cc]
     have h9 : i = 9 → c % 128 ≤ 1 := by omega
     have h7p : (0 : Int) ≤ ((7 * i : Nat) : Int) := Int.natCast_nonneg _
     have hnext : c % 128 < 128 := by omega
     have hi9 : i ≤ 9 := by omega
     obtain ⟨h7, hc1, hat, hi1⟩ : wrap64 (7 * (i : Int)) = ((7 * i : Nat) : Int) ∧ IntKind.u64.wrap (Go.bits .and .u8 (c : Int) 127) = ((c % 128 : Nat) : Int) ∧
       wrap64 (((a + i : Nat) : Int) + 1) = ((a + i + 1 : Nat) : Int) ∧ wrap64 ((i : Int) + 1) = ((i + 1 : Nat) : Int) :=
      ⟨by unfold wrap64; clear hw hu; omega, by rw [bits_and127 c hlt, IntKind.wrap_u64]; clear hw hu; omega, by unfold wrap64; clear hw hu; omega, by unfold wrap64; clear hw hu; omega⟩
     obtain ⟨hsh, hshb⟩ := shl_fits (c % 128) i hnext hi9 h9
     have hsum := sum_lt u (c % 128) i hu hnext hi9 h9
     have hnx := next_lt u (c % 128) i hu hnext
     have hor := bits_or64 u (c % 128) (7 * i) hu hshb (Nat.lt_of_lt_of_le hu (Nat.le_trans (pow_le i hi9) (by decide)))
     clear hu hshb
     generalize c % 128 * 2 ^ (7 * i) = v at hsh hsum hor hnx ⊢
     by_cases c128 : c < 128
     ·
      rw [if_pos c128]
      refine Ev.one (fun k => ?_)
      have c128' : ((c : Int) < 128) := by clear h7 hat hi1 hc1 hsum hor hnx hw; omega
      simp only [impl_getNum.j3]
      rw [if_neg (by rw [hx32]; simpa using cc), h7, if_pos h7p, if_pos c128', hc1, hsh, hor, impl_unzig _ hsum, hw, hat]
     ·
      rw [if_neg c128]
      refine Ev.step (f := fun k => impl_getNum.l0 k s a ((u + v : Nat) : Int) ((i + 1 : Nat) : Int)) (fun k => ?_) ?_
      ·
       have c128' : ¬ ((c : Int) < 128) := by clear h7 hat hi1 hc1 hsum hor hnx hw; omega
       simp only [impl_getNum.j3]
       rw [if_neg (by rw [hx32]; simpa using cc), h7, if_pos h7p, if_neg c128', hc1, hsh, hor, hi1]
      ·
       exact ih (by clear hnx h7 hat hi1 hc1 hsum hor hw; omega) _ hnx
   have fin2 : ∀ x32 : Bool, x32 = decide (i = 9 ∧ 1 < c) →
     Ev (fun k => impl_getNum.j2 k s a (u : Int) (i : Int) (c : Int) x32) (if i = 9 ∧ 1 < c ∨ c = 0 ∧ 0 < i then (0, 0, 3) else if c < 128 then (unzig (u + c % 128 * 2 ^ (7 * i)), ((a + i + 1 : Nat) : Int), 0) else gn s a f (i + 1) (u + c % 128 * 2 ^ (7 * i))) := by
    intro x32 hx32
    by_cases c9 : i = 9 ∧ 1 < c
    ·
     refine Ev.step (f := fun k => impl_getNum.j3 k s a (u : Int) (i : Int) (c : Int) x32) (fun k => ?_) (fin3 x32 (by rw [hx32]; simp [c9]))
     simp only [impl_getNum.j2]
     rw [if_pos (by rw [hx32]; simpa using c9)]
    ·
     by_cases cz : c = 0
     ·
      refine Ev.step (f := fun k => impl_getNum.j3 k s a (u : Int) (i : Int) (c : Int) (decide ((i : Int) > 0))) (fun k => ?_) (fin3 _ ?_)
      ·
       simp only [impl_getNum.j2]
       rw [if_neg (by rw [hx32]; simpa using c9), if_pos (by omega)]
      ·
       rw [decide_eq_decide]; omega
     ·
      refine Ev.step (f := fun k => impl_getNum.j3 k s a (u : Int) (i : Int) (c : Int) false) (fun k => ?_) (fin3 _ ?_)
      ·
       simp only [impl_getNum.j2]
       rw [if_neg (by rw [hx32]; simpa using c9), if_neg (by omega)]
      ·
       symm; rw [decide_eq_false_iff_not]; omega
   by_cases i9 : i = 9
   ·
    refine Ev.step (f := fun k => impl_getNum.j2 k s a (u : Int) (i : Int) (c : Int) (decide ((c : Int) > 1))) (fun k => ?_) (fin2 _ ?_)
    ·
     simp only [impl_getNum.j1]
     rw [if_neg (by rw [hx]; simpa using c0), hw, if_pos (by omega), if_pos (by omega), if_pos (by omega), hb]
    ·
     rw [decide_eq_decide]; omega
   ·
    refine Ev.step (f := fun k => impl_getNum.j2 k s a (u : Int) (i : Int) (c : Int) false) (fun k => ?_) (fin2 _ ?_)
    ·
     simp only [impl_getNum.j1]
     rw [if_neg (by rw [hx]; simpa using c0), hw, if_pos (by omega), if_pos (by omega), if_neg (by omega), hb]
    ·
     symm; rw [decide_eq_false_iff_not]; omega
 by_cases ov : wrap64 ((a : Int) + (i : Int)) < (a : Int)
 ·
  refine Ev.step (f := fun k => impl_getNum.j1 k s a (u : Int) (i : Int) true) (fun k => ?_) (hlast true ?_)
  ·
   simp only [impl_getNum.l0]
   rw [if_pos ov]
  ·
   symm; rw [decide_eq_true_iff]; unfold wrap64 at ov; clear hlast hu; omega
 ·
  refine Ev.step (f := fun k => impl_getNum.j1 k s a (u : Int) (i : Int) (decide ((wrap64 ((a : Int) + (i : Int))) ≥ (s.size : Int)))) (fun k => ?_) (hlast _ ?_)
  ·
   simp only [impl_getNum.l0]
   rw [if_neg ov]
  ·
   rw [decide_eq_decide]; unfold wrap64 at ov ⊢; clear hlast hu; omega
theorem impl_gn (s : ByteArray) (hs : s.size ≤ 140737488351232) (a : Nat) (ha : a ≤ 9223372036854775807) (f : Nat) : ∀ (i u : Nat), i + f = 9 → u < 2 ^ (7 * i) →
  Ev (fun k => impl_getNum.l0 k s a (u : Int) (i : Int)) (gn s a (f + 1) i u) := by
 induction f with
 | zero =>
  intro i u hi hu
  exact impl_step s hs a ha 0 i u hi hu (fun h => absurd h (by omega))
 | succ f ih =>
  intro i u hi hu
  exact impl_step s hs a ha (f + 1) i u hi hu (fun _ u' h' => ih (i + 1) u' (by omega) h')
theorem impl_getNum_ev (s : ByteArray) (hs : s.size ≤ 140737488351232) (a : Int) (ha : a ≤ 9223372036854775807) : Ev (fun k => impl_getNum.f k s a) (getNumR s a) := by
 unfold impl_getNum.f getNumR
 by_cases c : a < 0
 ·
  rw [if_pos c]; exact Ev.pos c (Ev.now _)
 ·
  rw [if_neg c]; refine Ev.neg c ?_
  have := impl_gn s hs a.toNat (by omega) 9 0 0 rfl (by decide)
  rw [Int.toNat_of_nonneg (by omega)] at this
  exact this
theorem spec_unzig (u : Nat) (h : u < 18446744073709551616) :
  (if (Int.tmod (u : Int) 2) = 1 then wrap64 ((wrap64 (-(wrap64 (IntKind.u64.wrap (Int.tdiv (u : Int) 2))))) - 1) else wrap64 (IntKind.u64.wrap (Int.tdiv (u : Int) 2))) = unzig u := by
 have e1 : IntKind.u64.wrap (Int.tdiv (u : Int) 2) = ((u / 2 : Nat) : Int) := by
  rw [Int.tdiv_eq_ediv_of_nonneg (by omega), IntKind.wrap_u64]; omega
 have e2 : Int.tmod (u : Int) 2 = ((u % 2 : Nat) : Int) := by
  rw [Int.tmod_eq_emod_of_nonneg (by omega)]; omega
 rw [e1, e2]
 unfold unzig
 by_cases c : u % 2 = 1
 ·
  rw [if_pos c, if_pos (by omega)]; unfold wrap64; omega
 ·
  rw [if_neg c, if_neg (by omega)]; unfold wrap64; omega
theorem spec_gn (s : ByteArray) (hs : s.size ≤ 8000) (a : Nat) (ha : a ≤ 9223372036854775807) (f : Nat) : ∀ (i u : Nat), i + f = 10 → u < 2 ^ (7 * i) →
  Ev (fun k => spec_GetNum.l0 k s a (u : Int) (i : Int)) (gn s a f i u) := by
 induction f with
 | zero =>
  intro i u hi hu
  refine Ev.one (fun k => ?_)
  simp only [spec_GetNum.l0]
  rw [if_neg (by omega)]; rfl
 | succ f ih =>
  intro i u hi hu
  have hsz : wrap64 ((s.size : Int) - (i : Int)) = (s.size : Int) - (i : Int) := by unfold wrap64; omega
  unfold gn
  by_cases c0 : s.size ≤ a + i
  ·
   rw [if_pos c0]
   refine Ev.one (fun k => ?_)
   simp only [spec_GetNum.l0]
   rw [if_pos (by omega), hsz, if_pos (by omega)]
  ·
   rw [if_neg c0]
   have hb := bt_byte (s := s) (i := a + i) (by clear hsz; omega)
   have hlt := byteAt_lt s (a + i)
   generalize byteAt s (a + i) = c at hb hlt
   obtain ⟨hw, hc64, h7, hi1, hcm⟩ : wrap64 ((a : Int) + (i : Int)) = ((a + i : Nat) : Int) ∧ IntKind.u64.wrap (c : Int) = (c : Int) ∧ IntKind.u64.wrap (wrap64 (7 * (i : Int))) = ((7 * i : Nat) : Int) ∧
     wrap64 ((i : Int) + 1) = ((i + 1 : Nat) : Int) ∧ Int.tmod (c : Int) 128 = ((c % 128 : Nat) : Int) :=
    ⟨by unfold wrap64; clear hsz hu; omega, by rw [IntKind.wrap_u64]; clear hsz hu; omega, by rw [IntKind.wrap_u64]; unfold wrap64; clear hsz hu; omega, by unfold wrap64; clear hsz hu; omega,
     by rw [Int.tmod_eq_emod_of_nonneg (by omega)]; clear hsz hu; omega⟩
   have hat : wrap64 ((wrap64 ((a : Int) + (i : Int))) + 1) = ((a + i + 1 : Nat) : Int) := by rw [hw]; unfold wrap64; clear hw hc64 h7 hi1 hsz hu hcm; omega
   obtain ⟨p10, psz, pa0, pas⟩ : (i : Int) < 10 ∧ ¬ ((a : Int) ≥ (s.size : Int) - (i : Int)) ∧ (0 : Int) ≤ ((a + i : Nat) : Int) ∧ ((a + i : Nat) : Int) < (s.size : Int) := by
    clear hw hc64 h7 hi1 hsz hu hcm hat; omega
   have fin1 : ∀ x38 : Bool, x38 = decide (i = 9 ∧ 1 < c) →
     Ev (fun k => spec_GetNum.j1 k s a (u : Int) (i : Int) (c : Int) x38) (if i = 9 ∧ 1 < c ∨ c = 0 ∧ 0 < i then (0, 0, 3) else if c < 128 then (unzig (u + c % 128 * 2 ^ (7 * i)), ((a + i + 1 : Nat) : Int), 0) else gn s a f (i + 1) (u + c % 128 * 2 ^ (7 * i))) := by
    intro x38 hx
    by_cases c9 : i = 9 ∧ 1 < c
    ·
     rw [if_pos (Or.inl c9)]
     refine Ev.one (fun k => ?_)
     simp only [spec_GetNum.j1]
     rw [if_pos (by rw [hx]; simpa using c9)]
    ·
     have h9 : i = 9 → c % 128 ≤ 1 := by clear hw hc64 h7 hi1 hsz hcm hat hb hu; omega
     have h7p : (0 : Int) ≤ ((7 * i : Nat) : Int) := Int.natCast_nonneg _
     have hnext : c % 128 < 128 := by clear hw hc64 h7 hi1 hsz hcm hat hb hu; omega
     have hi9 : i ≤ 9 := by clear hw hc64 h7 hi1 hsz hcm hat hb hu; omega
     obtain ⟨hsh, hshb⟩ := shl_fits (c % 128) i hnext hi9 h9
     have hsum := sum_lt u (c % 128) i hu hnext hi9 h9
     have hnx := next_lt u (c % 128) i hu hnext
     clear hu hshb
     generalize c % 128 * 2 ^ (7 * i) = v at hsh hsum hnx ⊢
     have hadd : IntKind.u64.wrap ((u : Int) + (v : Int)) = ((u + v : Nat) : Int) := by rw [IntKind.wrap_u64]; clear hw hc64 h7 hi1 hsz hcm hat hb hnx hsh; omega
     by_cases c128 : c < 128
     ·
      have fin2 : ∀ x55 : Bool, x55 = decide (c = 0 ∧ 0 < i) →
        Ev (fun k => spec_GetNum.j2 k a ((u + v : Nat) : Int) (i : Int) x55) (if i = 9 ∧ 1 < c ∨ c = 0 ∧ 0 < i then (0, 0, 3) else if c < 128 then (unzig (u + v), ((a + i + 1 : Nat) : Int), 0) else gn s a f (i + 1) (u + v)) := by
       intro x55 hx5
       have su := spec_unzig _ hsum
       clear hnx hadd hsh hw hc64 h7 hi1 hsz hcm hb
       generalize u + v = v at su ⊢
       by_cases cz : c = 0 ∧ 0 < i
       ·
        rw [if_pos (Or.inr cz)]
        refine Ev.one (fun k => ?_)
        simp only [spec_GetNum.j2]
        rw [if_pos (by rw [hx5]; simpa using cz)]
       ·
        rw [if_neg (fun h => h.elim c9 cz), if_pos c128]
        refine Ev.one (fun k => ?_)
        simp only [spec_GetNum.j2]
        rw [if_neg (by rw [hx5]; simpa using cz), hat, ← su]
        split <;> rfl
      by_cases cz : c = 0
      ·
       refine Ev.step (f := fun k => spec_GetNum.j2 k a ((u + v : Nat) : Int) (i : Int) (decide ((i : Int) > 0))) (fun k => ?_) (fin2 _ ?_)
       ·
        simp only [spec_GetNum.j1]
        rw [if_neg (by rw [hx]; simpa using c9), h7, if_pos h7p, if_pos (by clear hw hc64 h7 hi1 hsz hcm hat hb hsh hadd hsum hnx fin2 h9 hx; omega), if_pos (by rw [cz]; rfl), hcm, hsh, hadd]
       ·
        rw [decide_eq_decide]; clear hw hc64 h7 hi1 hsz hcm hat hb hsh hadd hsum hnx fin2 h9 hx; omega
      ·
       refine Ev.step (f := fun k => spec_GetNum.j2 k a ((u + v : Nat) : Int) (i : Int) false) (fun k => ?_) (fin2 _ ?_)
       ·
        simp only [spec_GetNum.j1]
        rw [if_neg (by rw [hx]; simpa using c9), h7, if_pos h7p, if_pos (by clear hw hc64 h7 hi1 hsz hcm hat hb hsh hadd hsum hnx fin2 h9 hx; omega), if_neg (by clear hw hc64 h7 hi1 hsz hcm hat hb hsh hadd hsum hnx fin2 h9 hx; omega), hcm, hsh, hadd]
       ·
        symm; rw [decide_eq_false_iff_not]; clear hw hc64 h7 hi1 hsz hcm hat hb hsh hadd hsum hnx fin2 h9 hx; omega
     ·
      rw [if_neg (by clear hw hc64 h7 hi1 hsz hcm hat hb hnx hsh hadd hsum; omega), if_neg c128]
      refine Ev.step (f := fun k => spec_GetNum.l0 k s a ((u + v : Nat) : Int) ((i + 1 : Nat) : Int)) (fun k => ?_) ?_
      ·
       simp only [spec_GetNum.j1]
       rw [if_neg (by rw [hx]; simpa using c9), h7, if_pos h7p, if_neg (by clear hw hc64 h7 hi1 hsz hcm hat hb hsh hadd hsum hnx; omega), hcm, hsh, hadd, hi1]
      ·
       exact ih (i + 1) _ (by clear hw hc64 h7 hi1 hsz hcm hat hb hnx hsh hadd hsum; omega) hnx
   by_cases i9 : i = 9
   ·
    refine Ev.step (f := fun k => spec_GetNum.j1 k s a (u : Int) (i : Int) (c : Int) (decide ((c : Int) > 1))) (fun k => ?_) (fin1 _ ?_)
    ·
     simp only [spec_GetNum.l0]
     rw [if_pos p10, hsz, if_neg psz, hw, if_pos pa0, if_pos pas, if_pos (by rw [i9]; rfl), hb, hc64]
    ·
     rw [decide_eq_decide]; clear hw hc64 h7 hi1 hsz hcm hat hb; omega
   ·
    refine Ev.step (f := fun k => spec_GetNum.j1 k s a (u : Int) (i : Int) (c : Int) false) (fun k => ?_) (fin1 _ ?_)
    ·
     simp only [spec_GetNum.l0]
     rw [if_pos p10, hsz, if_neg psz, hw, if_pos pa0, if_pos pas, if_neg (by clear hw hc64 h7 hi1 hsz hcm hat hb hu fin1; omega), hb, hc64]
    ·
     symm; rw [decide_eq_false_iff_not]; clear hw hc64 h7 hi1 hsz hcm hat hb; omega
def getNumS (s : ByteArray) (a : Int) : Int × Int × Int := if s.size > 8000 then (0, 0, 2) else getNumR s a
theorem spec_GetNum_ev (s : ByteArray) (hs : s.size ≤ 140737488351232) (a : Int) (ha : a ≤ 9223372036854775807) : Ev (fun k => spec_GetNum.f k s a) (getNumS s a) := by
 unfold spec_GetNum.f getNumS getNumR
 by_cases c8 : s.size > 8000
 ·
  rw [if_pos c8]; exact Ev.pos (by omega) (Ev.now _)
 ·
  rw [if_neg c8]; refine Ev.neg (by omega) ?_
  by_cases c : a < 0
  ·
   rw [if_pos c]; exact Ev.pos c (Ev.now _)
  ·
   rw [if_neg c]; refine Ev.neg c ?_
   have := spec_gn s (by omega) a.toNat (by omega) 10 0 0 rfl (by decide)
   rw [Int.toNat_of_nonneg (by omega)] at this
   exact this
theorem gn_cases (s : ByteArray) (a f : Nat) : ∀ i u : Nat, (gn s a f i u).2.2 = 3 ∧ gn s a f i u = (0, 0, 3) ∨ gn s a f i u = (0, 0, 4) ∨
  (gn s a f i u).2.2 = 0 ∧ ∃ e : Nat, (gn s a f i u).2.1 = (e : Int) ∧ a + i < e ∧ e ≤ s.size := by
 induction f with
 | zero => intro i u; exact Or.inl ⟨rfl, rfl⟩
 | succ f ih =>
  intro i u
  unfold gn
  by_cases c0 : s.size ≤ a + i
  ·
   rw [if_pos c0]; exact Or.inr (Or.inl rfl)
  ·
   rw [if_neg c0]
   split
   ·
    exact Or.inl ⟨rfl, rfl⟩
   ·
    split
    ·
     exact Or.inr (Or.inr ⟨rfl, a + i + 1, rfl, by omega, by omega⟩)
    ·
     rcases ih (i + 1) (u + byteAt s (a + i) % 128 * 2 ^ (7 * i)) with h | h | ⟨h, e, h1, h2, h3⟩
     ·
      exact Or.inl h
     ·
      exact Or.inr (Or.inl h)
     ·
      exact Or.inr (Or.inr ⟨h, e, h1, by omega, h3⟩)
theorem unzig_wf (u : Nat) (h : u < 18446744073709551616) : -9223372036854775808 ≤ unzig u ∧ unzig u ≤ 9223372036854775807 := by
 unfold unzig; split <;> omega
theorem gn_wf (s : ByteArray) (a f : Nat) : ∀ i u : Nat, i + f = 10 → u < 2 ^ (7 * i) → -9223372036854775808 ≤ (gn s a f i u).1 ∧ (gn s a f i u).1 ≤ 9223372036854775807 := by
 induction f with
 | zero => intro i u _ _; exact ⟨by show (-9223372036854775808 : Int) ≤ 0; omega, by show (0 : Int) ≤ _; omega⟩
 | succ f ih =>
  intro i u hi hu
  unfold gn
  by_cases c0 : s.size ≤ a + i
  ·
   rw [if_pos c0]; exact ⟨by show (-9223372036854775808 : Int) ≤ 0; omega, by show (0 : Int) ≤ _; omega⟩
  ·
   rw [if_neg c0]
   split
   ·
    exact ⟨by show (-9223372036854775808 : Int) ≤ 0; omega, by show (0 : Int) ≤ _; omega⟩
   ·
    rename_i hc
    have hlt := byteAt_lt s (a + i)
    split
    ·
     exact unzig_wf _ (sum_lt u _ i hu (by omega) (by omega) (by omega))
    ·
     exact ih (i + 1) _ (by omega) (next_lt u _ i hu (by omega))
def textAt (s : ByteArray) (x : Int × Int × Int) : ByteArray × Int × Int :=
 if x.2.2 ≠ 0 then (⟨#[]⟩, 0, x.2.2) else if x.1 < 0 ∨ 8000 < x.1 then (⟨#[]⟩, 0, 3) else
 if (s.size : Int) < x.2.1 + x.1 then (⟨#[]⟩, 0, 4) else (s.extract x.2.1.toNat (x.2.1 + x.1).toNat, x.2.1 + x.1, 0)
theorem textAt_ok (s : ByteArray) (x : Int × Int × Int) (h : x.2.2 = 0) : textAt s x = if x.1 < 0 ∨ 8000 < x.1 then (⟨#[]⟩, 0, 3) else
 if (s.size : Int) < x.2.1 + x.1 then (⟨#[]⟩, 0, 4) else (s.extract x.2.1.toNat (x.2.1 + x.1).toNat, x.2.1 + x.1, 0) := by
 unfold textAt; rw [if_neg (fun g => g h)]
theorem textAt_no (s : ByteArray) (x : Int × Int × Int) (h : ¬ x.2.2 = 0) : textAt s x = (⟨#[]⟩, 0, x.2.2) := by
 unfold textAt; rw [if_pos h]
def getTextS (s : ByteArray) (a : Int) : ByteArray × Int × Int := textAt s (getNumS s a)
theorem getNumS_cases (s : ByteArray) (a : Int) : (getNumS s a).2.2 ≠ 0 ∨ (getNumS s a).2.2 = 0 ∧ s.size ≤ 8000 ∧ 0 < (getNumS s a).2.1 ∧ (getNumS s a).2.1 ≤ s.size := by
 unfold getNumS getNumR
 split
 ·
  exact Or.inl (show (2 : Int) ≠ 0 by decide)
 ·
  split
  ·
   exact Or.inl (show (1 : Int) ≠ 0 by decide)
  ·
   rcases gn_cases s a.toNat 10 0 0 with h | h | ⟨h, e, h1, h2, h3⟩
   ·
    exact Or.inl (by rw [h.1]; decide)
   ·
    exact Or.inl (by rw [h]; decide)
   ·
    exact Or.inr ⟨h, by omega, by rw [h1]; omega, by rw [h1]; omega⟩
theorem spec_GetText_ev (s : ByteArray) (hs : s.size ≤ 140737488351232) (a : Int) (ha : a ≤ 9223372036854775807) : Ev (fun k => spec_GetText.f k s a) (getTextS s a) := by
 unfold spec_GetText.f getTextS
 refine Ev.bind (spec_GetNum_ev s hs a ha) ?_
 have hc := getNumS_cases s a
 generalize getNumS s a = x at hc
 unfold textAt
 by_cases c0 : x.2.2 = 0
 ·
  rw [if_neg (fun h => h c0)]
  obtain ⟨h1, h2, h3⟩ : s.size ≤ 8000 ∧ 0 < x.2.1 ∧ x.2.1 ≤ s.size := by
   rcases hc with h | ⟨_, h1, h2, h3⟩
   ·
    exact absurd c0 h
   ·
    exact ⟨h1, h2, h3⟩
  refine Ev.pos c0 ?_
  have last : ∀ b : Bool, b = decide (x.1 < 0 ∨ 8000 < x.1) → Ev (fun k => spec_GetText.j0 k s b x.1 x.2.1 x.2.2)
    (if x.1 < 0 ∨ 8000 < x.1 then (⟨#[]⟩, 0, 3) else if (s.size : Int) < x.2.1 + x.1 then (⟨#[]⟩, 0, 4) else (s.extract x.2.1.toNat (x.2.1 + x.1).toNat, x.2.1 + x.1, 0)) := by
   intro b hb
   refine Ev.one (fun k => ?_)
   simp only [spec_GetText.j0]
   by_cases cr : x.1 < 0 ∨ 8000 < x.1
   ·
    rw [if_pos cr, if_pos (by rw [hb]; simpa using cr)]
   ·
    rw [if_neg cr, if_neg (by rw [hb]; simpa using cr)]
    have e1 : wrap64 ((s.size : Int) - x.1) = (s.size : Int) - x.1 := by unfold wrap64; omega
    have e2 : wrap64 (x.2.1 + x.1) = x.2.1 + x.1 := by unfold wrap64; omega
    rw [e1, e2]
    by_cases cs : (s.size : Int) < x.2.1 + x.1
    ·
     rw [if_pos cs, if_pos (by omega)]
    ·
     rw [if_neg cs, if_neg (by omega), if_pos (by omega), if_pos (by omega), if_pos (by omega)]
  by_cases cn : x.1 < 0
  ·
   exact Ev.pos cn (last true (by symm; rw [decide_eq_true_iff]; exact Or.inl cn))
  ·
   exact Ev.neg cn (last _ (by rw [decide_eq_decide]; omega))
 ·
  rw [if_pos c0]; exact Ev.neg c0 (Ev.now _)
theorem impl_GetText_ev (s : ByteArray) (hs : s.size ≤ 140737488351232) (a : Int) (ha : a ≤ 9223372036854775807) : Ev (fun k => impl_GetText.f k s a) (getTextS s a) := by
 unfold impl_GetText.f getTextS
 have hc := getNumS_cases s a
 by_cases c8 : s.size > 8000
 ·
  refine Ev.pos (by omega) (Ev.to ?_ (Ev.now _))
  unfold getNumS textAt
  rw [if_pos c8]; rfl
 ·
  refine Ev.neg (by omega) ?_
  have e : getNumS s a = getNumR s a := by unfold getNumS; rw [if_neg c8]
  rw [e] at hc ⊢
  refine Ev.bind (impl_getNum_ev s hs a ha) ?_
  generalize getNumR s a = x at hc
  by_cases c0 : x.2.2 = 0
  ·
   rw [textAt_ok s x c0]
   obtain ⟨h1, h2, h3⟩ : s.size ≤ 8000 ∧ 0 < x.2.1 ∧ x.2.1 ≤ s.size := by
    rcases hc with h | ⟨_, h1, h2, h3⟩
    ·
     exact absurd c0 h
    ·
     exact ⟨h1, h2, h3⟩
   refine Ev.pos c0 (Ev.take (in_eq _ _ _) ?_)
   by_cases cr : x.1 < 0 ∨ 8000 < x.1
   ·
    rw [if_pos cr]; exact Ev.neg (by simp; omega) (Ev.now _)
   ·
    rw [if_neg cr]
    have e2 : wrap64 (x.2.1 + x.1) = x.2.1 + x.1 := by unfold wrap64; omega
    rw [e2]
    refine Ev.pos (by simp; omega) ?_
    by_cases cs : (s.size : Int) < x.2.1 + x.1
    ·
     exact Ev.to (if_pos cs).symm (Ev.pos cs (Ev.now _))
    ·
     exact Ev.to (if_neg cs).symm (Ev.neg cs (Ev.pos (by omega) (Ev.pos (by omega) (Ev.pos (by omega) (Ev.now _)))))
  ·
   rw [textAt_no s x c0]; exact Ev.neg c0 (Ev.now _)
theorem Ev.uniq {α : Type} {g : Nat → Option α} {r q : α} (h1 : Ev g r) (h2 : Ev g q) : r = q := by
 obtain ⟨a, ha⟩ := h1
 obtain ⟨b, hb⟩ := h2
 exact Option.some.inj ((ha (max a b) (Nat.le_max_left _ _)).symm.trans (hb _ (Nat.le_max_right _ _)))
theorem getNumR_facts (s : ByteArray) (a : Int) : i64r (getNumR s a).1 ∧ 0 ≤ (getNumR s a).2.1 ∧ (getNumR s a).2.1 ≤ s.size := by
 unfold getNumR
 by_cases c : a < 0
 ·
  rw [if_pos c]; exact ⟨⟨by show (-9223372036854775808 : Int) ≤ 0; omega, by show (0 : Int) ≤ _; omega⟩, by show (0 : Int) ≤ 0; omega, by show (0 : Int) ≤ _; omega⟩
 ·
  rw [if_neg c]
  refine ⟨gn_wf s a.toNat 10 0 0 rfl (by decide), ?_⟩
  rcases gn_cases s a.toNat 10 0 0 with h | h | ⟨h, e, h1, h2, h3⟩
  ·
   rw [h.2]; exact ⟨by show (0 : Int) ≤ 0; omega, by show (0 : Int) ≤ _; omega⟩
  ·
   rw [h]; exact ⟨by show (0 : Int) ≤ 0; omega, by show (0 : Int) ≤ _; omega⟩
  ·
   rw [h1]; omega
def Rd (b : ByteArray) (a : Int) (bad : Bool) (a' : Int) : Prop := (0 ≤ a ∧ a ≤ b.size) ∧ (0 ≤ a' ∧ a' ≤ b.size) ∧ (bad = false → a = a')
theorem num_both (b : ByteArray) (hb : b.size ≤ 8000) (a : Int) (bad : Bool) (a' : Int) (h : Rd b a bad a') :
  ∃ n n' a1 bad1 a1', Ev (fun k => spec_l02Reader_num.f k b a bad) (n, b, a1, bad1) ∧ Ev (fun k => impl_decoder_num.f k b a' bad) (n', b, a1', bad1) ∧ Rd b a1 bad1 a1' ∧ (bad1 = false → bad = false ∧ n = n') ∧ i64r n ∧ i64r n' := by
 obtain ⟨h1, h2, h3⟩ := h
 have hS := spec_GetNum_ev b (by omega) a (by omega)
 have hI := impl_getNum_ev b (by omega) a' (by omega)
 rw [show getNumS b a = getNumR b a from by unfold getNumS; rw [if_neg (by omega)]] at hS
 have f1 := getNumR_facts b a
 have f2 := getNumR_facts b a'
 have z0 : i64r 0 := ⟨by omega, by omega⟩
 cases bad with
 | true =>
  exact ⟨0, (getNumR b a').1, a, true, (getNumR b a').2.1, by unfold spec_l02Reader_num.f; exact Ev.bind hS (Ev.pos rfl (Ev.now _)), by unfold impl_decoder_num.f; exact Ev.bind hI (Ev.pos rfl (Ev.now _)), ⟨h1, f2.2, fun e => by cases e⟩, fun e => (by cases e), z0, f2.1⟩
 | false =>
  obtain rfl := h3 rfl
  by_cases c : (getNumR b a).2.2 = 0
  ·
   refine ⟨(getNumR b a).1, (getNumR b a).1, (getNumR b a).2.1, false, (getNumR b a).2.1, by unfold spec_l02Reader_num.f; exact Ev.bind hS (Ev.neg (by simp) (Ev.pos c (Ev.now _))), ?_, ⟨f1.2, f1.2, fun _ => rfl⟩, fun _ => ⟨rfl, rfl⟩, f1.1, f1.1⟩
   unfold impl_decoder_num.f
   refine Ev.bind hI (Ev.neg (by simp) (Ev.to ?_ (Ev.now _)))
   rw [c]; rfl
  ·
   refine ⟨0, (getNumR b a).1, a, true, (getNumR b a).2.1, by unfold spec_l02Reader_num.f; exact Ev.bind hS (Ev.neg (by simp) (Ev.neg c (Ev.now _))), ?_, ⟨h1, f1.2, fun e => by cases e⟩, fun e => (by cases e), z0, f1.1⟩
   unfold impl_decoder_num.f
   refine Ev.bind hI (Ev.neg (by simp) (Ev.to ?_ (Ev.now _)))
   rw [show ((getNumR b a).2.2 != 0) = true from bne_iff_ne.mpr c]
theorem snum_any (b : ByteArray) (hb : b.size ≤ 8000) (a : Int) (bad : Bool) (h : 0 ≤ a ∧ a ≤ b.size) : ∃ n a1 bad1, Ev (fun k => spec_l02Reader_num.f k b a bad) (n, b, a1, bad1) ∧ (0 ≤ a1 ∧ a1 ≤ b.size) ∧ (bad1 = false → bad = false) ∧ i64r n := by
 obtain ⟨n, _, a1, b1, _, h1, _, h2, h3, h4, _⟩ := num_both b hb a bad a ⟨h, h, fun _ => rfl⟩
 exact ⟨n, a1, b1, h1, h2.1, fun e => (h3 e).1, h4⟩
theorem inum_any (b : ByteArray) (hb : b.size ≤ 8000) (a : Int) (bad : Bool) (h : 0 ≤ a ∧ a ≤ b.size) : ∃ n a1 bad1, Ev (fun k => impl_decoder_num.f k b a bad) (n, b, a1, bad1) ∧ (0 ≤ a1 ∧ a1 ≤ b.size) ∧ (bad1 = false → bad = false) ∧ i64r n := by
 obtain ⟨_, n, _, b1, a1, _, h1, h2, h3, _, h4⟩ := num_both b hb a bad a ⟨h, h, fun _ => rfl⟩
 exact ⟨n, a1, b1, h1, h2.2.1, fun e => (h3 e).1, h4⟩
theorem getTextS_facts (s : ByteArray) (hs : s.size ≤ 8000) (a : Int) : (getTextS s a).1.size ≤ s.size ∧ 0 ≤ (getTextS s a).2.1 ∧ (getTextS s a).2.1 ≤ s.size := by
 unfold getTextS textAt
 have hc := getNumS_cases s a
 generalize getNumS s a = x at hc
 have z : (⟨#[]⟩ : ByteArray).size ≤ s.size ∧ (0 : Int) ≤ 0 ∧ (0 : Int) ≤ s.size := ⟨Nat.zero_le _, by omega, by omega⟩
 by_cases c0 : x.2.2 = 0
 ·
  rw [if_neg (fun h => h c0)]
  obtain ⟨_, h2, h3⟩ : s.size ≤ 8000 ∧ 0 < x.2.1 ∧ x.2.1 ≤ s.size := by
   rcases hc with h | ⟨_, h1, h2, h3⟩
   ·
    exact absurd c0 h
   ·
    exact ⟨h1, h2, h3⟩
  by_cases c1 : x.1 < 0 ∨ 8000 < x.1
  ·
   rw [if_pos c1]; exact z
  ·
   rw [if_neg c1]
   by_cases c2 : (s.size : Int) < x.2.1 + x.1
   ·
    rw [if_pos c2]; exact z
   ·
    rw [if_neg c2]
    refine ⟨?_, by show 0 ≤ x.2.1 + x.1; omega, by show x.2.1 + x.1 ≤ s.size; omega⟩
    show (s.extract x.2.1.toNat (x.2.1 + x.1).toNat).size ≤ s.size
    rw [ByteArray.size_extract]; omega
 ·
  rw [if_pos c0]; exact z
theorem str_both (b : ByteArray) (hb : b.size ≤ 8000) (a : Int) (bad : Bool) (a' : Int) (h : Rd b a bad a') :
  ∃ n n' a1 bad1 a1', Ev (fun k => spec_l02Reader_text.f k b a bad) (n, b, a1, bad1) ∧ Ev (fun k => impl_decoder_str.f k b a' bad) (n', b, a1', bad1) ∧ Rd b a1 bad1 a1' ∧ (bad1 = false → bad = false ∧ n = n') ∧ n.size ≤ 8000 ∧ n'.size ≤ 8000 := by
 obtain ⟨h1, h2, h3⟩ := h
 have hS := spec_GetText_ev b (by omega) a (by omega)
 have hI := impl_GetText_ev b (by omega) a' (by omega)
 have f1 := getTextS_facts b hb a
 have f2 := getTextS_facts b hb a'
 have z0 : (⟨#[]⟩ : ByteArray).size ≤ 8000 := Nat.zero_le _
 cases bad with
 | true =>
  exact ⟨⟨#[]⟩, (getTextS b a').1, a, true, (getTextS b a').2.1, by unfold spec_l02Reader_text.f; exact Ev.bind hS (Ev.pos rfl (Ev.now _)), by unfold impl_decoder_str.f; exact Ev.bind hI (Ev.pos rfl (Ev.now _)), ⟨h1, f2.2, fun e => by cases e⟩, fun e => (by cases e), z0, Nat.le_trans f2.1 hb⟩
 | false =>
  obtain rfl := h3 rfl
  by_cases c : (getTextS b a).2.2 = 0
  ·
   refine ⟨(getTextS b a).1, (getTextS b a).1, (getTextS b a).2.1, false, (getTextS b a).2.1, by unfold spec_l02Reader_text.f; exact Ev.bind hS (Ev.neg (by simp) (Ev.pos c (Ev.now _))), ?_, ⟨f1.2, f1.2, fun _ => rfl⟩, fun _ => ⟨rfl, rfl⟩, Nat.le_trans f1.1 hb, Nat.le_trans f1.1 hb⟩
   unfold impl_decoder_str.f
   refine Ev.bind hI (Ev.neg (by simp) (Ev.to ?_ (Ev.now _)))
   rw [c]; rfl
  ·
   refine ⟨⟨#[]⟩, (getTextS b a).1, a, true, (getTextS b a).2.1, by unfold spec_l02Reader_text.f; exact Ev.bind hS (Ev.neg (by simp) (Ev.neg c (Ev.now _))), ?_, ⟨h1, f1.2, fun e => by cases e⟩, fun e => (by cases e), z0, Nat.le_trans f1.1 hb⟩
   unfold impl_decoder_str.f
   refine Ev.bind hI (Ev.neg (by simp) (Ev.to ?_ (Ev.now _)))
   rw [show ((getTextS b a).2.2 != 0) = true from bne_iff_ne.mpr c]
abbrev EvT := Int × Int × Int × Int × Int × Int × ByteArray × List Int × Int × Int
def evZ : EvT := (0, 0, 0, 0, 0, 0, ⟨#[]⟩, [], 0, 3)
def EvOk (t : ByteArray) (R : EvT) : Prop := R.2.2.2.2.2.2.2.1.length ≤ 9 ∧ (R.2.2.2.2.2.2.2.2.2 = 0 → Ev (fun k => impl_EventBytes.f k R.1 R.2.1 R.2.2.1 R.2.2.2.1 R.2.2.2.2.1 R.2.2.2.2.2.1 R.2.2.2.2.2.2.1 R.2.2.2.2.2.2.2.1 R.2.2.2.2.2.2.2.2.1) t)
theorem evOk_z (t : ByteArray) : EvOk t evZ := ⟨Nat.zero_le _, fun h => absurd (show (3 : Int) = 0 from h) (by decide)⟩
theorem evRight_long {a0 a1 a2 a3 a4 a5 : Int} {s : ByteArray} {l : List Int} {t : Int} (h : 4 < l.length) : evRight a0 a1 a2 a3 a4 a5 s l t = false := by
 rw [Bool.eq_false_iff]
 intro e
 unfold evRight evRight0 prevRight at e
 simp only [Bool.and_eq_true, decide_eq_true_iff] at e
 omega
theorem nil_ne {t : ByteArray} (ht : 0 < t.size) : ¬ (⟨#[]⟩ : ByteArray).toList = t.toList := by
 rw [(size_zero_iff ⟨#[]⟩).2 rfl]
 intro e
 have := (size_zero_iff t).1 e.symm
 omega
theorem sfin_bad (t : ByteArray) (ht : 0 < t.size) (b : ByteArray) (hb : b.size ≤ 8000) (f0 f1 f2 f3 f4 f5 : Int) (s : ByteArray) (h0 : i64r f0) (h1 : i64r f1) (h2 : i64r f2) (h3 : i64r f3) (h4 : i64r f4) (h5 : i64r f5) (hs : s.size ≤ 8000) (a : Int) (bad : Bool) (l : List Int) (ha : 0 ≤ a ∧ a ≤ b.size) (hl : ∀ x ∈ l, i64r x) (hn : l.length ≤ 9) (h : bad = true ∨ 4 < l.length) :
  Ev (fun k => spec_EventRead.j1 k t b a bad f0 f1 f2 f3 f4 f5 s l 0) evZ := by
 obtain ⟨n, a1, b1, hN, _, hb1, hn1⟩ := snum_any b hb a bad ha
 refine Ev.step (f := fun k => spec_EventRead.j1 (k + 1) t b a bad f0 f1 f2 f3 f4 f5 s l 0) (fun k => rfl) ?_
 simp only [spec_EventRead.j1]
 refine Ev.bind hN ?_
 cases b1 with
 | true => exact Ev.pos (by first | rfl | trivial) (Ev.now _)
 | false =>
  have hl4 : 4 < l.length := by
   rcases h with h | h
   ·
    rw [hb1 rfl] at h; cases h
   ·
    exact h
  refine Ev.neg (by simp) (Ev.bind (spec_EB_ev f0 f1 f2 f3 f4 f5 s l n h0 h1 h2 h3 h4 h5 (by omega) hl (by omega) hn1) ?_)
  rw [evRight_long hl4]
  exact Ev.neg (by rw [if_neg (by simp)]; exact nil_ne ht) (Ev.now _)
theorem ifin_bad (t : ByteArray) (ht : 0 < t.size) (b : ByteArray) (hb : b.size ≤ 8000) (f0 f1 f2 f3 f4 f5 : Int) (s : ByteArray) (h0 : i64r f0) (h1 : i64r f1) (h2 : i64r f2) (h3 : i64r f3) (h4 : i64r f4) (h5 : i64r f5) (hs : s.size ≤ 8000) (a : Int) (bad : Bool) (l : List Int) (ha : 0 ≤ a ∧ a ≤ b.size) (hl : ∀ x ∈ l, i64r x) (hn : l.length ≤ 9) (h : bad = true ∨ 4 < l.length) :
  Ev (fun k => impl_EventRead.j1 k t b a bad f0 f1 f2 f3 f4 f5 s l 0) evZ := by
 obtain ⟨n, a1, b1, hN, _, hb1, hn1⟩ := inum_any b hb a bad ha
 refine Ev.step (f := fun k => impl_EventRead.j1 (k + 1) t b a bad f0 f1 f2 f3 f4 f5 s l 0) (fun k => rfl) ?_
 simp only [impl_EventRead.j1]
 refine Ev.bind hN ?_
 cases b1 with
 | true => exact Ev.pos (by first | rfl | trivial) (Ev.now _)
 | false =>
  have hl4 : 4 < l.length := by
   rcases h with h | h
   ·
    rw [hb1 rfl] at h; cases h
   ·
    exact h
  refine Ev.neg (by simp) (Ev.bind (impl_EB_ev f0 f1 f2 f3 f4 f5 s l n h0 h1 h2 h3 h4 h5 (by omega) hl (by omega) hn1) ?_)
  rw [evRight_long hl4]
  exact Ev.neg (by rw [if_neg (by simp)]; exact nil_ne ht) (Ev.now _)
theorem fin_both (t : ByteArray) (ht : 0 < t.size) (b : ByteArray) (hb : b.size ≤ 8000) (f0 f1 f2 f3 f4 f5 : Int) (s : ByteArray) (h0 : i64r f0) (h1 : i64r f1) (h2 : i64r f2) (h3 : i64r f3) (h4 : i64r f4) (h5 : i64r f5) (hs : s.size ≤ 8000) (a : Int) (l : List Int) (ha : 0 ≤ a ∧ a ≤ b.size) (hl : ∀ x ∈ l, i64r x) (hn : l.length ≤ 9) :
  ∃ R : EvT, EvOk t R ∧ Ev (fun k => spec_EventRead.j1 k t b a false f0 f1 f2 f3 f4 f5 s l 0) R ∧ Ev (fun k => impl_EventRead.j1 k t b a false f0 f1 f2 f3 f4 f5 s l 0) R := by
 obtain ⟨n, n', a1, b1, a1', hN, hN', _, hb1, hn1, hn1'⟩ := num_both b hb a false a ⟨ha, ha, fun _ => rfl⟩
 cases b1 with
 | true =>
  refine ⟨evZ, evOk_z t, ?_, ?_⟩
  ·
   refine Ev.step (f := fun k => spec_EventRead.j1 (k + 1) t b a false f0 f1 f2 f3 f4 f5 s l 0) (fun k => rfl) ?_
   simp only [spec_EventRead.j1]
   exact Ev.bind hN (Ev.pos (by first | rfl | trivial) (Ev.now _))
  ·
   refine Ev.step (f := fun k => impl_EventRead.j1 (k + 1) t b a false f0 f1 f2 f3 f4 f5 s l 0) (fun k => rfl) ?_
   simp only [impl_EventRead.j1]
   exact Ev.bind hN' (Ev.pos (by first | rfl | trivial) (Ev.now _))
 | false =>
  obtain ⟨_, rfl⟩ := hb1 rfl
  have hS := spec_EB_ev f0 f1 f2 f3 f4 f5 s l n h0 h1 h2 h3 h4 h5 (by omega) hl (by omega) hn1
  have hI := impl_EB_ev f0 f1 f2 f3 f4 f5 s l n h0 h1 h2 h3 h4 h5 (by omega) hl (by omega) hn1
  generalize (if evRight f0 f1 f2 f3 f4 f5 s l n = true then sealed (evB f0 f1 f2 f3 f4 f5 s l n) else ⟨#[]⟩) = X at hS hI
  by_cases c : X.toList = t.toList
  ·
   refine ⟨(f0, f1, f2, f3, f4, f5, s, l, n, 0), ⟨hn, fun _ => Ev.to (toList_inj c) hI⟩, ?_, ?_⟩
   ·
    refine Ev.step (f := fun k => spec_EventRead.j1 (k + 1) t b a false f0 f1 f2 f3 f4 f5 s l 0) (fun k => rfl) ?_
    simp only [spec_EventRead.j1]
    exact Ev.bind hN (Ev.neg (by simp) (Ev.bind hS (Ev.pos c (Ev.now _))))
   ·
    refine Ev.step (f := fun k => impl_EventRead.j1 (k + 1) t b a false f0 f1 f2 f3 f4 f5 s l 0) (fun k => rfl) ?_
    simp only [impl_EventRead.j1]
    exact Ev.bind hN' (Ev.neg (by simp) (Ev.bind hI (Ev.pos c (Ev.now _))))
  ·
   refine ⟨evZ, evOk_z t, ?_, ?_⟩
   ·
    refine Ev.step (f := fun k => spec_EventRead.j1 (k + 1) t b a false f0 f1 f2 f3 f4 f5 s l 0) (fun k => rfl) ?_
    simp only [spec_EventRead.j1]
    exact Ev.bind hN (Ev.neg (by simp) (Ev.bind hS (Ev.neg c (Ev.now _))))
   ·
    refine Ev.step (f := fun k => impl_EventRead.j1 (k + 1) t b a false f0 f1 f2 f3 f4 f5 s l 0) (fun k => rfl) ?_
    simp only [impl_EventRead.j1]
    exact Ev.bind hN' (Ev.neg (by simp) (Ev.bind hI (Ev.neg c (Ev.now _))))
theorem sloop_bad (t : ByteArray) (ht : 0 < t.size) (b : ByteArray) (hb : b.size ≤ 8000) (f0 f1 f2 f3 f4 f5 : Int) (s : ByteArray) (h0 : i64r f0) (h1 : i64r f1) (h2 : i64r f2) (h3 : i64r f3) (h4 : i64r f4) (h5 : i64r f5) (hs : s.size ≤ 8000) (n : Int) (d : Nat) : ∀ (i : Nat) (a : Int) (bad : Bool) (l : List Int), i + d = 9 → (0 ≤ a ∧ a ≤ b.size) → (∀ x ∈ l, i64r x) → l.length = i → (bad = true ∨ 4 < l.length) →
  Ev (fun k => spec_EventRead.l0 k t n (i : Int) b a bad f0 f1 f2 f3 f4 f5 s l 0) evZ := by
 induction d with
 | zero =>
  intro i a bad l hi ha hl hli h
  have hf := sfin_bad t ht b hb f0 f1 f2 f3 f4 f5 s h0 h1 h2 h3 h4 h5 hs a bad l ha hl (by omega) h
  refine Ev.step (f := fun k => spec_EventRead.l0 (k + 1) t n (i : Int) b a bad f0 f1 f2 f3 f4 f5 s l 0) (fun k => rfl) ?_
  simp only [spec_EventRead.l0]
  by_cases c : (i : Int) < n
  ·
   exact Ev.pos c (Ev.neg (by omega) hf)
  ·
   exact Ev.neg c hf
 | succ d ih =>
  intro i a bad l hi ha hl hli h
  have hf := sfin_bad t ht b hb f0 f1 f2 f3 f4 f5 s h0 h1 h2 h3 h4 h5 hs a bad l ha hl (by omega) h
  refine Ev.step (f := fun k => spec_EventRead.l0 (k + 1) t n (i : Int) b a bad f0 f1 f2 f3 f4 f5 s l 0) (fun k => rfl) ?_
  simp only [spec_EventRead.l0]
  by_cases c : (i : Int) < n
  ·
   refine Ev.pos c (Ev.pos (by omega) ?_)
   cases bad with
   | true => exact Ev.pos (by first | rfl | trivial) hf
   | false =>
    obtain ⟨m, a1, b1, hN, ha1, _, hm⟩ := snum_any b hb a false ha
    refine Ev.neg (by simp) (Ev.bind hN (Ev.pos (by omega) ?_))
    rw [show wrap64 ((i : Int) + 1) = ((i + 1 : Nat) : Int) from by unfold wrap64; omega]
    refine ih (i + 1) a1 b1 (l ++ [m]) (by omega) ha1 (fun x hx => ?_) (by rw [List.length_append, List.length_singleton]; omega) (Or.inr ?_)
    ·
     rcases List.mem_append.1 hx with hx | hx
     ·
      exact hl x hx
     ·
      rw [List.mem_singleton.1 hx]; exact hm
    ·
     rcases h with h | h
     ·
      cases h
     ·
      rw [List.length_append]; omega
  ·
   exact Ev.neg c hf
theorem iloop_bad (t : ByteArray) (ht : 0 < t.size) (b : ByteArray) (hb : b.size ≤ 8000) (f0 f1 f2 f3 f4 f5 : Int) (s : ByteArray) (h0 : i64r f0) (h1 : i64r f1) (h2 : i64r f2) (h3 : i64r f3) (h4 : i64r f4) (h5 : i64r f5) (hs : s.size ≤ 8000) (q : Int) (a : Int) (l : List Int) (ha : 0 ≤ a ∧ a ≤ b.size) (hl : ∀ x ∈ l, i64r x) (hn : l.length ≤ 9) : Ev (fun k => impl_EventRead.l0 k t q b a true f0 f1 f2 f3 f4 f5 s l 0) evZ := by
 have hf := ifin_bad t ht b hb f0 f1 f2 f3 f4 f5 s h0 h1 h2 h3 h4 h5 hs a true l ha hl hn (Or.inl rfl)
 refine Ev.step (f := fun k => impl_EventRead.l0 (k + 1) t q b a true f0 f1 f2 f3 f4 f5 s l 0) (fun k => rfl) ?_
 simp only [impl_EventRead.l0]
 by_cases c : q > 0
 ·
  exact Ev.pos c (Ev.pos (by first | rfl | trivial) hf)
 ·
  exact Ev.neg c hf
theorem loop_both (t : ByteArray) (ht : 0 < t.size) (b : ByteArray) (hb : b.size ≤ 8000) (f0 f1 f2 f3 f4 f5 : Int) (s : ByteArray) (h0 : i64r f0) (h1 : i64r f1) (h2 : i64r f2) (h3 : i64r f3) (h4 : i64r f4) (h5 : i64r f5) (hs : s.size ≤ 8000) (n : Int) (hn64 : i64r n) (d : Nat) : ∀ (i : Nat) (a : Int) (l : List Int), i + d = 5 → (0 ≤ a ∧ a ≤ b.size) → (∀ x ∈ l, i64r x) → l.length = i →
  ∃ R : EvT, EvOk t R ∧ Ev (fun k => spec_EventRead.l0 k t n (i : Int) b a false f0 f1 f2 f3 f4 f5 s l 0) R ∧ Ev (fun k => impl_EventRead.l0 k t (n - (i : Int)) b a false f0 f1 f2 f3 f4 f5 s l 0) R := by
 have stop : ∀ (i : Nat) (a : Int) (l : List Int), i ≤ 5 → (0 ≤ a ∧ a ≤ b.size) → (∀ x ∈ l, i64r x) → l.length = i → n ≤ (i : Int) →
   ∃ R : EvT, EvOk t R ∧ Ev (fun k => spec_EventRead.l0 k t n (i : Int) b a false f0 f1 f2 f3 f4 f5 s l 0) R ∧ Ev (fun k => impl_EventRead.l0 k t (n - (i : Int)) b a false f0 f1 f2 f3 f4 f5 s l 0) R := by
  intro i a l hi ha hl hli hni
  obtain ⟨R, hR, e1, e2⟩ := fin_both t ht b hb f0 f1 f2 f3 f4 f5 s h0 h1 h2 h3 h4 h5 hs a l ha hl (by omega)
  refine ⟨R, hR, ?_, ?_⟩
  ·
   refine Ev.step (f := fun k => spec_EventRead.l0 (k + 1) t n (i : Int) b a false f0 f1 f2 f3 f4 f5 s l 0) (fun k => rfl) ?_
   simp only [spec_EventRead.l0]
   exact Ev.neg (by omega) e1
  ·
   refine Ev.step (f := fun k => impl_EventRead.l0 (k + 1) t (n - (i : Int)) b a false f0 f1 f2 f3 f4 f5 s l 0) (fun k => rfl) ?_
   simp only [impl_EventRead.l0]
   exact Ev.neg (by omega) e2
 induction d with
 | zero =>
  intro i a l hi ha hl hli
  by_cases c : n ≤ (i : Int)
  ·
   exact stop i a l (by omega) ha hl hli c
  ·
   refine ⟨evZ, evOk_z t, sloop_bad t ht b hb f0 f1 f2 f3 f4 f5 s h0 h1 h2 h3 h4 h5 hs n 4 i a false l (by omega) ha hl hli (Or.inr (by omega)), ?_⟩
   have hf := ifin_bad t ht b hb f0 f1 f2 f3 f4 f5 s h0 h1 h2 h3 h4 h5 hs a false l ha hl (by omega) (Or.inr (by omega))
   refine Ev.step (f := fun k => impl_EventRead.l0 (k + 1) t (n - (i : Int)) b a false f0 f1 f2 f3 f4 f5 s l 0) (fun k => rfl) ?_
   simp only [impl_EventRead.l0]
   exact Ev.pos (by omega) (Ev.neg (by simp) (Ev.neg (by omega) hf))
 | succ d ih =>
  intro i a l hi ha hl hli
  by_cases c : n ≤ (i : Int)
  ·
   exact stop i a l (by omega) ha hl hli c
  ·
   obtain ⟨m, m', a1, b1, a1', hN, hN', hrd, hb1, hm, hm'⟩ := num_both b hb a false a ⟨ha, ha, fun _ => rfl⟩
   have hl1 : ∀ x ∈ l ++ [m], i64r x := fun x hx => by
    rcases List.mem_append.1 hx with hx | hx
    ·
     exact hl x hx
    ·
     rw [List.mem_singleton.1 hx]; exact hm
   have hl2 : ∀ x ∈ l ++ [m'], i64r x := fun x hx => by
    rcases List.mem_append.1 hx with hx | hx
    ·
     exact hl x hx
    ·
     rw [List.mem_singleton.1 hx]; exact hm'
   have toS : ∀ R, Ev (fun k => spec_EventRead.l0 k t n ((i + 1 : Nat) : Int) b a1 b1 f0 f1 f2 f3 f4 f5 s (l ++ [m]) 0) R → Ev (fun k => spec_EventRead.l0 k t n (i : Int) b a false f0 f1 f2 f3 f4 f5 s l 0) R := by
    intro R hR
    refine Ev.step (f := fun k => spec_EventRead.l0 (k + 1) t n (i : Int) b a false f0 f1 f2 f3 f4 f5 s l 0) (fun k => rfl) ?_
    simp only [spec_EventRead.l0]
    refine Ev.pos (by omega) (Ev.pos (by omega) (Ev.neg (by simp) (Ev.bind hN (Ev.pos (by omega) ?_))))
    rw [show wrap64 ((i : Int) + 1) = ((i + 1 : Nat) : Int) from by unfold wrap64; omega]
    exact hR
   have toI : ∀ R, Ev (fun k => impl_EventRead.l0 k t (n - ((i + 1 : Nat) : Int)) b a1' b1 f0 f1 f2 f3 f4 f5 s (l ++ [m']) 0) R → Ev (fun k => impl_EventRead.l0 k t (n - (i : Int)) b a false f0 f1 f2 f3 f4 f5 s l 0) R := by
    intro R hR
    refine Ev.step (f := fun k => impl_EventRead.l0 (k + 1) t (n - (i : Int)) b a false f0 f1 f2 f3 f4 f5 s l 0) (fun k => rfl) ?_
    simp only [impl_EventRead.l0]
    refine Ev.pos (by omega) (Ev.neg (by simp) (Ev.pos (by omega) (Ev.bind hN' (Ev.pos (by omega) ?_))))
    rw [show wrap64 (n - (i : Int) - 1) = n - ((i + 1 : Nat) : Int) from by unfold wrap64; have := hn64.1; have := hn64.2; omega]
    exact hR
   cases b1 with
   | true =>
    refine ⟨evZ, evOk_z t, toS _ (sloop_bad t ht b hb f0 f1 f2 f3 f4 f5 s h0 h1 h2 h3 h4 h5 hs n (8 - i) (i + 1) a1 true (l ++ [m]) (by omega) hrd.1 hl1 (by rw [List.length_append, List.length_singleton]; omega) (Or.inl rfl)), toI _ ?_⟩
    exact iloop_bad t ht b hb f0 f1 f2 f3 f4 f5 s h0 h1 h2 h3 h4 h5 hs _ a1' (l ++ [m']) hrd.2.1 hl2 (by rw [List.length_append, List.length_singleton]; omega)
   | false =>
    obtain ⟨_, rfl⟩ := hb1 rfl
    obtain rfl := hrd.2.2 rfl
    obtain ⟨R, hR, e1, e2⟩ := ih (i + 1) a1 (l ++ [m]) (by omega) hrd.1 hl1 (by rw [List.length_append, List.length_singleton]; omega)
    exact ⟨R, hR, toS R e1, toI R e2⟩
theorem eventRead_both (t : ByteArray) (ht : t.size ≤ 1048576) : ∃ R : EvT, EvOk t R ∧ Ev (fun k => spec_EventRead.f k t) R ∧ Ev (fun k => impl_EventRead.f k t) R := by
 have hS := spec_Unseal_ev t (by omega)
 have hI := impl_Unseal_ev t (by omega)
 by_cases c : (unsealed t).2.2 = 0
 ·
  have hu : 0 < t.size ∧ (unsealed t).1.size ≤ 8000 := by
   revert c
   unfold unsealed
   by_cases c1 : t.size > 8000
   ·
    rw [if_pos c1]; intro c; exact absurd c (by decide)
   ·
    rw [if_neg c1]
    by_cases c2 : t.size < 4
    ·
     rw [if_pos c2]; intro c; exact absurd c (by decide)
    ·
     rw [if_neg c2]
     by_cases c3 : sealed (t.extract 0 (t.size - 4)) = t
     ·
      rw [if_pos c3]; intro _
      refine ⟨by omega, ?_⟩
      show (t.extract 0 (t.size - 4)).size ≤ 8000
      rw [ByteArray.size_extract]; omega
     ·
      rw [if_neg c3]; intro c; exact absurd c (by decide)
  obtain ⟨ht0, hb⟩ := hu
  generalize unsealed t = u at hS hI c hb
  obtain ⟨b, ua, uc⟩ := u
  replace c : uc = 0 := c
  subst c
  replace hb : b.size ≤ 8000 := hb
  obtain ⟨f0, g0, a0, b0, c0, s0, i0, r0, q0, y0, z0⟩ := num_both b hb 0 false 0 ⟨⟨by omega, by omega⟩, ⟨by omega, by omega⟩, fun _ => rfl⟩
  obtain ⟨f1, g1, a1, b1, c1, s1, i1, r1, q1, y1, z1⟩ := num_both b hb a0 b0 c0 r0
  obtain ⟨f2, g2, a2, b2, c2, s2, i2, r2, q2, y2, z2⟩ := num_both b hb a1 b1 c1 r1
  obtain ⟨f3, g3, a3, b3, c3, s3, i3, r3, q3, y3, z3⟩ := num_both b hb a2 b2 c2 r2
  obtain ⟨f4, g4, a4, b4, c4, s4, i4, r4, q4, y4, z4⟩ := num_both b hb a3 b3 c3 r3
  obtain ⟨f5, g5, a5, b5, c5, s5, i5, r5, q5, y5, z5⟩ := num_both b hb a4 b4 c4 r4
  obtain ⟨f6, g6, a6, b6, c6, s6, i6, r6, q6, y6, z6⟩ := str_both b hb a5 b5 c5 r5
  obtain ⟨n, n', a7, b7, c7, s7, i7, r7, q7, y7, z7⟩ := num_both b hb a6 b6 c6 r6
  have toS : ∀ R, Ev (fun k => spec_EventRead.l0 k t n 0 b a7 b7 f0 f1 f2 f3 f4 f5 f6 [] 0) R → Ev (fun k => spec_EventRead.f k t) R := by
   intro R hR
   unfold spec_EventRead.f
   exact Ev.bind hS (Ev.pos (by first | rfl | trivial) (Ev.bind s0 (Ev.bind s1 (Ev.bind s2 (Ev.bind s3 (Ev.bind s4 (Ev.bind s5 (Ev.bind s6 (Ev.bind s7 hR)))))))))
  have toI : ∀ R, Ev (fun k => impl_EventRead.l0 k t n' b c7 b7 g0 g1 g2 g3 g4 g5 g6 [] 0) R → Ev (fun k => impl_EventRead.f k t) R := by
   intro R hR
   unfold impl_EventRead.f
   exact Ev.bind hI (Ev.pos (by first | rfl | trivial) (Ev.bind i0 (Ev.bind i1 (Ev.bind i2 (Ev.bind i3 (Ev.bind i4 (Ev.bind i5 (Ev.bind i6 (Ev.bind i7 hR)))))))))
  clear hS hI s0 s1 s2 s3 s4 s5 s6 s7 i0 i1 i2 i3 i4 i5 i6 i7
  cases b7 with
  | true =>
   exact ⟨evZ, evOk_z t, toS _ (sloop_bad t ht0 b hb f0 f1 f2 f3 f4 f5 f6 y0 y1 y2 y3 y4 y5 y6 n 9 0 a7 true [] rfl r7.1 (fun x hx => by cases hx) rfl (Or.inl rfl)),
    toI _ (iloop_bad t ht0 b hb g0 g1 g2 g3 g4 g5 g6 z0 z1 z2 z3 z4 z5 z6 n' c7 [] r7.2.1 (fun x hx => by cases hx) (Nat.zero_le _))⟩
  | false =>
   obtain ⟨e6, rfl⟩ := q7 rfl
   obtain rfl := r7.2.2 rfl
   obtain ⟨e5, rfl⟩ := q6 e6
   obtain ⟨e4, rfl⟩ := q5 e5
   obtain ⟨e3, rfl⟩ := q4 e4
   obtain ⟨e2, rfl⟩ := q3 e3
   obtain ⟨e1, rfl⟩ := q2 e2
   obtain ⟨e0, rfl⟩ := q1 e1
   obtain ⟨_, rfl⟩ := q0 e0
   obtain ⟨R, hR, h1, h2⟩ := loop_both t ht0 b hb f0 f1 f2 f3 f4 f5 f6 y0 y1 y2 y3 y4 y5 y6 n y7 5 0 a7 [] rfl r7.1 (fun x hx => by cases hx) rfl
   refine ⟨R, hR, toS R h1, toI R ?_⟩
   simpa using h2
 ·
  refine ⟨(0, 0, 0, 0, 0, 0, ⟨#[]⟩, [], 0, (unsealed t).2.2), ⟨Nat.zero_le _, fun h => absurd h c⟩, ?_, ?_⟩
  ·
   unfold spec_EventRead.f; exact Ev.bind hS (Ev.neg c (Ev.now _))
  ·
   unfold impl_EventRead.f; exact Ev.bind hI (Ev.neg c (Ev.now _))
theorem Ev.ifp {c : Prop} [Decidable c] {f : Nat → Option Bool} {r : Bool} (h : Ev f r) : Ev (fun n => if c then f n else some false) (decide c && r) := by
 by_cases hc : c
 ·
  rw [decide_eq_true hc]; exact Ev.pos hc h
 ·
  rw [decide_eq_false hc]; exact Ev.neg hc (Ev.now _)
theorem drop_same (l r : List Int) (i : Nat) (hl : i < l.length) (hr : i < r.length) : decide (l.drop i = r.drop i) = (decide (l[i] = r[i]) && decide (l.drop (i + 1) = r.drop (i + 1))) := by
 rw [drop_cons hl, drop_cons hr, Bool.eq_iff_iff, Bool.and_eq_true, decide_eq_true_iff, decide_eq_true_iff, decide_eq_true_iff, List.cons.injEq]
theorem nums_l0 (l r : List Int) (h : l.length = r.length) (hl : l.length ≤ 9223372036854775806) (d : Nat) : ∀ i : Nat, i + d = l.length → Ev (fun k => spec_l02Nums.l0 k l r (i : Int)) (decide (l.drop i = r.drop i)) := by
 induction d with
 | zero =>
  intro i hi
  refine Ev.one (fun k => ?_)
  simp only [spec_l02Nums.l0]
  rw [if_neg (by omega), List.drop_of_length_le (by omega), List.drop_of_length_le (by omega)]; rfl
 | succ d ih =>
  intro i hi
  have hlt : i < l.length := by omega
  have hrt : i < r.length := by omega
  rw [drop_same l r i hlt hrt]
  by_cases c : l[i] = r[i]
  ·
   rw [decide_eq_true c, Bool.true_and]
   refine Ev.step (f := fun k => spec_l02Nums.l0 k l r ((i + 1 : Nat) : Int)) (fun k => ?_) (ih (i + 1) (by omega))
   simp only [spec_l02Nums.l0]
   rw [if_pos (by omega), if_pos (by omega), if_pos (by omega), rd_at hlt, rd_at hrt, if_pos c, w64 (by omega) (by omega)]; rfl
  ·
   rw [decide_eq_false c, Bool.false_and]
   refine Ev.one (fun k => ?_)
   simp only [spec_l02Nums.l0]
   rw [if_pos (by omega), if_pos (by omega), if_pos (by omega), rd_at hlt, rd_at hrt, if_neg c]
theorem nums_ev (l r : List Int) (hl : l.length ≤ 9223372036854775806) : Ev (fun k => spec_l02Nums.f k l r) (decide (l = r)) := by
 unfold spec_l02Nums.f
 by_cases h : l.length = r.length
 ·
  exact Ev.pos (by omega) (by simpa using nums_l0 l r h hl l.length 0 (by omega))
 ·
  exact Ev.neg (by omega) (Ev.to (by symm; rw [decide_eq_false_iff_not]; rintro rfl; exact h rfl) (Ev.now _))
theorem equal_l0 (l r : List Int) (h : l.length = r.length) (hl : l.length ≤ 9223372036854775806) (d : Nat) : ∀ i : Nat, i + d = l.length → Ev (fun k => slices_Equal_int64_int64.l0 k l r (l.length : Int) (i : Int)) (decide (l.drop i = r.drop i)) := by
 induction d with
 | zero =>
  intro i hi
  refine Ev.one (fun k => ?_)
  simp only [slices_Equal_int64_int64.l0]
  rw [if_neg (by omega), List.drop_of_length_le (by omega), List.drop_of_length_le (by omega)]; rfl
 | succ d ih =>
  intro i hi
  have hlt : i < l.length := by omega
  have hrt : i < r.length := by omega
  rw [drop_same l r i hlt hrt]
  by_cases c : l[i] = r[i]
  ·
   rw [decide_eq_true c, Bool.true_and]
   refine Ev.step (f := fun k => slices_Equal_int64_int64.l0 k l r (l.length : Int) ((i + 1 : Nat) : Int)) (fun k => ?_) (ih (i + 1) (by omega))
   simp only [slices_Equal_int64_int64.l0]
   rw [if_pos (by omega), if_pos (by omega), if_pos (by omega), if_pos (by omega), rd_at hlt, rd_at hrt, if_pos c, w64 (by omega) (by omega)]; rfl
  ·
   rw [decide_eq_false c, Bool.false_and]
   refine Ev.one (fun k => ?_)
   simp only [slices_Equal_int64_int64.l0]
   rw [if_pos (by omega), if_pos (by omega), if_pos (by omega), if_pos (by omega), rd_at hlt, rd_at hrt, if_neg c]
theorem equal_ev (l r : List Int) (hl : l.length ≤ 9223372036854775806) : Ev (fun k => slices_Equal_int64_int64.f k l r) (decide (l = r)) := by
 unfold slices_Equal_int64_int64.f
 by_cases h : l.length = r.length
 ·
  exact Ev.pos (by omega) (by simpa using equal_l0 l r h hl l.length 0 (by omega))
 ·
  exact Ev.neg (by omega) (Ev.to (by symm; rw [decide_eq_false_iff_not]; rintro rfl; exact h rfl) (Ev.now _))
def sameB (a0 a1 a2 a3 a4 a5 : Int) (s : ByteArray) (l : List Int) (a8 b0 b1 b2 b3 b4 b5 : Int) (t : ByteArray) (r : List Int) (b8 : Int) : Bool :=
 decide (a0 = b0) && (decide (a1 = b1) && (decide (a2 = b2) && (decide (a3 = b3) && (decide (a4 = b4) && (decide (a5 = b5) && (decide (s.toList = t.toList) && (decide (a8 = b8) && decide (l = r))))))))
theorem spec_same_ev (a0 a1 a2 a3 a4 a5 : Int) (s : ByteArray) (l : List Int) (a8 b0 b1 b2 b3 b4 b5 : Int) (t : ByteArray) (r : List Int) (b8 : Int) (hl : l.length ≤ 9223372036854775806) :
  Ev (fun k => spec_SameEvent.f k a0 a1 a2 a3 a4 a5 s l a8 b0 b1 b2 b3 b4 b5 t r b8) (sameB a0 a1 a2 a3 a4 a5 s l a8 b0 b1 b2 b3 b4 b5 t r b8) := by
 unfold spec_SameEvent.f sameB
 exact Ev.ifp (Ev.ifp (Ev.ifp (Ev.ifp (Ev.ifp (Ev.ifp (Ev.ifp (Ev.ifp (Ev.bind (nums_ev l r hl) (Ev.now _)))))))))
theorem impl_same_ev (a0 a1 a2 a3 a4 a5 : Int) (s : ByteArray) (l : List Int) (a8 b0 b1 b2 b3 b4 b5 : Int) (t : ByteArray) (r : List Int) (b8 : Int) (hl : l.length ≤ 9223372036854775806) :
  Ev (fun k => impl_SameEvent.f k a0 a1 a2 a3 a4 a5 s l a8 b0 b1 b2 b3 b4 b5 t r b8) (sameB a0 a1 a2 a3 a4 a5 s l a8 b0 b1 b2 b3 b4 b5 t r b8) := by
 unfold impl_SameEvent.f sameB
 refine Ev.ifp (Ev.ifp (Ev.ifp (Ev.ifp (Ev.ifp (Ev.ifp (Ev.ifp (Ev.bind (equal_ev l r hl) ?_)))))))
 rw [Bool.and_comm]
 by_cases c : l = r
 ·
  rw [decide_eq_true c, Bool.true_and]; exact Ev.pos rfl (Ev.to (by rw [Bool.eq_iff_iff, beq_iff_eq, decide_eq_true_iff]) (Ev.now _))
 ·
  rw [decide_eq_false c, Bool.false_and]; exact Ev.neg (by simp) (Ev.now _)
theorem impl_IsState_ev (id room author kind key n : Int) (s : ByteArray) (l : List Int) (t : Int) (hl : l.length ≤ 9223372036854775806) : Ev (fun k => impl_IsState.f k id room author kind key n s l t) (evRight id room author kind key n s l t && decide (1 ≤ kind ∧ kind ≤ 6)) := by
 unfold impl_IsState.f
 exact Ev.bind (impl_EventRight_ev id room author kind key n s l t hl) (Ev.ifb (Ev.take (in_eq _ _ _) (Ev.now _)))
theorem spec_IsState_ev (id room author kind key n : Int) (s : ByteArray) (l : List Int) (t : Int) (hl : l.length ≤ 9223372036854775806) : Ev (fun k => spec_IsState.f k id room author kind key n s l t) (evRight id room author kind key n s l t && decide (1 ≤ kind ∧ kind ≤ 6)) := by
 unfold spec_IsState.f
 refine Ev.to ?_ (Ev.bind (spec_EventRight_ev id room author kind key n s l t hl) (Ev.ifb (Ev.now _)))
 cases h : evRight id room author kind key n s l t
 ·
  rfl
 ·
  have := evRight_kind h
  simp only [Bool.true_and]; rw [decide_eq_decide]; omega
theorem byteAt_getD (s : ByteArray) (i : Nat) : byteAt s i = (s.data.toList.getD i 0).toNat := by
 unfold byteAt
 by_cases h : i < s.size
 ·
  rw [dif_pos h, List.getD_eq_getElem?_getD, List.getElem?_eq_getElem (by simpa using h)]; rfl
 ·
  rw [dif_neg h, List.getD_eq_getElem?_getD, List.getElem?_eq_none (by simpa using h)]; rfl
theorem unzig_zig {n : Int} (h0 : -9223372036854775808 ≤ n) (h1 : n ≤ 9223372036854775807) : unzig (zig n) = n := by
 unfold unzig zig
 by_cases c : n < 0
 ·
  rw [if_pos c, if_pos (by omega)]; omega
 ·
  rw [if_neg c, if_neg (by omega)]; omega
theorem enc_pos (u : Nat) : 0 < (enc u).length := by
 by_cases h : u < 128
 ·
  rw [enc_lt h]; simp
 ·
  rw [enc_ge (by omega)]; simp
theorem pow_step (i v : Nat) (hi : i ≤ 8) (hv : v < 2 ^ (64 - 7 * i)) : v / 128 < 2 ^ (64 - 7 * (i + 1)) := by
 rw [show 64 - 7 * i = 64 - 7 * (i + 1) + 7 by omega, Nat.pow_add] at hv
 exact Nat.div_lt_of_lt_mul (by omega)
theorem gn_enc (s : ByteArray) (a f : Nat) : ∀ (i u v : Nat), i + f = 10 → v < 2 ^ (64 - 7 * i) → (i = 0 ∨ 0 < v) → a + i + (enc v).length ≤ s.size →
  (∀ j, j < (enc v).length → ((byteAt s (a + i + j) : Nat) : Int) = (enc v).getD j 0) → gn s a f i u = (unzig (u + v * 2 ^ (7 * i)), ((a + i + (enc v).length : Nat) : Int), 0) := by
 induction f with
 | zero =>
  intro i u v hi hv hp
  rw [show i = 10 by omega] at hv hp
  have : v < 1 := hv
  omega
 | succ f ih =>
  intro i u v hi hv hp hs hb
  have hpos := enc_pos v
  unfold gn
  rw [if_neg (by omega)]
  have h0 := hb 0 hpos
  rw [Nat.add_zero] at h0
  by_cases c : v < 128
  ·
   rw [enc_lt c] at h0 ⊢
   have h0' : byteAt s (a + i) = v := Int.ofNat.inj h0
   rw [h0']
   have h9 : i = 9 → v ≤ 1 := by
    rintro rfl
    have : v < 2 := hv
    omega
   rw [if_neg (by omega), if_pos c, Nat.mod_eq_of_lt c]
   rfl
  ·
   rw [enc_ge (by omega)] at h0 hs hb ⊢
   have h0' : byteAt s (a + i) = v % 128 + 128 := Int.ofNat.inj h0
   have h9 : i ≠ 9 := by
    rintro rfl
    have : v < 2 := hv
    omega
   rw [h0', if_neg (by omega), if_neg (by omega), show (v % 128 + 128) % 128 = v % 128 by omega]
   rw [List.length_cons] at hs hb
   rw [ih (i + 1) (u + v % 128 * 2 ^ (7 * i)) (v / 128) (by omega) (pow_step i v (by omega) hv) (Or.inr (by omega)) (by omega) (fun j hj => ?_)]
   ·
    have e1 : u + v % 128 * 2 ^ (7 * i) + v / 128 * 2 ^ (7 * (i + 1)) = u + v * 2 ^ (7 * i) := by
     rw [show 7 * (i + 1) = 7 + 7 * i by omega, Nat.pow_add, ← Nat.mul_assoc, Nat.add_assoc, ← Nat.add_mul, show v % 128 + v / 128 * 2 ^ 7 = v by omega]
    rw [e1, List.length_cons, show a + (i + 1) + (enc (v / 128)).length = a + i + ((enc (v / 128)).length + 1) by omega]
   ·
    have := hb (j + 1) (by omega)
    rw [show a + (i + 1) + j = a + i + (j + 1) by omega, this]
    rfl
theorem gn_short (s : ByteArray) (a f : Nat) : ∀ (i u v : Nat), i + f = 10 → v < 2 ^ (64 - 7 * i) → s.size + 1 = a + i + (enc v).length → i ≤ 9 →
  (∀ j, j + 1 < (enc v).length → ((byteAt s (a + i + j) : Nat) : Int) = (enc v).getD j 0) → gn s a f i u = (0, 0, 4) := by
 induction f with
 | zero => intro i u v hi hv hs h9; omega
 | succ f ih =>
  intro i u v hi hv hs h9 hb
  unfold gn
  by_cases c : v < 128
  ·
   rw [enc_lt c] at hs
   rw [if_pos (by simp only [List.length_cons, List.length_nil] at hs; omega)]
  ·
   have hp := enc_pos (v / 128)
   rw [enc_ge (by omega)] at hs hb
   rw [List.length_cons] at hs hb
   have h0 := hb 0 (by omega)
   rw [Nat.add_zero] at h0
   have h0' : byteAt s (a + i) = v % 128 + 128 := Int.ofNat.inj h0
   have h9' : i ≠ 9 := by
    rintro rfl
    have : v < 2 := hv
    omega
   rw [if_neg (by omega), h0', if_neg (by omega), if_neg (by omega)]
   refine ih (i + 1) _ (v / 128) (by omega) (pow_step i v (by omega) hv) (by omega) (by omega) (fun j hj => ?_)
   have := hb (j + 1) (by omega)
   rw [show a + (i + 1) + j = a + i + (j + 1) by omega, this]
   rfl
theorem enc_byte (v : Nat) : ∀ x ∈ enc v, 0 ≤ x ∧ x < 256 := by
 induction v using Nat.strongRecOn with
 | ind v ih =>
  by_cases h : v < 128
  ·
   rw [enc_lt h]; intro x hx; rw [List.mem_singleton.1 hx]; omega
  ·
   rw [enc_ge (by omega)]
   intro x hx
   rcases List.mem_cons.1 hx with rfl | hx
   ·
    omega
   ·
    exact ih (v / 128) (by omega) x hx
theorem byte_mid (pre post : List UInt8) (l : List Int) (hl : ∀ x ∈ l, 0 ≤ x ∧ x < 256) (s : ByteArray) (hs : s.data.toList = pre ++ (l.map fun n => UInt8.ofNat n.toNat) ++ post) (j : Nat) (hj : j < l.length) :
  ((byteAt s (pre.length + j) : Nat) : Int) = l.getD j 0 := by
 rw [byteAt_getD, hs, List.getD_eq_getElem?_getD, List.append_assoc, List.getElem?_append_right (by omega), Nat.add_sub_cancel_left, List.getElem?_append_left (by rw [List.length_map]; exact hj), List.getElem?_map, List.getElem?_eq_getElem hj,
  List.getD_eq_getElem?_getD, List.getElem?_eq_getElem hj]
 have := hl l[j] (List.getElem_mem hj)
 simp only [Option.map_some, Option.getD_some, UInt8.toNat_ofNat']
 omega
theorem getNum_enc (pre post : List UInt8) (n : Int) (h0 : -9223372036854775808 ≤ n) (h1 : n ≤ 9223372036854775807) (s : ByteArray)
  (hs : s.data.toList = pre ++ ((enc (zig n)).map fun n => UInt8.ofNat n.toNat) ++ post) : getNumR s (pre.length : Int) = (n, ((pre.length + (enc (zig n)).length : Nat) : Int), 0) := by
 have hz := zig_lt h0 h1
 have hsz : s.size = pre.length + (enc (zig n)).length + post.length := by
  have := congrArg List.length hs
  simp only [List.length_append, List.length_map, Array.length_toList, ByteArray.size_data] at this
  omega
 unfold getNumR
 rw [if_neg (by omega), Int.toNat_natCast, gn_enc s pre.length 10 0 0 (zig n) rfl (by simpa using hz) (Or.inl rfl) (by omega) (fun j hj => byte_mid pre post _ (enc_byte _) s hs j hj)]
 rw [Nat.mul_zero, Nat.pow_zero, Nat.mul_one, Nat.zero_add, unzig_zig h0 h1, Nat.add_zero]
theorem getNum_short (n : Int) (h0 : -9223372036854775808 ≤ n) (h1 : n ≤ 9223372036854775807) (s : ByteArray) (hs : s.size + 1 = (enc (zig n)).length)
  (hb : s.data.toList = ((enc (zig n)).map fun n => UInt8.ofNat n.toNat).take s.size) : getNumR s 0 = (0, 0, 4) := by
 have hz := zig_lt h0 h1
 unfold getNumR
 rw [if_neg (by omega)]
 refine gn_short s 0 10 0 0 (zig n) rfl (by simpa using hz) (by omega) (by omega) (fun j hj => ?_)
 have hj2 : j < s.size := by omega
 rw [byteAt_getD, hb, List.getD_eq_getElem?_getD, Nat.add_zero, Nat.zero_add, List.getElem?_take_of_lt hj2, List.getElem?_map, List.getElem?_eq_getElem (by omega), List.getD_eq_getElem?_getD, List.getElem?_eq_getElem (by omega)]
 have := enc_byte (zig n) (enc (zig n))[j] (List.getElem_mem (by omega))
 simp only [Option.map_some, Option.getD_some, UInt8.toNat_ofNat']
 omega
theorem data_append (a b : ByteArray) : (a ++ b).data.toList = a.data.toList ++ b.data.toList := by simp
theorem data_take (a : ByteArray) (n : Nat) : (a.extract 0 n).data.toList = a.data.toList.take n := by simp
theorem xor_cancel_r {a b p : Nat} (h : a ^^^ p = b ^^^ p) : a = b := by
 have := congrArg (· ^^^ p) h
 simpa [Nat.xor_assoc] using this
theorem xor_cancel_l {a b p : Nat} (h : p ^^^ a = p ^^^ b) : a = b := by
 rw [Nat.xor_comm p a, Nat.xor_comm p b] at h
 exact xor_cancel_r h
theorem top_low {a : Nat} (h : a < 2147483648) : a.testBit 31 = false := Nat.testBit_lt_two_pow (by omega)
theorem tstep_top {a b : Nat} (ha : a < 4294967296) (hb : b < 4294967296) (h : (a / 2) ^^^ 3988292384 = b / 2) : False := by
 have h1 := congrArg (fun n => Nat.testBit n 31) h
 simp only [Nat.testBit_xor] at h1
 rw [top_low (show a / 2 < 2147483648 by omega), top_low (show b / 2 < 2147483648 by omega), show Nat.testBit 3988292384 31 = true by decide] at h1
 simp at h1
theorem tstep_inj {a b : Nat} (ha : a < 4294967296) (hb : b < 4294967296) (h : tstep a = tstep b) : a = b := by
 unfold tstep at h
 by_cases c : a % 2 = 1
 ·
  rw [if_pos c] at h
  by_cases d : b % 2 = 1
  ·
   rw [if_pos d] at h
   have := xor_cancel_r h
   omega
  ·
   rw [if_neg d] at h
   exact (tstep_top ha hb h).elim
 ·
  rw [if_neg c] at h
  by_cases d : b % 2 = 1
  ·
   rw [if_pos d] at h
   exact (tstep_top hb ha h.symm).elim
  ·
   rw [if_neg d] at h
   omega
theorem tn_inj (n : Nat) : ∀ {a b : Nat}, a < 4294967296 → b < 4294967296 → tn n a = tn n b → a = b := by
 induction n with
 | zero => intro a b _ _ h; exact h
 | succ n ih => intro a b ha hb h; exact tstep_inj ha hb (ih (tstep_lt ha) (tstep_lt hb) h)
theorem byte_lt32 (c : UInt8) : c.toNat < 4294967296 := by have := c.toNat_lt; omega
theorem upd_inj_r {r q : Nat} {c : UInt8} (hr : r < 4294967296) (hq : q < 4294967296) (h : upd r c = upd q c) : r = q := xor_cancel_r (tn_inj 8 (xor_lt32 hr (byte_lt32 c)) (xor_lt32 hq (byte_lt32 c)) h)
theorem upd_inj_c {r : Nat} {c d : UInt8} (hr : r < 4294967296) (h : upd r c = upd r d) : c = d := UInt8.toNat_inj.1 (xor_cancel_l (tn_inj 8 (xor_lt32 hr (byte_lt32 c)) (xor_lt32 hr (byte_lt32 d)) h))
theorem crcL_inj (l : List UInt8) : ∀ {r q : Nat}, r < 4294967296 → q < 4294967296 → crcL r l = crcL q l → r = q := by
 induction l with
 | nil => intro r q _ _ h; exact h
 | cons c l ih => intro r q hr hq h; exact upd_inj_r hr hq (ih (upd_lt c hr) (upd_lt c hq) h)
theorem crcL_set (l : List UInt8) : ∀ (i : Nat) (hi : i < l.length) (d : UInt8) {r : Nat}, r < 4294967296 → crcL r (l.set i d) = crcL r l → d = l[i] := by
 induction l with
 | nil => intro i hi; simp at hi
 | cons c l ih =>
  intro i hi d r hr h
  cases i with
  | zero =>
   have h' : crcL (upd r d) l = crcL (upd r c) l := h
   exact upd_inj_c hr (crcL_inj l (upd_lt d hr) (upd_lt c hr) h')
  | succ i =>
   have h' : crcL (upd r c) (l.set i d) = crcL (upd r c) l := h
   have := ih i (by simpa using hi) d (upd_lt c hr) h'
   simpa using this
theorem crcOf_eq {s t : ByteArray} (h : crcOf 0 s = crcOf 0 t) : crcL (0 ^^^ 4294967295) s.data.toList = crcL (0 ^^^ 4294967295) t.data.toList := xor_cancel_r h
theorem crcOf_more (t u : ByteArray) : crcOf (crcOf 0 t) u = crcOf 0 (t ++ u) := by
 unfold crcOf
 rw [show (t ++ u).data.toList = t.data.toList ++ u.data.toList from by simp, crcL_append, Nat.xor_assoc (crcL _ t.data.toList), Nat.xor_self, Nat.xor_zero]
theorem ofNat_mod {a b : Nat} (h : UInt8.ofNat (((a % 256 : Nat) : Int)).toNat = UInt8.ofNat (((b % 256 : Nat) : Int)).toNat) : a % 256 = b % 256 := by
 have h2 := congrArg UInt8.toNat h
 rw [Int.toNat_natCast, Int.toNat_natCast, UInt8.toNat_ofNat', UInt8.toNat_ofNat'] at h2
 omega
theorem four_data (n : Nat) : (four n).data.toList = [UInt8.ofNat ((n % 256 : Nat) : Int).toNat, UInt8.ofNat ((n / 256 % 256 : Nat) : Int).toNat, UInt8.ofNat ((n / 65536 % 256 : Nat) : Int).toNat, UInt8.ofNat ((n / 16777216 % 256 : Nat) : Int).toNat] := rfl
theorem four_inj {n m : Nat} (hn : n < 4294967296) (hm : m < 4294967296) (h : (four n).data.toList = (four m).data.toList) : n = m := by
 rw [four_data, four_data] at h
 simp only [List.cons.injEq, and_true] at h
 obtain ⟨h1, h2, h3, h4⟩ := h
 replace h1 := ofNat_mod h1
 replace h2 := ofNat_mod h2
 replace h3 := ofNat_mod h3
 replace h4 := ofNat_mod h4
 omega
theorem bits_xor8 (a b : Nat) (ha : a < 256) (hb : b < 256) : Go.bits .xor .u8 (a : Int) (b : Int) = ((a ^^^ b : Nat) : Int) := by
 have hx : a ^^^ b < 2 ^ 8 := Nat.xor_lt_two_pow (by omega) (by omega)
 have h1 : (BitVec.ofInt 8 (a : Int)).toNat = a := by
  rw [BitVec.ofInt_natCast, BitVec.toNat_ofNat]; exact Nat.mod_eq_of_lt (by omega)
 have h2 : (BitVec.ofInt 8 (b : Int)).toNat = b := by
  rw [BitVec.ofInt_natCast, BitVec.toNat_ofNat]; exact Nat.mod_eq_of_lt (by omega)
 show IntKind.u8.wrap ((BitVec.ofInt 8 (a : Int) ^^^ BitVec.ofInt 8 (b : Int)).toNat : Int) = _
 rw [BitVec.toNat_xor, h1, h2, IntKind.wrap_u8]
 omega
theorem turned_data (s : ByteArray) (i : Nat) (hi : i < s.data.toList.length) (q : Int) (h0 : 0 ≤ q) (h1 : q < 255) : ∃ y : UInt8, (turned s i q).data.toList = s.data.toList.set i y ∧ y ≠ s.data.toList[i] := by
 have hc := (s.data.toList[i]).toNat_lt
 have hg : (bytesOf s).getD i 0 = ((s.data.toList[i]).toNat : Int) := by
  simp [bytesOf, List.getD_eq_getElem?_getD, List.getElem?_eq_getElem hi]
 have hw : (wrap64 (1 + q)) % 256 = (((1 + q).toNat : Nat) : Int) := by unfold wrap64; omega
 have hx : (s.data.toList[i]).toNat ^^^ (1 + q).toNat < 256 := by
  have : (s.data.toList[i]).toNat ^^^ (1 + q).toNat < 2 ^ 8 := Nat.xor_lt_two_pow (by omega) (by omega)
  omega
 refine ⟨UInt8.ofNat ((s.data.toList[i]).toNat ^^^ (1 + q).toNat), ?_, ?_⟩
 ·
  unfold turned
  rw [hg, hw, bits_xor8 _ _ (by omega) (by omega)]
  show ((bytesOf s).set i _).map (fun n => UInt8.ofNat n.toNat) = _
  rw [List.map_set, Int.toNat_natCast]
  congr 1
  simp only [bytesOf, List.map_map]
  conv => rhs; rw [← List.map_id s.data.toList]
  apply List.map_congr_left
  intro x _
  show UInt8.ofNat ((x.toNat : Int)).toNat = x
  rw [Int.toNat_natCast]; simp
 ·
  intro h
  have h2 := congrArg UInt8.toNat h
  rw [UInt8.toNat_ofNat', Nat.mod_eq_of_lt (show _ < 2 ^ 8 by omega)] at h2
  have h3 : (s.data.toList[i]).toNat ^^^ (1 + q).toNat = (s.data.toList[i]).toNat ^^^ 0 := by rw [h2, Nat.xor_zero]
  have := xor_cancel_l h3
  omega
theorem sealed_small {t : ByteArray} (h : ¬ t.size > 7996) : sealed t = t ++ four (crcOf 0 t) := by unfold sealed; rw [if_neg h]
theorem turned_refused (t : ByteArray) (ht : ¬ t.size > 7996) (i : Nat) (hi : i < (sealed t).size) (q : Int) (h0 : 0 ≤ q) (h1 : q < 255) : unsealed (turned (sealed t) i q) = (⟨#[]⟩, 0, 5) := by
 rw [sealed_small ht] at hi ⊢
 have hi' : i < (t ++ four (crcOf 0 t)).data.toList.length := by rw [data_length]; exact hi
 obtain ⟨y, hd, hy⟩ := turned_data (t ++ four (crcOf 0 t)) i hi' q h0 h1
 generalize turned (t ++ four (crcOf 0 t)) i q = s' at hd ⊢
 have hsz : s'.size = t.size + 4 := by
  have := congrArg List.length hd
  rw [List.length_set, data_length, data_length, ByteArray.size_append, four_size] at this
  exact this
 have hD : (t ++ four (crcOf 0 t)).data.toList = t.data.toList ++ (four (crcOf 0 t)).data.toList := by simp
 have hT : t.data.toList.length = t.size := data_length t
 unfold unsealed
 rw [if_neg (by omega), if_neg (by omega), if_neg ?_]
 intro h
 generalize ht' : s'.extract 0 (s'.size - 4) = t' at h
 have hs' : t'.size = t.size := by rw [← ht', ByteArray.size_extract]; omega
 rw [sealed_small (by omega)] at h
 have hl : (t' ++ four (crcOf 0 t')).data.toList = s'.data.toList := congrArg (fun x => x.data.toList) h
 rw [hd] at hl
 rw [show (t' ++ four (crcOf 0 t')).data.toList = t'.data.toList ++ (four (crcOf 0 t')).data.toList by simp] at hl
 simp only [hD] at hl hy
 have hT' : t'.data.toList.length = t.data.toList.length := by rw [data_length, data_length]; exact hs'
 by_cases c : i < t.data.toList.length
 ·
  rw [List.set_append_left _ _ c] at hl
  obtain ⟨e1, e2⟩ := List.append_inj hl (by rw [List.length_set]; exact hT')
  have e3 := four_inj (crcOf_lt t' (by omega)) (crcOf_lt t (by omega)) e2
  have e4 := crcOf_eq e3
  rw [e1] at e4
  have e5 := crcL_set t.data.toList i c y (xor_lt32 (by omega) (by omega)) e4
  rw [List.getElem_append_left c] at hy
  exact hy e5
 ·
  rw [List.set_append_right _ _ (by omega)] at hl
  obtain ⟨e1, e2⟩ := List.append_inj hl hT'
  have e3 : t' = t := ba_ext e1
  rw [e3] at e2
  rw [List.getElem_append_right (by omega)] at hy
  have hb : i - t.data.toList.length < (four (crcOf 0 t)).data.toList.length := by
   rw [data_length, data_length, four_size]
   rw [ByteArray.size_append, four_size] at hi
   omega
  have e4 : ((four (crcOf 0 t)).data.toList.set (i - t.data.toList.length) y)[i - t.data.toList.length]'(by rw [List.length_set]; exact hb) = y := List.getElem_set_self ..
  apply hy
  rw [← e4]
  simp only [← e2]
theorem unsealed_sealed (t : ByteArray) (ht : ¬ t.size > 7996) : unsealed (sealed t) = (t, 0, 0) := by
 have e : (sealed t).size = t.size + 4 := by rw [sealed_small ht, ByteArray.size_append, four_size]
 have e2 : (sealed t).extract 0 ((sealed t).size - 4) = t := by
  apply ba_ext
  rw [e, sealed_small ht]
  simp [List.extract_eq_take_drop]
  exact List.take_of_length_le (by rw [data_length]; exact Nat.le_refl _)
 unfold unsealed
 rw [if_neg (by omega), if_neg (by omega), e2, if_pos rfl]
theorem wfu8 {n : Int} (h : (Lit.int .u8 n).wf = true) : 0 ≤ n ∧ n ≤ 255 := by
 simpa [Lit.wf, IntKind.min, IntKind.max, IntKind.signed, IntKind.bits] using h
theorem lwAt_some (l : List Int) (hl : l.length ≤ 9223372036854775806) (hw : ∀ x ∈ l, (Lit.int .u8 x).wf = true) (a n : Int) (h0 : 0 ≤ a) (h1 : 0 < n) (h2 : n ≤ 9223372036854775807) : ∃ v, laws_lwAt.f l a n = some v ∧ 0 ≤ v ∧ v < n := by
 unfold laws_lwAt.f
 by_cases c : n ≤ 1
 ·
  rw [if_pos c]; exact ⟨0, rfl, by omega, by omega⟩
 rw [if_neg c]
 by_cases d : (l.length : Int) = 0
 ·
  rw [if_pos d]; exact ⟨0, rfl, by omega, by omega⟩
 rw [if_neg d]
 have e : Int.tmod a (l.length : Int) = a % (l.length : Int) := Int.tmod_eq_emod_of_nonneg h0
 have g1 := Int.emod_nonneg a (show (l.length : Int) ≠ 0 by omega)
 have g2 := Int.emod_lt_of_pos a (show 0 < (l.length : Int) by omega)
 rw [e]
 generalize a % (l.length : Int) = i at g1 g2
 rw [if_pos g1, if_pos g2, if_neg (by omega)]
 have hi : i.toNat < l.length := by omega
 have hr : rd l i = l[i.toNat] := by unfold rd; rw [List.getD_eq_getElem?_getD, List.getElem?_eq_getElem hi]; rfl
 have hb := wfu8 (hw _ (List.getElem_mem hi))
 rw [← hr] at hb
 have hz : wrap64 (rd l i) = rd l i := by unfold wrap64; omega
 rw [hz, Int.tmod_eq_emod_of_nonneg hb.1]
 exact ⟨_, rfl, Int.emod_nonneg _ (by omega), Int.emod_lt_of_pos _ (by omega)⟩
end Go.Proofs.Yteimdbmfgojioaa.Print
