/- The statement FnExactPutNum holds: the program's PutNum returns what the reference's returns, for every int64; no other condition. -/
import Derived.Test.YtnooomlhnkplaaaPFnExactPutNumx1
import Derived.Laws.Bits64
namespace Go.Proofs.Ytnooomlhnkplaaa.Pure
open Go.RowKit Go.Proofs.Ytnooomlhnkplaaa.PFnExactPutNum Go.Proofs.YtnooomlhnkplaaaW.PrintWords Go.Proofs.YtnooomlhnkplaaaW.PrintLast

/-! Varints: what numBytes and the reference's PutNum come to. -/
theorem wfi64 {n : Int} (h : (Lit.int .i64 n).wf = true) : -9223372036854775808 ≤ n ∧ n ≤ 9223372036854775807 := by
  simpa [Lit.wf, IntKind.min, IntKind.max, IntKind.signed, IntKind.bits] using h

/-- The bytes of an unsigned number, seven bits each. -/
def enc (u : Nat) : List Int := if u < 128 then [(u : Int)] else ((u % 128 + 128 : Nat) : Int) :: enc (u / 128)
termination_by u
decreasing_by omega

theorem enc_lt {u : Nat} (h : u < 128) : enc u = [(u : Int)] := by rw [enc, if_pos h]
theorem enc_ge {u : Nat} (h : 128 ≤ u) : enc u = ((u % 128 + 128 : Nat) : Int) :: enc (u / 128) := by rw [enc, if_neg (by omega)]

theorem enc_length (d : Nat) : ∀ u : Nat, u < 128 ^ d → (enc u).length ≤ max d 1 := by
  induction d with
  | zero => intro u h; rw [enc_lt (by omega)]; simp
  | succ d ih =>
    intro u h
    by_cases hu : u < 128
    · rw [enc_lt hu]; simp only [List.length_cons, List.length_nil]; omega
    · rw [enc_ge (by omega)]
      have := ih (u / 128) (by rw [Nat.pow_succ] at h; omega)
      have h2 : d ≠ 0 := by rintro rfl; simp at h; omega
      simp only [List.length_cons]; omega

theorem bits_or128_fin : ∀ a : Fin 256, 128 ≤ a.val → Go.bits .or .u8 (a.val : Int) 128 = ((a.val % 128 + 128 : Nat) : Int) := by decide +kernel
theorem bits_or128_fin' : ∀ a : Fin 256, Go.bits .or .u8 (a.val : Int) 128 = ((a.val % 128 + 128 : Nat) : Int) := by decide +kernel
theorem bits_or128 (u : Nat) : Go.bits .or .u8 ((u : Int) % 256) 128 = ((u % 128 + 128 : Nat) : Int) := by
  have h := bits_or128_fin' ⟨u % 256, by omega⟩
  have e : ((u : Int) % 256) = ((u % 256 : Nat) : Int) := by omega
  rw [e]
  refine h.trans ?_
  simp only []
  omega

theorem bits_xor_ones (a : Nat) (h : a < 18446744073709551616) : Go.bits .xor .u64 (a : Int) 18446744073709551615 = 18446744073709551615 - (a : Int) := by
  have e : BitVec.ofInt 64 18446744073709551615 = BitVec.allOnes 64 := by decide
  have h1 : (BitVec.ofInt 64 (a : Int)).toNat = a := by
    rw [BitVec.ofInt_natCast, BitVec.toNat_ofNat]; exact Nat.mod_eq_of_lt (by omega)
  show IntKind.u64.wrap ((BitVec.ofInt 64 (a : Int) ^^^ BitVec.ofInt 64 18446744073709551615).toNat : Int) = _
  rw [e, BitVec.xor_allOnes, BitVec.toNat_not, h1, IntKind.wrap_u64]
  omega
theorem bits_xor_zero (a : Nat) (h : a < 18446744073709551616) : Go.bits .xor .u64 (a : Int) 0 = (a : Int) := by
  have := bits_xor_u64_nat a 0 h (by omega)
  simpa using this

/-- A number folded: the sign in the lowest bit. -/
def zig (n : Int) : Nat := if n < 0 then (-2 * n - 1).toNat else (2 * n).toNat
theorem zig_lt {n : Int} (h0 : -9223372036854775808 ≤ n) (h1 : n ≤ 9223372036854775807) : zig n < 18446744073709551616 := by unfold zig; split <;> omega

theorem impl_zig {n : Int} (h0 : -9223372036854775808 ≤ n) (h1 : n ≤ 9223372036854775807) :
    Go.bits .xor .u64 (IntKind.u64.wrap ((IntKind.u64.wrap n) * 2)) (IntKind.u64.wrap (n / 9223372036854775808)) = (zig n : Int) := by
  unfold zig
  by_cases h : n < 0
  · rw [if_pos h]
    have e1 : IntKind.u64.wrap ((IntKind.u64.wrap n) * 2) = ((2 * n + 18446744073709551616).toNat : Int) := by
      simp only [IntKind.wrap_u64]; omega
    have e2 : IntKind.u64.wrap (n / 9223372036854775808) = 18446744073709551615 := by
      simp only [IntKind.wrap_u64]; omega
    rw [e1, e2, bits_xor_ones _ (by omega)]
    omega
  · rw [if_neg h]
    have e1 : IntKind.u64.wrap ((IntKind.u64.wrap n) * 2) = ((2 * n).toNat : Int) := by
      simp only [IntKind.wrap_u64]; omega
    have e2 : IntKind.u64.wrap (n / 9223372036854775808) = 0 := by
      simp only [IntKind.wrap_u64]; omega
    rw [e1, e2, bits_xor_zero _ (by omega)]

theorem spec_zig {n : Int} (h0 : -9223372036854775808 ≤ n) (h1 : n ≤ 9223372036854775807) : spec_l01Fold.f n = some ((zig n : Nat) : Int) := by
  unfold spec_l01Fold.f zig
  by_cases h : n < 0
  · rw [if_pos h, if_pos h]
    congr 1
    simp only [IntKind.wrap_u64]; unfold wrap64; omega
  · rw [if_neg h, if_neg h]
    congr 1
    simp only [IntKind.wrap_u64]; omega

theorem impl_numBytes_l0 (d : Nat) : ∀ u : Nat, u < 128 ^ (d + 1) → u < 18446744073709551616 → ∀ acc : List Int, acc.length + d < 140737488355328 →
    Ev (fun k => impl_numBytes.l0 k (u : Int) acc) (acc ++ enc u) := by
  induction d with
  | zero =>
    intro u h1 h2 acc h3
    refine Ev.step (f := fun _ => some (acc ++ enc u)) (fun k => ?_) (Ev.now _)
    simp only [impl_numBytes.l0]
    rw [if_neg (by omega), if_pos (by omega), enc_lt (by omega)]
    congr 3; omega
  | succ d ih =>
    intro u h1 h2 acc h3
    by_cases hu : u < 128
    · refine Ev.step (f := fun _ => some (acc ++ enc u)) (fun k => ?_) (Ev.now _)
      simp only [impl_numBytes.l0]
      rw [if_neg (by omega), if_pos (by omega), enc_lt (by omega)]
      congr 3; omega
    · refine Ev.step (f := fun k => impl_numBytes.l0 k ((u / 128 : Nat) : Int) (acc ++ [((u % 128 + 128 : Nat) : Int)])) (fun k => ?_) ?_
      · simp only [impl_numBytes.l0]
        rw [if_pos (by omega), if_pos (by omega), bits_or128]
        congr 1
      · have := ih (u / 128) (by rw [Nat.pow_succ] at h1; omega) (by omega) (acc ++ [((u % 128 + 128 : Nat) : Int)]) (by simp; omega)
        rw [enc_ge (by omega)]
        simpa using this

theorem impl_numBytes_ev {n : Int} (h0 : -9223372036854775808 ≤ n) (h1 : n ≤ 9223372036854775807) : Ev (fun k => impl_numBytes.f k n) (enc (zig n)) := by
  unfold impl_numBytes.f
  rw [impl_zig h0 h1]
  simpa using impl_numBytes_l0 9 (zig n) (by have := zig_lt h0 h1; omega) (zig_lt h0 h1) [] (by simp)

theorem spec_PutNum_l0 (d : Nat) : ∀ u : Nat, u < 128 ^ (d + 1) → u < 18446744073709551616 → ∀ acc : List Int, acc.length + d < 140737488355328 →
    Ev (fun k => spec_PutNum.l0 k (u : Int) acc) (strOfNums (acc ++ enc u)) := by
  induction d with
  | zero =>
    intro u h1 h2 acc h3
    refine Ev.step (f := fun _ => some (strOfNums (acc ++ enc u))) (fun k => ?_) (Ev.now _)
    simp only [spec_PutNum.l0]
    rw [if_neg (by omega), if_pos (by omega), enc_lt (by omega)]
    congr 4; omega
  | succ d ih =>
    intro u h1 h2 acc h3
    by_cases hu : u < 128
    · refine Ev.step (f := fun _ => some (strOfNums (acc ++ enc u))) (fun k => ?_) (Ev.now _)
      simp only [spec_PutNum.l0]
      rw [if_neg (by omega), if_pos (by omega), enc_lt (by omega)]
      congr 4; omega
    · refine Ev.step (f := fun k => spec_PutNum.l0 k ((u / 128 : Nat) : Int) (acc ++ [((u % 128 + 128 : Nat) : Int)])) (fun k => ?_) ?_
      · simp only [spec_PutNum.l0]
        rw [if_pos (by omega), if_pos (by omega)]
        have e1 : IntKind.u64.wrap (Int.tdiv (u : Int) 128) = ((u / 128 : Nat) : Int) := by
          rw [Int.tdiv_eq_ediv_of_nonneg (by omega), IntKind.wrap_u64]; omega
        have e2 : (IntKind.u64.wrap ((Int.tmod (u : Int) 128) + 128)) % 256 = ((u % 128 + 128 : Nat) : Int) := by
          rw [Int.tmod_eq_emod_of_nonneg (by omega), IntKind.wrap_u64]; omega
        rw [e1, e2]
      · have := ih (u / 128) (by rw [Nat.pow_succ] at h1; omega) (by omega) (acc ++ [((u % 128 + 128 : Nat) : Int)]) (by simp; omega)
        rw [enc_ge (by omega)]
        simpa using this

theorem spec_PutNum_ev {n : Int} (h0 : -9223372036854775808 ≤ n) (h1 : n ≤ 9223372036854775807) : Ev (fun k => spec_PutNum.f k n) (strOfNums (enc (zig n))) := by
  unfold spec_PutNum.f
  rw [spec_zig h0 h1]
  simp only [Option.bind_some]
  simpa using spec_PutNum_l0 9 (zig n) (by have := zig_lt h0 h1; omega) (zig_lt h0 h1) [] (by simp)

theorem impl_PutNum_ev {n : Int} (h0 : -9223372036854775808 ≤ n) (h1 : n ≤ 9223372036854775807) : Ev (fun k => impl_PutNum.f k n) (strOfNums (enc (zig n))) := by
  unfold impl_PutNum.f
  exact Ev.bind (impl_numBytes_ev h0 h1) (Ev.now _)

theorem size_strOfNums (l : List Int) : (strOfNums l).size = l.length := by simp [strOfNums, ByteArray.size]
theorem enc_zig_length {n : Int} (h0 : -9223372036854775808 ≤ n) (h1 : n ≤ 9223372036854775807) : (enc (zig n)).length ≤ 10 := by
  have := enc_length 10 (zig n) (by have := zig_lt h0 h1; omega)
  omega

theorem FnExactPutNum : laws_FnExactPutNum.Pure := by
  intro a h
  obtain ⟨h0, h1⟩ := wfi64 h
  refine Ev.rounds (g := fun k => laws_FnExactPutNum.f k a) ?_
  unfold laws_FnExactPutNum.f
  refine Ev.bind (spec_PutNum_ev h0 h1) ?_
  refine Ev.bind (impl_PutNum_ev h0 h1) ?_
  rw [if_pos rfl]
  exact Ev.now _

end Go.Proofs.Ytnooomlhnkplaaa.Pure
