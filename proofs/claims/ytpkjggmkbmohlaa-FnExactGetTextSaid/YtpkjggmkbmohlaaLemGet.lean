/- Lemmas: what reading a number and a text comes to. -/
import Derived.Test.YtpkjggmkbmohlaaLemCrc
namespace Go.Proofs.Ytpkjggmkbmohlaa.Print
open Go.RowKit Go.Proofs.YtpkjggmkbmohlaaW.PrintWords Go.Proofs.YtpkjggmkbmohlaaW.PrintLast Go.Proofs.YtpkjggmkbmohlaaW.PrintMore
set_option linter.unusedVariables false
set_option linter.unusedSimpArgs false

/-! Reading a number: what both sides' loops come to. -/
/-- The byte at a place, as a number. -/
def byteAt (s : ByteArray) (i : Nat) : Nat := if h : i < s.size then (s.data.toList[i]'(by simpa using h)).toNat else 0
theorem byteAt_lt (s : ByteArray) (i : Nat) : byteAt s i < 256 := by
  unfold byteAt; split
  · exact UInt8.toNat_lt _
  · omega
theorem bt_byte {s : ByteArray} {i : Nat} (h : i < s.size) : bt s (i : Int) = (byteAt s i : Int) := by
  rw [bt_at h]; unfold byteAt; rw [dif_pos h]
/-- From a folded number back. -/
def unzig (u : Nat) : Int := if u % 2 = 1 then -((u / 2 : Nat) : Int) - 1 else ((u / 2 : Nat) : Int)
/-- Places from i on, with the bits u so far; fuel: how many bytes may still come. -/
def gn (s : ByteArray) (a : Nat) : Nat → Nat → Nat → Int × Int × Int
  | 0, _, _ => (0, 0, 3)
  | f + 1, i, u => if s.size ≤ a + i then (0, 0, 4) else
      if i = 9 ∧ 1 < byteAt s (a + i) ∨ byteAt s (a + i) = 0 ∧ 0 < i then (0, 0, 3) else
      if byteAt s (a + i) < 128 then (unzig (u + byteAt s (a + i) % 128 * 2 ^ (7 * i)), ((a + i + 1 : Nat) : Int), 0) else
      gn s a f (i + 1) (u + byteAt s (a + i) % 128 * 2 ^ (7 * i))
def getNumR (s : ByteArray) (a : Int) : Int × Int × Int := if a < 0 then (0, 0, 1) else gn s a.toNat 10 0 0

theorem bits_and127 (c : Nat) (h : c < 256) : Go.bits .and .u8 (c : Int) 127 = ((c % 128 : Nat) : Int) := by
  have := bits_mask .u8 8 (by decide) wraps_u8 7 (by decide) (c : Int) (by omega) (by omega)
  simp only [Int.pow_succ, Int.pow_zero] at this
  simpa using this
theorem bits_and64_1 (a : Nat) (ha : a < 18446744073709551616) : Go.bits .and .u64 (a : Int) 1 = ((a % 2 : Nat) : Int) := by
  have := bits_mask .u64 64 (by decide) (fun n h0 h1 => by rw [IntKind.wrap_u64]; omega) 1 (by decide) (a : Int) (by omega) (by omega)
  simp only [Int.pow_succ, Int.pow_zero] at this
  simpa using this
theorem bits_or64 (u v i : Nat) (hu : u < 2 ^ i) (hv : v * 2 ^ i < 18446744073709551616) (hu' : u < 18446744073709551616) :
    Go.bits .or .u64 (u : Int) ((v * 2 ^ i : Nat) : Int) = ((u + v * 2 ^ i : Nat) : Int) := by
  have h1 := (bits_nat .u64 64 (by decide) (fun n h0 h1 => by rw [IntKind.wrap_u64]; omega) u (v * 2 ^ i) (by omega) (by omega)).2
  rw [h1]
  congr 1
  rw [Nat.or_comm, Nat.mul_comm, ← Nat.two_pow_add_eq_or_of_lt hu, Nat.add_comm]
theorem xor_ones64 (a : Nat) (h : a < 9223372036854775808) : Go.bits .xor .i64 (a : Int) (-1) = -(a : Int) - 1 := by
  have e : BitVec.ofInt 64 (-1) = BitVec.allOnes 64 := by decide
  have h1 : (BitVec.ofInt 64 (a : Int)).toNat = a := by
    rw [BitVec.ofInt_natCast, BitVec.toNat_ofNat]; exact Nat.mod_eq_of_lt (by omega)
  show IntKind.i64.wrap ((BitVec.ofInt 64 (a : Int) ^^^ BitVec.ofInt 64 (-1)).toNat : Int) = _
  rw [e, BitVec.xor_allOnes, BitVec.toNat_not, h1, IntKind.wrap_i64]
  omega
theorem xor_zero64 (a : Nat) (h : a < 9223372036854775808) : Go.bits .xor .i64 (a : Int) 0 = (a : Int) := by
  have e : BitVec.ofInt 64 0 = (0#64) := by decide
  have h1 : (BitVec.ofInt 64 (a : Int)).toNat = a := by
    rw [BitVec.ofInt_natCast, BitVec.toNat_ofNat]; exact Nat.mod_eq_of_lt (by omega)
  show IntKind.i64.wrap ((BitVec.ofInt 64 (a : Int) ^^^ BitVec.ofInt 64 0).toNat : Int) = _
  rw [e, BitVec.xor_zero, h1, IntKind.wrap_i64]
  omega
theorem impl_unzig (u : Nat) (h : u < 18446744073709551616) : Go.bits .xor .i64 (wrap64 ((u : Int) / 2)) (wrap64 (-(wrap64 (Go.bits .and .u64 (u : Int) 1)))) = unzig u := by
  rw [bits_and64_1 u h]
  have e1 : wrap64 ((u : Int) / 2) = ((u / 2 : Nat) : Int) := by unfold wrap64; omega
  rw [e1]
  unfold unzig
  by_cases c : u % 2 = 1
  · rw [if_pos c, c, show wrap64 (-(wrap64 ((1 : Nat) : Int))) = -1 from by unfold wrap64; omega]
    exact xor_ones64 (u / 2) (by omega)
  · rw [if_neg c, show u % 2 = 0 by omega, show wrap64 (-(wrap64 ((0 : Nat) : Int))) = 0 from by unfold wrap64; omega]
    exact xor_zero64 (u / 2) (by omega)
theorem shl_fits (c i : Nat) (hc : c < 128) (hi : i ≤ 9) (h9 : i = 9 → c ≤ 1) : shl .u64 (c : Int) ((7 * i : Nat) : Int) = ((c * 2 ^ (7 * i) : Nat) : Int) ∧ c * 2 ^ (7 * i) < 18446744073709551616 := by
  have h : c * 2 ^ (7 * i) < 18446744073709551616 := by
    rcases (show i = 0 ∨ i = 1 ∨ i = 2 ∨ i = 3 ∨ i = 4 ∨ i = 5 ∨ i = 6 ∨ i = 7 ∨ i = 8 ∨ i = 9 by omega) with rfl | rfl | rfl | rfl | rfl | rfl | rfl | rfl | rfl | rfl <;> omega
  refine ⟨?_, h⟩
  unfold shl
  rw [Int.toNat_natCast, show min (7 * i) IntKind.u64.bits = 7 * i from Nat.min_eq_left (by show 7 * i ≤ 64; omega), IntKind.wrap_u64]
  have : ((c : Int) * 2 ^ (7 * i)) = ((c * 2 ^ (7 * i) : Nat) : Int) := by simp
  rw [this]; omega
theorem pow_le (i : Nat) (h : i ≤ 9) : 2 ^ (7 * i) ≤ 9223372036854775808 :=
  Nat.le_trans (Nat.pow_le_pow_right (by decide) (show 7 * i ≤ 63 by omega)) (by decide)
theorem next_lt (u c i : Nat) (hu : u < 2 ^ (7 * i)) (hc : c < 128) : u + c * 2 ^ (7 * i) < 2 ^ (7 * (i + 1)) := by
  have e : 2 ^ (7 * (i + 1)) = 128 * 2 ^ (7 * i) := by rw [show 7 * (i + 1) = 7 + 7 * i by omega, Nat.pow_add]
  rw [e]
  have : c * 2 ^ (7 * i) ≤ 127 * 2 ^ (7 * i) := Nat.mul_le_mul_right _ (by omega)
  omega
theorem sum_lt (u c i : Nat) (hu : u < 2 ^ (7 * i)) (hc : c < 128) (hi : i ≤ 9) (h9 : i = 9 → c ≤ 1) : u + c * 2 ^ (7 * i) < 18446744073709551616 := by
  rcases (show i = 0 ∨ i = 1 ∨ i = 2 ∨ i = 3 ∨ i = 4 ∨ i = 5 ∨ i = 6 ∨ i = 7 ∨ i = 8 ∨ i = 9 by omega) with rfl | rfl | rfl | rfl | rfl | rfl | rfl | rfl | rfl | rfl <;> omega

theorem impl_step (s : ByteArray) (hs : s.size ≤ 140737488351232) (a : Nat) (ha : a ≤ 9223372036854775807) (f : Nat) (i u : Nat) (hi : i + f = 9) (hu : u < 2 ^ (7 * i))
    (ih : 0 < f → ∀ u' : Nat, u' < 2 ^ (7 * (i + 1)) → Ev (fun k => impl_getNum.l0 k s a (u' : Int) ((i + 1 : Nat) : Int)) (gn s a f (i + 1) u')) :
    Ev (fun k => impl_getNum.l0 k s a (u : Int) (i : Int)) (gn s a (f + 1) i u) := by
  have hlast : ∀ x25 : Bool, x25 = decide (s.size ≤ a + i) → Ev (fun k => impl_getNum.j1 k s a (u : Int) (i : Int) x25) (gn s a (f + 1) i u) := by
    intro x25 hx
    unfold gn
    by_cases c0 : s.size ≤ a + i
    · rw [if_pos c0]
      refine Ev.one (fun k => ?_)
      simp only [impl_getNum.j1]
      rw [if_pos (by rw [hx]; simpa using c0)]
    · rw [if_neg c0]
      have hw : wrap64 ((a : Int) + (i : Int)) = ((a + i : Nat) : Int) := by unfold wrap64; omega
      have hb := bt_byte (s := s) (i := a + i) (by omega)
      have hlt := byteAt_lt s (a + i)
      generalize hcv : byteAt s (a + i) = c at hb hlt
      have fin3 : ∀ x32 : Bool, x32 = decide (i = 9 ∧ 1 < c ∨ c = 0 ∧ 0 < i) →
          Ev (fun k => impl_getNum.j3 k s a (u : Int) (i : Int) (c : Int) x32) (if i = 9 ∧ 1 < c ∨ c = 0 ∧ 0 < i then (0, 0, 3) else if c < 128 then (unzig (u + c % 128 * 2 ^ (7 * i)), ((a + i + 1 : Nat) : Int), 0) else gn s a f (i + 1) (u + c % 128 * 2 ^ (7 * i))) := by
        intro x32 hx32
        by_cases cc : i = 9 ∧ 1 < c ∨ c = 0 ∧ 0 < i
        · rw [if_pos cc]
          refine Ev.one (fun k => ?_)
          simp only [impl_getNum.j3]
          rw [if_pos (by rw [hx32]; simpa using cc)]
        · rw [if_neg cc]
          have h9 : i = 9 → c % 128 ≤ 1 := by omega
          have h7p : (0 : Int) ≤ ((7 * i : Nat) : Int) := Int.natCast_nonneg _
          have hnext : c % 128 < 128 := by omega
          have hi9 : i ≤ 9 := by omega
          obtain ⟨h7, hc1, hat, hi1⟩ : wrap64 (7 * (i : Int)) = ((7 * i : Nat) : Int) ∧ IntKind.u64.wrap (Go.bits .and .u8 (c : Int) 127) = ((c % 128 : Nat) : Int) ∧
              wrap64 (((a + i : Nat) : Int) + 1) = ((a + i + 1 : Nat) : Int) ∧ wrap64 ((i : Int) + 1) = ((i + 1 : Nat) : Int) :=
            ⟨by unfold wrap64; clear hw hu; omega, by rw [bits_and127 c hlt, IntKind.wrap_u64]; clear hw hu; omega, by unfold wrap64; clear hw hu; omega, by unfold wrap64; clear hw hu; omega⟩
          obtain ⟨hsh, hshb⟩ := shl_fits (c % 128) i hnext hi9 h9
          have hsum := sum_lt u (c % 128) i hu hnext hi9 h9
          have hnx := next_lt u (c % 128) i hu hnext
          have hor := bits_or64 u (c % 128) (7 * i) hu hshb (Nat.lt_of_lt_of_le hu (Nat.le_trans (pow_le i hi9) (by decide)))
          clear hu hshb
          generalize c % 128 * 2 ^ (7 * i) = v at hsh hsum hor hnx ⊢
          by_cases c128 : c < 128
          · rw [if_pos c128]
            refine Ev.one (fun k => ?_)
            have c128' : ((c : Int) < 128) := by clear h7 hat hi1 hc1 hsum hor hnx hw; omega
            simp only [impl_getNum.j3]
            rw [if_neg (by rw [hx32]; simpa using cc), h7, if_pos h7p, if_pos c128', hc1, hsh, hor, impl_unzig _ hsum, hw, hat]
          · rw [if_neg c128]
            refine Ev.step (f := fun k => impl_getNum.l0 k s a ((u + v : Nat) : Int) ((i + 1 : Nat) : Int)) (fun k => ?_) ?_
            · have c128' : ¬ ((c : Int) < 128) := by clear h7 hat hi1 hc1 hsum hor hnx hw; omega
              simp only [impl_getNum.j3]
              rw [if_neg (by rw [hx32]; simpa using cc), h7, if_pos h7p, if_neg c128', hc1, hsh, hor, hi1]
            · exact ih (by clear hnx h7 hat hi1 hc1 hsum hor hw; omega) _ hnx
      have fin2 : ∀ x32 : Bool, x32 = decide (i = 9 ∧ 1 < c) →
          Ev (fun k => impl_getNum.j2 k s a (u : Int) (i : Int) (c : Int) x32) (if i = 9 ∧ 1 < c ∨ c = 0 ∧ 0 < i then (0, 0, 3) else if c < 128 then (unzig (u + c % 128 * 2 ^ (7 * i)), ((a + i + 1 : Nat) : Int), 0) else gn s a f (i + 1) (u + c % 128 * 2 ^ (7 * i))) := by
        intro x32 hx32
        by_cases c9 : i = 9 ∧ 1 < c
        · refine Ev.step (f := fun k => impl_getNum.j3 k s a (u : Int) (i : Int) (c : Int) x32) (fun k => ?_) (fin3 x32 (by rw [hx32]; simp [c9]))
          simp only [impl_getNum.j2]
          rw [if_pos (by rw [hx32]; simpa using c9)]
        · by_cases cz : c = 0
          · refine Ev.step (f := fun k => impl_getNum.j3 k s a (u : Int) (i : Int) (c : Int) (decide ((i : Int) > 0))) (fun k => ?_) (fin3 _ ?_)
            · simp only [impl_getNum.j2]
              rw [if_neg (by rw [hx32]; simpa using c9), if_pos (by omega)]
            · rw [decide_eq_decide]; omega
          · refine Ev.step (f := fun k => impl_getNum.j3 k s a (u : Int) (i : Int) (c : Int) false) (fun k => ?_) (fin3 _ ?_)
            · simp only [impl_getNum.j2]
              rw [if_neg (by rw [hx32]; simpa using c9), if_neg (by omega)]
            · symm; rw [decide_eq_false_iff_not]; omega
      by_cases i9 : i = 9
      · refine Ev.step (f := fun k => impl_getNum.j2 k s a (u : Int) (i : Int) (c : Int) (decide ((c : Int) > 1))) (fun k => ?_) (fin2 _ ?_)
        · simp only [impl_getNum.j1]
          rw [if_neg (by rw [hx]; simpa using c0), hw, if_pos (by omega), if_pos (by omega), if_pos (by omega), hb]
        · rw [decide_eq_decide]; omega
      · refine Ev.step (f := fun k => impl_getNum.j2 k s a (u : Int) (i : Int) (c : Int) false) (fun k => ?_) (fin2 _ ?_)
        · simp only [impl_getNum.j1]
          rw [if_neg (by rw [hx]; simpa using c0), hw, if_pos (by omega), if_pos (by omega), if_neg (by omega), hb]
        · symm; rw [decide_eq_false_iff_not]; omega
  by_cases ov : wrap64 ((a : Int) + (i : Int)) < (a : Int)
  · refine Ev.step (f := fun k => impl_getNum.j1 k s a (u : Int) (i : Int) true) (fun k => ?_) (hlast true ?_)
    · simp only [impl_getNum.l0]
      rw [if_pos ov]
    · symm; rw [decide_eq_true_iff]; unfold wrap64 at ov; clear hlast hu; omega
  · refine Ev.step (f := fun k => impl_getNum.j1 k s a (u : Int) (i : Int) (decide ((wrap64 ((a : Int) + (i : Int))) ≥ (s.size : Int)))) (fun k => ?_) (hlast _ ?_)
    · simp only [impl_getNum.l0]
      rw [if_neg ov]
    · rw [decide_eq_decide]; unfold wrap64 at ov ⊢; clear hlast hu; omega

theorem impl_gn (s : ByteArray) (hs : s.size ≤ 140737488351232) (a : Nat) (ha : a ≤ 9223372036854775807) (f : Nat) : ∀ (i u : Nat), i + f = 9 → u < 2 ^ (7 * i) →
    Ev (fun k => impl_getNum.l0 k s a (u : Int) (i : Int)) (gn s a (f + 1) i u) := by
  induction f with
  | zero =>
    intro i u hi hu
    exact impl_step s hs a ha 0 i u hi hu (fun h => absurd h (by omega))
  | succ f ih =>
    intro i u hi hu
    exact impl_step s hs a ha (f + 1) i u hi hu (fun _ u' h' => ih (i + 1) u' (by omega) h')

theorem impl_getNum_ev (s : ByteArray) (hs : s.size ≤ 140737488351232) (a : Int) (ha : a ≤ 9223372036854775807) : Ev (fun k => impl_getNum.f k s a) (getNumR s a) := by
  unfold impl_getNum.f getNumR
  by_cases c : a < 0
  · rw [if_pos c]; exact Ev.pos c (Ev.now _)
  · rw [if_neg c]; refine Ev.neg c ?_
    have := impl_gn s hs a.toNat (by omega) 9 0 0 rfl (by decide)
    rw [Int.toNat_of_nonneg (by omega)] at this
    exact this

theorem spec_unzig (u : Nat) (h : u < 18446744073709551616) :
    (if (Int.tmod (u : Int) 2) = 1 then wrap64 ((wrap64 (-(wrap64 (IntKind.u64.wrap (Int.tdiv (u : Int) 2))))) - 1) else wrap64 (IntKind.u64.wrap (Int.tdiv (u : Int) 2))) = unzig u := by
  have e1 : IntKind.u64.wrap (Int.tdiv (u : Int) 2) = ((u / 2 : Nat) : Int) := by
    rw [Int.tdiv_eq_ediv_of_nonneg (by omega), IntKind.wrap_u64]; omega
  have e2 : Int.tmod (u : Int) 2 = ((u % 2 : Nat) : Int) := by
    rw [Int.tmod_eq_emod_of_nonneg (by omega)]; omega
  rw [e1, e2]
  unfold unzig
  by_cases c : u % 2 = 1
  · rw [if_pos c, if_pos (by omega)]; unfold wrap64; omega
  · rw [if_neg c, if_neg (by omega)]; unfold wrap64; omega

theorem spec_gn (s : ByteArray) (hs : s.size ≤ 8000) (a : Nat) (ha : a ≤ 9223372036854775807) (f : Nat) : ∀ (i u : Nat), i + f = 10 → u < 2 ^ (7 * i) →
    Ev (fun k => spec_GetNum.l0 k s a (u : Int) (i : Int)) (gn s a f i u) := by
  induction f with
  | zero =>
    intro i u hi hu
    refine Ev.one (fun k => ?_)
    simp only [spec_GetNum.l0]
    rw [if_neg (by omega)]; rfl
  | succ f ih =>
    intro i u hi hu
    have hsz : wrap64 ((s.size : Int) - (i : Int)) = (s.size : Int) - (i : Int) := by unfold wrap64; omega
    unfold gn
    by_cases c0 : s.size ≤ a + i
    · rw [if_pos c0]
      refine Ev.one (fun k => ?_)
      simp only [spec_GetNum.l0]
      rw [if_pos (by omega), hsz, if_pos (by omega)]
    · rw [if_neg c0]
      have hb := bt_byte (s := s) (i := a + i) (by clear hsz; omega)
      have hlt := byteAt_lt s (a + i)
      generalize byteAt s (a + i) = c at hb hlt
      obtain ⟨hw, hc64, h7, hi1, hcm⟩ : wrap64 ((a : Int) + (i : Int)) = ((a + i : Nat) : Int) ∧ IntKind.u64.wrap (c : Int) = (c : Int) ∧ IntKind.u64.wrap (wrap64 (7 * (i : Int))) = ((7 * i : Nat) : Int) ∧
          wrap64 ((i : Int) + 1) = ((i + 1 : Nat) : Int) ∧ Int.tmod (c : Int) 128 = ((c % 128 : Nat) : Int) :=
        ⟨by unfold wrap64; clear hsz hu; omega, by rw [IntKind.wrap_u64]; clear hsz hu; omega, by rw [IntKind.wrap_u64]; unfold wrap64; clear hsz hu; omega, by unfold wrap64; clear hsz hu; omega,
          by rw [Int.tmod_eq_emod_of_nonneg (by omega)]; clear hsz hu; omega⟩
      have hat : wrap64 ((wrap64 ((a : Int) + (i : Int))) + 1) = ((a + i + 1 : Nat) : Int) := by rw [hw]; unfold wrap64; clear hw hc64 h7 hi1 hsz hu hcm; omega
      obtain ⟨p10, psz, pa0, pas⟩ : (i : Int) < 10 ∧ ¬ ((a : Int) ≥ (s.size : Int) - (i : Int)) ∧ (0 : Int) ≤ ((a + i : Nat) : Int) ∧ ((a + i : Nat) : Int) < (s.size : Int) := by
        clear hw hc64 h7 hi1 hsz hu hcm hat; omega
      have fin1 : ∀ x38 : Bool, x38 = decide (i = 9 ∧ 1 < c) →
          Ev (fun k => spec_GetNum.j1 k s a (u : Int) (i : Int) (c : Int) x38) (if i = 9 ∧ 1 < c ∨ c = 0 ∧ 0 < i then (0, 0, 3) else if c < 128 then (unzig (u + c % 128 * 2 ^ (7 * i)), ((a + i + 1 : Nat) : Int), 0) else gn s a f (i + 1) (u + c % 128 * 2 ^ (7 * i))) := by
        intro x38 hx
        by_cases c9 : i = 9 ∧ 1 < c
        · rw [if_pos (Or.inl c9)]
          refine Ev.one (fun k => ?_)
          simp only [spec_GetNum.j1]
          rw [if_pos (by rw [hx]; simpa using c9)]
        · have h9 : i = 9 → c % 128 ≤ 1 := by clear hw hc64 h7 hi1 hsz hcm hat hb hu; omega
          have h7p : (0 : Int) ≤ ((7 * i : Nat) : Int) := Int.natCast_nonneg _
          have hnext : c % 128 < 128 := by clear hw hc64 h7 hi1 hsz hcm hat hb hu; omega
          have hi9 : i ≤ 9 := by clear hw hc64 h7 hi1 hsz hcm hat hb hu; omega
          obtain ⟨hsh, hshb⟩ := shl_fits (c % 128) i hnext hi9 h9
          have hsum := sum_lt u (c % 128) i hu hnext hi9 h9
          have hnx := next_lt u (c % 128) i hu hnext
          clear hu hshb
          generalize c % 128 * 2 ^ (7 * i) = v at hsh hsum hnx ⊢
          have hadd : IntKind.u64.wrap ((u : Int) + (v : Int)) = ((u + v : Nat) : Int) := by rw [IntKind.wrap_u64]; clear hw hc64 h7 hi1 hsz hcm hat hb hnx hsh; omega
          by_cases c128 : c < 128
          · have fin2 : ∀ x55 : Bool, x55 = decide (c = 0 ∧ 0 < i) →
                Ev (fun k => spec_GetNum.j2 k a ((u + v : Nat) : Int) (i : Int) x55) (if i = 9 ∧ 1 < c ∨ c = 0 ∧ 0 < i then (0, 0, 3) else if c < 128 then (unzig (u + v), ((a + i + 1 : Nat) : Int), 0) else gn s a f (i + 1) (u + v)) := by
              intro x55 hx5
              have su := spec_unzig _ hsum
              clear hnx hadd hsh hw hc64 h7 hi1 hsz hcm hb
              generalize u + v = v at su ⊢
              by_cases cz : c = 0 ∧ 0 < i
              · rw [if_pos (Or.inr cz)]
                refine Ev.one (fun k => ?_)
                simp only [spec_GetNum.j2]
                rw [if_pos (by rw [hx5]; simpa using cz)]
              · rw [if_neg (fun h => h.elim c9 cz), if_pos c128]
                refine Ev.one (fun k => ?_)
                simp only [spec_GetNum.j2]
                rw [if_neg (by rw [hx5]; simpa using cz), hat, ← su]
                split <;> rfl
            by_cases cz : c = 0
            · refine Ev.step (f := fun k => spec_GetNum.j2 k a ((u + v : Nat) : Int) (i : Int) (decide ((i : Int) > 0))) (fun k => ?_) (fin2 _ ?_)
              · simp only [spec_GetNum.j1]
                rw [if_neg (by rw [hx]; simpa using c9), h7, if_pos h7p, if_pos (by clear hw hc64 h7 hi1 hsz hcm hat hb hsh hadd hsum hnx fin2 h9 hx; omega), if_pos (by rw [cz]; rfl), hcm, hsh, hadd]
              · rw [decide_eq_decide]; clear hw hc64 h7 hi1 hsz hcm hat hb hsh hadd hsum hnx fin2 h9 hx; omega
            · refine Ev.step (f := fun k => spec_GetNum.j2 k a ((u + v : Nat) : Int) (i : Int) false) (fun k => ?_) (fin2 _ ?_)
              · simp only [spec_GetNum.j1]
                rw [if_neg (by rw [hx]; simpa using c9), h7, if_pos h7p, if_pos (by clear hw hc64 h7 hi1 hsz hcm hat hb hsh hadd hsum hnx fin2 h9 hx; omega), if_neg (by clear hw hc64 h7 hi1 hsz hcm hat hb hsh hadd hsum hnx fin2 h9 hx; omega), hcm, hsh, hadd]
              · symm; rw [decide_eq_false_iff_not]; clear hw hc64 h7 hi1 hsz hcm hat hb hsh hadd hsum hnx fin2 h9 hx; omega
          · rw [if_neg (by clear hw hc64 h7 hi1 hsz hcm hat hb hnx hsh hadd hsum; omega), if_neg c128]
            refine Ev.step (f := fun k => spec_GetNum.l0 k s a ((u + v : Nat) : Int) ((i + 1 : Nat) : Int)) (fun k => ?_) ?_
            · simp only [spec_GetNum.j1]
              rw [if_neg (by rw [hx]; simpa using c9), h7, if_pos h7p, if_neg (by clear hw hc64 h7 hi1 hsz hcm hat hb hsh hadd hsum hnx; omega), hcm, hsh, hadd, hi1]
            · exact ih (i + 1) _ (by clear hw hc64 h7 hi1 hsz hcm hat hb hnx hsh hadd hsum; omega) hnx
      by_cases i9 : i = 9
      · refine Ev.step (f := fun k => spec_GetNum.j1 k s a (u : Int) (i : Int) (c : Int) (decide ((c : Int) > 1))) (fun k => ?_) (fin1 _ ?_)
        · simp only [spec_GetNum.l0]
          rw [if_pos p10, hsz, if_neg psz, hw, if_pos pa0, if_pos pas, if_pos (by rw [i9]; rfl), hb, hc64]
        · rw [decide_eq_decide]; clear hw hc64 h7 hi1 hsz hcm hat hb; omega
      · refine Ev.step (f := fun k => spec_GetNum.j1 k s a (u : Int) (i : Int) (c : Int) false) (fun k => ?_) (fin1 _ ?_)
        · simp only [spec_GetNum.l0]
          rw [if_pos p10, hsz, if_neg psz, hw, if_pos pa0, if_pos pas, if_neg (by clear hw hc64 h7 hi1 hsz hcm hat hb hu fin1; omega), hb, hc64]
        · symm; rw [decide_eq_false_iff_not]; clear hw hc64 h7 hi1 hsz hcm hat hb; omega

def getNumS (s : ByteArray) (a : Int) : Int × Int × Int := if s.size > 8000 then (0, 0, 2) else getNumR s a
theorem spec_GetNum_ev (s : ByteArray) (hs : s.size ≤ 140737488351232) (a : Int) (ha : a ≤ 9223372036854775807) : Ev (fun k => spec_GetNum.f k s a) (getNumS s a) := by
  unfold spec_GetNum.f getNumS getNumR
  by_cases c8 : s.size > 8000
  · rw [if_pos c8]; exact Ev.pos (by omega) (Ev.now _)
  · rw [if_neg c8]; refine Ev.neg (by omega) ?_
    by_cases c : a < 0
    · rw [if_pos c]; exact Ev.pos c (Ev.now _)
    · rw [if_neg c]; refine Ev.neg c ?_
      have := spec_gn s (by omega) a.toNat (by omega) 10 0 0 rfl (by decide)
      rw [Int.toNat_of_nonneg (by omega)] at this
      exact this

/-- What a number read is: a code alone, or the number and the place behind it. -/
theorem gn_cases (s : ByteArray) (a f : Nat) : ∀ i u : Nat, (gn s a f i u).2.2 = 3 ∧ gn s a f i u = (0, 0, 3) ∨ gn s a f i u = (0, 0, 4) ∨
    (gn s a f i u).2.2 = 0 ∧ ∃ e : Nat, (gn s a f i u).2.1 = (e : Int) ∧ a + i < e ∧ e ≤ s.size := by
  induction f with
  | zero => intro i u; exact Or.inl ⟨rfl, rfl⟩
  | succ f ih =>
    intro i u
    unfold gn
    by_cases c0 : s.size ≤ a + i
    · rw [if_pos c0]; exact Or.inr (Or.inl rfl)
    · rw [if_neg c0]
      split
      · exact Or.inl ⟨rfl, rfl⟩
      · split
        · exact Or.inr (Or.inr ⟨rfl, a + i + 1, rfl, by omega, by omega⟩)
        · rcases ih (i + 1) (u + byteAt s (a + i) % 128 * 2 ^ (7 * i)) with h | h | ⟨h, e, h1, h2, h3⟩
          · exact Or.inl h
          · exact Or.inr (Or.inl h)
          · exact Or.inr (Or.inr ⟨h, e, h1, by omega, h3⟩)
theorem unzig_wf (u : Nat) (h : u < 18446744073709551616) : -9223372036854775808 ≤ unzig u ∧ unzig u ≤ 9223372036854775807 := by
  unfold unzig; split <;> omega
theorem gn_wf (s : ByteArray) (a f : Nat) : ∀ i u : Nat, i + f = 10 → u < 2 ^ (7 * i) → -9223372036854775808 ≤ (gn s a f i u).1 ∧ (gn s a f i u).1 ≤ 9223372036854775807 := by
  induction f with
  | zero => intro i u _ _; exact ⟨by show (-9223372036854775808 : Int) ≤ 0; omega, by show (0 : Int) ≤ _; omega⟩
  | succ f ih =>
    intro i u hi hu
    unfold gn
    by_cases c0 : s.size ≤ a + i
    · rw [if_pos c0]; exact ⟨by show (-9223372036854775808 : Int) ≤ 0; omega, by show (0 : Int) ≤ _; omega⟩
    · rw [if_neg c0]
      split
      · exact ⟨by show (-9223372036854775808 : Int) ≤ 0; omega, by show (0 : Int) ≤ _; omega⟩
      · rename_i hc
        have hlt := byteAt_lt s (a + i)
        split
        · exact unzig_wf _ (sum_lt u _ i hu (by omega) (by omega) (by omega))
        · exact ih (i + 1) _ (by omega) (next_lt u _ i hu (by omega))
theorem eqNumOut_self (a b c : Int) : laws_eqNumOut.f a b c a b c = some true := by unfold laws_eqNumOut.f; simp
theorem impl_GetNum_ev (s : ByteArray) (hs : s.size ≤ 140737488351232) (a : Int) (ha : a ≤ 9223372036854775807) : Ev (fun k => impl_GetNum.f k s a) (getNumS s a) := by
  unfold impl_GetNum.f getNumS
  by_cases c8 : s.size > 8000
  · rw [if_pos c8]; exact Ev.pos (by omega) (Ev.now _)
  · rw [if_neg c8]; refine Ev.neg (by omega) ?_
    exact Ev.bind (impl_getNum_ev s hs a ha) (Ev.now _)

/-! Reading a text. -/
def textAt (s : ByteArray) (x : Int × Int × Int) : ByteArray × Int × Int :=
  if x.2.2 ≠ 0 then (⟨#[]⟩, 0, x.2.2) else if x.1 < 0 ∨ 8000 < x.1 then (⟨#[]⟩, 0, 3) else
  if (s.size : Int) < x.2.1 + x.1 then (⟨#[]⟩, 0, 4) else (s.extract x.2.1.toNat (x.2.1 + x.1).toNat, x.2.1 + x.1, 0)
theorem textAt_ok (s : ByteArray) (x : Int × Int × Int) (h : x.2.2 = 0) : textAt s x = if x.1 < 0 ∨ 8000 < x.1 then (⟨#[]⟩, 0, 3) else
  if (s.size : Int) < x.2.1 + x.1 then (⟨#[]⟩, 0, 4) else (s.extract x.2.1.toNat (x.2.1 + x.1).toNat, x.2.1 + x.1, 0) := by
  unfold textAt; rw [if_neg (fun g => g h)]
theorem textAt_no (s : ByteArray) (x : Int × Int × Int) (h : ¬ x.2.2 = 0) : textAt s x = (⟨#[]⟩, 0, x.2.2) := by
  unfold textAt; rw [if_pos h]
def getTextS (s : ByteArray) (a : Int) : ByteArray × Int × Int := textAt s (getNumS s a)
theorem getNumS_cases (s : ByteArray) (a : Int) : (getNumS s a).2.2 ≠ 0 ∨ (getNumS s a).2.2 = 0 ∧ s.size ≤ 8000 ∧ 0 < (getNumS s a).2.1 ∧ (getNumS s a).2.1 ≤ s.size := by
  unfold getNumS getNumR
  split
  · exact Or.inl (show (2 : Int) ≠ 0 by decide)
  · split
    · exact Or.inl (show (1 : Int) ≠ 0 by decide)
    · rcases gn_cases s a.toNat 10 0 0 with h | h | ⟨h, e, h1, h2, h3⟩
      · exact Or.inl (by rw [h.1]; decide)
      · exact Or.inl (by rw [h]; decide)
      · exact Or.inr ⟨h, by omega, by rw [h1]; omega, by rw [h1]; omega⟩
theorem spec_GetText_ev (s : ByteArray) (hs : s.size ≤ 140737488351232) (a : Int) (ha : a ≤ 9223372036854775807) : Ev (fun k => spec_GetText.f k s a) (getTextS s a) := by
  unfold spec_GetText.f getTextS
  refine Ev.bind (spec_GetNum_ev s hs a ha) ?_
  have hc := getNumS_cases s a
  generalize getNumS s a = x at hc
  unfold textAt
  by_cases c0 : x.2.2 = 0
  · rw [if_neg (fun h => h c0)]
    obtain ⟨h1, h2, h3⟩ : s.size ≤ 8000 ∧ 0 < x.2.1 ∧ x.2.1 ≤ s.size := by
      rcases hc with h | ⟨_, h1, h2, h3⟩
      · exact absurd c0 h
      · exact ⟨h1, h2, h3⟩
    refine Ev.pos c0 ?_
    have last : ∀ b : Bool, b = decide (x.1 < 0 ∨ 8000 < x.1) → Ev (fun k => spec_GetText.j0 k s b x.1 x.2.1 x.2.2)
        (if x.1 < 0 ∨ 8000 < x.1 then (⟨#[]⟩, 0, 3) else if (s.size : Int) < x.2.1 + x.1 then (⟨#[]⟩, 0, 4) else (s.extract x.2.1.toNat (x.2.1 + x.1).toNat, x.2.1 + x.1, 0)) := by
      intro b hb
      refine Ev.one (fun k => ?_)
      simp only [spec_GetText.j0]
      by_cases cr : x.1 < 0 ∨ 8000 < x.1
      · rw [if_pos cr, if_pos (by rw [hb]; simpa using cr)]
      · rw [if_neg cr, if_neg (by rw [hb]; simpa using cr)]
        have e1 : wrap64 ((s.size : Int) - x.1) = (s.size : Int) - x.1 := by unfold wrap64; omega
        have e2 : wrap64 (x.2.1 + x.1) = x.2.1 + x.1 := by unfold wrap64; omega
        rw [e1, e2]
        by_cases cs : (s.size : Int) < x.2.1 + x.1
        · rw [if_pos cs, if_pos (by omega)]
        · rw [if_neg cs, if_neg (by omega), if_pos (by omega), if_pos (by omega), if_pos (by omega)]
    by_cases cn : x.1 < 0
    · exact Ev.pos cn (last true (by symm; rw [decide_eq_true_iff]; exact Or.inl cn))
    · exact Ev.neg cn (last _ (by rw [decide_eq_decide]; omega))
  · rw [if_pos c0]; exact Ev.neg c0 (Ev.now _)
theorem impl_GetText_ev (s : ByteArray) (hs : s.size ≤ 140737488351232) (a : Int) (ha : a ≤ 9223372036854775807) : Ev (fun k => impl_GetText.f k s a) (getTextS s a) := by
  unfold impl_GetText.f getTextS
  have hc := getNumS_cases s a
  by_cases c8 : s.size > 8000
  · refine Ev.pos (by omega) (Ev.to ?_ (Ev.now _))
    unfold getNumS textAt
    rw [if_pos c8]; rfl
  · refine Ev.neg (by omega) ?_
    have e : getNumS s a = getNumR s a := by unfold getNumS; rw [if_neg c8]
    rw [e] at hc ⊢
    refine Ev.bind (impl_getNum_ev s hs a ha) ?_
    generalize getNumR s a = x at hc
    by_cases c0 : x.2.2 = 0
    · rw [textAt_ok s x c0]
      obtain ⟨h1, h2, h3⟩ : s.size ≤ 8000 ∧ 0 < x.2.1 ∧ x.2.1 ≤ s.size := by
        rcases hc with h | ⟨_, h1, h2, h3⟩
        · exact absurd c0 h
        · exact ⟨h1, h2, h3⟩
      refine Ev.pos c0 (Ev.take (in_eq _ _ _) ?_)
      by_cases cr : x.1 < 0 ∨ 8000 < x.1
      · rw [if_pos cr]; exact Ev.neg (by simp; omega) (Ev.now _)
      · rw [if_neg cr]
        have e2 : wrap64 (x.2.1 + x.1) = x.2.1 + x.1 := by unfold wrap64; omega
        rw [e2]
        refine Ev.pos (by simp; omega) ?_
        by_cases cs : (s.size : Int) < x.2.1 + x.1
        · exact Ev.to (if_pos cs).symm (Ev.pos cs (Ev.now _))
        · exact Ev.to (if_neg cs).symm (Ev.neg cs (Ev.pos (by omega) (Ev.pos (by omega) (Ev.pos (by omega) (Ev.now _)))))
    · rw [textAt_no s x c0]; exact Ev.neg c0 (Ev.now _)


end Go.Proofs.Ytpkjggmkbmohlaa.Print
