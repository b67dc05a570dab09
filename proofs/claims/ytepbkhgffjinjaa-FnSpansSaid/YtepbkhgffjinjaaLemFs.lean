/- Lemmas: what the printed functions come to. -/
import Derived.Test.YtepbkhgffjinjaaPrint6
import Derived.Test.YtepbkhgffjinjaaPrint11
import Derived.Test.YtepbkhgffjinjaaPrint13
import Derived.Test.YtepbkhgffjinjaaPrint15
import Derived.Test.YtepbkhgffjinjaaPrint18
import Derived.Test.YtepbkhgffjinjaaPrint19
import Derived.Test.YtepbkhgffjinjaaPrint20
import Derived.Test.YtepbkhgffjinjaaLemOpens
import Derived.Laws.Bits64
namespace Go.Proofs.Ytepbkhgffjinjaa.Print
open Go.RowKit Go.Proofs.YtepbkhgffjinjaaW.PrintWords Go.Proofs.YtepbkhgffjinjaaW.PrintLast Go.Proofs.YtepbkhgffjinjaaW.PrintMore
set_option linter.unusedVariables false
set_option linter.unusedSimpArgs false
theorem Ev.pos {α : Type} {c : Prop} [Decidable c] {f g : Nat → Option α} {r : α} (hc : c) (h : Ev f r) : Ev (fun n => if c then f n else g n) r := by
 simp only [hc, if_true]; exact h
theorem Ev.neg {α : Type} {c : Prop} [Decidable c] {f g : Nat → Option α} {r : α} (hc : ¬ c) (h : Ev g r) : Ev (fun n => if c then f n else g n) r := by
 simp only [hc, if_false]; exact h
theorem Ev.take {α β : Type} {o : Option α} {f : Nat → α → Option β} {a : α} {r : β} (h : o = some a) (k : Ev (fun n => f n a) r) : Ev (fun n => o.bind (f n)) r := by
 subst h; exact k
theorem Ev.one {α : Type} {g : Nat → Option α} {r : α} (h : ∀ k, g (k + 1) = some r) : Ev g r := Ev.step (f := fun _ => some r) h (Ev.now r)
theorem Ev.to {α : Type} {g : Nat → Option α} {r q : α} (e : r = q) (h : Ev g r) : Ev g q := e ▸ h
theorem bt_at {s : ByteArray} {i : Nat} (h : i < s.size) : bt s (i : Int) = ((s.data.toList[i]'(by simpa using h)).toNat : Int) := by
 unfold bt
 rw [dif_pos (by simpa using h)]
 rfl
theorem w64 {n : Int} (h0 : -9223372036854775808 ≤ n) (h1 : n ≤ 9223372036854775807) : wrap64 n = n := by unfold wrap64; omega
theorem drop_cons {α : Type} {l : List α} {i : Nat} (h : i < l.length) : l.drop i = l[i] :: l.drop (i + 1) := List.drop_eq_getElem_cons h
theorem getD_at {α : Type} {l : List α} {i : Nat} (d : α) (h : i < l.length) : l.getD ((i : Int)).toNat d = l[i] := by
 rw [Int.toNat_natCast, List.getD_eq_getElem?_getD, List.getElem?_eq_getElem h]; rfl
def enc (u : Nat) : List Int := if u < 128 then [(u : Int)] else ((u % 128 + 128 : Nat) : Int) :: enc (u / 128)
termination_by u
decreasing_by omega
theorem enc_lt {u : Nat} (h : u < 128) : enc u = [(u : Int)] := by rw [enc, if_pos h]
theorem enc_ge {u : Nat} (h : 128 ≤ u) : enc u = ((u % 128 + 128 : Nat) : Int) :: enc (u / 128) := by rw [enc, if_neg (by omega)]
theorem enc_length (d : Nat) : ∀ u : Nat, u < 128 ^ d → (enc u).length ≤ max d 1 := by
 induction d with
 | zero => intro u h; rw [enc_lt (by omega)]; simp
 | succ d ih =>
  intro u h
  by_cases hu : u < 128
  ·
   rw [enc_lt hu]; simp only [List.length_cons, List.length_nil]; omega
  ·
   rw [enc_ge (by omega)]
   have := ih (u / 128) (by rw [Nat.pow_succ] at h; omega)
   have h2 : d ≠ 0 := by rintro rfl; simp at h; omega
   simp only [List.length_cons]; omega
theorem bits_or128_fin' : ∀ a : Fin 256, Go.bits .or .u8 (a.val : Int) 128 = ((a.val % 128 + 128 : Nat) : Int) := by decide +kernel
theorem bits_or128 (u : Nat) : Go.bits .or .u8 ((u : Int) % 256) 128 = ((u % 128 + 128 : Nat) : Int) := by
 have h := bits_or128_fin' ⟨u % 256, by omega⟩
 have e : ((u : Int) % 256) = ((u % 256 : Nat) : Int) := by omega
 rw [e]
 refine h.trans ?_
 simp only []
 omega
theorem bits_xor_ones (a : Nat) (h : a < 18446744073709551616) : Go.bits .xor .u64 (a : Int) 18446744073709551615 = 18446744073709551615 - (a : Int) := by
 have e : BitVec.ofInt 64 18446744073709551615 = BitVec.allOnes 64 := by decide
 have h1 : (BitVec.ofInt 64 (a : Int)).toNat = a := by
  rw [BitVec.ofInt_natCast, BitVec.toNat_ofNat]; exact Nat.mod_eq_of_lt (by omega)
 show IntKind.u64.wrap ((BitVec.ofInt 64 (a : Int) ^^^ BitVec.ofInt 64 18446744073709551615).toNat : Int) = _
 rw [e, BitVec.xor_allOnes, BitVec.toNat_not, h1, IntKind.wrap_u64]
 omega
theorem bits_xor_zero (a : Nat) (h : a < 18446744073709551616) : Go.bits .xor .u64 (a : Int) 0 = (a : Int) := by
 have := bits_xor_u64_nat a 0 h (by omega)
 simpa using this
def zig (n : Int) : Nat := if n < 0 then (-2 * n - 1).toNat else (2 * n).toNat
theorem zig_lt {n : Int} (h0 : -9223372036854775808 ≤ n) (h1 : n ≤ 9223372036854775807) : zig n < 18446744073709551616 := by unfold zig; split <;> omega
theorem impl_zig {n : Int} (h0 : -9223372036854775808 ≤ n) (h1 : n ≤ 9223372036854775807) :
  Go.bits .xor .u64 (IntKind.u64.wrap ((IntKind.u64.wrap n) * 2)) (IntKind.u64.wrap (n / 9223372036854775808)) = (zig n : Int) := by
 unfold zig
 by_cases h : n < 0
 ·
  rw [if_pos h]
  have e1 : IntKind.u64.wrap ((IntKind.u64.wrap n) * 2) = ((2 * n + 18446744073709551616).toNat : Int) := by
   simp only [IntKind.wrap_u64]; omega
  have e2 : IntKind.u64.wrap (n / 9223372036854775808) = 18446744073709551615 := by
   simp only [IntKind.wrap_u64]; omega
  rw [e1, e2, bits_xor_ones _ (by omega)]
  omega
 ·
  rw [if_neg h]
  have e1 : IntKind.u64.wrap ((IntKind.u64.wrap n) * 2) = ((2 * n).toNat : Int) := by
   simp only [IntKind.wrap_u64]; omega
  have e2 : IntKind.u64.wrap (n / 9223372036854775808) = 0 := by
   simp only [IntKind.wrap_u64]; omega
  rw [e1, e2, bits_xor_zero _ (by omega)]
theorem spec_zig {n : Int} (h0 : -9223372036854775808 ≤ n) (h1 : n ≤ 9223372036854775807) : spec_l01Fold.f n = some ((zig n : Nat) : Int) := by
 unfold spec_l01Fold.f zig
 by_cases h : n < 0
 ·
  rw [if_pos h, if_pos h]
  congr 1
  simp only [IntKind.wrap_u64]; unfold wrap64; omega
 ·
  rw [if_neg h, if_neg h]
  congr 1
  simp only [IntKind.wrap_u64]; omega
theorem impl_numBytes_l0 (d : Nat) : ∀ u : Nat, u < 128 ^ (d + 1) → u < 18446744073709551616 → ∀ acc : List Int, acc.length + d < 140737488355328 →
  Ev (fun k => impl_numBytes.l0 k (u : Int) acc) (acc ++ enc u) := by
 induction d with
 | zero =>
  intro u h1 h2 acc h3
  refine Ev.step (f := fun _ => some (acc ++ enc u)) (fun k => ?_) (Ev.now _)
  simp only [impl_numBytes.l0]
  rw [if_neg (by omega), if_pos (by omega), enc_lt (by omega)]
  congr 3; omega
 | succ d ih =>
  intro u h1 h2 acc h3
  by_cases hu : u < 128
  ·
   refine Ev.step (f := fun _ => some (acc ++ enc u)) (fun k => ?_) (Ev.now _)
   simp only [impl_numBytes.l0]
   rw [if_neg (by omega), if_pos (by omega), enc_lt (by omega)]
   congr 3; omega
  ·
   refine Ev.step (f := fun k => impl_numBytes.l0 k ((u / 128 : Nat) : Int) (acc ++ [((u % 128 + 128 : Nat) : Int)])) (fun k => ?_) ?_
   ·
    simp only [impl_numBytes.l0]
    rw [if_pos (by omega), if_pos (by omega), bits_or128]
    congr 1
   ·
    have := ih (u / 128) (by rw [Nat.pow_succ] at h1; omega) (by omega) (acc ++ [((u % 128 + 128 : Nat) : Int)]) (by simp; omega)
    rw [enc_ge (by omega)]
    simpa using this
theorem impl_numBytes_ev {n : Int} (h0 : -9223372036854775808 ≤ n) (h1 : n ≤ 9223372036854775807) : Ev (fun k => impl_numBytes.f k n) (enc (zig n)) := by
 unfold impl_numBytes.f
 rw [impl_zig h0 h1]
 simpa using impl_numBytes_l0 9 (zig n) (by have := zig_lt h0 h1; omega) (zig_lt h0 h1) [] (by simp)
theorem spec_PutNum_l0 (d : Nat) : ∀ u : Nat, u < 128 ^ (d + 1) → u < 18446744073709551616 → ∀ acc : List Int, acc.length + d < 140737488355328 →
  Ev (fun k => spec_PutNum.l0 k (u : Int) acc) (strOfNums (acc ++ enc u)) := by
 induction d with
 | zero =>
  intro u h1 h2 acc h3
  refine Ev.step (f := fun _ => some (strOfNums (acc ++ enc u))) (fun k => ?_) (Ev.now _)
  simp only [spec_PutNum.l0]
  rw [if_neg (by omega), if_pos (by omega), enc_lt (by omega)]
  congr 4; omega
 | succ d ih =>
  intro u h1 h2 acc h3
  by_cases hu : u < 128
  ·
   refine Ev.step (f := fun _ => some (strOfNums (acc ++ enc u))) (fun k => ?_) (Ev.now _)
   simp only [spec_PutNum.l0]
   rw [if_neg (by omega), if_pos (by omega), enc_lt (by omega)]
   congr 4; omega
  ·
   refine Ev.step (f := fun k => spec_PutNum.l0 k ((u / 128 : Nat) : Int) (acc ++ [((u % 128 + 128 : Nat) : Int)])) (fun k => ?_) ?_
   ·
    simp only [spec_PutNum.l0]
    rw [if_pos (by omega), if_pos (by omega)]
    have e1 : IntKind.u64.wrap (Int.tdiv (u : Int) 128) = ((u / 128 : Nat) : Int) := by
     rw [Int.tdiv_eq_ediv_of_nonneg (by omega), IntKind.wrap_u64]; omega
    have e2 : (IntKind.u64.wrap ((Int.tmod (u : Int) 128) + 128)) % 256 = ((u % 128 + 128 : Nat) : Int) := by
     rw [Int.tmod_eq_emod_of_nonneg (by omega), IntKind.wrap_u64]; omega
    rw [e1, e2]
   ·
    have := ih (u / 128) (by rw [Nat.pow_succ] at h1; omega) (by omega) (acc ++ [((u % 128 + 128 : Nat) : Int)]) (by simp; omega)
    rw [enc_ge (by omega)]
    simpa using this
theorem spec_PutNum_ev {n : Int} (h0 : -9223372036854775808 ≤ n) (h1 : n ≤ 9223372036854775807) : Ev (fun k => spec_PutNum.f k n) (strOfNums (enc (zig n))) := by
 unfold spec_PutNum.f
 rw [spec_zig h0 h1]
 simp only [Option.bind_some]
 simpa using spec_PutNum_l0 9 (zig n) (by have := zig_lt h0 h1; omega) (zig_lt h0 h1) [] (by simp)
theorem size_strOfNums (l : List Int) : (strOfNums l).size = l.length := by simp [strOfNums, ByteArray.size]
theorem enc_zig_length {n : Int} (h0 : -9223372036854775808 ≤ n) (h1 : n ≤ 9223372036854775807) : (enc (zig n)).length ≤ 10 := by
 have := enc_length 10 (zig n) (by have := zig_lt h0 h1; omega)
 omega
theorem rd_at {l : List Int} {i : Nat} (h : i < l.length) : rd l (i : Int) = l[i] := getD_at _ h
abbrev Sp := S60
theorem sp_at {l : List Sp} {i : Nat} (h : i < l.length) : rd_T60 l (i : Int) = l[i] := getD_at _ h
theorem in_eq (a b c : Int) : impl_in.f a b c = some (decide (b ≤ a ∧ a ≤ c)) := by
 unfold impl_in.f; split <;> simp [*]
theorem is_eq (a b c : Int) : spec_l02Is.f a b c = some (decide (b ≤ a ∧ a ≤ c)) := by
 unfold spec_l02Is.f
 by_cases h : b ≤ a
 ·
  rw [if_pos h]; simp [h]
 ·
  rw [if_neg h]; simp [h]
theorem isId_eq (a : Int) : impl_isId.f a = some (decide (1 ≤ a ∧ a ≤ 1000000)) := by unfold impl_isId.f; rw [in_eq]; rfl
theorem l02Id_eq (a : Int) : spec_l02Id.f a = some (decide (1 ≤ a ∧ a ≤ 1000000)) := by unfold spec_l02Id.f; rw [is_eq]; rfl
def okFrom : Int → List Sp → Bool
 | _, [] => true
 | lo, x :: r => decide (lo ≤ x.f0 ∧ x.f0 ≤ x.f1 ∧ x.f1 ≤ 1000000) && okFrom (x.f1 + 2) r
def spRight (l : List Sp) : Bool := decide (l.length ≤ 400) && okFrom 1 l
theorem okFrom_step {lo : Int} {x : Sp} {r : List Sp} : okFrom lo (x :: r) = (decide (lo ≤ x.f0 ∧ x.f0 ≤ x.f1 ∧ x.f1 ≤ 1000000) && okFrom (x.f1 + 2) r) := rfl
theorem impl_SR_l0 (l : List Sp) (hl : l.length ≤ 9223372036854775807) (d : Nat) : ∀ (i : Nat) (lo : Int), i + d = l.length → 1 ≤ lo → lo ≤ 1000002 →
  (i = 0 ∧ lo = 1 ∨ ∃ h : 0 < i ∧ i ≤ l.length, lo = (l[i - 1]'(by omega)).f1 + 2) →
  Ev (fun k => impl_SpansRight.l0 k l l (l.length : Int) (i : Int)) (okFrom lo (l.drop i) && decide (l.length ≤ 400)) := by
 induction d with
 | zero =>
  intro i lo hi _ _ _
  refine Ev.one (fun k => ?_)
  simp only [impl_SpansRight.l0]
  rw [if_neg (by omega), List.drop_of_length_le (by omega)]
  simp [okFrom]
  omega
 | succ d ih =>
  intro i lo hi h1 h2 hp
  have hlt : i < l.length := by omega
  rw [drop_cons hlt, okFrom_step]
  have hw : wrap64 ((i : Int) + 1) = ((i + 1 : Nat) : Int) := by unfold wrap64; omega
  generalize hx : l[i] = x
  have hx' : rd_T60 l (i : Int) = x := by rw [sp_at hlt, hx]
  by_cases c1 : 1 ≤ x.f0 ∧ x.f0 ≤ 1000000
  ·
   by_cases c2 : x.f0 ≤ x.f1 ∧ x.f1 ≤ 1000000
   ·
    by_cases c3 : lo ≤ x.f0
    ·
     refine Ev.step (f := fun k => impl_SpansRight.l0 k l l (l.length : Int) ((i + 1 : Nat) : Int)) (fun k => ?_) ?_
     ·
      simp only [impl_SpansRight.l0]
      rw [if_pos (by omega), if_pos (by omega), if_pos (by omega), hx', isId_eq, in_eq, hw]
      simp only [Option.bind_some]
      rw [if_pos (by simpa using c1), if_pos (by simpa using c2)]
      rcases hp with ⟨rfl, rfl⟩ | ⟨⟨p1, p2⟩, hlo⟩
      ·
       rw [if_neg (by omega)]
      ·
       have e1 : wrap64 ((i : Int) - 1) = ((i - 1 : Nat) : Int) := by unfold wrap64; omega
       have e2 : wrap64 ((l[i - 1]'(by omega)).f1 + 2) = lo := by rw [← hlo]; exact w64 (by omega) (by omega)
       rw [if_pos (by omega), e1, if_pos (by omega), if_pos (by omega), sp_at (by omega), e2, if_neg (by omega)]
     ·
      have := ih (i + 1) (x.f1 + 2) (by omega) (by omega) (by omega) (Or.inr ⟨⟨by omega, by omega⟩, by
       simp only [Nat.add_sub_cancel]; rw [hx]⟩)
      rw [show decide (lo ≤ x.f0 ∧ x.f0 ≤ x.f1 ∧ x.f1 ≤ 1000000) = true from decide_eq_true ⟨c3, c2⟩, Bool.true_and]
      exact this
    ·
     rw [show decide (lo ≤ x.f0 ∧ x.f0 ≤ x.f1 ∧ x.f1 ≤ 1000000) = false from decide_eq_false (by omega), Bool.false_and, Bool.false_and]
     refine Ev.one (fun k => ?_)
     simp only [impl_SpansRight.l0]
     rw [if_pos (by omega), if_pos (by omega), if_pos (by omega), hx', isId_eq, in_eq]
     simp only [Option.bind_some]
     rw [if_pos (by simpa using c1), if_pos (by simpa using c2)]
     rcases hp with ⟨rfl, rfl⟩ | ⟨⟨p1, p2⟩, hlo⟩
     ·
      omega
     ·
      have e1 : wrap64 ((i : Int) - 1) = ((i - 1 : Nat) : Int) := by unfold wrap64; omega
      have e2 : wrap64 ((l[i - 1]'(by omega)).f1 + 2) = lo := by rw [← hlo]; exact w64 (by omega) (by omega)
      rw [if_pos (by omega), e1, if_pos (by omega), if_pos (by omega), sp_at (by omega), e2, if_pos (by omega)]
   ·
    rw [show decide (lo ≤ x.f0 ∧ x.f0 ≤ x.f1 ∧ x.f1 ≤ 1000000) = false from decide_eq_false (by omega), Bool.false_and, Bool.false_and]
    refine Ev.one (fun k => ?_)
    simp only [impl_SpansRight.l0]
    rw [if_pos (by omega), if_pos (by omega), if_pos (by omega), hx', isId_eq, in_eq]
    simp only [Option.bind_some]
    rw [if_pos (by simpa using c1), if_neg (by simpa using c2)]
  ·
   rw [show decide (lo ≤ x.f0 ∧ x.f0 ≤ x.f1 ∧ x.f1 ≤ 1000000) = false from decide_eq_false (by omega), Bool.false_and, Bool.false_and]
   refine Ev.one (fun k => ?_)
   simp only [impl_SpansRight.l0]
   rw [if_pos (by omega), if_pos (by omega), if_pos (by omega), hx', isId_eq]
   simp only [Option.bind_some]
   rw [if_neg (by simpa using c1)]
theorem impl_SR_ev (l : List Sp) (hl : l.length ≤ 9223372036854775807) : Ev (fun k => impl_SpansRight.f k l) (spRight l) := by
 unfold impl_SpansRight.f spRight
 rw [Bool.and_comm]
 simpa using impl_SR_l0 l hl l.length 0 1 (by omega) (by omega) (by omega) (Or.inl ⟨rfl, rfl⟩)
theorem spec_SR_l0 (l : List Sp) (hl : l.length ≤ 9223372036854775807) (d : Nat) : ∀ (i : Nat) (lo : Int), i + d = l.length → 1 ≤ lo → lo ≤ 1000002 →
  (i = 0 ∧ lo = 1 ∨ ∃ h : 0 < i ∧ i ≤ l.length, lo = (l[i - 1]'(by omega)).f1 + 2) →
  Ev (fun k => spec_SpansRight.l0 k l (i : Int)) (okFrom lo (l.drop i)) := by
 induction d with
 | zero =>
  intro i lo hi _ _ _
  refine Ev.one (fun k => ?_)
  simp only [spec_SpansRight.l0]
  rw [if_neg (by omega), List.drop_of_length_le (by omega)]
  simp [okFrom]
 | succ d ih =>
  intro i lo hi h1 h2 hp
  have hlt : i < l.length := by omega
  rw [drop_cons hlt, okFrom_step]
  have hw : wrap64 ((i : Int) + 1) = ((i + 1 : Nat) : Int) := by unfold wrap64; omega
  generalize hx : l[i] = x
  have hx' : rd_T60 l (i : Int) = x := by rw [sp_at hlt, hx]
  by_cases c1 : 1 ≤ x.f0 ∧ x.f0 ≤ 1000000
  ·
   by_cases c2 : x.f0 ≤ x.f1 ∧ x.f1 ≤ 1000000
   ·
    by_cases c3 : lo ≤ x.f0
    ·
     refine Ev.step (f := fun k => spec_SpansRight.l0 k l ((i + 1 : Nat) : Int)) (fun k => ?_) ?_
     ·
      simp only [spec_SpansRight.l0]
      rw [if_pos (by omega), if_pos (by omega), hx', l02Id_eq, is_eq, hw]
      simp only [Option.bind_some]
      rw [if_pos (by simpa using c1), if_pos (by simpa using c2)]
      rcases hp with ⟨rfl, rfl⟩ | ⟨⟨p1, p2⟩, hlo⟩
      ·
       rw [if_neg (by omega)]
      ·
       have e1 : wrap64 ((i : Int) - 1) = ((i - 1 : Nat) : Int) := by unfold wrap64; omega
       have e2 : wrap64 ((l[i - 1]'(by omega)).f1 + 2) = lo := by rw [← hlo]; exact w64 (by omega) (by omega)
       rw [if_pos (by omega), e1, if_pos (by omega), if_pos (by omega), sp_at (by omega), e2, if_neg (by omega)]
     ·
      have := ih (i + 1) (x.f1 + 2) (by omega) (by omega) (by omega) (Or.inr ⟨⟨by omega, by omega⟩, by
       simp only [Nat.add_sub_cancel]; rw [hx]⟩)
      rw [show decide (lo ≤ x.f0 ∧ x.f0 ≤ x.f1 ∧ x.f1 ≤ 1000000) = true from decide_eq_true ⟨c3, c2⟩, Bool.true_and]
      exact this
    ·
     rw [show decide (lo ≤ x.f0 ∧ x.f0 ≤ x.f1 ∧ x.f1 ≤ 1000000) = false from decide_eq_false (by omega), Bool.false_and]
     refine Ev.one (fun k => ?_)
     simp only [spec_SpansRight.l0]
     rw [if_pos (by omega), if_pos (by omega), hx', l02Id_eq, is_eq]
     simp only [Option.bind_some]
     rw [if_pos (by simpa using c1), if_pos (by simpa using c2)]
     rcases hp with ⟨rfl, rfl⟩ | ⟨⟨p1, p2⟩, hlo⟩
     ·
      omega
     ·
      have e1 : wrap64 ((i : Int) - 1) = ((i - 1 : Nat) : Int) := by unfold wrap64; omega
      have e2 : wrap64 ((l[i - 1]'(by omega)).f1 + 2) = lo := by rw [← hlo]; exact w64 (by omega) (by omega)
      rw [if_pos (by omega), e1, if_pos (by omega), if_pos (by omega), sp_at (by omega), e2, if_pos (by omega)]
   ·
    rw [show decide (lo ≤ x.f0 ∧ x.f0 ≤ x.f1 ∧ x.f1 ≤ 1000000) = false from decide_eq_false (by omega), Bool.false_and]
    refine Ev.one (fun k => ?_)
    simp only [spec_SpansRight.l0]
    rw [if_pos (by omega), if_pos (by omega), hx', l02Id_eq, is_eq]
    simp only [Option.bind_some]
    rw [if_pos (by simpa using c1), if_neg (by simpa using c2)]
  ·
   rw [show decide (lo ≤ x.f0 ∧ x.f0 ≤ x.f1 ∧ x.f1 ≤ 1000000) = false from decide_eq_false (by omega), Bool.false_and]
   refine Ev.one (fun k => ?_)
   simp only [spec_SpansRight.l0]
   rw [if_pos (by omega), if_pos (by omega), hx', l02Id_eq]
   simp only [Option.bind_some]
   rw [if_neg (by simpa using c1)]
theorem spec_SR_ev (l : List Sp) (hl : l.length ≤ 9223372036854775807) : Ev (fun k => spec_SpansRight.f k l) (spRight l) := by
 unfold spec_SpansRight.f spRight
 by_cases c : l.length ≤ 400
 ·
  refine Ev.neg (by omega) (Ev.to ?_ (spec_SR_l0 l hl l.length 0 1 (by omega) (by omega) (by omega) (Or.inl ⟨rfl, rfl⟩)))
  simp [c]
 ·
  exact Ev.pos (by omega) (Ev.to (by simp [c]) (Ev.now _))
theorem ba_ext {a b : ByteArray} (h : a.data.toList = b.data.toList) : a = b := by
 cases a; cases b; simp at h; rw [h]
theorem son_append (a b : List Int) : strOfNums (a ++ b) = strOfNums a ++ strOfNums b := by
 apply ba_ext; simp [strOfNums]
def i64r (n : Int) : Prop := -9223372036854775808 ≤ n ∧ n ≤ 9223372036854775807
def pn (n : Int) : ByteArray := strOfNums (enc (zig n))
theorem pn_size {n : Int} (h : i64r n) : (pn n).size ≤ 10 := by unfold pn; rw [size_strOfNums]; exact enc_zig_length h.1 h.2
theorem spec_pn {n : Int} (h : i64r n) : Ev (fun k => spec_PutNum.f k n) (pn n) := spec_PutNum_ev h.1 h.2
theorem impl_nb {n : Int} (h : i64r n) : Ev (fun k => impl_numBytes.f k n) (enc (zig n)) := impl_numBytes_ev h.1 h.2
theorem enc_size {n : Int} (h : i64r n) : (enc (zig n)).length ≤ 10 := enc_zig_length h.1 h.2
theorem len_i64 (n : Nat) (h : n ≤ 9223372036854775807) : i64r (n : Int) := ⟨by omega, by omega⟩
def byteAt (s : ByteArray) (i : Nat) : Nat := if h : i < s.size then (s.data.toList[i]'(by simpa using h)).toNat else 0
theorem byteAt_lt (s : ByteArray) (i : Nat) : byteAt s i < 256 := by
 unfold byteAt; split
 ·
  exact UInt8.toNat_lt _
 ·
  omega
theorem bt_byte {s : ByteArray} {i : Nat} (h : i < s.size) : bt s (i : Int) = (byteAt s i : Int) := by
 rw [bt_at h]; unfold byteAt; rw [dif_pos h]
def unzig (u : Nat) : Int := if u % 2 = 1 then -((u / 2 : Nat) : Int) - 1 else ((u / 2 : Nat) : Int)
def gn (s : ByteArray) (a : Nat) : Nat → Nat → Nat → Int × Int × Int
 | 0, _, _ => (0, 0, 3)
 | f + 1, i, u => if s.size ≤ a + i then (0, 0, 4) else
   if i = 9 ∧ 1 < byteAt s (a + i) ∨ byteAt s (a + i) = 0 ∧ 0 < i then (0, 0, 3) else
   if byteAt s (a + i) < 128 then (unzig (u + byteAt s (a + i) % 128 * 2 ^ (7 * i)), ((a + i + 1 : Nat) : Int), 0) else
   gn s a f (i + 1) (u + byteAt s (a + i) % 128 * 2 ^ (7 * i))
def getNumR (s : ByteArray) (a : Int) : Int × Int × Int := if a < 0 then (0, 0, 1) else gn s a.toNat 10 0 0
theorem bits_and127 (c : Nat) (h : c < 256) : Go.bits .and .u8 (c : Int) 127 = ((c % 128 : Nat) : Int) := by
 have := bits_mask .u8 8 (by decide) wraps_u8 7 (by decide) (c : Int) (by omega) (by omega)
 simp only [Int.pow_succ, Int.pow_zero] at this
 simpa using this
theorem bits_and64_1 (a : Nat) (ha : a < 18446744073709551616) : Go.bits .and .u64 (a : Int) 1 = ((a % 2 : Nat) : Int) := by
 have := bits_mask .u64 64 (by decide) (fun n h0 h1 => by rw [IntKind.wrap_u64]; omega) 1 (by decide) (a : Int) (by omega) (by omega)
 simp only [Int.pow_succ, Int.pow_zero] at this
 simpa using this
theorem bits_or64 (u v i : Nat) (hu : u < 2 ^ i) (hv : v * 2 ^ i < 18446744073709551616) (hu' : u < 18446744073709551616) :
  Go.bits .or .u64 (u : Int) ((v * 2 ^ i : Nat) : Int) = ((u + v * 2 ^ i : Nat) : Int) := by
 have h1 := (bits_nat .u64 64 (by decide) (fun n h0 h1 => by rw [IntKind.wrap_u64]; omega) u (v * 2 ^ i) (by omega) (by omega)).2
 rw [h1]
 congr 1
 rw [Nat.or_comm, Nat.mul_comm, ← Nat.two_pow_add_eq_or_of_lt hu, Nat.add_comm]
theorem xor_ones64 (a : Nat) (h : a < 9223372036854775808) : Go.bits .xor .i64 (a : Int) (-1) = -(a : Int) - 1 := by
 have e : BitVec.ofInt 64 (-1) = BitVec.allOnes 64 := by decide
 have h1 : (BitVec.ofInt 64 (a : Int)).toNat = a := by
  rw [BitVec.ofInt_natCast, BitVec.toNat_ofNat]; exact Nat.mod_eq_of_lt (by omega)
 show IntKind.i64.wrap ((BitVec.ofInt 64 (a : Int) ^^^ BitVec.ofInt 64 (-1)).toNat : Int) = _
 rw [e, BitVec.xor_allOnes, BitVec.toNat_not, h1, IntKind.wrap_i64]
 omega
theorem xor_zero64 (a : Nat) (h : a < 9223372036854775808) : Go.bits .xor .i64 (a : Int) 0 = (a : Int) := by
 have e : BitVec.ofInt 64 0 = (0#64) := by decide
 have h1 : (BitVec.ofInt 64 (a : Int)).toNat = a := by
  rw [BitVec.ofInt_natCast, BitVec.toNat_ofNat]; exact Nat.mod_eq_of_lt (by omega)
 show IntKind.i64.wrap ((BitVec.ofInt 64 (a : Int) ^^^ BitVec.ofInt 64 0).toNat : Int) = _
 rw [e, BitVec.xor_zero, h1, IntKind.wrap_i64]
 omega
theorem impl_unzig (u : Nat) (h : u < 18446744073709551616) : Go.bits .xor .i64 (wrap64 ((u : Int) / 2)) (wrap64 (-(wrap64 (Go.bits .and .u64 (u : Int) 1)))) = unzig u := by
 rw [bits_and64_1 u h]
 have e1 : wrap64 ((u : Int) / 2) = ((u / 2 : Nat) : Int) := by unfold wrap64; omega
 rw [e1]
 unfold unzig
 by_cases c : u % 2 = 1
 ·
  rw [if_pos c, c, show wrap64 (-(wrap64 ((1 : Nat) : Int))) = -1 from by unfold wrap64; omega]
  exact xor_ones64 (u / 2) (by omega)
 ·
  rw [if_neg c, show u % 2 = 0 by omega, show wrap64 (-(wrap64 ((0 : Nat) : Int))) = 0 from by unfold wrap64; omega]
  exact xor_zero64 (u / 2) (by omega)
theorem shl_fits (c i : Nat) (hc : c < 128) (hi : i ≤ 9) (h9 : i = 9 → c ≤ 1) : shl .u64 (c : Int) ((7 * i : Nat) : Int) = ((c * 2 ^ (7 * i) : Nat) : Int) ∧ c * 2 ^ (7 * i) < 18446744073709551616 := by
 have h : c * 2 ^ (7 * i) < 18446744073709551616 := by
  rcases (show i = 0 ∨ i = 1 ∨ i = 2 ∨ i = 3 ∨ i = 4 ∨ i = 5 ∨ i = 6 ∨ i = 7 ∨ i = 8 ∨ i = 9 by omega) with rfl | rfl | rfl | rfl | rfl | rfl | rfl | rfl | rfl | rfl <;> omega
 refine ⟨?_, h⟩
 unfold shl
 rw [Int.toNat_natCast, show min (7 * i) IntKind.u64.bits = 7 * i from Nat.min_eq_left (by show 7 * i ≤ 64; omega), IntKind.wrap_u64]
 have : ((c : Int) * 2 ^ (7 * i)) = ((c * 2 ^ (7 * i) : Nat) : Int) := by simp
 rw [this]; omega
theorem pow_le (i : Nat) (h : i ≤ 9) : 2 ^ (7 * i) ≤ 9223372036854775808 :=
 Nat.le_trans (Nat.pow_le_pow_right (by decide) (show 7 * i ≤ 63 by omega)) (by decide)
theorem next_lt (u c i : Nat) (hu : u < 2 ^ (7 * i)) (hc : c < 128) : u + c * 2 ^ (7 * i) < 2 ^ (7 * (i + 1)) := by
 have e : 2 ^ (7 * (i + 1)) = 128 * 2 ^ (7 * i) := by rw [show 7 * (i + 1) = 7 + 7 * i by omega, Nat.pow_add]
 rw [e]
 have : c * 2 ^ (7 * i) ≤ 127 * 2 ^ (7 * i) := Nat.mul_le_mul_right _ (by omega)
 omega
theorem sum_lt (u c i : Nat) (hu : u < 2 ^ (7 * i)) (hc : c < 128) (hi : i ≤ 9) (h9 : i = 9 → c ≤ 1) : u + c * 2 ^ (7 * i) < 18446744073709551616 := by
 rcases (show i = 0 ∨ i = 1 ∨ i = 2 ∨ i = 3 ∨ i = 4 ∨ i = 5 ∨ i = 6 ∨ i = 7 ∨ i = 8 ∨ i = 9 by omega) with rfl | rfl | rfl | rfl | rfl | rfl | rfl | rfl | rfl | rfl <;> omega
theorem impl_step (s : ByteArray) (hs : s.size ≤ 140737488351232) (a : Nat) (ha : a ≤ 9223372036854775807) (f : Nat) (i u : Nat) (hi : i + f = 9) (hu : u < 2 ^ (7 * i))
  (ih : 0 < f → ∀ u' : Nat, u' < 2 ^ (7 * (i + 1)) → Ev (fun k => impl_getNum.l0 k s a (u' : Int) ((i + 1 : Nat) : Int)) (gn s a f (i + 1) u')) :
  Ev (fun k => impl_getNum.l0 k s a (u : Int) (i : Int)) (gn s a (f + 1) i u) := by
 have hlast : ∀ x25 : Bool, x25 = decide (s.size ≤ a + i) → Ev (fun k => impl_getNum.j1 k s a (u : Int) (i : Int) x25) (gn s a (f + 1) i u) := by
  intro x25 hx
  unfold gn
  by_cases c0 : s.size ≤ a + i
  ·
   rw [if_pos c0]
   refine Ev.one (fun k => ?_)
   simp only [impl_getNum.j1]
   rw [if_pos (by rw [hx]; simpa using c0)]
  ·
   rw [if_neg c0]
   have hw : wrap64 ((a : Int) + (i : Int)) = ((a + i : Nat) : Int) := by unfold wrap64; omega
   have hb := bt_byte (s := s) (i := a + i) (by omega)
   have hlt := byteAt_lt s (a + i)
   generalize hcv : byteAt s (a + i) = c at hb hlt
   have fin3 : ∀ x32 : Bool, x32 = decide (i = 9 ∧ 1 < c ∨ c = 0 ∧ 0 < i) →
     Ev (fun k => impl_getNum.j3 k s a (u : Int) (i : Int) (c : Int) x32) (if i = 9 ∧ 1 < c ∨ c = 0 ∧ 0 < i then (0, 0, 3) else if c < 128 then (unzig (u + c % 128 * 2 ^ (7 * i)), ((a + i + 1 : Nat) : Int), 0) else gn s a f (i + 1) (u + c % 128 * 2 ^ (7 * i))) := by
    intro x32 hx32
    by_cases cc : i = 9 ∧ 1 < c ∨ c = 0 ∧ 0 < i
    ·
     rw [if_pos cc]
     refine Ev.one (fun k => ?_)
     simp only [impl_getNum.j3]
     rw [if_pos (by rw [hx32]; simpa using cc)]
    ·
     rw [if_neg cc]
     have h9 : i = 9 → c % 128 ≤ 1 := by omega
     have h7p : (0 : Int) ≤ ((7 * i : Nat) : Int) := Int.natCast_nonneg _
     have hnext : c % 128 < 128 := by omega
     have hi9 : i ≤ 9 := by omega
     obtain ⟨h7, hc1, hat, hi1⟩ : wrap64 (7 * (i : Int)) = ((7 * i : Nat) : Int) ∧ IntKind.u64.wrap (Go.bits .and .u8 (c : Int) 127) = ((c % 128 : Nat) : Int) ∧
       wrap64 (((a + i : Nat) : Int) + 1) = ((a + i + 1 : Nat) : Int) ∧ wrap64 ((i : Int) + 1) = ((i + 1 : Nat) : Int) :=
      ⟨by unfold wrap64; clear hw hu; omega, by rw [bits_and127 c hlt, IntKind.wrap_u64]; clear hw hu; omega, by unfold wrap64; clear hw hu; omega, by unfold wrap64; clear hw hu; omega⟩
     obtain ⟨hsh, hshb⟩ := shl_fits (c % 128) i hnext hi9 h9
     have hsum := sum_lt u (c % 128) i hu hnext hi9 h9
     have hnx := next_lt u (c % 128) i hu hnext
     have hor := bits_or64 u (c % 128) (7 * i) hu hshb (Nat.lt_of_lt_of_le hu (Nat.le_trans (pow_le i hi9) (by decide)))
     clear hu hshb
     generalize c % 128 * 2 ^ (7 * i) = v at hsh hsum hor hnx ⊢
     by_cases c128 : c < 128
     ·
      rw [if_pos c128]
      refine Ev.one (fun k => ?_)
      have c128' : ((c : Int) < 128) := by clear h7 hat hi1 hc1 hsum hor hnx hw; omega
      simp only [impl_getNum.j3]
      rw [if_neg (by rw [hx32]; simpa using cc), h7, if_pos h7p, if_pos c128', hc1, hsh, hor, impl_unzig _ hsum, hw, hat]
     ·
      rw [if_neg c128]
      refine Ev.step (f := fun k => impl_getNum.l0 k s a ((u + v : Nat) : Int) ((i + 1 : Nat) : Int)) (fun k => ?_) ?_
      ·
       have c128' : ¬ ((c : Int) < 128) := by clear h7 hat hi1 hc1 hsum hor hnx hw; omega
       simp only [impl_getNum.j3]
       rw [if_neg (by rw [hx32]; simpa using cc), h7, if_pos h7p, if_neg c128', hc1, hsh, hor, hi1]
      ·
       exact ih (by clear hnx h7 hat hi1 hc1 hsum hor hw; omega) _ hnx
   have fin2 : ∀ x32 : Bool, x32 = decide (i = 9 ∧ 1 < c) →
     Ev (fun k => impl_getNum.j2 k s a (u : Int) (i : Int) (c : Int) x32) (if i = 9 ∧ 1 < c ∨ c = 0 ∧ 0 < i then (0, 0, 3) else if c < 128 then (unzig (u + c % 128 * 2 ^ (7 * i)), ((a + i + 1 : Nat) : Int), 0) else gn s a f (i + 1) (u + c % 128 * 2 ^ (7 * i))) := by
    intro x32 hx32
    by_cases c9 : i = 9 ∧ 1 < c
    ·
     refine Ev.step (f := fun k => impl_getNum.j3 k s a (u : Int) (i : Int) (c : Int) x32) (fun k => ?_) (fin3 x32 (by rw [hx32]; simp [c9]))
     simp only [impl_getNum.j2]
     rw [if_pos (by rw [hx32]; simpa using c9)]
    ·
     by_cases cz : c = 0
     ·
      refine Ev.step (f := fun k => impl_getNum.j3 k s a (u : Int) (i : Int) (c : Int) (decide ((i : Int) > 0))) (fun k => ?_) (fin3 _ ?_)
      ·
       simp only [impl_getNum.j2]
       rw [if_neg (by rw [hx32]; simpa using c9), if_pos (by omega)]
      ·
       rw [decide_eq_decide]; omega
     ·
      refine Ev.step (f := fun k => impl_getNum.j3 k s a (u : Int) (i : Int) (c : Int) false) (fun k => ?_) (fin3 _ ?_)
      ·
       simp only [impl_getNum.j2]
       rw [if_neg (by rw [hx32]; simpa using c9), if_neg (by omega)]
      ·
       symm; rw [decide_eq_false_iff_not]; omega
   by_cases i9 : i = 9
   ·
    refine Ev.step (f := fun k => impl_getNum.j2 k s a (u : Int) (i : Int) (c : Int) (decide ((c : Int) > 1))) (fun k => ?_) (fin2 _ ?_)
    ·
     simp only [impl_getNum.j1]
     rw [if_neg (by rw [hx]; simpa using c0), hw, if_pos (by omega), if_pos (by omega), if_pos (by omega), hb]
    ·
     rw [decide_eq_decide]; omega
   ·
    refine Ev.step (f := fun k => impl_getNum.j2 k s a (u : Int) (i : Int) (c : Int) false) (fun k => ?_) (fin2 _ ?_)
    ·
     simp only [impl_getNum.j1]
     rw [if_neg (by rw [hx]; simpa using c0), hw, if_pos (by omega), if_pos (by omega), if_neg (by omega), hb]
    ·
     symm; rw [decide_eq_false_iff_not]; omega
 by_cases ov : wrap64 ((a : Int) + (i : Int)) < (a : Int)
 ·
  refine Ev.step (f := fun k => impl_getNum.j1 k s a (u : Int) (i : Int) true) (fun k => ?_) (hlast true ?_)
  ·
   simp only [impl_getNum.l0]
   rw [if_pos ov]
  ·
   symm; rw [decide_eq_true_iff]; unfold wrap64 at ov; clear hlast hu; omega
 ·
  refine Ev.step (f := fun k => impl_getNum.j1 k s a (u : Int) (i : Int) (decide ((wrap64 ((a : Int) + (i : Int))) ≥ (s.size : Int)))) (fun k => ?_) (hlast _ ?_)
  ·
   simp only [impl_getNum.l0]
   rw [if_neg ov]
  ·
   rw [decide_eq_decide]; unfold wrap64 at ov ⊢; clear hlast hu; omega
theorem impl_gn (s : ByteArray) (hs : s.size ≤ 140737488351232) (a : Nat) (ha : a ≤ 9223372036854775807) (f : Nat) : ∀ (i u : Nat), i + f = 9 → u < 2 ^ (7 * i) →
  Ev (fun k => impl_getNum.l0 k s a (u : Int) (i : Int)) (gn s a (f + 1) i u) := by
 induction f with
 | zero =>
  intro i u hi hu
  exact impl_step s hs a ha 0 i u hi hu (fun h => absurd h (by omega))
 | succ f ih =>
  intro i u hi hu
  exact impl_step s hs a ha (f + 1) i u hi hu (fun _ u' h' => ih (i + 1) u' (by omega) h')
theorem impl_getNum_ev (s : ByteArray) (hs : s.size ≤ 140737488351232) (a : Int) (ha : a ≤ 9223372036854775807) : Ev (fun k => impl_getNum.f k s a) (getNumR s a) := by
 unfold impl_getNum.f getNumR
 by_cases c : a < 0
 ·
  rw [if_pos c]; exact Ev.pos c (Ev.now _)
 ·
  rw [if_neg c]; refine Ev.neg c ?_
  have := impl_gn s hs a.toNat (by omega) 9 0 0 rfl (by decide)
  rw [Int.toNat_of_nonneg (by omega)] at this
  exact this
theorem spec_unzig (u : Nat) (h : u < 18446744073709551616) :
  (if (Int.tmod (u : Int) 2) = 1 then wrap64 ((wrap64 (-(wrap64 (IntKind.u64.wrap (Int.tdiv (u : Int) 2))))) - 1) else wrap64 (IntKind.u64.wrap (Int.tdiv (u : Int) 2))) = unzig u := by
 have e1 : IntKind.u64.wrap (Int.tdiv (u : Int) 2) = ((u / 2 : Nat) : Int) := by
  rw [Int.tdiv_eq_ediv_of_nonneg (by omega), IntKind.wrap_u64]; omega
 have e2 : Int.tmod (u : Int) 2 = ((u % 2 : Nat) : Int) := by
  rw [Int.tmod_eq_emod_of_nonneg (by omega)]; omega
 rw [e1, e2]
 unfold unzig
 by_cases c : u % 2 = 1
 ·
  rw [if_pos c, if_pos (by omega)]; unfold wrap64; omega
 ·
  rw [if_neg c, if_neg (by omega)]; unfold wrap64; omega
theorem spec_gn (s : ByteArray) (hs : s.size ≤ 8000) (a : Nat) (ha : a ≤ 9223372036854775807) (f : Nat) : ∀ (i u : Nat), i + f = 10 → u < 2 ^ (7 * i) →
  Ev (fun k => spec_GetNum.l0 k s a (u : Int) (i : Int)) (gn s a f i u) := by
 induction f with
 | zero =>
  intro i u hi hu
  refine Ev.one (fun k => ?_)
  simp only [spec_GetNum.l0]
  rw [if_neg (by omega)]; rfl
 | succ f ih =>
  intro i u hi hu
  have hsz : wrap64 ((s.size : Int) - (i : Int)) = (s.size : Int) - (i : Int) := by unfold wrap64; omega
  unfold gn
  by_cases c0 : s.size ≤ a + i
  ·
   rw [if_pos c0]
   refine Ev.one (fun k => ?_)
   simp only [spec_GetNum.l0]
   rw [if_pos (by omega), hsz, if_pos (by omega)]
  ·
   rw [if_neg c0]
   have hb := bt_byte (s := s) (i := a + i) (by clear hsz; omega)
   have hlt := byteAt_lt s (a + i)
   generalize byteAt s (a + i) = c at hb hlt
   obtain ⟨hw, hc64, h7, hi1, hcm⟩ : wrap64 ((a : Int) + (i : Int)) = ((a + i : Nat) : Int) ∧ IntKind.u64.wrap (c : Int) = (c : Int) ∧ IntKind.u64.wrap (wrap64 (7 * (i : Int))) = ((7 * i : Nat) : Int) ∧
     wrap64 ((i : Int) + 1) = ((i + 1 : Nat) : Int) ∧ Int.tmod (c : Int) 128 = ((c % 128 : Nat) : Int) :=
    ⟨by unfold wrap64; clear hsz hu; omega, by rw [IntKind.wrap_u64]; clear hsz hu; omega, by rw [IntKind.wrap_u64]; unfold wrap64; clear hsz hu; omega, by unfold wrap64; clear hsz hu; omega,
     by rw [Int.tmod_eq_emod_of_nonneg (by omega)]; clear hsz hu; omega⟩
   have hat : wrap64 ((wrap64 ((a : Int) + (i : Int))) + 1) = ((a + i + 1 : Nat) : Int) := by rw [hw]; unfold wrap64; clear hw hc64 h7 hi1 hsz hu hcm; omega
   obtain ⟨p10, psz, pa0, pas⟩ : (i : Int) < 10 ∧ ¬ ((a : Int) ≥ (s.size : Int) - (i : Int)) ∧ (0 : Int) ≤ ((a + i : Nat) : Int) ∧ ((a + i : Nat) : Int) < (s.size : Int) := by
    clear hw hc64 h7 hi1 hsz hu hcm hat; omega
   have fin1 : ∀ x38 : Bool, x38 = decide (i = 9 ∧ 1 < c) →
     Ev (fun k => spec_GetNum.j1 k s a (u : Int) (i : Int) (c : Int) x38) (if i = 9 ∧ 1 < c ∨ c = 0 ∧ 0 < i then (0, 0, 3) else if c < 128 then (unzig (u + c % 128 * 2 ^ (7 * i)), ((a + i + 1 : Nat) : Int), 0) else gn s a f (i + 1) (u + c % 128 * 2 ^ (7 * i))) := by
    intro x38 hx
    by_cases c9 : i = 9 ∧ 1 < c
    ·
     rw [if_pos (Or.inl c9)]
     refine Ev.one (fun k => ?_)
     simp only [spec_GetNum.j1]
     rw [if_pos (by rw [hx]; simpa using c9)]
    ·
     have h9 : i = 9 → c % 128 ≤ 1 := by clear hw hc64 h7 hi1 hsz hcm hat hb hu; omega
     have h7p : (0 : Int) ≤ ((7 * i : Nat) : Int) := Int.natCast_nonneg _
     have hnext : c % 128 < 128 := by clear hw hc64 h7 hi1 hsz hcm hat hb hu; omega
     have hi9 : i ≤ 9 := by clear hw hc64 h7 hi1 hsz hcm hat hb hu; omega
     obtain ⟨hsh, hshb⟩ := shl_fits (c % 128) i hnext hi9 h9
     have hsum := sum_lt u (c % 128) i hu hnext hi9 h9
     have hnx := next_lt u (c % 128) i hu hnext
     clear hu hshb
     generalize c % 128 * 2 ^ (7 * i) = v at hsh hsum hnx ⊢
     have hadd : IntKind.u64.wrap ((u : Int) + (v : Int)) = ((u + v : Nat) : Int) := by rw [IntKind.wrap_u64]; clear hw hc64 h7 hi1 hsz hcm hat hb hnx hsh; omega
     by_cases c128 : c < 128
     ·
      have fin2 : ∀ x55 : Bool, x55 = decide (c = 0 ∧ 0 < i) →
        Ev (fun k => spec_GetNum.j2 k a ((u + v : Nat) : Int) (i : Int) x55) (if i = 9 ∧ 1 < c ∨ c = 0 ∧ 0 < i then (0, 0, 3) else if c < 128 then (unzig (u + v), ((a + i + 1 : Nat) : Int), 0) else gn s a f (i + 1) (u + v)) := by
       intro x55 hx5
       have su := spec_unzig _ hsum
       clear hnx hadd hsh hw hc64 h7 hi1 hsz hcm hb
       generalize u + v = v at su ⊢
       by_cases cz : c = 0 ∧ 0 < i
       ·
        rw [if_pos (Or.inr cz)]
        refine Ev.one (fun k => ?_)
        simp only [spec_GetNum.j2]
        rw [if_pos (by rw [hx5]; simpa using cz)]
       ·
        rw [if_neg (fun h => h.elim c9 cz), if_pos c128]
        refine Ev.one (fun k => ?_)
        simp only [spec_GetNum.j2]
        rw [if_neg (by rw [hx5]; simpa using cz), hat, ← su]
        split <;> rfl
      by_cases cz : c = 0
      ·
       refine Ev.step (f := fun k => spec_GetNum.j2 k a ((u + v : Nat) : Int) (i : Int) (decide ((i : Int) > 0))) (fun k => ?_) (fin2 _ ?_)
       ·
        simp only [spec_GetNum.j1]
        rw [if_neg (by rw [hx]; simpa using c9), h7, if_pos h7p, if_pos (by clear hw hc64 h7 hi1 hsz hcm hat hb hsh hadd hsum hnx fin2 h9 hx; omega), if_pos (by rw [cz]; rfl), hcm, hsh, hadd]
       ·
        rw [decide_eq_decide]; clear hw hc64 h7 hi1 hsz hcm hat hb hsh hadd hsum hnx fin2 h9 hx; omega
      ·
       refine Ev.step (f := fun k => spec_GetNum.j2 k a ((u + v : Nat) : Int) (i : Int) false) (fun k => ?_) (fin2 _ ?_)
       ·
        simp only [spec_GetNum.j1]
        rw [if_neg (by rw [hx]; simpa using c9), h7, if_pos h7p, if_pos (by clear hw hc64 h7 hi1 hsz hcm hat hb hsh hadd hsum hnx fin2 h9 hx; omega), if_neg (by clear hw hc64 h7 hi1 hsz hcm hat hb hsh hadd hsum hnx fin2 h9 hx; omega), hcm, hsh, hadd]
       ·
        symm; rw [decide_eq_false_iff_not]; clear hw hc64 h7 hi1 hsz hcm hat hb hsh hadd hsum hnx fin2 h9 hx; omega
     ·
      rw [if_neg (by clear hw hc64 h7 hi1 hsz hcm hat hb hnx hsh hadd hsum; omega), if_neg c128]
      refine Ev.step (f := fun k => spec_GetNum.l0 k s a ((u + v : Nat) : Int) ((i + 1 : Nat) : Int)) (fun k => ?_) ?_
      ·
       simp only [spec_GetNum.j1]
       rw [if_neg (by rw [hx]; simpa using c9), h7, if_pos h7p, if_neg (by clear hw hc64 h7 hi1 hsz hcm hat hb hsh hadd hsum hnx; omega), hcm, hsh, hadd, hi1]
      ·
       exact ih (i + 1) _ (by clear hw hc64 h7 hi1 hsz hcm hat hb hnx hsh hadd hsum; omega) hnx
   by_cases i9 : i = 9
   ·
    refine Ev.step (f := fun k => spec_GetNum.j1 k s a (u : Int) (i : Int) (c : Int) (decide ((c : Int) > 1))) (fun k => ?_) (fin1 _ ?_)
    ·
     simp only [spec_GetNum.l0]
     rw [if_pos p10, hsz, if_neg psz, hw, if_pos pa0, if_pos pas, if_pos (by rw [i9]; rfl), hb, hc64]
    ·
     rw [decide_eq_decide]; clear hw hc64 h7 hi1 hsz hcm hat hb; omega
   ·
    refine Ev.step (f := fun k => spec_GetNum.j1 k s a (u : Int) (i : Int) (c : Int) false) (fun k => ?_) (fin1 _ ?_)
    ·
     simp only [spec_GetNum.l0]
     rw [if_pos p10, hsz, if_neg psz, hw, if_pos pa0, if_pos pas, if_neg (by clear hw hc64 h7 hi1 hsz hcm hat hb hu fin1; omega), hb, hc64]
    ·
     symm; rw [decide_eq_false_iff_not]; clear hw hc64 h7 hi1 hsz hcm hat hb; omega
def getNumS (s : ByteArray) (a : Int) : Int × Int × Int := if s.size > 8000 then (0, 0, 2) else getNumR s a
theorem spec_GetNum_ev (s : ByteArray) (hs : s.size ≤ 140737488351232) (a : Int) (ha : a ≤ 9223372036854775807) : Ev (fun k => spec_GetNum.f k s a) (getNumS s a) := by
 unfold spec_GetNum.f getNumS getNumR
 by_cases c8 : s.size > 8000
 ·
  rw [if_pos c8]; exact Ev.pos (by omega) (Ev.now _)
 ·
  rw [if_neg c8]; refine Ev.neg (by omega) ?_
  by_cases c : a < 0
  ·
   rw [if_pos c]; exact Ev.pos c (Ev.now _)
  ·
   rw [if_neg c]; refine Ev.neg c ?_
   have := spec_gn s (by omega) a.toNat (by omega) 10 0 0 rfl (by decide)
   rw [Int.toNat_of_nonneg (by omega)] at this
   exact this
theorem gn_cases (s : ByteArray) (a f : Nat) : ∀ i u : Nat, (gn s a f i u).2.2 = 3 ∧ gn s a f i u = (0, 0, 3) ∨ gn s a f i u = (0, 0, 4) ∨
  (gn s a f i u).2.2 = 0 ∧ ∃ e : Nat, (gn s a f i u).2.1 = (e : Int) ∧ a + i < e ∧ e ≤ s.size := by
 induction f with
 | zero => intro i u; exact Or.inl ⟨rfl, rfl⟩
 | succ f ih =>
  intro i u
  unfold gn
  by_cases c0 : s.size ≤ a + i
  ·
   rw [if_pos c0]; exact Or.inr (Or.inl rfl)
  ·
   rw [if_neg c0]
   split
   ·
    exact Or.inl ⟨rfl, rfl⟩
   ·
    split
    ·
     exact Or.inr (Or.inr ⟨rfl, a + i + 1, rfl, by omega, by omega⟩)
    ·
     rcases ih (i + 1) (u + byteAt s (a + i) % 128 * 2 ^ (7 * i)) with h | h | ⟨h, e, h1, h2, h3⟩
     ·
      exact Or.inl h
     ·
      exact Or.inr (Or.inl h)
     ·
      exact Or.inr (Or.inr ⟨h, e, h1, by omega, h3⟩)
theorem unzig_wf (u : Nat) (h : u < 18446744073709551616) : -9223372036854775808 ≤ unzig u ∧ unzig u ≤ 9223372036854775807 := by
 unfold unzig; split <;> omega
theorem gn_wf (s : ByteArray) (a f : Nat) : ∀ i u : Nat, i + f = 10 → u < 2 ^ (7 * i) → -9223372036854775808 ≤ (gn s a f i u).1 ∧ (gn s a f i u).1 ≤ 9223372036854775807 := by
 induction f with
 | zero => intro i u _ _; exact ⟨by show (-9223372036854775808 : Int) ≤ 0; omega, by show (0 : Int) ≤ _; omega⟩
 | succ f ih =>
  intro i u hi hu
  unfold gn
  by_cases c0 : s.size ≤ a + i
  ·
   rw [if_pos c0]; exact ⟨by show (-9223372036854775808 : Int) ≤ 0; omega, by show (0 : Int) ≤ _; omega⟩
  ·
   rw [if_neg c0]
   split
   ·
    exact ⟨by show (-9223372036854775808 : Int) ≤ 0; omega, by show (0 : Int) ≤ _; omega⟩
   ·
    rename_i hc
    have hlt := byteAt_lt s (a + i)
    split
    ·
     exact unzig_wf _ (sum_lt u _ i hu (by omega) (by omega) (by omega))
    ·
     exact ih (i + 1) _ (by omega) (next_lt u _ i hu (by omega))
theorem size_zero_iff (s : ByteArray) : s.toList = [] ↔ s.size = 0 := by
 rw [ByteArray.toList_eq]
 constructor
 ·
  intro h; have := congrArg List.length h; simpa using this
 ·
  intro h; exact List.eq_nil_of_length_eq_zero (by simpa using h)
def spEnc : Int → List Sp → List Int
 | _, [] => []
 | a, x :: r => enc (zig (x.f0 - a)) ++ (enc (zig (x.f1 - x.f0)) ++ spEnc x.f1 r)
def spFin (b : List Int) : ByteArray := if 8000 < b.length then ⟨#[]⟩ else strOfNums b
def spBytes (l : List Sp) : ByteArray := if spRight l = true then spFin (enc (zig (l.length : Int)) ++ spEnc 0 l) else ⟨#[]⟩
theorem okFrom_mem (l : List Sp) : ∀ lo : Int, 1 ≤ lo → okFrom lo l = true → ∀ x ∈ l, 1 ≤ x.f0 ∧ x.f0 ≤ x.f1 ∧ x.f1 ≤ 1000000 := by
 induction l with
 | nil => intro lo _ _ x hx; cases hx
 | cons y r ih =>
  intro lo hlo h x hx
  rw [okFrom_step, Bool.and_eq_true] at h
  have h1 := of_decide_eq_true h.1
  rcases List.mem_cons.1 hx with e | e
  ·
   rw [e]; omega
  ·
   exact ih (y.f1 + 2) (by omega) h.2 x e
theorem spRight_mem {l : List Sp} (h : spRight l = true) : l.length ≤ 400 ∧ ∀ x ∈ l, 1 ≤ x.f0 ∧ x.f0 ≤ x.f1 ∧ x.f1 ≤ 1000000 := by
 unfold spRight at h
 rw [Bool.and_eq_true] at h
 exact ⟨of_decide_eq_true h.1, okFrom_mem l 1 (by omega) h.2⟩
theorem impl_SB_l0 (l : List Sp) (hm : ∀ x ∈ l, 1 ≤ x.f0 ∧ x.f0 ≤ x.f1 ∧ x.f1 ≤ 1000000) (hl : l.length ≤ 400) (d : Nat) : ∀ (i : Nat) (acc : List Int) (a : Int), i + d = l.length → 0 ≤ a → a ≤ 1000000 → acc.length ≤ 10 + 20 * i →
  Ev (fun k => impl_SpansBytes.l0 k acc a l (l.length : Int) (i : Int)) (spFin (acc ++ spEnc a (l.drop i))) := by
 induction d with
 | zero =>
  intro i acc a hi _ _ _
  refine Ev.one (fun k => ?_)
  simp only [impl_SpansBytes.l0]
  rw [if_neg (by omega), List.drop_of_length_le (by omega)]
  unfold spEnc spFin
  rw [List.append_nil]
  by_cases c : 8000 < acc.length
  ·
   rw [if_pos c, if_pos (by omega)]
  ·
   rw [if_neg c, if_neg (by omega)]
 | succ d ih =>
  intro i acc a hi ha0 ha1 hac
  have hlt : i < l.length := by omega
  obtain ⟨x0, x1, x2⟩ := hm l[i] (List.getElem_mem hlt)
  have w1 : wrap64 (l[i].f0 - a) = l[i].f0 - a := w64 (by omega) (by omega)
  have w2 : wrap64 (l[i].f1 - l[i].f0) = l[i].f1 - l[i].f0 := w64 (by omega) (by omega)
  have r1 : i64r (l[i].f0 - a) := ⟨by omega, by omega⟩
  have r2 : i64r (l[i].f1 - l[i].f0) := ⟨by omega, by omega⟩
  have z1 := enc_size r1
  have z2 := enc_size r2
  refine Ev.step (f := fun k => impl_SpansBytes.l0 (k + 1) acc a l (l.length : Int) (i : Int)) (fun k => rfl) ?_
  simp only [impl_SpansBytes.l0]
  rw [sp_at hlt, w1, w2, show wrap64 ((i : Int) + 1) = ((i + 1 : Nat) : Int) from by unfold wrap64; omega]
  refine Ev.pos (by omega) (Ev.pos (by omega) (Ev.pos (by omega) (Ev.bind (impl_nb r1) (Ev.pos (by omega) ?_))))
  refine Ev.take rfl (Ev.bind (impl_nb r2) (Ev.pos (by rw [List.length_append]; omega) ?_))
  have := ih (i + 1) ((acc ++ enc (zig (l[i].f0 - a))) ++ enc (zig (l[i].f1 - l[i].f0))) l[i].f1 (by omega) (by omega) (by omega) (by rw [List.length_append, List.length_append]; omega)
  rw [drop_cons hlt]
  show Ev _ (spFin (acc ++ (enc (zig (l[i].f0 - a)) ++ (enc (zig (l[i].f1 - l[i].f0)) ++ spEnc l[i].f1 (l.drop (i + 1))))))
  rw [← List.append_assoc, ← List.append_assoc]
  exact this
theorem impl_SB_ev (l : List Sp) (hl : l.length ≤ 9223372036854775807) : Ev (fun k => impl_SpansBytes.f k l) (spBytes l) := by
 unfold impl_SpansBytes.f spBytes
 refine Ev.bind (impl_SR_ev l hl) ?_
 by_cases c : spRight l = true
 ·
  obtain ⟨h1, h2⟩ := spRight_mem c
  rw [if_pos c]
  refine Ev.pos c (Ev.bind (impl_nb (len_i64 _ (by omega))) ?_)
  exact impl_SB_l0 l h2 h1 l.length 0 _ 0 (by omega) (by omega) (by omega) (by have := enc_size (len_i64 l.length (by omega)); omega)
 ·
  rw [if_neg c]; exact Ev.neg c (Ev.now _)
theorem son_size (b : List Int) : (strOfNums b).size = b.length := size_strOfNums b
theorem spec_SB_l0 (l : List Sp) (hm : ∀ x ∈ l, 1 ≤ x.f0 ∧ x.f0 ≤ x.f1 ∧ x.f1 ≤ 1000000) (hl : l.length ≤ 400) (d : Nat) : ∀ (i : Nat) (acc : List Int) (a : Int), i + d = l.length → 0 ≤ a → a ≤ 1000000 → acc.length ≤ 10 + 20 * i →
  Ev (fun k => spec_SpansBytes.l0 k l (strOfNums acc) a (i : Int)) (spFin (acc ++ spEnc a (l.drop i))) := by
 induction d with
 | zero =>
  intro i acc a hi _ _ _
  refine Ev.one (fun k => ?_)
  simp only [spec_SpansBytes.l0]
  rw [if_neg (by omega), List.drop_of_length_le (by omega), son_size]
  unfold spEnc spFin
  rw [List.append_nil]
  by_cases c : 8000 < acc.length
  ·
   rw [if_pos c, if_pos (by omega)]
  ·
   rw [if_neg c, if_neg (by omega)]
 | succ d ih =>
  intro i acc a hi ha0 ha1 hac
  have hlt : i < l.length := by omega
  obtain ⟨x0, x1, x2⟩ := hm l[i] (List.getElem_mem hlt)
  have w1 : wrap64 (l[i].f0 - a) = l[i].f0 - a := w64 (by omega) (by omega)
  have w2 : wrap64 (l[i].f1 - l[i].f0) = l[i].f1 - l[i].f0 := w64 (by omega) (by omega)
  have r1 : i64r (l[i].f0 - a) := ⟨by omega, by omega⟩
  have r2 : i64r (l[i].f1 - l[i].f0) := ⟨by omega, by omega⟩
  have z1 := enc_size r1
  have z2 := enc_size r2
  refine Ev.step (f := fun k => spec_SpansBytes.l0 (k + 1) l (strOfNums acc) a (i : Int)) (fun k => rfl) ?_
  simp only [spec_SpansBytes.l0]
  rw [sp_at hlt, w1, w2, show wrap64 ((i : Int) + 1) = ((i + 1 : Nat) : Int) from by unfold wrap64; omega]
  refine Ev.pos (by omega) (Ev.pos (by omega) (Ev.bind (spec_pn r1) (Ev.bind (spec_pn r2) (Ev.pos ?_ ?_))))
  ·
   unfold pn; rw [son_size, son_size, son_size]; omega
  ·
   have := ih (i + 1) ((acc ++ enc (zig (l[i].f0 - a))) ++ enc (zig (l[i].f1 - l[i].f0))) l[i].f1 (by omega) (by omega) (by omega) (by rw [List.length_append, List.length_append]; omega)
   rw [drop_cons hlt]
   show Ev _ (spFin (acc ++ (enc (zig (l[i].f0 - a)) ++ (enc (zig (l[i].f1 - l[i].f0)) ++ spEnc l[i].f1 (l.drop (i + 1))))))
   rw [← List.append_assoc, ← List.append_assoc]
   rw [son_append, son_append, ByteArray.append_assoc] at this
   exact this
theorem spec_SB_ev (l : List Sp) (hl : l.length ≤ 9223372036854775807) : Ev (fun k => spec_SpansBytes.f k l) (spBytes l) := by
 unfold spec_SpansBytes.f spBytes
 refine Ev.bind (spec_SR_ev l hl) ?_
 by_cases c : spRight l = true
 ·
  obtain ⟨h1, h2⟩ := spRight_mem c
  rw [if_pos c]
  refine Ev.pos c (Ev.bind (spec_pn (len_i64 _ (by omega))) (Ev.pos (by have := pn_size (len_i64 l.length (by omega)); omega) ?_))
  exact spec_SB_l0 l h2 h1 l.length 0 _ 0 (by omega) (by omega) (by omega) (by have := enc_size (len_i64 l.length (by omega)); omega)
 ·
  rw [if_neg c]; exact Ev.neg c (Ev.now _)
theorem Ev.uniq {α : Type} {g : Nat → Option α} {r q : α} (h1 : Ev g r) (h2 : Ev g q) : r = q := by
 obtain ⟨a, ha⟩ := h1
 obtain ⟨b, hb⟩ := h2
 exact Option.some.inj ((ha (max a b) (Nat.le_max_left _ _)).symm.trans (hb _ (Nat.le_max_right _ _)))
theorem getNumR_facts (s : ByteArray) (a : Int) : i64r (getNumR s a).1 ∧ 0 ≤ (getNumR s a).2.1 ∧ (getNumR s a).2.1 ≤ s.size := by
 unfold getNumR
 by_cases c : a < 0
 ·
  rw [if_pos c]; exact ⟨⟨by show (-9223372036854775808 : Int) ≤ 0; omega, by show (0 : Int) ≤ _; omega⟩, by show (0 : Int) ≤ 0; omega, by show (0 : Int) ≤ _; omega⟩
 ·
  rw [if_neg c]
  refine ⟨gn_wf s a.toNat 10 0 0 rfl (by decide), ?_⟩
  rcases gn_cases s a.toNat 10 0 0 with h | h | ⟨h, e, h1, h2, h3⟩
  ·
   rw [h.2]; exact ⟨by show (0 : Int) ≤ 0; omega, by show (0 : Int) ≤ _; omega⟩
  ·
   rw [h]; exact ⟨by show (0 : Int) ≤ 0; omega, by show (0 : Int) ≤ _; omega⟩
  ·
   rw [h1]; omega
def Rd (b : ByteArray) (a : Int) (bad : Bool) (a' : Int) : Prop := (0 ≤ a ∧ a ≤ b.size) ∧ (0 ≤ a' ∧ a' ≤ b.size) ∧ (bad = false → a = a')
theorem num_both (b : ByteArray) (hb : b.size ≤ 8000) (a : Int) (bad : Bool) (a' : Int) (h : Rd b a bad a') :
  ∃ n n' a1 bad1 a1', Ev (fun k => spec_l02Reader_num.f k b a bad) (n, b, a1, bad1) ∧ Ev (fun k => impl_decoder_num.f k b a' bad) (n', b, a1', bad1) ∧ Rd b a1 bad1 a1' ∧ (bad1 = false → bad = false ∧ n = n') ∧ i64r n ∧ i64r n' := by
 obtain ⟨h1, h2, h3⟩ := h
 have hS := spec_GetNum_ev b (by omega) a (by omega)
 have hI := impl_getNum_ev b (by omega) a' (by omega)
 rw [show getNumS b a = getNumR b a from by unfold getNumS; rw [if_neg (by omega)]] at hS
 have f1 := getNumR_facts b a
 have f2 := getNumR_facts b a'
 have z0 : i64r 0 := ⟨by omega, by omega⟩
 cases bad with
 | true =>
  exact ⟨0, (getNumR b a').1, a, true, (getNumR b a').2.1, by unfold spec_l02Reader_num.f; exact Ev.bind hS (Ev.pos rfl (Ev.now _)), by unfold impl_decoder_num.f; exact Ev.bind hI (Ev.pos rfl (Ev.now _)), ⟨h1, f2.2, fun e => by cases e⟩, fun e => (by cases e), z0, f2.1⟩
 | false =>
  obtain rfl := h3 rfl
  by_cases c : (getNumR b a).2.2 = 0
  ·
   refine ⟨(getNumR b a).1, (getNumR b a).1, (getNumR b a).2.1, false, (getNumR b a).2.1, by unfold spec_l02Reader_num.f; exact Ev.bind hS (Ev.neg (by simp) (Ev.pos c (Ev.now _))), ?_, ⟨f1.2, f1.2, fun _ => rfl⟩, fun _ => ⟨rfl, rfl⟩, f1.1, f1.1⟩
   unfold impl_decoder_num.f
   refine Ev.bind hI (Ev.neg (by simp) (Ev.to ?_ (Ev.now _)))
   rw [c]; rfl
  ·
   refine ⟨0, (getNumR b a).1, a, true, (getNumR b a).2.1, by unfold spec_l02Reader_num.f; exact Ev.bind hS (Ev.neg (by simp) (Ev.neg c (Ev.now _))), ?_, ⟨h1, f1.2, fun e => by cases e⟩, fun e => (by cases e), z0, f1.1⟩
   unfold impl_decoder_num.f
   refine Ev.bind hI (Ev.neg (by simp) (Ev.to ?_ (Ev.now _)))
   rw [show ((getNumR b a).2.2 != 0) = true from bne_iff_ne.mpr c]
theorem inum_any (b : ByteArray) (hb : b.size ≤ 8000) (a : Int) (bad : Bool) (h : 0 ≤ a ∧ a ≤ b.size) : ∃ n a1 bad1, Ev (fun k => impl_decoder_num.f k b a bad) (n, b, a1, bad1) ∧ (0 ≤ a1 ∧ a1 ≤ b.size) ∧ (bad1 = false → bad = false) ∧ i64r n := by
 obtain ⟨_, n, _, b1, a1, _, h1, h2, h3, _, h4⟩ := num_both b hb a bad a ⟨h, h, fun _ => rfl⟩
 exact ⟨n, a1, b1, h1, h2.2.1, fun e => (h3 e).1, h4⟩
abbrev SpO := List Sp × Int
def spZ : SpO := ([], 3)
def spBad (l : List Sp) : Prop := ∃ x ∈ l, ¬ ((1 ≤ x.f0 ∧ x.f0 ≤ 1000000) ∧ (1 ≤ x.f1 ∧ x.f1 ≤ 1000000))
theorem spBad_bytes {l : List Sp} (h : spBad l) : spBytes l = ⟨#[]⟩ := by
 obtain ⟨x, hx, hn⟩ := h
 unfold spBytes
 rw [if_neg]
 intro e
 have := (spRight_mem e).2 x hx
 omega
theorem sp_nil_ne {t : ByteArray} (ht : 0 < t.size) : ¬ (⟨#[]⟩ : ByteArray).toList = t.toList := by
 rw [(size_zero_iff ⟨#[]⟩).2 rfl]
 intro e
 have := (size_zero_iff t).1 e.symm
 omega
theorem isp_bad (t : ByteArray) (ht : 0 < t.size) (hb : t.size ≤ 8000) (d : Nat) : ∀ (q : Int) (a : Int) (bad : Bool) (l : List Sp) (last : Int), l.length + d = 401 → (0 ≤ a ∧ a ≤ t.size) → (bad = true ∨ spBad l) →
  Ev (fun k => impl_SpansRead.l0 k t l last q t a bad) spZ := by
 have fin : ∀ (q : Int) (a : Int) (bad : Bool) (l : List Sp) (last : Int), l.length ≤ 401 → (bad = true ∨ spBad l) → Ev (fun k => impl_SpansRead.j1 k t l last q false t a bad) spZ := by
  intro q a bad l last hl h
  refine Ev.step (f := fun k => impl_SpansRead.j1 (k + 1) t l last q false t a bad) (fun k => rfl) ?_
  simp only [impl_SpansRead.j1]
  refine Ev.neg (by simp) ?_
  cases bad with
  | true => exact Ev.pos (by first | rfl | trivial) (Ev.now _)
  | false =>
   have hB : spBad l := by
    rcases h with h | h
    ·
     cases h
    ·
     exact h
   refine Ev.neg (by simp) (Ev.bind (impl_SB_ev l (by omega)) ?_)
   rw [spBad_bytes hB]
   exact Ev.neg (sp_nil_ne ht) (Ev.now _)
 induction d with
 | zero =>
  intro q a bad l last hl ha h
  refine Ev.step (f := fun k => impl_SpansRead.l0 (k + 1) t l last q t a bad) (fun k => rfl) ?_
  simp only [impl_SpansRead.l0]
  by_cases c : q > 0
  ·
   refine Ev.pos c ?_
   cases bad with
   | true => exact Ev.pos (by first | rfl | trivial) (fin q a true l last (by omega) h)
   | false =>
    refine Ev.neg (by simp) ?_
    rw [decide_eq_false (by omega)]
    exact fin q a false l last (by omega) h
  ·
   exact Ev.neg c (fin q a bad l last (by omega) h)
 | succ d ih =>
  intro q a bad l last hl ha h
  refine Ev.step (f := fun k => impl_SpansRead.l0 (k + 1) t l last q t a bad) (fun k => rfl) ?_
  simp only [impl_SpansRead.l0]
  by_cases c : q > 0
  ·
   refine Ev.pos c ?_
   cases bad with
   | true => exact Ev.pos (by first | rfl | trivial) (fin q a true l last (by omega) h)
   | false =>
    refine Ev.neg (by simp) ?_
    rw [decide_eq_true (by omega)]
    obtain ⟨n, a1, b1, hN, ha1, _, _⟩ := inum_any t hb a false ha
    obtain ⟨m, a2, b2, hM, ha2, _, _⟩ := inum_any t hb a1 b1 ha1
    refine Ev.step (f := fun k => impl_SpansRead.j1 (k + 1) t l last q true t a false) (fun k => rfl) ?_
    simp only [impl_SpansRead.j1]
    refine Ev.pos (by first | rfl | trivial) (Ev.bind hN (Ev.bind hM (Ev.pos (by omega) ?_)))
    refine ih _ a2 b2 _ _ (by rw [List.length_append, List.length_singleton]; omega) ha2 (Or.inr ?_)
    rcases h with h | ⟨x, hx, hn⟩
    ·
     cases h
    ·
     exact ⟨x, List.mem_append_left _ hx, hn⟩
  ·
   exact Ev.neg c (fin q a bad l last (by omega) h)
theorem ssp_bad (t : ByteArray) (ht : 0 < t.size) (hb : t.size ≤ 8000) (n : Int) (i : Int) (a : Int) (l : List Sp) (last : Int) : Ev (fun k => spec_SpansRead.l0 k t n l last i t a true) spZ := by
 have fin : Ev (fun k => spec_SpansRead.j1 k t n l last i false t a true) spZ := Ev.one (fun k => by rw [spec_SpansRead.j1, if_neg (by simp), if_pos rfl]; rfl)
 refine Ev.step (f := fun k => spec_SpansRead.l0 (k + 1) t n l last i t a true) (fun k => rfl) ?_
 simp only [spec_SpansRead.l0]
 by_cases c : i < n
 ·
  refine Ev.pos c ?_
  by_cases c2 : i ≤ 400
  ·
   exact Ev.pos c2 fin
  ·
   exact Ev.neg c2 fin
 ·
  exact Ev.neg c fin
theorem spZ_ok (t : ByteArray) : spZ.1.length ≤ 401 ∧ (spZ.2 = 0 → (spBytes spZ.1).toList = t.toList) := ⟨Nat.zero_le _, fun e => absurd e (by decide)⟩
theorem sp_fin (t : ByteArray) (ht : 0 < t.size) (hb : t.size ≤ 8000) (n q i : Int) (a : Int) (l : List Sp) (last : Int) (hl : l.length ≤ 401) : ∃ R : SpO, (R.1.length ≤ 401 ∧ (R.2 = 0 → (spBytes R.1).toList = t.toList)) ∧ Ev (fun k => spec_SpansRead.j1 k t n l last i false t a false) R ∧ Ev (fun k => impl_SpansRead.j1 k t l last q false t a false) R := by
 have hS := spec_SB_ev l (by omega)
 have hI := impl_SB_ev l (by omega)
 have ht0 : ¬ t.toList = ([] : List UInt8) := fun e => by have := (size_zero_iff t).1 e; omega
 by_cases c : (spBytes l).toList = t.toList
 ·
  refine ⟨(l, 0), ⟨hl, fun _ => c⟩, ?_, ?_⟩
  ·
   refine Ev.step (f := fun k => spec_SpansRead.j1 (k + 1) t n l last i false t a false) (fun k => rfl) ?_
   simp only [spec_SpansRead.j1]
   exact Ev.neg (by simp) (Ev.neg (by simp) (Ev.neg ht0 (Ev.bind hS (Ev.pos c (Ev.now _)))))
  ·
   refine Ev.step (f := fun k => impl_SpansRead.j1 (k + 1) t l last q false t a false) (fun k => rfl) ?_
   simp only [impl_SpansRead.j1]
   exact Ev.neg (by simp) (Ev.neg (by simp) (Ev.bind hI (Ev.pos c (Ev.now _))))
 ·
  refine ⟨spZ, spZ_ok t, ?_, ?_⟩
  ·
   refine Ev.step (f := fun k => spec_SpansRead.j1 (k + 1) t n l last i false t a false) (fun k => rfl) ?_
   simp only [spec_SpansRead.j1]
   exact Ev.neg (by simp) (Ev.neg (by simp) (Ev.neg ht0 (Ev.bind hS (Ev.neg c (Ev.now _)))))
  ·
   refine Ev.step (f := fun k => impl_SpansRead.j1 (k + 1) t l last q false t a false) (fun k => rfl) ?_
   simp only [impl_SpansRead.j1]
   exact Ev.neg (by simp) (Ev.neg (by simp) (Ev.bind hI (Ev.neg c (Ev.now _))))
theorem sp_both (t : ByteArray) (ht : 0 < t.size) (hb : t.size ≤ 8000) (n : Int) (hn64 : i64r n) (d : Nat) : ∀ (i : Nat) (a : Int) (l : List Sp) (last : Int), i + d = 401 → (0 ≤ a ∧ a ≤ t.size) → l.length = i →
  ∃ R : SpO, (R.1.length ≤ 401 ∧ (R.2 = 0 → (spBytes R.1).toList = t.toList)) ∧ Ev (fun k => spec_SpansRead.l0 k t n l last (i : Int) t a false) R ∧ Ev (fun k => impl_SpansRead.l0 k t l last (n - (i : Int)) t a false) R := by
 have stop : ∀ (i : Nat) (a : Int) (l : List Sp) (last : Int), l.length = i → i ≤ 401 → (n ≤ (i : Int) ∨ i = 401) →
   ∃ R : SpO, (R.1.length ≤ 401 ∧ (R.2 = 0 → (spBytes R.1).toList = t.toList)) ∧ Ev (fun k => spec_SpansRead.l0 k t n l last (i : Int) t a false) R ∧ Ev (fun k => impl_SpansRead.l0 k t l last (n - (i : Int)) t a false) R := by
  intro i a l last hl hi h
  obtain ⟨R, hR, e1, e2⟩ := sp_fin t ht hb n (n - (i : Int)) (i : Int) a l last (by omega)
  refine ⟨R, hR, ?_, ?_⟩
  ·
   refine Ev.step (f := fun k => spec_SpansRead.l0 (k + 1) t n l last (i : Int) t a false) (fun k => rfl) ?_
   simp only [spec_SpansRead.l0]
   by_cases c : (i : Int) < n
   ·
    exact Ev.pos c (Ev.neg (by omega) e1)
   ·
    exact Ev.neg c e1
  ·
   refine Ev.step (f := fun k => impl_SpansRead.l0 (k + 1) t l last (n - (i : Int)) t a false) (fun k => rfl) ?_
   simp only [impl_SpansRead.l0]
   by_cases c : n - (i : Int) > 0
   ·
    refine Ev.pos c (Ev.neg (by simp) ?_)
    rw [decide_eq_false (by omega)]
    exact e2
   ·
    exact Ev.neg c e2
 induction d with
 | zero => intro i a l last hi ha hl; exact stop i a l last hl (by omega) (Or.inr (by omega))
 | succ d ih =>
  intro i a l last hi ha hl
  by_cases c : n ≤ (i : Int)
  ·
   exact stop i a l last hl (by omega) (Or.inl c)
  ·
   obtain ⟨f, f', a1, b1, c1, s1, i1, r1, q1, y1, z1⟩ := num_both t hb a false a ⟨ha, ha, fun _ => rfl⟩
   obtain ⟨g, g', a2, b2, c2, s2, i2, r2, q2, y2, z2⟩ := num_both t hb a1 b1 c1 r1
   have toI : ∀ R, Ev (fun k => impl_SpansRead.l0 k t (l ++ [(⟨wrap64 (last + f'), wrap64 ((wrap64 (last + f')) + g')⟩ : Sp)]) (wrap64 ((wrap64 (last + f')) + g')) (n - ((i + 1 : Nat) : Int)) t c2 b2) R → Ev (fun k => impl_SpansRead.l0 k t l last (n - (i : Int)) t a false) R := by
    intro R hR
    refine Ev.step (f := fun k => impl_SpansRead.l0 (k + 1) t l last (n - (i : Int)) t a false) (fun k => rfl) ?_
    simp only [impl_SpansRead.l0]
    refine Ev.pos (by omega) (Ev.neg (by simp) ?_)
    rw [decide_eq_true (by omega)]
    refine Ev.step (f := fun k => impl_SpansRead.j1 (k + 1) t l last (n - (i : Int)) true t a false) (fun k => rfl) ?_
    simp only [impl_SpansRead.j1]
    refine Ev.pos (by first | rfl | trivial) (Ev.bind i1 (Ev.bind i2 (Ev.pos (by omega) ?_)))
    rw [show wrap64 (n - (i : Int) - 1) = n - ((i + 1 : Nat) : Int) from by unfold wrap64; have := hn64.1; have := hn64.2; omega]
    exact hR
   have toS : ∀ (bad : Bool), ((b2 = true → bad = true) ∧ (b2 = false → bad = !(decide (1 ≤ wrap64 (f + last) ∧ wrap64 (f + last) ≤ 1000000) && decide (1 ≤ wrap64 ((wrap64 (f + last)) + g) ∧ wrap64 ((wrap64 (f + last)) + g) ≤ 1000000)))) → ∀ R, Ev (fun k => spec_SpansRead.l0 k t n (l ++ [(⟨wrap64 (f + last), wrap64 ((wrap64 (f + last)) + g)⟩ : Sp)]) (wrap64 ((wrap64 (f + last)) + g)) ((i + 1 : Nat) : Int) t a2 bad) R → Ev (fun k => spec_SpansRead.l0 k t n l last (i : Int) t a false) R := by
    intro bad hbad R hR
    refine Ev.step (f := fun k => spec_SpansRead.l0 (k + 1) t n l last (i : Int) t a false) (fun k => rfl) ?_
    simp only [spec_SpansRead.l0]
    refine Ev.pos (by omega) (Ev.pos (by omega) ?_)
    refine Ev.step (f := fun k => spec_SpansRead.j1 (k + 1) t n l last (i : Int) (!false) t a false) (fun k => rfl) ?_
    simp only [spec_SpansRead.j1]
    refine Ev.pos (by first | rfl | trivial) (Ev.bind s1 (Ev.bind s2 ?_))
    have hw : wrap64 ((i : Int) + 1) = ((i + 1 : Nat) : Int) := by unfold wrap64; omega
    rw [hw]
    cases b2 with
    | true =>
     obtain rfl := hbad.1 rfl
     exact Ev.pos (by first | rfl | trivial) (Ev.pos (by omega) hR)
    | false =>
     have e := hbad.2 rfl
     refine Ev.neg (by simp) (Ev.take (l02Id_eq _) ?_)
     by_cases k1 : 1 ≤ wrap64 (f + last) ∧ wrap64 (f + last) ≤ 1000000
     ·
      refine Ev.pos (decide_eq_true k1) (Ev.take (l02Id_eq _) (Ev.pos (by omega) ?_))
      rw [decide_eq_true k1, Bool.true_and] at e
      rw [← e]; exact hR
     ·
      refine Ev.neg (by simpa using k1) (Ev.pos (by omega) ?_)
      rw [decide_eq_false k1, Bool.false_and] at e
      rw [show bad = true from e] at hR; exact hR
   cases b2 with
   | true =>
    exact ⟨spZ, spZ_ok t, toS true ⟨fun _ => rfl, fun e => by cases e⟩ _ (ssp_bad t ht hb n _ a2 _ _), toI _ (isp_bad t ht hb d _ c2 true _ _ (by rw [List.length_append, List.length_singleton]; omega) r2.2.1 (Or.inl rfl))⟩
   | false =>
    obtain ⟨e1, rfl⟩ := q2 rfl
    obtain rfl := r2.2.2 rfl
    obtain ⟨_, rfl⟩ := q1 e1
    rw [show last + f = f + last from Int.add_comm _ _] at toI
    by_cases k : (1 ≤ wrap64 (f + last) ∧ wrap64 (f + last) ≤ 1000000) ∧ (1 ≤ wrap64 ((wrap64 (f + last)) + g) ∧ wrap64 ((wrap64 (f + last)) + g) ≤ 1000000)
    ·
     obtain ⟨R, hR, h1, h2⟩ := ih (i + 1) a2 (l ++ [(⟨wrap64 (f + last), wrap64 ((wrap64 (f + last)) + g)⟩ : Sp)]) (wrap64 ((wrap64 (f + last)) + g)) (by omega) r2.1 (by rw [List.length_append, List.length_singleton]; omega)
     exact ⟨R, hR, toS false ⟨fun e => (by cases e), fun _ => by rw [decide_eq_true k.1, decide_eq_true k.2]; rfl⟩ R h1, toI R h2⟩
    ·
     refine ⟨spZ, spZ_ok t, toS true ⟨fun e => (by cases e), fun _ => ?_⟩ _ (ssp_bad t ht hb n _ a2 _ _), toI _ (isp_bad t ht hb d _ a2 false _ _ (by rw [List.length_append, List.length_singleton]; omega) r2.1 (Or.inr ⟨_, List.mem_append_right _ (List.mem_singleton.2 rfl), k⟩))⟩
     by_cases k1 : 1 ≤ wrap64 (f + last) ∧ wrap64 (f + last) ≤ 1000000
     ·
      rw [decide_eq_false (fun k2 => k ⟨k1, k2⟩), Bool.and_false]; rfl
     ·
      rw [decide_eq_false k1, Bool.false_and]; rfl
theorem spansRead_both (t : ByteArray) : ∃ R : SpO, (R.1.length ≤ 401 ∧ (R.2 = 0 → (spBytes R.1).toList = t.toList)) ∧ Ev (fun k => spec_SpansRead.f k t) R ∧ Ev (fun k => impl_SpansRead.f k t) R := by
 by_cases c : (t.size : Int) > 8000
 ·
  refine ⟨([], 2), ⟨Nat.zero_le _, fun e => absurd e (by decide)⟩, ?_, ?_⟩
  ·
   unfold spec_SpansRead.f; exact Ev.pos c (Ev.now _)
  ·
   unfold impl_SpansRead.f; exact Ev.pos c (Ev.now _)
 ·
  have hb : t.size ≤ 8000 := by omega
  obtain ⟨n, n', a1, b1, c1, s1, i1, r1, q1, y1, z1⟩ := num_both t hb 0 false 0 ⟨⟨by omega, by omega⟩, ⟨by omega, by omega⟩, fun _ => rfl⟩
  have toS : ∀ R, Ev (fun k => spec_SpansRead.l0 k t n [] 0 0 t a1 b1) R → Ev (fun k => spec_SpansRead.f k t) R := by
   intro R hR; unfold spec_SpansRead.f; exact Ev.neg c (Ev.bind s1 hR)
  have toI : ∀ R, Ev (fun k => impl_SpansRead.l0 k t [] 0 n' t c1 b1) R → Ev (fun k => impl_SpansRead.f k t) R := by
   intro R hR; unfold impl_SpansRead.f; exact Ev.neg c (Ev.bind i1 hR)
  by_cases h0 : t.size = 0
  ·
   have e0 : t.toList = [] := (size_zero_iff t).2 h0
   have hbad : b1 = true := by
    have h := spec_GetNum_ev t (by omega) 0 (by omega)
    have h2 : Ev (fun k => spec_l02Reader_num.f k t 0 false) (0, t, 0, true) := by
     unfold spec_l02Reader_num.f
     refine Ev.bind h (Ev.neg (by simp) (Ev.neg ?_ (Ev.now _)))
     rw [show getNumS t 0 = (0, 0, 4) from by unfold getNumS getNumR gn; rw [if_neg (by omega), if_neg (by omega), if_pos (by omega)]]
     decide
    have := Ev.uniq s1 h2
    simp only [Prod.mk.injEq] at this
    exact this.2.2.2
   subst hbad
   refine ⟨spZ, spZ_ok t, toS _ ?_, toI _ ?_⟩
   ·
    have fin : Ev (fun k => spec_SpansRead.j1 k t n [] 0 0 false t a1 true) spZ := Ev.one (fun k => by rw [spec_SpansRead.j1, if_neg (by simp), if_pos rfl]; rfl)
    refine Ev.step (f := fun k => spec_SpansRead.l0 (k + 1) t n [] 0 0 t a1 true) (fun k => rfl) ?_
    simp only [spec_SpansRead.l0]
    by_cases c3 : (0 : Int) < n
    ·
     exact Ev.pos c3 (Ev.pos (by omega) fin)
    ·
     exact Ev.neg c3 fin
   ·
    have fin : Ev (fun k => impl_SpansRead.j1 k t [] 0 n' false t c1 true) spZ := Ev.one (fun k => by rw [impl_SpansRead.j1, if_neg (by simp), if_pos rfl]; rfl)
    refine Ev.step (f := fun k => impl_SpansRead.l0 (k + 1) t [] 0 n' t c1 true) (fun k => rfl) ?_
    simp only [impl_SpansRead.l0]
    by_cases c3 : n' > 0
    ·
     exact Ev.pos c3 (Ev.pos (by first | rfl | trivial) fin)
    ·
     exact Ev.neg c3 fin
  ·
   have ht : 0 < t.size := by omega
   cases b1 with
   | true =>
    exact ⟨spZ, spZ_ok t, toS _ (ssp_bad t ht hb n 0 a1 [] 0), toI _ (isp_bad t ht hb 401 n' c1 true [] 0 (by simp) r1.2.1 (Or.inl rfl))⟩
   | false =>
    obtain ⟨_, rfl⟩ := q1 rfl
    obtain rfl := r1.2.2 rfl
    obtain ⟨R, hR, h1, h2⟩ := sp_both t ht hb n y1 401 0 a1 [] 0 rfl r1.1 rfl
    refine ⟨R, hR, toS R h1, toI R ?_⟩
    simpa using h2
theorem inSpans_eq (l : List Sp) (a : Int) : impl_inSpans.f l a = some (l.any fun x => decide (x.f0 ≤ a ∧ a ≤ x.f1)) := rfl
def spIn (l : List Sp) (a : Int) : Bool := l.any fun x => decide (x.f0 ≤ a ∧ a ≤ x.f1)
theorem impl_InSpans_ev (l : List Sp) (a : Int) (hl : l.length ≤ 9223372036854775807) : Ev (fun k => impl_InSpans.f k l a) (spRight l && spIn l a) := by
 unfold impl_InSpans.f
 refine Ev.bind (impl_SR_ev l hl) ?_
 cases h : spRight l
 ·
  exact Ev.neg (by simp) (Ev.now _)
 ·
  exact Ev.pos rfl (Ev.take (inSpans_eq l a) (Ev.now _))
theorem l15In_l0 (l : List Sp) (a : Int) (hl : l.length ≤ 9223372036854775806) (d : Nat) : ∀ i : Nat, i + d = l.length → Ev (fun k => spec_l15In.l0 k l a (i : Int)) (spIn (l.drop i) a) := by
 induction d with
 | zero =>
  intro i hi
  refine Ev.one (fun k => ?_)
  simp only [spec_l15In.l0]
  rw [if_neg (by omega), List.drop_of_length_le (by omega)]; rfl
 | succ d ih =>
  intro i hi
  have hlt : i < l.length := by omega
  rw [drop_cons hlt]
  have hw : wrap64 ((i : Int) + 1) = ((i + 1 : Nat) : Int) := by unfold wrap64; omega
  by_cases c1 : l[i].f0 ≤ a
  ·
   by_cases c2 : a ≤ l[i].f1
   ·
    refine Ev.one (fun k => ?_)
    simp only [spec_l15In.l0]
    rw [if_pos (by omega), if_pos (by omega), sp_at hlt, if_pos (by omega), if_pos (by omega)]
    unfold spIn; rw [List.any_cons]; simp [c1, c2]
   ·
    refine Ev.step (f := fun k => spec_l15In.l0 k l a ((i + 1 : Nat) : Int)) (fun k => ?_) (Ev.to ?_ (ih (i + 1) (by omega)))
    ·
     simp only [spec_l15In.l0]
     rw [if_pos (by omega), if_pos (by omega), sp_at hlt, if_pos (by omega), if_neg (by omega), hw]
    ·
     unfold spIn; rw [List.any_cons]; simp [c2]
  ·
   refine Ev.step (f := fun k => spec_l15In.l0 k l a ((i + 1 : Nat) : Int)) (fun k => ?_) (Ev.to ?_ (ih (i + 1) (by omega)))
   ·
    simp only [spec_l15In.l0]
    rw [if_pos (by omega), if_pos (by omega), sp_at hlt, if_neg (by omega), hw]
   ·
    unfold spIn; rw [List.any_cons]; simp [c1]
theorem spec_InSpans_ev (l : List Sp) (a : Int) (hl : l.length ≤ 9223372036854775806) : Ev (fun k => spec_InSpans.f k l a) (spRight l && spIn l a) := by
 unfold spec_InSpans.f
 refine Ev.bind (spec_SR_ev l (by omega)) ?_
 cases h : spRight l
 ·
  exact Ev.neg (by simp) (Ev.now _)
 ·
  refine Ev.pos rfl (Ev.bind (l15In_l0 l a hl l.length 0 (by omega)) (Ev.now _))
def insI : List Int → Int → List Int
 | [], n => [n]
 | x :: r, n => if x < n then x :: insI r n else if x = n then x :: r else n :: x :: r
theorem insI_mem (n z : Int) : ∀ l : List Int, z ∈ insI l n ↔ z = n ∨ z ∈ l
 | [] => by simp [insI]
 | x :: r => by
  unfold insI
  split
  ·
   rw [List.mem_cons, insI_mem n z r, List.mem_cons]
   constructor
   ·
    rintro (h | h | h)
    ·
     exact .inr (.inl h)
    ·
     exact .inl h
    ·
     exact .inr (.inr h)
   ·
    rintro (h | h | h)
    ·
     exact .inr (.inl h)
    ·
     exact .inl h
    ·
     exact .inr (.inr h)
  ·
   split
   ·
    rename_i h1 h2
    subst h2
    rw [List.mem_cons]
    constructor
    ·
     exact .inr
    ·
     rintro (h | h)
     ·
      exact .inl h
     ·
      exact h
   ·
    rw [List.mem_cons]
theorem insI_sorted (n : Int) : ∀ l : List Int, l.Pairwise (· < ·) → (insI l n).Pairwise (· < ·)
 | [], _ => by simp [insI]
 | x :: r, h => by
  obtain ⟨h1, h2⟩ := List.pairwise_cons.1 h
  unfold insI
  split
  ·
   rename_i c
   refine List.pairwise_cons.2 ⟨fun z hz => ?_, insI_sorted n r h2⟩
   rcases (insI_mem n z r).1 hz with rfl | hz
   ·
    exact c
   ·
    exact h1 z hz
  ·
   split
   ·
    exact h
   ·
    rename_i c1 c2
    refine List.pairwise_cons.2 ⟨fun z hz => ?_, h⟩
    rcases List.mem_cons.1 hz with rfl | hz
    ·
     omega
    ·
     have := h1 z hz; omega
theorem insI_len (n : Int) : ∀ l : List Int, (insI l n).length ≤ l.length + 1
 | [] => by simp [insI]
 | x :: r => by
  unfold insI
  split
  ·
   have := insI_len n r; simp; omega
  ·
   split
   ·
    simp
   ·
    simp
theorem foldI_ok : ∀ (l acc : List Int), acc.Pairwise (· < ·) → (l.foldl insI acc).Pairwise (· < ·) ∧ (∀ z, z ∈ l.foldl insI acc ↔ z ∈ acc ∨ z ∈ l) ∧ (l.foldl insI acc).length ≤ acc.length + l.length
 | [], acc, h => ⟨h, fun z => by simp, by simp⟩
 | x :: r, acc, h => by
  obtain ⟨h1, h2, h3⟩ := foldI_ok r (insI acc x) (insI_sorted x acc h)
  rw [List.foldl_cons]
  refine ⟨h1, fun z => ?_, by have := insI_len x acc; rw [List.length_cons]; omega⟩
  rw [h2 z, insI_mem, List.mem_cons]
  constructor
  ·
   rintro ((h | h) | h)
   ·
    exact .inr (.inl h)
   ·
    exact .inl h
   ·
    exact .inr (.inr h)
  ·
   rintro (h | h | h)
   ·
    exact .inl (.inr h)
   ·
    exact .inl (.inl h)
   ·
    exact .inr h
theorem sorted_ext : ∀ (l m : List Int), l.Pairwise (· < ·) → m.Pairwise (· < ·) → (∀ x, x ∈ l ↔ x ∈ m) → l = m
 | [], [], _, _, _ => rfl
 | [], y :: m, _, _, h => absurd ((h y).2 (by simp)) (by simp)
 | x :: l, [], _, _, h => absurd ((h x).1 (by simp)) (by simp)
 | x :: l, y :: m, h1, h2, h => by
  obtain ⟨a1, a2⟩ := List.pairwise_cons.1 h1
  obtain ⟨b1, b2⟩ := List.pairwise_cons.1 h2
  have e : x = y := by
   rcases List.mem_cons.1 ((h x).1 (by simp)) with e | hx
   ·
    exact e
   ·
    rcases List.mem_cons.1 ((h y).2 (by simp)) with e | hy
    ·
     exact e.symm
    ·
     have := b1 x hx; have := a1 y hy; omega
  subst e
  rw [sorted_ext l m a2 b2 (fun z => ?_)]
  constructor
  ·
   intro hz
   rcases List.mem_cons.1 ((h z).1 (by simp [hz])) with e | hz2
   ·
    subst e; exact absurd (a1 z hz) (by omega)
   ·
    exact hz2
  ·
   intro hz
   rcases List.mem_cons.1 ((h z).2 (by simp [hz])) with e | hz2
   ·
    subst e; exact absurd (b1 z hz) (by omega)
   ·
    exact hz2
theorem compact_ok (d : Array Int) (hs : ∀ i j, i < j → j < d.size → d[i]! ≤ d[j]!) : ∀ m, m ≤ d.size →
  (Go.Lib.compactUpTo d m).Pairwise (· < ·) ∧ (∀ z, z ∈ Go.Lib.compactUpTo d m ↔ ∃ j, j < m ∧ d[j]! = z) ∧ (∀ z ∈ Go.Lib.compactUpTo d m, z ≤ d[m - 1]!)
 | 0, _ => ⟨by simp [Go.Lib.compactUpTo], fun z => by simp [Go.Lib.compactUpTo], fun z hz => by simp [Go.Lib.compactUpTo] at hz⟩
 | m + 1, hm => by
  obtain ⟨h1, h2, h3⟩ := compact_ok d hs m (by omega)
  rw [Go.Lib.compactUpTo_succ]
  by_cases hk : Go.Lib.keeps d m = true
  ·
   rw [if_pos hk]
   have hlt : ∀ z ∈ Go.Lib.compactUpTo d m, z < d[m]! := by
    intro z hz
    have hz1 := h3 z hz
    obtain ⟨j, hj, _⟩ := (h2 z).1 hz
    unfold Go.Lib.keeps at hk
    rw [decide_eq_true_iff] at hk
    rcases hk with e | e
    ·
     omega
    ·
     have := hs (m - 1) m (by omega) (by omega)
     omega
   refine ⟨?_, fun z => ?_, fun z hz => ?_⟩
   ·
    rw [List.pairwise_append]
    refine ⟨h1, by simp, fun x hx y hy => ?_⟩
    rw [List.mem_singleton.1 hy]
    exact hlt x hx
   ·
    rw [List.mem_append, h2 z, List.mem_singleton]
    constructor
    ·
     rintro (⟨j, hj, e⟩ | e)
     ·
      exact ⟨j, by omega, e⟩
     ·
      exact ⟨m, by omega, e.symm⟩
    ·
     rintro ⟨j, hj, e⟩
     by_cases c : j = m
     ·
      subst c; exact .inr e.symm
     ·
      exact .inl ⟨j, by omega, e⟩
   ·
    rw [Nat.add_sub_cancel]
    rcases List.mem_append.1 hz with hz | hz
    ·
     have := hlt z hz; omega
    ·
     rw [List.mem_singleton.1 hz]; exact Int.le_refl _
  ·
   rw [if_neg hk, List.append_nil]
   unfold Go.Lib.keeps at hk
   rw [decide_eq_true_iff] at hk
   have hm0 : m ≠ 0 := fun e => hk (.inl e)
   have he : d[m]! = d[m - 1]! := Decidable.byContradiction (fun e => hk (.inr e))
   refine ⟨h1, fun z => ?_, fun z hz => ?_⟩
   ·
    rw [h2 z]
    constructor
    ·
     rintro ⟨j, hj, e⟩; exact ⟨j, by omega, e⟩
    ·
     rintro ⟨j, hj, e⟩
     by_cases c : j = m
     ·
      subst c; exact ⟨j - 1, by omega, by rw [← he]; exact e⟩
     ·
      exact ⟨j, by omega, e⟩
   ·
    rw [Nat.add_sub_cancel, he]
    exact h3 z hz
theorem sorted_eq (l : List Int) : Go.Lib.compactUpTo (l.mergeSort fun x y => decide (x ≤ y)).toArray (l.mergeSort fun x y => decide (x ≤ y)).length = l.foldl insI [] := by
 have hp := List.mergeSort_perm l (fun x y => decide (x ≤ y))
 have hso : (l.mergeSort fun x y => decide (x ≤ y)).Pairwise (fun x y => decide (x ≤ y) = true) := List.pairwise_mergeSort (by intro a b c h1 h2; rw [decide_eq_true_iff] at *; omega) (by intro a b; simp only [Bool.or_eq_true, decide_eq_true_iff]; omega) l
 generalize hs : (l.mergeSort fun x y => decide (x ≤ y)) = s at hp hso
 have hmono : ∀ i j, i < j → j < s.toArray.size → s.toArray[i]! ≤ s.toArray[j]! := by
  intro i j hij hj
  have hj' : j < s.length := by simpa using hj
  have := List.pairwise_iff_getElem.1 hso i j (by omega) hj' hij
  rw [decide_eq_true_iff] at this
  rw [getElem!_pos s.toArray i (by simp; omega), getElem!_pos s.toArray j hj]
  simpa using this
 obtain ⟨h1, h2, _⟩ := compact_ok s.toArray hmono s.length (by simp)
 obtain ⟨g1, g2, _⟩ := foldI_ok l [] List.Pairwise.nil
 refine sorted_ext _ _ h1 g1 (fun z => ?_)
 rw [h2 z, g2 z]
 constructor
 ·
  rintro ⟨j, hj, e⟩
  refine .inr (hp.mem_iff.1 ?_)
  rw [← e, getElem!_pos s.toArray j (by simpa using hj)]
  simp
 ·
  rintro (h | h)
  ·
   cases h
  ·
   obtain ⟨j, hj, e⟩ := List.getElem_of_mem (hp.mem_iff.2 h)
   exact ⟨j, hj, by rw [getElem!_pos s.toArray j (by simpa using hj)]; simpa using e⟩
theorem impl_sorted_eq (l : List Int) (hl : l.length ≤ 1000000000000) : impl_sorted.f l = some (l.foldl insI []) := by
 unfold impl_sorted.f slices_Sort_int64_int64.f slices_Compact_int64_int64.f
 rw [if_pos hl]
 simp only [Option.bind_some, List.length_mergeSort]
 rw [if_pos hl]
 simp only [Option.bind_some]
 have := sorted_eq l
 rw [List.length_mergeSort] at this
 rw [this]
theorem l03Set_l0 (l : List Int) (n : Int) (hl : l.length ≤ 1000000000000) (d : Nat) : ∀ i : Nat, i + d = l.length → Ev (fun k => spec_l03Set.l0 k l n (i : Int)) (l.take i ++ insI (l.drop i) n) := by
 induction d with
 | zero =>
  intro i hi
  have h1 : i = l.length := by omega
  refine Ev.one (fun k => ?_)
  simp only [spec_l03Set.l0]
  have e1 : ((i : Int)).toNat = i := by omega
  rw [if_neg (by omega)]
  simp only [Option.bind_some, List.nil_append, List.length_nil, e1]
  rw [if_pos (by omega), if_pos (by omega)]
  simp only [List.length_take, List.length_drop, List.length_append, List.length_singleton]
  rw [if_pos (by omega), if_pos (by omega), if_pos (by omega), List.drop_of_length_le (by omega)]
  simp [insI]
 | succ d ih =>
  intro i hi
  have hlt : i < l.length := by omega
  have hw : wrap64 ((i : Int) + 1) = ((i + 1 : Nat) : Int) := w64 (by omega) (by omega)
  have e1 : ((i : Int)).toNat = i := by omega
  rw [drop_cons hlt]
  unfold insI
  by_cases c : l[i] < n
  ·
   rw [if_pos c]
   refine Ev.step (f := fun k => spec_l03Set.l0 k l n ((i + 1 : Nat) : Int)) (fun k => ?_) (Ev.to ?_ (ih (i + 1) (by omega)))
   ·
    simp only [spec_l03Set.l0]
    rw [if_pos (by omega), if_pos (by omega), rd_at hlt, if_pos c, hw]
   ·
    rw [List.take_succ_eq_append_getElem hlt, List.append_assoc]; rfl
  ·
   rw [if_neg c]
   by_cases c2 : l[i] = n
   ·
    rw [if_pos c2]
    refine Ev.one (fun k => ?_)
    simp only [spec_l03Set.l0]
    rw [if_pos (by omega), if_pos (by omega), rd_at hlt, if_neg c, if_pos c2, ← drop_cons hlt, List.take_append_drop]
   ·
    rw [if_neg c2]
    refine Ev.one (fun k => ?_)
    simp only [spec_l03Set.l0]
    rw [if_pos (by omega), if_pos (by omega), rd_at hlt, if_neg c, if_neg c2]
    simp only [Option.bind_some, List.nil_append, List.length_nil, e1]
    rw [if_pos (by omega)]
    simp only [List.length_take, List.length_drop, List.length_append, List.length_singleton]
    rw [if_pos (by omega), if_pos (by omega), if_pos (by omega), ← drop_cons hlt]
    simp
theorem l03Set_ev (l : List Int) (n : Int) (hl : l.length ≤ 1000000000000) : Ev (fun k => spec_l03Set.f k l n) (insI l n) := by
 have := l03Set_l0 l n hl l.length 0 (by omega)
 unfold spec_l03Set.f
 exact Ev.to (by simp) this
def stepR (out : List Sp) (id : Int) : List Sp := if h : 0 < out.length then (if (out[out.length - 1]).f1 + 1 = id then out.set (out.length - 1) ⟨(out[out.length - 1]).f0, id⟩ else out ++ [⟨id, id⟩]) else out ++ [⟨id, id⟩]
def okR (out : List Sp) : Prop := ∀ y ∈ out, 1 ≤ y.f1 ∧ y.f1 ≤ 1000000
theorem stepR_ok {out : List Sp} {id : Int} (h : okR out) (hid : 1 ≤ id ∧ id ≤ 1000000) : okR (stepR out id) ∧ (stepR out id).length ≤ out.length + 1 := by
 unfold stepR
 have happ : okR (out ++ [⟨id, id⟩]) := by
  intro y hy
  rcases List.mem_append.1 hy with hy | hy
  ·
   exact h y hy
  ·
   rw [List.mem_singleton.1 hy]; exact hid
 by_cases c : 0 < out.length
 ·
  rw [dif_pos c]
  split
  ·
   refine ⟨fun y hy => ?_, by simp⟩
   rcases List.mem_or_eq_of_mem_set hy with hy | rfl
   ·
    exact h y hy
   ·
    exact hid
  ·
   exact ⟨happ, by simp⟩
 ·
  rw [dif_neg c]; exact ⟨happ, by simp⟩
theorem spans_l0 (ids : List Int) (hl : ids.length ≤ 1000000) (hid : ∀ x ∈ ids, 1 ≤ x ∧ x ≤ 1000000) (d : Nat) : ∀ (i : Nat) (out : List Sp), i + d = ids.length → okR out → out.length ≤ i → Ev (fun k => impl_spans.l0 k out ids (ids.length : Int) (i : Int)) ((ids.drop i).foldl stepR out) := by
 induction d with
 | zero =>
  intro i out hi _ _
  rw [List.drop_of_length_le (by omega)]
  refine Ev.one (fun k => ?_)
  simp only [impl_spans.l0]
  rw [if_neg (by omega)]; rfl
 | succ d ih =>
  intro i out hi ho hol
  have hlt : i < ids.length := by omega
  have hx := hid _ (List.getElem_mem hlt)
  rw [drop_cons hlt, List.foldl_cons]
  have hw : wrap64 ((i : Int) + 1) = ((i + 1 : Nat) : Int) := w64 (by omega) (by omega)
  obtain ⟨s1, s2⟩ := stepR_ok ho hx
  have hn := ih (i + 1) (stepR out ids[i]) (by omega) s1 (by omega)
  by_cases c : 0 < out.length
  ·
   have hw2 : wrap64 ((out.length : Int) - 1) = ((out.length - 1 : Nat) : Int) := by rw [w64 (by omega) (by omega)]; omega
   have hk : out.length - 1 < out.length := by omega
   have hb := ho _ (List.getElem_mem hk)
   have hw3 : wrap64 ((out[out.length - 1]).f1 + 1) = (out[out.length - 1]).f1 + 1 := w64 (by omega) (by omega)
   have e1 : (((out.length - 1 : Nat) : Int)).toNat = out.length - 1 := by omega
   refine Ev.step (fun k => ?_) hn
   simp only [impl_spans.l0]
   rw [if_pos (by omega), if_pos (by omega), if_pos (by omega), hw2, if_pos (by omega), if_pos (by omega), if_pos (by omega), sp_at hk, hw3, rd_at hlt, hw, e1]
   unfold stepR
   rw [dif_pos c]
   by_cases q : (out[out.length - 1]).f1 + 1 = ids[i]
   ·
    rw [if_pos q, if_pos q]
   ·
    rw [if_neg q, if_neg q, if_pos (by omega)]
  ·
   have hz : out.length = 0 := by omega
   refine Ev.step (fun k => ?_) hn
   simp only [impl_spans.l0]
   have hw2 : wrap64 ((out.length : Int) - 1) = -1 := by rw [hz]; unfold wrap64; omega
   rw [if_pos (by omega), if_pos (by omega), if_pos (by omega), hw2, if_neg (by omega), rd_at hlt, hw, if_pos (by omega)]
   unfold stepR
   rw [dif_neg c]
theorem spans_ev (ids : List Int) (hl : ids.length ≤ 1000000) (hid : ∀ x ∈ ids, 1 ≤ x ∧ x ≤ 1000000) : Ev (fun k => impl_spans.f k ids) (ids.foldl stepR []) := by
 have := spans_l0 ids hl hid ids.length 0 [] (by omega) (fun y hy => by cases hy) (by simp)
 unfold impl_spans.f
 simpa using this
theorem l15Of_l0 (ids : List Int) (hl : ids.length ≤ 1000000) (hid : ∀ x ∈ ids, 1 ≤ x ∧ x ≤ 1000000) (d : Nat) : ∀ (i : Nat) (out : List Sp), i + d = ids.length → okR out → out.length ≤ i → Ev (fun k => spec_l15Of.l0 k ids out (i : Int)) ((ids.drop i).foldl stepR out) := by
 induction d with
 | zero =>
  intro i out hi _ _
  rw [List.drop_of_length_le (by omega)]
  refine Ev.one (fun k => ?_)
  simp only [spec_l15Of.l0]
  rw [if_neg (by omega)]; rfl
 | succ d ih =>
  intro i out hi ho hol
  have hlt : i < ids.length := by omega
  have hx := hid _ (List.getElem_mem hlt)
  rw [drop_cons hlt, List.foldl_cons]
  have hw : wrap64 ((i : Int) + 1) = ((i + 1 : Nat) : Int) := w64 (by omega) (by omega)
  obtain ⟨s1, s2⟩ := stepR_ok ho hx
  have hn := ih (i + 1) (stepR out ids[i]) (by omega) s1 (by omega)
  by_cases c : 0 < out.length
  ·
   have hw2 : wrap64 ((out.length : Int) - 1) = ((out.length - 1 : Nat) : Int) := by rw [w64 (by omega) (by omega)]; omega
   have hk : out.length - 1 < out.length := by omega
   have hb := ho _ (List.getElem_mem hk)
   have hw3 : wrap64 ((out[out.length - 1]).f1 + 1) = (out[out.length - 1]).f1 + 1 := w64 (by omega) (by omega)
   have e1 : (((out.length - 1 : Nat) : Int)).toNat = out.length - 1 := by omega
   refine Ev.step (fun k => ?_) hn
   simp only [spec_l15Of.l0]
   rw [if_pos (by omega), if_pos (by omega), hw2, if_pos (by omega), if_pos (by omega), if_pos (by omega), sp_at hk, hw3, rd_at hlt, hw, e1]
   unfold stepR
   rw [dif_pos c]
   by_cases q : (out[out.length - 1]).f1 + 1 = ids[i]
   ·
    rw [if_pos q, if_pos q]
   ·
    rw [if_neg q, if_neg q, if_pos (by omega)]
  ·
   have hz : out.length = 0 := by omega
   refine Ev.step (fun k => ?_) hn
   simp only [spec_l15Of.l0]
   rw [if_pos (by omega), if_neg (by omega), if_pos (by omega), rd_at hlt, hw, if_pos (by omega)]
   unfold stepR
   rw [dif_neg c]
theorem l15Of_ev (ids : List Int) (hl : ids.length ≤ 1000000) (hid : ∀ x ∈ ids, 1 ≤ x ∧ x ≤ 1000000) : Ev (fun k => spec_l15Of.f k ids) (ids.foldl stepR []) := by
 have := l15Of_l0 ids hl hid ids.length 0 [] (by omega) (fun y hy => by cases hy) (by simp)
 unfold spec_l15Of.f
 simpa using this
theorem foldR_len : ∀ (ids : List Int) (out : List Sp), (ids.foldl stepR out).length ≤ out.length + ids.length
 | [], out => by simp
 | x :: r, out => by
  have := foldR_len r (stepR out x)
  have h2 : (stepR out x).length ≤ out.length + 1 := by
   unfold stepR
   split
   ·
    split <;> simp
   ·
    simp
  rw [List.foldl_cons, List.length_cons]; omega
def idB (x : Int) : Bool := decide (1 ≤ x ∧ x ≤ 1000000)
def spansOf (l : List Int) : List Sp := if l.length > 400 then [] else if l.all idB = true then (l.foldl insI []).foldl stepR [] else []
theorem fold_ids {l : List Int} (h : l.all idB = true) : ∀ x ∈ l.foldl insI [], 1 ≤ x ∧ x ≤ 1000000 := by
 intro x hx
 rcases ((foldI_ok l [] List.Pairwise.nil).2.1 x).1 hx with h0 | h0
 ·
  cases h0
 ·
  exact of_decide_eq_true (List.all_eq_true.1 h x h0)
theorem fold_len (l : List Int) : (l.foldl insI []).length ≤ l.length := by have := (foldI_ok l [] List.Pairwise.nil).2.2; simpa using this
theorem spansOf_len (l : List Int) : (spansOf l).length ≤ 400 := by
 unfold spansOf
 split
 ·
  simp
 ·
  split
  ·
   have h1 := foldR_len (l.foldl insI []) []
   have h2 := fold_len l
   simp only [List.length_nil] at h1
   omega
  ·
   simp
theorem sSO_l0 (l : List Int) (hl : l.length ≤ 400) (d : Nat) : ∀ (i : Nat) (acc : List Int), i + d = l.length → acc.length ≤ i → (∀ x ∈ acc, 1 ≤ x ∧ x ≤ 1000000) → acc.Pairwise (· < ·) →
  Ev (fun k => spec_SpansOf.l0 k l acc (i : Int)) (if (l.drop i).all idB = true then ((l.drop i).foldl insI acc).foldl stepR [] else []) := by
 induction d with
 | zero =>
  intro i acc hi ha hid _
  rw [List.drop_of_length_le (by omega)]
  refine Ev.step (f := fun k => (spec_l15Of.f k acc).bind fun t => some t) (fun k => ?_) (Ev.bind (l15Of_ev acc (by omega) hid) (Ev.now _))
  simp only [spec_SpansOf.l0]
  rw [if_neg (by omega)]
 | succ d ih =>
  intro i acc hi ha hid hp
  have hlt : i < l.length := by omega
  have hw : wrap64 ((i : Int) + 1) = ((i + 1 : Nat) : Int) := w64 (by omega) (by omega)
  rw [drop_cons hlt, List.all_cons, List.foldl_cons]
  by_cases c : idB l[i] = true
  ·
   have hc := of_decide_eq_true c
   have hn := ih (i + 1) (insI acc l[i]) (by omega) (by have := insI_len l[i] acc; omega) (fun x hx => by rcases (insI_mem _ _ _).1 hx with rfl | hx; exact hc; exact hid x hx) (insI_sorted _ _ hp)
   refine Ev.step (f := fun k => (spec_l03Set.f k acc l[i]).bind fun t => spec_SpansOf.l0 k l t ((i + 1 : Nat) : Int)) (fun k => ?_) (Ev.bind (l03Set_ev acc _ (by omega)) (Ev.to ?_ hn))
   ·
    simp only [spec_SpansOf.l0]
    rw [if_pos (by omega), if_pos (by omega), rd_at hlt, l02Id_eq, hw]
    simp only [Option.bind_some]
    rw [if_pos (by exact c)]
   ·
    rw [c, Bool.true_and]
  ·
   refine Ev.one (fun k => ?_)
   simp only [spec_SpansOf.l0]
   rw [if_pos (by omega), if_pos (by omega), rd_at hlt, l02Id_eq]
   simp only [Option.bind_some]
   rw [if_neg (by exact c), if_neg (by rw [Bool.and_eq_true]; exact fun h => c h.1)]
theorem spec_SpansOf_ev (l : List Int) (hl : l.length ≤ 9223372036854775806) : Ev (fun k => spec_SpansOf.f k l) (spansOf l) := by
 unfold spec_SpansOf.f spansOf
 by_cases c : l.length > 400
 ·
  rw [if_pos c]; exact Ev.pos (by omega) (Ev.now _)
 ·
  rw [if_neg c]
  refine Ev.neg (by omega) ?_
  have := sSO_l0 l (by omega) l.length 0 [] (by omega) (by simp) (fun x hx => by cases hx) List.Pairwise.nil
  simpa using this
theorem idx_l0 (l : List Int) (hl : l.length ≤ 9223372036854775806) (d : Nat) : ∀ i : Nat, i + d = l.length → Ev (fun k => slices_IndexFunc_int64_int64.l0 k l (l.length : Int) (i : Int)) (if (l.drop i).all idB = true then -1 else ((i + (l.drop i).findIdx (fun x => !idB x) : Nat) : Int)) := by
 induction d with
 | zero =>
  intro i hi
  rw [List.drop_of_length_le (by omega)]
  refine Ev.one (fun k => ?_)
  simp only [slices_IndexFunc_int64_int64.l0]
  rw [if_neg (by omega)]; rfl
 | succ d ih =>
  intro i hi
  have hlt : i < l.length := by omega
  have hw : wrap64 ((i : Int) + 1) = ((i + 1 : Nat) : Int) := w64 (by omega) (by omega)
  have e0 : impl_SpansOf_1.f l[i] = some (!idB l[i]) := by unfold impl_SpansOf_1.f; rw [isId_eq]; rfl
  rw [drop_cons hlt, List.all_cons, List.findIdx_cons]
  by_cases c : idB l[i] = true
  ·
   refine Ev.step (f := fun k => slices_IndexFunc_int64_int64.l0 k l (l.length : Int) ((i + 1 : Nat) : Int)) (fun k => ?_) (Ev.to ?_ (ih (i + 1) (by omega)))
   ·
    simp only [slices_IndexFunc_int64_int64.l0]
    rw [if_pos (by omega), if_pos (by omega), if_pos (by omega), rd_at hlt, e0, hw]
    simp only [Option.bind_some]
    rw [if_neg (by rw [c]; simp)]
   ·
    rw [c, Bool.true_and]
    split
    ·
     rfl
    ·
     simp; omega
  ·
   refine Ev.one (fun k => ?_)
   simp only [slices_IndexFunc_int64_int64.l0]
   have c' : idB l[i] = false := by simpa using c
   rw [if_pos (by omega), if_pos (by omega), if_pos (by omega), rd_at hlt, e0]
   simp only [Option.bind_some]
   rw [c', if_pos (by rfl)]
   simp
theorem cont_ev (l : List Int) (hl : l.length ≤ 9223372036854775806) : Ev (fun k => slices_ContainsFunc_int64_int64.f k l) (!l.all idB) := by
 unfold slices_ContainsFunc_int64_int64.f slices_IndexFunc_int64_int64.f
 have := idx_l0 l hl l.length 0 (by omega)
 refine Ev.bind this (Ev.to ?_ (Ev.now _))
 rw [List.drop_zero]
 by_cases c : l.all idB = true
 ·
  rw [if_pos c, c]; rfl
 ·
  rw [if_neg c]
  have c' : l.all idB = false := by simpa using c
  rw [c', Bool.not_false]
  exact decide_eq_true (by omega)
theorem impl_SpansOf_ev (l : List Int) (hl : l.length ≤ 9223372036854775806) : Ev (fun k => impl_SpansOf.f k l) (spansOf l) := by
 unfold impl_SpansOf.f spansOf
 by_cases c : l.length > 400
 ·
  rw [if_pos c]
  refine Ev.pos (by omega) (Ev.one (fun k => ?_))
  simp only [impl_SpansOf.j0]; rfl
 ·
  rw [if_neg c]
  refine Ev.neg (by omega) (Ev.bind (cont_ev l hl) ?_)
  by_cases q : l.all idB = true
  ·
   rw [if_pos q, q]
   refine Ev.step (f := fun k => (slices_Clone_int64_int64.f l).bind fun t => (impl_sorted.f t).bind fun u => (impl_spans.f k u).bind fun z => some z) (fun k => by simp only [impl_SpansOf.j0]; rfl) ?_
   refine Ev.take (a := l) (by unfold slices_Clone_int64_int64.f; rw [if_pos (by omega)]) (Ev.take (impl_sorted_eq l (by omega)) (Ev.bind (spans_ev _ (by have := fold_len l; omega) (fold_ids q)) (Ev.now _)))
  ·
   rw [if_neg q]
   have q' : l.all idB = false := by simpa using q
   rw [q']
   refine Ev.one (fun k => ?_)
   simp only [impl_SpansOf.j0]; rfl
def addS (out : List Sp) (x : Sp) : List Sp := if h : 0 < out.length then (if x.f0 ≤ (out[out.length - 1]).f1 + 1 then out.set (out.length - 1) ⟨(out[out.length - 1]).f0, mx (out[out.length - 1]).f1 x.f1⟩ else out ++ [x]) else out ++ [x]
theorem addS_nil (x : Sp) : addS [] x = [x] := rfl
theorem addS_snoc (o : List Sp) (z x : Sp) : addS (o ++ [z]) x = if x.f0 ≤ z.f1 + 1 then o ++ [⟨z.f0, mx z.f1 x.f1⟩] else o ++ [z] ++ [x] := by
 unfold addS
 have h : 0 < (o ++ [z]).length := by simp
 rw [dif_pos h]
 have e : (o ++ [z])[(o ++ [z]).length - 1]'(by simp) = z := by simp
 rw [e]
 split
 ·
  simp
 ·
  rfl
theorem mx_comm3 (a b c : Int) : mx (mx a b) c = mx (mx a c) b := by unfold mx; split <;> split <;> (try split) <;> (try split) <;> omega
theorem mx_comm (a b : Int) : mx a b = mx b a := by unfold mx; split <;> split <;> omega
theorem le_mx (a b : Int) : a ≤ mx a b := by unfold mx; split <;> omega
theorem snoc_cases (out : List Sp) : out = [] ∨ ∃ o z, out = o ++ [z] := by
 rcases List.eq_nil_or_concat out with h | ⟨o, z, h⟩
 ·
  exact .inl h
 ·
  exact .inr ⟨o, z, by simpa using h⟩
theorem addS_comm (out : List Sp) (x y : Sp) (he : x.f0 = y.f0) (hx : x.f0 ≤ x.f1) (hy : y.f0 ≤ y.f1) : addS (addS out x) y = addS (addS out y) x := by
 rcases snoc_cases out with rfl | ⟨o, z, rfl⟩
 ·
  rw [addS_nil, addS_nil]
  have e1 := addS_snoc [] x y
  have e2 := addS_snoc [] y x
  simp only [List.nil_append] at e1 e2
  rw [e1, e2, if_pos (by omega), if_pos (by omega), he, mx_comm]
 ·
  rw [addS_snoc, addS_snoc]
  by_cases c : x.f0 ≤ z.f1 + 1
  ·
   rw [if_pos c, if_pos (by omega), addS_snoc, addS_snoc]
   have h1 := le_mx z.f1 x.f1
   have h2 := le_mx z.f1 y.f1
   rw [if_pos (by show _ ≤ mx _ _ + 1; omega), if_pos (by show _ ≤ mx _ _ + 1; omega), mx_comm3]
  ·
   rw [if_neg c, if_neg (by omega), addS_snoc, addS_snoc, if_pos (by omega), if_pos (by omega), he, mx_comm]
theorem addS_swap (x : Sp) (hx : x.f0 ≤ x.f1) : ∀ (M : List Sp) (out : List Sp), (∀ y ∈ M, y.f0 = x.f0 ∧ y.f0 ≤ y.f1) → addS (M.foldl addS out) x = M.foldl addS (addS out x)
 | [], out, _ => rfl
 | y :: M, out, h => by
  have hy := h y (by simp)
  rw [List.foldl_cons, List.foldl_cons, addS_swap x hx M _ (fun z hz => h z (by simp [hz])), addS_comm out y x hy.1 hy.2 hx]
theorem fold_perm : ∀ (L M : List Sp), L.Perm M → L.Pairwise (fun x y => x.f0 ≤ y.f0) → M.Pairwise (fun x y => x.f0 ≤ y.f0) → (∀ x ∈ L, x.f0 ≤ x.f1) → ∀ out, L.foldl addS out = M.foldl addS out
 | [], M, hp, _, _, _, out => by rw [hp.nil_eq]
 | x :: L, M, hp, hL, hM, hok, out => by
  obtain ⟨a1, a2⟩ := List.pairwise_cons.1 hL
  have hx : x ∈ M := hp.mem_iff.1 (by simp)
  obtain ⟨M1, M2, rfl⟩ := List.append_of_mem hx
  have hall : ∀ y ∈ M1, y.f0 = x.f0 ∧ y.f0 ≤ y.f1 := by
   intro y hy
   have h1 := (List.pairwise_append.1 hM).2.2 y hy x (by simp)
   have hyL : y ∈ x :: L := hp.mem_iff.2 (by simp [hy])
   refine ⟨?_, hok y hyL⟩
   rcases List.mem_cons.1 hyL with rfl | hyL
   ·
    rfl
   ·
    have := a1 y hyL; omega
  have hp2 : L.Perm (M1 ++ M2) := (hp.trans List.perm_middle).cons_inv
  have hM2 : (M1 ++ M2).Pairwise (fun x y => x.f0 ≤ y.f0) := by
   rw [List.pairwise_append] at hM ⊢
   exact ⟨hM.1, (List.pairwise_cons.1 hM.2.1).2, fun a ha b hb => hM.2.2 a ha b (by simp [hb])⟩
  rw [List.foldl_cons, fold_perm L (M1 ++ M2) hp2 a2 hM2 (fun y hy => hok y (by simp [hy])), List.foldl_append, List.foldl_append, List.foldl_cons, addS_swap x (hok x (by simp)) M1 out hall]
def okJ (out : List Sp) : Prop := ∀ y ∈ out, 1 ≤ y.f1 ∧ y.f1 ≤ 1000000
theorem addS_ok {out : List Sp} {x : Sp} (h : okJ out) (hx : 1 ≤ x.f1 ∧ x.f1 ≤ 1000000) : okJ (addS out x) ∧ (addS out x).length ≤ out.length + 1 := by
 rcases snoc_cases out with rfl | ⟨o, z, rfl⟩
 ·
  rw [addS_nil]
  exact ⟨fun y hy => by rw [List.mem_singleton.1 hy]; exact hx, by simp⟩
 ·
  rw [addS_snoc]
  have hz := h z (by simp)
  split
  ·
   refine ⟨fun y hy => ?_, by simp⟩
   rcases List.mem_append.1 hy with hy | hy
   ·
    exact h y (by simp [hy])
   ·
    rw [List.mem_singleton.1 hy]
    show 1 ≤ mx z.f1 x.f1 ∧ mx z.f1 x.f1 ≤ 1000000
    unfold mx; split <;> omega
  ·
   refine ⟨fun y hy => ?_, by simp⟩
   rcases List.mem_append.1 hy with hy | hy
   ·
    exact h y hy
   ·
    rw [List.mem_singleton.1 hy]; exact hx
def spShort (l : List Sp) : List Sp := if l.length > 400 then [] else l
theorem short_eq (l : List Sp) : impl_short.f l = some (spShort l) := by
 unfold impl_short.f spShort
 by_cases c : l.length > 400
 ·
  rw [if_pos (by omega), if_pos c]
 ·
  rw [if_neg (by omega), if_neg c]
theorem impl_SJ_l0 (L : List Sp) (hl : L.length ≤ 1000000) (hok : ∀ x ∈ L, 1 ≤ x.f1 ∧ x.f1 ≤ 1000000) (d : Nat) : ∀ (i : Nat) (out : List Sp), i + d = L.length → okJ out → out.length ≤ i → Ev (fun k => impl_SpansJoin.l0 k out L (L.length : Int) (i : Int)) (spShort ((L.drop i).foldl addS out)) := by
 induction d with
 | zero =>
  intro i out hi _ _
  rw [List.drop_of_length_le (by omega)]
  refine Ev.one (fun k => ?_)
  simp only [impl_SpansJoin.l0]
  rw [if_neg (by omega), short_eq]; rfl
 | succ d ih =>
  intro i out hi ho hol
  have hlt : i < L.length := by omega
  have hx := hok _ (List.getElem_mem hlt)
  rw [drop_cons hlt, List.foldl_cons]
  have hw : wrap64 ((i : Int) + 1) = ((i + 1 : Nat) : Int) := w64 (by omega) (by omega)
  obtain ⟨s1, s2⟩ := addS_ok ho hx
  have hn := ih (i + 1) (addS out L[i]) (by omega) s1 (by omega)
  by_cases c : 0 < out.length
  ·
   have hw2 : wrap64 ((out.length : Int) - 1) = ((out.length - 1 : Nat) : Int) := by rw [w64 (by omega) (by omega)]; omega
   have hk : out.length - 1 < out.length := by omega
   have hb := ho _ (List.getElem_mem hk)
   have hw3 : wrap64 ((out[out.length - 1]).f1 + 1) = (out[out.length - 1]).f1 + 1 := w64 (by omega) (by omega)
   have e1 : (((out.length - 1 : Nat) : Int)).toNat = out.length - 1 := by omega
   refine Ev.step (fun k => ?_) hn
   simp only [impl_SpansJoin.l0]
   rw [if_pos (by omega), if_pos (by omega), if_pos (by omega), hw2, if_pos (by omega), if_pos (by omega), if_pos (by omega), sp_at hk, hw3, sp_at hlt, hw, e1]
   unfold addS
   rw [dif_pos c]
   by_cases q : (L[i]).f0 ≤ (out[out.length - 1]).f1 + 1
   ·
    rw [if_pos q, if_pos q]
   ·
    rw [if_neg q, if_neg q, if_pos (by omega)]
  ·
   have hz : out.length = 0 := by omega
   refine Ev.step (fun k => ?_) hn
   simp only [impl_SpansJoin.l0]
   have hw2 : wrap64 ((out.length : Int) - 1) = -1 := by rw [hz]; unfold wrap64; omega
   rw [if_pos (by omega), if_pos (by omega), if_pos (by omega), hw2, if_neg (by omega), sp_at hlt, hw, if_pos (by omega)]
   unfold addS
   rw [dif_neg c]
theorem l15Add_ev (out : List Sp) (x : Sp) (ho : okJ out) (hl : out.length ≤ 1000000) : Ev (fun k => spec_l15Add.f k out x.f0 x.f1) (addS out x) := by
 unfold spec_l15Add.f
 by_cases c : out.length = 0
 ·
  refine Ev.pos (by omega) (Ev.one (fun k => ?_))
  simp only [spec_l15Add.j0]
  rw [if_pos (by first | rfl | trivial), if_pos (by omega)]
  unfold addS
  rw [dif_neg (by omega)]
 ·
  have hk : out.length - 1 < out.length := by omega
  have hw2 : wrap64 ((out.length : Int) - 1) = ((out.length - 1 : Nat) : Int) := by rw [w64 (by omega) (by omega)]; omega
  have hb := ho _ (List.getElem_mem hk)
  have hw3 : wrap64 ((out[out.length - 1]).f1 + 1) = (out[out.length - 1]).f1 + 1 := w64 (by omega) (by omega)
  have e1 : (((out.length - 1 : Nat) : Int)).toNat = out.length - 1 := by omega
  rw [hw2]
  refine Ev.neg (by omega) (Ev.pos (by omega) (Ev.pos (by omega) (Ev.one (fun k => ?_))))
  rw [sp_at hk, hw3]
  simp only [spec_l15Add.j0]
  unfold addS
  rw [dif_pos (by omega), hw2, sp_at hk, e1]
  by_cases q : (out[out.length - 1]).f1 + 1 < x.f0
  ·
   rw [if_pos (by simpa using q), if_pos (by omega), if_neg (by omega)]
  ·
   rw [if_neg (by simpa using q), if_pos (by omega), if_pos (by omega)]
   by_cases r : x.f1 > (out[out.length - 1]).f1
   ·
    rw [if_pos r, if_pos (by omega)]
    unfold mx
    rw [if_pos (by omega)]
   ·
    rw [if_neg r, if_pos (by omega)]
    unfold mx
    rw [if_neg (by omega)]
    have : out.set (out.length - 1) (⟨(out[out.length - 1]).f0, (out[out.length - 1]).f1⟩ : Sp) = out := List.set_getElem_self hk
    rw [this]
def leS (x y : Sp) : Bool := decide (x.f0 ≤ y.f0)
theorem spec_SJ_l0 (a b : List Sp) (ha : a.length ≤ 400) (hb : b.length ≤ 400) (oa : ∀ x ∈ a, 1 ≤ x.f1 ∧ x.f1 ≤ 1000000) (ob : ∀ x ∈ b, 1 ≤ x.f1 ∧ x.f1 ≤ 1000000) (d : Nat) : ∀ (i j : Nat) (out : List Sp), i ≤ a.length → j ≤ b.length → (a.length - i) + (b.length - j) = d → okJ out → out.length ≤ i + j →
  Ev (fun k => spec_SpansJoin.l0 k a b out (i : Int) (j : Int)) (spShort ((List.merge (a.drop i) (b.drop j) leS).foldl addS out)) := by
 induction d with
 | zero =>
  intro i j out hi hj hd ho hol
  rw [List.drop_of_length_le (by omega : a.length ≤ i), List.drop_of_length_le (by omega : b.length ≤ j)]
  refine Ev.step (f := fun k => spec_SpansJoin.j2 k a b out (i : Int) (j : Int) false) (fun k => ?_) (Ev.one (fun k => ?_))
  ·
   simp only [spec_SpansJoin.l0]
   rw [if_neg (by omega), decide_eq_false (by omega)]
  ·
   simp only [spec_SpansJoin.j2]
   rw [if_neg (by simp)]
   have : List.merge ([] : List Sp) [] leS = [] := by simp
   rw [this]
   unfold spShort
   by_cases c : out.length > 400
   ·
    rw [if_pos (by omega)]; simp [c]
   ·
    rw [if_neg (by omega)]; simp [c]
 | succ d ih =>
  intro i j out hi hj hd ho hol
  have first_ : ∀ r, Ev (fun k => spec_SpansJoin.j2 k a b out (i : Int) (j : Int) true) r → Ev (fun k => spec_SpansJoin.l0 k a b out (i : Int) (j : Int)) r := by
   intro r h
   refine Ev.step (fun k => ?_) h
   simp only [spec_SpansJoin.l0]
   by_cases c : (i : Int) < (a.length : Int)
   ·
    rw [if_pos c]
   ·
    rw [if_neg c, decide_eq_true (by omega)]
  have left_ : ∀ (hlt : i < a.length) r, Ev (fun k => spec_SpansJoin.l0 k a b (addS out a[i]) ((i + 1 : Nat) : Int) (j : Int)) r → Ev (fun k => spec_SpansJoin.j3 k a b out (i : Int) (j : Int) true) r := by
   intro hlt r h
   have hw : wrap64 ((i : Int) + 1) = ((i + 1 : Nat) : Int) := w64 (by omega) (by omega)
   refine Ev.step (f := fun k => (spec_l15Add.f k out (a[i]).f0 (a[i]).f1).bind fun t => spec_SpansJoin.l0 k a b t ((i + 1 : Nat) : Int) (j : Int)) (fun k => ?_) (Ev.bind (l15Add_ev out a[i] ho (by omega)) h)
   simp only [spec_SpansJoin.j3]
   rw [if_pos (by first | rfl | trivial), if_pos (by omega), if_pos (by omega), sp_at hlt, hw]
  have right_ : ∀ (hlt : j < b.length) r, Ev (fun k => spec_SpansJoin.l0 k a b (addS out b[j]) (i : Int) ((j + 1 : Nat) : Int)) r → Ev (fun k => spec_SpansJoin.j3 k a b out (i : Int) (j : Int) false) r := by
   intro hlt r h
   have hw : wrap64 ((j : Int) + 1) = ((j + 1 : Nat) : Int) := w64 (by omega) (by omega)
   refine Ev.step (f := fun k => (spec_l15Add.f k out (b[j]).f0 (b[j]).f1).bind fun t => spec_SpansJoin.l0 k a b t (i : Int) ((j + 1 : Nat) : Int)) (fun k => ?_) (Ev.bind (l15Add_ev out b[j] ho (by omega)) h)
   simp only [spec_SpansJoin.j3]
   rw [if_neg (by simp), if_pos (by omega), if_pos (by omega), sp_at hlt, hw]
  refine first_ _ ?_
  by_cases cj : j < b.length
  ·
   by_cases ci : i < a.length
   ·
    rw [drop_cons ci, drop_cons cj, List.merge]
    by_cases q : (a[i]).f0 ≤ (b[j]).f0
    ·
     have hq : leS a[i] b[j] = true := decide_eq_true q
     refine Ev.step (f := fun k => spec_SpansJoin.j3 k a b out (i : Int) (j : Int) true) (fun k => ?_) (left_ ci _ ?_)
     ·
      simp only [spec_SpansJoin.j2]
      rw [if_pos (by first | rfl | trivial), if_neg (by omega), if_pos (by omega), if_pos (by omega), if_pos (by omega), if_pos (by omega), sp_at ci, sp_at cj, decide_eq_true q]
     ·
      rw [if_pos hq, List.foldl_cons, ← drop_cons cj]
      exact ih (i + 1) j _ (by omega) hj (by omega) (addS_ok ho (oa _ (List.getElem_mem ci))).1 (by have := (addS_ok ho (oa _ (List.getElem_mem ci))).2; omega)
    ·
     have hq : ¬ leS a[i] b[j] = true := by unfold leS; rw [decide_eq_true_iff]; exact q
     refine Ev.step (f := fun k => spec_SpansJoin.j3 k a b out (i : Int) (j : Int) false) (fun k => ?_) (right_ cj _ ?_)
     ·
      simp only [spec_SpansJoin.j2]
      rw [if_pos (by first | rfl | trivial), if_neg (by omega), if_pos (by omega), if_pos (by omega), if_pos (by omega), if_pos (by omega), sp_at ci, sp_at cj, decide_eq_false q]
     ·
      rw [if_neg hq, List.foldl_cons, ← drop_cons ci]
      exact ih i (j + 1) _ hi (by omega) (by omega) (addS_ok ho (ob _ (List.getElem_mem cj))).1 (by have := (addS_ok ho (ob _ (List.getElem_mem cj))).2; omega)
   ·
    rw [List.drop_of_length_le (by omega : a.length ≤ i), drop_cons cj]
    have hm : List.merge ([] : List Sp) (b[j] :: b.drop (j + 1)) leS = b[j] :: b.drop (j + 1) := by simp
    refine Ev.step (f := fun k => spec_SpansJoin.j3 k a b out (i : Int) (j : Int) false) (fun k => ?_) (right_ cj _ ?_)
    ·
     simp only [spec_SpansJoin.j2]
     rw [if_pos (by first | rfl | trivial), if_neg (by omega), if_neg (by omega)]
    ·
     rw [hm, List.foldl_cons]
     have := ih i (j + 1) _ hi (by omega) (by omega) (addS_ok ho (ob _ (List.getElem_mem cj))).1 (by have := (addS_ok ho (ob _ (List.getElem_mem cj))).2; omega)
     rw [List.drop_of_length_le (by omega : a.length ≤ i)] at this
     have e : List.merge ([] : List Sp) (b.drop (j + 1)) leS = b.drop (j + 1) := by simp
     rw [e] at this
     exact this
  ·
   have ci : i < a.length := by omega
   rw [List.drop_of_length_le (by omega : b.length ≤ j), drop_cons ci]
   have hm : List.merge (a[i] :: a.drop (i + 1)) ([] : List Sp) leS = a[i] :: a.drop (i + 1) := by simp
   refine Ev.step (f := fun k => spec_SpansJoin.j3 k a b out (i : Int) (j : Int) true) (fun k => ?_) (left_ ci _ ?_)
   ·
    simp only [spec_SpansJoin.j2]
    rw [if_pos (by first | rfl | trivial), if_pos (by omega)]
   ·
    rw [hm, List.foldl_cons]
    have := ih (i + 1) j _ (by omega) hj (by omega) (addS_ok ho (oa _ (List.getElem_mem ci))).1 (by have := (addS_ok ho (oa _ (List.getElem_mem ci))).2; omega)
    rw [List.drop_of_length_le (by omega : b.length ≤ j)] at this
    have e : List.merge (a.drop (i + 1)) ([] : List Sp) leS = a.drop (i + 1) := by simp
    rw [e] at this
    exact this
def spJoin (a b : List Sp) : List Sp := if spRight a && spRight b then spShort ((List.merge a b leS).foldl addS []) else []
theorem okFrom_memJ {lo : Int} (h1 : 1 ≤ lo) (l : List Sp) (h : okFrom lo l = true) : ∀ y ∈ l, 1 ≤ y.f0 ∧ y.f0 ≤ y.f1 ∧ y.f1 ≤ 1000000 := by
 induction l generalizing lo with
 | nil => intro y hy; cases hy
 | cons x r ih =>
  rw [okFrom_step, Bool.and_eq_true, decide_eq_true_iff] at h
  intro y hy
  rcases List.mem_cons.1 hy with rfl | hy
  ·
   omega
  ·
   exact ih (by omega) h.2 y hy
theorem okFrom_sortedJ (l : List Sp) : ∀ lo, okFrom lo l = true → l.Pairwise (fun x y => x.f0 ≤ y.f0) ∧ ∀ y ∈ l, lo ≤ y.f0 := by
 induction l with
 | nil => intro lo _; exact ⟨List.Pairwise.nil, fun y hy => by cases hy⟩
 | cons x r ih =>
  intro lo h
  rw [okFrom_step, Bool.and_eq_true, decide_eq_true_iff] at h
  obtain ⟨h1, h2⟩ := ih _ h.2
  refine ⟨List.pairwise_cons.2 ⟨fun y hy => by have := h2 y hy; omega, h1⟩, fun y hy => ?_⟩
  rcases List.mem_cons.1 hy with rfl | hy
  ·
   omega
  ·
   have := h2 y hy; omega
theorem spRight_facts {l : List Sp} (h : spRight l = true) : l.length ≤ 400 ∧ (∀ y ∈ l, 1 ≤ y.f0 ∧ y.f0 ≤ y.f1 ∧ y.f1 ≤ 1000000) ∧ l.Pairwise (fun x y => x.f0 ≤ y.f0) := by
 unfold spRight at h
 rw [Bool.and_eq_true, decide_eq_true_iff] at h
 exact ⟨h.1, okFrom_memJ (by omega) l h.2, (okFrom_sortedJ l 1 h.2).1⟩
theorem spec_SpansJoin_ev (a b : List Sp) (ha : a.length ≤ 9223372036854775807) (hb : b.length ≤ 9223372036854775807) : Ev (fun k => spec_SpansJoin.f k a b) (spJoin a b) := by
 unfold spec_SpansJoin.f spJoin
 simp only [Option.bind_some]
 refine Ev.bind (spec_SR_ev a ha) ?_
 by_cases c : spRight a = true
 ·
  refine Ev.pos c (Ev.bind (spec_SR_ev b hb) ?_)
  by_cases q : spRight b = true
  ·
   rw [c, q]
   obtain ⟨a1, a2, _⟩ := spRight_facts c
   obtain ⟨b1, b2, _⟩ := spRight_facts q
   refine Ev.step (f := fun k => spec_SpansJoin.l0 k a b [] 0 0) (fun k => by simp only [spec_SpansJoin.j0]; rfl) ?_
   have := spec_SJ_l0 a b a1 b1 (fun x hx => by have := a2 x hx; omega) (fun x hx => by have := b2 x hx; omega) _ 0 0 [] (by omega) (by omega) rfl (fun y hy => by cases hy) (by simp)
   simpa using this
  ·
   have q' : spRight b = false := by simpa using q
   rw [c, q']
   exact Ev.one (fun k => by simp only [spec_SpansJoin.j0]; rfl)
 ·
  have c' : spRight a = false := by simpa using c
  refine Ev.neg c (Ev.to ?_ (Ev.one (fun k => by simp only [spec_SpansJoin.j0]; rfl)))
  rw [c']; rfl
theorem inSp_of {x : Sp} (h : 1 ≤ x.f0 ∧ x.f0 ≤ x.f1 ∧ x.f1 ≤ 1000000) : inSp x = true := by unfold inSp; rw [decide_eq_true_iff]; omega
theorem clSp_of {x : Sp} (h : inSp x = true) : clSp x = x := by unfold clSp; rw [if_pos h]
theorem impl_SpansJoin_ev (a b : List Sp) (ha : a.length ≤ 9223372036854775807) (hb : b.length ≤ 9223372036854775807) : Ev (fun k => impl_SpansJoin.f k a b) (spJoin a b) := by
 unfold impl_SpansJoin.f spJoin
 refine Ev.bind (impl_SR_ev a ha) ?_
 by_cases c : spRight a = true
 ·
  refine Ev.pos c (Ev.bind (impl_SR_ev b hb) ?_)
  by_cases q : spRight b = true
  ·
   rw [c, q]
   obtain ⟨a1, a2, a3⟩ := spRight_facts c
   obtain ⟨b1, b2, b3⟩ := spRight_facts q
   have hab : ∀ x ∈ a ++ b, 1 ≤ x.f0 ∧ x.f0 ≤ x.f1 ∧ x.f1 ≤ 1000000 := fun x hx => by
    rcases List.mem_append.1 hx with h | h
    ·
     exact a2 x h
    ·
     exact b2 x h
   obtain ⟨p1, p2⟩ := sortSp_ok (a ++ b)
   have hlen := sortSp_len (a ++ b)
   have hs : ∀ x ∈ sortSp (a ++ b), 1 ≤ x.f0 ∧ x.f0 ≤ x.f1 ∧ x.f1 ≤ 1000000 := fun x hx => hab x (p1.mem_iff.1 hx)
   have hso : (sortSp (a ++ b)).Pairwise (fun x y => x.f0 ≤ y.f0) := by
    refine List.Pairwise.imp_of_mem ?_ p2
    intro x y hx hy h
    unfold ltOf cfSp at h
    rw [decide_eq_false_iff_not, clSp_of (inSp_of (hs x hx)), clSp_of (inSp_of (hs y hy))] at h
    omega
   have hme : (List.merge a b leS).Pairwise (fun x y => x.f0 ≤ y.f0) := by
    have := List.pairwise_merge (le := leS) (by unfold leS; intro x y z h1 h2; rw [decide_eq_true_iff] at *; omega) (by unfold leS; intro x y; simp only [Bool.or_eq_true, decide_eq_true_iff]; omega) a b (a3.imp (fun h => decide_eq_true h)) (b3.imp (fun h => decide_eq_true h))
    exact this.imp (fun h => of_decide_eq_true h)
   have he := fold_perm (sortSp (a ++ b)) (List.merge a b leS) (p1.trans (List.merge_perm_append (le := leS)).symm) hso hme (fun x hx => (hs x hx).2.1) []
   refine Ev.step (f := fun k => impl_SpansJoin.l0 k [] (sortSp (a ++ b)) ((a ++ b).length : Int) 0) (fun k => ?_) ?_
   ·
    simp only [impl_SpansJoin.j0, impl_Span_45.f, impl_Span_46.f]
    rw [if_neg (by simp), if_pos (by omega)]
    simp only [Option.bind_some]
    rw [if_pos ⟨by simp; omega, List.all_eq_true.2 (fun x hx => inSp_of (hab x hx))⟩]
    rfl
   ·
    have := impl_SJ_l0 (sortSp (a ++ b)) (by rw [hlen]; simp; omega) (fun x hx => by have := hs x hx; omega) _ 0 [] (Nat.zero_add _) (fun y hy => by cases hy) (by simp)
    rw [hlen, List.drop_zero, he] at this
    simpa using this
  ·
   have q' : spRight b = false := by simpa using q
   rw [c, q']
   exact Ev.one (fun k => by simp only [impl_SpansJoin.j0]; rfl)
 ·
  have c' : spRight a = false := by simpa using c
  refine Ev.neg c (Ev.to ?_ (Ev.one (fun k => by simp only [impl_SpansJoin.j0]; rfl)))
  rw [c']; rfl
def lessIn (te : Int) : List Sp → List Sp → Int → List Sp × Int
 | [], out, fr => (out, fr)
 | y :: r, out, fr => if y.f1 < fr ∨ y.f0 > te then lessIn te r out fr else
   if y.f0 > fr then lessIn te r (out ++ [⟨fr, y.f0 - 1⟩]) (y.f1 + 1) else lessIn te r out (y.f1 + 1)
theorem lessIn_length (te : Int) (l : List Sp) : ∀ out fr, (lessIn te l out fr).1.length ≤ out.length + l.length := by
 induction l with
 | nil => intro out fr; simp [lessIn]
 | cons y r ih =>
  intro out fr
  simp only [lessIn, List.length_cons]
  split
  ·
   have := ih out fr; omega
  ·
   split
   ·
    have := ih (out ++ [⟨fr, y.f0 - 1⟩]) (y.f1 + 1); simp at this; omega
   ·
    have := ih out (y.f1 + 1); omega
def lessEnd (te : Int) (p : List Sp × Int) : List Sp := if p.2 ≤ te then p.1 ++ [⟨p.2, te⟩] else p.1
theorem lessIn_skip {te : Int} {y : Sp} {r out : List Sp} {fr : Int} (c : y.f1 < fr ∨ y.f0 > te) : lessIn te (y :: r) out fr = lessIn te r out fr := by rw [lessIn]; rw [if_pos c]
theorem lessIn_cut {te : Int} {y : Sp} {r out : List Sp} {fr : Int} (c : ¬ (y.f1 < fr ∨ y.f0 > te)) (d : y.f0 > fr) : lessIn te (y :: r) out fr = lessIn te r (out ++ [⟨fr, y.f0 - 1⟩]) (y.f1 + 1) := by rw [lessIn]; rw [if_neg c, if_pos d]
theorem lessIn_past {te : Int} {y : Sp} {r out : List Sp} {fr : Int} (c : ¬ (y.f1 < fr ∨ y.f0 > te)) (d : ¬ y.f0 > fr) : lessIn te (y :: r) out fr = lessIn te r out (y.f1 + 1) := by rw [lessIn]; rw [if_neg c, if_neg d]
def lessOne (b : List Sp) (out : List Sp) (x : Sp) : List Sp := lessEnd x.f1 (lessIn x.f1 b out x.f0)
theorem lessOne_length (b out : List Sp) (x : Sp) : (lessOne b out x).length ≤ out.length + b.length + 1 := by
 have := lessIn_length x.f1 b out x.f0
 unfold lessOne lessEnd; split <;> simp <;> omega
def lessAll (a b : List Sp) : List Sp := a.foldl (lessOne b) []
def spLess (a b : List Sp) : List Sp := if spRight a && spRight b then spShort (lessAll a b) else []
theorem impl_SL_l1 (a b : List Sp) (hb : ∀ y ∈ b, 1 ≤ y.f0 ∧ y.f0 ≤ y.f1 ∧ y.f1 ≤ 1000000) (hbl : b.length ≤ 400) (i : Nat) (n : Int) (te : Int) (res : List Sp) (d : Nat) : ∀ (j : Nat) (out : List Sp) (fr : Int), j + d = b.length → out.length + d ≤ 1000000 →
  Ev (fun k => impl_SpansLess.l0 k b (lessEnd te (lessIn te (b.drop j) out fr)) a n (wrap64 ((i : Int) + 1))) res →
  Ev (fun k => impl_SpansLess.l1 k b out a n (i : Int) b (b.length : Int) (j : Int) fr te) res := by
 induction d with
 | zero =>
  intro j out fr hj ho h
  rw [List.drop_of_length_le (by omega), lessIn, lessEnd] at h
  by_cases c : fr ≤ te
  ·
   rw [if_pos (show (out, fr).2 ≤ te from c)] at h
   refine Ev.step (f := fun k => impl_SpansLess.l0 k b (out ++ [⟨fr, te⟩]) a n (wrap64 ((i : Int) + 1))) (fun k => ?_) h
   simp only [impl_SpansLess.l1]
   rw [if_neg (by omega), if_pos c, if_pos (by omega)]
  ·
   rw [if_neg (show ¬ (out, fr).2 ≤ te from c)] at h
   refine Ev.step (f := fun k => impl_SpansLess.l0 k b out a n (wrap64 ((i : Int) + 1))) (fun k => ?_) h
   simp only [impl_SpansLess.l1]
   rw [if_neg (by omega), if_neg c]
 | succ d ih =>
  intro j out fr hj ho h
  have hlt : j < b.length := by omega
  have hy := hb b[j] (List.getElem_mem hlt)
  rw [drop_cons hlt] at h
  have hw : wrap64 ((j : Int) + 1) = ((j + 1 : Nat) : Int) := by unfold wrap64; omega
  generalize hyy : b[j] = y at h hy
  have hr : rd_T60 b (j : Int) = y := by rw [sp_at hlt, hyy]
  have e1 : wrap64 (y.f0 - 1) = y.f0 - 1 := w64 (by omega) (by omega)
  have e2 : wrap64 (y.f1 + 1) = y.f1 + 1 := w64 (by omega) (by omega)
  by_cases c : y.f1 < fr ∨ y.f0 > te
  ·
   rw [lessIn_skip c] at h
   have h2 := ih (j + 1) out fr (by omega) (by omega) h
   have last : Ev (fun k => impl_SpansLess.j3 k b out a n (i : Int) b (b.length : Int) (j : Int) true fr te y.f0 y.f1) res := by
    refine Ev.step (f := fun k => impl_SpansLess.l1 k b out a n (i : Int) b (b.length : Int) ((j + 1 : Nat) : Int) fr te) (fun k => ?_) h2
    simp only [impl_SpansLess.j3]
    rw [if_pos (by trivial), hw]
   by_cases c1 : y.f1 < fr
   ·
    refine Ev.step (f := fun k => impl_SpansLess.j3 k b out a n (i : Int) b (b.length : Int) (j : Int) true fr te y.f0 y.f1) (fun k => ?_) last
    simp only [impl_SpansLess.l1]
    rw [if_pos (by omega), if_pos (by omega), if_pos (by omega), hr, if_pos c1]
   ·
    refine Ev.step (f := fun k => impl_SpansLess.j3 k b out a n (i : Int) b (b.length : Int) (j : Int) true fr te y.f0 y.f1) (fun k => ?_) last
    simp only [impl_SpansLess.l1]
    rw [if_pos (by omega), if_pos (by omega), if_pos (by omega), hr, if_neg c1, decide_eq_true (show y.f0 > te by omega)]
  ·
   refine Ev.step (f := fun k => impl_SpansLess.j3 k b out a n (i : Int) b (b.length : Int) (j : Int) false fr te y.f0 y.f1) (fun k => ?_) ?_
   ·
    simp only [impl_SpansLess.l1]
    rw [if_pos (by omega), if_pos (by omega), if_pos (by omega), hr, if_neg (by omega), decide_eq_false (show ¬ y.f0 > te by omega)]
   ·
    by_cases c2 : y.f0 > fr
    ·
     rw [lessIn_cut c c2] at h
     refine Ev.step (f := fun k => impl_SpansLess.l1 k b (out ++ [⟨fr, y.f0 - 1⟩]) a n (i : Int) b (b.length : Int) ((j + 1 : Nat) : Int) (y.f1 + 1) te) (fun k => ?_) (ih (j + 1) _ _ (by omega) (by simp; omega) h)
     simp only [impl_SpansLess.j3]
     rw [if_neg (by simp), if_pos c2, if_pos (by omega), hw, e1, e2]
    ·
     rw [lessIn_past c c2] at h
     refine Ev.step (f := fun k => impl_SpansLess.l1 k b out a n (i : Int) b (b.length : Int) ((j + 1 : Nat) : Int) (y.f1 + 1) te) (fun k => ?_) (ih (j + 1) _ _ (by omega) (by omega) h)
     simp only [impl_SpansLess.j3]
     rw [if_neg (by simp), if_neg c2, hw, e2]
theorem impl_SL_l0 (a b : List Sp) (hb : ∀ y ∈ b, 1 ≤ y.f0 ∧ y.f0 ≤ y.f1 ∧ y.f1 ≤ 1000000) (hbl : b.length ≤ 400) (hal : a.length ≤ 400) (d : Nat) : ∀ (i : Nat) (out : List Sp), i + d = a.length → out.length + d * 401 ≤ 1000000 →
  Ev (fun k => impl_SpansLess.l0 k b out a (a.length : Int) (i : Int)) (spShort ((a.drop i).foldl (lessOne b) out)) := by
 induction d with
 | zero =>
  intro i out hi ho
  refine Ev.one (fun k => ?_)
  simp only [impl_SpansLess.l0]
  rw [if_neg (by omega), List.drop_of_length_le (by omega)]
  unfold impl_short.f
  rw [List.foldl_nil]; unfold spShort
  by_cases c : out.length > 400
  ·
   rw [if_pos (by omega : (out.length : Int) > 400), if_pos c]; rfl
  ·
   rw [if_neg (by omega : ¬ (out.length : Int) > 400), if_neg c]; rfl
 | succ d ih =>
  intro i out hi ho
  have hlt : i < a.length := by omega
  rw [drop_cons hlt, List.foldl_cons]
  have hw : wrap64 ((i : Int) + 1) = ((i + 1 : Nat) : Int) := by unfold wrap64; omega
  refine Ev.step (f := fun k => impl_SpansLess.l1 k b out a (a.length : Int) (i : Int) b (b.length : Int) ((0 : Nat) : Int) a[i].f0 a[i].f1) (fun k => ?_) ?_
  ·
   simp only [impl_SpansLess.l0]
   rw [if_pos (by omega), if_pos (by omega), if_pos (by omega), sp_at hlt]; rfl
  ·
   refine impl_SL_l1 a b hb hbl i _ _ _ b.length 0 out _ (by omega) (by omega) ?_
   rw [hw, List.drop_zero]
   have := lessOne_length b out a[i]
   exact ih (i + 1) (lessOne b out a[i]) (by omega) (by omega)
theorem impl_SpansLess_ev (a b : List Sp) (ha : a.length ≤ 9223372036854775807) (hb : b.length ≤ 9223372036854775807) : Ev (fun k => impl_SpansLess.f k a b) (spLess a b) := by
 unfold impl_SpansLess.f
 have no : Ev (fun k => impl_SpansLess.j0 k a b true) ([] : List Sp) := by
  refine Ev.one (fun k => ?_)
  simp only [impl_SpansLess.j0]
  rw [if_pos (by trivial)]
 refine Ev.bind (impl_SR_ev a ha) ?_
 by_cases c1 : spRight a = true
 ·
  refine Ev.pos c1 (Ev.bind (impl_SR_ev b hb) ?_)
  by_cases c2 : spRight b = true
  ·
   obtain ⟨l1, m1⟩ := spRight_mem c1
   obtain ⟨l2, m2⟩ := spRight_mem c2
   refine Ev.step (f := fun k => impl_SpansLess.l0 k b [] a (a.length : Int) ((0 : Nat) : Int)) (fun k => ?_) (Ev.to ?_ (impl_SL_l0 a b m2 l2 l1 a.length 0 [] (by omega) (by simp; omega)))
   ·
    simp only [impl_SpansLess.j0]
    rw [if_neg (by simp [c2])]; rfl
   ·
    unfold spLess lessAll; rw [c1, c2]; rfl
  ·
   rw [Bool.eq_false_iff.2 c2]
   refine Ev.to ?_ no
   unfold spLess; rw [Bool.eq_false_iff.2 c2, Bool.and_false]; rfl
 ·
  refine Ev.neg c1 (Ev.to ?_ no)
  unfold spLess; rw [Bool.eq_false_iff.2 c1, Bool.false_and]; rfl
theorem spec_SL_l1 (a b : List Sp) (hb : ∀ y ∈ b, 1 ≤ y.f0 ∧ y.f0 ≤ y.f1 ∧ y.f1 ≤ 1000000) (hbl : b.length ≤ 400) (hal : a.length ≤ 400) (i : Nat) (hi : i < a.length) (res : List Sp) (d : Nat) : ∀ (j : Nat) (out : List Sp) (fr : Int), j + d = b.length → out.length + d ≤ 1000000 →
  Ev (fun k => spec_SpansLess.l0 k a b (lessEnd a[i].f1 (lessIn a[i].f1 (b.drop j) out fr)) (wrap64 ((i : Int) + 1))) res →
  Ev (fun k => spec_SpansLess.l1 k a b out (i : Int) fr (j : Int)) res := by
 have hx : rd_T60 a (i : Int) = a[i] := sp_at hi
 generalize hto : a[i].f1 = te
 induction d with
 | zero =>
  intro j out fr hj ho h
  rw [List.drop_of_length_le (by omega), lessIn, lessEnd] at h
  by_cases c : fr ≤ te
  ·
   rw [if_pos (show (out, fr).2 ≤ te from c)] at h
   refine Ev.step (f := fun k => spec_SpansLess.l0 k a b (out ++ [⟨fr, te⟩]) (wrap64 ((i : Int) + 1))) (fun k => ?_) h
   simp only [spec_SpansLess.l1]
   rw [if_neg (by omega), if_pos (by omega), if_pos (by omega), hx, hto, if_pos c, if_pos (by omega)]
  ·
   rw [if_neg (show ¬ (out, fr).2 ≤ te from c)] at h
   refine Ev.step (f := fun k => spec_SpansLess.l0 k a b out (wrap64 ((i : Int) + 1))) (fun k => ?_) h
   simp only [spec_SpansLess.l1]
   rw [if_neg (by omega), if_pos (by omega), if_pos (by omega), hx, hto, if_neg c]
 | succ d ih =>
  intro j out fr hj ho h
  have hlt : j < b.length := by omega
  have hy := hb b[j] (List.getElem_mem hlt)
  rw [drop_cons hlt] at h
  have hw : wrap64 ((j : Int) + 1) = ((j + 1 : Nat) : Int) := by unfold wrap64; omega
  generalize hyy : b[j] = y at h hy
  have hr : rd_T60 b (j : Int) = y := by rw [sp_at hlt, hyy]
  have e1 : wrap64 (y.f0 - 1) = y.f0 - 1 := w64 (by omega) (by omega)
  have e2 : wrap64 (y.f1 + 1) = y.f1 + 1 := w64 (by omega) (by omega)
  by_cases c : y.f1 < fr ∨ y.f0 > te
  ·
   rw [lessIn_skip c] at h
   have h2 := ih (j + 1) out fr (by omega) (by omega) h
   have last : Ev (fun k => spec_SpansLess.j3 k a b out (i : Int) fr (j : Int) true) res := by
    refine Ev.step (f := fun k => spec_SpansLess.l1 k a b out (i : Int) fr ((j + 1 : Nat) : Int)) (fun k => ?_) h2
    simp only [spec_SpansLess.j3]
    rw [if_pos (by trivial), hw]
   by_cases c1 : y.f1 < fr
   ·
    refine Ev.step (f := fun k => spec_SpansLess.j3 k a b out (i : Int) fr (j : Int) true) (fun k => ?_) last
    simp only [spec_SpansLess.l1]
    rw [if_pos (by omega), if_pos (by omega), hr, if_pos c1]
   ·
    refine Ev.step (f := fun k => spec_SpansLess.j3 k a b out (i : Int) fr (j : Int) true) (fun k => ?_) last
    simp only [spec_SpansLess.l1]
    rw [if_pos (by omega), if_pos (by omega), hr, if_neg c1, if_pos (by omega), if_pos (by omega), hx, hto, decide_eq_true (show y.f0 > te by omega)]
  ·
   refine Ev.step (f := fun k => spec_SpansLess.j3 k a b out (i : Int) fr (j : Int) false) (fun k => ?_) ?_
   ·
    simp only [spec_SpansLess.l1]
    rw [if_pos (by omega), if_pos (by omega), hr, if_neg (by omega), if_pos (by omega), if_pos (by omega), hx, hto, decide_eq_false (show ¬ y.f0 > te by omega)]
   ·
    by_cases c2 : y.f0 > fr
    ·
     rw [lessIn_cut c c2] at h
     refine Ev.step (f := fun k => spec_SpansLess.l1 k a b (out ++ [⟨fr, y.f0 - 1⟩]) (i : Int) (y.f1 + 1) ((j + 1 : Nat) : Int)) (fun k => ?_) (ih (j + 1) _ _ (by omega) (by simp; omega) h)
     simp only [spec_SpansLess.j3]
     rw [if_neg (by simp), if_pos (by omega), if_pos (by omega), hr, if_pos c2, if_pos (by omega), hw, e1, e2]
    ·
     rw [lessIn_past c c2] at h
     refine Ev.step (f := fun k => spec_SpansLess.l1 k a b out (i : Int) (y.f1 + 1) ((j + 1 : Nat) : Int)) (fun k => ?_) (ih (j + 1) _ _ (by omega) (by omega) h)
     simp only [spec_SpansLess.j3]
     rw [if_neg (by simp), if_pos (by omega), if_pos (by omega), hr, if_neg c2, hw, e2]
theorem spec_SL_l0 (a b : List Sp) (hb : ∀ y ∈ b, 1 ≤ y.f0 ∧ y.f0 ≤ y.f1 ∧ y.f1 ≤ 1000000) (hbl : b.length ≤ 400) (hal : a.length ≤ 400) (d : Nat) : ∀ (i : Nat) (out : List Sp), i + d = a.length → out.length + d * 401 ≤ 1000000 →
  Ev (fun k => spec_SpansLess.l0 k a b out (i : Int)) (spShort ((a.drop i).foldl (lessOne b) out)) := by
 induction d with
 | zero =>
  intro i out hi ho
  refine Ev.one (fun k => ?_)
  simp only [spec_SpansLess.l0]
  rw [if_neg (by omega), List.drop_of_length_le (by omega)]
  rw [List.foldl_nil]; unfold spShort
  by_cases c : out.length > 400
  ·
   rw [if_pos (by omega), if_pos c]
  ·
   rw [if_neg (by omega), if_neg c]
 | succ d ih =>
  intro i out hi ho
  have hlt : i < a.length := by omega
  rw [drop_cons hlt, List.foldl_cons]
  have hw : wrap64 ((i : Int) + 1) = ((i + 1 : Nat) : Int) := by unfold wrap64; omega
  refine Ev.step (f := fun k => spec_SpansLess.l1 k a b out (i : Int) a[i].f0 ((0 : Nat) : Int)) (fun k => ?_) ?_
  ·
   simp only [spec_SpansLess.l0]
   rw [if_pos (by omega), if_pos (by omega), sp_at hlt]; rfl
  ·
   refine spec_SL_l1 a b hb hbl hal i hlt _ b.length 0 out _ (by omega) (by omega) ?_
   rw [hw, List.drop_zero]
   have := lessOne_length b out a[i]
   exact ih (i + 1) (lessOne b out a[i]) (by omega) (by omega)
theorem spec_SpansLess_ev (a b : List Sp) (ha : a.length ≤ 9223372036854775807) (hb : b.length ≤ 9223372036854775807) : Ev (fun k => spec_SpansLess.f k a b) (spLess a b) := by
 unfold spec_SpansLess.f
 have no : Ev (fun k => spec_SpansLess.j0 k a b [] true) ([] : List Sp) := by
  refine Ev.one (fun k => ?_)
  simp only [spec_SpansLess.j0]
  rw [if_pos (by trivial)]
 refine Ev.take (a := ([] : List Sp)) rfl (Ev.bind (spec_SR_ev a ha) ?_)
 by_cases c1 : spRight a = true
 ·
  refine Ev.pos c1 (Ev.bind (spec_SR_ev b hb) ?_)
  by_cases c2 : spRight b = true
  ·
   obtain ⟨l1, m1⟩ := spRight_mem c1
   obtain ⟨l2, m2⟩ := spRight_mem c2
   refine Ev.step (f := fun k => spec_SpansLess.l0 k a b [] ((0 : Nat) : Int)) (fun k => ?_) (Ev.to ?_ (spec_SL_l0 a b m2 l2 l1 a.length 0 [] (by omega) (by simp; omega)))
   ·
    simp only [spec_SpansLess.j0]
    rw [if_neg (by simp [c2])]; rfl
   ·
    unfold spLess lessAll; rw [c1, c2]; rfl
  ·
   rw [Bool.eq_false_iff.2 c2]
   refine Ev.to ?_ no
   unfold spLess; rw [Bool.eq_false_iff.2 c2, Bool.and_false]; rfl
 ·
  refine Ev.neg c1 (Ev.to ?_ no)
  unfold spLess; rw [Bool.eq_false_iff.2 c1, Bool.false_and]; rfl
theorem source_l0 (l : List Int) (d : Nat) : ∀ (i : Nat) (mix : Int), i + d = 64 → ∃ mix' sz, Ev (fun k => spec_l01Source.l0 k l (i : Int) l 0 mix 0) (l, 0, mix', sz) := by
 have fin : ∀ mix : Int, ∃ sz, ∀ g : Nat → Option (List Int × Int × Int × Int), (∀ k, g (k + 1) = if (wrap64 ((l.length : Int) / 20)) > 12 then (some (l, 0, mix, 12)) else (some (l, 0, mix, wrap64 ((l.length : Int) / 20)))) → Ev g (l, 0, mix, sz) := by
  intro mix
  by_cases c : (wrap64 ((l.length : Int) / 20)) > 12
  ·
   exact ⟨12, fun g h => Ev.one fun k => by rw [h, if_pos c]⟩
  ·
   exact ⟨_, fun g h => Ev.one fun k => by rw [h, if_neg c]⟩
 induction d with
 | zero =>
  intro i mix hi
  obtain ⟨sz, h⟩ := fin mix
  refine ⟨mix, sz, h _ fun k => ?_⟩
  simp only [spec_l01Source.l0]
  by_cases c : (i : Int) < (l.length : Int)
  ·
   rw [if_pos c, if_neg (by omega)]
  ·
   rw [if_neg c]
 | succ d ih =>
  intro i mix hi
  by_cases c : (i : Int) < (l.length : Int)
  ·
   obtain ⟨m2, sz, h⟩ := ih (i + 1) (IntKind.u64.wrap ((Go.bits .xor .u64 mix (IntKind.u64.wrap (rd l (i : Int)))) * 1099511628211)) (by omega)
   refine ⟨m2, sz, Ev.step (fun k => ?_) h⟩
   simp only [spec_l01Source.l0]
   rw [if_pos c, if_pos (by omega), if_pos (by omega), show wrap64 ((i : Int) + 1) = ((i + 1 : Nat) : Int) from by unfold wrap64; omega]
  ·
   obtain ⟨sz, h⟩ := fin mix
   refine ⟨mix, sz, h _ fun k => ?_⟩
   simp only [spec_l01Source.l0]
   rw [if_neg c]
theorem source_ev (l : List Int) : ∃ mix sz, Ev (fun k => spec_l01Source.f k l) (l, 0, mix, sz) := by
 unfold spec_l01Source.f
 exact source_l0 l 64 0 _ rfl
theorem n_some (l : List Int) (a mix sz m : Int) (hl : l.length ≤ 9223372036854775806) (h0 : 0 ≤ a) (h1 : a ≤ l.length) (hm2 : m ≤ 9223372036854775807) :
  ∃ v a' mix', spec_l01Src_n.f l a mix sz m = some (v, a', mix', sz) ∧ 0 ≤ v ∧ (v = 0 ∨ v < m) ∧ 0 ≤ a' ∧ a' ≤ l.length := by
 unfold spec_l01Src_n.f
 by_cases hm : m ≤ 1
 ·
  rw [if_pos hm]; exact ⟨0, a, mix, rfl, by omega, Or.inl rfl, h0, h1⟩
 rw [if_neg hm]
 have hm3 : IntKind.u64.wrap m = m := by rw [IntKind.wrap_u64]; omega
 have key : ∀ x : Int, 0 ≤ wrap64 (Int.tmod (IntKind.u64.wrap x) (IntKind.u64.wrap m)) ∧ wrap64 (Int.tmod (IntKind.u64.wrap x) (IntKind.u64.wrap m)) < m := by
  intro x
  rw [hm3]
  have h : 0 ≤ IntKind.u64.wrap x := by rw [IntKind.wrap_u64]; omega
  rw [Int.tmod_eq_emod_of_nonneg h]
  have h2 := Int.emod_nonneg (IntKind.u64.wrap x) (show m ≠ 0 by omega)
  have h3 := Int.emod_lt_of_pos (IntKind.u64.wrap x) (show 0 < m by omega)
  generalize IntKind.u64.wrap x % m = y at h2 h3
  unfold wrap64; omega
 by_cases c : a < (l.length : Int)
 ·
  rw [if_pos c, if_pos h0, if_neg (by rw [hm3]; omega)]
  exact ⟨_, _, _, rfl, (key _).1, Or.inr (key _).2, by unfold wrap64; omega, by unfold wrap64; omega⟩
 ·
  rw [if_neg c, if_neg (by rw [hm3]; omega)]
  exact ⟨_, _, _, rfl, (key _).1, Or.inr (key _).2, h0, h1⟩
theorem one_some (l : List Int) (a mix sz m : Int) (hl : l.length ≤ 9223372036854775806) (h0 : 0 ≤ a) (h1 : a ≤ l.length) (hm2 : m ≤ 9223372036854775807) :
  ∃ (b : Bool) (a' mix' : Int), spec_l01Src_one.f l a mix sz m = some (b, a', mix', sz) ∧ 0 ≤ a' ∧ a' ≤ l.length := by
 obtain ⟨v, a', mix', h, _, _, h3, h4⟩ := n_some l a mix sz m hl h0 h1 hm2
 unfold spec_l01Src_one.f
 rw [h]
 exact ⟨_, _, _, rfl, h3, h4⟩
theorem between_some (l : List Int) (a mix sz lo hi : Int) (hl : l.length ≤ 9223372036854775806) (h0 : 0 ≤ a) (h1 : a ≤ l.length) :
  ∃ v a' mix', spec_l01Src_between.f l a mix sz lo hi = some (v, a', mix', sz) ∧ 0 ≤ a' ∧ a' ≤ l.length := by
 obtain ⟨v, a', mix', h, _, _, h3, h4⟩ := n_some l a mix sz (wrap64 ((wrap64 (hi - lo)) + 1)) hl h0 h1 (by unfold wrap64; omega)
 unfold spec_l01Src_between.f
 rw [h]
 exact ⟨_, _, _, rfl, h3, h4⟩
theorem list_l0 (l : List Int) (sz lo hi : Int) (hl : l.length ≤ 9223372036854775806) (n : Nat) : ∀ (acc : List Int) (a mix : Int), acc.length + n ≤ 1000000 → 0 ≤ a → a ≤ l.length →
  ∃ r a' mix', Ev (fun k => spec_l01Src_list.l0 k (n : Int) lo hi acc l a mix sz) (r, a', mix', sz) ∧ r.length = acc.length + n ∧ 0 ≤ a' ∧ a' ≤ l.length := by
 induction n with
 | zero =>
  intro acc a mix _ h0 h1
  refine ⟨acc, a, mix, Ev.one fun k => ?_, rfl, h0, h1⟩
  simp only [spec_l01Src_list.l0]
  rw [if_neg (by omega)]
 | succ n ih =>
  intro acc a mix hn h0 h1
  obtain ⟨v, a1, m1, g, g3, g4⟩ := between_some l a mix sz lo hi hl h0 h1
  obtain ⟨r, a2, m2, h, hr, h3, h4⟩ := ih (acc ++ [v]) a1 m1 (by rw [List.length_append, List.length_singleton]; omega) g3 g4
  refine ⟨r, a2, m2, Ev.step (fun k => ?_) h, by rw [hr, List.length_append, List.length_singleton]; omega, h3, h4⟩
  simp only [spec_l01Src_list.l0]
  rw [if_pos (by omega), g]
  simp only [Option.bind_some]
  rw [if_pos (by omega), show wrap64 (((n + 1 : Nat) : Int) - 1) = (n : Int) from by unfold wrap64; omega]
theorem list_ev (l : List Int) (a mix sz m lo hi : Int) (hl : l.length ≤ 9223372036854775806) (h0 : 0 ≤ a) (h1 : a ≤ l.length) (hm0 : 0 ≤ m) (hm : m ≤ 1000000) :
  ∃ r a' mix', Ev (fun k => spec_l01Src_list.f k l a mix sz m lo hi) (r, a', mix', sz) ∧ r.length = m.toNat ∧ 0 ≤ a' ∧ a' ≤ l.length := by
 obtain ⟨n, rfl⟩ : ∃ n : Nat, m = (n : Int) := ⟨m.toNat, by omega⟩
 obtain ⟨r, a', m', h, hr, h3, h4⟩ := list_l0 l sz lo hi hl n [] a mix (by simp only [List.length_nil]; omega) h0 h1
 refine ⟨r, a', m', ?_, by rw [hr]; simp, h3, h4⟩
 unfold spec_l01Src_list.f
 exact h
theorem DrawSpansOf_ev (l : List Int) (hl : l.length ≤ 9223372036854775806) : ∃ r, Ev (fun k => spec_DrawSpansOf.f k l) r ∧ r.length ≤ 13 := by
 obtain ⟨mix, sz, h⟩ := source_ev l
 obtain ⟨v, a1, m1, g, gv0, gv, g3, g4⟩ := n_some l 0 mix sz 12 hl (by omega) (by omega) (by omega)
 obtain ⟨r, a2, m2, e, er, e3, e4⟩ := list_ev l a1 m1 sz v 1 15 hl g3 g4 gv0 (by omega)
 obtain ⟨b, a3, m3, k1, k2, k3⟩ := one_some l a2 m2 sz 12 hl e3 e4 (by omega)
 unfold spec_DrawSpansOf.f
 cases b
 ·
  exact ⟨r, Ev.bind h (Ev.take g (Ev.bind e (Ev.take k1 (Ev.neg (by simp) (Ev.now _))))), by omega⟩
 ·
  obtain ⟨v2, a4, m4, q, qv0, qv, q3, q4⟩ := n_some l a3 m3 sz 3 hl k2 k3 (by omega)
  exact ⟨r ++ [rd [0, 1000000, 1000001] v2], Ev.bind h (Ev.take g (Ev.bind e (Ev.take k1 (Ev.pos rfl (Ev.take rfl (Ev.take q (Ev.pos qv0 (Ev.pos (by show v2 < 3; omega) (Ev.pos (by show r.length < _; omega) (Ev.now _)))))))))), by rw [List.length_append, List.length_singleton]; omega⟩
theorem l15_j3 (l : List Int) (x : List Sp) (b : Bool) (a mix sz : Int) (hl : l.length ≤ 9223372036854775806) (h0 : 0 ≤ a) (h1 : a ≤ l.length) (hx : x.length ≤ 5) (hb : b = true → 0 < x.length) :
  ∃ r a' mix', Ev (fun k => spec_l01Src_l15Spans.j3 k x b l a mix sz) (r, a', mix', sz) ∧ r.length ≤ 6 ∧ 0 ≤ a' ∧ a' ≤ l.length := by
 cases b
 ·
  refine ⟨x, a, mix, Ev.one fun k => ?_, by omega, h0, h1⟩
  simp only [spec_l01Src_l15Spans.j3]
  rw [if_neg (by simp)]
 ·
  have hp := hb rfl
  obtain ⟨v, a1, m1, g, gv0, gv, g3, g4⟩ := n_some l a mix sz 3 hl h0 h1 (by omega)
  by_cases c0 : v = 0
  ·
   refine ⟨x ++ [(⟨(rd_T60 x 0).f0, (rd_T60 x 0).f1⟩ : Sp)], a1, m1, Ev.one fun k => ?_, ?_, g3, g4⟩
   ·
    simp only [spec_l01Src_l15Spans.j3]
    rw [if_pos (by first | rfl | trivial), g]
    simp only [Option.bind_some]
    rw [if_pos c0, if_pos (by omega), if_pos (by omega)]
   ·
    rw [List.length_append, List.length_singleton]; omega
  ·
   by_cases c1 : v = 1
   ·
    refine ⟨x.set (0 : Int).toNat (⟨(rd_T60 x 0).f0, wrap64 (((rd_T60 x 0).f0) - 1)⟩ : Sp), a1, m1, Ev.one fun k => ?_, ?_, g3, g4⟩
    ·
     simp only [spec_l01Src_l15Spans.j3]
     rw [if_pos (by first | rfl | trivial), g]
     simp only [Option.bind_some]
     rw [if_neg c0, if_pos c1, if_pos (by omega)]
    ·
     rw [List.length_set]; omega
   ·
    obtain ⟨v2, a2, m2, q, qv0, qv, q3, q4⟩ := n_some l a1 m1 sz 2 hl g3 g4 (by omega)
    have hw : wrap64 ((x.length : Int) - 1) = ((x.length - 1 : Nat) : Int) := by rw [w64 (by omega) (by omega)]; omega
    refine ⟨x.set (((x.length - 1 : Nat) : Int)).toNat (⟨(rd_T60 x ((x.length - 1 : Nat) : Int)).f0, rd [1000000, 1000001] v2⟩ : Sp), a2, m2, Ev.one fun k => ?_, ?_, q3, q4⟩
    ·
     simp only [spec_l01Src_l15Spans.j3]
     rw [if_pos (by first | rfl | trivial), g]
     simp only [Option.bind_some]
     rw [if_neg c0, if_neg c1, q]
     simp only [Option.bind_some]
     rw [if_pos qv0, if_pos (by show v2 < 2; omega), hw, if_pos (by omega), if_pos (by omega)]
    ·
     rw [List.length_set]; omega
theorem l15_j2 (l : List Int) (x : List Sp) (a mix sz : Int) (hl : l.length ≤ 9223372036854775806) (h0 : 0 ≤ a) (h1 : a ≤ l.length) (hx : x.length ≤ 5) :
  ∃ r a' mix', Ev (fun k => spec_l01Src_l15Spans.j2 k x l a mix sz) (r, a', mix', sz) ∧ r.length ≤ 6 ∧ 0 ≤ a' ∧ a' ≤ l.length := by
 obtain ⟨b, a1, m1, g, g3, g4⟩ := one_some l a mix sz 12 hl h0 h1 (by omega)
 have step : ∀ R, Ev (fun k => if b = true then (spec_l01Src_l15Spans.j3 k x (decide ((x.length : Int) > 0)) l a1 m1 sz) else (spec_l01Src_l15Spans.j3 k x false l a1 m1 sz)) R → Ev (fun k => spec_l01Src_l15Spans.j2 k x l a mix sz) R := by
  intro R h
  refine Ev.step (fun k => ?_) h
  simp only [spec_l01Src_l15Spans.j2]
  rw [g]; rfl
 cases b
 ·
  obtain ⟨r, a2, m2, e, hr⟩ := l15_j3 l x false a1 m1 sz hl g3 g4 hx (fun h => by cases h)
  exact ⟨r, a2, m2, step _ (Ev.neg (by simp) e), hr⟩
 ·
  obtain ⟨r, a2, m2, e, hr⟩ := l15_j3 l x (decide ((x.length : Int) > 0)) a1 m1 sz hl g3 g4 hx (fun h => by rw [decide_eq_true_iff] at h; omega)
  exact ⟨r, a2, m2, step _ (Ev.pos rfl e), hr⟩
theorem l15_j1 (l : List Int) (x : List Sp) (b : Bool) (a mix sz : Int) (hl : l.length ≤ 9223372036854775806) (h0 : 0 ≤ a) (h1 : a ≤ l.length) (hx : x.length ≤ 5) (hb : b = true → 0 < x.length) :
  ∃ r a' mix', Ev (fun k => spec_l01Src_l15Spans.j1 k x b l a mix sz) (r, a', mix', sz) ∧ r.length ≤ 6 ∧ 0 ≤ a' ∧ a' ≤ l.length := by
 cases b
 ·
  obtain ⟨r, a2, m2, e, hr⟩ := l15_j2 l x a mix sz hl h0 h1 hx
  refine ⟨r, a2, m2, Ev.step (fun k => ?_) e, hr⟩
  simp only [spec_l01Src_l15Spans.j1]
  rw [if_neg (by simp)]
 ·
  have hp := hb rfl
  obtain ⟨r, a2, m2, e, hr⟩ := l15_j2 l (x.set (0 : Int).toNat (⟨1, (rd_T60 x 0).f1⟩ : Sp)) a mix sz hl h0 h1 (by rw [List.length_set]; exact hx)
  refine ⟨r, a2, m2, Ev.step (fun k => ?_) e, hr⟩
  simp only [spec_l01Src_l15Spans.j1]
  rw [if_pos (by first | rfl | trivial), if_pos (by omega)]
theorem l15_l0 (l : List Int) (sz : Int) (hl : l.length ≤ 9223372036854775806) (n : Nat) : ∀ (x : List Sp) (y a mix : Int), x.length + n ≤ 5 → 0 ≤ a → a ≤ l.length →
  ∃ r a' mix', Ev (fun k => spec_l01Src_l15Spans.l0 k x y (n : Int) l a mix sz) (r, a', mix', sz) ∧ r.length ≤ 6 ∧ 0 ≤ a' ∧ a' ≤ l.length := by
 induction n with
 | zero =>
  intro x y a mix hx h0 h1
  by_cases c : (x.length : Int) > 0
  ·
   obtain ⟨b, a1, m1, g, g3, g4⟩ := one_some l a mix sz 3 hl h0 h1 (by omega)
   obtain ⟨r, a2, m2, e, hr⟩ := l15_j1 l x b a1 m1 sz hl g3 g4 (by omega) (fun _ => by omega)
   refine ⟨r, a2, m2, Ev.step (fun k => ?_) e, hr⟩
   simp only [spec_l01Src_l15Spans.l0]
   rw [if_neg (by omega), if_pos c, g]; rfl
  ·
   obtain ⟨r, a2, m2, e, hr⟩ := l15_j1 l x false a mix sz hl h0 h1 (by omega) (fun h => by cases h)
   refine ⟨r, a2, m2, Ev.step (fun k => ?_) e, hr⟩
   simp only [spec_l01Src_l15Spans.l0]
   rw [if_neg (by omega), if_neg c]
 | succ n ih =>
  intro x y a mix hx h0 h1
  obtain ⟨v, a1, m1, g, _, _, g3, g4⟩ := n_some l a mix sz 4 hl h0 h1 (by omega)
  obtain ⟨v2, a2, m2, q, _, _, q3, q4⟩ := n_some l a1 m1 sz 4 hl g3 g4 (by omega)
  obtain ⟨r, a3, m3, e, hr⟩ := ih (x ++ [(⟨wrap64 ((wrap64 (y + 2)) + v), wrap64 ((wrap64 ((wrap64 (y + 2)) + v)) + v2)⟩ : Sp)]) (wrap64 ((wrap64 ((wrap64 (y + 2)) + v)) + v2)) a2 m2 (by rw [List.length_append, List.length_singleton]; omega) q3 q4
  refine ⟨r, a3, m3, Ev.step (fun k => ?_) e, hr⟩
  simp only [spec_l01Src_l15Spans.l0]
  rw [if_pos (by omega), g]
  simp only [Option.bind_some]
  rw [q]
  simp only [Option.bind_some]
  rw [if_pos (by omega), show wrap64 (((n + 1 : Nat) : Int) - 1) = (n : Int) from by unfold wrap64; omega]
theorem l15_ev (l : List Int) (a mix sz : Int) (hl : l.length ≤ 9223372036854775806) (h0 : 0 ≤ a) (h1 : a ≤ l.length) :
  ∃ r a' mix', Ev (fun k => spec_l01Src_l15Spans.f k l a mix sz) (r, a', mix', sz) ∧ r.length ≤ 6 ∧ 0 ≤ a' ∧ a' ≤ l.length := by
 obtain ⟨v, a1, m1, g, gv0, gv, g3, g4⟩ := n_some l a mix sz 5 hl h0 h1 (by omega)
 obtain ⟨n, rfl⟩ : ∃ n : Nat, v = (n : Int) := ⟨v.toNat, by omega⟩
 obtain ⟨r, a2, m2, e, hr⟩ := l15_l0 l sz hl n [] 0 a1 m1 (by simp only [List.length_nil]; omega) g3 g4
 unfold spec_l01Src_l15Spans.f
 exact ⟨r, a2, m2, Ev.take g e, hr⟩
theorem DrawSpansBytes_ev (l : List Int) (hl : l.length ≤ 9223372036854775806) : ∃ r, Ev (fun k => spec_DrawSpansBytes.f k l) r ∧ r.length ≤ 6 := by
 obtain ⟨mix, sz, h⟩ := source_ev l
 obtain ⟨r, a1, m1, e, hr, _⟩ := l15_ev l 0 mix sz hl (by omega) (by omega)
 unfold spec_DrawSpansBytes.f
 exact ⟨r, Ev.bind h (Ev.bind e (Ev.now _)), hr⟩
theorem DrawSpansJoin_ev (l : List Int) (hl : l.length ≤ 9223372036854775806) : ∃ r s, Ev (fun k => spec_DrawSpansJoin.f k l) (r, s) ∧ r.length ≤ 6 ∧ s.length ≤ 6 := by
 obtain ⟨mix, sz, h⟩ := source_ev l
 obtain ⟨r, a1, m1, e, hr, e3, e4⟩ := l15_ev l 0 mix sz hl (by omega) (by omega)
 obtain ⟨s, a2, m2, q, hs, _⟩ := l15_ev l a1 m1 sz hl e3 e4
 unfold spec_DrawSpansJoin.f
 exact ⟨r, s, Ev.bind h (Ev.bind e (Ev.bind q (Ev.now _))), hr, hs⟩
theorem DrawInSpans_ev (l : List Int) (hl : l.length ≤ 9223372036854775806) : ∃ r n, Ev (fun k => spec_DrawInSpans.f k l) (r, n) ∧ r.length ≤ 6 := by
 obtain ⟨mix, sz, h⟩ := source_ev l
 obtain ⟨r, a1, m1, e, hr, e3, e4⟩ := l15_ev l 0 mix sz hl (by omega) (by omega)
 obtain ⟨v, a2, m2, q, _⟩ := n_some l a1 m1 sz 25 hl e3 e4 (by omega)
 unfold spec_DrawInSpans.f
 exact ⟨r, v, Ev.bind h (Ev.bind e (Ev.take q (Ev.now _))), hr⟩
theorem lwSpans_l0 (l : List Sp) (hl : l.length ≤ 9223372036854775806) (d : Nat) : ∀ i : Nat, i + d = l.length → Ev (fun k => laws_lwSpans.l0 k l l (i : Int)) true := by
 induction d with
 | zero =>
  intro i hi
  refine Ev.one fun k => ?_
  simp only [laws_lwSpans.l0]
  rw [if_neg (by omega)]
 | succ d ih =>
  intro i hi
  refine Ev.step (fun k => ?_) (ih (i + 1) (by omega))
  simp only [laws_lwSpans.l0]
  rw [if_pos (by omega), if_pos (by omega), if_pos (by omega), if_neg (by simp), show wrap64 ((i : Int) + 1) = ((i + 1 : Nat) : Int) from by unfold wrap64; omega]
theorem lwSpans_ev (l : List Sp) (hl : l.length ≤ 9223372036854775806) : Ev (fun k => laws_lwSpans.f k l l) true := by
 unfold laws_lwSpans.f
 exact Ev.pos rfl (lwSpans_l0 l hl l.length 0 (by omega))
def nxt : Int → List Sp → Int
 | lo, [] => lo
 | _, x :: r => nxt (x.f1 + 2) r
theorem nxt_snoc (z : Sp) : ∀ (o : List Sp) (lo : Int), nxt lo (o ++ [z]) = z.f1 + 2
 | [], _ => rfl
 | x :: r, lo => nxt_snoc z r (x.f1 + 2)
theorem okFrom_snoc (z : Sp) : ∀ (o : List Sp) (lo : Int), okFrom lo (o ++ [z]) = (okFrom lo o && decide (nxt lo o ≤ z.f0 ∧ z.f0 ≤ z.f1 ∧ z.f1 ≤ 1000000))
 | [], lo => by show (decide _ && true) = (true && decide _); rw [Bool.and_true, Bool.true_and]; rfl
 | x :: r, lo => by
  show (decide _ && okFrom (x.f1 + 2) (r ++ [z])) = ((decide _ && okFrom (x.f1 + 2) r) && decide _)
  rw [okFrom_snoc z r (x.f1 + 2), Bool.and_assoc]; rfl
theorem okFrom_push {z : Sp} {o : List Sp} {lo : Int} (h : okFrom lo o = true) (h1 : nxt lo o ≤ z.f0) (h2 : z.f0 ≤ z.f1) (h3 : z.f1 ≤ 1000000) : okFrom lo (o ++ [z]) = true := by
 rw [okFrom_snoc, h, decide_eq_true ⟨h1, h2, h3⟩]; rfl
theorem okFrom_pop {z : Sp} {o : List Sp} {lo : Int} (h : okFrom lo (o ++ [z]) = true) : okFrom lo o = true ∧ nxt lo o ≤ z.f0 ∧ z.f0 ≤ z.f1 ∧ z.f1 ≤ 1000000 := by
 rw [okFrom_snoc, Bool.and_eq_true, decide_eq_true_iff] at h
 exact h
theorem spIn_append (l m : List Sp) (a : Int) : spIn (l ++ m) a = (spIn l a || spIn m a) := by unfold spIn; rw [List.any_append]
theorem spIn_one (x : Sp) (a : Int) : spIn [x] a = decide (x.f0 ≤ a ∧ a ≤ x.f1) := by unfold spIn; simp
theorem spIn_cons (x : Sp) (r : List Sp) (a : Int) : spIn (x :: r) a = (decide (x.f0 ≤ a ∧ a ≤ x.f1) || spIn r a) := rfl
theorem spIn_nil (a : Int) : spIn [] a = false := rfl
theorem b_eq {p q : Bool} (h : p = true ↔ q = true) : p = q := by cases p <;> cases q <;> simp_all
theorem spIn_low {a : Int} : ∀ (l : List Sp) (lo : Int), okFrom lo l = true → a < lo → spIn l a = false
 | [], _, _, _ => rfl
 | x :: r, lo, h, ha => by
  rw [okFrom_step, Bool.and_eq_true, decide_eq_true_iff] at h
  rw [spIn_cons, decide_eq_false (by omega), spIn_low r (x.f1 + 2) h.2 (by omega)]; rfl
theorem stepR_snoc (o : List Sp) (z : Sp) (id : Int) : stepR (o ++ [z]) id = if z.f1 + 1 = id then o ++ [⟨z.f0, id⟩] else o ++ [z] ++ [⟨id, id⟩] := by
 unfold stepR
 have h : 0 < (o ++ [z]).length := by simp
 rw [dif_pos h]
 have e : (o ++ [z])[(o ++ [z]).length - 1]'(by simp) = z := by simp
 rw [e]
 split
 ·
  simp
 ·
  rfl
theorem foldR_ok : ∀ (ids : List Int) (out : List Sp), ids.Pairwise (· < ·) → (∀ x ∈ ids, 1 ≤ x ∧ x ≤ 1000000) → okFrom 1 out = true → (∀ x ∈ ids, nxt 1 out ≤ x + 1) →
  okFrom 1 (ids.foldl stepR out) = true ∧ ∀ a, spIn (ids.foldl stepR out) a = (spIn out a || decide (a ∈ ids))
 | [], out, _, _, h, _ => ⟨h, fun a => by simp⟩
 | x :: r, out, hp, hid, h, hn => by
  obtain ⟨hp1, hp2⟩ := List.pairwise_cons.1 hp
  have hx := hid x (by simp)
  have hnx := hn x (by simp)
  have key : okFrom 1 (stepR out x) = true ∧ nxt 1 (stepR out x) = x + 2 ∧ ∀ a, spIn (stepR out x) a = (spIn out a || decide (a = x)) := by
   rcases snoc_cases out with e | ⟨o, z, e⟩
   ·
    subst e
    refine ⟨?_, rfl, fun a => ?_⟩
    ·
     show (decide _ && true) = true
     rw [Bool.and_true, decide_eq_true_iff]
     exact ⟨hx.1, Int.le_refl _, hx.2⟩
    ·
     show spIn [⟨x, x⟩] a = _
     rw [spIn_one, spIn_nil, Bool.false_or]
     apply b_eq; rw [decide_eq_true_iff, decide_eq_true_iff]
     show x ≤ a ∧ a ≤ x ↔ a = x
     omega
   ·
    subst e
    obtain ⟨h1, h2, h3, h4⟩ := okFrom_pop h
    rw [nxt_snoc] at hnx
    rw [stepR_snoc]
    by_cases q : z.f1 + 1 = x
    ·
     rw [if_pos q]
     refine ⟨okFrom_push h1 h2 (by show z.f0 ≤ x; omega) hx.2, nxt_snoc _ _ _, fun a => ?_⟩
     rw [spIn_append, spIn_append, spIn_one, spIn_one, Bool.or_assoc]
     congr 1
     apply b_eq; rw [Bool.or_eq_true, decide_eq_true_iff, decide_eq_true_iff, decide_eq_true_iff]
     show z.f0 ≤ a ∧ a ≤ x ↔ _
     omega
    ·
     rw [if_neg q]
     refine ⟨okFrom_push h (by rw [nxt_snoc]; show z.f1 + 2 ≤ x; omega) (Int.le_refl _) hx.2, nxt_snoc _ _ _, fun a => ?_⟩
     rw [spIn_append, spIn_one]
     congr 1
     apply b_eq; rw [decide_eq_true_iff, decide_eq_true_iff]
     show x ≤ a ∧ a ≤ x ↔ a = x
     omega
  obtain ⟨k1, k2, k3⟩ := key
  obtain ⟨g1, g2⟩ := foldR_ok r (stepR out x) hp2 (fun y hy => hid y (by simp [hy])) k1 (fun y hy => by rw [k2]; have := hp1 y hy; omega)
  refine ⟨g1, fun a => ?_⟩
  rw [List.foldl_cons, g2, k3, Bool.or_assoc]
  congr 1
  apply b_eq; rw [Bool.or_eq_true, decide_eq_true_iff, decide_eq_true_iff, decide_eq_true_iff, List.mem_cons]
theorem foldA_ok : ∀ (L out : List Sp), L.Pairwise (fun x y => x.f0 ≤ y.f0) → (∀ x ∈ L, 1 ≤ x.f0 ∧ x.f0 ≤ x.f1 ∧ x.f1 ≤ 1000000) → okFrom 1 out = true → (∀ o z, out = o ++ [z] → ∀ x ∈ L, z.f0 ≤ x.f0) →
  okFrom 1 (L.foldl addS out) = true ∧ (L.foldl addS out).length ≤ out.length + L.length ∧ ∀ a, spIn (L.foldl addS out) a = (spIn out a || spIn L a)
 | [], out, _, _, h, _ => ⟨h, Nat.le_refl _, fun a => by rw [spIn_nil, Bool.or_false]; rfl⟩
 | x :: r, out, hp, hL, h, hn => by
  obtain ⟨hp1, hp2⟩ := List.pairwise_cons.1 hp
  have hx := hL x (by simp)
  have key : okFrom 1 (addS out x) = true ∧ (addS out x).length ≤ out.length + 1 ∧ (∀ a, spIn (addS out x) a = (spIn out a || decide (x.f0 ≤ a ∧ a ≤ x.f1))) ∧ (∀ o z, addS out x = o ++ [z] → z.f0 ≤ x.f0) := by
   rcases snoc_cases out with e | ⟨o, z, e⟩
   ·
    subst e
    rw [addS_nil]
    refine ⟨?_, by simp, fun a => ?_, fun o z e => ?_⟩
    ·
     show (decide _ && true) = true
     rw [Bool.and_true, decide_eq_true_iff]; exact hx
    ·
     rw [spIn_one, spIn_nil, Bool.false_or]
    ·
     have := List.append_inj_right' (s₁ := []) (t₁ := [x]) e rfl
     cases this; exact Int.le_refl _
   ·
    subst e
    obtain ⟨h1, h2, h3, h4⟩ := okFrom_pop h
    have hz := hn o z rfl x (by simp)
    rw [addS_snoc]
    have m1 := le_mx z.f1 x.f1
    by_cases q : x.f0 ≤ z.f1 + 1
    ·
     rw [if_pos q]
     have m2 : mx z.f1 x.f1 = z.f1 ∧ x.f1 ≤ z.f1 ∨ mx z.f1 x.f1 = x.f1 ∧ z.f1 ≤ x.f1 := by unfold mx; split <;> omega
     refine ⟨okFrom_push h1 h2 (by show z.f0 ≤ mx z.f1 x.f1; omega) (by show mx z.f1 x.f1 ≤ 1000000; omega), by simp, fun a => ?_, fun o2 z2 e => ?_⟩
     ·
      rw [spIn_append, spIn_append, spIn_one, spIn_one, Bool.or_assoc]
      congr 1
      apply b_eq; rw [Bool.or_eq_true, decide_eq_true_iff, decide_eq_true_iff, decide_eq_true_iff]
      show z.f0 ≤ a ∧ a ≤ mx z.f1 x.f1 ↔ _
      omega
     ·
      have := List.append_inj_right' e rfl
      cases this; exact hz
    ·
     rw [if_neg q]
     refine ⟨okFrom_push h (by rw [nxt_snoc]; omega) hx.2.1 hx.2.2, by simp, fun a => ?_, fun o2 z2 e => ?_⟩
     ·
      rw [spIn_append, spIn_one]
     ·
      have := List.append_inj_right' e rfl
      cases this; exact Int.le_refl _
  obtain ⟨k1, k2, k3, k4⟩ := key
  obtain ⟨g1, g2, g3⟩ := foldA_ok r (addS out x) hp2 (fun y hy => hL y (by simp [hy])) k1 (fun o z e y hy => by have := k4 o z e; have := hp1 y hy; omega)
  refine ⟨g1, ?_, fun a => ?_⟩
  ·
   rw [List.foldl_cons, List.length_cons]; omega
  ·
   rw [List.foldl_cons, g3, k3, spIn_cons, Bool.or_assoc]
theorem less_in (te : Int) (hte : te ≤ 1000000) : ∀ (b out : List Sp) (fr lo : Int), okFrom lo b = true → okFrom 1 out = true → nxt 1 out ≤ fr → nxt 1 out ≤ te + 2 →
  okFrom 1 (lessEnd te (lessIn te b out fr)) = true ∧ nxt 1 (lessEnd te (lessIn te b out fr)) ≤ te + 2 ∧ ∀ a, spIn (lessEnd te (lessIn te b out fr)) a = (spIn out a || (decide (fr ≤ a ∧ a ≤ te) && !spIn b a))
 | [], out, fr, lo, _, h, hf, ht => by
  show okFrom 1 (if fr ≤ te then out ++ [⟨fr, te⟩] else out) = true ∧ nxt 1 (if fr ≤ te then out ++ [⟨fr, te⟩] else out) ≤ te + 2 ∧ ∀ a, spIn (if fr ≤ te then out ++ [⟨fr, te⟩] else out) a = _
  by_cases c : fr ≤ te
  ·
   simp only [if_pos c]
   refine ⟨okFrom_push h hf c hte, by rw [nxt_snoc]; exact Int.le_refl _, fun a => ?_⟩
   rw [spIn_append, spIn_one, spIn_nil, Bool.not_false, Bool.and_true]
  ·
   simp only [if_neg c]
   refine ⟨h, ht, fun a => ?_⟩
   rw [decide_eq_false (by omega), Bool.false_and, Bool.or_false]
 | y :: r, out, fr, lo, hb, h, hf, ht => by
  rw [okFrom_step, Bool.and_eq_true, decide_eq_true_iff] at hb
  obtain ⟨⟨y1, y2, y3⟩, hr⟩ := hb
  by_cases c : y.f1 < fr ∨ y.f0 > te
  ·
   rw [lessIn_skip c]
   obtain ⟨g1, g2, g3⟩ := less_in te hte r out fr (y.f1 + 2) hr h hf ht
   refine ⟨g1, g2, fun a => ?_⟩
   rw [g3, spIn_cons]
   congr 1
   by_cases q : fr ≤ a ∧ a ≤ te
   ·
    rw [decide_eq_true q, decide_eq_false (by omega), Bool.false_or]
   ·
    rw [decide_eq_false q, Bool.false_and, Bool.false_and]
  ·
   by_cases d : y.f0 > fr
   ·
    rw [lessIn_cut c d]
    obtain ⟨g1, g2, g3⟩ := less_in te hte r (out ++ [⟨fr, y.f0 - 1⟩]) (y.f1 + 1) (y.f1 + 2) hr (okFrom_push h hf (by show fr ≤ y.f0 - 1; omega) (by show y.f0 - 1 ≤ 1000000; omega)) (by rw [nxt_snoc]; show y.f0 - 1 + 2 ≤ _; omega) (by rw [nxt_snoc]; show y.f0 - 1 + 2 ≤ _; omega)
    refine ⟨g1, g2, fun a => ?_⟩
    rw [g3, spIn_append, spIn_one, spIn_cons, Bool.or_assoc]
    congr 1
    show (decide (fr ≤ a ∧ a ≤ y.f0 - 1) || _) = _
    by_cases q : fr ≤ a ∧ a ≤ te
    ·
     rw [decide_eq_true q, Bool.true_and]
     by_cases u : a < y.f0
     ·
      rw [decide_eq_true (by omega), decide_eq_false (by omega : ¬ (y.f0 ≤ a ∧ a ≤ y.f1)), spIn_low r (y.f1 + 2) hr (by omega)]; rfl
     ·
      rw [decide_eq_false (by omega : ¬ (fr ≤ a ∧ a ≤ y.f0 - 1)), Bool.false_or]
      by_cases v : a ≤ y.f1
      ·
       rw [decide_eq_true (by omega : y.f0 ≤ a ∧ a ≤ y.f1), decide_eq_false (by omega)]; rfl
      ·
       rw [decide_eq_false (by omega : ¬ (y.f0 ≤ a ∧ a ≤ y.f1)), decide_eq_true (by omega), Bool.true_and, Bool.false_or]
    ·
     rw [decide_eq_false q, Bool.false_and, decide_eq_false (by omega), decide_eq_false (by omega), Bool.false_and]; rfl
   ·
    rw [lessIn_past c d]
    obtain ⟨g1, g2, g3⟩ := less_in te hte r out (y.f1 + 1) (y.f1 + 2) hr h (by omega) ht
    refine ⟨g1, g2, fun a => ?_⟩
    rw [g3, spIn_cons]
    congr 1
    by_cases q : fr ≤ a ∧ a ≤ te
    ·
     rw [decide_eq_true q, Bool.true_and]
     by_cases v : a ≤ y.f1
     ·
      rw [decide_eq_true (by omega : y.f0 ≤ a ∧ a ≤ y.f1), decide_eq_false (by omega)]; rfl
     ·
      rw [decide_eq_false (by omega : ¬ (y.f0 ≤ a ∧ a ≤ y.f1)), decide_eq_true (by omega), Bool.true_and, Bool.false_or]
    ·
     rw [decide_eq_false q, Bool.false_and, decide_eq_false (by omega), Bool.false_and]
theorem foldL_ok (b : List Sp) (hb : okFrom 1 b = true) : ∀ (a out : List Sp) (lo : Int), okFrom lo a = true → 1 ≤ lo → okFrom 1 out = true → nxt 1 out ≤ lo →
  okFrom 1 (a.foldl (lessOne b) out) = true ∧ ∀ i, spIn (a.foldl (lessOne b) out) i = (spIn out i || (spIn a i && !spIn b i))
 | [], out, lo, _, _, h, _ => ⟨h, fun i => by rw [spIn_nil, Bool.false_and, Bool.or_false]; rfl⟩
 | x :: r, out, lo, ha, hlo, h, hn => by
  rw [okFrom_step, Bool.and_eq_true, decide_eq_true_iff] at ha
  obtain ⟨⟨x1, x2, x3⟩, hr⟩ := ha
  obtain ⟨k1, k2, k3⟩ := less_in x.f1 x3 b out x.f0 1 hb h (by omega) (by omega)
  obtain ⟨g1, g2⟩ := foldL_ok b hb r (lessOne b out x) (x.f1 + 2) hr (by omega) k1 k2
  refine ⟨g1, fun i => ?_⟩
  rw [List.foldl_cons, g2]
  show (spIn (lessEnd x.f1 (lessIn x.f1 b out x.f0)) i || _) = _
  rw [k3, spIn_cons, Bool.or_assoc]
  congr 1
  cases decide (x.f0 ≤ i ∧ i ≤ x.f1) <;> cases spIn r i <;> cases spIn b i <;> rfl
end Go.Proofs.Ytepbkhgffjinjaa.Print
