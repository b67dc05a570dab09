/- Lemmas: tokens. -/
import Derived.Test.YtbhinaopghfnjaaDoorPrint1
import Derived.Laws.Bits64
import Derived.Lib.ItoaNum
namespace Go.Proofs.YtbhinaopghfnjaaDoor.Print
open Go.RowKit Go.Proofs.YtbhinaopghfnjaaDoorW.PrintWords Go.Proofs.YtbhinaopghfnjaaDoorW.PrintLast Go.Proofs.YtbhinaopghfnjaaDoorW.PrintMore
set_option linter.unusedVariables false
set_option linter.unusedSimpArgs false

/-! Rounds: small helpers. -/
theorem Ev.pos {α : Type} {c : Prop} [Decidable c] {f g : Nat → Option α} {r : α} (hc : c) (h : Ev f r) : Ev (fun n => if c then f n else g n) r := by
  simp only [hc, if_true]; exact h
theorem Ev.neg {α : Type} {c : Prop} [Decidable c] {f g : Nat → Option α} {r : α} (hc : ¬ c) (h : Ev g r) : Ev (fun n => if c then f n else g n) r := by
  simp only [hc, if_false]; exact h
theorem Ev.here {α : Type} {o : Option α} {r : α} (h : o = some r) : Ev (fun _ => o) r := ⟨0, fun _ _ => h⟩
theorem Ev.take {α β : Type} {o : Option α} {f : Nat → α → Option β} {a : α} {r : β} (h : o = some a) (k : Ev (fun n => f n a) r) : Ev (fun n => o.bind (f n)) r := by
  subst h; exact k
theorem Ev.one {α : Type} {g : Nat → Option α} {r : α} (h : ∀ k, g (k + 1) = some r) : Ev g r := Ev.step (f := fun _ => some r) h (Ev.now r)
theorem Ev.to {α : Type} {g : Nat → Option α} {r q : α} (e : r = q) (h : Ev g r) : Ev g q := e ▸ h

/-! Ranges. -/
theorem in_eq (a b c : Int) : impl_in.f a b c = some (decide (b ≤ a ∧ a ≤ c)) := by
  unfold impl_in.f; split <;> simp [*]
theorem is_eq (a b c : Int) : spec_l02Is.f a b c = some (decide (b ≤ a ∧ a ≤ c)) := by
  unfold spec_l02Is.f
  by_cases h : b ≤ a
  · rw [if_pos h]; simp [h]
  · rw [if_neg h]; simp [h]

/-! Numbers in digits. -/
theorem by_ext {a b : ByteArray} (h : a.data.toList = b.data.toList) : a = b := by
  cases a; cases b; simp at h; rw [h]
def byt (l : List UInt8) : ByteArray := ⟨l.toArray⟩
theorem byt_append (a b : List UInt8) : byt (a ++ b) = byt a ++ byt b := by
  apply by_ext; simp [byt]
theorem byt_size (a : List UInt8) : (byt a).size = a.length := by simp [byt, ByteArray.size]
theorem digits_ge {u : Nat} (h : 10 ≤ u) : Lib.decDigits u = Lib.decDigits (u / 10) ++ [UInt8.ofNat (48 + u % 10)] := by rw [Lib.decDigits, dif_neg (by omega)]
theorem digits_len (d : Nat) : ∀ u : Nat, u < 10 ^ d → (Lib.decDigits u).length ≤ max d 1 := by
  induction d with
  | zero => intro u h; rw [Lib.decDigits_one (by simp at h; omega)]; simp
  | succ d ih =>
    intro u h
    by_cases hu : u < 10
    · rw [Lib.decDigits_one hu]; simp only [List.length_singleton]; omega
    · rw [digits_ge (by omega), List.length_append, List.length_singleton]
      have := ih (u / 10) (by rw [Nat.pow_succ] at h; omega)
      have h2 : d ≠ 0 := by rintro rfl; simp at h; omega
      omega
theorem dec_l0 (d : Nat) : ∀ (u : Nat) (acc : ByteArray), u < 10 ^ d → u < 9223372036854775808 → acc.size + d < 9223372036854775807 → 0 < u →
    Ev (fun k => spec_l01Dec.l0 k (u : Int) false acc) (byt (Lib.decDigits u) ++ acc) := by
  induction d with
  | zero => intro u acc h _ _ h0; simp at h; omega
  | succ d ih =>
    intro u acc h h64 hs h0
    have hc : strOfNums [(wrap64 (48 + (Int.tmod (u : Int) 10))) % 256] = byt [UInt8.ofNat (48 + u % 10)] := by
      rw [Int.tmod_eq_emod_of_nonneg (by omega), show (wrap64 (48 + (u : Int) % 10)) % 256 = ((48 + u % 10 : Nat) : Int) from by unfold wrap64; omega]
      rfl
    have hq : wrap64 (Int.tdiv (u : Int) 10) = ((u / 10 : Nat) : Int) := by
      rw [Int.tdiv_eq_ediv_of_nonneg (by omega)]; unfold wrap64; omega
    have hm : ¬ (Int.tmod (u : Int) 10 < 0) := by rw [Int.tmod_eq_emod_of_nonneg (by omega)]; omega
    have hz : ¬ ((u : Int) = 0) := by omega
    have hb : (byt [UInt8.ofNat (48 + u % 10)]).size + acc.size ≤ 9223372036854775807 := by rw [byt_size]; simp only [List.length_singleton]; omega
    have step : ∀ k, spec_l01Dec.l0 (k + 1) (u : Int) false acc = spec_l01Dec.l0 k ((u / 10 : Nat) : Int) false (byt [UInt8.ofNat (48 + u % 10)] ++ acc) := by
      intro k
      simp only [spec_l01Dec.l0]
      rw [if_neg hz, if_neg hm]
      simp only [Option.bind_some]
      rw [hc, hq, if_pos hb]
    refine Ev.step step ?_
    by_cases h10 : u < 10
    · rw [show u / 10 = 0 by omega, Lib.decDigits_one h10, show u % 10 = u by omega]
      refine Ev.one (fun k => ?_)
      simp only [spec_l01Dec.l0]
      rw [if_pos (show ((0 : Nat) : Int) = 0 from rfl), if_neg (by simp)]
    · rw [digits_ge (by omega), byt_append, ByteArray.append_assoc]
      exact ih (u / 10) _ (by rw [Nat.pow_succ] at h; omega) (by omega) (by rw [ByteArray.size_append, byt_size]; simp only [List.length_singleton]; omega) (by omega)
theorem spec_dec_ev (u : Nat) (h : u < 1000000000000000000) : Ev (fun k => spec_l01Dec.f k (u : Int)) (byt (Lib.decDigits u)) := by
  unfold spec_l01Dec.f
  by_cases h0 : u = 0
  · subst h0
    exact Ev.pos rfl (Ev.to (by rw [Lib.decDigits_one (by omega)]; rfl) (Ev.now _))
  · refine Ev.neg (by omega) ?_
    rw [decide_eq_false (by omega)]
    refine Ev.to ?_ (dec_l0 18 u ⟨#[]⟩ (by omega) (by omega) (by simp [ByteArray.size]) (by omega))
    apply by_ext; simp
theorem itoa_nat (u : Nat) : Lib.itoa (u : Int) = Lib.decDigits u := by
  unfold Lib.itoa; rw [if_neg (by omega), Int.toNat_natCast]
theorem impl_dec_eq (u : Nat) (h : u < 9223372036854775808) : impl_dec.f (u : Int) = some (byt (Lib.decDigits u)) := by
  unfold impl_dec.f strconv_FormatInt.f
  rw [if_pos (by omega), itoa_nat]; rfl
/-- A token, of a user and a position that may be so. -/
def tokOf (a p : Nat) : ByteArray := (((⟨#[116]⟩ : ByteArray) ++ byt (Lib.decDigits a)) ++ (⟨#[45]⟩ : ByteArray)) ++ byt (Lib.decDigits p)
def tokS (a p : Int) : ByteArray := if (1 ≤ a ∧ a ≤ 6) ∧ 0 ≤ p ∧ p ≤ 120 then tokOf a.toNat p.toNat else ⟨#[]⟩
theorem tok_sizes (a p : Nat) (ha : a ≤ 6) (hp : p ≤ 120) : (byt (Lib.decDigits a)).size ≤ 3 ∧ (byt (Lib.decDigits p)).size ≤ 3 := by
  rw [byt_size, byt_size]
  exact ⟨digits_len 3 a (by omega), digits_len 3 p (by omega)⟩
theorem one_size : (⟨#[116]⟩ : ByteArray).size = 1 ∧ (⟨#[45]⟩ : ByteArray).size = 1 := ⟨rfl, rfl⟩
theorem spec_tok_ev (a p : Int) : Ev (fun k => spec_TokenText.f k a p) (tokS a p) := by
  unfold spec_TokenText.f tokS
  have fin : ∀ b : Bool, b = !decide ((1 ≤ a ∧ a ≤ 6) ∧ 0 ≤ p ∧ p ≤ 120) → Ev (fun k => spec_TokenText.j0 k a p b) (if (1 ≤ a ∧ a ≤ 6) ∧ 0 ≤ p ∧ p ≤ 120 then tokOf a.toNat p.toNat else ⟨#[]⟩) := by
    intro b hb
    refine Ev.step (f := fun k => spec_TokenText.j0 (k + 1) a p b) (fun k => rfl) ?_
    simp only [spec_TokenText.j0]
    by_cases c : (1 ≤ a ∧ a ≤ 6) ∧ 0 ≤ p ∧ p ≤ 120
    · rw [if_pos c]
      refine Ev.neg (by rw [hb]; simpa using c) ?_
      obtain ⟨s1, s2⟩ := tok_sizes a.toNat p.toNat (by omega) (by omega)
      have da := spec_dec_ev a.toNat (by omega)
      have dp := spec_dec_ev p.toNat (by omega)
      rw [Int.toNat_of_nonneg (by omega)] at da dp
      refine Ev.bind da (Ev.pos (by omega) (Ev.pos (by rw [ByteArray.size_append, one_size.1]; omega) (Ev.bind dp (Ev.pos (by rw [ByteArray.size_append, ByteArray.size_append, one_size.1, one_size.2]; omega) (Ev.now _)))))
    · rw [if_neg c]
      exact Ev.pos (by rw [hb, decide_eq_false c]; rfl) (Ev.now _)
  unfold spec_l02User.f
  rw [is_eq, is_eq]
  simp only [Option.bind_some]
  by_cases c : 1 ≤ a ∧ a ≤ 6
  · exact Ev.pos (by simpa using c) (fin _ (by simp [c]))
  · exact Ev.neg (by simpa using c) (fin _ (by simp [c]))
theorem impl_tok_ev (a p : Int) : Ev (fun k => impl_TokenText.f k a p) (tokS a p) := by
  unfold impl_TokenText.f tokS
  have fin : ∀ b : Bool, b = !decide ((1 ≤ a ∧ a ≤ 6) ∧ 0 ≤ p ∧ p ≤ 120) → Ev (fun k => impl_TokenText.j0 k a p b) (if (1 ≤ a ∧ a ≤ 6) ∧ 0 ≤ p ∧ p ≤ 120 then tokOf a.toNat p.toNat else ⟨#[]⟩) := by
    intro b hb
    refine Ev.step (f := fun k => impl_TokenText.j0 (k + 1) a p b) (fun k => rfl) ?_
    simp only [impl_TokenText.j0]
    by_cases c : (1 ≤ a ∧ a ≤ 6) ∧ 0 ≤ p ∧ p ≤ 120
    · rw [if_pos c]
      refine Ev.neg (by rw [hb]; simpa using c) ?_
      obtain ⟨s1, s2⟩ := tok_sizes a.toNat p.toNat (by omega) (by omega)
      have da := impl_dec_eq a.toNat (by omega)
      have dp := impl_dec_eq p.toNat (by omega)
      rw [Int.toNat_of_nonneg (by omega)] at da dp
      refine Ev.take da (Ev.pos (by omega) (Ev.pos (by rw [ByteArray.size_append, one_size.1]; omega) (Ev.take dp (Ev.pos (by rw [ByteArray.size_append, ByteArray.size_append, one_size.1, one_size.2]; omega) (Ev.now _)))))
    · rw [if_neg c]
      exact Ev.pos (by rw [hb, decide_eq_false c]; rfl) (Ev.now _)
  unfold impl_isUser.f
  rw [in_eq, in_eq]
  simp only [Option.bind_some]
  by_cases c : 1 ≤ a ∧ a ≤ 6
  · exact Ev.pos (by simpa using c) (fin _ (by simp [c]))
  · exact Ev.neg (by simpa using c) (fin _ (by simp [c]))


end Go.Proofs.YtbhinaopghfnjaaDoor.Print
