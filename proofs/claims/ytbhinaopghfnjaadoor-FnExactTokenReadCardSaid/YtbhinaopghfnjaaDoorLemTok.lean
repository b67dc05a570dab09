/- Lemmas: tokens. -/
import Derived.Test.YtbhinaopghfnjaaDoorPrint2
import Derived.Laws.Bits64
import Derived.Lib.ItoaNum
import Derived.Lib.AtoiAllCases
namespace Go.Proofs.YtbhinaopghfnjaaDoor.Print
open Go.RowKit Go.Proofs.YtbhinaopghfnjaaDoorW.PrintWords Go.Proofs.YtbhinaopghfnjaaDoorW.PrintLast Go.Proofs.YtbhinaopghfnjaaDoorW.PrintMore
set_option linter.unusedVariables false
set_option linter.unusedSimpArgs false

/-! Rounds: small helpers. -/
theorem Ev.pos {α : Type} {c : Prop} [Decidable c] {f g : Nat → Option α} {r : α} (hc : c) (h : Ev f r) : Ev (fun n => if c then f n else g n) r := by
  simp only [hc, if_true]; exact h
theorem Ev.neg {α : Type} {c : Prop} [Decidable c] {f g : Nat → Option α} {r : α} (hc : ¬ c) (h : Ev g r) : Ev (fun n => if c then f n else g n) r := by
  simp only [hc, if_false]; exact h
theorem Ev.here {α : Type} {o : Option α} {r : α} (h : o = some r) : Ev (fun _ => o) r := ⟨0, fun _ _ => h⟩
theorem Ev.take {α β : Type} {o : Option α} {f : Nat → α → Option β} {a : α} {r : β} (h : o = some a) (k : Ev (fun n => f n a) r) : Ev (fun n => o.bind (f n)) r := by
  subst h; exact k
theorem Ev.one {α : Type} {g : Nat → Option α} {r : α} (h : ∀ k, g (k + 1) = some r) : Ev g r := Ev.step (f := fun _ => some r) h (Ev.now r)
theorem Ev.to {α : Type} {g : Nat → Option α} {r q : α} (e : r = q) (h : Ev g r) : Ev g q := e ▸ h

/-! Ranges. -/
theorem in_eq (a b c : Int) : impl_in.f a b c = some (decide (b ≤ a ∧ a ≤ c)) := by
  unfold impl_in.f; split <;> simp [*]
theorem is_eq (a b c : Int) : spec_l02Is.f a b c = some (decide (b ≤ a ∧ a ≤ c)) := by
  unfold spec_l02Is.f
  by_cases h : b ≤ a
  · rw [if_pos h]; simp [h]
  · rw [if_neg h]; simp [h]

/-! Numbers in digits. -/
theorem by_ext {a b : ByteArray} (h : a.data.toList = b.data.toList) : a = b := by
  cases a; cases b; simp at h; rw [h]
def byt (l : List UInt8) : ByteArray := ⟨l.toArray⟩
theorem byt_append (a b : List UInt8) : byt (a ++ b) = byt a ++ byt b := by
  apply by_ext; simp [byt]
theorem byt_size (a : List UInt8) : (byt a).size = a.length := by simp [byt, ByteArray.size]
theorem digits_ge {u : Nat} (h : 10 ≤ u) : Lib.decDigits u = Lib.decDigits (u / 10) ++ [UInt8.ofNat (48 + u % 10)] := by rw [Lib.decDigits, dif_neg (by omega)]
theorem digits_len (d : Nat) : ∀ u : Nat, u < 10 ^ d → (Lib.decDigits u).length ≤ max d 1 := by
  induction d with
  | zero => intro u h; rw [Lib.decDigits_one (by simp at h; omega)]; simp
  | succ d ih =>
    intro u h
    by_cases hu : u < 10
    · rw [Lib.decDigits_one hu]; simp only [List.length_singleton]; omega
    · rw [digits_ge (by omega), List.length_append, List.length_singleton]
      have := ih (u / 10) (by rw [Nat.pow_succ] at h; omega)
      have h2 : d ≠ 0 := by rintro rfl; simp at h; omega
      omega
theorem dec_l0 (d : Nat) : ∀ (u : Nat) (acc : ByteArray), u < 10 ^ d → u < 9223372036854775808 → acc.size + d < 9223372036854775807 → 0 < u →
    Ev (fun k => spec_l01Dec.l0 k (u : Int) false acc) (byt (Lib.decDigits u) ++ acc) := by
  induction d with
  | zero => intro u acc h _ _ h0; simp at h; omega
  | succ d ih =>
    intro u acc h h64 hs h0
    have hc : strOfNums [(wrap64 (48 + (Int.tmod (u : Int) 10))) % 256] = byt [UInt8.ofNat (48 + u % 10)] := by
      rw [Int.tmod_eq_emod_of_nonneg (by omega), show (wrap64 (48 + (u : Int) % 10)) % 256 = ((48 + u % 10 : Nat) : Int) from by unfold wrap64; omega]
      rfl
    have hq : wrap64 (Int.tdiv (u : Int) 10) = ((u / 10 : Nat) : Int) := by
      rw [Int.tdiv_eq_ediv_of_nonneg (by omega)]; unfold wrap64; omega
    have hm : ¬ (Int.tmod (u : Int) 10 < 0) := by rw [Int.tmod_eq_emod_of_nonneg (by omega)]; omega
    have hz : ¬ ((u : Int) = 0) := by omega
    have hb : (byt [UInt8.ofNat (48 + u % 10)]).size + acc.size ≤ 9223372036854775807 := by rw [byt_size]; simp only [List.length_singleton]; omega
    have step : ∀ k, spec_l01Dec.l0 (k + 1) (u : Int) false acc = spec_l01Dec.l0 k ((u / 10 : Nat) : Int) false (byt [UInt8.ofNat (48 + u % 10)] ++ acc) := by
      intro k
      simp only [spec_l01Dec.l0]
      rw [if_neg hz, if_neg hm]
      simp only [Option.bind_some]
      rw [hc, hq, if_pos hb]
    refine Ev.step step ?_
    by_cases h10 : u < 10
    · rw [show u / 10 = 0 by omega, Lib.decDigits_one h10, show u % 10 = u by omega]
      refine Ev.one (fun k => ?_)
      simp only [spec_l01Dec.l0]
      rw [if_pos (show ((0 : Nat) : Int) = 0 from rfl), if_neg (by simp)]
    · rw [digits_ge (by omega), byt_append, ByteArray.append_assoc]
      exact ih (u / 10) _ (by rw [Nat.pow_succ] at h; omega) (by omega) (by rw [ByteArray.size_append, byt_size]; simp only [List.length_singleton]; omega) (by omega)
theorem spec_dec_ev (u : Nat) (h : u < 1000000000000000000) : Ev (fun k => spec_l01Dec.f k (u : Int)) (byt (Lib.decDigits u)) := by
  unfold spec_l01Dec.f
  by_cases h0 : u = 0
  · subst h0
    exact Ev.pos rfl (Ev.to (by rw [Lib.decDigits_one (by omega)]; rfl) (Ev.now _))
  · refine Ev.neg (by omega) ?_
    rw [decide_eq_false (by omega)]
    refine Ev.to ?_ (dec_l0 18 u ⟨#[]⟩ (by omega) (by omega) (by simp [ByteArray.size]) (by omega))
    apply by_ext; simp
theorem itoa_nat (u : Nat) : Lib.itoa (u : Int) = Lib.decDigits u := by
  unfold Lib.itoa; rw [if_neg (by omega), Int.toNat_natCast]
theorem impl_dec_eq (u : Nat) (h : u < 9223372036854775808) : impl_dec.f (u : Int) = some (byt (Lib.decDigits u)) := by
  unfold impl_dec.f strconv_FormatInt.f
  rw [if_pos (by omega), itoa_nat]; rfl
/-- A token, of a user and a position that may be so. -/
def tokOf (a p : Nat) : ByteArray := (((⟨#[116]⟩ : ByteArray) ++ byt (Lib.decDigits a)) ++ (⟨#[45]⟩ : ByteArray)) ++ byt (Lib.decDigits p)
def tokS (a p : Int) : ByteArray := if (1 ≤ a ∧ a ≤ 6) ∧ 0 ≤ p ∧ p ≤ 120 then tokOf a.toNat p.toNat else ⟨#[]⟩
theorem tok_sizes (a p : Nat) (ha : a ≤ 6) (hp : p ≤ 120) : (byt (Lib.decDigits a)).size ≤ 3 ∧ (byt (Lib.decDigits p)).size ≤ 3 := by
  rw [byt_size, byt_size]
  exact ⟨digits_len 3 a (by omega), digits_len 3 p (by omega)⟩
theorem one_size : (⟨#[116]⟩ : ByteArray).size = 1 ∧ (⟨#[45]⟩ : ByteArray).size = 1 := ⟨rfl, rfl⟩
theorem spec_tok_ev (a p : Int) : Ev (fun k => spec_TokenText.f k a p) (tokS a p) := by
  unfold spec_TokenText.f tokS
  have fin : ∀ b : Bool, b = !decide ((1 ≤ a ∧ a ≤ 6) ∧ 0 ≤ p ∧ p ≤ 120) → Ev (fun k => spec_TokenText.j0 k a p b) (if (1 ≤ a ∧ a ≤ 6) ∧ 0 ≤ p ∧ p ≤ 120 then tokOf a.toNat p.toNat else ⟨#[]⟩) := by
    intro b hb
    refine Ev.step (f := fun k => spec_TokenText.j0 (k + 1) a p b) (fun k => rfl) ?_
    simp only [spec_TokenText.j0]
    by_cases c : (1 ≤ a ∧ a ≤ 6) ∧ 0 ≤ p ∧ p ≤ 120
    · rw [if_pos c]
      refine Ev.neg (by rw [hb]; simpa using c) ?_
      obtain ⟨s1, s2⟩ := tok_sizes a.toNat p.toNat (by omega) (by omega)
      have da := spec_dec_ev a.toNat (by omega)
      have dp := spec_dec_ev p.toNat (by omega)
      rw [Int.toNat_of_nonneg (by omega)] at da dp
      refine Ev.bind da (Ev.pos (by omega) (Ev.pos (by rw [ByteArray.size_append, one_size.1]; omega) (Ev.bind dp (Ev.pos (by rw [ByteArray.size_append, ByteArray.size_append, one_size.1, one_size.2]; omega) (Ev.now _)))))
    · rw [if_neg c]
      exact Ev.pos (by rw [hb, decide_eq_false c]; rfl) (Ev.now _)
  unfold spec_l02User.f
  rw [is_eq, is_eq]
  simp only [Option.bind_some]
  by_cases c : 1 ≤ a ∧ a ≤ 6
  · exact Ev.pos (by simpa using c) (fin _ (by simp [c]))
  · exact Ev.neg (by simpa using c) (fin _ (by simp [c]))
/-! A token, read. -/
theorem digits_all (u : Nat) : ∀ c ∈ Lib.decDigits u, 48 ≤ c.toNat ∧ c.toNat ≤ 57 := by
  induction u using Nat.strongRecOn with
  | ind u ih =>
    by_cases h : u < 10
    · rw [Lib.decDigits_one h]
      intro c hc
      rw [List.mem_singleton.1 hc, UInt8.toNat_ofNat']
      omega
    · rw [digits_ge (by omega)]
      intro c hc
      rcases List.mem_append.1 hc with hc | hc
      · exact ih (u / 10) (by omega) c hc
      · rw [List.mem_singleton.1 hc, UInt8.toNat_ofNat']
        omega
theorem parse_append (u : Nat) : ∀ r : List UInt8, u < 1000000000000000000 → Lib.parseUint10 0 (Lib.decDigits u ++ r) = Lib.parseUint10 u r := by
  induction u using Nat.strongRecOn with
  | ind u ih =>
    intro r hu
    by_cases h : u < 10
    · rw [Lib.decDigits_one h, List.singleton_append]
      simp only [Lib.parseUint10]
      have e : (UInt8.ofNat (48 + u)).toNat = 48 + u := by rw [UInt8.toNat_ofNat']; omega
      rw [e, if_pos (by omega), if_neg (by omega), if_neg (by omega)]
      congr 1; omega
    · rw [digits_ge (by omega), List.append_assoc, ih (u / 10) (by omega) _ (by omega), List.singleton_append]
      simp only [Lib.parseUint10]
      have e : (UInt8.ofNat (48 + u % 10)).toNat = 48 + u % 10 := by rw [UInt8.toNat_ofNat']; omega
      rw [e, if_pos (by omega), if_neg (by omega), if_neg (by omega)]
      congr 1; omega
theorem digits_ne (u : Nat) : Lib.decDigits u ≠ [] := by
  by_cases h : u < 10
  · rw [Lib.decDigits_one h]; simp
  · rw [digits_ge (by omega)]; simp
theorem parse_digits (u : Nat) (h : u < 1000000000000000000) : Lib.parseIntB 64 (Lib.decDigits u) = .ok (u : Int) := by
  rw [Lib.parseIntB_64]
  have hm : Lib.parseMag (Lib.decDigits u) = .ok u := by
    unfold Lib.parseMag
    rw [if_neg (digits_ne u)]
    have := parse_append u [] h
    rw [List.append_nil] at this
    rw [this]; rfl
  have ha := digits_all u
  have hn := digits_ne u
  cases hd : Lib.decDigits u with
  | nil => exact absurd hd hn
  | cons c r =>
    rw [hd] at hm ha
    have hc := ha c List.mem_cons_self
    rw [Lib.atoiAll_plain c r (by omega) (by omega), hm]
    unfold Lib.signless
    simp only []
    rw [if_neg (by omega)]
theorem digits_inj {p q : Nat} (hp : p < 1000000000000000000) (hq : q < 1000000000000000000) (h : Lib.decDigits p = Lib.decDigits q) : p = q := by
  have h1 := parse_digits p hp
  rw [h, parse_digits q hq] at h1
  injection h1 with h1
  omega
/-- What a token begins with. -/
def tokP (a : Nat) : ByteArray := ((⟨#[116]⟩ : ByteArray) ++ byt (Lib.decDigits a)) ++ (⟨#[45]⟩ : ByteArray)
theorem tokOf_eq (a p : Nat) : tokOf a p = tokP a ++ byt (Lib.decDigits p) := rfl
theorem ba_data_append (a b : ByteArray) : (a ++ b).data.toList = a.data.toList ++ b.data.toList := by simp
theorem ba_cancel {a b c : ByteArray} (h : a ++ b = a ++ c) : b = c := by
  have := congrArg (fun x : ByteArray => x.data.toList) h
  simp only [ba_data_append] at this
  exact by_ext (List.append_cancel_left this)
theorem byt_inj {l m : List UInt8} (h : byt l = byt m) : l = m := by
  have := congrArg (fun x : ByteArray => x.data.toList) h
  simpa [byt] using this
theorem tokOf_inj {a p q : Nat} (hp : p ≤ 120) (hq : q ≤ 120) (h : tokOf a p = tokOf a q) : p = q := by
  rw [tokOf_eq, tokOf_eq] at h
  exact digits_inj (by omega) (by omega) (byt_inj (ba_cancel h))
theorem ba_head (a u : ByteArray) : (a ++ u).extract 0 a.size = a := by
  apply by_ext
  rw [ByteArray.data_extract, Array.toList_extract, List.extract_eq_take_drop, ba_data_append, show a.size = a.data.toList.length from rfl, List.drop_zero, Nat.sub_zero, List.take_left]
theorem ba_tail (a u : ByteArray) : (a ++ u).extract a.size (a ++ u).size = u := by
  apply by_ext
  have e : (a ++ u).size = a.data.toList.length + u.data.toList.length := by rw [ByteArray.size_append]; rfl
  rw [ByteArray.data_extract, Array.toList_extract, List.extract_eq_take_drop, e, ba_data_append, show a.size = a.data.toList.length from rfl, Nat.add_sub_cancel_left, List.drop_left, List.take_length]
theorem ba_split (t : ByteArray) (n : Nat) (h : n ≤ t.size) : t = t.extract 0 n ++ t.extract n t.size := by
  rw [ByteArray.extract_append_extract]; simp
theorem ba_toList {a b : ByteArray} (h : a.toList = b.toList) : a = b := by
  rw [ByteArray.toList_eq, ByteArray.toList_eq] at h; exact by_ext h
theorem tokS_ok {a : Nat} {p : Nat} (ha : 1 ≤ a ∧ a ≤ 6) (hp : p ≤ 120) : tokS (a : Int) (p : Int) = tokOf a p := by
  unfold tokS; rw [if_pos (by omega), Int.toNat_natCast, Int.toNat_natCast]
theorem tokread_hit (a : Nat) (ha : 1 ≤ a ∧ a ≤ 6) (t : ByteArray) (q : Nat) (hq : q ≤ 120) (h : tokOf a q = t) (d : Nat) : ∀ p : Nat, p + d = q → Ev (fun k => spec_TokenRead.l0 k (a : Int) t (p : Int)) ((q : Int), 0, 0) := by
  induction d with
  | zero =>
    intro p hp
    obtain rfl : p = q := by omega
    refine Ev.step (f := fun k => spec_TokenRead.l0 (k + 1) (a : Int) t (p : Int)) (fun k => rfl) ?_
    simp only [spec_TokenRead.l0]
    exact Ev.pos (by omega) (Ev.bind (spec_tok_ev _ _) (Ev.pos (by rw [tokS_ok ha hq, h]) (Ev.now _)))
  | succ d ih =>
    intro p hp
    refine Ev.step (f := fun k => spec_TokenRead.l0 (k + 1) (a : Int) t (p : Int)) (fun k => rfl) ?_
    simp only [spec_TokenRead.l0]
    refine Ev.pos (by omega) (Ev.bind (spec_tok_ev _ _) (Ev.neg ?_ ?_))
    · rw [tokS_ok ha (by omega)]
      intro e
      have := tokOf_inj (by omega) hq ((ba_toList e).trans h.symm)
      omega
    · rw [show wrap64 ((p : Int) + 1) = ((p + 1 : Nat) : Int) from by unfold wrap64; omega]
      exact ih (p + 1) (by omega)
theorem tokread_miss (a : Nat) (ha : 1 ≤ a ∧ a ≤ 6) (t : ByteArray) (h : ∀ q, q ≤ 120 → tokOf a q ≠ t) (d : Nat) : ∀ p : Nat, p + d = 121 → Ev (fun k => spec_TokenRead.l0 k (a : Int) t (p : Int)) (0, 0, 3) := by
  induction d with
  | zero =>
    intro p hp
    refine Ev.one (fun k => ?_)
    simp only [spec_TokenRead.l0]
    rw [if_neg (by omega)]
  | succ d ih =>
    intro p hp
    refine Ev.step (f := fun k => spec_TokenRead.l0 (k + 1) (a : Int) t (p : Int)) (fun k => rfl) ?_
    simp only [spec_TokenRead.l0]
    refine Ev.pos (by omega) (Ev.bind (spec_tok_ev _ _) (Ev.neg ?_ ?_))
    · rw [tokS_ok ha (by omega)]
      exact fun e => h p (by omega) (ba_toList e)
    · rw [show wrap64 ((p : Int) + 1) = ((p + 1 : Nat) : Int) from by unfold wrap64; omega]
      exact ih (p + 1) (by omega)
theorem cut_hit (P u : ByteArray) : strings_CutPrefix.f (P ++ u) P = some (u, true) := by
  have hs : (P ++ u).size = P.size + u.size := ByteArray.size_append
  unfold strings_CutPrefix.f stringslite_CutPrefix.f stringslite_HasPrefix.f
  rw [if_pos (by omega), if_pos (by omega), if_pos (by omega), Int.toNat_natCast, ba_head]
  simp only [Option.bind_some, beq_self_eq_true, if_true]
  rw [if_pos (by omega), if_pos (by omega), ba_tail]
  rfl
theorem cut_any (t P : ByteArray) : (strings_CutPrefix.f t P = some (t, false)) ∨ ∃ u, t = P ++ u ∧ strings_CutPrefix.f t P = some (u, true) := by
  by_cases h : P.size ≤ t.size
  · by_cases e : (t.extract 0 P.size).toList = P.toList
    · refine Or.inr ⟨t.extract P.size t.size, ?_, ?_⟩
      · have := ba_split t P.size h
        rw [ba_toList e] at this
        exact this
      · have := ba_split t P.size h
        rw [ba_toList e] at this
        generalize t.extract P.size t.size = u at this
        subst this
        exact cut_hit P u
    · refine Or.inl ?_
      unfold strings_CutPrefix.f stringslite_CutPrefix.f stringslite_HasPrefix.f
      rw [if_pos (by omega), if_pos (by omega), if_pos (by omega), Int.toNat_natCast]
      simp only [Option.bind_some]
      rw [if_neg (by simpa using e)]
      rfl
  · refine Or.inl ?_
    unfold strings_CutPrefix.f stringslite_CutPrefix.f stringslite_HasPrefix.f
    rw [if_neg (by omega)]
    simp
theorem readDec_digits (p : Nat) (lo hi : Int) (hp : p < 1000000000000000000) : impl_readDec.f (byt (Lib.decDigits p)) lo hi = some ((p : Int), decide (lo ≤ (p : Int) ∧ (p : Int) ≤ hi)) := by
  unfold impl_readDec.f
  have hl := digits_len 18 p (by omega)
  rw [if_pos (by rw [byt_size]; omega)]
  have e : (byt (Lib.decDigits p)).data.toList = Lib.decDigits p := by simp [byt]
  rw [e, parse_digits p hp]
  show some ((p : Int), Lib.itoa (p : Int) == (byt (Lib.decDigits p)).toList && decide (lo ≤ (p : Int) ∧ (p : Int) ≤ hi)) = _
  rw [itoa_nat, ByteArray.toList_eq, e]
  simp
theorem readDec_any (s : ByteArray) (lo hi : Int) (h0 : 0 ≤ lo) (hs : s.size ≤ 281474976710656) : ∃ n b, impl_readDec.f s lo hi = some (n, b) ∧ (b = true → ∃ p : Nat, n = (p : Int) ∧ lo ≤ (p : Int) ∧ (p : Int) ≤ hi ∧ s = byt (Lib.decDigits p)) := by
  unfold impl_readDec.f
  rw [if_pos hs]
  cases hp : Lib.parseIntB 64 s.data.toList with
  | ok v =>
    refine ⟨_, _, rfl, ?_⟩
    intro h
    rw [Bool.and_eq_true, beq_iff_eq, decide_eq_true_iff] at h
    obtain ⟨h1, h2, h3⟩ := h
    refine ⟨v.toNat, by omega, by omega, by omega, ?_⟩
    have hv : v = ((v.toNat : Nat) : Int) := by omega
    rw [hv, itoa_nat, ByteArray.toList_eq] at h1
    apply by_ext
    rw [← h1]; simp [byt]
  | range => exact ⟨_, _, rfl, fun h => by cases h⟩
  | _ => exact ⟨_, _, rfl, fun h => by cases h⟩
theorem tokP_size (a : Nat) (ha : a ≤ 6) : (byt (Lib.decDigits a)).size ≤ 3 := (tok_sizes a 0 ha (by omega)).1
theorem tokread_ev (a : Int) (t : ByteArray) (ht : t.size ≤ 1048576) : ∃ r, Ev (fun k => spec_TokenRead.f k a t) r ∧ impl_TokenRead.f a t = some r := by
  unfold spec_TokenRead.f impl_TokenRead.f spec_l02User.f impl_isUser.f
  rw [is_eq, in_eq]
  simp only [Option.bind_some]
  by_cases c8 : (t.size : Int) > 8000
  · exact ⟨_, Ev.pos c8 (Ev.now _), by rw [if_pos c8]⟩
  rw [if_neg c8]
  by_cases cu : 1 ≤ a ∧ a ≤ 6
  · rw [if_pos (by simpa using cu)]
    by_cases ce : t.toList = ([] : List UInt8)
    · exact ⟨_, Ev.neg c8 (Ev.pos (by simpa using cu) (Ev.pos ce (Ev.now _))), by rw [if_pos ce]⟩
    rw [if_neg ce]
    obtain ⟨n, rfl⟩ : ∃ n : Nat, a = (n : Int) := ⟨a.toNat, by omega⟩
    have hn : 1 ≤ n ∧ n ≤ 6 := by omega
    have hsz := tokP_size n (by omega)
    rw [impl_dec_eq n (by omega)]
    simp only [Option.bind_some]
    rw [if_pos (by omega), if_pos (by rw [ByteArray.size_append, one_size.1]; omega)]
    by_cases hq : ∃ q, q ≤ 120 ∧ tokOf n q = t
    · obtain ⟨q, h1, h2⟩ := hq
      refine ⟨((q : Int), 0, 0), Ev.neg c8 (Ev.pos (by simpa using cu) (Ev.neg ce (tokread_hit n hn t q h1 h2 q 0 (by omega)))), ?_⟩
      rw [← h2, tokOf_eq]
      show ((strings_CutPrefix.f (tokP n ++ byt (Lib.decDigits q)) (tokP n)).bind _) = _
      rw [cut_hit]
      simp only [Option.bind_some]
      rw [readDec_digits q 0 120 (by omega)]
      simp only [Option.bind_some]
      rw [if_pos trivial, if_pos (by simp; omega)]
    · have hm : ∀ q, q ≤ 120 → tokOf n q ≠ t := fun q h1 h2 => hq ⟨q, h1, h2⟩
      refine ⟨(0, 0, 3), Ev.neg c8 (Ev.pos (by simpa using cu) (Ev.neg ce (tokread_miss n hn t hm 121 0 (by omega)))), ?_⟩
      show ((strings_CutPrefix.f t (tokP n)).bind _) = _
      rcases cut_any t (tokP n) with h | ⟨u, hu, h⟩
      · rw [h]
        obtain ⟨m, b, hr, _⟩ := readDec_any t 0 120 (by omega) (by omega)
        simp only [Option.bind_some]
        rw [hr]
        simp
      · rw [h]
        have hus : u.size ≤ 281474976710656 := by
          have := congrArg ByteArray.size hu
          rw [ByteArray.size_append] at this; omega
        obtain ⟨m, b, hr, hb⟩ := readDec_any u 0 120 (by omega) hus
        simp only [Option.bind_some]
        rw [hr]
        simp only [Option.bind_some, if_true]
        cases b with
        | false => simp
        | true =>
          obtain ⟨p, _, h1, h2, h3⟩ := hb rfl
          exact absurd (by rw [hu, h3, tokOf_eq]) (hm p (by omega))
  · refine ⟨(0, 0, 1), Ev.neg c8 (Ev.neg (by simpa using cu) (Ev.now _)), ?_⟩
    rw [if_neg (by simpa using cu)]
theorem eqNumOut_self (a b c : Int) : laws_eqNumOut.f a b c a b c = some true := by unfold laws_eqNumOut.f; simp


end Go.Proofs.YtbhinaopghfnjaaDoor.Print
