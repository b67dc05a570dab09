/- Lemmas: sessions. -/
import Derived.Test.YtahkcifbclloiaaDoorStFnExactSessionRight
import Derived.Test.YtahkcifbclloiaaDoorLemOpens
import Derived.Laws.Bits64
import Derived.Lib.ItoaNum
import Derived.Lib.AtoiAllCases
namespace Go.Proofs.YtahkcifbclloiaaDoor.Print
open Go.RowKit Go.Proofs.YtahkcifbclloiaaDoorW.PrintWords Go.Proofs.YtahkcifbclloiaaDoorW.PrintLast Go.Proofs.YtahkcifbclloiaaDoorW.PrintMore
set_option linter.unusedVariables false
set_option linter.unusedSimpArgs false

/-! Rounds: small helpers. -/
theorem Ev.pos {α : Type} {c : Prop} [Decidable c] {f g : Nat → Option α} {r : α} (hc : c) (h : Ev f r) : Ev (fun n => if c then f n else g n) r := by
  simp only [hc, if_true]; exact h
theorem Ev.neg {α : Type} {c : Prop} [Decidable c] {f g : Nat → Option α} {r : α} (hc : ¬ c) (h : Ev g r) : Ev (fun n => if c then f n else g n) r := by
  simp only [hc, if_false]; exact h
theorem Ev.here {α : Type} {o : Option α} {r : α} (h : o = some r) : Ev (fun _ => o) r := ⟨0, fun _ _ => h⟩
theorem Ev.take {α β : Type} {o : Option α} {f : Nat → α → Option β} {a : α} {r : β} (h : o = some a) (k : Ev (fun n => f n a) r) : Ev (fun n => o.bind (f n)) r := by
  subst h; exact k
theorem Ev.one {α : Type} {g : Nat → Option α} {r : α} (h : ∀ k, g (k + 1) = some r) : Ev g r := Ev.step (f := fun _ => some r) h (Ev.now r)
theorem Ev.to {α : Type} {g : Nat → Option α} {r q : α} (e : r = q) (h : Ev g r) : Ev g q := e ▸ h

/-! Lists of structs, read one by one. -/
theorem w64 {n : Int} (h0 : -9223372036854775808 ≤ n) (h1 : n ≤ 9223372036854775807) : wrap64 n = n := by unfold wrap64; omega
theorem drop_cons {α : Type} {l : List α} {i : Nat} (h : i < l.length) : l.drop i = l[i] :: l.drop (i + 1) := List.drop_eq_getElem_cons h
theorem getD_at {α : Type} {l : List α} {i : Nat} (d : α) (h : i < l.length) : l.getD ((i : Int)).toNat d = l[i] := by
  rw [Int.toNat_natCast, List.getD_eq_getElem?_getD, List.getElem?_eq_getElem h]; rfl

/-! Ranges. -/
theorem in_eq (a b c : Int) : impl_in.f a b c = some (decide (b ≤ a ∧ a ≤ c)) := by
  unfold impl_in.f; split <;> simp [*]
theorem is_eq (a b c : Int) : spec_l02Is.f a b c = some (decide (b ≤ a ∧ a ≤ c)) := by
  unfold spec_l02Is.f
  by_cases h : b ≤ a
  · rw [if_pos h]; simp [h]
  · rw [if_neg h]; simp [h]

/-! Numbers in digits. -/
theorem by_ext {a b : ByteArray} (h : a.data.toList = b.data.toList) : a = b := by
  cases a; cases b; simp at h; rw [h]
def byt (l : List UInt8) : ByteArray := ⟨l.toArray⟩
theorem byt_append (a b : List UInt8) : byt (a ++ b) = byt a ++ byt b := by
  apply by_ext; simp [byt]
theorem byt_size (a : List UInt8) : (byt a).size = a.length := by simp [byt, ByteArray.size]
theorem digits_ge {u : Nat} (h : 10 ≤ u) : Lib.decDigits u = Lib.decDigits (u / 10) ++ [UInt8.ofNat (48 + u % 10)] := by rw [Lib.decDigits, dif_neg (by omega)]
theorem digits_len (d : Nat) : ∀ u : Nat, u < 10 ^ d → (Lib.decDigits u).length ≤ max d 1 := by
  induction d with
  | zero => intro u h; rw [Lib.decDigits_one (by simp at h; omega)]; simp
  | succ d ih =>
    intro u h
    by_cases hu : u < 10
    · rw [Lib.decDigits_one hu]; simp only [List.length_singleton]; omega
    · rw [digits_ge (by omega), List.length_append, List.length_singleton]
      have := ih (u / 10) (by rw [Nat.pow_succ] at h; omega)
      have h2 : d ≠ 0 := by rintro rfl; simp at h; omega
      omega
theorem dec_l0 (d : Nat) : ∀ (u : Nat) (acc : ByteArray), u < 10 ^ d → u < 9223372036854775808 → acc.size + d < 9223372036854775807 → 0 < u →
    Ev (fun k => spec_l01Dec.l0 k (u : Int) false acc) (byt (Lib.decDigits u) ++ acc) := by
  induction d with
  | zero => intro u acc h _ _ h0; simp at h; omega
  | succ d ih =>
    intro u acc h h64 hs h0
    have hc : strOfNums [(wrap64 (48 + (Int.tmod (u : Int) 10))) % 256] = byt [UInt8.ofNat (48 + u % 10)] := by
      rw [Int.tmod_eq_emod_of_nonneg (by omega), show (wrap64 (48 + (u : Int) % 10)) % 256 = ((48 + u % 10 : Nat) : Int) from by unfold wrap64; omega]
      rfl
    have hq : wrap64 (Int.tdiv (u : Int) 10) = ((u / 10 : Nat) : Int) := by
      rw [Int.tdiv_eq_ediv_of_nonneg (by omega)]; unfold wrap64; omega
    have hm : ¬ (Int.tmod (u : Int) 10 < 0) := by rw [Int.tmod_eq_emod_of_nonneg (by omega)]; omega
    have hz : ¬ ((u : Int) = 0) := by omega
    have hb : (byt [UInt8.ofNat (48 + u % 10)]).size + acc.size ≤ 9223372036854775807 := by rw [byt_size]; simp only [List.length_singleton]; omega
    have step : ∀ k, spec_l01Dec.l0 (k + 1) (u : Int) false acc = spec_l01Dec.l0 k ((u / 10 : Nat) : Int) false (byt [UInt8.ofNat (48 + u % 10)] ++ acc) := by
      intro k
      simp only [spec_l01Dec.l0]
      rw [if_neg hz, if_neg hm]
      simp only [Option.bind_some]
      rw [hc, hq, if_pos hb]
    refine Ev.step step ?_
    by_cases h10 : u < 10
    · rw [show u / 10 = 0 by omega, Lib.decDigits_one h10, show u % 10 = u by omega]
      refine Ev.one (fun k => ?_)
      simp only [spec_l01Dec.l0]
      rw [if_pos (show ((0 : Nat) : Int) = 0 from rfl), if_neg (by simp)]
    · rw [digits_ge (by omega), byt_append, ByteArray.append_assoc]
      exact ih (u / 10) _ (by rw [Nat.pow_succ] at h; omega) (by omega) (by rw [ByteArray.size_append, byt_size]; simp only [List.length_singleton]; omega) (by omega)
theorem spec_dec_ev (u : Nat) (h : u < 1000000000000000000) : Ev (fun k => spec_l01Dec.f k (u : Int)) (byt (Lib.decDigits u)) := by
  unfold spec_l01Dec.f
  by_cases h0 : u = 0
  · subst h0
    exact Ev.pos rfl (Ev.to (by rw [Lib.decDigits_one (by omega)]; rfl) (Ev.now _))
  · refine Ev.neg (by omega) ?_
    rw [decide_eq_false (by omega)]
    refine Ev.to ?_ (dec_l0 18 u ⟨#[]⟩ (by omega) (by omega) (by simp [ByteArray.size]) (by omega))
    apply by_ext; simp
theorem itoa_nat (u : Nat) : Lib.itoa (u : Int) = Lib.decDigits u := by
  unfold Lib.itoa; rw [if_neg (by omega), Int.toNat_natCast]
theorem impl_dec_eq (u : Nat) (h : u < 9223372036854775808) : impl_dec.f (u : Int) = some (byt (Lib.decDigits u)) := by
  unfold impl_dec.f strconv_FormatInt.f
  rw [if_pos (by omega), itoa_nat]; rfl
/-- A token, of a user and a position that may be so. -/
def tokOf (a p : Nat) : ByteArray := (((⟨#[116]⟩ : ByteArray) ++ byt (Lib.decDigits a)) ++ (⟨#[45]⟩ : ByteArray)) ++ byt (Lib.decDigits p)
def tokS (a p : Int) : ByteArray := if (1 ≤ a ∧ a ≤ 6) ∧ 0 ≤ p ∧ p ≤ 120 then tokOf a.toNat p.toNat else ⟨#[]⟩
theorem tok_sizes (a p : Nat) (ha : a ≤ 6) (hp : p ≤ 120) : (byt (Lib.decDigits a)).size ≤ 3 ∧ (byt (Lib.decDigits p)).size ≤ 3 := by
  rw [byt_size, byt_size]
  exact ⟨digits_len 3 a (by omega), digits_len 3 p (by omega)⟩
theorem one_size : (⟨#[116]⟩ : ByteArray).size = 1 ∧ (⟨#[45]⟩ : ByteArray).size = 1 := ⟨rfl, rfl⟩
theorem spec_tok_ev (a p : Int) : Ev (fun k => spec_TokenText.f k a p) (tokS a p) := by
  unfold spec_TokenText.f tokS
  have fin : ∀ b : Bool, b = !decide ((1 ≤ a ∧ a ≤ 6) ∧ 0 ≤ p ∧ p ≤ 120) → Ev (fun k => spec_TokenText.j0 k a p b) (if (1 ≤ a ∧ a ≤ 6) ∧ 0 ≤ p ∧ p ≤ 120 then tokOf a.toNat p.toNat else ⟨#[]⟩) := by
    intro b hb
    refine Ev.step (f := fun k => spec_TokenText.j0 (k + 1) a p b) (fun k => rfl) ?_
    simp only [spec_TokenText.j0]
    by_cases c : (1 ≤ a ∧ a ≤ 6) ∧ 0 ≤ p ∧ p ≤ 120
    · rw [if_pos c]
      refine Ev.neg (by rw [hb]; simpa using c) ?_
      obtain ⟨s1, s2⟩ := tok_sizes a.toNat p.toNat (by omega) (by omega)
      have da := spec_dec_ev a.toNat (by omega)
      have dp := spec_dec_ev p.toNat (by omega)
      rw [Int.toNat_of_nonneg (by omega)] at da dp
      refine Ev.bind da (Ev.pos (by omega) (Ev.pos (by rw [ByteArray.size_append, one_size.1]; omega) (Ev.bind dp (Ev.pos (by rw [ByteArray.size_append, ByteArray.size_append, one_size.1, one_size.2]; omega) (Ev.now _)))))
    · rw [if_neg c]
      exact Ev.pos (by rw [hb, decide_eq_false c]; rfl) (Ev.now _)
  unfold spec_l02User.f
  rw [is_eq, is_eq]
  simp only [Option.bind_some]
  by_cases c : 1 ≤ a ∧ a ≤ 6
  · exact Ev.pos (by simpa using c) (fin _ (by simp [c]))
  · exact Ev.neg (by simpa using c) (fin _ (by simp [c]))
/-! A token, read. -/
theorem digits_all (u : Nat) : ∀ c ∈ Lib.decDigits u, 48 ≤ c.toNat ∧ c.toNat ≤ 57 := by
  induction u using Nat.strongRecOn with
  | ind u ih =>
    by_cases h : u < 10
    · rw [Lib.decDigits_one h]
      intro c hc
      rw [List.mem_singleton.1 hc, UInt8.toNat_ofNat']
      omega
    · rw [digits_ge (by omega)]
      intro c hc
      rcases List.mem_append.1 hc with hc | hc
      · exact ih (u / 10) (by omega) c hc
      · rw [List.mem_singleton.1 hc, UInt8.toNat_ofNat']
        omega
theorem parse_append (u : Nat) : ∀ r : List UInt8, u < 1000000000000000000 → Lib.parseUint10 0 (Lib.decDigits u ++ r) = Lib.parseUint10 u r := by
  induction u using Nat.strongRecOn with
  | ind u ih =>
    intro r hu
    by_cases h : u < 10
    · rw [Lib.decDigits_one h, List.singleton_append]
      simp only [Lib.parseUint10]
      have e : (UInt8.ofNat (48 + u)).toNat = 48 + u := by rw [UInt8.toNat_ofNat']; omega
      rw [e, if_pos (by omega), if_neg (by omega), if_neg (by omega)]
      congr 1; omega
    · rw [digits_ge (by omega), List.append_assoc, ih (u / 10) (by omega) _ (by omega), List.singleton_append]
      simp only [Lib.parseUint10]
      have e : (UInt8.ofNat (48 + u % 10)).toNat = 48 + u % 10 := by rw [UInt8.toNat_ofNat']; omega
      rw [e, if_pos (by omega), if_neg (by omega), if_neg (by omega)]
      congr 1; omega
theorem digits_ne (u : Nat) : Lib.decDigits u ≠ [] := by
  by_cases h : u < 10
  · rw [Lib.decDigits_one h]; simp
  · rw [digits_ge (by omega)]; simp
theorem parse_digits (u : Nat) (h : u < 1000000000000000000) : Lib.parseIntB 64 (Lib.decDigits u) = .ok (u : Int) := by
  rw [Lib.parseIntB_64]
  have hm : Lib.parseMag (Lib.decDigits u) = .ok u := by
    unfold Lib.parseMag
    rw [if_neg (digits_ne u)]
    have := parse_append u [] h
    rw [List.append_nil] at this
    rw [this]; rfl
  have ha := digits_all u
  have hn := digits_ne u
  cases hd : Lib.decDigits u with
  | nil => exact absurd hd hn
  | cons c r =>
    rw [hd] at hm ha
    have hc := ha c List.mem_cons_self
    rw [Lib.atoiAll_plain c r (by omega) (by omega), hm]
    unfold Lib.signless
    simp only []
    rw [if_neg (by omega)]
theorem digits_inj {p q : Nat} (hp : p < 1000000000000000000) (hq : q < 1000000000000000000) (h : Lib.decDigits p = Lib.decDigits q) : p = q := by
  have h1 := parse_digits p hp
  rw [h, parse_digits q hq] at h1
  injection h1 with h1
  omega
/-- What a token begins with. -/
def tokP (a : Nat) : ByteArray := ((⟨#[116]⟩ : ByteArray) ++ byt (Lib.decDigits a)) ++ (⟨#[45]⟩ : ByteArray)
theorem tokOf_eq (a p : Nat) : tokOf a p = tokP a ++ byt (Lib.decDigits p) := rfl
theorem ba_data_append (a b : ByteArray) : (a ++ b).data.toList = a.data.toList ++ b.data.toList := by simp
theorem ba_cancel {a b c : ByteArray} (h : a ++ b = a ++ c) : b = c := by
  have := congrArg (fun x : ByteArray => x.data.toList) h
  simp only [ba_data_append] at this
  exact by_ext (List.append_cancel_left this)
theorem byt_inj {l m : List UInt8} (h : byt l = byt m) : l = m := by
  have := congrArg (fun x : ByteArray => x.data.toList) h
  simpa [byt] using this
theorem tokOf_inj {a p q : Nat} (hp : p ≤ 120) (hq : q ≤ 120) (h : tokOf a p = tokOf a q) : p = q := by
  rw [tokOf_eq, tokOf_eq] at h
  exact digits_inj (by omega) (by omega) (byt_inj (ba_cancel h))
theorem ba_head (a u : ByteArray) : (a ++ u).extract 0 a.size = a := by
  apply by_ext
  rw [ByteArray.data_extract, Array.toList_extract, List.extract_eq_take_drop, ba_data_append, show a.size = a.data.toList.length from rfl, List.drop_zero, Nat.sub_zero, List.take_left]
theorem ba_tail (a u : ByteArray) : (a ++ u).extract a.size (a ++ u).size = u := by
  apply by_ext
  have e : (a ++ u).size = a.data.toList.length + u.data.toList.length := by rw [ByteArray.size_append]; rfl
  rw [ByteArray.data_extract, Array.toList_extract, List.extract_eq_take_drop, e, ba_data_append, show a.size = a.data.toList.length from rfl, Nat.add_sub_cancel_left, List.drop_left, List.take_length]
theorem ba_split (t : ByteArray) (n : Nat) (h : n ≤ t.size) : t = t.extract 0 n ++ t.extract n t.size := by
  rw [ByteArray.extract_append_extract]; simp
theorem ba_toList {a b : ByteArray} (h : a.toList = b.toList) : a = b := by
  rw [ByteArray.toList_eq, ByteArray.toList_eq] at h; exact by_ext h
theorem tokS_ok {a : Nat} {p : Nat} (ha : 1 ≤ a ∧ a ≤ 6) (hp : p ≤ 120) : tokS (a : Int) (p : Int) = tokOf a p := by
  unfold tokS; rw [if_pos (by omega), Int.toNat_natCast, Int.toNat_natCast]
theorem tokread_hit (a : Nat) (ha : 1 ≤ a ∧ a ≤ 6) (t : ByteArray) (q : Nat) (hq : q ≤ 120) (h : tokOf a q = t) (d : Nat) : ∀ p : Nat, p + d = q → Ev (fun k => spec_TokenRead.l0 k (a : Int) t (p : Int)) ((q : Int), 0, 0) := by
  induction d with
  | zero =>
    intro p hp
    obtain rfl : p = q := by omega
    refine Ev.step (f := fun k => spec_TokenRead.l0 (k + 1) (a : Int) t (p : Int)) (fun k => rfl) ?_
    simp only [spec_TokenRead.l0]
    exact Ev.pos (by omega) (Ev.bind (spec_tok_ev _ _) (Ev.pos (by rw [tokS_ok ha hq, h]) (Ev.now _)))
  | succ d ih =>
    intro p hp
    refine Ev.step (f := fun k => spec_TokenRead.l0 (k + 1) (a : Int) t (p : Int)) (fun k => rfl) ?_
    simp only [spec_TokenRead.l0]
    refine Ev.pos (by omega) (Ev.bind (spec_tok_ev _ _) (Ev.neg ?_ ?_))
    · rw [tokS_ok ha (by omega)]
      intro e
      have := tokOf_inj (by omega) hq ((ba_toList e).trans h.symm)
      omega
    · rw [show wrap64 ((p : Int) + 1) = ((p + 1 : Nat) : Int) from by unfold wrap64; omega]
      exact ih (p + 1) (by omega)
theorem tokread_miss (a : Nat) (ha : 1 ≤ a ∧ a ≤ 6) (t : ByteArray) (h : ∀ q, q ≤ 120 → tokOf a q ≠ t) (d : Nat) : ∀ p : Nat, p + d = 121 → Ev (fun k => spec_TokenRead.l0 k (a : Int) t (p : Int)) (0, 0, 3) := by
  induction d with
  | zero =>
    intro p hp
    refine Ev.one (fun k => ?_)
    simp only [spec_TokenRead.l0]
    rw [if_neg (by omega)]
  | succ d ih =>
    intro p hp
    refine Ev.step (f := fun k => spec_TokenRead.l0 (k + 1) (a : Int) t (p : Int)) (fun k => rfl) ?_
    simp only [spec_TokenRead.l0]
    refine Ev.pos (by omega) (Ev.bind (spec_tok_ev _ _) (Ev.neg ?_ ?_))
    · rw [tokS_ok ha (by omega)]
      exact fun e => h p (by omega) (ba_toList e)
    · rw [show wrap64 ((p : Int) + 1) = ((p + 1 : Nat) : Int) from by unfold wrap64; omega]
      exact ih (p + 1) (by omega)
theorem cut_hit (P u : ByteArray) : strings_CutPrefix.f (P ++ u) P = some (u, true) := by
  have hs : (P ++ u).size = P.size + u.size := ByteArray.size_append
  unfold strings_CutPrefix.f stringslite_CutPrefix.f stringslite_HasPrefix.f
  rw [if_pos (by omega), if_pos (by omega), if_pos (by omega), Int.toNat_natCast, ba_head]
  simp only [Option.bind_some, beq_self_eq_true, if_true]
  rw [if_pos (by omega), if_pos (by omega), ba_tail]
  rfl
theorem cut_any (t P : ByteArray) : (strings_CutPrefix.f t P = some (t, false)) ∨ ∃ u, t = P ++ u ∧ strings_CutPrefix.f t P = some (u, true) := by
  by_cases h : P.size ≤ t.size
  · by_cases e : (t.extract 0 P.size).toList = P.toList
    · refine Or.inr ⟨t.extract P.size t.size, ?_, ?_⟩
      · have := ba_split t P.size h
        rw [ba_toList e] at this
        exact this
      · have := ba_split t P.size h
        rw [ba_toList e] at this
        generalize t.extract P.size t.size = u at this
        subst this
        exact cut_hit P u
    · refine Or.inl ?_
      unfold strings_CutPrefix.f stringslite_CutPrefix.f stringslite_HasPrefix.f
      rw [if_pos (by omega), if_pos (by omega), if_pos (by omega), Int.toNat_natCast]
      simp only [Option.bind_some]
      rw [if_neg (by simpa using e)]
      rfl
  · refine Or.inl ?_
    unfold strings_CutPrefix.f stringslite_CutPrefix.f stringslite_HasPrefix.f
    rw [if_neg (by omega)]
    simp
theorem readDec_digits (p : Nat) (lo hi : Int) (hp : p < 1000000000000000000) : impl_readDec.f (byt (Lib.decDigits p)) lo hi = some ((p : Int), decide (lo ≤ (p : Int) ∧ (p : Int) ≤ hi)) := by
  unfold impl_readDec.f
  have hl := digits_len 18 p (by omega)
  rw [if_pos (by rw [byt_size]; omega)]
  have e : (byt (Lib.decDigits p)).data.toList = Lib.decDigits p := by simp [byt]
  rw [e, parse_digits p hp]
  show some ((p : Int), Lib.itoa (p : Int) == (byt (Lib.decDigits p)).toList && decide (lo ≤ (p : Int) ∧ (p : Int) ≤ hi)) = _
  rw [itoa_nat, ByteArray.toList_eq, e]
  simp
theorem readDec_any (s : ByteArray) (lo hi : Int) (h0 : 0 ≤ lo) (hs : s.size ≤ 281474976710656) : ∃ n b, impl_readDec.f s lo hi = some (n, b) ∧ (b = true → ∃ p : Nat, n = (p : Int) ∧ lo ≤ (p : Int) ∧ (p : Int) ≤ hi ∧ s = byt (Lib.decDigits p)) := by
  unfold impl_readDec.f
  rw [if_pos hs]
  cases hp : Lib.parseIntB 64 s.data.toList with
  | ok v =>
    refine ⟨_, _, rfl, ?_⟩
    intro h
    rw [Bool.and_eq_true, beq_iff_eq, decide_eq_true_iff] at h
    obtain ⟨h1, h2, h3⟩ := h
    refine ⟨v.toNat, by omega, by omega, by omega, ?_⟩
    have hv : v = ((v.toNat : Nat) : Int) := by omega
    rw [hv, itoa_nat, ByteArray.toList_eq] at h1
    apply by_ext
    rw [← h1]; simp [byt]
  | range => exact ⟨_, _, rfl, fun h => by cases h⟩
  | _ => exact ⟨_, _, rfl, fun h => by cases h⟩
theorem tokP_size (a : Nat) (ha : a ≤ 6) : (byt (Lib.decDigits a)).size ≤ 3 := (tok_sizes a 0 ha (by omega)).1
theorem tokread_ev (a : Int) (t : ByteArray) (ht : t.size ≤ 1048576) : ∃ r, Ev (fun k => spec_TokenRead.f k a t) r ∧ impl_TokenRead.f a t = some r := by
  unfold spec_TokenRead.f impl_TokenRead.f spec_l02User.f impl_isUser.f
  rw [is_eq, in_eq]
  simp only [Option.bind_some]
  by_cases c8 : (t.size : Int) > 8000
  · exact ⟨_, Ev.pos c8 (Ev.now _), by rw [if_pos c8]⟩
  rw [if_neg c8]
  by_cases cu : 1 ≤ a ∧ a ≤ 6
  · rw [if_pos (by simpa using cu)]
    by_cases ce : t.toList = ([] : List UInt8)
    · exact ⟨_, Ev.neg c8 (Ev.pos (by simpa using cu) (Ev.pos ce (Ev.now _))), by rw [if_pos ce]⟩
    rw [if_neg ce]
    obtain ⟨n, rfl⟩ : ∃ n : Nat, a = (n : Int) := ⟨a.toNat, by omega⟩
    have hn : 1 ≤ n ∧ n ≤ 6 := by omega
    have hsz := tokP_size n (by omega)
    rw [impl_dec_eq n (by omega)]
    simp only [Option.bind_some]
    rw [if_pos (by omega), if_pos (by rw [ByteArray.size_append, one_size.1]; omega)]
    by_cases hq : ∃ q, q ≤ 120 ∧ tokOf n q = t
    · obtain ⟨q, h1, h2⟩ := hq
      refine ⟨((q : Int), 0, 0), Ev.neg c8 (Ev.pos (by simpa using cu) (Ev.neg ce (tokread_hit n hn t q h1 h2 q 0 (by omega)))), ?_⟩
      rw [← h2, tokOf_eq]
      show ((strings_CutPrefix.f (tokP n ++ byt (Lib.decDigits q)) (tokP n)).bind _) = _
      rw [cut_hit]
      simp only [Option.bind_some]
      rw [readDec_digits q 0 120 (by omega)]
      simp only [Option.bind_some]
      rw [if_pos trivial, if_pos (by simp; omega)]
    · have hm : ∀ q, q ≤ 120 → tokOf n q ≠ t := fun q h1 h2 => hq ⟨q, h1, h2⟩
      refine ⟨(0, 0, 3), Ev.neg c8 (Ev.pos (by simpa using cu) (Ev.neg ce (tokread_miss n hn t hm 121 0 (by omega)))), ?_⟩
      show ((strings_CutPrefix.f t (tokP n)).bind _) = _
      rcases cut_any t (tokP n) with h | ⟨u, hu, h⟩
      · rw [h]
        obtain ⟨m, b, hr, _⟩ := readDec_any t 0 120 (by omega) (by omega)
        simp only [Option.bind_some]
        rw [hr]
        simp
      · rw [h]
        have hus : u.size ≤ 281474976710656 := by
          have := congrArg ByteArray.size hu
          rw [ByteArray.size_append] at this; omega
        obtain ⟨m, b, hr, hb⟩ := readDec_any u 0 120 (by omega) hus
        simp only [Option.bind_some]
        rw [hr]
        simp only [Option.bind_some, if_true]
        cases b with
        | false => simp
        | true =>
          obtain ⟨p, _, h1, h2, h3⟩ := hb rfl
          exact absurd (by rw [hu, h3, tokOf_eq]) (hm p (by omega))
  · refine ⟨(0, 0, 1), Ev.neg c8 (Ev.neg (by simpa using cu) (Ev.now _)), ?_⟩
    rw [if_neg (by simpa using cu)]
/-! Entries: their order, valid states. -/
abbrev En := S41
abbrev EnL := S48
def toEn (x : EnL) : En := ⟨x.f0, x.f1, x.f2⟩
theorem en_at {l : List En} {i : Nat} (h : i < l.length) : rd_T41 l (i : Int) = l[i] := getD_at _ h
theorem enL_at {l : List EnL} {i : Nat} (h : i < l.length) : rd_T48 l (i : Int) = l[i] := getD_at _ h
def cmpI (a b : Int) : Int := if a < b then -1 else if a > b then 1 else 0
theorem compare_eq (a b : Int) : cmp_Compare_int64.f a b = some (cmpI a b) := by
  unfold cmp_Compare_int64.f cmp_isNaN_int64.f cmpI
  simp only [Option.bind_some, bne_self_eq_false]
  rw [if_neg (by simp), if_neg (by simp)]
  split
  · rfl
  · split <;> rfl
def orI (a b : Int) : Int := if a = 0 then b else a
theorem or_ev (a b : Int) : Ev (fun k => cmp_Or_int.f k [a, b]) (orI a b) := by
  unfold cmp_Or_int.f orI
  by_cases ha : a = 0
  · rw [if_pos ha]
    refine Ev.step (f := fun k => cmp_Or_int.l0 k 0 [a, b] 2 1) (fun k => ?_) ?_
    · simp only [cmp_Or_int.l0]
      rw [if_pos (by simp), if_pos (by omega), if_pos (by simp), if_pos (by simpa [rd] using ha), show wrap64 (0 + 1) = 1 from by unfold wrap64; omega]; rfl
    · by_cases hb : b = 0
      · refine Ev.step (f := fun k => cmp_Or_int.l0 k 0 [a, b] 2 2) (fun k => ?_) (Ev.one (fun k => ?_))
        · simp only [cmp_Or_int.l0]
          rw [if_pos (by omega), if_pos (by omega), if_pos (by simp), if_pos (by simpa [rd] using hb), show wrap64 (1 + 1) = 2 from by unfold wrap64; omega]
        · simp only [cmp_Or_int.l0]
          rw [if_neg (by omega), hb]
      · refine Ev.one (fun k => ?_)
        simp only [cmp_Or_int.l0]
        rw [if_pos (by omega), if_pos (by omega), if_pos (by simp), if_neg (by simpa [rd] using hb)]; rfl
  · rw [if_neg ha]
    refine Ev.one (fun k => ?_)
    simp only [cmp_Or_int.l0]
    rw [if_pos (by simp), if_pos (by omega), if_pos (by simp), if_neg (by simpa [rd] using ha)]; rfl
def ordE (x y : En) : Int := orI (cmpI x.f0 y.f0) (cmpI x.f1 y.f1)
theorem order_ev (x y : En) : Ev (fun k => impl_Entry_order.f k x.f0 x.f1 x.f2 y.f0 y.f1 y.f2) (ordE x y) := by
  unfold impl_Entry_order.f
  exact Ev.take (compare_eq _ _) (Ev.take (compare_eq _ _) (Ev.bind (or_ev _ _) (Ev.now _)))
def ltE (x y : En) : Prop := x.f0 < y.f0 ∨ x.f0 = y.f0 ∧ x.f1 < y.f1
instance (x y : En) : Decidable (ltE x y) := by unfold ltE; exact inferInstance
theorem ordE_neg (x y : En) : ordE x y < 0 ↔ ltE x y := by
  unfold ordE ltE orI cmpI; repeat' split
  all_goals omega
theorem ordE_zero (x y : En) : ordE x y = 0 ↔ x.f0 = y.f0 ∧ x.f1 = y.f1 := by
  unfold ordE orI cmpI; repeat' split
  all_goals omega
theorem l04Less_eq (x y : En) : spec_l04Less.f x.f0 x.f1 x.f2 y.f0 y.f1 y.f2 = some (decide (ltE x y)) := by
  unfold spec_l04Less.f
  by_cases h : x.f0 < y.f0
  · rw [if_pos h]; congr 1; exact (decide_eq_true (show ltE x y from Or.inl h)).symm
  · rw [if_neg h]
    by_cases h2 : x.f0 = y.f0
    · rw [if_pos h2]; congr 1; rw [decide_eq_decide]; unfold ltE; omega
    · rw [if_neg h2, decide_eq_false (by unfold ltE; omega)]
def enOk (least : Int) (x : En) : Bool := decide ((1 ≤ x.f0 ∧ x.f0 ≤ 6) ∧ (0 ≤ x.f1 ∧ x.f1 ≤ 6) ∧ (least ≤ x.f2 ∧ x.f2 ≤ 1000000))
def stFrom : Option En → List En → Bool
  | _, [] => true
  | p, x :: r => (enOk 1 x && (match p with | none => true | some q => decide (ltE q x))) && stFrom (some x) r
def stRight (l : List En) : Bool := decide (l.length ≤ 400) && stFrom none l

/-! ### the laws' own helpers -/
theorem szEntryS_eq (l : List EnL) (a : Int) (ha : -1 ≤ a) (h : a ≤ 1048576) (hn : l.length ≤ 9223372036854775807) :
    laws_szEntryS.f l a = some (if a < l.length then -1 else a - l.length) := by
  unfold laws_szEntryS.f
  rw [w64 (by omega) (by omega)]
  by_cases c : a < l.length
  · rw [if_pos (by omega), if_pos c]
  · rw [if_neg (by omega), if_neg c]
theorem toEntry_eq (a b c : Int) : laws_toEntry.f a b c = some (a, b, c) := rfl
theorem toEntryS_l0 (l : List EnL) (hl : l.length ≤ 1048576) (d : Nat) : ∀ (i : Nat) (acc : List En), i + d = l.length → acc.length = l.length → acc.take i = (l.take i).map toEn →
    Ev (fun k => laws_toEntryS.l0 k l acc (i : Int)) (l.map toEn) := by
  induction d with
  | zero =>
    intro i acc hi ha hp
    refine Ev.to ?_ (Ev.one (r := acc) (fun k => ?_))
    · rw [List.take_of_length_le (by omega), List.take_of_length_le (by omega)] at hp
      exact hp
    · simp only [laws_toEntryS.l0]
      rw [if_neg (by omega)]
  | succ d ih =>
    intro i acc hi ha hp
    have hlt : i < l.length := by omega
    refine Ev.step (f := fun k => laws_toEntryS.l0 k l (acc.set i (toEn l[i])) ((i + 1 : Nat) : Int)) (fun k => ?_) (ih (i + 1) (acc.set i (toEn l[i])) (by omega) (by simpa using ha) ?_)
    · simp only [laws_toEntryS.l0]
      rw [if_pos (by omega), if_pos (by omega), enL_at hlt, toEntry_eq]
      simp only [Option.bind_some]
      rw [if_pos (by omega), w64 (by omega) (by omega), Int.toNat_natCast]
      rfl
    · rw [List.take_succ_eq_append_getElem (by simp; omega), List.take_succ_eq_append_getElem hlt, List.map_append, ← hp, List.take_set_of_le (by omega)]
      simp
theorem toEntryS_ev (l : List EnL) (hl : l.length ≤ 1048576) : Ev (fun k => laws_toEntryS.f k l) (l.map toEn) := by
  unfold laws_toEntryS.f
  refine Ev.pos (by omega) (Ev.pos (by simp; omega) ?_)
  exact toEntryS_l0 l hl l.length 0 _ (by omega) (by simp) (by simp)
theorem eqEntry_self (a b c : Int) : laws_eqEntry.f a b c a b c = some true := by unfold laws_eqEntry.f; simp
theorem eqEntryS_l0 (l : List En) (hl : l.length ≤ 9223372036854775806) (d : Nat) : ∀ i : Nat, i + d = l.length → Ev (fun k => laws_eqEntryS.l0 k l l (i : Int)) true := by
  induction d with
  | zero =>
    intro i hi
    refine Ev.one (fun k => ?_)
    simp only [laws_eqEntryS.l0]
    rw [if_neg (by omega)]
  | succ d ih =>
    intro i hi
    refine Ev.step (f := fun k => laws_eqEntryS.l0 k l l ((i + 1 : Nat) : Int)) (fun k => ?_) (ih (i + 1) (by omega))
    simp only [laws_eqEntryS.l0]
    rw [if_pos (by omega), if_pos (by omega), if_pos (by omega), eqEntry_self]
    simp only [Option.bind_some, if_true]
    rw [w64 (by omega) (by omega)]; rfl
theorem eqEntryS_ev (l : List En) (hl : l.length ≤ 9223372036854775806) : Ev (fun k => laws_eqEntryS.f k l l) true := by
  unfold laws_eqEntryS.f
  exact Ev.pos rfl (eqEntryS_l0 l hl l.length 0 (by omega))

/-! A session, valid. -/
theorem room_i (a : Int) : impl_isRoom.f a = some (decide (1 ≤ a ∧ a ≤ 3)) := by unfold impl_isRoom.f; rw [in_eq]; rfl
theorem user_i (a : Int) : impl_isUser.f a = some (decide (1 ≤ a ∧ a ≤ 6)) := by unfold impl_isUser.f; rw [in_eq]; rfl
theorem time_i (a : Int) : impl_isTime.f a = some (decide (0 ≤ a ∧ a ≤ 1000000)) := by unfold impl_isTime.f; rw [in_eq]; rfl
theorem room_s (a : Int) : spec_l08Room.f a = some (decide (1 ≤ a ∧ a ≤ 3)) := by unfold spec_l08Room.f; rw [is_eq]; rfl
theorem user_s (a : Int) : spec_l02User.f a = some (decide (1 ≤ a ∧ a ≤ 6)) := by unfold spec_l02User.f; rw [is_eq]; rfl
def snOk (x : En) : Bool := decide (1 ≤ x.f0 ∧ x.f0 ≤ 3) && (decide (1 ≤ x.f1 ∧ x.f1 ≤ 6) && decide (0 ≤ x.f2 ∧ x.f2 ≤ 1000000))
def rdE (l : List En) (i : Nat) : En := rd_T41 l (i : Int)
def snUp (l : List En) (i : Nat) : Bool := decide (i = 0) || decide (ltE (rdE l (i - 1)) (rdE l i))
def snGo (l : List En) : Nat → Nat → Bool
  | 0, _ => true
  | d + 1, i => (snOk (rdE l i) && snUp l i) && snGo l d (i + 1)
theorem spec_sent_step (l : List En) (hl : l.length ≤ 9223372036854775806) {i : Nat} (hlt : i < l.length) (k : Nat) : spec_l12Sent.l0 (k + 1) l (i : Int) = if (snOk (rdE l i) && snUp l i) = true then spec_l12Sent.l0 k l ((i + 1 : Nat) : Int) else some false := by
  have hw : wrap64 ((i : Int) + 1) = ((i + 1 : Nat) : Int) := w64 (by omega) (by omega)
  simp only [spec_l12Sent.l0]
  rw [if_pos (by omega), if_pos (by omega), room_s, user_s, is_eq, hw]
  unfold snOk snUp
  show _ = _
  simp only [Option.bind_some]
  by_cases z : i = 0
  · rw [if_neg (by omega : ¬ (i : Int) > 0)]
    unfold rdE
    by_cases h0 : 1 ≤ (rd_T41 l (i : Int)).f0 ∧ (rd_T41 l (i : Int)).f0 ≤ 3
    · by_cases h1 : 1 ≤ (rd_T41 l (i : Int)).f1 ∧ (rd_T41 l (i : Int)).f1 ≤ 6
      · by_cases h2 : 0 ≤ (rd_T41 l (i : Int)).f2 ∧ (rd_T41 l (i : Int)).f2 ≤ 1000000
        · simp only [decide_eq_true h0, decide_eq_true h1, decide_eq_true h2, decide_eq_true z, Bool.true_and, Bool.true_or, Bool.and_true, if_true]
        · simp only [decide_eq_true h0, decide_eq_true h1, decide_eq_false h2, Bool.true_and, Bool.false_and, Bool.false_eq_true, if_true, if_false]
      · simp only [decide_eq_true h0, decide_eq_false h1, Bool.true_and, Bool.false_and, Bool.false_eq_true, if_true, if_false]
    · simp only [decide_eq_false h0, Bool.false_and, Bool.false_eq_true, if_false]
  · have e1 : wrap64 ((i : Int) - 1) = ((i - 1 : Nat) : Int) := by unfold wrap64; omega
    rw [if_pos (by omega : (i : Int) > 0), e1, if_pos (by omega : (0 : Int) ≤ ((i - 1 : Nat) : Int)), if_pos (by omega : ((i - 1 : Nat) : Int) < (l.length : Int)), l04Less_eq]
    unfold rdE
    simp only [Option.bind_some]
    by_cases h0 : 1 ≤ (rd_T41 l (i : Int)).f0 ∧ (rd_T41 l (i : Int)).f0 ≤ 3
    · by_cases h1 : 1 ≤ (rd_T41 l (i : Int)).f1 ∧ (rd_T41 l (i : Int)).f1 ≤ 6
      · by_cases h2 : 0 ≤ (rd_T41 l (i : Int)).f2 ∧ (rd_T41 l (i : Int)).f2 ≤ 1000000
        · simp only [decide_eq_true h0, decide_eq_true h1, decide_eq_true h2, decide_eq_false z, Bool.true_and, Bool.false_or, if_true]
        · simp only [decide_eq_true h0, decide_eq_true h1, decide_eq_false h2, Bool.true_and, Bool.false_and, Bool.false_eq_true, if_true, if_false]
      · simp only [decide_eq_true h0, decide_eq_false h1, Bool.true_and, Bool.false_and, Bool.false_eq_true, if_true, if_false]
    · simp only [decide_eq_false h0, Bool.false_and, Bool.false_eq_true, if_false]
theorem spec_sent_l0 (l : List En) (hl : l.length ≤ 9223372036854775806) (d : Nat) : ∀ i : Nat, i + d = l.length → Ev (fun k => spec_l12Sent.l0 k l (i : Int)) (snGo l d i) := by
  induction d with
  | zero =>
    intro i hi
    refine Ev.one (fun k => ?_)
    simp only [spec_l12Sent.l0]
    rw [if_neg (by omega)]; rfl
  | succ d ih =>
    intro i hi
    have hlt : i < l.length := by omega
    unfold snGo
    by_cases c : (snOk (rdE l i) && snUp l i) = true
    · refine Ev.step (f := fun k => spec_l12Sent.l0 k l ((i + 1 : Nat) : Int)) (fun k => by rw [spec_sent_step l hl hlt, if_pos c]) (Ev.to ?_ (ih (i + 1) (by omega)))
      rw [c, Bool.true_and]
    · refine Ev.one (fun k => ?_)
      rw [spec_sent_step l hl hlt, if_neg c]
      rw [Bool.eq_false_iff.2 c, Bool.false_and]
theorem sent_ev (l : List En) (hl : l.length ≤ 9223372036854775806) : Ev (fun k => spec_l12Sent.f k l) (decide (l.length ≤ 400) && snGo l l.length 0) := by
  unfold spec_l12Sent.f
  by_cases c : (l.length : Int) > 400
  · refine Ev.pos c (Ev.to ?_ (Ev.now _))
    rw [decide_eq_false (by omega), Bool.false_and]
  · refine Ev.neg c (Ev.to ?_ (spec_sent_l0 l hl l.length 0 (by omega)))
    rw [decide_eq_true (by omega), Bool.true_and]
theorem impl_sess_step (l : List En) (a : Int) (t : ByteArray) (hl : l.length ≤ 9223372036854775806) {i : Nat} (hlt : i < l.length) (k : Nat) : impl_SessionRight.l0 (k + 1) l (l.length : Int) (i : Int) a t l = if snOk (rdE l i) = true then (if i = 0 then impl_SessionRight.l0 k l (l.length : Int) ((i + 1 : Nat) : Int) a t l else (impl_Entry_order.f k (rdE l (i - 1)).f0 (rdE l (i - 1)).f1 (rdE l (i - 1)).f2 (rdE l i).f0 (rdE l i).f1 (rdE l i).f2).bind fun q => if q ≥ 0 then some false else impl_SessionRight.l0 k l (l.length : Int) ((i + 1 : Nat) : Int) a t l) else some false := by
  have hw : wrap64 ((i : Int) + 1) = ((i + 1 : Nat) : Int) := w64 (by omega) (by omega)
  simp only [impl_SessionRight.l0]
  rw [if_pos (by omega), if_pos (by omega), if_pos (by omega), room_i, user_i, time_i, hw]
  unfold snOk
  simp only [Option.bind_some]
  unfold rdE
  by_cases z : i = 0
  · rw [if_neg (by omega : ¬ (i : Int) > 0), if_pos z]
    by_cases h0 : 1 ≤ (rd_T41 l (i : Int)).f0 ∧ (rd_T41 l (i : Int)).f0 ≤ 3
    · by_cases h1 : 1 ≤ (rd_T41 l (i : Int)).f1 ∧ (rd_T41 l (i : Int)).f1 ≤ 6
      · by_cases h2 : 0 ≤ (rd_T41 l (i : Int)).f2 ∧ (rd_T41 l (i : Int)).f2 ≤ 1000000
        · simp only [decide_eq_true h0, decide_eq_true h1, decide_eq_true h2, Bool.true_and, if_true]
        · simp only [decide_eq_true h0, decide_eq_true h1, decide_eq_false h2, Bool.true_and, Bool.false_and, Bool.false_eq_true, if_true, if_false]
      · simp only [decide_eq_true h0, decide_eq_false h1, Bool.true_and, Bool.false_and, Bool.false_eq_true, if_true, if_false]
    · simp only [decide_eq_false h0, Bool.false_and, Bool.false_eq_true, if_false]
  · have e1 : wrap64 ((i : Int) - 1) = ((i - 1 : Nat) : Int) := by unfold wrap64; omega
    rw [if_pos (by omega : (i : Int) > 0), e1, if_pos (by omega : (0 : Int) ≤ ((i - 1 : Nat) : Int)), if_pos (by omega : ((i - 1 : Nat) : Int) < (l.length : Int)), if_neg z]
    by_cases h0 : 1 ≤ (rd_T41 l (i : Int)).f0 ∧ (rd_T41 l (i : Int)).f0 ≤ 3
    · by_cases h1 : 1 ≤ (rd_T41 l (i : Int)).f1 ∧ (rd_T41 l (i : Int)).f1 ≤ 6
      · by_cases h2 : 0 ≤ (rd_T41 l (i : Int)).f2 ∧ (rd_T41 l (i : Int)).f2 ≤ 1000000
        · simp only [decide_eq_true h0, decide_eq_true h1, decide_eq_true h2, Bool.true_and, if_true]
        · simp only [decide_eq_true h0, decide_eq_true h1, decide_eq_false h2, Bool.true_and, Bool.false_and, Bool.false_eq_true, if_true, if_false]
      · simp only [decide_eq_true h0, decide_eq_false h1, Bool.true_and, Bool.false_and, Bool.false_eq_true, if_true, if_false]
    · simp only [decide_eq_false h0, Bool.false_and, Bool.false_eq_true, if_false]
theorem impl_sess_l0 (l : List En) (a : Int) (t : ByteArray) (R : Int × Int × Int) (hR : impl_TokenRead.f a t = some R) (hl : l.length ≤ 9223372036854775806) (d : Nat) : ∀ i : Nat, i + d = l.length →
    Ev (fun k => impl_SessionRight.l0 k l (l.length : Int) (i : Int) a t l) (snGo l d i && (decide (R.2.2 = 0) && decide (l.length ≤ 400))) := by
  induction d with
  | zero =>
    intro i hi
    refine Ev.one (fun k => ?_)
    simp only [impl_SessionRight.l0]
    rw [if_neg (by omega), hR]
    simp only [Option.bind_some]
    unfold snGo
    rw [Bool.true_and]
    by_cases z : R.2.2 = 0
    · rw [if_pos z, decide_eq_true z, Bool.true_and]
      by_cases q : l.length ≤ 400
      · rw [decide_eq_true q, decide_eq_true (by omega)]
      · rw [decide_eq_false q, decide_eq_false (by omega)]
    · rw [if_neg z, decide_eq_false z, Bool.false_and]
  | succ d ih =>
    intro i hi
    have hlt : i < l.length := by omega
    unfold snGo
    by_cases c : snOk (rdE l i) = true
    · rw [c, Bool.true_and]
      by_cases z : i = 0
      · refine Ev.step (f := fun k => impl_SessionRight.l0 k l (l.length : Int) ((i + 1 : Nat) : Int) a t l) (fun k => by rw [impl_sess_step l a t hl hlt, if_pos c, if_pos z]) (Ev.to ?_ (ih (i + 1) (by omega)))
        unfold snUp
        rw [decide_eq_true z, Bool.true_or, Bool.true_and]
      · refine Ev.step (f := fun k => (impl_Entry_order.f k (rdE l (i - 1)).f0 (rdE l (i - 1)).f1 (rdE l (i - 1)).f2 (rdE l i).f0 (rdE l i).f1 (rdE l i).f2).bind fun q => if q ≥ 0 then some false else impl_SessionRight.l0 k l (l.length : Int) ((i + 1 : Nat) : Int) a t l) (fun k => by rw [impl_sess_step l a t hl hlt, if_pos c, if_neg z]) (Ev.bind (order_ev (rdE l (i - 1)) (rdE l i)) ?_)
        have ho := ordE_neg (rdE l (i - 1)) (rdE l i)
        unfold snUp
        rw [decide_eq_false z, Bool.false_or]
        by_cases q : ltE (rdE l (i - 1)) (rdE l i)
        · rw [decide_eq_true q, Bool.true_and]
          have := ho.2 q
          exact Ev.neg (by omega) (ih (i + 1) (by omega))
        · rw [decide_eq_false q, Bool.false_and, Bool.false_and]
          have : ¬ ordE (rdE l (i - 1)) (rdE l i) < 0 := fun h => q (ho.1 h)
          exact Ev.pos (by omega) (Ev.now _)
    · refine Ev.one (fun k => ?_)
      rw [impl_sess_step l a t hl hlt, if_neg c]
      rw [Bool.eq_false_iff.2 c, Bool.false_and, Bool.false_and, Bool.false_and]
theorem tok_bad {a : Int} {t : ByteArray} {R : Int × Int × Int} (h2 : impl_TokenRead.f a t = some R) (h : ¬ ((1 ≤ a ∧ a ≤ 6) ∧ (t.size : Int) ≤ 8000)) : ¬ R.2.2 = 0 := by
  unfold impl_TokenRead.f at h2
  by_cases s : (t.size : Int) > 8000
  · rw [if_pos s] at h2
    cases h2
    decide
  · rw [if_neg s, user_i, decide_eq_false (fun u => h ⟨u, by omega⟩)] at h2
    simp only [Option.bind_some, Bool.false_eq_true, if_false] at h2
    cases h2
    decide
theorem session_ev (a : Int) (t : ByteArray) (l : List En) (ht : t.size ≤ 1048576) (hl : l.length ≤ 9223372036854775806) : ∃ r, Ev (fun k => spec_SessionRight.f k a t l) r ∧ Ev (fun k => impl_SessionRight.f k a t l) r := by
  obtain ⟨R, h1, h2⟩ := tokread_ev a t ht
  refine ⟨snGo l l.length 0 && (decide (R.2.2 = 0) && decide (l.length ≤ 400)), ?_, ?_⟩
  · unfold spec_SessionRight.f
    refine Ev.take (user_s a) ?_
    by_cases u : 1 ≤ a ∧ a ≤ 6
    · refine Ev.pos (decide_eq_true u) ?_
      by_cases s : (t.size : Int) ≤ 8000
      · refine Ev.pos s (Ev.bind h1 ?_)
        by_cases z : R.2.2 = 0
        · refine Ev.pos z (Ev.bind (sent_ev l hl) (Ev.to ?_ (Ev.now _)))
          rw [decide_eq_true z, Bool.true_and, Bool.and_comm]
        · refine Ev.neg z (Ev.to ?_ (Ev.now _))
          rw [decide_eq_false z, Bool.false_and, Bool.and_false]
      · refine Ev.neg s (Ev.to ?_ (Ev.now _))
        rw [decide_eq_false (tok_bad h2 (fun h => s h.2)), Bool.false_and, Bool.and_false]
    · refine Ev.neg (by rw [decide_eq_false u]; decide) (Ev.to ?_ (Ev.now _))
      rw [decide_eq_false (tok_bad h2 (fun h => u h.1)), Bool.false_and, Bool.and_false]
  · unfold impl_SessionRight.f
    exact impl_sess_l0 l a t R h2 hl l.length 0 (by omega)
theorem toSession_ev (a : Int) (t : ByteArray) (l : List EnL) (hl : l.length ≤ 1048576) : Ev (fun k => laws_toSession.f k a t l) (a, t, l.map toEn) := by
  unfold laws_toSession.f
  exact Ev.bind (toEntryS_ev l hl) (Ev.now _)
theorem eqSession_ev (a : Int) (t : ByteArray) (l : List En) (hl : l.length ≤ 9223372036854775806) : Ev (fun k => laws_eqSession.f k a t l a t l) true := by
  unfold laws_eqSession.f
  exact Ev.pos rfl (Ev.pos rfl (Ev.bind (eqEntryS_ev l hl) (Ev.pos rfl (Ev.now _))))


end Go.Proofs.YtahkcifbclloiaaDoor.Print
