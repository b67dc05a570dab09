/- Lemmas: an act, read. -/
import Derived.Test.YtloknnlmflamgaaDoorLemSF1
namespace Go.Proofs.YtloknnlmflamgaaDoor.Print
open Go.RowKit Go.Proofs.YtloknnlmflamgaaDoorW.PrintWords Go.Proofs.YtloknnlmflamgaaDoorW.PrintLast Go.Proofs.YtloknnlmflamgaaDoorW.PrintMore
set_option linter.unusedVariables false
set_option linter.unusedSimpArgs false

/-! An act, read: marks; numbers of at most nine digits. -/
def marked (a : Int) (n : Nat) : List Int := (List.range n).map fun (j : Nat) => a + (j : Int)
theorem marked_len (a : Int) (n : Nat) : (marked a n).length = n := by simp [marked]
theorem marked_get (a : Int) (n j : Nat) (h : j < n) : (marked a n)[j]? = some (a + (j : Int)) := by
  simp [marked, List.getElem?_map, List.getElem?_range, h]
/-- The value of digits behind a value. -/
def valOf (acc : Nat) : List UInt8 → Nat
  | [] => acc
  | c :: r => valOf (10 * acc + (c.toNat - 48)) r
theorem valOf_append (l : List UInt8) (c : UInt8) : ∀ acc, valOf acc (l ++ [c]) = 10 * valOf acc l + (c.toNat - 48) := by
  induction l with
  | nil => intro acc; rfl
  | cons x r ih => intro acc; exact ih _
def isDig (c : UInt8) : Prop := 48 ≤ c.toNat ∧ c.toNat ≤ 57
theorem u8_of (c : UInt8) (h : isDig c) : UInt8.ofNat (48 + (c.toNat - 48)) = c := by
  rw [show 48 + (c.toNat - 48) = c.toNat by have := h.1; omega]; simp
theorem valOf_pos (l : List UInt8) : ∀ acc, 0 < acc → 0 < valOf acc l := by
  induction l with
  | nil => intro acc h; exact h
  | cons c r ih => intro acc h; exact ih _ (by omega)
theorem valOf_head (c : UInt8) (r : List UInt8) (hc : isDig c) (h : c.toNat ≠ 48) : 0 < valOf 0 (c :: r) := valOf_pos r _ (by have := hc.1; omega)
theorem digits_val (n : Nat) : ∀ l : List UInt8, l.length = n → l ≠ [] → (∀ c ∈ l, isDig c) → (∀ c r, l = c :: r → r ≠ [] → c.toNat ≠ 48) → Lib.decDigits (valOf 0 l) = l := by
  induction n with
  | zero => intro l hl hn; exact absurd (List.eq_nil_of_length_eq_zero hl) hn
  | succ n ih =>
    intro l hl hn hd hh
    rcases List.eq_nil_or_concat l with h | ⟨l', c, h⟩
    · exact absurd h hn
    · rw [List.concat_eq_append] at h
      subst h
      have hc : isDig c := hd c (by simp)
      rw [valOf_append]
      by_cases e : l' = []
      · subst e
        rw [show valOf 0 [] = 0 from rfl, Nat.mul_zero, Nat.zero_add, Lib.decDigits_one (by have := hc.2; omega), u8_of c hc]; rfl
      · obtain ⟨x, r, hx⟩ := List.exists_cons_of_ne_nil e
        have hx48 : x.toNat ≠ 48 := hh x (r ++ [c]) (by rw [hx]; rfl) (by simp)
        have hp : 0 < valOf 0 l' := by rw [hx]; exact valOf_head x r (hd x (by rw [hx]; simp)) hx48
        have hc2 := hc.1
        have hc3 := hc.2
        rw [digits_ge (by omega), show (10 * valOf 0 l' + (c.toNat - 48)) / 10 = valOf 0 l' by omega, show (10 * valOf 0 l' + (c.toNat - 48)) % 10 = c.toNat - 48 by omega, u8_of c hc,
          ih l' (by rw [List.length_append] at hl; simpa using hl) e (fun y hy => hd y (by simp [hy])) (fun y s hy hs => ?_)]
        rw [hx] at hy
        injection hy with h1 h2
        rw [← h1]; exact hx48
theorem valOf_digits (u : Nat) : valOf 0 (Lib.decDigits u) = u := by
  induction u using Nat.strongRecOn with
  | ind u ih =>
    by_cases h : u < 10
    · rw [Lib.decDigits_one h]
      show 10 * 0 + ((UInt8.ofNat (48 + u)).toNat - 48) = u
      rw [UInt8.toNat_ofNat']; omega
    · rw [digits_ge (by omega), valOf_append, ih (u / 10) (by omega), UInt8.toNat_ofNat']; omega
theorem digits_head (u : Nat) : 0 < u → ∀ c r, Lib.decDigits u = c :: r → c.toNat ≠ 48 := by
  induction u using Nat.strongRecOn with
  | ind u ih =>
    intro h0 c r hc
    by_cases h : u < 10
    · rw [Lib.decDigits_one h] at hc
      injection hc with h1 _
      rw [← h1, UInt8.toNat_ofNat']; omega
    · rw [digits_ge (by omega)] at hc
      obtain ⟨x, s, hx⟩ := List.exists_cons_of_ne_nil (digits_ne (u / 10))
      have := ih (u / 10) (by omega) (by omega) x s hx
      rw [hx] at hc
      injection hc with h1 _
      rw [← h1]; exact this

/-! A text cut at each blank: both sides alike. -/
def blankS : ByteArray := ⟨#[32]⟩
theorem blank_ix (u : ByteArray) : Lib.indexB u blankS = Lib.indexByte u.data.toList 32 := Lib.index_one _ _
theorem ex_get (t : ByteArray) (f e j : Nat) (h : f + j < e) (he : e ≤ t.size) : (t.extract f e).data.toList[j]? = t.data.toList[f + j]? := by
  rw [ByteArray.data_extract, Array.toList_extract, List.extract_eq_take_drop, List.getElem?_take_of_lt (by omega), List.getElem?_drop]
theorem bt_get {t : ByteArray} {i : Nat} {c : UInt8} (h : t.data.toList[i]? = some c) : bt t (i : Int) = (c.toNat : Int) := by
  have hlt : i < t.data.toList.length := by
    rcases Nat.lt_or_ge i t.data.toList.length with h2 | h2
    · exact h2
    · rw [List.getElem?_eq_none h2] at h; cases h
  rw [bt_at (by simpa using hlt)]
  rw [List.getElem?_eq_getElem hlt] at h
  rw [Option.some.inj h]
theorem split_walk (t : ByteArray) (ht : t.size ≤ 8000) (acc : List ByteArray) (f : Nat) (r : List ByteArray) (m : Nat) : ∀ i : Nat, i + m ≤ t.size → (∀ j, i ≤ j → j < i + m → t.data.toList[j]? ≠ some 32) →
    Ev (fun k => spec_l01Split.l0 k t 32 acc (f : Int) ((i + m : Nat) : Int)) r → Ev (fun k => spec_l01Split.l0 k t 32 acc (f : Int) (i : Int)) r := by
  induction m with
  | zero => intro i _ _ h; exact h
  | succ m ih =>
    intro i hi hn h
    refine Ev.step (f := fun k => spec_l01Split.l0 k t 32 acc (f : Int) ((i + 1 : Nat) : Int)) (fun k => ?_) (ih (i + 1) (by omega) (fun j h1 h2 => hn j (by omega) (by omega)) (by rw [show i + 1 + m = i + (m + 1) by omega]; exact h))
    simp only [spec_l01Split.l0]
    have hlt : i < t.data.toList.length := by simp; omega
    have hc : bt t (i : Int) ≠ 32 := by
      have h0 := hn i (by omega) (by omega)
      rw [bt_get (List.getElem?_eq_getElem hlt)]
      rw [List.getElem?_eq_getElem hlt] at h0
      intro e
      apply h0
      congr 1
      apply UInt8.toNat_inj.1
      show _ = 32
      omega
    rw [if_pos (by omega), if_pos (by omega), if_neg hc, show wrap64 ((i : Int) + 1) = ((i + 1 : Nat) : Int) from by unfold wrap64; omega]
theorem ex_ex (t : ByteArray) (f a b : Nat) (h : f + b ≤ t.size) : (t.extract f t.size).extract a b = t.extract (f + a) (f + b) := by
  apply by_ext
  simp only [ByteArray.data_extract, Array.toList_extract, List.extract_eq_take_drop]
  rw [List.drop_take, List.drop_drop, List.take_take]
  congr 1
  omega
theorem split_ev (t : ByteArray) (ht : t.size ≤ 8000) (n : Nat) : ∀ (f : Nat) (acc : List ByteArray), f ≤ t.size → t.size - f ≤ n → acc.length + (t.size - f) ≤ 10000 →
    Ev (fun k => spec_l01Split.l0 k t 32 acc (f : Int) (f : Int)) (acc ++ Lib.splitB blankS 0 (Lib.countB (t.extract f t.size) blankS) (t.extract f t.size)) := by
  induction n with
  | zero =>
    intro f acc hf hn ha
    obtain rfl : f = t.size := by omega
    have hm : Lib.indexB (t.extract t.size t.size) blankS = -1 := by
      rcases Lib.indexB_cases (t.extract t.size t.size) blankS with h | ⟨i, h, hi⟩
      · exact h
      · rw [ByteArray.size_extract, show blankS.size = 1 from rfl] at hi; omega
    rw [Lib.splitB_miss _ _ _ _ hm]
    refine Ev.one (fun k => ?_)
    simp only [spec_l01Split.l0]
    rw [if_neg (by omega), if_pos (by omega), if_pos (by omega), if_pos (by omega), Int.toNat_natCast]
  | succ n ih =>
    intro f acc hf hn ha
    rcases Lib.indexB_cases (t.extract f t.size) blankS with h | ⟨i, h, hi⟩
    · rw [Lib.splitB_miss _ _ _ _ h]
      rw [blank_ix] at h
      have hno := Lib.indexByte_none h
      refine split_walk t ht acc f _ (t.size - f) f (by omega) (fun j h1 h2 e => ?_) ?_
      · have := hno (j - f)
        rw [ex_get t f t.size (j - f) (by omega) (Nat.le_refl _), show f + (j - f) = j by omega] at this
        exact this e
      · rw [show f + (t.size - f) = t.size by omega]
        refine Ev.one (fun k => ?_)
        simp only [spec_l01Split.l0]
        rw [if_neg (by omega), if_pos (by omega), if_pos (by omega), if_pos (by omega), Int.toNat_natCast]
    · rw [ByteArray.size_extract, show blankS.size = 1 from rfl] at hi
      have hc := Lib.countB_hit (t.extract f t.size) blankS i (by show 1 ≤ 1; omega) h
      rw [hc, Nat.add_comm, Lib.splitB_hit _ _ _ _ i h]
      have hz : (t.extract f t.size).size = t.size - f := by rw [ByteArray.size_extract]; omega
      rw [show blankS.size = 1 from rfl, hz, Nat.add_zero, ex_ex t f 0 i (by omega), Nat.add_zero, ex_ex t f (i + 1) (t.size - f) (by omega), show f + (t.size - f) = t.size by omega]
      rw [blank_ix] at h
      obtain ⟨h1, h2⟩ := Lib.indexByte_some h
      rw [ex_get t f t.size i (by omega) (Nat.le_refl _)] at h1
      refine split_walk t ht acc f _ i f (by omega) (fun j h3 h4 e => ?_) ?_
      · have := h2 (j - f) (by omega)
        rw [ex_get t f t.size (j - f) (by omega) (Nat.le_refl _), show f + (j - f) = j by omega] at this
        exact this e
      · have := ih (f + (i + 1)) (acc ++ [t.extract f (f + i)]) (by omega) (by omega) (by rw [List.length_append, List.length_singleton]; omega)
        rw [List.append_assoc, List.singleton_append] at this
        refine Ev.step (f := fun k => spec_l01Split.l0 k t 32 (acc ++ [t.extract f (f + i)]) ((f + (i + 1) : Nat) : Int) ((f + (i + 1) : Nat) : Int)) (fun k => ?_) this
        simp only [spec_l01Split.l0]
        rw [if_pos (by omega), if_pos (by omega), bt_get h1, if_pos (show (((32 : UInt8).toNat : Nat) : Int) = 32 from rfl), if_pos (by omega), if_pos (by omega), if_pos (by omega), if_pos (by omega), Int.toNat_natCast, Int.toNat_natCast, show wrap64 (((f + i : Nat) : Int) + 1) = ((f + (i + 1) : Nat) : Int) from by unfold wrap64; omega]
/-- The words of a text. -/
def wordsOf (t : ByteArray) : List ByteArray := Lib.splitB blankS 0 (Lib.countB t blankS) t
theorem spec_split_ev (t : ByteArray) (ht : t.size ≤ 8000) : Ev (fun k => spec_l01Split.f k t 32) (wordsOf t) := by
  unfold spec_l01Split.f wordsOf
  have := split_ev t ht t.size 0 [] (by omega) (by omega) (by simp only [List.length_nil]; omega)
  rw [List.nil_append, show t.extract 0 t.size = t from by simp] at this
  exact this
theorem impl_split_eq (t : ByteArray) (ht : t.size ≤ 8000) : strings_Split.f t (⟨#[32]⟩ : ByteArray) = some (wordsOf t) := by
  unfold strings_Split.f wordsOf
  rw [if_pos ⟨by omega, by show 1 ≤ 1; omega⟩]; rfl
theorem words_pos (t : ByteArray) : 0 < (wordsOf t).length ∧ (wordsOf t).length ≤ t.size + 1 := by
  unfold wordsOf
  rw [Lib.splitB_all blankS (by show 1 ≤ 1; omega) 0 _ t rfl]
  have := Lib.countB_le blankS (by show 1 ≤ 1; omega) t.size t (Nat.le_refl _)
  omega

/-! A number of at most nine digits: what both sides read. -/
theorem valOf_lt (l : List UInt8) : ∀ acc, (∀ c ∈ l, isDig c) → valOf acc l < (acc + 1) * 10 ^ l.length := by
  induction l with
  | nil => intro acc _; show acc < (acc + 1) * 10 ^ 0; rw [Nat.pow_zero]; omega
  | cons c r ih =>
    intro acc h
    have h1 := ih (10 * acc + (c.toNat - 48)) (fun y hy => h y (List.mem_cons_of_mem _ hy))
    have h2 := (h c List.mem_cons_self).2
    have h3 : 10 * acc + (c.toNat - 48) + 1 ≤ 10 * (acc + 1) := by omega
    have e : valOf acc (c :: r) = valOf (10 * acc + (c.toNat - 48)) r := rfl
    rw [e, List.length_cons, Nat.pow_succ]
    generalize valOf (10 * acc + (c.toNat - 48)) r = v at h1
    generalize 10 ^ r.length = P at h1
    have h4 := Nat.mul_le_mul_right P h3
    rw [show (acc + 1) * (P * 10) = 10 * (acc + 1) * P by rw [Nat.mul_comm P 10, ← Nat.mul_assoc, Nat.mul_comm (acc + 1) 10]]
    exact Nat.lt_of_lt_of_le h1 h4
theorem pow_next (acc i : Nat) (h : acc < 10 ^ i) : 10 * acc + 9 < 10 ^ (i + 1) := by
  rw [Nat.pow_succ]; generalize 10 ^ i = P at h; omega
theorem num_step (a d : Nat) (ha : a < 1000000000) (h1 : 48 ≤ d) (h2 : d ≤ 57) : wrap64 (wrap64 (10 * (a : Int)) + ((d : Int) - 48) % 256) = ((10 * a + (d - 48) : Nat) : Int) := by
  rw [show wrap64 (10 * (a : Int)) = 10 * (a : Int) from w64 (by omega) (by omega), w64 (by omega) (by omega)]; omega
def digB (c : UInt8) : Bool := decide (48 ≤ c.toNat ∧ c.toNat ≤ 57)
theorem digB_all (l : List UInt8) : l.all digB = true ↔ ∀ c ∈ l, isDig c := by
  rw [List.all_eq_true]
  constructor
  · intro h c hc
    have h2 : decide (48 ≤ c.toNat ∧ c.toNat ≤ 57) = true := h c hc
    have h3 : 48 ≤ c.toNat ∧ c.toNat ≤ 57 := of_decide_eq_true h2
    exact h3
  · intro h c hc
    show decide (48 ≤ c.toNat ∧ c.toNat ≤ 57) = true
    exact decide_eq_true (show 48 ≤ c.toNat ∧ c.toNat ≤ 57 from h c hc)
theorem num_l0 (w : ByteArray) (hs : w.size ≤ 9) (d : Nat) : ∀ (i acc : Nat), i + d = w.size → acc < 10 ^ i →
    Ev (fun k => spec_l14Num.l0 k w (acc : Int) (i : Int)) (if (w.data.toList.drop i).all digB = true then ((valOf acc (w.data.toList.drop i) : Nat) : Int) else -1) := by
  induction d with
  | zero =>
    intro i acc hi _
    refine Ev.one (fun k => ?_)
    simp only [spec_l14Num.l0]
    rw [if_neg (by omega), List.drop_of_length_le (by simp; omega)]
    rfl
  | succ d ih =>
    intro i acc hi hacc
    have hlt : i < w.data.toList.length := by simp; omega
    have hb : bt w (i : Int) = ((w.data.toList[i]).toNat : Int) := bt_at (by omega)
    have hacc9 : acc < 1000000000 := Nat.lt_of_lt_of_le hacc (Nat.le_trans (Nat.pow_le_pow_right (by decide) (show i ≤ 9 by clear hacc; omega)) (by decide))
    have hnext := Aside0.mk (pow_next acc i hacc)
    clear hacc
    rw [List.drop_eq_getElem_cons hlt]
    generalize w.data.toList[i] = c at hb
    refine Ev.step (f := fun k => spec_l14Num.l0 (k + 1) w (acc : Int) (i : Int)) (fun k => rfl) ?_
    simp only [spec_l14Num.l0]
    rw [hb]
    refine Ev.pos (by omega) (Ev.pos (by omega) ?_)
    by_cases c1 : c.toNat < 48
    · refine Ev.pos (by omega) (Ev.to ?_ (Ev.now _))
      rw [if_neg]
      rw [List.all_cons, show digB c = false from decide_eq_false (by omega)]; simp
    · refine Ev.neg (by omega) ?_
      by_cases c2 : 57 < c.toNat
      · refine Ev.pos (by omega) (Ev.to ?_ (Ev.now _))
        rw [if_neg]
        rw [List.all_cons, show digB c = false from decide_eq_false (by omega)]; simp
      · refine Ev.neg (by omega) ?_
        have e1 := num_step acc c.toNat hacc9 (by omega) (by omega)
        rw [e1, show wrap64 ((i : Int) + 1) = ((i + 1 : Nat) : Int) from by unfold wrap64; omega, List.all_cons, show digB c = true from decide_eq_true (by omega), Bool.true_and]
        exact ih (i + 1) (10 * acc + (c.toNat - 48)) (by omega) (Nat.lt_of_le_of_lt (by omega) hnext.out)
def numC (l : List UInt8) : Prop := (1 ≤ l.length ∧ l.length ≤ 9) ∧ (∀ c r, l = c :: r → r ≠ [] → c.toNat ≠ 48) ∧ ∀ c ∈ l, isDig c
theorem num_yes (w : ByteArray) (h : numC w.data.toList) : Ev (fun k => spec_l14Num.f k w) ((valOf 0 w.data.toList : Nat) : Int) := by
  obtain ⟨⟨h1, h2⟩, h3, h4⟩ := h
  have hsz : w.data.toList.length = w.size := by simp
  unfold spec_l14Num.f
  have go : Ev (fun k => spec_l14Num.j0 k w false) ((valOf 0 w.data.toList : Nat) : Int) := by
    refine Ev.step (f := fun k => spec_l14Num.j0 (k + 1) w false) (fun k => rfl) ?_
    simp only [spec_l14Num.j0]
    refine Ev.neg (by simp) ?_
    have := num_l0 w (by omega) w.size 0 0 (by omega) (by simp)
    rw [List.drop_zero, if_pos ((digB_all _).2 h4)] at this
    exact this
  refine Ev.neg (by omega) (Ev.neg (by omega) ?_)
  by_cases c : (w.size : Int) > 1
  · refine Ev.pos c (Ev.pos (by omega) ?_)
    have hne : (bt w 0 == 48) = false := by
      cases hl : w.data.toList with
      | nil => rw [hl] at h1; simp at h1
      | cons x r =>
        have hx := h3 x r hl (by rintro rfl; rw [hl] at hsz; simp at hsz; omega)
        have hb : bt w ((0 : Nat) : Int) = (x.toNat : Int) := bt_get (by rw [hl]; rfl)
        rw [beq_eq_false_iff_ne]
        rw [show (0 : Int) = ((0 : Nat) : Int) from rfl, hb]
        omega
    rw [hne]; exact go
  · exact Ev.neg c go
theorem num_no (w : ByteArray) (h : ¬ numC w.data.toList) : Ev (fun k => spec_l14Num.f k w) (-1) := by
  have hsz : w.data.toList.length = w.size := by simp
  have bad : Ev (fun k => spec_l14Num.j0 k w true) (-1) := Ev.one (fun k => by rw [spec_l14Num.j0, if_pos rfl])
  unfold spec_l14Num.f
  by_cases c1 : (w.size : Int) < 1
  · exact Ev.pos c1 bad
  refine Ev.neg c1 ?_
  by_cases c2 : (w.size : Int) > 9
  · exact Ev.pos c2 bad
  refine Ev.neg c2 ?_
  have go : (∀ c r, w.data.toList = c :: r → r ≠ [] → c.toNat ≠ 48) → Ev (fun k => spec_l14Num.j0 k w false) (-1) := by
    intro h3
    refine Ev.step (f := fun k => spec_l14Num.j0 (k + 1) w false) (fun k => rfl) ?_
    simp only [spec_l14Num.j0]
    refine Ev.neg (by simp) ?_
    have := num_l0 w (by omega) w.size 0 0 (by omega) (by simp)
    rw [List.drop_zero, if_neg (fun e => h ⟨⟨by omega, by omega⟩, h3, (digB_all _).1 e⟩)] at this
    exact this
  by_cases c : (w.size : Int) > 1
  · refine Ev.pos c (Ev.pos (by omega) ?_)
    cases hl : w.data.toList with
    | nil => rw [hl] at hsz; simp at hsz; omega
    | cons x r =>
      have hb : bt w ((0 : Nat) : Int) = (x.toNat : Int) := bt_get (by rw [hl]; rfl)
      rw [show (0 : Int) = ((0 : Nat) : Int) from rfl, hb]
      by_cases e : x.toNat = 48
      · rw [show (((x.toNat : Nat) : Int) == 48) = true from by rw [e]; rfl]; exact bad
      · rw [show (((x.toNat : Nat) : Int) == 48) = false from by rw [beq_eq_false_iff_ne]; omega]
        refine go (fun c r' hc hr => ?_)
        rw [hl] at hc
        injection hc with h1 _
        rw [← h1]; exact e
  · refine Ev.neg c (go (fun c r hc hr => ?_))
    rw [hc] at hsz
    have : r.length ≠ 0 := fun e => hr (List.eq_nil_of_length_eq_zero e)
    simp only [List.length_cons] at hsz
    omega
theorem numC_digits (p : Nat) (hp : p ≤ 999999999) : numC (Lib.decDigits p) := by
  have h1 := digits_len 9 p (by omega)
  have h2 := digits_ne p
  refine ⟨⟨?_, by omega⟩, fun c r hc hr => ?_, digits_all p⟩
  · rcases Nat.eq_zero_or_pos (Lib.decDigits p).length with h | h
    · exact absurd (List.eq_nil_of_length_eq_zero h) h2
    · exact h
  · by_cases h0 : p < 10
    · rw [Lib.decDigits_one h0] at hc
      injection hc with _ e
      exact absurd e.symm hr
    · exact digits_head p (by omega) c r hc
/-- A word, as a number of an act: both sides alike. -/
theorem word_num (w : ByteArray) (hw : w.size ≤ 8000) : (∃ p : Nat, p ≤ 999999999 ∧ Ev (fun k => spec_l14Num.f k w) (p : Int) ∧ impl_readDec.f w 0 999999999 = some ((p : Int), true)) ∨
    (Ev (fun k => spec_l14Num.f k w) (-1) ∧ ∃ n, impl_readDec.f w 0 999999999 = some (n, false)) := by
  by_cases h : numC w.data.toList
  · refine Or.inl ⟨valOf 0 w.data.toList, ?_, num_yes w h, ?_⟩
    · have h1 := valOf_lt w.data.toList 0 h.2.2
      have h2 : 10 ^ w.data.toList.length ≤ 10 ^ 9 := Nat.pow_le_pow_right (by decide) h.1.2
      have h3 : (10 : Nat) ^ 9 = 1000000000 := by decide
      omega
    · have h1 := valOf_lt w.data.toList 0 h.2.2
      have h2 : 10 ^ w.data.toList.length ≤ 10 ^ 9 := Nat.pow_le_pow_right (by decide) h.1.2
      have h3 : (10 : Nat) ^ 9 = 1000000000 := by decide
      have hd := digits_val _ w.data.toList rfl (by intro e; have := h.1.1; rw [e] at this; simp at this) h.2.2 h.2.1
      have := readDec_digits (valOf 0 w.data.toList) 0 999999999 (by omega)
      rw [hd, byt_data, decide_eq_true (by omega)] at this
      exact this
  · refine Or.inr ⟨num_no w h, ?_⟩
    obtain ⟨n, b, hr, hb⟩ := readDec_any w 0 999999999 (by omega) (by omega)
    cases b with
    | false => exact ⟨n, hr⟩
    | true =>
      obtain ⟨p, _, _, h3, h4⟩ := hb rfl
      refine absurd ?_ h
      rw [h4, byt_of]
      exact numC_digits p (by omega)

/-! An act, read: both sides. -/
theorem Ev.uniq {α : Type} {g : Nat → Option α} {r q : α} (h1 : Ev g r) (h2 : Ev g q) : r = q := by
  obtain ⟨a, ha⟩ := h1
  obtain ⟨b, hb⟩ := h2
  exact Option.some.inj ((ha (max a b) (Nat.le_max_left _ _)).symm.trans (hb _ (Nat.le_max_right _ _)))
def hd48 : List UInt8 → Bool
  | c :: _ :: _ => decide (c.toNat ≠ 48)
  | _ => true
theorem hd48_iff (l : List UInt8) : hd48 l = true ↔ ∀ c r, l = c :: r → r ≠ [] → c.toNat ≠ 48 := by
  cases l with
  | nil => simp [hd48]
  | cons c r =>
    cases r with
    | nil => simp [hd48]
    | cons x s =>
      unfold hd48
      rw [decide_eq_true_iff]
      constructor
      · intro h c2 r2 e _
        injection e with e1 _
        rw [← e1]; exact h
      · intro h; exact h c (x :: s) rfl (by simp)
/-- What a word says as a number of an act; -1: none. -/
def numV (w : ByteArray) : Int := if (1 ≤ w.data.toList.length ∧ w.data.toList.length ≤ 9) ∧ hd48 w.data.toList = true ∧ w.data.toList.all digB = true then ((valOf 0 w.data.toList : Nat) : Int) else -1
theorem numV_ev (w : ByteArray) : Ev (fun k => spec_l14Num.f k w) (numV w) := by
  unfold numV
  split
  · rename_i h
    exact num_yes w ⟨h.1, (hd48_iff _).1 h.2.1, (digB_all _).1 h.2.2⟩
  · rename_i h
    exact num_no w (fun e => h ⟨e.1, (hd48_iff _).2 e.2.1, (digB_all _).2 e.2.2⟩)
theorem numV_dec (w : ByteArray) (hw : w.size ≤ 8000) : (0 ≤ numV w ∧ numV w ≤ 999999999 ∧ impl_readDec.f w 0 999999999 = some (numV w, true)) ∨ (numV w = -1 ∧ ∃ n, impl_readDec.f w 0 999999999 = some (n, false)) := by
  rcases word_num w hw with ⟨p, h1, h2, h3⟩ | ⟨h1, h2⟩
  · have e := Ev.uniq (numV_ev w) h2
    rw [e]
    exact Or.inl ⟨by omega, by omega, h3⟩
  · exact Or.inr ⟨Ev.uniq (numV_ev w) h1, h2⟩
theorem words_size (n : Nat) (m : Nat) : ∀ u : ByteArray, Lib.countB u blankS = m → u.size ≤ n → ∀ x ∈ Lib.splitB blankS 0 (Lib.countB u blankS) u, x.size ≤ n := by
  induction m with
  | zero =>
    intro u hm hu x hx
    rcases Lib.indexB_cases u blankS with h | ⟨i, h, hi⟩
    · rw [Lib.splitB_miss _ _ _ _ h] at hx
      rw [List.mem_singleton] at hx
      rw [hx]; exact hu
    · have hc := Lib.countB_hit u blankS i (by show 1 ≤ 1; omega) h
      omega
  | succ m ih =>
    intro u hm hu x hx
    rcases Lib.indexB_cases u blankS with h | ⟨i, h, hi⟩
    · rw [Lib.splitB_miss _ _ _ _ h] at hx
      rw [List.mem_singleton] at hx
      rw [hx]; exact hu
    · have hc := Lib.countB_hit u blankS i (by show 1 ≤ 1; omega) h
      rw [hc, Nat.add_comm, Lib.splitB_hit _ _ _ _ i h] at hx
      rcases List.mem_cons.1 hx with hx | hx
      · rw [hx, ByteArray.size_extract]; omega
      · exact ih _ (by omega) (by rw [ByteArray.size_extract]; omega) x hx
theorem words_mem (t : ByteArray) : ∀ x ∈ wordsOf t, x.size ≤ t.size := words_size t.size _ t rfl (Nat.le_refl _)
theorem words_nil : wordsOf ⟨#[]⟩ = [⟨#[]⟩] := by
  unfold wordsOf
  refine Lib.splitB_miss _ _ _ _ ?_
  rcases Lib.indexB_cases (⟨#[]⟩ : ByteArray) blankS with h | ⟨i, h, hi⟩
  · exact h
  · rw [show (⟨#[]⟩ : ByteArray).size = 0 from rfl, show blankS.size = 1 from rfl] at hi; omega
theorem wm_bounds (t : List UInt8) : -1 ≤ wm t ∧ wm t ≤ 5 := by
  unfold wm
  repeat (first | (constructor <;> omega) | split)
def aW0 (t : ByteArray) : ByteArray := rdOf ByteArray.empty (wordsOf t) 0
def aM (t : ByteArray) : Int := wm (aW0 t).toList
def aNums (t : ByteArray) : List Int := (((wordsOf t).drop 1).take (aM t).toNat).map numV
def aText (t : ByteArray) : ByteArray := if ((wordsOf t).length : Int) = aM t + 2 ∧ wSpeak (aW0 t).toList then rdOf ByteArray.empty (wordsOf t) (aM t + 1) else ⟨#[]⟩
def aBad : ByteArray × List Int × ByteArray × Int := (⟨#[]⟩, [], ⟨#[]⟩, 3)
def aRead (t : ByteArray) : ByteArray × List Int × ByteArray × Int := if t.toList = [] ∨ (actText (aW0 t) (aNums t) (aText t)).toList ≠ t.toList then aBad else (aW0 t, aNums t, aText t, 0)
theorem rdOf_get {l : List ByteArray} {i : Nat} (h : i < l.length) : rdOf ByteArray.empty l (i : Int) = l[i] := by
  unfold rdOf
  rw [Int.toNat_natCast, List.getD_eq_getElem?_getD, List.getElem?_eq_getElem h]; rfl
theorem rdOf_size (t : ByteArray) (i : Int) : (rdOf ByteArray.empty (wordsOf t) i).size ≤ t.size := by
  unfold rdOf
  rw [List.getD_eq_getElem?_getD]
  rcases h : (wordsOf t)[i.toNat]? with _ | x
  · exact Nat.zero_le _
  · exact words_mem t x (List.mem_of_getElem? h)
theorem aText_size (t : ByteArray) : (aText t).size ≤ t.size := by
  unfold aText
  split
  · exact rdOf_size t _
  · exact Nat.zero_le _
theorem aNums_len (t : ByteArray) (ht : t.size ≤ 8000) : (aNums t).length ≤ 8001 := by
  have := (words_pos t).2
  unfold aNums
  rw [List.length_map, List.length_take, List.length_drop]; omega
theorem aNums_le (t : ByteArray) : (aNums t).length ≤ 5 := by
  have := (wm_bounds (aW0 t).toList).2
  unfold aNums aM
  rw [List.length_map, List.length_take]; omega
theorem sread_j2 (t : ByteArray) (ht : t.size ≤ 8000) (w0 : ByteArray) (nums : List Int) (hw : w0.size ≤ 1048576) (hn : nums.length ≤ 1048576) (m : Int) (b : Bool) (s : ByteArray) (h0 : (b = true → 0 ≤ wrap64 (m + 1) ∧ wrap64 (m + 1) < ((wordsOf t).length : Int) ∧ rdOf ByteArray.empty (wordsOf t) (wrap64 (m + 1)) = s) ∧ (b = false → s = ⟨#[]⟩)) (hs : s.size ≤ 1048576) :
    Ev (fun k => spec_ActRead.j2 k t (wordsOf t) m b w0 nums (⟨#[]⟩ : ByteArray)) (if t.toList = [] ∨ (actText w0 nums s).toList ≠ t.toList then aBad else (w0, nums, s, 0)) := by
  have hA := spec_AT_ev w0 nums s hw hs hn
  refine Ev.step (f := fun k => spec_ActRead.j2 (k + 1) t (wordsOf t) m b w0 nums (⟨#[]⟩ : ByteArray)) (fun k => rfl) ?_
  simp only [spec_ActRead.j2]
  have go : Ev (fun k => if t.toList = ([] : List UInt8) then (some ((⟨#[]⟩ : ByteArray), ([] : List Int), (⟨#[]⟩ : ByteArray), (3 : Int))) else ((spec_ActText.f k w0 nums s).bind fun t139 => (if t139.toList = t.toList then (some (w0, nums, s, 0)) else (some ((⟨#[]⟩ : ByteArray), ([] : List Int), (⟨#[]⟩ : ByteArray), 3))))) (if t.toList = [] ∨ (actText w0 nums s).toList ≠ t.toList then aBad else (w0, nums, s, 0)) := by
    by_cases c1 : t.toList = ([] : List UInt8)
    · refine Ev.pos c1 (Ev.to ?_ (Ev.now _))
      rw [if_pos (Or.inl c1)]; rfl
    · refine Ev.neg c1 (Ev.bind hA ?_)
      by_cases c2 : (actText w0 nums s).toList = t.toList
      · refine Ev.pos c2 (Ev.to ?_ (Ev.now _))
        rw [if_neg (fun e => e.elim c1 (fun e => e c2))]
      · refine Ev.neg c2 (Ev.to ?_ (Ev.now _))
        rw [if_pos (Or.inr c2)]; rfl
  cases b with
  | true =>
    obtain ⟨h1, h2, h3⟩ := h0.1 rfl
    refine Ev.pos rfl (Ev.pos h1 (Ev.pos h2 ?_))
    rw [h3]; exact go
  | false =>
    have e := h0.2 rfl
    subst e
    exact Ev.neg (by simp) go
theorem sread_j1 (t : ByteArray) (ht : t.size ≤ 8000) (nums : List Int) (hn : nums.length ≤ 1048576) :
    Ev (fun k => spec_ActRead.j1 k t (wordsOf t) (aM t) (aW0 t) nums (⟨#[]⟩ : ByteArray)) (if t.toList = [] ∨ (actText (aW0 t) nums (aText t)).toList ≠ t.toList then aBad else (aW0 t, nums, aText t, 0)) := by
  have hb := wm_bounds (aW0 t).toList
  have hw : (aW0 t).size ≤ t.size := rdOf_size t 0
  have hs := aText_size t
  have hm1 : wrap64 (aM t + 1) = aM t + 1 := w64 (by unfold aM; omega) (by unfold aM; omega)
  have hm2 : wrap64 (aM t + 2) = aM t + 2 := w64 (by unfold aM; omega) (by unfold aM; omega)
  refine Ev.step (f := fun k => spec_ActRead.j1 (k + 1) t (wordsOf t) (aM t) (aW0 t) nums (⟨#[]⟩ : ByteArray)) (fun k => rfl) ?_
  simp only [spec_ActRead.j1]
  rw [hm2]
  by_cases c1 : ((wordsOf t).length : Int) = aM t + 2
  · refine Ev.pos c1 (Ev.take (speaks_eq _) ?_)
    refine sread_j2 t ht _ nums (by omega) hn _ _ _ ⟨fun e => ?_, fun e => ?_⟩ (by omega)
    · have e2 : wSpeak (aW0 t).toList := of_decide_eq_true e
      rw [hm1]
      refine ⟨by unfold aM; omega, by omega, ?_⟩
      unfold aText; rw [if_pos ⟨c1, e2⟩]
    · have e2 : ¬ wSpeak (aW0 t).toList := of_decide_eq_false e
      unfold aText; rw [if_neg (fun h => e2 h.2)]
  · refine Ev.neg c1 ?_
    refine sread_j2 t ht _ nums (by omega) hn _ _ _ ⟨fun e => (by cases e), fun _ => ?_⟩ (by omega)
    unfold aText; rw [if_neg (fun h => c1 h.1)]
theorem sread_l0 (t : ByteArray) (ht : t.size ≤ 8000) (d : Nat) : ∀ i : Nat, 1 ≤ i → i + d = min (wordsOf t).length ((aM t).toNat + 1) →
    Ev (fun k => spec_ActRead.l0 k t (wordsOf t) (aM t) (i : Int) (aW0 t) ((((wordsOf t).drop 1).take (i - 1)).map numV) (⟨#[]⟩ : ByteArray)) (aRead t) := by
  have hp := words_pos t
  have hb := wm_bounds (aW0 t).toList
  induction d with
  | zero =>
    intro i h1 hi
    have hj := sread_j1 t ht (aNums t) (by have := aNums_len t ht; omega)
    have e1 : (((wordsOf t).drop 1).take (i - 1)).map numV = aNums t := by
      unfold aNums
      rw [List.take_eq_take_min (i := (aM t).toNat), List.take_eq_take_min (i := i - 1), List.length_drop]
      congr 2
      omega
    rw [e1]
    refine Ev.step (f := fun k => spec_ActRead.l0 (k + 1) t (wordsOf t) (aM t) (i : Int) (aW0 t) (aNums t) (⟨#[]⟩ : ByteArray)) (fun k => rfl) ?_
    simp only [spec_ActRead.l0]
    by_cases c1 : (i : Int) < ((wordsOf t).length : Int)
    · refine Ev.pos c1 (Ev.neg (by omega) hj)
    · exact Ev.neg c1 hj
  | succ d ih =>
    intro i h1 hi
    have hlt : i < (wordsOf t).length := by omega
    refine Ev.step (f := fun k => spec_ActRead.l0 (k + 1) t (wordsOf t) (aM t) (i : Int) (aW0 t) ((((wordsOf t).drop 1).take (i - 1)).map numV) (⟨#[]⟩ : ByteArray)) (fun k => rfl) ?_
    simp only [spec_ActRead.l0]
    rw [rdOf_get hlt, show wrap64 ((i : Int) + 1) = ((i + 1 : Nat) : Int) from by unfold wrap64; omega]
    refine Ev.pos (by omega) (Ev.pos (by omega) (Ev.pos (by omega) (Ev.bind (numV_ev _) (Ev.pos ?_ ?_))))
    · rw [List.length_map, List.length_take, List.length_drop]; omega
    · have := ih (i + 1) (by omega) (by omega)
      rw [show i + 1 - 1 = (i - 1) + 1 by omega, List.take_add_one, List.getElem?_drop, show 1 + (i - 1) = i by omega, List.getElem?_eq_getElem hlt] at this
      rw [List.map_append] at this
      exact this
theorem spec_AR_ev (t : ByteArray) (ht : t.size ≤ 8000) : Ev (fun k => spec_ActRead.f k t) (aRead t) := by
  have hp := words_pos t
  have hb := wm_bounds (aW0 t).toList
  unfold spec_ActRead.f
  refine Ev.neg (by omega) (Ev.bind (spec_split_ev t ht) (Ev.pos (by omega) (Ev.bind (spec_many_ev _) ?_)))
  exact sread_l0 t ht (min (wordsOf t).length ((aM t).toNat + 1) - 1) 1 (by omega) (by omega)
def iBad : ByteArray × List Int × ByteArray × Bool := (⟨#[]⟩, [], ⟨#[]⟩, false)
theorem iread_j2 (t : ByteArray) (ht : t.size ≤ 8000) (w0 : ByteArray) (nums : List Int) (hw : w0.size ≤ 1048576) (hn : nums.length ≤ 1048576) (m : Int) (b : Bool) (s : ByteArray) (h0 : (b = true → 0 ≤ wrap64 (m + 1) ∧ wrap64 (m + 1) < ((wordsOf t).length : Int) ∧ rdOf ByteArray.empty (wordsOf t) (wrap64 (m + 1)) = s) ∧ (b = false → s = ⟨#[]⟩)) (hs : s.size ≤ 1048576) :
    Ev (fun k => impl_readAct.j2 k t (wordsOf t) m b w0 nums (⟨#[]⟩ : ByteArray)) (if (actText w0 nums s).toList = t.toList then (w0, nums, s, true) else iBad) := by
  have hA := impl_AT_ev w0 nums s hw hs hn
  refine Ev.step (f := fun k => impl_readAct.j2 (k + 1) t (wordsOf t) m b w0 nums (⟨#[]⟩ : ByteArray)) (fun k => rfl) ?_
  simp only [impl_readAct.j2]
  have go : Ev (fun k => ((impl_ActText.f k w0 nums s).bind fun t189 => (if t189.toList = t.toList then (some (w0, nums, s, true)) else (some ((⟨#[]⟩ : ByteArray), ([] : List Int), (⟨#[]⟩ : ByteArray), false))))) (if (actText w0 nums s).toList = t.toList then (w0, nums, s, true) else iBad) := by
    refine Ev.bind hA ?_
    by_cases c2 : (actText w0 nums s).toList = t.toList
    · refine Ev.pos c2 (Ev.to ?_ (Ev.now _))
      rw [if_pos c2]
    · refine Ev.neg c2 (Ev.to ?_ (Ev.now _))
      rw [if_neg c2]; rfl
  cases b with
  | true =>
    obtain ⟨h1, h2, h3⟩ := h0.1 rfl
    refine Ev.pos rfl (Ev.pos h1 (Ev.pos h2 ?_))
    rw [h3]; exact go
  | false =>
    have e := h0.2 rfl
    subst e
    exact Ev.neg (by simp) go
theorem iread_l0 (t : ByteArray) (ht : t.size ≤ 8000) (x6 : Bool) (Y : List ByteArray) (hY : ∀ x ∈ Y, x.size ≤ 8000) (hl : Y.length ≤ 8001) (m : Int) (w0 : ByteArray) (R : ByteArray × List Int × ByteArray × Bool)
    (hR : Ev (fun k => if x6 = true then (impl_readAct.j2 k t (wordsOf t) m (((wordsOf t).length : Int) == (wrap64 (m + 2))) w0 (Y.map numV) (⟨#[]⟩ : ByteArray)) else (impl_readAct.j2 k t (wordsOf t) m false w0 (Y.map numV) (⟨#[]⟩ : ByteArray))) R) (d : Nat) : ∀ i : Nat, i + d = Y.length →
    Ev (fun k => impl_readAct.l0 k t (wordsOf t) m x6 Y (Y.length : Int) (i : Int) w0 ((Y.take i).map numV) (⟨#[]⟩ : ByteArray)) (if (Y.drop i).all (fun x => decide (0 ≤ numV x)) = true then R else iBad) := by
  induction d with
  | zero =>
    intro i hi
    refine Ev.step (f := fun k => impl_readAct.l0 (k + 1) t (wordsOf t) m x6 Y (Y.length : Int) (i : Int) w0 ((Y.take i).map numV) (⟨#[]⟩ : ByteArray)) (fun k => rfl) ?_
    simp only [impl_readAct.l0]
    rw [List.drop_of_length_le (by omega), List.take_of_length_le (by omega), List.all_nil, if_pos rfl]
    exact Ev.neg (by omega) hR
  | succ d ih =>
    intro i hi
    have hlt : i < Y.length := by omega
    have hz := hY Y[i] (List.getElem_mem hlt)
    refine Ev.step (f := fun k => impl_readAct.l0 (k + 1) t (wordsOf t) m x6 Y (Y.length : Int) (i : Int) w0 ((Y.take i).map numV) (⟨#[]⟩ : ByteArray)) (fun k => rfl) ?_
    simp only [impl_readAct.l0]
    rw [rdOf_get hlt, show wrap64 ((i : Int) + 1) = ((i + 1 : Nat) : Int) from by unfold wrap64; omega]
    refine Ev.pos (by omega) (Ev.pos (by omega) (Ev.pos (by omega) ?_))
    rw [drop_cons hlt, List.all_cons]
    rcases numV_dec Y[i] hz with ⟨h1, h2, h3⟩ | ⟨h1, n, h2⟩
    · refine Ev.take h3 (Ev.pos rfl (Ev.pos ?_ ?_))
      · rw [List.length_map, List.length_take]; omega
      · have := ih (i + 1) (by omega)
        rw [List.take_add_one, List.getElem?_eq_getElem hlt, List.map_append] at this
        rw [decide_eq_true h1, Bool.true_and]
        exact this
    · refine Ev.take h2 (Ev.neg (by simp) ?_)
      rw [decide_eq_false (by omega), Bool.false_and, if_neg (by simp)]
      exact Ev.now _
theorem actText_no {w : ByteArray} {l : List Int} {s : ByteArray} (h : actRight w l s = false) : actText w l s = ⟨#[]⟩ := by unfold actText; rw [h, if_neg (by simp)]
theorem aRead_bad {t : ByteArray} (h : actRight (aW0 t) (aNums t) (aText t) = false) : aRead t = aBad := by
  unfold aRead
  rw [if_pos]
  by_cases c : t.toList = []
  · exact Or.inl c
  · refine Or.inr (fun e => c ?_)
    rw [← e, actText_no h]; exact (size_zero_iff _).2 rfl
theorem actRight_len {w : ByteArray} {l : List Int} {s : ByteArray} (h : ¬ (l.length : Int) = wm w.toList) : actRight w l s = false := by
  unfold actRight; rw [decide_eq_false h, Bool.false_and, Bool.false_and, Bool.false_and]
theorem actRight_num {w : ByteArray} {l : List Int} {s : ByteArray} (h : ¬ (l.all numOk = true)) : actRight w l s = false := by
  unfold actRight; rw [Bool.eq_false_iff.2 h, Bool.false_and, Bool.and_false]
def iRead (t : ByteArray) : ByteArray × List Int × ByteArray × Bool := ((aRead t).1, (aRead t).2.1, (aRead t).2.2.1, decide ((aRead t).2.2.2 = 0))
theorem iRead_bad {t : ByteArray} (h : aRead t = aBad) : iRead t = iBad := by unfold iRead; rw [h]; rfl
theorem impl_RA_ev (t : ByteArray) (ht : t.size ≤ 8000) : Ev (fun k => impl_readAct.f k t) (iRead t) := by
  have hp := words_pos t
  have hb := wm_bounds (aW0 t).toList
  have hw : (aW0 t).size ≤ t.size := rdOf_size t 0
  have hs := aText_size t
  unfold impl_readAct.f
  refine Ev.take (impl_split_eq t ht) (Ev.pos (by omega) (Ev.bind (form_ev _) ?_))
  have bad : ∀ (m : Int) (b : Bool), Ev (fun k => impl_readAct.j0 k t (wordsOf t) m b true (rdOf ByteArray.empty (wordsOf t) 0) (⟨#[]⟩ : ByteArray)) iBad := by
    intro m b
    refine Ev.one (fun k => ?_)
    rw [impl_readAct.j0, if_pos rfl]; rfl
  rcases fo_wm (aW0 t).toList with ⟨h1, h2⟩ | ⟨h1, h2, h3⟩
  · refine Ev.neg (by intro e; rw [show rdOf ByteArray.empty (wordsOf t) 0 = aW0 t from rfl, h1] at e; cases e) (Ev.to ?_ (bad _ _))
    rw [iRead_bad (aRead_bad (actRight_len (by rw [h2]; omega)))]
  · refine Ev.pos h1 ?_
    rw [show rdOf ByteArray.empty (wordsOf t) 0 = aW0 t from rfl, h2, h3]
    have hm : 1 ≤ aM t ∧ aM t ≤ 5 := by
      refine ⟨?_, hb.2⟩
      unfold aM
      rw [← h2]
      unfold fo at h1 ⊢
      revert h1
      repeat (first | (intro _; omega) | split | (intro h; cases h))
    have hm1 : wrap64 (aM t + 1) = aM t + 1 := w64 (by omega) (by omega)
    have hm2 : wrap64 (aM t + 2) = aM t + 2 := w64 (by omega) (by omega)
    rw [show wm (aW0 t).toList = aM t from rfl, hm1]
    by_cases c1 : ((wordsOf t).length : Int) < aM t + 1
    · rw [decide_eq_true c1]
      refine Ev.to ?_ (bad _ _)
      rw [iRead_bad (aRead_bad (actRight_len ?_))]
      rw [show wm (aW0 t).toList = aM t from rfl]
      unfold aNums
      rw [List.length_map, List.length_take, List.length_drop]; omega
    · rw [decide_eq_false c1]
      refine Ev.step (f := fun k => impl_readAct.j0 (k + 1) t (wordsOf t) (aM t) (decide (wSpeak (aW0 t).toList)) false (aW0 t) (⟨#[]⟩ : ByteArray)) (fun k => rfl) ?_
      simp only [impl_readAct.j0, Option.bind_some]
      rw [hm1]
      refine Ev.neg (by simp) (Ev.pos (by omega) (Ev.pos (by omega) ?_))
      have hYe : ((wordsOf t).take (aM t + 1).toNat).drop 1 = ((wordsOf t).drop 1).take (aM t).toNat := by
        rw [List.drop_take]; congr 1; omega
      rw [hYe]
      have hN : aNums t = (((wordsOf t).drop 1).take (aM t).toNat).map numV := rfl
      generalize hY : ((wordsOf t).drop 1).take (aM t).toNat = Y at *
      have hYl : Y.length = (aM t).toNat := by rw [← hY, List.length_take, List.length_drop]; omega
      have hYm : ∀ x ∈ Y, x.size ≤ 8000 := by
        intro x hx
        rw [← hY] at hx
        have := words_mem t x (List.mem_of_mem_drop (List.mem_of_mem_take hx))
        omega
      have hJ : Ev (fun k => if (decide (wSpeak (aW0 t).toList)) = true then (impl_readAct.j2 k t (wordsOf t) (aM t) (((wordsOf t).length : Int) == (wrap64 (aM t + 2))) (aW0 t) (Y.map numV) (⟨#[]⟩ : ByteArray)) else (impl_readAct.j2 k t (wordsOf t) (aM t) false (aW0 t) (Y.map numV) (⟨#[]⟩ : ByteArray))) (if (actText (aW0 t) (aNums t) (aText t)).toList = t.toList then (aW0 t, aNums t, aText t, true) else iBad) := by
        rw [hN]
        by_cases c2 : wSpeak (aW0 t).toList
        · refine Ev.pos (decide_eq_true c2) ?_
          refine iread_j2 t ht _ _ (by omega) (by rw [List.length_map]; omega) _ _ _ ⟨fun e => ?_, fun e => ?_⟩ (by omega)
          · have e2 := beq_iff_eq.1 e
            rw [hm2] at e2
            rw [hm1]
            refine ⟨by omega, by omega, ?_⟩
            unfold aText; rw [if_pos ⟨e2, c2⟩]
          · have e2 := beq_eq_false_iff_ne.1 e
            rw [hm2] at e2
            unfold aText; rw [if_neg (fun h => e2 h.1)]
        · refine Ev.neg (by rw [decide_eq_false c2]; simp) ?_
          refine iread_j2 t ht _ _ (by omega) (by rw [List.length_map]; omega) _ _ _ ⟨fun e => (by cases e), fun _ => ?_⟩ (by omega)
          unfold aText; rw [if_neg (fun h => c2 h.2)]
      have := iread_l0 t ht (decide (wSpeak (aW0 t).toList)) Y hYm (by omega) (aM t) (aW0 t) _ hJ Y.length 0 (by omega)
      rw [List.take_zero, List.map_nil, List.drop_zero] at this
      refine Ev.to ?_ this
      by_cases c3 : Y.all (fun x => decide (0 ≤ numV x)) = true
      · rw [if_pos c3]
        have hne : t.toList ≠ [] := by
          intro e
          have e2 : t = ⟨#[]⟩ := ba_toList (b := ⟨#[]⟩) (by rw [e, (size_zero_iff ⟨#[]⟩).2 rfl])
          have e3 : aM t = -1 := by
            unfold aM aW0
            rw [e2, words_nil]
            show wm (⟨#[]⟩ : ByteArray).toList = -1
            rw [(size_zero_iff ⟨#[]⟩).2 rfl]
            decide
          omega
        unfold iRead aRead
        by_cases c4 : (actText (aW0 t) (aNums t) (aText t)).toList = t.toList
        · rw [if_pos c4, if_neg (fun h => h.elim hne (fun h => h c4))]; rfl
        · rw [if_neg c4, if_pos (Or.inr c4)]; rfl
      · rw [if_neg c3, iRead_bad (aRead_bad (actRight_num (fun h => c3 ?_)))]
        rw [List.all_eq_true]
        intro x hx
        rw [List.all_eq_true] at h
        have h5 := h (numV x) (by rw [hN]; exact List.mem_map_of_mem hx)
        unfold numOk at h5
        have h6 := of_decide_eq_true h5
        exact decide_eq_true h6.1
theorem spec_ActRead_big (t : ByteArray) (ht : 8000 < t.size) : Ev (fun k => spec_ActRead.f k t) (⟨#[]⟩, [], ⟨#[]⟩, 2) := by
  unfold spec_ActRead.f
  exact Ev.pos (by omega) (Ev.now _)
def aOut (t : ByteArray) : ByteArray × List Int × ByteArray × Int := if 8000 < t.size then (⟨#[]⟩, [], ⟨#[]⟩, 2) else aRead t
theorem spec_AO_ev (t : ByteArray) : Ev (fun k => spec_ActRead.f k t) (aOut t) := by
  unfold aOut
  split
  · exact spec_ActRead_big t (by assumption)
  · exact spec_AR_ev t (by omega)
theorem aRead_code (t : ByteArray) : (aRead t).2.2.2 = 0 ∨ aRead t = aBad := by
  unfold aRead
  split
  · exact Or.inr rfl
  · exact Or.inl rfl
theorem aOut_len (t : ByteArray) : (aOut t).2.1.length ≤ 9000 := by
  unfold aOut
  split
  · exact Nat.zero_le _
  · unfold aRead
    split
    · exact Nat.zero_le _
    · have := aNums_le t
      show (aNums t).length ≤ 9000
      omega
end Go.Proofs.YtloknnlmflamgaaDoor.Print
