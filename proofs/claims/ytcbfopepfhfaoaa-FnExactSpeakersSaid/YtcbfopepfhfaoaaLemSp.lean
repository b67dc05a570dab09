/- Lemmas: who speaks. -/
import Derived.Test.YtcbfopepfhfaoaaStFnExactSpeakers
import Derived.Test.YtcbfopepfhfaoaaLemOpens
import Derived.Laws.Bits64
namespace Go.Proofs.Ytcbfopepfhfaoaa.Print
open Go.RowKit Go.Proofs.YtcbfopepfhfaoaaW.PrintWords Go.Proofs.YtcbfopepfhfaoaaW.PrintLast Go.Proofs.YtcbfopepfhfaoaaW.PrintMore
set_option linter.unusedVariables false
set_option linter.unusedSimpArgs false

/-! Rounds: small helpers. -/
theorem Ev.pos {α : Type} {c : Prop} [Decidable c] {f g : Nat → Option α} {r : α} (hc : c) (h : Ev f r) : Ev (fun n => if c then f n else g n) r := by
  simp only [hc, if_true]; exact h
theorem Ev.neg {α : Type} {c : Prop} [Decidable c] {f g : Nat → Option α} {r : α} (hc : ¬ c) (h : Ev g r) : Ev (fun n => if c then f n else g n) r := by
  simp only [hc, if_false]; exact h
theorem Ev.here {α : Type} {o : Option α} {r : α} (h : o = some r) : Ev (fun _ => o) r := ⟨0, fun _ _ => h⟩
theorem Ev.take {α β : Type} {o : Option α} {f : Nat → α → Option β} {a : α} {r : β} (h : o = some a) (k : Ev (fun n => f n a) r) : Ev (fun n => o.bind (f n)) r := by
  subst h; exact k
theorem Ev.one {α : Type} {g : Nat → Option α} {r : α} (h : ∀ k, g (k + 1) = some r) : Ev g r := Ev.step (f := fun _ => some r) h (Ev.now r)
theorem Ev.to {α : Type} {g : Nat → Option α} {r q : α} (e : r = q) (h : Ev g r) : Ev g q := e ▸ h

/-! Lists of structs, read one by one. -/
theorem w64 {n : Int} (h0 : -9223372036854775808 ≤ n) (h1 : n ≤ 9223372036854775807) : wrap64 n = n := by unfold wrap64; omega
theorem drop_cons {α : Type} {l : List α} {i : Nat} (h : i < l.length) : l.drop i = l[i] :: l.drop (i + 1) := List.drop_eq_getElem_cons h
theorem getD_at {α : Type} {l : List α} {i : Nat} (d : α) (h : i < l.length) : l.getD ((i : Int)).toNat d = l[i] := by
  rw [Int.toNat_natCast, List.getD_eq_getElem?_getD, List.getElem?_eq_getElem h]; rfl

/-! Ranges. -/
theorem in_eq (a b c : Int) : impl_in.f a b c = some (decide (b ≤ a ∧ a ≤ c)) := by
  unfold impl_in.f; split <;> simp [*]
theorem is_eq (a b c : Int) : spec_l02Is.f a b c = some (decide (b ≤ a ∧ a ≤ c)) := by
  unfold spec_l02Is.f
  by_cases h : b ≤ a
  · rw [if_pos h]; simp [h]
  · rw [if_neg h]; simp [h]

/-! The laws' helpers on lists of numbers. -/
theorem rd_at {l : List Int} {i : Nat} (h : i < l.length) : rd l (i : Int) = l[i] := getD_at _ h
theorem szInt64S_eq (l : List Int) (a : Int) (ha : -1 ≤ a) (h : a ≤ 1048576) (hn : l.length ≤ 9223372036854775807) : laws_szInt64S.f l a = some (if a < l.length then -1 else a - l.length) := by
  unfold laws_szInt64S.f
  rw [w64 (by omega) (by omega)]
  by_cases c : a < l.length
  · rw [if_pos (by omega), if_pos c]
  · rw [if_neg (by omega), if_neg c]
theorem toInt64S_l0 (l : List Int) (hl : l.length ≤ 1048576) (d : Nat) : ∀ (i : Nat) (acc : List Int), i + d = l.length → acc.length = l.length → acc.take i = l.take i →
    Ev (fun k => laws_toInt64S.l0 k l acc (i : Int)) l := by
  induction d with
  | zero =>
    intro i acc hi ha hp
    refine Ev.to ?_ (Ev.one (r := acc) (fun k => ?_))
    · rw [List.take_of_length_le (by omega), List.take_of_length_le (by omega)] at hp
      exact hp
    · simp only [laws_toInt64S.l0]
      rw [if_neg (by omega)]
  | succ d ih =>
    intro i acc hi ha hp
    have hlt : i < l.length := by omega
    refine Ev.step (f := fun k => laws_toInt64S.l0 k l (acc.set i l[i]) ((i + 1 : Nat) : Int)) (fun k => ?_) (ih (i + 1) (acc.set i l[i]) (by omega) (by simpa using ha) ?_)
    · simp only [laws_toInt64S.l0]
      rw [if_pos (by omega), if_pos (by omega), if_pos (by omega), rd_at hlt, w64 (by omega) (by omega), Int.toNat_natCast]
      rfl
    · rw [List.take_succ_eq_append_getElem (by simp; omega), List.take_succ_eq_append_getElem hlt, ← hp, List.take_set_of_le (by omega)]
      simp
theorem toInt64S_ev (l : List Int) (hl : l.length ≤ 1048576) : Ev (fun k => laws_toInt64S.f k l) l := by
  unfold laws_toInt64S.f
  refine Ev.pos (by omega) (Ev.pos (by simp; omega) ?_)
  exact toInt64S_l0 l hl l.length 0 _ (by omega) (by simp) (by simp)
theorem eqInt64S_l0 (l : List Int) (hl : l.length ≤ 9223372036854775806) (d : Nat) : ∀ i : Nat, i + d = l.length → Ev (fun k => laws_eqInt64S.l0 k l l (i : Int)) true := by
  induction d with
  | zero =>
    intro i hi
    refine Ev.one (fun k => ?_)
    simp only [laws_eqInt64S.l0]
    rw [if_neg (by omega)]
  | succ d ih =>
    intro i hi
    refine Ev.step (f := fun k => laws_eqInt64S.l0 k l l ((i + 1 : Nat) : Int)) (fun k => ?_) (ih (i + 1) (by omega))
    simp only [laws_eqInt64S.l0]
    rw [if_pos (by omega), if_pos (by omega), if_pos (by omega), if_pos (by trivial), w64 (by omega) (by omega)]; rfl
theorem eqInt64S_ev (l : List Int) (hl : l.length ≤ 9223372036854775806) : Ev (fun k => laws_eqInt64S.f k l l) true := by
  unfold laws_eqInt64S.f
  exact Ev.pos rfl (eqInt64S_l0 l hl l.length 0 (by omega))

/-! Entries: their order, valid states. -/
abbrev En := S47
abbrev EnL := S49
def toEn (x : EnL) : En := ⟨x.f0, x.f1, x.f2⟩
theorem en_at {l : List En} {i : Nat} (h : i < l.length) : rd_T47 l (i : Int) = l[i] := getD_at _ h
theorem enL_at {l : List EnL} {i : Nat} (h : i < l.length) : rd_T49 l (i : Int) = l[i] := getD_at _ h
def cmpI (a b : Int) : Int := if a < b then -1 else if a > b then 1 else 0
theorem compare_eq (a b : Int) : cmp_Compare_int64.f a b = some (cmpI a b) := by
  unfold cmp_Compare_int64.f cmp_isNaN_int64.f cmpI
  simp only [Option.bind_some, bne_self_eq_false]
  rw [if_neg (by simp), if_neg (by simp)]
  split
  · rfl
  · split <;> rfl
def orI (a b : Int) : Int := if a = 0 then b else a
theorem or_ev (a b : Int) : Ev (fun k => cmp_Or_int.f k [a, b]) (orI a b) := by
  unfold cmp_Or_int.f orI
  by_cases ha : a = 0
  · rw [if_pos ha]
    refine Ev.step (f := fun k => cmp_Or_int.l0 k 0 [a, b] 2 1) (fun k => ?_) ?_
    · simp only [cmp_Or_int.l0]
      rw [if_pos (by simp), if_pos (by omega), if_pos (by simp), if_pos (by simpa [rd] using ha), show wrap64 (0 + 1) = 1 from by unfold wrap64; omega]; rfl
    · by_cases hb : b = 0
      · refine Ev.step (f := fun k => cmp_Or_int.l0 k 0 [a, b] 2 2) (fun k => ?_) (Ev.one (fun k => ?_))
        · simp only [cmp_Or_int.l0]
          rw [if_pos (by omega), if_pos (by omega), if_pos (by simp), if_pos (by simpa [rd] using hb), show wrap64 (1 + 1) = 2 from by unfold wrap64; omega]
        · simp only [cmp_Or_int.l0]
          rw [if_neg (by omega), hb]
      · refine Ev.one (fun k => ?_)
        simp only [cmp_Or_int.l0]
        rw [if_pos (by omega), if_pos (by omega), if_pos (by simp), if_neg (by simpa [rd] using hb)]; rfl
  · rw [if_neg ha]
    refine Ev.one (fun k => ?_)
    simp only [cmp_Or_int.l0]
    rw [if_pos (by simp), if_pos (by omega), if_pos (by simp), if_neg (by simpa [rd] using ha)]; rfl
def ordE (x y : En) : Int := orI (cmpI x.f0 y.f0) (cmpI x.f1 y.f1)
theorem order_ev (x y : En) : Ev (fun k => impl_Entry_order.f k x.f0 x.f1 x.f2 y.f0 y.f1 y.f2) (ordE x y) := by
  unfold impl_Entry_order.f
  exact Ev.take (compare_eq _ _) (Ev.take (compare_eq _ _) (Ev.bind (or_ev _ _) (Ev.now _)))
def ltE (x y : En) : Prop := x.f0 < y.f0 ∨ x.f0 = y.f0 ∧ x.f1 < y.f1
instance (x y : En) : Decidable (ltE x y) := by unfold ltE; exact inferInstance
theorem ordE_neg (x y : En) : ordE x y < 0 ↔ ltE x y := by
  unfold ordE ltE orI cmpI; repeat' split
  all_goals omega
theorem ordE_zero (x y : En) : ordE x y = 0 ↔ x.f0 = y.f0 ∧ x.f1 = y.f1 := by
  unfold ordE orI cmpI; repeat' split
  all_goals omega
def enOk (least : Int) (x : En) : Bool := decide ((1 ≤ x.f0 ∧ x.f0 ≤ 6) ∧ (0 ≤ x.f1 ∧ x.f1 ≤ 6) ∧ (least ≤ x.f2 ∧ x.f2 ≤ 1000000))
def stFrom : Option En → List En → Bool
  | _, [] => true
  | p, x :: r => (enOk 1 x && (match p with | none => true | some q => decide (ltE q x))) && stFrom (some x) r
def stRight (l : List En) : Bool := decide (l.length ≤ 400) && stFrom none l

/-! ### the laws' own helpers -/
theorem szEntryS_eq (l : List EnL) (a : Int) (ha : -1 ≤ a) (h : a ≤ 1048576) (hn : l.length ≤ 9223372036854775807) :
    laws_szEntryS.f l a = some (if a < l.length then -1 else a - l.length) := by
  unfold laws_szEntryS.f
  rw [w64 (by omega) (by omega)]
  by_cases c : a < l.length
  · rw [if_pos (by omega), if_pos c]
  · rw [if_neg (by omega), if_neg c]
theorem toEntry_eq (a b c : Int) : laws_toEntry.f a b c = some (a, b, c) := rfl
theorem toEntryS_l0 (l : List EnL) (hl : l.length ≤ 1048576) (d : Nat) : ∀ (i : Nat) (acc : List En), i + d = l.length → acc.length = l.length → acc.take i = (l.take i).map toEn →
    Ev (fun k => laws_toEntryS.l0 k l acc (i : Int)) (l.map toEn) := by
  induction d with
  | zero =>
    intro i acc hi ha hp
    refine Ev.to ?_ (Ev.one (r := acc) (fun k => ?_))
    · rw [List.take_of_length_le (by omega), List.take_of_length_le (by omega)] at hp
      exact hp
    · simp only [laws_toEntryS.l0]
      rw [if_neg (by omega)]
  | succ d ih =>
    intro i acc hi ha hp
    have hlt : i < l.length := by omega
    refine Ev.step (f := fun k => laws_toEntryS.l0 k l (acc.set i (toEn l[i])) ((i + 1 : Nat) : Int)) (fun k => ?_) (ih (i + 1) (acc.set i (toEn l[i])) (by omega) (by simpa using ha) ?_)
    · simp only [laws_toEntryS.l0]
      rw [if_pos (by omega), if_pos (by omega), enL_at hlt, toEntry_eq]
      simp only [Option.bind_some]
      rw [if_pos (by omega), w64 (by omega) (by omega), Int.toNat_natCast]
      rfl
    · rw [List.take_succ_eq_append_getElem (by simp; omega), List.take_succ_eq_append_getElem hlt, List.map_append, ← hp, List.take_set_of_le (by omega)]
      simp
theorem toEntryS_ev (l : List EnL) (hl : l.length ≤ 1048576) : Ev (fun k => laws_toEntryS.f k l) (l.map toEn) := by
  unfold laws_toEntryS.f
  refine Ev.pos (by omega) (Ev.pos (by simp; omega) ?_)
  exact toEntryS_l0 l hl l.length 0 _ (by omega) (by simp) (by simp)
theorem eqEntry_self (a b c : Int) : laws_eqEntry.f a b c a b c = some true := by unfold laws_eqEntry.f; simp
theorem eqEntryS_l0 (l : List En) (hl : l.length ≤ 9223372036854775806) (d : Nat) : ∀ i : Nat, i + d = l.length → Ev (fun k => laws_eqEntryS.l0 k l l (i : Int)) true := by
  induction d with
  | zero =>
    intro i hi
    refine Ev.one (fun k => ?_)
    simp only [laws_eqEntryS.l0]
    rw [if_neg (by omega)]
  | succ d ih =>
    intro i hi
    refine Ev.step (f := fun k => laws_eqEntryS.l0 k l l ((i + 1 : Nat) : Int)) (fun k => ?_) (ih (i + 1) (by omega))
    simp only [laws_eqEntryS.l0]
    rw [if_pos (by omega), if_pos (by omega), if_pos (by omega), eqEntry_self]
    simp only [Option.bind_some, if_true]
    rw [w64 (by omega) (by omega)]; rfl
theorem eqEntryS_ev (l : List En) (hl : l.length ≤ 9223372036854775806) : Ev (fun k => laws_eqEntryS.f k l l) true := by
  unfold laws_eqEntryS.f
  exact Ev.pos rfl (eqEntryS_l0 l hl l.length 0 (by omega))

/-! Entries, marked. -/
def markEn (m : Int) : List En → List En
  | [] => []
  | _ :: r => ⟨m, m + 1, m + 2⟩ :: markEn (m + 3) r
theorem markEn_len (l : List En) : ∀ m, (markEn m l).length = l.length := by
  induction l with
  | nil => intro m; rfl
  | cons x r ih => intro m; simp [markEn, ih]
theorem markEn_l0 (d : Nat) : ∀ (i : Nat) (l : List En) (m : Int), i + d = l.length → l.length ≤ 4194304 → 0 ≤ m → m + 3 * (d : Int) ≤ 1099511627776 →
    Ev (fun k => laws_markEntryS.l0 k l m (i : Int)) (m + 3 * (d : Int), l.take i ++ markEn m (l.drop i)) := by
  induction d with
  | zero =>
    intro i l m hi hl h0 h1
    rw [List.drop_of_length_le (by omega), List.take_of_length_le (by omega)]
    refine Ev.one (fun k => ?_)
    simp only [laws_markEntryS.l0]
    rw [if_neg (by omega)]
    simp [markEn]
  | succ d ih =>
    intro i l m hi hl h0 h1
    have hlt : i < l.length := by omega
    have hw : wrap64 ((i : Int) + 1) = ((i + 1 : Nat) : Int) := w64 (by omega) (by omega)
    have hw2 : wrap64 (m + 1) = m + 1 := w64 (by omega) (by omega)
    have hw3 : wrap64 (m + 1 + 1) = m + 2 := by rw [w64 (by omega) (by omega)]; omega
    have hw4 : wrap64 (m + 2 + 1) = m + 3 := by rw [w64 (by omega) (by omega)]; omega
    refine Ev.step (f := fun k => laws_markEntryS.l0 k (l.set i ⟨m, m + 1, m + 2⟩) (m + 3) ((i + 1 : Nat) : Int)) (fun k => ?_) (Ev.to ?_ (ih (i + 1) (l.set i ⟨m, m + 1, m + 2⟩) (m + 3) (by simp; omega) (by simpa using hl) (by omega) (by omega)))
    · simp only [laws_markEntryS.l0]
      rw [if_pos (by omega), if_pos (by omega), hw, hw2, hw3, hw4, Int.toNat_natCast]
      simp only [Option.bind_some]
      have s1 : ∀ (z : En), i < (l.set i z).length := fun z => by simpa using hlt
      have r1 : rd_T47 (l.set i ⟨m, (rd_T47 l (i : Int)).f1, (rd_T47 l (i : Int)).f2⟩) (i : Int) = ⟨m, (rd_T47 l (i : Int)).f1, (rd_T47 l (i : Int)).f2⟩ := by
        rw [en_at (s1 _)]; simp
      rw [r1]
      simp only [List.set_set]
      have r2 : ∀ z : En, rd_T47 (l.set i z) (i : Int) = z := fun z => by rw [en_at (s1 _)]; simp
      simp only [r2]
    · have e0 : m + 3 + 3 * (d : Int) = m + 3 * ((d + 1 : Nat) : Int) := by omega
      rw [drop_cons hlt, markEn, e0]
      have e1 : (l.set i (⟨m, m + 1, m + 2⟩ : En)).take (i + 1) = l.take i ++ [⟨m, m + 1, m + 2⟩] := by
        rw [List.take_succ_eq_append_getElem (by simp; exact hlt), List.take_set_of_le (Nat.le_refl _)]
        simp
      have e2 : (l.set i (⟨m, m + 1, m + 2⟩ : En)).drop (i + 1) = l.drop (i + 1) := by rw [List.drop_set_of_lt (by omega)]
      rw [e1, e2, List.append_assoc]; rfl
theorem markEn_ev (l : List En) (m : Int) (hl : l.length ≤ 4194304) (h0 : 0 ≤ m) (h1 : m ≤ 1000000000) : Ev (fun k => laws_markEntryS.f k l m) (m + 3 * (l.length : Int), markEn m l) := by
  have := markEn_l0 l.length 0 l m (by omega) hl h0 (by omega)
  unfold laws_markEntryS.f
  simpa using this

/-! Numbers in order, each once. -/
def insI : List Int → Int → List Int
  | [], n => [n]
  | x :: r, n => if x < n then x :: insI r n else if x = n then x :: r else n :: x :: r
theorem insI_mem (n z : Int) : ∀ l : List Int, z ∈ insI l n ↔ z = n ∨ z ∈ l
  | [] => by simp [insI]
  | x :: r => by
    unfold insI
    split
    · rw [List.mem_cons, insI_mem n z r, List.mem_cons]
      constructor
      · rintro (h | h | h)
        · exact .inr (.inl h)
        · exact .inl h
        · exact .inr (.inr h)
      · rintro (h | h | h)
        · exact .inr (.inl h)
        · exact .inl h
        · exact .inr (.inr h)
    · split
      · rename_i h1 h2
        subst h2
        rw [List.mem_cons]
        constructor
        · exact .inr
        · rintro (h | h)
          · exact .inl h
          · exact h
      · rw [List.mem_cons]
theorem insI_sorted (n : Int) : ∀ l : List Int, l.Pairwise (· < ·) → (insI l n).Pairwise (· < ·)
  | [], _ => by simp [insI]
  | x :: r, h => by
    obtain ⟨h1, h2⟩ := List.pairwise_cons.1 h
    unfold insI
    split
    · rename_i c
      refine List.pairwise_cons.2 ⟨fun z hz => ?_, insI_sorted n r h2⟩
      rcases (insI_mem n z r).1 hz with rfl | hz
      · exact c
      · exact h1 z hz
    · split
      · exact h
      · rename_i c1 c2
        refine List.pairwise_cons.2 ⟨fun z hz => ?_, h⟩
        rcases List.mem_cons.1 hz with rfl | hz
        · omega
        · have := h1 z hz; omega
theorem insI_len (n : Int) : ∀ l : List Int, (insI l n).length ≤ l.length + 1
  | [] => by simp [insI]
  | x :: r => by
    unfold insI
    split
    · have := insI_len n r; simp; omega
    · split
      · simp
      · simp
theorem foldI_ok : ∀ (l acc : List Int), acc.Pairwise (· < ·) → (l.foldl insI acc).Pairwise (· < ·) ∧ (∀ z, z ∈ l.foldl insI acc ↔ z ∈ acc ∨ z ∈ l) ∧ (l.foldl insI acc).length ≤ acc.length + l.length
  | [], acc, h => ⟨h, fun z => by simp, by simp⟩
  | x :: r, acc, h => by
    obtain ⟨h1, h2, h3⟩ := foldI_ok r (insI acc x) (insI_sorted x acc h)
    rw [List.foldl_cons]
    refine ⟨h1, fun z => ?_, by have := insI_len x acc; rw [List.length_cons]; omega⟩
    rw [h2 z, insI_mem, List.mem_cons]
    constructor
    · rintro ((h | h) | h)
      · exact .inr (.inl h)
      · exact .inl h
      · exact .inr (.inr h)
    · rintro (h | h | h)
      · exact .inl (.inr h)
      · exact .inl (.inl h)
      · exact .inr h
theorem sorted_ext : ∀ (l m : List Int), l.Pairwise (· < ·) → m.Pairwise (· < ·) → (∀ x, x ∈ l ↔ x ∈ m) → l = m
  | [], [], _, _, _ => rfl
  | [], y :: m, _, _, h => absurd ((h y).2 (by simp)) (by simp)
  | x :: l, [], _, _, h => absurd ((h x).1 (by simp)) (by simp)
  | x :: l, y :: m, h1, h2, h => by
    obtain ⟨a1, a2⟩ := List.pairwise_cons.1 h1
    obtain ⟨b1, b2⟩ := List.pairwise_cons.1 h2
    have e : x = y := by
      rcases List.mem_cons.1 ((h x).1 (by simp)) with e | hx
      · exact e
      · rcases List.mem_cons.1 ((h y).2 (by simp)) with e | hy
        · exact e.symm
        · have := b1 x hx; have := a1 y hy; omega
    subst e
    rw [sorted_ext l m a2 b2 (fun z => ?_)]
    constructor
    · intro hz
      rcases List.mem_cons.1 ((h z).1 (by simp [hz])) with e | hz2
      · subst e; exact absurd (a1 z hz) (by omega)
      · exact hz2
    · intro hz
      rcases List.mem_cons.1 ((h z).2 (by simp [hz])) with e | hz2
      · subst e; exact absurd (b1 z hz) (by omega)
      · exact hz2
theorem compact_ok (d : Array Int) (hs : ∀ i j, i < j → j < d.size → d[i]! ≤ d[j]!) : ∀ m, m ≤ d.size →
    (Go.Lib.compactUpTo d m).Pairwise (· < ·) ∧ (∀ z, z ∈ Go.Lib.compactUpTo d m ↔ ∃ j, j < m ∧ d[j]! = z) ∧ (∀ z ∈ Go.Lib.compactUpTo d m, z ≤ d[m - 1]!)
  | 0, _ => ⟨by simp [Go.Lib.compactUpTo], fun z => by simp [Go.Lib.compactUpTo], fun z hz => by simp [Go.Lib.compactUpTo] at hz⟩
  | m + 1, hm => by
    obtain ⟨h1, h2, h3⟩ := compact_ok d hs m (by omega)
    rw [Go.Lib.compactUpTo_succ]
    by_cases hk : Go.Lib.keeps d m = true
    · rw [if_pos hk]
      have hlt : ∀ z ∈ Go.Lib.compactUpTo d m, z < d[m]! := by
        intro z hz
        have hz1 := h3 z hz
        obtain ⟨j, hj, _⟩ := (h2 z).1 hz
        unfold Go.Lib.keeps at hk
        rw [decide_eq_true_iff] at hk
        rcases hk with e | e
        · omega
        · have := hs (m - 1) m (by omega) (by omega)
          omega
      refine ⟨?_, fun z => ?_, fun z hz => ?_⟩
      · rw [List.pairwise_append]
        refine ⟨h1, by simp, fun x hx y hy => ?_⟩
        rw [List.mem_singleton.1 hy]
        exact hlt x hx
      · rw [List.mem_append, h2 z, List.mem_singleton]
        constructor
        · rintro (⟨j, hj, e⟩ | e)
          · exact ⟨j, by omega, e⟩
          · exact ⟨m, by omega, e.symm⟩
        · rintro ⟨j, hj, e⟩
          by_cases c : j = m
          · subst c; exact .inr e.symm
          · exact .inl ⟨j, by omega, e⟩
      · rw [Nat.add_sub_cancel]
        rcases List.mem_append.1 hz with hz | hz
        · have := hlt z hz; omega
        · rw [List.mem_singleton.1 hz]; exact Int.le_refl _
    · rw [if_neg hk, List.append_nil]
      unfold Go.Lib.keeps at hk
      rw [decide_eq_true_iff] at hk
      have hm0 : m ≠ 0 := fun e => hk (.inl e)
      have he : d[m]! = d[m - 1]! := Decidable.byContradiction (fun e => hk (.inr e))
      refine ⟨h1, fun z => ?_, fun z hz => ?_⟩
      · rw [h2 z]
        constructor
        · rintro ⟨j, hj, e⟩; exact ⟨j, by omega, e⟩
        · rintro ⟨j, hj, e⟩
          by_cases c : j = m
          · subst c; exact ⟨j - 1, by omega, by rw [← he]; exact e⟩
          · exact ⟨j, by omega, e⟩
      · rw [Nat.add_sub_cancel, he]
        exact h3 z hz
/-- sorted: what the program's Sort and Compact come to. -/
theorem sorted_eq (l : List Int) : Go.Lib.compactUpTo (l.mergeSort fun x y => decide (x ≤ y)).toArray (l.mergeSort fun x y => decide (x ≤ y)).length = l.foldl insI [] := by
  have hp := List.mergeSort_perm l (fun x y => decide (x ≤ y))
  have hso : (l.mergeSort fun x y => decide (x ≤ y)).Pairwise (fun x y => decide (x ≤ y) = true) := List.pairwise_mergeSort (by intro a b c h1 h2; rw [decide_eq_true_iff] at *; omega) (by intro a b; simp only [Bool.or_eq_true, decide_eq_true_iff]; omega) l
  generalize hs : (l.mergeSort fun x y => decide (x ≤ y)) = s at hp hso
  have hmono : ∀ i j, i < j → j < s.toArray.size → s.toArray[i]! ≤ s.toArray[j]! := by
    intro i j hij hj
    have hj' : j < s.length := by simpa using hj
    have := List.pairwise_iff_getElem.1 hso i j (by omega) hj' hij
    rw [decide_eq_true_iff] at this
    rw [getElem!_pos s.toArray i (by simp; omega), getElem!_pos s.toArray j hj]
    simpa using this
  obtain ⟨h1, h2, _⟩ := compact_ok s.toArray hmono s.length (by simp)
  obtain ⟨g1, g2, _⟩ := foldI_ok l [] List.Pairwise.nil
  refine sorted_ext _ _ h1 g1 (fun z => ?_)
  rw [h2 z, g2 z]
  constructor
  · rintro ⟨j, hj, e⟩
    refine .inr (hp.mem_iff.1 ?_)
    rw [← e, getElem!_pos s.toArray j (by simpa using hj)]
    simp
  · rintro (h | h)
    · cases h
    · obtain ⟨j, hj, e⟩ := List.getElem_of_mem (hp.mem_iff.2 h)
      exact ⟨j, hj, by rw [getElem!_pos s.toArray j (by simpa using hj)]; simpa using e⟩
theorem impl_sorted_eq (l : List Int) (hl : l.length ≤ 1000000000000) : impl_sorted.f l = some (l.foldl insI []) := by
  unfold impl_sorted.f slices_Sort_int64_int64.f slices_Compact_int64_int64.f
  rw [if_pos hl]
  simp only [Option.bind_some, List.length_mergeSort]
  rw [if_pos hl]
  simp only [Option.bind_some]
  have := sorted_eq l
  rw [List.length_mergeSort] at this
  rw [this]
theorem l03Set_l0 (l : List Int) (n : Int) (hl : l.length ≤ 1000000000000) (d : Nat) : ∀ i : Nat, i + d = l.length → Ev (fun k => spec_l03Set.l0 k l n (i : Int)) (l.take i ++ insI (l.drop i) n) := by
  induction d with
  | zero =>
    intro i hi
    have h1 : i = l.length := by omega
    refine Ev.one (fun k => ?_)
    simp only [spec_l03Set.l0]
    have e1 : ((i : Int)).toNat = i := by omega
    rw [if_neg (by omega)]
    simp only [Option.bind_some, List.nil_append, List.length_nil, e1]
    rw [if_pos (by omega), if_pos (by omega)]
    simp only [List.length_take, List.length_drop, List.length_append, List.length_singleton]
    rw [if_pos (by omega), if_pos (by omega), if_pos (by omega), List.drop_of_length_le (by omega)]
    simp [insI]
  | succ d ih =>
    intro i hi
    have hlt : i < l.length := by omega
    have hw : wrap64 ((i : Int) + 1) = ((i + 1 : Nat) : Int) := w64 (by omega) (by omega)
    have e1 : ((i : Int)).toNat = i := by omega
    rw [drop_cons hlt]
    unfold insI
    by_cases c : l[i] < n
    · rw [if_pos c]
      refine Ev.step (f := fun k => spec_l03Set.l0 k l n ((i + 1 : Nat) : Int)) (fun k => ?_) (Ev.to ?_ (ih (i + 1) (by omega)))
      · simp only [spec_l03Set.l0]
        rw [if_pos (by omega), if_pos (by omega), rd_at hlt, if_pos c, hw]
      · rw [List.take_succ_eq_append_getElem hlt, List.append_assoc]; rfl
    · rw [if_neg c]
      by_cases c2 : l[i] = n
      · rw [if_pos c2]
        refine Ev.one (fun k => ?_)
        simp only [spec_l03Set.l0]
        rw [if_pos (by omega), if_pos (by omega), rd_at hlt, if_neg c, if_pos c2, ← drop_cons hlt, List.take_append_drop]
      · rw [if_neg c2]
        refine Ev.one (fun k => ?_)
        simp only [spec_l03Set.l0]
        rw [if_pos (by omega), if_pos (by omega), rd_at hlt, if_neg c, if_neg c2]
        simp only [Option.bind_some, List.nil_append, List.length_nil, e1]
        rw [if_pos (by omega)]
        simp only [List.length_take, List.length_drop, List.length_append, List.length_singleton]
        rw [if_pos (by omega), if_pos (by omega), if_pos (by omega), ← drop_cons hlt]
        simp
theorem l03Set_ev (l : List Int) (n : Int) (hl : l.length ≤ 1000000000000) : Ev (fun k => spec_l03Set.f k l n) (insI l n) := by
  have := l03Set_l0 l n hl l.length 0 (by omega)
  unfold spec_l03Set.f
  exact Ev.to (by simp) this

/-! Rows of events that are shown: their size, their copy, their likeness, their marks. -/
abbrev Sh := S55
abbrev ShL := S74
theorem rdSh {l : List Sh} {i : Nat} (h : i < l.length) : rd_T55 l (i : Int) = l[i] := getD_at _ h
theorem rdShL {l : List ShL} {i : Nat} (h : i < l.length) : rd_T74 l (i : Int) = l[i] := getD_at _ h
def toSh (x : ShL) : Sh := ⟨⟨x.f0.f0, x.f0.f1, x.f0.f2, x.f0.f3, x.f0.f4, x.f0.f5, x.f0.f6, x.f0.f7, x.f0.f8⟩, x.f1⟩
theorem szEvent_eq (a0 a1 a2 a3 a4 a5 : Int) (s : ByteArray) (l : List Int) (a8 : Int) (a : Int) (ha : -1 ≤ a) (h : a ≤ 1048576) (hs : s.size ≤ 9223372036854775807) (hn : l.length ≤ 9223372036854775807) :
    laws_szEvent.f a0 a1 a2 a3 a4 a5 s l a8 a = some (if a < s.size + l.length then -1 else a - s.size - l.length) := by
  unfold laws_szEvent.f
  rw [w64 (by omega) (by omega)]
  by_cases c : a < s.size
  · rw [if_pos (by omega), if_pos (by omega)]
  · rw [if_neg (by omega), szInt64S_eq l _ (by omega) (by omega) hn]
    simp only [Option.bind_some]
    by_cases c2 : a - s.size < l.length
    · rw [if_pos c2, if_pos (by omega), if_pos (by omega)]
    · rw [if_neg c2, if_neg (by omega), if_neg (by omega)]
theorem szShown_eq (a0 a1 a2 a3 a4 a5 : Int) (s : ByteArray) (l : List Int) (a8 : Int) (b : Bool) (a : Int) (ha : 0 ≤ a) (h : a ≤ 1048576) (hs : s.size ≤ 9223372036854775807) (hn : l.length ≤ 9223372036854775807) :
    laws_szShown.f a0 a1 a2 a3 a4 a5 s l a8 b a = some (if a < s.size + l.length then -1 else a - s.size - l.length) := by
  unfold laws_szShown.f
  rw [szEvent_eq a0 a1 a2 a3 a4 a5 s l a8 a (by omega) h hs hn]
  simp only [Option.bind_some]
  by_cases c : a < (s.size : Int) + l.length
  · rw [if_pos c, if_pos (by omega)]
  · rw [if_neg c, if_neg (by omega)]
def sumP : List ShL → Nat
  | [] => 0
  | x :: r => x.f0.f7.length + sumP r
theorem sumP_mem : ∀ (l : List ShL) (x : ShL), x ∈ l → x.f0.f7.length ≤ sumP l
  | y :: r, x, h => by
    rcases List.mem_cons.1 h with e | e
    · subst e; show _ ≤ x.f0.f7.length + sumP r; omega
    · have := sumP_mem r x e; show _ ≤ y.f0.f7.length + sumP r; omega
theorem szShownS_l0 (l : List ShL) (hok : ∀ x ∈ l, x.f0.f6.size ≤ 9223372036854775807 ∧ x.f0.f7.length ≤ 9223372036854775807) (hl : l.length ≤ 1048576) (d : Nat) : ∀ (i : Nat) (a : Int), i + d = l.length → 0 ≤ a → a ≤ 1048576 →
    ∃ r, Ev (fun k => laws_szShownS.l0 k l a (i : Int)) r ∧ r ≤ a ∧ (0 ≤ r → ((sumP (l.drop i) : Nat) : Int) ≤ a) := by
  induction d with
  | zero =>
    intro i a hi h0 h1
    refine ⟨a, Ev.one (fun k => ?_), by omega, fun _ => ?_⟩
    · simp only [laws_szShownS.l0]
      rw [if_neg (by omega)]
    · rw [List.drop_of_length_le (by omega)]; exact h0
  | succ d ih =>
    intro i a hi h0 h1
    have hlt : i < l.length := by omega
    have hx := hok _ (List.getElem_mem hlt)
    have hs := szShown_eq (l[i]).f0.f0 (l[i]).f0.f1 (l[i]).f0.f2 (l[i]).f0.f3 (l[i]).f0.f4 (l[i]).f0.f5 (l[i]).f0.f6 (l[i]).f0.f7 (l[i]).f0.f8 (l[i]).f1 a h0 h1 hx.1 hx.2
    by_cases c : a < ((l[i]).f0.f6.size : Int) + (l[i]).f0.f7.length
    · rw [if_pos c] at hs
      refine ⟨-1, Ev.one (fun k => ?_), by omega, fun h => absurd h (by omega)⟩
      simp only [laws_szShownS.l0]
      rw [if_pos (by omega), if_pos (by omega), rdShL hlt, hs]
      rfl
    · rw [if_neg c] at hs
      obtain ⟨r, hr, h2, h3⟩ := ih (i + 1) (a - ((l[i]).f0.f6.size : Int) - (l[i]).f0.f7.length) (by omega) (by omega) (by omega)
      refine ⟨r, Ev.step (fun k => ?_) hr, by omega, fun h => ?_⟩
      · simp only [laws_szShownS.l0]
        rw [if_pos (by omega), if_pos (by omega), rdShL hlt, hs]
        simp only [Option.bind_some]
        rw [if_neg (by omega), w64 (by omega) (by omega)]
        rfl
      · have := h3 h
        rw [drop_cons hlt]
        show (((l[i]).f0.f7.length + sumP (l.drop (i + 1)) : Nat) : Int) ≤ a
        omega
theorem szShownS_ev (l : List ShL) (hl : l.length ≤ 9223372036854775807) (hok : ∀ x ∈ l, x.f0.f6.size ≤ 9223372036854775807 ∧ x.f0.f7.length ≤ 9223372036854775807) (a : Int) (h0 : 0 ≤ a) (h1 : a ≤ 1048576) :
    ∃ r, Ev (fun k => laws_szShownS.f k l a) r ∧ r ≤ 1048576 ∧ (0 ≤ r → l.length ≤ 1048576 ∧ sumP l ≤ 1048576) := by
  unfold laws_szShownS.f
  rw [w64 (by omega) (by omega)]
  by_cases c : a - (l.length : Int) < 0
  · exact ⟨-1, Ev.pos c (Ev.now _), by omega, fun h => absurd h (by omega)⟩
  · obtain ⟨r, hr, h2, h3⟩ := szShownS_l0 l hok (by omega) l.length 0 (a - l.length) (by omega) (by omega) (by omega)
    refine ⟨r, Ev.neg c hr, by omega, fun h => ⟨by omega, ?_⟩⟩
    have := h3 h
    rw [List.drop_zero] at this
    omega
theorem toShown_ev (a0 a1 a2 a3 a4 a5 : Int) (s : ByteArray) (l : List Int) (a8 : Int) (b : Bool) (hl : l.length ≤ 1048576) : Ev (fun k => laws_toShown.f k a0 a1 a2 a3 a4 a5 s l a8 b) (a0, a1, a2, a3, a4, a5, s, l, a8, b) := by
  unfold laws_toShown.f laws_toEvent.f
  exact Ev.bind (a := (a0, a1, a2, a3, a4, a5, s, l, a8)) (Ev.bind (toInt64S_ev l hl) (Ev.now _)) (Ev.now _)
theorem toShownS_l0 (l : List ShL) (hl : l.length ≤ 1048576) (hp : ∀ x ∈ l, x.f0.f7.length ≤ 1048576) (d : Nat) : ∀ (i : Nat) (acc : List Sh), i + d = l.length → acc.length = l.length → acc.take i = (l.map toSh).take i →
    Ev (fun k => laws_toShownS.l0 k l acc (i : Int)) (l.map toSh) := by
  induction d with
  | zero =>
    intro i acc hi ha hp2
    refine Ev.to ?_ (Ev.one (r := acc) (fun k => ?_))
    · rw [List.take_of_length_le (by omega), List.take_of_length_le (by rw [List.length_map]; omega)] at hp2
      exact hp2
    · simp only [laws_toShownS.l0]
      rw [if_neg (by omega)]
  | succ d ih =>
    intro i acc hi ha hp2
    have hlt : i < l.length := by omega
    have hx := hp _ (List.getElem_mem hlt)
    refine Ev.step (f := fun k => (laws_toShown.f k (l[i]).f0.f0 (l[i]).f0.f1 (l[i]).f0.f2 (l[i]).f0.f3 (l[i]).f0.f4 (l[i]).f0.f5 (l[i]).f0.f6 (l[i]).f0.f7 (l[i]).f0.f8 (l[i]).f1).bind fun b => laws_toShownS.l0 k l (acc.set i (⟨⟨b.1, b.2.1, b.2.2.1, b.2.2.2.1, b.2.2.2.2.1, b.2.2.2.2.2.1, b.2.2.2.2.2.2.1, b.2.2.2.2.2.2.2.1, b.2.2.2.2.2.2.2.2.1⟩, b.2.2.2.2.2.2.2.2.2⟩ : Sh)) ((i + 1 : Nat) : Int)) (fun k => ?_) (Ev.bind (toShown_ev _ _ _ _ _ _ _ _ _ _ hx) (ih (i + 1) (acc.set i (toSh l[i])) (by omega) (by simpa using ha) ?_))
    · simp only [laws_toShownS.l0]
      rw [if_pos (by omega), if_pos (by omega), rdShL hlt, w64 (by omega) (by omega), Int.toNat_natCast]
      simp only [if_pos (show (i : Int) < (acc.length : Int) by omega)]
      rfl
    · rw [List.take_succ_eq_append_getElem (by simp; omega), List.take_succ_eq_append_getElem (by rw [List.length_map]; exact hlt), ← hp2, List.take_set_of_le (by omega)]
      simp
theorem toShownS_ev (l : List ShL) (hl : l.length ≤ 1048576) (hp : ∀ x ∈ l, x.f0.f7.length ≤ 1048576) : Ev (fun k => laws_toShownS.f k l) (l.map toSh) := by
  unfold laws_toShownS.f
  refine Ev.pos (by omega) (Ev.pos (by simp; omega) ?_)
  exact toShownS_l0 l hl hp l.length 0 _ (by omega) (by simp) (by simp)
theorem eqShown_ev (a0 a1 a2 a3 a4 a5 : Int) (s : ByteArray) (l : List Int) (a8 : Int) (b : Bool) (hl : l.length ≤ 9223372036854775806) : Ev (fun k => laws_eqShown.f k a0 a1 a2 a3 a4 a5 s l a8 b a0 a1 a2 a3 a4 a5 s l a8 b) true := by
  unfold laws_eqShown.f laws_eqEvent.f
  refine Ev.bind (a := true) ?_ (Ev.pos rfl (Ev.neg (by simp) (Ev.now _)))
  exact Ev.pos rfl (Ev.pos rfl (Ev.pos rfl (Ev.pos rfl (Ev.pos rfl (Ev.pos rfl (Ev.pos rfl (Ev.bind (eqInt64S_ev l hl) (Ev.pos rfl (Ev.pos rfl (Ev.now _))))))))))
theorem eqShownS_l0 (l : List Sh) (hl : l.length ≤ 9223372036854775806) (hp : ∀ x ∈ l, x.f0.f7.length ≤ 9223372036854775806) (d : Nat) : ∀ i : Nat, i + d = l.length → Ev (fun k => laws_eqShownS.l0 k l l (i : Int)) true := by
  induction d with
  | zero =>
    intro i hi
    refine Ev.one (fun k => ?_)
    simp only [laws_eqShownS.l0]
    rw [if_neg (by omega)]
  | succ d ih =>
    intro i hi
    have hlt : i < l.length := by omega
    have hx := hp _ (List.getElem_mem hlt)
    refine Ev.step (f := fun k => (laws_eqShown.f k (l[i]).f0.f0 (l[i]).f0.f1 (l[i]).f0.f2 (l[i]).f0.f3 (l[i]).f0.f4 (l[i]).f0.f5 (l[i]).f0.f6 (l[i]).f0.f7 (l[i]).f0.f8 (l[i]).f1 (l[i]).f0.f0 (l[i]).f0.f1 (l[i]).f0.f2 (l[i]).f0.f3 (l[i]).f0.f4 (l[i]).f0.f5 (l[i]).f0.f6 (l[i]).f0.f7 (l[i]).f0.f8 (l[i]).f1).bind fun b => if b = true then laws_eqShownS.l0 k l l ((i + 1 : Nat) : Int) else some false) (fun k => ?_) (Ev.bind (eqShown_ev _ _ _ _ _ _ _ _ _ _ hx) (Ev.pos rfl (ih (i + 1) (by omega))))
    simp only [laws_eqShownS.l0]
    rw [if_pos (by omega), if_pos (by omega), if_pos (by omega), rdSh hlt, w64 (by omega) (by omega)]
    rfl
theorem eqShownS_ev (l : List Sh) (hl : l.length ≤ 9223372036854775806) (hp : ∀ x ∈ l, x.f0.f7.length ≤ 9223372036854775806) : Ev (fun k => laws_eqShownS.f k l l) true := by
  unfold laws_eqShownS.f
  exact Ev.pos rfl (eqShownS_l0 l hl hp l.length 0 (by omega))
def markI (m : Int) : List Int → List Int
  | [] => []
  | _ :: r => m :: markI (m + 1) r
theorem markI_len : ∀ (l : List Int) (m : Int), (markI m l).length = l.length
  | [], _ => rfl
  | _ :: r, m => by simp [markI, markI_len r]
theorem markI_get : ∀ (l : List Int) (m : Int) (i : Nat) (h : i < (markI m l).length), (markI m l)[i] = m + i
  | [], m, i, h => by simp [markI] at h
  | _ :: r, m, 0, h => by simp [markI]
  | _ :: r, m, i + 1, h => by
    simp only [markI, List.getElem_cons_succ]
    rw [markI_get r (m + 1) i]
    omega
theorem markI_l0 (d : Nat) : ∀ (i : Nat) (l : List Int) (m : Int), i + d = l.length → l.length ≤ 4194304 → 0 ≤ m → m + (d : Int) ≤ 1099511627776 →
    Ev (fun k => laws_markInt64S.l0 k l m (i : Int)) (m + (d : Int), l.take i ++ markI m (l.drop i)) := by
  induction d with
  | zero =>
    intro i l m hi hl h0 h1
    rw [List.drop_of_length_le (by omega), List.take_of_length_le (by omega)]
    refine Ev.one (fun k => ?_)
    simp only [laws_markInt64S.l0]
    rw [if_neg (by omega)]
    simp [markI]
  | succ d ih =>
    intro i l m hi hl h0 h1
    have hlt : i < l.length := by omega
    have hw : wrap64 ((i : Int) + 1) = ((i + 1 : Nat) : Int) := w64 (by omega) (by omega)
    have hw2 : wrap64 (m + 1) = m + 1 := w64 (by omega) (by omega)
    have hset : (l.set i m).length = l.length := by simp
    refine Ev.step (f := fun k => laws_markInt64S.l0 k (l.set i m) (m + 1) ((i + 1 : Nat) : Int)) (fun k => ?_) (Ev.to ?_ (ih (i + 1) (l.set i m) (m + 1) (by rw [hset]; omega) (by rw [hset]; exact hl) (by omega) (by omega)))
    · simp only [laws_markInt64S.l0]
      rw [if_pos (by omega), if_pos (by omega), hw, hw2, Int.toNat_natCast]
    · have e0 : m + 1 + (d : Int) = m + ((d + 1 : Nat) : Int) := by omega
      rw [drop_cons hlt, markI, e0]
      have e1 : (l.set i m).take (i + 1) = l.take i ++ [m] := by
        rw [List.take_succ_eq_append_getElem (by simp; exact hlt), List.take_set_of_le (Nat.le_refl _)]
        simp
      have e2 : (l.set i m).drop (i + 1) = l.drop (i + 1) := by rw [List.drop_set_of_lt (by omega)]
      rw [e1, e2, List.append_assoc]; rfl
theorem markI_ev (l : List Int) (m : Int) (hl : l.length ≤ 4194304) (h0 : 0 ≤ m) (h1 : m + (l.length : Int) ≤ 1099511627776) : Ev (fun k => laws_markInt64S.f k l m) (m + (l.length : Int), markI m l) := by
  have := markI_l0 l.length 0 l m (by omega) hl h0 h1
  unfold laws_markInt64S.f
  simpa using this
theorem heldI_l0 (l : List Int) (m : Int) (h0 : 0 ≤ m) (h1 : m + (l.length : Int) ≤ 1099511627776) (hl : l.length ≤ 4194304) (d : Nat) : ∀ i : Nat, i + d = l.length → Ev (fun k => laws_heldInt64S.l0 k (markI m l) (m + (i : Int)) (i : Int)) (m + (l.length : Int)) := by
  induction d with
  | zero =>
    intro i hi
    refine Ev.one (fun k => ?_)
    simp only [laws_heldInt64S.l0]
    rw [if_neg (by rw [markI_len]; omega)]
    congr 1; omega
  | succ d ih =>
    intro i hi
    have hlt : i < (markI m l).length := by rw [markI_len]; omega
    have hw : wrap64 ((i : Int) + 1) = ((i + 1 : Nat) : Int) := w64 (by omega) (by omega)
    have hw2 : wrap64 (m + (i : Int) + 1) = m + ((i + 1 : Nat) : Int) := by rw [w64 (by omega) (by omega)]; omega
    refine Ev.step (f := fun k => laws_heldInt64S.l0 k (markI m l) (m + ((i + 1 : Nat) : Int)) ((i + 1 : Nat) : Int)) (fun k => ?_) (ih (i + 1) (by omega))
    simp only [laws_heldInt64S.l0]
    rw [if_pos (by omega), if_pos (by omega), rd_at hlt, markI_get, if_pos rfl, hw, hw2]
theorem heldI_ev (l : List Int) (m : Int) (h0 : 0 ≤ m) (h1 : m + (l.length : Int) ≤ 1099511627776) (hl : l.length ≤ 4194304) : Ev (fun k => laws_heldInt64S.f k (markI m l) m) (m + (l.length : Int)) := by
  have := heldI_l0 l m h0 h1 hl l.length 0 (by omega)
  unfold laws_heldInt64S.f
  simpa using this
theorem markText_l0 (n : Nat) : ∀ (x : Int) (t : ByteArray), 0 ≤ x → x.toNat ≤ n → t.size + n ≤ 9223372036854775800 → ∃ r, Ev (fun k => laws_markText.l0 k x t) r := by
  induction n using Nat.strongRecOn with
  | ind n ih =>
    intro x t h0 hn ht
    by_cases c : x > 0
    · have hd : Int.tdiv x 10 = x / 10 := Int.tdiv_eq_ediv_of_nonneg h0
      obtain ⟨r, hr⟩ := ih (n - 1) (by omega) (x / 10) (strOfNums [(wrap64 (48 + (Int.tmod x 10))) % 256] ++ t) (by omega) (by omega) (by rw [ByteArray.size_append, show (strOfNums [(wrap64 (48 + (Int.tmod x 10))) % 256]).size = 1 from rfl]; omega)
      refine ⟨r, Ev.step (fun k => ?_) hr⟩
      simp only [laws_markText.l0]
      rw [if_pos c]
      simp only [Option.bind_some]
      rw [if_pos (by rw [show (strOfNums [(wrap64 (48 + (Int.tmod x 10))) % 256]).size = 1 from rfl]; omega), hd, show wrap64 (x / 10) = x / 10 from by have : x / 10 ≤ x := Int.ediv_le_self _ h0; exact w64 (by omega) (by omega)]
    · refine ⟨(⟨#[109]⟩ : ByteArray) ++ t, Ev.one (fun k => ?_)⟩
      simp only [laws_markText.l0]
      rw [if_neg c, if_pos (by omega)]
theorem markText_ev (x : Int) (h : x ≤ 1099511627776) : ∃ r, Ev (fun k => laws_markText.f k x) r := by
  unfold laws_markText.f
  by_cases c : x ≤ 0
  · exact ⟨_, Ev.pos c (Ev.now _)⟩
  · obtain ⟨r, hr⟩ := markText_l0 x.toNat x (⟨#[]⟩ : ByteArray) (by omega) (Nat.le_refl _) (by show 0 + x.toNat ≤ _; omega)
    exact ⟨r, Ev.neg c hr⟩
def sumQ : List Sh → Nat
  | [] => 0
  | x :: r => x.f0.f7.length + sumQ r
theorem sumQ_map : ∀ l : List ShL, sumQ (l.map toSh) = sumP l
  | [] => rfl
  | x :: r => by show x.f0.f7.length + sumQ (r.map toSh) = x.f0.f7.length + sumP r; rw [sumQ_map r]
theorem markSh_l0 (d : Nat) : ∀ (i : Nat) (l : List Sh) (m : Int), i + d = l.length → l.length ≤ 1048576 → sumQ (l.drop i) ≤ 1048576 → 0 ≤ m → m + 9 * (d : Int) + sumQ (l.drop i) ≤ 1099511627000 →
    ∃ r, Ev (fun k => laws_markShownS.l0 k l m (i : Int)) r ∧ 0 ≤ r := by
  induction d with
  | zero =>
    intro i l m hi hl hs h0 h1
    refine ⟨m, Ev.one (fun k => ?_), h0⟩
    simp only [laws_markShownS.l0]
    rw [if_neg (by omega)]
  | succ d ih =>
    intro i l m hi hl hs h0 h1
    have hlt : i < l.length := by omega
    have e0 : sumQ (l.drop i) = (l[i]).f0.f7.length + sumQ (l.drop (i + 1)) := by rw [drop_cons hlt]; rfl
    obtain ⟨t, ht⟩ := markText_ev (m + 6) (by omega)
    have hp := markI_ev (l[i]).f0.f7 (m + 7) (by omega) (by omega) (by omega)
    have hdr : ∀ v : Sh, (l.set i v).drop (i + 1) = l.drop (i + 1) := fun v => by rw [List.drop_set_of_lt (by omega)]
    obtain ⟨v, hv⟩ : ∃ v : Sh, v = (⟨⟨m, m + 1, m + 2, m + 3, m + 4, m + 5, t, markI (m + 7) (l[i]).f0.f7, m + 7 + ((l[i]).f0.f7.length : Int)⟩, (Int.tmod (m + 8 + ((l[i]).f0.f7.length : Int)) 3 == 0)⟩ : Sh) := ⟨_, rfl⟩
    have hq : sumQ ((l.set i v).drop (i + 1)) = sumQ (l.drop (i + 1)) := congrArg sumQ (hdr v)
    have g1 : i + 1 + d = (l.set i v).length := by rw [List.length_set]; omega
    have g2 : (l.set i v).length ≤ 1048576 := by rw [List.length_set]; exact hl
    have g3 : sumQ ((l.set i v).drop (i + 1)) ≤ 1048576 := by rw [hq]; omega
    have g4 : m + 9 + ((l[i]).f0.f7.length : Int) + 9 * (d : Int) + sumQ ((l.set i v).drop (i + 1)) ≤ 1099511627000 := by rw [hq]; omega
    obtain ⟨r, hr, h2⟩ := ih (i + 1) (l.set i v) (m + 9 + ((l[i]).f0.f7.length : Int)) g1 g2 g3 (by omega) g4
    subst hv
    clear g1 g2 g3 g4 hq ih
    have hw : wrap64 ((i : Int) + 1) = ((i + 1 : Nat) : Int) := w64 (by omega) (by omega)
    have w1 : wrap64 (m + 1) = m + 1 := w64 (by omega) (by omega)
    have w2 : wrap64 (m + 1 + 1) = m + 2 := by rw [w64 (by omega) (by omega)]; omega
    have w3 : wrap64 (m + 2 + 1) = m + 3 := by rw [w64 (by omega) (by omega)]; omega
    have w4 : wrap64 (m + 3 + 1) = m + 4 := by rw [w64 (by omega) (by omega)]; omega
    have w5 : wrap64 (m + 4 + 1) = m + 5 := by rw [w64 (by omega) (by omega)]; omega
    have w6 : wrap64 (m + 5 + 1) = m + 6 := by rw [w64 (by omega) (by omega)]; omega
    have w7 : wrap64 (m + 6 + 1) = m + 7 := by rw [w64 (by omega) (by omega)]; omega
    have w8 : wrap64 (m + 7 + ((l[i]).f0.f7.length : Int) + 1) = m + 8 + ((l[i]).f0.f7.length : Int) := by rw [w64 (by omega) (by omega)]; omega
    have w9 : wrap64 (m + 8 + ((l[i]).f0.f7.length : Int) + 1) = m + 9 + ((l[i]).f0.f7.length : Int) := by rw [w64 (by omega) (by omega)]; omega
    refine ⟨r, ?_, h2⟩
    refine Ev.step (f := fun k => laws_markShownS.l0 (k + 1) l m (i : Int)) (fun k => rfl) ?_
    simp only [laws_markShownS.l0]
    refine Ev.pos (by omega) (Ev.pos (by omega) ?_)
    simp only [w1, w2, w3, w4, w5, w6, w7, rdSh hlt, hw]
    refine Ev.bind ht (Ev.bind hp ?_)
    simp only [w8, w9, Int.toNat_natCast]
    exact hr
theorem markSh_ev (l : List Sh) (m : Int) (hl : l.length ≤ 1048576) (hs : sumQ l ≤ 1048576) (h0 : 0 ≤ m) (h1 : m ≤ 1000000000) : ∃ r, Ev (fun k => laws_markShownS.f k l m) r ∧ 0 ≤ r := by
  unfold laws_markShownS.f
  exact markSh_l0 l.length 0 l m (by omega) hl (by rw [List.drop_zero]; exact hs) h0 (by rw [List.drop_zero]; omega)

/-! Who speaks: the users that are named, each once, in order. -/
def usr (n : Int) : Bool := decide (1 ≤ n ∧ n ≤ 6)
theorem l02User_eq (a : Int) : spec_l02User.f a = some (usr a) := by unfold spec_l02User.f; rw [is_eq]; rfl
def cand : List Sh → List Int
  | [] => []
  | x :: r => x.f0.f2 :: ((if x.f0.f3 = 2 then [x.f0.f4] else []) ++ cand r)
theorem cand_len : ∀ l : List Sh, (cand l).length ≤ 2 * l.length
  | [] => Nat.le_refl _
  | x :: r => by
    have := cand_len r
    show (x.f0.f2 :: ((if x.f0.f3 = 2 then [x.f0.f4] else []) ++ cand r)).length ≤ 2 * (r.length + 1)
    rw [List.length_cons, List.length_append]
    split
    · rw [List.length_singleton]; omega
    · rw [List.length_nil]; omega
def speak (l : List Sh) : List Int := ((cand l).filter usr).foldl insI []
theorem speak_len (l : List Sh) : (speak l).length ≤ 2 * l.length := by
  have h1 := (foldI_ok ((cand l).filter usr) [] List.Pairwise.nil).2.2
  have h2 := List.length_filter_le usr (cand l)
  have h3 := cand_len l
  rw [List.length_nil] at h1
  unfold speak
  omega
theorem del_eq (l : List Int) (h : l.length ≤ 1000000000000) : slices_DeleteFunc_int64_int64.f l = some (l.filter usr) := by
  have e : (fun x => !slices_DeleteFunc_int64_int64.p x) = usr := by
    funext x
    unfold slices_DeleteFunc_int64_int64.p usr
    rw [Bool.not_not, Bool.decide_and]
  unfold slices_DeleteFunc_int64_int64.f
  rw [if_pos h, e]
theorem impl_spk_l0 (l : List Sh) (hl : l.length ≤ 1048576) (d : Nat) : ∀ (i : Nat) (x : List Int), i + d = l.length → x.length ≤ 2 * i → Ev (fun k => impl_speakers.l0 k x l (l.length : Int) (i : Int)) (((x ++ cand (l.drop i)).filter usr).foldl insI []) := by
  induction d with
  | zero =>
    intro i x hi hx
    refine Ev.step (f := fun k => impl_speakers.l0 (k + 1) x l (l.length : Int) (i : Int)) (fun k => rfl) ?_
    simp only [impl_speakers.l0]
    rw [List.drop_of_length_le (by omega)]
    have hf := List.length_filter_le usr x
    refine Ev.neg (by omega) (Ev.take (del_eq x (by omega)) (Ev.take (impl_sorted_eq _ (by omega)) ?_))
    show Ev _ (((x ++ []).filter usr).foldl insI [])
    rw [List.append_nil]
    exact Ev.now _
  | succ d ih =>
    intro i x hi hx
    have hlt : i < l.length := by omega
    have hw : wrap64 ((i : Int) + 1) = ((i + 1 : Nat) : Int) := w64 (by omega) (by omega)
    refine Ev.step (f := fun k => impl_speakers.l0 (k + 1) x l (l.length : Int) (i : Int)) (fun k => rfl) ?_
    simp only [impl_speakers.l0]
    rw [rdSh hlt, hw, drop_cons hlt]
    refine Ev.pos (by omega) (Ev.pos (by omega) (Ev.pos (by omega) (Ev.pos (by omega) (Ev.take rfl ?_))))
    by_cases c : l[i].f0.f3 = 2
    · have := ih (i + 1) ((x ++ [l[i].f0.f2]) ++ [l[i].f0.f4]) (by omega) (by rw [List.length_append, List.length_append]; simp; omega)
      refine Ev.pos c (Ev.pos (by rw [List.length_append]; simp; omega) (Ev.to ?_ this))
      show _ = ((x ++ (l[i].f0.f2 :: ((if l[i].f0.f3 = 2 then [l[i].f0.f4] else []) ++ cand (l.drop (i + 1))))).filter usr).foldl insI []
      rw [if_pos c]
      simp only [List.append_assoc, List.cons_append, List.nil_append]
    · have := ih (i + 1) (x ++ [l[i].f0.f2]) (by omega) (by rw [List.length_append]; simp; omega)
      refine Ev.neg c (Ev.to ?_ this)
      show _ = ((x ++ (l[i].f0.f2 :: ((if l[i].f0.f3 = 2 then [l[i].f0.f4] else []) ++ cand (l.drop (i + 1))))).filter usr).foldl insI []
      rw [if_neg c]
      simp only [List.append_assoc, List.cons_append, List.nil_append]
theorem impl_spk_ev (a : Int) (s : List En) (l : List Sh) (b : Bool) (c : Int) (hl : l.length ≤ 1048576) : Ev (fun k => impl_Speakers.f k a s l b c) (speak l) := by
  unfold impl_Speakers.f impl_speakers.f
  have := impl_spk_l0 l hl l.length 0 [] (by omega) (Nat.zero_le _)
  rw [List.drop_zero, List.nil_append] at this
  exact Ev.bind this (Ev.now _)
theorem s1_ev (x : List Int) (e : Sh) (hx : x.length ≤ 1000000000000) : Ev (fun k => spec_Speakers.s1 k x e) (([e.f0.f2].filter usr).foldl insI x) := by
  unfold spec_Speakers.s1
  refine Ev.take (l02User_eq _) ?_
  cases c : usr e.f0.f2 with
  | true =>
    refine Ev.pos rfl (Ev.to ?_ (l03Set_ev x _ hx))
    rw [List.filter_cons_of_pos c]; rfl
  | false =>
    refine Ev.neg (by simp) (Ev.to ?_ (Ev.now _))
    rw [List.filter_cons_of_neg (by simp [c])]; rfl
theorem s2_ev (x : List Int) (e : Sh) (hx : x.length ≤ 1000000000000) : Ev (fun k => spec_Speakers.s2 k x e) (((if e.f0.f3 = 2 then [e.f0.f4] else []).filter usr).foldl insI x) := by
  unfold spec_Speakers.s2
  by_cases q : e.f0.f3 = 2
  · rw [if_pos q]
    refine Ev.pos q (Ev.take (l02User_eq _) ?_)
    cases c : usr e.f0.f4 with
    | true =>
      refine Ev.pos rfl (Ev.to ?_ (l03Set_ev x _ hx))
      rw [List.filter_cons_of_pos c]; rfl
    | false =>
      refine Ev.neg (by simp) (Ev.to ?_ (Ev.now _))
      rw [List.filter_cons_of_neg (by simp [c])]; rfl
  · rw [if_neg q]
    exact Ev.neg q (Ev.now _)
theorem fold_one (z : List Int) (x : List Int) (h : z.length ≤ 1) : ((z.filter usr).foldl insI x).length ≤ x.length + 1 := by
  cases z with
  | nil => show x.length ≤ _; omega
  | cons y r =>
    cases r with
    | nil =>
      cases c : usr y with
      | true => rw [List.filter_cons_of_pos c]; exact insI_len y x
      | false => rw [List.filter_cons_of_neg (by simp [c])]; show x.length ≤ _; omega
    | cons _ _ => simp at h
theorem spec_spk_l0 (l : List Sh) (hl : l.length ≤ 1048576) (d : Nat) : ∀ (i : Nat) (x : List Int), i + d = l.length → x.length ≤ 2 * i → Ev (fun k => spec_Speakers.l0 k x l (i : Int)) (((cand (l.drop i)).filter usr).foldl insI x) := by
  induction d with
  | zero =>
    intro i x hi hx
    rw [List.drop_of_length_le (by omega)]
    refine Ev.one (fun k => ?_)
    simp only [spec_Speakers.l0]
    rw [if_neg (by omega)]; rfl
  | succ d ih =>
    intro i x hi hx
    have hlt : i < l.length := by omega
    have hw : wrap64 ((i : Int) + 1) = ((i + 1 : Nat) : Int) := w64 (by omega) (by omega)
    refine Ev.step (f := fun k => spec_Speakers.l0 (k + 1) x l (i : Int)) (fun k => rfl) ?_
    simp only [spec_Speakers.l0]
    rw [rdSh hlt, hw, drop_cons hlt]
    have f1 := fold_one [l[i].f0.f2] x (Nat.le_refl _)
    have f2 := fold_one (if l[i].f0.f3 = 2 then [l[i].f0.f4] else []) (([l[i].f0.f2].filter usr).foldl insI x) (by split <;> simp)
    refine Ev.pos (by omega) (Ev.pos (by omega) (Ev.bind (s1_ev x l[i] (by omega)) (Ev.bind (s2_ev _ l[i] (by omega)) (Ev.to ?_ (ih (i + 1) _ (by omega) (by omega))))))
    show _ = ((l[i].f0.f2 :: ((if l[i].f0.f3 = 2 then [l[i].f0.f4] else []) ++ cand (l.drop (i + 1)))).filter usr).foldl insI x
    rw [show (l[i].f0.f2 :: ((if l[i].f0.f3 = 2 then [l[i].f0.f4] else []) ++ cand (l.drop (i + 1)))) = [l[i].f0.f2] ++ ((if l[i].f0.f3 = 2 then [l[i].f0.f4] else []) ++ cand (l.drop (i + 1))) from rfl, List.filter_append, List.filter_append, List.foldl_append, List.foldl_append]
theorem spec_spk_ev (a : Int) (s : List En) (l : List Sh) (b : Bool) (c : Int) (hl : l.length ≤ 1048576) : Ev (fun k => spec_Speakers.f k a s l b c) (speak l) := by
  unfold spec_Speakers.f
  have := spec_spk_l0 l hl l.length 0 [] (by omega) (Nat.zero_le _)
  rw [List.drop_zero] at this
  exact this


end Go.Proofs.Ytcbfopepfhfaoaa.Print
