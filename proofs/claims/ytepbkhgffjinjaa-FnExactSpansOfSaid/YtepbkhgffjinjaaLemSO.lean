/- Lemmas: numbers sorted; range sets of numbers. -/
import Derived.Test.YtepbkhgffjinjaaPrint4
import Derived.Test.YtepbkhgffjinjaaLemOpens
import Derived.Laws.Bits64
namespace Go.Proofs.Ytepbkhgffjinjaa.Print
open Go.RowKit Go.Proofs.YtepbkhgffjinjaaW.PrintWords Go.Proofs.YtepbkhgffjinjaaW.PrintLast Go.Proofs.YtepbkhgffjinjaaW.PrintMore
set_option linter.unusedVariables false
set_option linter.unusedSimpArgs false

/-! Rounds: small helpers. -/
theorem Ev.pos {α : Type} {c : Prop} [Decidable c] {f g : Nat → Option α} {r : α} (hc : c) (h : Ev f r) : Ev (fun n => if c then f n else g n) r := by
  simp only [hc, if_true]; exact h
theorem Ev.neg {α : Type} {c : Prop} [Decidable c] {f g : Nat → Option α} {r : α} (hc : ¬ c) (h : Ev g r) : Ev (fun n => if c then f n else g n) r := by
  simp only [hc, if_false]; exact h
theorem Ev.here {α : Type} {o : Option α} {r : α} (h : o = some r) : Ev (fun _ => o) r := ⟨0, fun _ _ => h⟩
theorem Ev.take {α β : Type} {o : Option α} {f : Nat → α → Option β} {a : α} {r : β} (h : o = some a) (k : Ev (fun n => f n a) r) : Ev (fun n => o.bind (f n)) r := by
  subst h; exact k
theorem Ev.one {α : Type} {g : Nat → Option α} {r : α} (h : ∀ k, g (k + 1) = some r) : Ev g r := Ev.step (f := fun _ => some r) h (Ev.now r)
theorem Ev.to {α : Type} {g : Nat → Option α} {r q : α} (e : r = q) (h : Ev g r) : Ev g q := e ▸ h

/-! Lists of structs, read one by one. -/
theorem w64 {n : Int} (h0 : -9223372036854775808 ≤ n) (h1 : n ≤ 9223372036854775807) : wrap64 n = n := by unfold wrap64; omega
theorem drop_cons {α : Type} {l : List α} {i : Nat} (h : i < l.length) : l.drop i = l[i] :: l.drop (i + 1) := List.drop_eq_getElem_cons h
theorem getD_at {α : Type} {l : List α} {i : Nat} (d : α) (h : i < l.length) : l.getD ((i : Int)).toNat d = l[i] := by
  rw [Int.toNat_natCast, List.getD_eq_getElem?_getD, List.getElem?_eq_getElem h]; rfl

/-! The laws' helpers on lists of numbers. -/
theorem rd_at {l : List Int} {i : Nat} (h : i < l.length) : rd l (i : Int) = l[i] := getD_at _ h
theorem toInt64S_l0 (l : List Int) (hl : l.length ≤ 1048576) (d : Nat) : ∀ (i : Nat) (acc : List Int), i + d = l.length → acc.length = l.length → acc.take i = l.take i →
    Ev (fun k => laws_toInt64S.l0 k l acc (i : Int)) l := by
  induction d with
  | zero =>
    intro i acc hi ha hp
    refine Ev.to ?_ (Ev.one (r := acc) (fun k => ?_))
    · rw [List.take_of_length_le (by omega), List.take_of_length_le (by omega)] at hp
      exact hp
    · simp only [laws_toInt64S.l0]
      rw [if_neg (by omega)]
  | succ d ih =>
    intro i acc hi ha hp
    have hlt : i < l.length := by omega
    refine Ev.step (f := fun k => laws_toInt64S.l0 k l (acc.set i l[i]) ((i + 1 : Nat) : Int)) (fun k => ?_) (ih (i + 1) (acc.set i l[i]) (by omega) (by simpa using ha) ?_)
    · simp only [laws_toInt64S.l0]
      rw [if_pos (by omega), if_pos (by omega), if_pos (by omega), rd_at hlt, w64 (by omega) (by omega), Int.toNat_natCast]
      rfl
    · rw [List.take_succ_eq_append_getElem (by simp; omega), List.take_succ_eq_append_getElem hlt, ← hp, List.take_set_of_le (by omega)]
      simp
theorem toInt64S_ev (l : List Int) (hl : l.length ≤ 1048576) : Ev (fun k => laws_toInt64S.f k l) l := by
  unfold laws_toInt64S.f
  refine Ev.pos (by omega) (Ev.pos (by simp; omega) ?_)
  exact toInt64S_l0 l hl l.length 0 _ (by omega) (by simp) (by simp)
theorem eqInt64S_l0 (l : List Int) (hl : l.length ≤ 9223372036854775806) (d : Nat) : ∀ i : Nat, i + d = l.length → Ev (fun k => laws_eqInt64S.l0 k l l (i : Int)) true := by
  induction d with
  | zero =>
    intro i hi
    refine Ev.one (fun k => ?_)
    simp only [laws_eqInt64S.l0]
    rw [if_neg (by omega)]
  | succ d ih =>
    intro i hi
    refine Ev.step (f := fun k => laws_eqInt64S.l0 k l l ((i + 1 : Nat) : Int)) (fun k => ?_) (ih (i + 1) (by omega))
    simp only [laws_eqInt64S.l0]
    rw [if_pos (by omega), if_pos (by omega), if_pos (by omega), if_pos (by trivial), w64 (by omega) (by omega)]; rfl
theorem eqInt64S_ev (l : List Int) (hl : l.length ≤ 9223372036854775806) : Ev (fun k => laws_eqInt64S.f k l l) true := by
  unfold laws_eqInt64S.f
  exact Ev.pos rfl (eqInt64S_l0 l hl l.length 0 (by omega))

/-! Range sets: valid ones; copies; comparisons. -/
abbrev Sp := S60
theorem sp_at {l : List Sp} {i : Nat} (h : i < l.length) : rd_T60 l (i : Int) = l[i] := getD_at _ h
theorem in_eq (a b c : Int) : impl_in.f a b c = some (decide (b ≤ a ∧ a ≤ c)) := by
  unfold impl_in.f; split <;> simp [*]
theorem is_eq (a b c : Int) : spec_l02Is.f a b c = some (decide (b ≤ a ∧ a ≤ c)) := by
  unfold spec_l02Is.f
  by_cases h : b ≤ a
  · rw [if_pos h]; simp [h]
  · rw [if_neg h]; simp [h]
theorem isId_eq (a : Int) : impl_isId.f a = some (decide (1 ≤ a ∧ a ≤ 1000000)) := by unfold impl_isId.f; rw [in_eq]; rfl
theorem l02Id_eq (a : Int) : spec_l02Id.f a = some (decide (1 ≤ a ∧ a ≤ 1000000)) := by unfold spec_l02Id.f; rw [is_eq]; rfl
/-- Valid from a least number on. -/
def okFrom : Int → List Sp → Bool
  | _, [] => true
  | lo, x :: r => decide (lo ≤ x.f0 ∧ x.f0 ≤ x.f1 ∧ x.f1 ≤ 1000000) && okFrom (x.f1 + 2) r
def spRight (l : List Sp) : Bool := decide (l.length ≤ 400) && okFrom 1 l

/-- What a round of either side's loop asks of an element behind another one. -/
theorem okFrom_step {lo : Int} {x : Sp} {r : List Sp} : okFrom lo (x :: r) = (decide (lo ≤ x.f0 ∧ x.f0 ≤ x.f1 ∧ x.f1 ≤ 1000000) && okFrom (x.f1 + 2) r) := rfl

/-! ### the laws' own helpers -/
theorem sz_ge (n : Nat) (a : Int) (ha : -1 ≤ a) (h : a ≤ 1048576) (hn : n ≤ 9223372036854775807) : wrap64 (a - (n : Int)) = a - n := w64 (by omega) (by omega)
theorem eqSpan_self (a b : Int) : laws_eqSpan.f a b a b = some true := by unfold laws_eqSpan.f; simp
theorem eqSpanS_l0 (l : List Sp) (hl : l.length ≤ 9223372036854775806) (d : Nat) : ∀ i : Nat, i + d = l.length → Ev (fun k => laws_eqSpanS.l0 k l l (i : Int)) true := by
  induction d with
  | zero =>
    intro i hi
    refine Ev.one (fun k => ?_)
    simp only [laws_eqSpanS.l0]
    rw [if_neg (by omega)]
  | succ d ih =>
    intro i hi
    refine Ev.step (f := fun k => laws_eqSpanS.l0 k l l ((i + 1 : Nat) : Int)) (fun k => ?_) (ih (i + 1) (by omega))
    simp only [laws_eqSpanS.l0]
    rw [if_pos (by omega), if_pos (by omega), if_pos (by omega), eqSpan_self]
    simp only [Option.bind_some, if_true]
    rw [w64 (by omega) (by omega)]; rfl
theorem eqSpanS_ev (l : List Sp) (hl : l.length ≤ 9223372036854775806) : Ev (fun k => laws_eqSpanS.f k l l) true := by
  unfold laws_eqSpanS.f
  exact Ev.pos rfl (eqSpanS_l0 l hl l.length 0 (by omega))

/-! Marks of a range set. -/
/-- What marking leaves, and that it is still there. -/
def markSp (m : Int) : List Sp → List Sp
  | [] => []
  | _ :: r => ⟨m, m + 1⟩ :: markSp (m + 2) r
theorem markSp_length (l : List Sp) : ∀ m, (markSp m l).length = l.length := by
  induction l with
  | nil => intro m; rfl
  | cons x r ih => intro m; simp [markSp, ih]
theorem markSpanS_l0 (n : Nat) (hn : n ≤ 4194304) (d : Nat) : ∀ (i : Nat) (l : List Sp) (m : Int), i + d = l.length → l.length = n → 0 ≤ m → m ≤ 1099511627776 →
    Ev (fun k => laws_markSpanS.l0 k l (m + 2 * i) (i : Int)) (m + 2 * n, l.take i ++ markSp (m + 2 * i) (l.drop i)) := by
  induction d with
  | zero =>
    intro i l m hi hl h0 h1
    refine Ev.one (fun k => ?_)
    simp only [laws_markSpanS.l0]
    rw [if_neg (by omega), List.drop_of_length_le (by omega), List.take_of_length_le (by omega)]
    simp [markSp]; omega
  | succ d ih =>
    intro i l m hi hl h0 h1
    have hlt : i < l.length := by omega
    refine Ev.step (f := fun k => laws_markSpanS.l0 k (l.set i ⟨m + 2 * i, m + 2 * i + 1⟩) (m + 2 * ((i + 1 : Nat) : Int)) ((i + 1 : Nat) : Int)) (fun k => ?_)
      (Ev.to ?_ (ih (i + 1) (l.set i ⟨m + 2 * i, m + 2 * i + 1⟩) m (by simp; omega) (by simpa using hl) h0 h1))
    · simp only [laws_markSpanS.l0]
      rw [if_pos (by omega), if_pos (by omega)]
      simp only [Option.bind_some, Int.toNat_natCast]
      have e1 : wrap64 (m + 2 * (i : Int) + 1) = m + 2 * i + 1 := w64 (by omega) (by omega)
      have e2 : wrap64 (m + 2 * (i : Int) + 1 + 1) = m + 2 * ((i + 1 : Nat) : Int) := by rw [w64 (by omega) (by omega)]; omega
      have e3 : wrap64 ((i : Int) + 1) = ((i + 1 : Nat) : Int) := by unfold wrap64; omega
      rw [e1, e2, e3, sp_at hlt, sp_at (l := l.set i ⟨m + 2 * i, l[i].f1⟩) (i := i) (by simpa using hlt)]
      simp
    · rw [drop_cons hlt, List.take_succ_eq_append_getElem (by simpa using hlt)]
      have e : m + 2 * ((i + 1 : Nat) : Int) = m + 2 * i + 2 := by omega
      rw [e]; simp only [markSp]
      rw [List.take_set_of_le (Nat.le_refl _), List.drop_set_of_lt (by omega)]; simp
theorem markSpanS_ev (l : List Sp) (m : Int) (hl : l.length ≤ 4194304) (h0 : 0 ≤ m) (h1 : m ≤ 1099511627776) : Ev (fun k => laws_markSpanS.f k l m) (m + 2 * l.length, markSp m l) := by
  unfold laws_markSpanS.f
  simpa using markSpanS_l0 l.length hl l.length 0 l m (by omega) rfl h0 h1
theorem heldSpanS_l0 (m : Int) (h0 : 0 ≤ m) (h1 : m ≤ 1099511627776) (l0 : List Sp) (hl : l0.length ≤ 4194304) (d : Nat) : ∀ i : Nat, i + d = l0.length →
    Ev (fun k => laws_heldSpanS.l0 k (markSp m l0) (m + 2 * i) (i : Int)) (m + 2 * l0.length) := by
  have hget : ∀ (l : List Sp) (m : Int) (i : Nat) (h : i < (markSp m l).length), (markSp m l)[i] = ⟨m + 2 * i, m + 2 * i + 1⟩ := by
    intro l
    induction l with
    | nil => intro m i h; simp [markSp] at h
    | cons x r ih =>
      intro m i h
      cases i with
      | zero => simp [markSp]
      | succ i =>
        simp only [markSp, List.getElem_cons_succ]
        rw [ih]
        congr 1 <;> omega
  induction d with
  | zero =>
    intro i hi
    refine Ev.one (fun k => ?_)
    simp only [laws_heldSpanS.l0]
    rw [markSp_length, if_neg (by omega)]
    congr 1; omega
  | succ d ih =>
    intro i hi
    have hlt : i < (markSp m l0).length := by rw [markSp_length]; omega
    refine Ev.step (f := fun k => laws_heldSpanS.l0 k (markSp m l0) (m + 2 * ((i + 1 : Nat) : Int)) ((i + 1 : Nat) : Int)) (fun k => ?_) (ih (i + 1) (by omega))
    simp only [laws_heldSpanS.l0]
    have e1 : wrap64 (m + 2 * (i : Int) + 1) = m + 2 * i + 1 := w64 (by omega) (by omega)
    have e2 : wrap64 (m + 2 * (i : Int) + 1 + 1) = m + 2 * ((i + 1 : Nat) : Int) := by rw [w64 (by omega) (by omega)]; omega
    have e3 : wrap64 ((i : Int) + 1) = ((i + 1 : Nat) : Int) := by unfold wrap64; omega
    rw [if_pos (by omega), if_pos (by omega), sp_at hlt, hget, e1, if_pos rfl, if_pos rfl, e2, e3]
theorem heldSpanS_ev (l : List Sp) (m : Int) (hl : l.length ≤ 4194304) (h0 : 0 ≤ m) (h1 : m ≤ 1099511627776) : Ev (fun k => laws_heldSpanS.f k (markSp m l) m) (m + 2 * l.length) := by
  unfold laws_heldSpanS.f
  simpa using heldSpanS_l0 m h0 h1 l hl l.length 0 (by omega)

/-! Numbers in order, each once. -/
def insI : List Int → Int → List Int
  | [], n => [n]
  | x :: r, n => if x < n then x :: insI r n else if x = n then x :: r else n :: x :: r
theorem insI_mem (n z : Int) : ∀ l : List Int, z ∈ insI l n ↔ z = n ∨ z ∈ l
  | [] => by simp [insI]
  | x :: r => by
    unfold insI
    split
    · rw [List.mem_cons, insI_mem n z r, List.mem_cons]
      constructor
      · rintro (h | h | h)
        · exact .inr (.inl h)
        · exact .inl h
        · exact .inr (.inr h)
      · rintro (h | h | h)
        · exact .inr (.inl h)
        · exact .inl h
        · exact .inr (.inr h)
    · split
      · rename_i h1 h2
        subst h2
        rw [List.mem_cons]
        constructor
        · exact .inr
        · rintro (h | h)
          · exact .inl h
          · exact h
      · rw [List.mem_cons]
theorem insI_sorted (n : Int) : ∀ l : List Int, l.Pairwise (· < ·) → (insI l n).Pairwise (· < ·)
  | [], _ => by simp [insI]
  | x :: r, h => by
    obtain ⟨h1, h2⟩ := List.pairwise_cons.1 h
    unfold insI
    split
    · rename_i c
      refine List.pairwise_cons.2 ⟨fun z hz => ?_, insI_sorted n r h2⟩
      rcases (insI_mem n z r).1 hz with rfl | hz
      · exact c
      · exact h1 z hz
    · split
      · exact h
      · rename_i c1 c2
        refine List.pairwise_cons.2 ⟨fun z hz => ?_, h⟩
        rcases List.mem_cons.1 hz with rfl | hz
        · omega
        · have := h1 z hz; omega
theorem insI_len (n : Int) : ∀ l : List Int, (insI l n).length ≤ l.length + 1
  | [] => by simp [insI]
  | x :: r => by
    unfold insI
    split
    · have := insI_len n r; simp; omega
    · split
      · simp
      · simp
theorem foldI_ok : ∀ (l acc : List Int), acc.Pairwise (· < ·) → (l.foldl insI acc).Pairwise (· < ·) ∧ (∀ z, z ∈ l.foldl insI acc ↔ z ∈ acc ∨ z ∈ l) ∧ (l.foldl insI acc).length ≤ acc.length + l.length
  | [], acc, h => ⟨h, fun z => by simp, by simp⟩
  | x :: r, acc, h => by
    obtain ⟨h1, h2, h3⟩ := foldI_ok r (insI acc x) (insI_sorted x acc h)
    rw [List.foldl_cons]
    refine ⟨h1, fun z => ?_, by have := insI_len x acc; rw [List.length_cons]; omega⟩
    rw [h2 z, insI_mem, List.mem_cons]
    constructor
    · rintro ((h | h) | h)
      · exact .inr (.inl h)
      · exact .inl h
      · exact .inr (.inr h)
    · rintro (h | h | h)
      · exact .inl (.inr h)
      · exact .inl (.inl h)
      · exact .inr h
theorem sorted_ext : ∀ (l m : List Int), l.Pairwise (· < ·) → m.Pairwise (· < ·) → (∀ x, x ∈ l ↔ x ∈ m) → l = m
  | [], [], _, _, _ => rfl
  | [], y :: m, _, _, h => absurd ((h y).2 (by simp)) (by simp)
  | x :: l, [], _, _, h => absurd ((h x).1 (by simp)) (by simp)
  | x :: l, y :: m, h1, h2, h => by
    obtain ⟨a1, a2⟩ := List.pairwise_cons.1 h1
    obtain ⟨b1, b2⟩ := List.pairwise_cons.1 h2
    have e : x = y := by
      rcases List.mem_cons.1 ((h x).1 (by simp)) with e | hx
      · exact e
      · rcases List.mem_cons.1 ((h y).2 (by simp)) with e | hy
        · exact e.symm
        · have := b1 x hx; have := a1 y hy; omega
    subst e
    rw [sorted_ext l m a2 b2 (fun z => ?_)]
    constructor
    · intro hz
      rcases List.mem_cons.1 ((h z).1 (by simp [hz])) with e | hz2
      · subst e; exact absurd (a1 z hz) (by omega)
      · exact hz2
    · intro hz
      rcases List.mem_cons.1 ((h z).2 (by simp [hz])) with e | hz2
      · subst e; exact absurd (b1 z hz) (by omega)
      · exact hz2
theorem compact_ok (d : Array Int) (hs : ∀ i j, i < j → j < d.size → d[i]! ≤ d[j]!) : ∀ m, m ≤ d.size →
    (Go.Lib.compactUpTo d m).Pairwise (· < ·) ∧ (∀ z, z ∈ Go.Lib.compactUpTo d m ↔ ∃ j, j < m ∧ d[j]! = z) ∧ (∀ z ∈ Go.Lib.compactUpTo d m, z ≤ d[m - 1]!)
  | 0, _ => ⟨by simp [Go.Lib.compactUpTo], fun z => by simp [Go.Lib.compactUpTo], fun z hz => by simp [Go.Lib.compactUpTo] at hz⟩
  | m + 1, hm => by
    obtain ⟨h1, h2, h3⟩ := compact_ok d hs m (by omega)
    rw [Go.Lib.compactUpTo_succ]
    by_cases hk : Go.Lib.keeps d m = true
    · rw [if_pos hk]
      have hlt : ∀ z ∈ Go.Lib.compactUpTo d m, z < d[m]! := by
        intro z hz
        have hz1 := h3 z hz
        obtain ⟨j, hj, _⟩ := (h2 z).1 hz
        unfold Go.Lib.keeps at hk
        rw [decide_eq_true_iff] at hk
        rcases hk with e | e
        · omega
        · have := hs (m - 1) m (by omega) (by omega)
          omega
      refine ⟨?_, fun z => ?_, fun z hz => ?_⟩
      · rw [List.pairwise_append]
        refine ⟨h1, by simp, fun x hx y hy => ?_⟩
        rw [List.mem_singleton.1 hy]
        exact hlt x hx
      · rw [List.mem_append, h2 z, List.mem_singleton]
        constructor
        · rintro (⟨j, hj, e⟩ | e)
          · exact ⟨j, by omega, e⟩
          · exact ⟨m, by omega, e.symm⟩
        · rintro ⟨j, hj, e⟩
          by_cases c : j = m
          · subst c; exact .inr e.symm
          · exact .inl ⟨j, by omega, e⟩
      · rw [Nat.add_sub_cancel]
        rcases List.mem_append.1 hz with hz | hz
        · have := hlt z hz; omega
        · rw [List.mem_singleton.1 hz]; exact Int.le_refl _
    · rw [if_neg hk, List.append_nil]
      unfold Go.Lib.keeps at hk
      rw [decide_eq_true_iff] at hk
      have hm0 : m ≠ 0 := fun e => hk (.inl e)
      have he : d[m]! = d[m - 1]! := Decidable.byContradiction (fun e => hk (.inr e))
      refine ⟨h1, fun z => ?_, fun z hz => ?_⟩
      · rw [h2 z]
        constructor
        · rintro ⟨j, hj, e⟩; exact ⟨j, by omega, e⟩
        · rintro ⟨j, hj, e⟩
          by_cases c : j = m
          · subst c; exact ⟨j - 1, by omega, by rw [← he]; exact e⟩
          · exact ⟨j, by omega, e⟩
      · rw [Nat.add_sub_cancel, he]
        exact h3 z hz
/-- sorted: what the program's Sort and Compact come to. -/
theorem sorted_eq (l : List Int) : Go.Lib.compactUpTo (l.mergeSort fun x y => decide (x ≤ y)).toArray (l.mergeSort fun x y => decide (x ≤ y)).length = l.foldl insI [] := by
  have hp := List.mergeSort_perm l (fun x y => decide (x ≤ y))
  have hso : (l.mergeSort fun x y => decide (x ≤ y)).Pairwise (fun x y => decide (x ≤ y) = true) := List.pairwise_mergeSort (by intro a b c h1 h2; rw [decide_eq_true_iff] at *; omega) (by intro a b; simp only [Bool.or_eq_true, decide_eq_true_iff]; omega) l
  generalize hs : (l.mergeSort fun x y => decide (x ≤ y)) = s at hp hso
  have hmono : ∀ i j, i < j → j < s.toArray.size → s.toArray[i]! ≤ s.toArray[j]! := by
    intro i j hij hj
    have hj' : j < s.length := by simpa using hj
    have := List.pairwise_iff_getElem.1 hso i j (by omega) hj' hij
    rw [decide_eq_true_iff] at this
    rw [getElem!_pos s.toArray i (by simp; omega), getElem!_pos s.toArray j hj]
    simpa using this
  obtain ⟨h1, h2, _⟩ := compact_ok s.toArray hmono s.length (by simp)
  obtain ⟨g1, g2, _⟩ := foldI_ok l [] List.Pairwise.nil
  refine sorted_ext _ _ h1 g1 (fun z => ?_)
  rw [h2 z, g2 z]
  constructor
  · rintro ⟨j, hj, e⟩
    refine .inr (hp.mem_iff.1 ?_)
    rw [← e, getElem!_pos s.toArray j (by simpa using hj)]
    simp
  · rintro (h | h)
    · cases h
    · obtain ⟨j, hj, e⟩ := List.getElem_of_mem (hp.mem_iff.2 h)
      exact ⟨j, hj, by rw [getElem!_pos s.toArray j (by simpa using hj)]; simpa using e⟩
theorem impl_sorted_eq (l : List Int) (hl : l.length ≤ 1000000000000) : impl_sorted.f l = some (l.foldl insI []) := by
  unfold impl_sorted.f slices_Sort_int64_int64.f slices_Compact_int64_int64.f
  rw [if_pos hl]
  simp only [Option.bind_some, List.length_mergeSort]
  rw [if_pos hl]
  simp only [Option.bind_some]
  have := sorted_eq l
  rw [List.length_mergeSort] at this
  rw [this]
theorem l03Set_l0 (l : List Int) (n : Int) (hl : l.length ≤ 1000000000000) (d : Nat) : ∀ i : Nat, i + d = l.length → Ev (fun k => spec_l03Set.l0 k l n (i : Int)) (l.take i ++ insI (l.drop i) n) := by
  induction d with
  | zero =>
    intro i hi
    have h1 : i = l.length := by omega
    refine Ev.one (fun k => ?_)
    simp only [spec_l03Set.l0]
    have e1 : ((i : Int)).toNat = i := by omega
    rw [if_neg (by omega)]
    simp only [Option.bind_some, List.nil_append, List.length_nil, e1]
    rw [if_pos (by omega), if_pos (by omega)]
    simp only [List.length_take, List.length_drop, List.length_append, List.length_singleton]
    rw [if_pos (by omega), if_pos (by omega), if_pos (by omega), List.drop_of_length_le (by omega)]
    simp [insI]
  | succ d ih =>
    intro i hi
    have hlt : i < l.length := by omega
    have hw : wrap64 ((i : Int) + 1) = ((i + 1 : Nat) : Int) := w64 (by omega) (by omega)
    have e1 : ((i : Int)).toNat = i := by omega
    rw [drop_cons hlt]
    unfold insI
    by_cases c : l[i] < n
    · rw [if_pos c]
      refine Ev.step (f := fun k => spec_l03Set.l0 k l n ((i + 1 : Nat) : Int)) (fun k => ?_) (Ev.to ?_ (ih (i + 1) (by omega)))
      · simp only [spec_l03Set.l0]
        rw [if_pos (by omega), if_pos (by omega), rd_at hlt, if_pos c, hw]
      · rw [List.take_succ_eq_append_getElem hlt, List.append_assoc]; rfl
    · rw [if_neg c]
      by_cases c2 : l[i] = n
      · rw [if_pos c2]
        refine Ev.one (fun k => ?_)
        simp only [spec_l03Set.l0]
        rw [if_pos (by omega), if_pos (by omega), rd_at hlt, if_neg c, if_pos c2, ← drop_cons hlt, List.take_append_drop]
      · rw [if_neg c2]
        refine Ev.one (fun k => ?_)
        simp only [spec_l03Set.l0]
        rw [if_pos (by omega), if_pos (by omega), rd_at hlt, if_neg c, if_neg c2]
        simp only [Option.bind_some, List.nil_append, List.length_nil, e1]
        rw [if_pos (by omega)]
        simp only [List.length_take, List.length_drop, List.length_append, List.length_singleton]
        rw [if_pos (by omega), if_pos (by omega), if_pos (by omega), ← drop_cons hlt]
        simp
theorem l03Set_ev (l : List Int) (n : Int) (hl : l.length ≤ 1000000000000) : Ev (fun k => spec_l03Set.f k l n) (insI l n) := by
  have := l03Set_l0 l n hl l.length 0 (by omega)
  unfold spec_l03Set.f
  exact Ev.to (by simp) this

/-! The range set of numbers. -/
def stepR (out : List Sp) (id : Int) : List Sp := if h : 0 < out.length then (if (out[out.length - 1]).f1 + 1 = id then out.set (out.length - 1) ⟨(out[out.length - 1]).f0, id⟩ else out ++ [⟨id, id⟩]) else out ++ [⟨id, id⟩]
def okR (out : List Sp) : Prop := ∀ y ∈ out, 1 ≤ y.f1 ∧ y.f1 ≤ 1000000
theorem stepR_ok {out : List Sp} {id : Int} (h : okR out) (hid : 1 ≤ id ∧ id ≤ 1000000) : okR (stepR out id) ∧ (stepR out id).length ≤ out.length + 1 := by
  unfold stepR
  have happ : okR (out ++ [⟨id, id⟩]) := by
    intro y hy
    rcases List.mem_append.1 hy with hy | hy
    · exact h y hy
    · rw [List.mem_singleton.1 hy]; exact hid
  by_cases c : 0 < out.length
  · rw [dif_pos c]
    split
    · refine ⟨fun y hy => ?_, by simp⟩
      rcases List.mem_or_eq_of_mem_set hy with hy | rfl
      · exact h y hy
      · exact hid
    · exact ⟨happ, by simp⟩
  · rw [dif_neg c]; exact ⟨happ, by simp⟩
theorem spans_l0 (ids : List Int) (hl : ids.length ≤ 1000000) (hid : ∀ x ∈ ids, 1 ≤ x ∧ x ≤ 1000000) (d : Nat) : ∀ (i : Nat) (out : List Sp), i + d = ids.length → okR out → out.length ≤ i → Ev (fun k => impl_spans.l0 k out ids (ids.length : Int) (i : Int)) ((ids.drop i).foldl stepR out) := by
  induction d with
  | zero =>
    intro i out hi _ _
    rw [List.drop_of_length_le (by omega)]
    refine Ev.one (fun k => ?_)
    simp only [impl_spans.l0]
    rw [if_neg (by omega)]; rfl
  | succ d ih =>
    intro i out hi ho hol
    have hlt : i < ids.length := by omega
    have hx := hid _ (List.getElem_mem hlt)
    rw [drop_cons hlt, List.foldl_cons]
    have hw : wrap64 ((i : Int) + 1) = ((i + 1 : Nat) : Int) := w64 (by omega) (by omega)
    obtain ⟨s1, s2⟩ := stepR_ok ho hx
    have hn := ih (i + 1) (stepR out ids[i]) (by omega) s1 (by omega)
    by_cases c : 0 < out.length
    · have hw2 : wrap64 ((out.length : Int) - 1) = ((out.length - 1 : Nat) : Int) := by rw [w64 (by omega) (by omega)]; omega
      have hk : out.length - 1 < out.length := by omega
      have hb := ho _ (List.getElem_mem hk)
      have hw3 : wrap64 ((out[out.length - 1]).f1 + 1) = (out[out.length - 1]).f1 + 1 := w64 (by omega) (by omega)
      have e1 : (((out.length - 1 : Nat) : Int)).toNat = out.length - 1 := by omega
      refine Ev.step (fun k => ?_) hn
      simp only [impl_spans.l0]
      rw [if_pos (by omega), if_pos (by omega), if_pos (by omega), hw2, if_pos (by omega), if_pos (by omega), if_pos (by omega), sp_at hk, hw3, rd_at hlt, hw, e1]
      unfold stepR
      rw [dif_pos c]
      by_cases q : (out[out.length - 1]).f1 + 1 = ids[i]
      · rw [if_pos q, if_pos q]
      · rw [if_neg q, if_neg q, if_pos (by omega)]
    · have hz : out.length = 0 := by omega
      refine Ev.step (fun k => ?_) hn
      simp only [impl_spans.l0]
      have hw2 : wrap64 ((out.length : Int) - 1) = -1 := by rw [hz]; unfold wrap64; omega
      rw [if_pos (by omega), if_pos (by omega), if_pos (by omega), hw2, if_neg (by omega), rd_at hlt, hw, if_pos (by omega)]
      unfold stepR
      rw [dif_neg c]
theorem spans_ev (ids : List Int) (hl : ids.length ≤ 1000000) (hid : ∀ x ∈ ids, 1 ≤ x ∧ x ≤ 1000000) : Ev (fun k => impl_spans.f k ids) (ids.foldl stepR []) := by
  have := spans_l0 ids hl hid ids.length 0 [] (by omega) (fun y hy => by cases hy) (by simp)
  unfold impl_spans.f
  simpa using this
theorem l15Of_l0 (ids : List Int) (hl : ids.length ≤ 1000000) (hid : ∀ x ∈ ids, 1 ≤ x ∧ x ≤ 1000000) (d : Nat) : ∀ (i : Nat) (out : List Sp), i + d = ids.length → okR out → out.length ≤ i → Ev (fun k => spec_l15Of.l0 k ids out (i : Int)) ((ids.drop i).foldl stepR out) := by
  induction d with
  | zero =>
    intro i out hi _ _
    rw [List.drop_of_length_le (by omega)]
    refine Ev.one (fun k => ?_)
    simp only [spec_l15Of.l0]
    rw [if_neg (by omega)]; rfl
  | succ d ih =>
    intro i out hi ho hol
    have hlt : i < ids.length := by omega
    have hx := hid _ (List.getElem_mem hlt)
    rw [drop_cons hlt, List.foldl_cons]
    have hw : wrap64 ((i : Int) + 1) = ((i + 1 : Nat) : Int) := w64 (by omega) (by omega)
    obtain ⟨s1, s2⟩ := stepR_ok ho hx
    have hn := ih (i + 1) (stepR out ids[i]) (by omega) s1 (by omega)
    by_cases c : 0 < out.length
    · have hw2 : wrap64 ((out.length : Int) - 1) = ((out.length - 1 : Nat) : Int) := by rw [w64 (by omega) (by omega)]; omega
      have hk : out.length - 1 < out.length := by omega
      have hb := ho _ (List.getElem_mem hk)
      have hw3 : wrap64 ((out[out.length - 1]).f1 + 1) = (out[out.length - 1]).f1 + 1 := w64 (by omega) (by omega)
      have e1 : (((out.length - 1 : Nat) : Int)).toNat = out.length - 1 := by omega
      refine Ev.step (fun k => ?_) hn
      simp only [spec_l15Of.l0]
      rw [if_pos (by omega), if_pos (by omega), hw2, if_pos (by omega), if_pos (by omega), if_pos (by omega), sp_at hk, hw3, rd_at hlt, hw, e1]
      unfold stepR
      rw [dif_pos c]
      by_cases q : (out[out.length - 1]).f1 + 1 = ids[i]
      · rw [if_pos q, if_pos q]
      · rw [if_neg q, if_neg q, if_pos (by omega)]
    · have hz : out.length = 0 := by omega
      refine Ev.step (fun k => ?_) hn
      simp only [spec_l15Of.l0]
      rw [if_pos (by omega), if_neg (by omega), if_pos (by omega), rd_at hlt, hw, if_pos (by omega)]
      unfold stepR
      rw [dif_neg c]
theorem l15Of_ev (ids : List Int) (hl : ids.length ≤ 1000000) (hid : ∀ x ∈ ids, 1 ≤ x ∧ x ≤ 1000000) : Ev (fun k => spec_l15Of.f k ids) (ids.foldl stepR []) := by
  have := l15Of_l0 ids hl hid ids.length 0 [] (by omega) (fun y hy => by cases hy) (by simp)
  unfold spec_l15Of.f
  simpa using this
theorem foldR_len : ∀ (ids : List Int) (out : List Sp), (ids.foldl stepR out).length ≤ out.length + ids.length
  | [], out => by simp
  | x :: r, out => by
    have := foldR_len r (stepR out x)
    have h2 : (stepR out x).length ≤ out.length + 1 := by
      unfold stepR
      split
      · split <;> simp
      · simp
    rw [List.foldl_cons, List.length_cons]; omega
def idB (x : Int) : Bool := decide (1 ≤ x ∧ x ≤ 1000000)
def spansOf (l : List Int) : List Sp := if l.length > 400 then [] else if l.all idB = true then (l.foldl insI []).foldl stepR [] else []
theorem fold_ids {l : List Int} (h : l.all idB = true) : ∀ x ∈ l.foldl insI [], 1 ≤ x ∧ x ≤ 1000000 := by
  intro x hx
  rcases ((foldI_ok l [] List.Pairwise.nil).2.1 x).1 hx with h0 | h0
  · cases h0
  · exact of_decide_eq_true (List.all_eq_true.1 h x h0)
theorem fold_len (l : List Int) : (l.foldl insI []).length ≤ l.length := by have := (foldI_ok l [] List.Pairwise.nil).2.2; simpa using this
theorem spansOf_len (l : List Int) : (spansOf l).length ≤ 400 := by
  unfold spansOf
  split
  · simp
  · split
    · have h1 := foldR_len (l.foldl insI []) []
      have h2 := fold_len l
      simp only [List.length_nil] at h1
      omega
    · simp
theorem sSO_l0 (l : List Int) (hl : l.length ≤ 400) (d : Nat) : ∀ (i : Nat) (acc : List Int), i + d = l.length → acc.length ≤ i → (∀ x ∈ acc, 1 ≤ x ∧ x ≤ 1000000) → acc.Pairwise (· < ·) →
    Ev (fun k => spec_SpansOf.l0 k l acc (i : Int)) (if (l.drop i).all idB = true then ((l.drop i).foldl insI acc).foldl stepR [] else []) := by
  induction d with
  | zero =>
    intro i acc hi ha hid _
    rw [List.drop_of_length_le (by omega)]
    refine Ev.step (f := fun k => (spec_l15Of.f k acc).bind fun t => some t) (fun k => ?_) (Ev.bind (l15Of_ev acc (by omega) hid) (Ev.now _))
    simp only [spec_SpansOf.l0]
    rw [if_neg (by omega)]
  | succ d ih =>
    intro i acc hi ha hid hp
    have hlt : i < l.length := by omega
    have hw : wrap64 ((i : Int) + 1) = ((i + 1 : Nat) : Int) := w64 (by omega) (by omega)
    rw [drop_cons hlt, List.all_cons, List.foldl_cons]
    by_cases c : idB l[i] = true
    · have hc := of_decide_eq_true c
      have hn := ih (i + 1) (insI acc l[i]) (by omega) (by have := insI_len l[i] acc; omega) (fun x hx => by rcases (insI_mem _ _ _).1 hx with rfl | hx; exact hc; exact hid x hx) (insI_sorted _ _ hp)
      refine Ev.step (f := fun k => (spec_l03Set.f k acc l[i]).bind fun t => spec_SpansOf.l0 k l t ((i + 1 : Nat) : Int)) (fun k => ?_) (Ev.bind (l03Set_ev acc _ (by omega)) (Ev.to ?_ hn))
      · simp only [spec_SpansOf.l0]
        rw [if_pos (by omega), if_pos (by omega), rd_at hlt, l02Id_eq, hw]
        simp only [Option.bind_some]
        rw [if_pos (by exact c)]
      · rw [c, Bool.true_and]
    · refine Ev.one (fun k => ?_)
      simp only [spec_SpansOf.l0]
      rw [if_pos (by omega), if_pos (by omega), rd_at hlt, l02Id_eq]
      simp only [Option.bind_some]
      rw [if_neg (by exact c), if_neg (by rw [Bool.and_eq_true]; exact fun h => c h.1)]
theorem spec_SpansOf_ev (l : List Int) (hl : l.length ≤ 9223372036854775806) : Ev (fun k => spec_SpansOf.f k l) (spansOf l) := by
  unfold spec_SpansOf.f spansOf
  by_cases c : l.length > 400
  · rw [if_pos c]; exact Ev.pos (by omega) (Ev.now _)
  · rw [if_neg c]
    refine Ev.neg (by omega) ?_
    have := sSO_l0 l (by omega) l.length 0 [] (by omega) (by simp) (fun x hx => by cases hx) List.Pairwise.nil
    simpa using this
theorem idx_l0 (l : List Int) (hl : l.length ≤ 9223372036854775806) (d : Nat) : ∀ i : Nat, i + d = l.length → Ev (fun k => slices_IndexFunc_int64_int64.l0 k l (l.length : Int) (i : Int)) (if (l.drop i).all idB = true then -1 else ((i + (l.drop i).findIdx (fun x => !idB x) : Nat) : Int)) := by
  induction d with
  | zero =>
    intro i hi
    rw [List.drop_of_length_le (by omega)]
    refine Ev.one (fun k => ?_)
    simp only [slices_IndexFunc_int64_int64.l0]
    rw [if_neg (by omega)]; rfl
  | succ d ih =>
    intro i hi
    have hlt : i < l.length := by omega
    have hw : wrap64 ((i : Int) + 1) = ((i + 1 : Nat) : Int) := w64 (by omega) (by omega)
    have e0 : impl_SpansOf_1.f l[i] = some (!idB l[i]) := by unfold impl_SpansOf_1.f; rw [isId_eq]; rfl
    rw [drop_cons hlt, List.all_cons, List.findIdx_cons]
    by_cases c : idB l[i] = true
    · refine Ev.step (f := fun k => slices_IndexFunc_int64_int64.l0 k l (l.length : Int) ((i + 1 : Nat) : Int)) (fun k => ?_) (Ev.to ?_ (ih (i + 1) (by omega)))
      · simp only [slices_IndexFunc_int64_int64.l0]
        rw [if_pos (by omega), if_pos (by omega), if_pos (by omega), rd_at hlt, e0, hw]
        simp only [Option.bind_some]
        rw [if_neg (by rw [c]; simp)]
      · rw [c, Bool.true_and]
        split
        · rfl
        · simp; omega
    · refine Ev.one (fun k => ?_)
      simp only [slices_IndexFunc_int64_int64.l0]
      have c' : idB l[i] = false := by simpa using c
      rw [if_pos (by omega), if_pos (by omega), if_pos (by omega), rd_at hlt, e0]
      simp only [Option.bind_some]
      rw [c', if_pos (by rfl)]
      simp
theorem cont_ev (l : List Int) (hl : l.length ≤ 9223372036854775806) : Ev (fun k => slices_ContainsFunc_int64_int64.f k l) (!l.all idB) := by
  unfold slices_ContainsFunc_int64_int64.f slices_IndexFunc_int64_int64.f
  have := idx_l0 l hl l.length 0 (by omega)
  refine Ev.bind this (Ev.to ?_ (Ev.now _))
  rw [List.drop_zero]
  by_cases c : l.all idB = true
  · rw [if_pos c, c]; rfl
  · rw [if_neg c]
    have c' : l.all idB = false := by simpa using c
    rw [c', Bool.not_false]
    exact decide_eq_true (by omega)
theorem impl_SpansOf_ev (l : List Int) (hl : l.length ≤ 9223372036854775806) : Ev (fun k => impl_SpansOf.f k l) (spansOf l) := by
  unfold impl_SpansOf.f spansOf
  by_cases c : l.length > 400
  · rw [if_pos c]
    refine Ev.pos (by omega) (Ev.one (fun k => ?_))
    simp only [impl_SpansOf.j0]; rfl
  · rw [if_neg c]
    refine Ev.neg (by omega) (Ev.bind (cont_ev l hl) ?_)
    by_cases q : l.all idB = true
    · rw [if_pos q, q]
      refine Ev.step (f := fun k => (slices_Clone_int64_int64.f l).bind fun t => (impl_sorted.f t).bind fun u => (impl_spans.f k u).bind fun z => some z) (fun k => by simp only [impl_SpansOf.j0]; rfl) ?_
      refine Ev.take (a := l) (by unfold slices_Clone_int64_int64.f; rw [if_pos (by omega)]) (Ev.take (impl_sorted_eq l (by omega)) (Ev.bind (spans_ev _ (by have := fold_len l; omega) (fold_ids q)) (Ev.now _)))
    · rw [if_neg q]
      have q' : l.all idB = false := by simpa using q
      rw [q']
      refine Ev.one (fun k => ?_)
      simp only [impl_SpansOf.j0]; rfl
/-- A row of numbers, marked. -/
def markI (m : Int) : List Int → List Int
  | [] => []
  | _ :: r => m :: markI (m + 1) r
theorem markI_len : ∀ (l : List Int) (m : Int), (markI m l).length = l.length
  | [], _ => rfl
  | _ :: r, m => by simp [markI, markI_len r]
theorem markI_l0 (d : Nat) : ∀ (i : Nat) (l : List Int) (m : Int), i + d = l.length → l.length ≤ 4194304 → 0 ≤ m → m + (d : Int) ≤ 1099511627776 →
    Ev (fun k => laws_markInt64S.l0 k l m (i : Int)) (m + (d : Int), l.take i ++ markI m (l.drop i)) := by
  induction d with
  | zero =>
    intro i l m hi hl h0 h1
    rw [List.drop_of_length_le (by omega), List.take_of_length_le (by omega)]
    refine Ev.one (fun k => ?_)
    simp only [laws_markInt64S.l0]
    rw [if_neg (by omega)]
    simp [markI]
  | succ d ih =>
    intro i l m hi hl h0 h1
    have hlt : i < l.length := by omega
    have hw : wrap64 ((i : Int) + 1) = ((i + 1 : Nat) : Int) := w64 (by omega) (by omega)
    have hw2 : wrap64 (m + 1) = m + 1 := w64 (by omega) (by omega)
    have hset : (l.set i m).length = l.length := by simp
    refine Ev.step (f := fun k => laws_markInt64S.l0 k (l.set i m) (m + 1) ((i + 1 : Nat) : Int)) (fun k => ?_) (Ev.to ?_ (ih (i + 1) (l.set i m) (m + 1) (by rw [hset]; omega) (by rw [hset]; exact hl) (by omega) (by omega)))
    · simp only [laws_markInt64S.l0]
      rw [if_pos (by omega), if_pos (by omega), hw, hw2, Int.toNat_natCast]
    · have e0 : m + 1 + (d : Int) = m + ((d + 1 : Nat) : Int) := by omega
      rw [drop_cons hlt, markI, e0]
      have e1 : (l.set i m).take (i + 1) = l.take i ++ [m] := by
        rw [List.take_succ_eq_append_getElem (by simp; exact hlt), List.take_set_of_le (Nat.le_refl _)]
        simp
      have e2 : (l.set i m).drop (i + 1) = l.drop (i + 1) := by rw [List.drop_set_of_lt (by omega)]
      rw [e1, e2, List.append_assoc]; rfl
theorem markI_ev (l : List Int) (m : Int) (hl : l.length ≤ 4194304) (h0 : 0 ≤ m) (h1 : m + (l.length : Int) ≤ 1099511627776) : Ev (fun k => laws_markInt64S.f k l m) (m + (l.length : Int), markI m l) := by
  have := markI_l0 l.length 0 l m (by omega) hl h0 h1
  unfold laws_markInt64S.f
  simpa using this


end Go.Proofs.Ytepbkhgffjinjaa.Print
