/- Reads of lists of structs. -/
import Derived.Test.YthpclkkkpponkaaPrint0
import Derived.Deep.Slices
import Derived.Deep.Fields
import Derived.ChangeSame
namespace Go.Proofs.Ythpclkkkpponkaa.Print
open Go.RowKit Go.Proofs.YthpclkkkpponkaaW.PrintWords Go.Proofs.YthpclkkkpponkaaW.PrintLast Go.Proofs.YthpclkkkpponkaaW.PrintMore
set_option linter.unusedVariables false
set_option linter.unusedSimpArgs false

/-! What came in, read as the printed kinds read: a value that reads as data of a type reads as a list, a struct, a list of structs. -/
open Go.ChangeShapes Go.WideShapes Go.Deep
def Opens {α : Type} (P : Program) (K : Kd α) (t : TypeId) (ok : α → Prop) : Prop :=
  P.cellsOf t = K.sz ∧ ∀ (H : Type) (enc : TypeId × Value → H) (W : World) (base : Nat) (spare : Nat → Bool) (held : Bool) (fuel : Nat) (cs : List Value) (x : DataW H × List MemPlace),
    DataW.trod enc P W base spare held fuel t cs = some x → ∃ y, K.K W y cs ∧ ok y
theorem exists_list {α : Type} (n : Nat) (Q : Nat → α → Prop) (h : ∀ i, i < n → ∃ x, Q i x) : ∃ xs : List α, xs.length = n ∧ ∀ i x, xs[i]? = some x → Q i x := by
  induction n with
  | zero => exact ⟨[], rfl, fun i x hx => by simp at hx⟩
  | succ n ih =>
    obtain ⟨xs, hl, hq⟩ := ih (fun i hi => h i (by omega))
    obtain ⟨x, hx⟩ := h n (by omega)
    refine ⟨xs ++ [x], by simp [hl], fun i y hy => ?_⟩
    rcases Nat.lt_or_ge i xs.length with hi | hi
    · rw [List.getElem?_append_left hi] at hy; exact hq i y hy
    · have hi2 : i = xs.length := by
        have := (List.getElem?_eq_some_iff.1 hy).1
        simp at this; omega
      subst hi2
      simp at hy
      rw [← hy, hl]; exact hx
theorem opens_int {P : Program} {t : TypeId} {k : IntKind} (hu : P.underlying t = some (.int k)) (hc : P.cellsOf t = 1) : Opens P (Kd.int k) t (fun n => (Lit.int k n).wf = true) := by
  refine ⟨hc, fun H enc W base spare held fuel cs x h => ?_⟩
  cases fuel with
  | zero => simp [DataW.trod] at h
  | succ n =>
    unfold DataW.trod at h
    rw [hu] at h
    split at h <;> simp_all
    rename_i h1
    obtain ⟨⟨rfl, hw⟩, _⟩ := h
    exact ⟨_, rfl, hw⟩
theorem opens_string {P : Program} {t : TypeId} (hu : P.underlying t = some .string) (hc : P.cellsOf t = 1) : Opens P Kd.string t (fun s => s.size ≤ 9223372036854775807) := by
  refine ⟨hc, fun H enc W base spare held fuel cs x h => ?_⟩
  cases fuel with
  | zero => simp [DataW.trod] at h
  | succ n =>
    unfold DataW.trod at h
    rw [hu] at h
    split at h <;> simp_all
    obtain ⟨hw, _⟩ := h
    exact ⟨_, rfl, by unfold maxLen at hw; exact hw⟩
theorem opens_bool {P : Program} {t : TypeId} (hu : P.underlying t = some .bool) (hc : P.cellsOf t = 1) : Opens P Kd.bool t (fun _ => True) := by
  refine ⟨hc, fun H enc W base spare held fuel cs x h => ?_⟩
  cases fuel with
  | zero => simp [DataW.trod] at h
  | succ n =>
    unfold DataW.trod at h
    rw [hu] at h
    split at h <;> simp_all
    rename_i b
    cases b
    · exact Or.inl rfl
    · exact Or.inr rfl
def okList {α : Type} (ok : α → Prop) (l : List α) : Prop := l.length ≤ 9223372036854775807 ∧ ∀ x ∈ l, ok x
theorem opens_slice {α : Type} {P : Program} {K : Kd α} {t e : TypeId} {ok : α → Prop} (hu : P.underlying t = some (.slice e)) (hc : P.cellsOf t = 1) (ho : Opens P K e ok) : Opens P (Kd.slice e K) t (okList ok) := by
  refine ⟨hc, fun H enc W base spare held fuel cs x h => ?_⟩
  rcases open_slice hu h with ⟨rfl, _⟩ | ⟨a, len, cap, m, n, D, Pl, rfl, hb, hl, hm, hmm, hx, hi⟩
  · exact ⟨[], ⟨none, 0, rfl, Nat.le_refl _, rfl, by simp, fun h => by simp at h⟩, by simp [okList]⟩
  · have hml : len ≤ m := by rw [hmm]; split <;> omega
    unfold maxLen at hm
    obtain ⟨xs, hxl, hq⟩ := exists_list len (fun i y => (∃ c : List Value, c.length = K.sz ∧ K.K W y c ∧ ∀ j u, c[j]? = some u → W.cell? (a.add (i * K.sz + j)) = some u) ∧ ok y) (fun i hil => by
      obtain ⟨cs', hcs, ht⟩ := hi i (by omega)
      obtain ⟨y, hk, hy⟩ := ho.2 H enc W base spare held n cs' _ ht
      obtain ⟨_, hcl, hat⟩ := World.cells?_some hcs
      rw [ho.1] at hcl hat
      refine ⟨y, ⟨cs', hcl, hk, fun j u hj => ?_⟩, hy⟩
      have hjl : j < K.sz := by rw [← hcl]; exact (List.getElem?_eq_some_iff.1 hj).1
      have h2 := hat j hjl
      rw [← Go.Deep.add_add, h2, hj])
    refine ⟨xs, ⟨some a, cap, by rw [hxl], by omega, ⟨rfl, by omega, fun _ => ⟨a, rfl, fun j p hj => (hq j p hj).1⟩⟩⟩, ⟨by omega, fun x hx => ?_⟩⟩
    obtain ⟨j, hj, rfl⟩ := List.getElem_of_mem hx
    exact (hq j _ (List.getElem?_eq_getElem hj)).2
theorem uncons {α : Type} {l : List α} {n : Nat} (h : l.length = n + 1) : ∃ a r, l = a :: r ∧ r.length = n := by
  cases l with
  | nil => simp at h
  | cons a r => exact ⟨a, r, rfl, by simpa using h⟩
theorem struct_open {H : Type} {enc : TypeId × Value → H} {P : Program} {W : World} {base : Nat} {spare : Nat → Bool} {held : Bool} {t : TypeId} {fs : Array Field} {fuel : Nat} {cs : List Value} {x : DataW H × List MemPlace}
    (ht : P.underlying t = some (.struct fs)) (h : DataW.trod enc P W base spare held fuel t cs = some x) :
    cs.length = P.cellsOf t ∧ ∀ (j : Nat) (f : Field), fs[j]? = some f → ∃ n y, DataW.trod enc P W base spare held n f.type ((cs.drop f.offset).take (P.cellsOf f.type)) = some y := by
  obtain ⟨xs, n, _, _, hl, hxl, hf⟩ := DataW.trod_struct ht h
  refine ⟨hl, fun j f hj => ?_⟩
  have h1 := hf j f hj
  have hjl : j < xs.length := by rw [hxl]; exact (Array.getElem?_eq_some_iff.1 hj).1
  exact ⟨n, xs[j], h1.trans (List.getElem?_eq_getElem hjl)⟩
theorem leaf1 {α : Type} {P : Program} {K : Kd α} {t : TypeId} {ok : α → Prop} (ho : Opens P K t ok) (hsz : K.sz = 1) {H : Type} {enc : TypeId × Value → H} {W : World} {base : Nat} {spare : Nat → Bool} {held : Bool} {n : Nat} {cs : List Value} {o : Nat} {y : DataW H × List MemPlace} {c : Value}
    (h : DataW.trod enc P W base spare held n t ((cs.drop o).take (P.cellsOf t)) = some y) (hd : (cs.drop o).take 1 = [c]) : ∃ z, K.K W z [c] ∧ ok z := by
  rw [ho.1, hsz, hd] at h
  exact ho.2 H enc W base spare held n _ _ h
theorem whole1 {α : Type} {P : Program} {K : Kd α} {t : TypeId} {ok : α → Prop} (ho : Opens P K t ok) {H : Type} {enc : TypeId × Value → H} {W : World} {base : Nat} {spare : Nat → Bool} {held : Bool} {v : Value} {d : DataW H} {ps : List MemPlace}
    (h : DataW.Trod enc P W base spare held t v d ps) : ∃ z, K.K W z v.cells.toList ∧ ok z := by
  obtain ⟨n, h⟩ := h
  exact ho.2 H enc W base spare held n _ _ h


end Go.Proofs.Ythpclkkkpponkaa.Print
