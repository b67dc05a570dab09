/- What draws an event, told by its kind alone. -/
import Derived.Test.YteimdbmfgojioaaPrint2
namespace Go.Proofs.Yteimdbmfgojioaa.Print
open Go.RowKit Go.Proofs.YteimdbmfgojioaaW.PrintWords Go.Proofs.YteimdbmfgojioaaW.PrintLast Go.Proofs.YteimdbmfgojioaaW.PrintMore
attribute [local go_sem] max2_int min2_int max_two min_two max_three min_three max_four min_four
set_option maxHeartbeats 8000000
set_option maxRecDepth 100000
set_option linter.unusedVariables false
set_option linter.unusedSimpArgs false

/-! Draws, told by their kind alone: some number, some text; where the source stands afterwards is left open. -/
theorem Dr.n_some (l : List Int) (a mix sz m : Int) (hl : l.length ≤ 9223372036854775806) (h0 : 0 ≤ a) (h1 : a ≤ l.length) (hm2 : m ≤ 9223372036854775807) :
    ∃ v a' mix', spec_l01Src_n.f l a mix sz m = some (v, a', mix', sz) ∧ 0 ≤ v ∧ (v = 0 ∨ v < m) ∧ 0 ≤ a' ∧ a' ≤ l.length := by
  unfold spec_l01Src_n.f
  by_cases hm : m ≤ 1
  · rw [if_pos hm]; exact ⟨0, a, mix, rfl, by omega, Or.inl rfl, h0, h1⟩
  rw [if_neg hm]
  have hm3 : IntKind.u64.wrap m = m := by rw [IntKind.wrap_u64]; omega
  have key : ∀ x : Int, 0 ≤ wrap64 (Int.tmod (IntKind.u64.wrap x) (IntKind.u64.wrap m)) ∧ wrap64 (Int.tmod (IntKind.u64.wrap x) (IntKind.u64.wrap m)) < m := by
    intro x
    rw [hm3]
    have h : 0 ≤ IntKind.u64.wrap x := by rw [IntKind.wrap_u64]; omega
    rw [Int.tmod_eq_emod_of_nonneg h]
    have h2 := Int.emod_nonneg (IntKind.u64.wrap x) (show m ≠ 0 by omega)
    have h3 := Int.emod_lt_of_pos (IntKind.u64.wrap x) (show 0 < m by omega)
    generalize IntKind.u64.wrap x % m = y at h2 h3
    unfold wrap64; omega
  by_cases c : a < (l.length : Int)
  · rw [if_pos c, if_pos h0, if_neg (by rw [hm3]; omega)]
    exact ⟨_, _, _, rfl, (key _).1, Or.inr (key _).2, by unfold wrap64; omega, by unfold wrap64; omega⟩
  · rw [if_neg c, if_neg (by rw [hm3]; omega)]
    exact ⟨_, _, _, rfl, (key _).1, Or.inr (key _).2, h0, h1⟩
def Dr (w0 W : World) (g : Nat) (l : List Int) : Prop := l.length ≤ 1048576 ∧ (∃ a m z, 0 ≤ a ∧ a ≤ (l.length : Int) ∧ IsS63 w0 W g l a m z) ∧ Below w0.heap.size w0 W
theorem Dr.below {w0 W W1 : World} {g : Nat} {l : List Int} (h : Dr w0 W g l) (hb : Below W.heap.size W W1) : Dr w0 W1 g l := by
  obtain ⟨h1, ⟨a, m, z, h2, h3, h4⟩, h5⟩ := h
  exact ⟨h1, ⟨a, m, z, h2, h3, h4.below hb⟩, below_step h5 hb⟩
theorem Dr.far {w0 W : World} {g k j : Nat} {l : List Int} (h : Dr w0 W g l) (hne : g ≠ k) (hk : w0.heap.size ≤ k) (u : Value) : Dr w0 (W.setCell ⟨k, j, none⟩ u) g l := by
  obtain ⟨h1, ⟨a, m, z, h2, h3, h4⟩, h5⟩ := h
  exact ⟨h1, ⟨a, m, z, h2, h3, h4.far hne u⟩, below_set h5 hk⟩
theorem Dr.lt {w0 W : World} {g : Nat} {l : List Int} (h : Dr w0 W g l) : g < W.heap.size := by
  obtain ⟨h1, ⟨a, m, z, h2, h3, h4⟩, h5⟩ := h
  exact h4.lt
theorem Dr.apart {w0 W : World} {g : Nat} {l : List Int} {α : Type} {d : Kd α} {e base : Nat} {ok : Nat → Prop} {v : Value} {xs : List α} (h : Dr w0 W g l) (ho : d.R e W base ok v xs) (ht : ∀ q, q ∈ e :: d.E → q ≠ 63) : d.R e W base (fun k => ok k ∧ k ≠ g) v xs := by
  obtain ⟨h1, ⟨a, m, z, h2, h3, h4⟩, h5⟩ := h
  exact h4.apart ho ht
theorem Dr.row {w0 W W' : World} {g : Nat} {l : List Int} {α : Type} {d : Kd α} {e base : Nat} {ok : Nat → Prop} {v : Value} {xs : List α} (h : Dr w0 W g l) (ho : d.R e W base ok v xs) (ht : ∀ q, q ∈ e :: d.E → q ≠ 63) (hk : KeepBut W W' g none) : d.R e W' base ok v xs :=
  Kd.R_mono (Kd.R_keep (h.apart ho ht) hk (fun _ x => x.2)) (fun _ x => x.1)
theorem Dr.n {w0 W : World} {g : Nat} {l : List Int} (h : Dr w0 W g l) (m : Int) (hm : m ≤ 9223372036854775807) : Calls Try.prog 24 #[.pointer (some ⟨g, 0, none⟩), .int .i64 m] W fun e W' => ∃ v : Int, e = .returned (.int .i64 v) ∧ (0 ≤ v ∧ (v = 0 ∨ v < m)) ∧ KeepBut W W' g none ∧ Dr w0 W' g l := by
  obtain ⟨hl, ⟨a, mm, z, h0, h1, hi⟩, hb⟩ := h
  obtain ⟨v, a', m', e, h2, h3, h4, h5⟩ := Dr.n_some l a mm z m (by omega) h0 h1 hm
  refine (spec_l01Src_n.calls g l a mm z m v a' m' z w0 W hi hb e).mono ?_
  rintro e w' ⟨rfl, hi', hb', hk⟩
  exact ⟨v, rfl, ⟨h2, h3⟩, hk, hl, ⟨a', m', z, h4, h5, hi'⟩, hb'⟩
theorem Dr.one {w0 W : World} {g : Nat} {l : List Int} (h : Dr w0 W g l) (m : Int) (hm : m ≤ 9223372036854775807) : Calls Try.prog 34 #[.pointer (some ⟨g, 0, none⟩), .int .i64 m] W fun e W' => ∃ v : Bool, e = .returned (.bool v) ∧ KeepBut W W' g none ∧ Dr w0 W' g l := by
  obtain ⟨hl, ⟨a, mm, z, h0, h1, hi⟩, hb⟩ := h
  obtain ⟨v, a', m', e, h2, h3, h4, h5⟩ := Dr.n_some l a mm z m (by omega) h0 h1 hm
  refine (spec_l01Src_one.calls g l a mm z m (v == 0) a' m' z w0 W hi hb (by unfold spec_l01Src_one.f; rw [e]; rfl)).mono ?_
  rintro e w' ⟨rfl, hi', hb', hk⟩
  exact ⟨_, rfl, hk, hl, ⟨a', m', z, h4, h5, hi'⟩, hb'⟩
theorem Dr.edge {w0 W : World} {g : Nat} {l : List Int} (h : Dr w0 W g l) : Calls Try.prog 48 #[.pointer (some ⟨g, 0, none⟩)] W fun e W' => ∃ v : Int, e = .returned (.int .i64 v) ∧ KeepBut W W' g none ∧ Dr w0 W' g l := by
  obtain ⟨hl, ⟨a, mm, z, h0, h1, hi⟩, hb⟩ := h
  obtain ⟨v, a', m', e, h2, h3, h4, h5⟩ := Dr.n_some l a mm z 14 (by omega) h0 h1 (by omega)
  refine (spec_l01Src_edge.calls g l a mm z _ a' m' z w0 W hi hb (by unfold spec_l01Src_edge.f; simp only [Option.bind_some]; rw [e]; simp only [Option.bind_some]; rw [if_pos h2, if_pos (by simp only [List.length_cons, List.length_nil]; omega)])).mono ?_
  rintro e w' ⟨rfl, hi', hb', hk⟩
  exact ⟨_, rfl, hk, hl, ⟨a', m', z, h4, h5, hi'⟩, hb'⟩
theorem Dr.pick {w0 W : World} {g : Nat} {l : List Int} (h : Dr w0 W g l) {base : Nat} {ok : Nat → Prop} {v1 : Value} {l1 : List ByteArray} (ho : Kd.R Kd.string 9 W base ok v1 l1) (hl1 : 0 < l1.length ∧ l1.length ≤ 1000) (hs : ∀ t ∈ l1, t.size ≤ 1000) :
    Calls Try.prog 67 #[.pointer (some ⟨g, 0, none⟩), v1] W fun e W' => ∃ t : ByteArray, e = .returned (.string t) ∧ t.size ≤ 1000 ∧ KeepBut W W' g none ∧ Dr w0 W' g l := by
  obtain ⟨A1, c1, rfl⟩ := Kd.R_slice ho
  obtain ⟨hl, ⟨a, mm, z, h0, h1, hi⟩, hb⟩ := h
  obtain ⟨v, a', m', e, h2, h3, h4, h5⟩ := Dr.n_some l a mm z (l1.length : Int) (by omega) h0 h1 (by omega)
  have hr := Kd.R_reads' ho
  refine (spec_l01Src_pick.calls g l a mm z A1 c1 l1 (rdOf ByteArray.empty l1 v) a' m' z w0 W hi hb hr.2.2 hr.2.1 (fun ad he hn => by subst he; obtain ⟨inner, hi2⟩ := Kd.R_own ho; exact own_blk hi2 (hi.own_ne ho (by decide))) (by unfold spec_l01Src_pick.f; rw [e]; simp only [Option.bind_some]; rw [if_pos h2, if_pos (by omega)])).mono ?_
  rintro e w' ⟨rfl, hi', hb', hk⟩
  refine ⟨_, rfl, ?_, hk, hl, ⟨a', m', z, h4, h5, hi'⟩, hb'⟩
  have hv : v.toNat < l1.length := by omega
  have : rdOf ByteArray.empty l1 v = l1[v.toNat] := by
    unfold rdOf
    simp [hv]
  rw [this]
  exact hs _ (List.getElem_mem hv)
theorem Dr.bytes_l0 (l : List Int) (hl : l.length ≤ 9223372036854775806) (m sz : Int) (hm : m ≤ 9223372036854775806) (d : Nat) : ∀ (i : Nat) (acc : List Int) (a mix : Int), (i : Int) + d = m → acc.length + d < 140737488355328 → 0 ≤ a → a ≤ l.length →
    ∃ (k : Nat) (t : ByteArray) (a' mix' : Int), spec_l01Src_bytes.l0 k m acc (i : Int) l a mix sz = some (t, a', mix', sz) ∧ t.size = acc.length + d ∧ 0 ≤ a' ∧ a' ≤ l.length := by
  induction d with
  | zero =>
    intro i acc a mix hi hacc h0 h1
    refine ⟨1, strOfNums acc, a, mix, ?_, by rw [strOfNums_size]; rfl, h0, h1⟩
    simp only [spec_l01Src_bytes.l0]
    rw [if_neg (by omega)]
  | succ d ih =>
    intro i acc a mix hi hacc h0 h1
    obtain ⟨v, a1, m1, g, _, _, g3, g4⟩ := Dr.n_some l a mix sz 256 hl h0 h1 (by omega)
    obtain ⟨k, t, a2, m2, h, ht, h3, h4⟩ := ih (i + 1) (acc ++ [v % 256]) a1 m1 (by omega) (by rw [List.length_append, List.length_singleton]; omega) g3 g4
    refine ⟨k + 1, t, a2, m2, ?_, by rw [ht, List.length_append, List.length_singleton]; omega, h3, h4⟩
    simp only [spec_l01Src_bytes.l0]
    rw [if_pos (by omega), g]
    simp only [Option.bind_some]
    rw [if_pos (by omega), show wrap64 ((i : Int) + 1) = ((i + 1 : Nat) : Int) from by unfold wrap64; omega]
    exact h
theorem Dr.bytes {w0 W : World} {g : Nat} {l : List Int} (h : Dr w0 W g l) (m : Int) (hm : 0 ≤ m ∧ m ≤ 1000) : Calls Try.prog 66 #[.pointer (some ⟨g, 0, none⟩), .int .i64 m] W fun e W' => ∃ t : ByteArray, e = .returned (.string t) ∧ t.size ≤ 1000 ∧ KeepBut W W' g none ∧ Dr w0 W' g l := by
  obtain ⟨hl, ⟨a, mm, z, h0, h1, hi⟩, hb⟩ := h
  obtain ⟨k, t, a', m', e, ht, h4, h5⟩ := Dr.bytes_l0 l (by omega) m z (by omega) m.toNat 0 [] a mm (by omega) (by simp only [List.length_nil]; omega) h0 h1
  refine (spec_l01Src_bytes.calls k g l a mm z m t a' m' z w0 W hi hb (by unfold spec_l01Src_bytes.f; exact e)).mono ?_
  rintro e w' ⟨rfl, hi', hb', hk⟩
  exact ⟨_, rfl, by rw [ht]; simp only [List.length_nil]; omega, hk, hl, ⟨a', m', z, h4, h5, hi'⟩, hb'⟩
/-- An event in a box, another box behind it for the answer. -/
structure EvS (w0 w W : World) (g gr ge : Nat) (l : List Int) (e0 e1 e2 e3 e4 e5 : Int) (e6 : ByteArray) (v7 : Value) (l7 : List Int) (e8 : Int) : Prop where
  dr : Dr w0 W g l
  kp : KeepBut w W g none
  br : W.heap[gr]? = some (.cells #[.int .i64 0, .int .i64 0, .int .i64 0, .int .i64 0, .int .i64 0, .int .i64 0, .string (⟨#[]⟩ : ByteArray), .slice none 0 0, .int .i64 0] 25 (0, 0))
  be : W.heap[ge]? = some (.cells #[.int .i64 e0, .int .i64 e1, .int .i64 e2, .int .i64 e3, .int .i64 e4, .int .i64 e5, .string e6, v7, .int .i64 e8] 25 (0, 0))
  ro : Kd.R (Kd.int .i64) 2 W w.heap.size (fun _ => True) v7 l7
  hw : w0.heap.size ≤ w.heap.size
  hr : w.heap.size ≤ gr
  he : w.heap.size ≤ ge
  ne : gr ≠ ge
  ng : g < w.heap.size
  t6 : e6.size ≤ 1000
section
variable {w0 w W W1 : World} {g gr ge : Nat} {l : List Int} {e0 e1 e2 e3 e4 e5 : Int} {e6 : ByteArray} {v7 : Value} {l7 : List Int} {e8 : Int}
theorem EvS.below (h : EvS w0 w W g gr ge l e0 e1 e2 e3 e4 e5 e6 v7 l7 e8) (hb : Below W.heap.size W W1) : EvS w0 w W1 g gr ge l e0 e1 e2 e3 e4 e5 e6 v7 l7 e8 :=
  ⟨h.dr.below hb, h.kp.trans (KeepBut.of_below hb g none) (.inl rfl), blk_below h.br hb, blk_below h.be hb, Kd.R_below h.ro hb, h.hw, h.hr, h.he, h.ne, h.ng, h.t6⟩
theorem EvS.keep (h : EvS w0 w W g gr ge l e0 e1 e2 e3 e4 e5 e6 v7 l7 e8) (hk : KeepBut W W1 g none) (hd : Dr w0 W1 g l) : EvS w0 w W1 g gr ge l e0 e1 e2 e3 e4 e5 e6 v7 l7 e8 :=
  ⟨hd, h.kp.trans hk (.inl rfl), hk.blk h.br (by have := h.hr; have := h.ng; omega) (by simp), hk.blk h.be (by have := h.he; have := h.ng; omega) (by simp), h.dr.row h.ro (by decide) hk, h.hw, h.hr, h.he, h.ne, h.ng, h.t6⟩
theorem EvS.put (h : EvS w0 w W g gr ge l e0 e1 e2 e3 e4 e5 e6 v7 l7 e8) (j : Nat) (u : Value) {f0 f1 f2 f3 f4 f5 f8 : Int} {f6 : ByteArray} (t6 : f6.size ≤ 1000)
    (e : (#[.int .i64 e0, .int .i64 e1, .int .i64 e2, .int .i64 e3, .int .i64 e4, .int .i64 e5, .string e6, v7, .int .i64 e8] : Array Value).setIfInBounds j u = #[.int .i64 f0, .int .i64 f1, .int .i64 f2, .int .i64 f3, .int .i64 f4, .int .i64 f5, .string f6, v7, .int .i64 f8]) : EvS w0 w (W.setCell ⟨ge, j, none⟩ u) g gr ge l f0 f1 f2 f3 f4 f5 f6 v7 l7 f8 :=
  ⟨h.dr.far (by have := h.he; have := h.ng; omega) (Nat.le_trans h.hw h.he) u, keep_far h.kp h.he u, blk_far h.br h.ne u, blk_put h.be j u e, Kd.R_mono (Kd.R_far (p := ⟨ge, j, none⟩) (Kd.R_types h.ro h.be (by decide)) (fun _ hk => hk.2) u) (fun _ _ => trivial), h.hw, h.hr, h.he, h.ne, h.ng, t6⟩
theorem EvS.set0 (h : EvS w0 w W g gr ge l e0 e1 e2 e3 e4 e5 e6 v7 l7 e8) (x : Int) : EvS w0 w (W.setCell ⟨ge, 0, none⟩ (.int .i64 x)) g gr ge l x e1 e2 e3 e4 e5 e6 v7 l7 e8 := h.put 0 _ h.t6 rfl
theorem EvS.set1 (h : EvS w0 w W g gr ge l e0 e1 e2 e3 e4 e5 e6 v7 l7 e8) (x : Int) : EvS w0 w (W.setCell ⟨ge, 1, none⟩ (.int .i64 x)) g gr ge l e0 x e2 e3 e4 e5 e6 v7 l7 e8 := h.put 1 _ h.t6 rfl
theorem EvS.set2 (h : EvS w0 w W g gr ge l e0 e1 e2 e3 e4 e5 e6 v7 l7 e8) (x : Int) : EvS w0 w (W.setCell ⟨ge, 2, none⟩ (.int .i64 x)) g gr ge l e0 e1 x e3 e4 e5 e6 v7 l7 e8 := h.put 2 _ h.t6 rfl
theorem EvS.set3 (h : EvS w0 w W g gr ge l e0 e1 e2 e3 e4 e5 e6 v7 l7 e8) (x : Int) : EvS w0 w (W.setCell ⟨ge, 3, none⟩ (.int .i64 x)) g gr ge l e0 e1 e2 x e4 e5 e6 v7 l7 e8 := h.put 3 _ h.t6 rfl
theorem EvS.set4 (h : EvS w0 w W g gr ge l e0 e1 e2 e3 e4 e5 e6 v7 l7 e8) (x : Int) : EvS w0 w (W.setCell ⟨ge, 4, none⟩ (.int .i64 x)) g gr ge l e0 e1 e2 e3 x e5 e6 v7 l7 e8 := h.put 4 _ h.t6 rfl
theorem EvS.set5 (h : EvS w0 w W g gr ge l e0 e1 e2 e3 e4 e5 e6 v7 l7 e8) (x : Int) : EvS w0 w (W.setCell ⟨ge, 5, none⟩ (.int .i64 x)) g gr ge l e0 e1 e2 e3 e4 x e6 v7 l7 e8 := h.put 5 _ h.t6 rfl
theorem EvS.set8 (h : EvS w0 w W g gr ge l e0 e1 e2 e3 e4 e5 e6 v7 l7 e8) (x : Int) : EvS w0 w (W.setCell ⟨ge, 8, none⟩ (.int .i64 x)) g gr ge l e0 e1 e2 e3 e4 e5 e6 v7 l7 x := h.put 8 _ h.t6 rfl
theorem EvS.set6 (h : EvS w0 w W g gr ge l e0 e1 e2 e3 e4 e5 e6 v7 l7 e8) (x : ByteArray) (hx : x.size ≤ 1000) : EvS w0 w (W.setCell ⟨ge, 6, none⟩ (.string x)) g gr ge l e0 e1 e2 e3 e4 e5 x v7 l7 e8 := h.put 6 _ hx rfl
theorem EvS.set7 (h : EvS w0 w W g gr ge l e0 e1 e2 e3 e4 e5 e6 v7 l7 e8) {v : Value} {xs : List Int} (ho : Kd.R (Kd.int .i64) 2 W w.heap.size (fun _ => True) v xs) : EvS w0 w (W.setCell ⟨ge, 7, none⟩ v) g gr ge l e0 e1 e2 e3 e4 e5 e6 v xs e8 :=
  ⟨h.dr.far (by have := h.he; have := h.ng; omega) (Nat.le_trans h.hw h.he) v, keep_far h.kp h.he v, blk_far h.br h.ne v, blk_put h.be 7 v rfl, Kd.R_mono (Kd.R_far (p := ⟨ge, 7, none⟩) (Kd.R_types ho h.be (by decide)) (fun _ hk => hk.2) v) (fun _ _ => trivial), h.hw, h.hr, h.he, h.ne, h.ng, h.t6⟩
/-- Some event, with nothing it stands behind. -/
def EvN (w0 w W : World) (g gr ge : Nat) (l : List Int) : Prop := ∃ (y0 y1 y2 y3 y4 y5 : Int) (y6 : ByteArray) (y8 : Int), EvS w0 w W g gr ge l y0 y1 y2 y3 y4 y5 y6 (.slice none 0 0) [] y8
theorem EvS.nn (h : EvS w0 w W g gr ge l e0 e1 e2 e3 e4 e5 e6 (.slice none 0 0) [] e8) : EvN w0 w W g gr ge l := ⟨_, _, _, _, _, _, _, _, h⟩
/-- The answer's box is filled: what holds behind it. -/
structure EvO (w0 w W : World) (g gr : Nat) (l : List Int) (v7 : Value) (l7 : List Int) : Prop where
  dr : Dr w0 W g l
  kp : KeepBut w W g none
  ro : Kd.R (Kd.int .i64) 2 W w.heap.size (fun k => k ≠ gr) v7 l7
  hw : w0.heap.size ≤ w.heap.size
  hr : w.heap.size ≤ gr
  ng : g < w.heap.size
theorem EvS.out (h : EvS w0 w W g gr ge l e0 e1 e2 e3 e4 e5 e6 v7 l7 e8) : EvO w0 w W g gr l v7 l7 := ⟨h.dr, h.kp, Kd.R_mono (Kd.R_types h.ro h.br (by decide)) (fun _ hk => hk.2), h.hw, h.hr, h.ng⟩
theorem EvO.put (h : EvO w0 w W g gr l v7 l7) (j : Nat) (u : Value) : EvO w0 w (W.setCell ⟨gr, j, none⟩ u) g gr l v7 l7 :=
  ⟨h.dr.far (by have := h.hr; have := h.ng; omega) (Nat.le_trans h.hw h.hr) u, keep_far h.kp h.hr u, Kd.R_far h.ro (fun _ hk => hk) u, h.hw, h.hr, h.ng⟩
theorem EvS.fin (h : EvS w0 w W g gr ge l e0 e1 e2 e3 e4 e5 e6 v7 l7 e8) {u0 u1 u2 u3 u4 u5 u6 u7 u8 : Value} : EvO w0 w (((((((((W.setCell ⟨gr, 0, none⟩ u0).setCell ⟨gr, 1, none⟩ u1).setCell ⟨gr, 2, none⟩ u2).setCell ⟨gr, 3, none⟩ u3).setCell ⟨gr, 4, none⟩ u4).setCell ⟨gr, 5, none⟩ u5).setCell ⟨gr, 6, none⟩ u6).setCell ⟨gr, 7, none⟩ u7).setCell ⟨gr, 8, none⟩ u8) g gr l v7 l7 :=
  ((((((((h.out.put 0 u0).put 1 u1).put 2 u2).put 3 u3).put 4 u4).put 5 u5).put 6 u6).put 7 u7).put 8 u8
theorem EvS.n (h : EvS w0 w W g gr ge l e0 e1 e2 e3 e4 e5 e6 v7 l7 e8) (m : Int) (hm : m ≤ 9223372036854775807) : Calls Try.prog 24 #[.pointer (some ⟨g, 0, none⟩), .int .i64 m] W fun e W' => ∃ v : Int, e = .returned (.int .i64 v) ∧ (0 ≤ v ∧ (v = 0 ∨ v < m)) ∧ KeepBut W W' g none ∧ EvS w0 w W' g gr ge l e0 e1 e2 e3 e4 e5 e6 v7 l7 e8 :=
  (h.dr.n m hm).mono fun e w' ⟨v, he, hv, hk, hd⟩ => ⟨v, he, hv, hk, h.keep hk hd⟩
theorem EvS.one (h : EvS w0 w W g gr ge l e0 e1 e2 e3 e4 e5 e6 v7 l7 e8) (m : Int) (hm : m ≤ 9223372036854775807) : Calls Try.prog 34 #[.pointer (some ⟨g, 0, none⟩), .int .i64 m] W fun e W' => ∃ v : Bool, e = .returned (.bool v) ∧ EvS w0 w W' g gr ge l e0 e1 e2 e3 e4 e5 e6 v7 l7 e8 :=
  (h.dr.one m hm).mono fun e w' ⟨v, he, hk, hd⟩ => ⟨v, he, h.keep hk hd⟩
theorem EvS.edge (h : EvS w0 w W g gr ge l e0 e1 e2 e3 e4 e5 e6 v7 l7 e8) : Calls Try.prog 48 #[.pointer (some ⟨g, 0, none⟩)] W fun e W' => ∃ v : Int, e = .returned (.int .i64 v) ∧ EvS w0 w W' g gr ge l e0 e1 e2 e3 e4 e5 e6 v7 l7 e8 :=
  h.dr.edge.mono fun e w' ⟨v, he, hk, hd⟩ => ⟨v, he, h.keep hk hd⟩
theorem EvS.bytes (h : EvS w0 w W g gr ge l e0 e1 e2 e3 e4 e5 e6 v7 l7 e8) (m : Int) (hm : 0 ≤ m ∧ m ≤ 1000) : Calls Try.prog 66 #[.pointer (some ⟨g, 0, none⟩), .int .i64 m] W fun e W' => ∃ t : ByteArray, e = .returned (.string t) ∧ t.size ≤ 1000 ∧ EvS w0 w W' g gr ge l e0 e1 e2 e3 e4 e5 e6 v7 l7 e8 :=
  (h.dr.bytes m hm).mono fun e w' ⟨v, he, ht, hk, hd⟩ => ⟨v, he, ht, h.keep hk hd⟩
/-- The answer's box alone. -/
structure EvR (w0 w W : World) (g gr : Nat) (l : List Int) : Prop where
  dr : Dr w0 W g l
  kp : KeepBut w W g none
  br : W.heap[gr]? = some (.cells #[.int .i64 0, .int .i64 0, .int .i64 0, .int .i64 0, .int .i64 0, .int .i64 0, .string (⟨#[]⟩ : ByteArray), .slice none 0 0, .int .i64 0] 25 (0, 0))
  hw : w0.heap.size ≤ w.heap.size
  hr : w.heap.size ≤ gr
  ng : g < w.heap.size
/-- Some event, with few that it stands behind. -/
def EvE (w0 w W : World) (g gr ge : Nat) (l : List Int) (n : Nat) : Prop := ∃ (e0 e1 e2 e3 e4 e5 : Int) (e6 : ByteArray) (v7 : Value) (l7 : List Int) (e8 : Int), EvS w0 w W g gr ge l e0 e1 e2 e3 e4 e5 e6 v7 l7 e8 ∧ l7.length ≤ n
/-- The event's box while its row is away. -/
structure EvP (w0 w W : World) (g gr ge : Nat) (l : List Int) (e0 e1 e2 e3 e4 e5 : Int) (e6 : ByteArray) (v7 : Value) (e8 : Int) : Prop where
  dr : Dr w0 W g l
  kp : KeepBut w W g none
  br : W.heap[gr]? = some (.cells #[.int .i64 0, .int .i64 0, .int .i64 0, .int .i64 0, .int .i64 0, .int .i64 0, .string (⟨#[]⟩ : ByteArray), .slice none 0 0, .int .i64 0] 25 (0, 0))
  be : W.heap[ge]? = some (.cells #[.int .i64 e0, .int .i64 e1, .int .i64 e2, .int .i64 e3, .int .i64 e4, .int .i64 e5, .string e6, v7, .int .i64 e8] 25 (0, 0))
  hw : w0.heap.size ≤ w.heap.size
  hr : w.heap.size ≤ gr
  he : w.heap.size ≤ ge
  ne : gr ≠ ge
  ng : g < w.heap.size
  t6 : e6.size ≤ 1000
theorem EvR.keep (h : EvR w0 w W g gr l) (hk : KeepBut W W1 g none) (hd : Dr w0 W1 g l) : EvR w0 w W1 g gr l :=
  ⟨hd, h.kp.trans hk (.inl rfl), hk.blk h.br (by have := h.hr; have := h.ng; omega) (by simp), h.hw, h.hr, h.ng⟩
theorem EvR.n (h : EvR w0 w W g gr l) (m : Int) (hm : m ≤ 9223372036854775807) : Calls Try.prog 24 #[.pointer (some ⟨g, 0, none⟩), .int .i64 m] W fun e W' => ∃ v : Int, e = .returned (.int .i64 v) ∧ EvR w0 w W' g gr l :=
  (h.dr.n m hm).mono fun e w' ⟨v, he, hv, hk, hd⟩ => ⟨v, he, h.keep hk hd⟩
theorem EvR.box (h : EvR w0 w W g gr l) (hg : ge = W.heap.size) (hbox : W1.heap[ge]? = some (.cells #[.int .i64 0, .int .i64 0, .int .i64 0, .int .i64 0, .int .i64 0, .int .i64 0, .string (⟨#[]⟩ : ByteArray), .slice none 0 0, .int .i64 0] 25 (0, 0))) (hb : Below W.heap.size W W1) : EvS w0 w W1 g gr ge l 0 0 0 0 0 0 (⟨#[]⟩ : ByteArray) (.slice none 0 0) [] 0 :=
  ⟨h.dr.below hb, h.kp.trans (KeepBut.of_below hb g none) (.inl rfl), blk_below h.br hb, hbox, Kd.R_nil _ _ _ _ _, h.hw, h.hr, by rw [hg]; exact h.kp.1, by rw [hg]; exact Nat.ne_of_lt (blk_lt h.br), h.ng, by decide⟩
theorem EvS.all (h : EvS w0 w W g gr ge l e0 e1 e2 e3 e4 e5 e6 v7 l7 e8) {u0 u1 u2 u3 u4 u5 u8 : Int} {u6 : ByteArray} (h6 : u6.size ≤ 1000) : EvS w0 w (((((((((W.setCell ⟨ge, 0, none⟩ (.int .i64 u0)).setCell ⟨ge, 1, none⟩ (.int .i64 u1)).setCell ⟨ge, 2, none⟩ (.int .i64 u2)).setCell ⟨ge, 3, none⟩ (.int .i64 u3)).setCell ⟨ge, 4, none⟩ (.int .i64 u4)).setCell ⟨ge, 5, none⟩ (.int .i64 u5)).setCell ⟨ge, 6, none⟩ (.string u6)).setCell ⟨ge, 7, none⟩ (.slice none 0 0)).setCell ⟨ge, 8, none⟩ (.int .i64 u8)) g gr ge l u0 u1 u2 u3 u4 u5 u6 (.slice none 0 0) [] u8 :=
  ((((((((h.set0 u0).set1 u1).set2 u2).set3 u3).set4 u4).set5 u5).set6 u6 h6).set7 (Kd.R_nil _ _ _ _ _)).set8 u8
theorem EvS.ee (h : EvS w0 w W g gr ge l e0 e1 e2 e3 e4 e5 e6 v7 l7 e8) {n : Nat} (hn : l7.length ≤ n) : EvE w0 w W g gr ge l n := ⟨_, _, _, _, _, _, _, _, _, _, h, hn⟩
theorem EvS.grown (h : EvS w0 w W g gr ge l e0 e1 e2 e3 e4 e5 e6 v7 l7 e8) (hb : Below w.heap.size W W1) (hg : W.grownBy W1 v7.ownBlock) : EvP w0 w W1 g gr ge l e0 e1 e2 e3 e4 e5 e6 v7 e8 := by
  obtain ⟨d1, ⟨a, m, z, d2, d3, d4⟩, d5⟩ := h.dr
  exact ⟨⟨d1, ⟨a, m, z, d2, d3, d4.grown hg (d4.own_ne h.ro (by decide))⟩, below_weaken d5 h.hw hb⟩, h.kp.trans (KeepBut.of_grown hg g) (Kd.R_base2 h.ro), blk_grown h.br hg (Kd.R_ne h.ro h.br (by decide)), blk_grown h.be hg (Kd.R_ne h.ro h.be (by decide)), h.hw, h.hr, h.he, h.ne, h.ng, h.t6⟩
theorem EvP.set7 (h : EvP w0 w W g gr ge l e0 e1 e2 e3 e4 e5 e6 v7 e8) {v : Value} {xs : List Int} (ho : Kd.R (Kd.int .i64) 2 W w.heap.size (fun _ => True) v xs) : EvS w0 w (W.setCell ⟨ge, 7, none⟩ v) g gr ge l e0 e1 e2 e3 e4 e5 e6 v xs e8 :=
  ⟨h.dr.far (by have := h.he; have := h.ng; omega) (Nat.le_trans h.hw h.he) v, keep_far h.kp h.he v, blk_far h.br h.ne v, blk_put h.be 7 v rfl, Kd.R_mono (Kd.R_far (p := ⟨ge, 7, none⟩) (Kd.R_types ho h.be (by decide)) (fun _ hk => hk.2) v) (fun _ _ => trivial), h.hw, h.hr, h.he, h.ne, h.ng, h.t6⟩
theorem EvS.drew (h : EvS w0 w W g gr ge l e0 e1 e2 e3 e4 e5 e6 v7 l7 e8) : EvS w0 w W.drew g gr ge l e0 e1 e2 e3 e4 e5 e6 v7 l7 e8 := by
  obtain ⟨d1, ⟨a, m, z, d2, d3, d4⟩, d5⟩ := h.dr
  exact ⟨⟨d1, ⟨a, m, z, d2, d3, d4.drew⟩, below_drew1 d5⟩, keep_drew h.kp, blk_drew h.br, blk_drew h.be, Kd.R_drew h.ro, h.hw, h.hr, h.he, h.ne, h.ng, h.t6⟩
end
set_option maxHeartbeats 8000000 in
set_option maxRecDepth 100000 in
theorem spec_l01Src_l02Fill.calls (g : Nat) (l : List Int) (x0 x1 x2 x8 : Int) (w0 w : World) (hd : Dr w0 w g l) :
    Calls Try.prog 47 #[.pointer (some ⟨g, 0, none⟩), .agg #[.int .i64 x0, .int .i64 x1, .int .i64 x2, .int .i64 0, .int .i64 0, .int .i64 0, .string (⟨#[]⟩ : ByteArray), .slice none 0 0, .int .i64 x8]] w fun e w' => ∃ (y0 y1 y2 y3 y4 y5 : Int) (y6 : ByteArray) (y8 : Int), e = .returned (.agg #[.int .i64 y0, .int .i64 y1, .int .i64 y2, .int .i64 y3, .int .i64 y4, .int .i64 y5, .string y6, .slice none 0 0, .int .i64 y8]) ∧ y6.size ≤ 1000 ∧ KeepBut w w' g none ∧ Dr w0 w' g l := by
  have hu25 := Try.underlying25
  have HG := Aside0.mk hd.lt
  have HW := Aside0.mk hd.2.2.size
  have HD := Aside0.mk hd
  clear hd
  obtain ⟨yk, hyk⟩ : ∃ y : List Int, y = [2, 2, 2, 3, 4, 5, 6, 7, 7, 7, 8] := ⟨_, rfl⟩
  obtain ⟨yn, hyn⟩ : ∃ y : List Int, y = [0, 50, 60, 100] := ⟨_, rfl⟩
  have LK := Aside0.mk (show yk.length = 11 by rw [hyk]; rfl)
  have LN := Aside0.mk (show yn.length = 4 by rw [hyn]; rfl)
  have NK := Aside0.mk hyk
  have NN := Aside0.mk hyn
  clear hyk hyn
  go_enter Try.func47, Try.ntmps47
  go_upto_region 2 with (first | ((with_reducible refine gate_dst (N := 3) rfl ?_); refine be_ 3 #[.int .i64 x0, .int .i64 x1, .int .i64 x2, .int .i64 0, .int .i64 0, .int .i64 0, .string (⟨#[]⟩ : ByteArray), .slice none 0 0, .int .i64 x8] 25 ?_; intro ge hg w1 hbox hb; have BE := Aside0.mk hbox; have GE := Aside0.mk (show w.heap.size ≤ ge by rw [hg]; exact Nat.le_refl _); have HB1 := Aside0.mk hb; clear hb hbox hg) | ((with_reducible refine gate_dst (N := 4) rfl ?_); refine be_ 4 #[.int .i64 0, .int .i64 0, .int .i64 0, .int .i64 0, .int .i64 0, .int .i64 0, .string (⟨#[]⟩ : ByteArray), .slice none 0 0, .int .i64 0] 25 ?_; intro gr hg w2 hbox hb; have hs : EvS w0 w _ g gr ge l _ _ _ _ _ _ _ (.slice none 0 0) [] _ := ⟨(HD.out.below HB1.out).below hb, (KeepBut.of_below HB1.out g none).trans (KeepBut.of_below hb g none) (.inl rfl), hbox, blk_below BE.out hb, Kd.R_nil _ _ _ _ _, HW.out, by rw [hg]; exact HB1.out.size, GE.out, by rw [hg]; exact Nat.ne_of_gt (blk_lt BE.out), HG.out, by decide⟩; have ES := Aside0.mk hs; clear HB1 BE GE hb hbox hg hs; obtain ⟨⟨ha0, ha1, ha2, ha3, ha4, ha5, ha6, ha7, ha8⟩, hb0, hb1, hb2, hb3, hb4, hb5, hb6, hb7, hb8⟩ := cells_9 ES.out.be) | ((with_reducible refine gate_dst (N := 5) rfl ?_); refine Kd.R_lit (Kd.int .i64) _ 2 ?hg (N := 5) ?hd (xs := ([2, 2, 2, 3, 4, 5, 6, 7, 7, 7, 8] : List Int)) (inner := [.int .i64 2, .int .i64 2, .int .i64 2, .int .i64 3, .int .i64 4, .int .i64 5, .int .i64 6, .int .i64 7, .int .i64 7, .int .i64 7, .int .i64 8]) (ok := fun _ => True) (okp := fun _ => True) ?hr ?hp (fun _ hk => hk) trivial (Below.refl _ _) (Nat.le_refl _) (by simp) ?_; (case hd => rfl); (case hg => rfl); (case hr => first | (go_simp; done) | (go_simp; rfl)); (case hp => exact (Reps.one (show Kd.M (Kd.int .i64) _ _ _ 2 [.int .i64 2] from rfl) (Reps.one (show Kd.M (Kd.int .i64) _ _ _ 2 [.int .i64 2] from rfl) (Reps.one (show Kd.M (Kd.int .i64) _ _ _ 2 [.int .i64 2] from rfl) (Reps.one (show Kd.M (Kd.int .i64) _ _ _ 3 [.int .i64 3] from rfl) (Reps.one (show Kd.M (Kd.int .i64) _ _ _ 4 [.int .i64 4] from rfl) (Reps.one (show Kd.M (Kd.int .i64) _ _ _ 5 [.int .i64 5] from rfl) (Reps.one (show Kd.M (Kd.int .i64) _ _ _ 6 [.int .i64 6] from rfl) (Reps.one (show Kd.M (Kd.int .i64) _ _ _ 7 [.int .i64 7] from rfl) (Reps.one (show Kd.M (Kd.int .i64) _ _ _ 7 [.int .i64 7] from rfl) (Reps.one (show Kd.M (Kd.int .i64) _ _ _ 7 [.int .i64 7] from rfl) (Reps.one (show Kd.M (Kd.int .i64) _ _ _ 8 [.int .i64 8] from rfl) (Reps.none _ _))))))))))))); intro v1 w1 ho hb hg_ hnew_; clear hg_ hnew_; rw [← NK.out] at ho; have HO := Aside0.mk (Kd.R_mono ho (fun _ h => h)); obtain hs : EvS w0 w _ g gr ge l _ _ _ _ _ _ _ _ _ _ := (by first | with_reducible exact EvS.below ES.out hb | with_reducible exact EvS.below (ES.out.set3 _) hb | with_reducible exact EvS.below (ES.out.set4 _) hb | with_reducible exact EvS.below (ES.out.set5 _) hb | with_reducible exact EvS.below (ES.out.set6 _ ht) hb); clear hb ho; (try clear ha0 hb0 ha1 hb1 ha2 hb2 ha3 hb3 ha4 hb4 ha5 hb5 ha6 hb6 ha7 hb7 ha8 hb8); have ES_ := Aside0.mk hs; clear ES hs; have ES := ES_; clear ES_; obtain ⟨⟨ha0, ha1, ha2, ha3, ha4, ha5, ha6, ha7, ha8⟩, hb0, hb1, hb2, hb3, hb4, hb5, hb6, hb7, hb8⟩ := cells_9 ES.out.be) | (go_at_call 24; (have h_ := HO.out; clear h_); have HD_ := Aside0.mk (EvS.dr ES.out); (first | with_reducible refine Calls.mono (EvS.n ES.out _ (by decide)) ?_ | with_reducible refine Calls.mono (EvS.n (ES.out.set3 _) _ (by decide)) ?_ | with_reducible refine Calls.mono (EvS.n (ES.out.set4 _) _ (by decide)) ?_ | with_reducible refine Calls.mono (EvS.n (ES.out.set5 _) _ (by decide)) ?_ | with_reducible refine Calls.mono (EvS.n (ES.out.set6 _ ht) _ (by decide)) ?_); rintro e w' ⟨v, rfl, hv, hk, hs⟩; have HO_ := Aside0.mk (Dr.row HD_.out HO.out (by decide) hk); clear HO hk HD_; have HO := HO_; clear HO_; (try clear ha0 hb0 ha1 hb1 ha2 hb2 ha3 hb3 ha4 hb4 ha5 hb5 ha6 hb6 ha7 hb7 ha8 hb8); have ES_ := Aside0.mk hs; clear ES hs; have ES := ES_; clear ES_; obtain ⟨⟨ha0, ha1, ha2, ha3, ha4, ha5, ha6, ha7, ha8⟩, hb0, hb1, hb2, hb3, hb4, hb5, hb6, hb7, hb8⟩ := cells_9 ES.out.be; obtain ⟨Ar, cr, er⟩ := Kd.R_slice HO.out; subst er; have p_ : 0 ≤ v := hv.1; have q_ : v < (yk.length : Int) := (by rw [LK.out]; have := hv.2; omega); clear hv; obtain ⟨adr, ear, hxr⟩ := Kd.at_int (Kd.R_reads' HO.out).2.2 v p_ q_; cases ear; replace p_ := eq_true p_; replace q_ := eq_true q_; clear HO))
  go_upto_block 0 with fail
  go_cut [13] (fun v13 wx => EvN w0 w wx g gr ge l)
  case first =>
    go_wp2_with (first | (go_at_call 24; (have h_ := HO.out; clear h_); have HD_ := Aside0.mk (EvS.dr ES.out); (first | with_reducible refine Calls.mono (EvS.n ES.out _ (by decide)) ?_ | with_reducible refine Calls.mono (EvS.n (ES.out.set3 _) _ (by decide)) ?_ | with_reducible refine Calls.mono (EvS.n (ES.out.set4 _) _ (by decide)) ?_ | with_reducible refine Calls.mono (EvS.n (ES.out.set5 _) _ (by decide)) ?_ | with_reducible refine Calls.mono (EvS.n (ES.out.set6 _ ht) _ (by decide)) ?_); rintro e w' ⟨v, rfl, hv, hk, hs⟩; have HO_ := Aside0.mk (Dr.row HD_.out HO.out (by decide) hk); clear HO hk HD_; have HO := HO_; clear HO_; (try clear ha0 hb0 ha1 hb1 ha2 hb2 ha3 hb3 ha4 hb4 ha5 hb5 ha6 hb6 ha7 hb7 ha8 hb8); have ES_ := Aside0.mk hs; clear ES hs; have ES := ES_; clear ES_; obtain ⟨⟨ha0, ha1, ha2, ha3, ha4, ha5, ha6, ha7, ha8⟩, hb0, hb1, hb2, hb3, hb4, hb5, hb6, hb7, hb8⟩ := cells_9 ES.out.be; obtain ⟨Ar, cr, er⟩ := Kd.R_slice HO.out; subst er; have p_ : 0 ≤ v := hv.1; have q_ : v < (yn.length : Int) := (by rw [LN.out]; have := hv.2; omega); clear hv; obtain ⟨adr, ear, hxr⟩ := Kd.at_int (Kd.R_reads' HO.out).2.2 v p_ q_; cases ear; replace p_ := eq_true p_; replace q_ := eq_true q_; clear HO) | (go_at_call 24; (first | with_reducible refine Calls.mono (EvS.n ES.out _ (by decide)) ?_ | with_reducible refine Calls.mono (EvS.n (ES.out.set3 _) _ (by decide)) ?_ | with_reducible refine Calls.mono (EvS.n (ES.out.set4 _) _ (by decide)) ?_ | with_reducible refine Calls.mono (EvS.n (ES.out.set5 _) _ (by decide)) ?_ | with_reducible refine Calls.mono (EvS.n (ES.out.set6 _ ht) _ (by decide)) ?_); rintro e w' ⟨v, rfl, hv, hk, hs⟩; clear hk; have HV := Aside0.mk hv; clear hv; (try clear ha0 hb0 ha1 hb1 ha2 hb2 ha3 hb3 ha4 hb4 ha5 hb5 ha6 hb6 ha7 hb7 ha8 hb8); have ES_ := Aside0.mk hs; clear ES hs; have ES := ES_; clear ES_; obtain ⟨⟨ha0, ha1, ha2, ha3, ha4, ha5, ha6, ha7, ha8⟩, hb0, hb1, hb2, hb3, hb4, hb5, hb6, hb7, hb8⟩ := cells_9 ES.out.be) | (go_at_call 34; (first | with_reducible refine Calls.mono (EvS.one ES.out _ (by decide)) ?_ | with_reducible refine Calls.mono (EvS.one (ES.out.set3 _) _ (by decide)) ?_ | with_reducible refine Calls.mono (EvS.one (ES.out.set4 _) _ (by decide)) ?_ | with_reducible refine Calls.mono (EvS.one (ES.out.set5 _) _ (by decide)) ?_ | with_reducible refine Calls.mono (EvS.one (ES.out.set6 _ ht) _ (by decide)) ?_); rintro e w' ⟨v, rfl, hs⟩; (try clear ha0 hb0 ha1 hb1 ha2 hb2 ha3 hb3 ha4 hb4 ha5 hb5 ha6 hb6 ha7 hb7 ha8 hb8); have ES_ := Aside0.mk hs; clear ES hs; have ES := ES_; clear ES_; obtain ⟨⟨ha0, ha1, ha2, ha3, ha4, ha5, ha6, ha7, ha8⟩, hb0, hb1, hb2, hb3, hb4, hb5, hb6, hb7, hb8⟩ := cells_9 ES.out.be) | (go_at_call 66; (first | with_reducible refine Calls.mono (EvS.bytes ES.out _ (by have := HV.out; omega)) ?_ | with_reducible refine Calls.mono (EvS.bytes (ES.out.set3 _) _ (by have := HV.out; omega)) ?_ | with_reducible refine Calls.mono (EvS.bytes (ES.out.set4 _) _ (by have := HV.out; omega)) ?_ | with_reducible refine Calls.mono (EvS.bytes (ES.out.set5 _) _ (by have := HV.out; omega)) ?_ | with_reducible refine Calls.mono (EvS.bytes (ES.out.set6 _ ht) _ (by have := HV.out; omega)) ?_); rintro e w' ⟨t, rfl, ht, hs⟩; (try clear ha0 hb0 ha1 hb1 ha2 hb2 ha3 hb3 ha4 hb4 ha5 hb5 ha6 hb6 ha7 hb7 ha8 hb8); have ES_ := Aside0.mk hs; clear ES hs; have ES := ES_; clear ES_; obtain ⟨⟨ha0, ha1, ha2, ha3, ha4, ha5, ha6, ha7, ha8⟩, hb0, hb1, hb2, hb3, hb4, hb5, hb6, hb7, hb8⟩ := cells_9 ES.out.be) | ((with_reducible refine gate_dst (N := 38) rfl ?_); refine Kd.R_lit (Kd.int .i64) _ 2 ?hg (N := 38) ?hd (xs := ([0, 50, 60, 100] : List Int)) (inner := [.int .i64 0, .int .i64 50, .int .i64 60, .int .i64 100]) (ok := fun _ => True) (okp := fun _ => True) ?hr ?hp (fun _ hk => hk) trivial (Below.refl _ _) (Nat.le_refl _) (by simp) ?_; (case hd => rfl); (case hg => rfl); (case hr => first | (go_simp; done) | (go_simp; rfl)); (case hp => exact (Reps.one (show Kd.M (Kd.int .i64) _ _ _ 0 [.int .i64 0] from rfl) (Reps.one (show Kd.M (Kd.int .i64) _ _ _ 50 [.int .i64 50] from rfl) (Reps.one (show Kd.M (Kd.int .i64) _ _ _ 60 [.int .i64 60] from rfl) (Reps.one (show Kd.M (Kd.int .i64) _ _ _ 100 [.int .i64 100] from rfl) (Reps.none _ _)))))); intro v1 w1 ho hb hg_ hnew_; clear hg_ hnew_; rw [← NN.out] at ho; have HO := Aside0.mk (Kd.R_mono ho (fun _ h => h)); obtain hs : EvS w0 w _ g gr ge l _ _ _ _ _ _ _ _ _ _ := (by first | with_reducible exact EvS.below ES.out hb | with_reducible exact EvS.below (ES.out.set3 _) hb | with_reducible exact EvS.below (ES.out.set4 _) hb | with_reducible exact EvS.below (ES.out.set5 _) hb | with_reducible exact EvS.below (ES.out.set6 _ ht) hb); clear hb ho; (try clear ha0 hb0 ha1 hb1 ha2 hb2 ha3 hb3 ha4 hb4 ha5 hb5 ha6 hb6 ha7 hb7 ha8 hb8); have ES_ := Aside0.mk hs; clear ES hs; have ES := ES_; clear ES_; obtain ⟨⟨ha0, ha1, ha2, ha3, ha4, ha5, ha6, ha7, ha8⟩, hb0, hb1, hb2, hb3, hb4, hb5, hb6, hb7, hb8⟩ := cells_9 ES.out.be) | ((with_reducible refine gate_dst (N := 66) rfl ?_); refine Kd.R_lit Kd.string _ 9 ?hg (N := 66) ?hd (xs := ([(⟨#[97]⟩ : ByteArray), (⟨#[104, 101, 108, 108, 111]⟩ : ByteArray), (⟨#[98, 121, 101, 32, 110, 111, 119]⟩ : ByteArray), (⟨#[120, 32, 121]⟩ : ByteArray)] : List ByteArray)) (inner := [.string (⟨#[97]⟩ : ByteArray), .string (⟨#[104, 101, 108, 108, 111]⟩ : ByteArray), .string (⟨#[98, 121, 101, 32, 110, 111, 119]⟩ : ByteArray), .string (⟨#[120, 32, 121]⟩ : ByteArray)]) (ok := fun _ => True) (okp := fun _ => True) ?hr ?hp (fun _ hk => hk) trivial (Below.refl _ _) (Nat.le_refl _) (by simp) ?_; (case hd => rfl); (case hg => rfl); (case hr => first | (go_simp; done) | (go_simp; rfl)); (case hp => exact (Reps.one (show Kd.M Kd.string _ _ _ (⟨#[97]⟩ : ByteArray) [.string (⟨#[97]⟩ : ByteArray)] from rfl) (Reps.one (show Kd.M Kd.string _ _ _ (⟨#[104, 101, 108, 108, 111]⟩ : ByteArray) [.string (⟨#[104, 101, 108, 108, 111]⟩ : ByteArray)] from rfl) (Reps.one (show Kd.M Kd.string _ _ _ (⟨#[98, 121, 101, 32, 110, 111, 119]⟩ : ByteArray) [.string (⟨#[98, 121, 101, 32, 110, 111, 119]⟩ : ByteArray)] from rfl) (Reps.one (show Kd.M Kd.string _ _ _ (⟨#[120, 32, 121]⟩ : ByteArray) [.string (⟨#[120, 32, 121]⟩ : ByteArray)] from rfl) (Reps.none _ _)))))); intro v1 w1 ho hb hg_ hnew_; clear hg_ hnew_; have HO := Aside0.mk (Kd.R_mono ho (fun _ h => h)); obtain hs : EvS w0 w _ g gr ge l _ _ _ _ _ _ _ _ _ _ := (by first | with_reducible exact EvS.below ES.out hb | with_reducible exact EvS.below (ES.out.set3 _) hb | with_reducible exact EvS.below (ES.out.set4 _) hb | with_reducible exact EvS.below (ES.out.set5 _) hb | with_reducible exact EvS.below (ES.out.set6 _ ht) hb); clear hb ho; (try clear ha0 hb0 ha1 hb1 ha2 hb2 ha3 hb3 ha4 hb4 ha5 hb5 ha6 hb6 ha7 hb7 ha8 hb8); have ES_ := Aside0.mk hs; clear ES hs; have ES := ES_; clear ES_; obtain ⟨⟨ha0, ha1, ha2, ha3, ha4, ha5, ha6, ha7, ha8⟩, hb0, hb1, hb2, hb3, hb4, hb5, hb6, hb7, hb8⟩ := cells_9 ES.out.be) | (go_at_call 67; with_reducible refine Calls.mono (ES.out.dr.pick HO.out (by decide) (by decide)) ?_; rintro e w' ⟨t, rfl, ht, hk, hd⟩; have hs := EvS.keep ES.out hk hd; clear hk hd HO; (try clear ha0 hb0 ha1 hb1 ha2 hb2 ha3 hb3 ha4 hb4 ha5 hb5 ha6 hb6 ha7 hb7 ha8 hb8); have ES_ := Aside0.mk hs; clear ES hs; have ES := ES_; clear ES_; obtain ⟨⟨ha0, ha1, ha2, ha3, ha4, ha5, ha6, ha7, ha8⟩, hb0, hb1, hb2, hb3, hb4, hb5, hb6, hb7, hb8⟩ := cells_9 ES.out.be))
    all_goals (go_meet; case rel => first | with_reducible exact EvS.nn ES.out | with_reducible exact EvS.nn (ES.out.set3 _) | with_reducible exact EvS.nn (ES.out.set4 _) | with_reducible exact EvS.nn (ES.out.set5 _) | with_reducible exact EvS.nn (ES.out.set6 _ ht))
  case rest =>
    obtain ⟨y0, y1, y2, y3, y4, y5, y6, y8, hs⟩ := hcut
    (try clear ha0 hb0 ha1 hb1 ha2 hb2 ha3 hb3 ha4 hb4 ha5 hb5 ha6 hb6 ha7 hb7 ha8 hb8); have ES_ := Aside0.mk hs; clear ES hs; have ES := ES_; clear ES_; obtain ⟨⟨ha0, ha1, ha2, ha3, ha4, ha5, ha6, ha7, ha8⟩, hb0, hb1, hb2, hb3, hb4, hb5, hb6, hb7, hb8⟩ := cells_9 ES.out.be
    obtain ⟨⟨hc0, hc1, hc2, hc3, hc4, hc5, hc6, hc7, hc8⟩, hd0, hd1, hd2, hd3, hd4, hd5, hd6, hd7, hd8⟩ := cells_9 ES.out.br; have hne1 := ES.out.ne; have hne2 := Ne.symm hne1
    go_wp2
    refine bodyPost_ret (results_cell_row rfl _ _ gr 25 #[.int .i64 y0, .int .i64 y1, .int .i64 y2, .int .i64 y3, .int .i64 y4, .int .i64 y5, .string y6, .slice none 0 0, .int .i64 y8] (0, 0) _ rfl (by refine bp9_ (c0 := .int .i64 0) (c1 := .int .i64 0) (c2 := .int .i64 0) (c3 := .int .i64 0) (c4 := .int .i64 0) (c5 := .int .i64 0) (c6 := .string (⟨#[]⟩ : ByteArray)) (c7 := .slice none 0 0) (c8 := .int .i64 0) ?_; exact ES.out.br) Try.underlying25 rfl (by kernel_rfl)) rfl ?_
    exact ⟨y0, y1, y2, y3, y4, y5, y6, y8, rfl, ES.out.t6, ES.out.fin.kp, ES.out.fin.dr⟩
def spec_l01Src_l02Event.T23 : Bool × List (List Nat × List Nat) := (true, [([], []), ([0], [0]), ([], []), ([2], [2]), ([3], [3]), ([1, 4, 3], [1, 4]), ([0, 1, 2, 3, 4, 5], []), ([6, 5, 5, 0, 1, 2, 3, 4, 5], [5, 6])])
def spec_l01Src_l02Event.B23 : List Nat := [0, 1, 0, 4, 12, 31, 63, 127]
theorem spec_l01Src_l02Event.tab23 : rtab .any (opsOf Try.f20 23) = spec_l01Src_l02Event.T23 := by kernel_rfl
theorem spec_l01Src_l02Event.bits23 : waitsOk spec_l01Src_l02Event.T23.2 spec_l01Src_l02Event.B23 = true := by kernel_rfl
set_option maxHeartbeats 8000000 in
set_option maxRecDepth 100000 in
theorem spec_l01Src_l02Event.calls (g : Nat) (l : List Int) (w0 w : World) (hd : Dr w0 w g l) :
    Calls Try.prog 20 #[.pointer (some ⟨g, 0, none⟩)] w fun e w' => ∃ (y0 y1 y2 y3 y4 y5 : Int) (y6 : ByteArray) (v7 : Value) (l7 : List Int) (y8 : Int), e = .returned (.agg #[.int .i64 y0, .int .i64 y1, .int .i64 y2, .int .i64 y3, .int .i64 y4, .int .i64 y5, .string y6, v7, .int .i64 y8]) ∧ y6.size ≤ 1000 ∧ l7.length ≤ 3 ∧ Kd.R (Kd.int .i64) 2 w' w.heap.size (fun _ => True) v7 l7 ∧ KeepBut w w' g none ∧ Dr w0 w' g l := by
  have hu25 := Try.underlying25
  have HG := Aside0.mk hd.lt
  have HW := Aside0.mk hd.2.2.size
  have HD := Aside0.mk hd
  clear hd
  obtain ⟨yk, hyk⟩ : ∃ y : List Int, y = [0, 1, 1000000, 1000001] := ⟨_, rfl⟩
  have LK := Aside0.mk (show yk.length = 4 by rw [hyk]; rfl)
  have NK := Aside0.mk hyk
  obtain ⟨yo, hyo⟩ : ∃ y : List Int, y = [1] := ⟨_, rfl⟩
  have LO := Aside0.mk (show yo.length = 1 by rw [hyo]; rfl)
  have NO := Aside0.mk hyo
  clear hyk hyo
  go_enter Try.func20, Try.ntmps20
  go_wp2_with (first | ((with_reducible refine gate_dst (N := 2) rfl ?_); refine be_ 2 #[.int .i64 0, .int .i64 0, .int .i64 0, .int .i64 0, .int .i64 0, .int .i64 0, .string (⟨#[]⟩ : ByteArray), .slice none 0 0, .int .i64 0] 25 ?_; intro gr hg w1 hbox hb; have hq : EvR w0 w _ g gr l := ⟨HD.out.below hb, KeepBut.of_below hb g none, hbox, HW.out, by rw [hg]; exact Nat.le_refl _, HG.out⟩; clear hb hbox hg; have ER_ := Aside0.mk hq; (try clear ER); clear hq; have ER := ER_; clear ER_) | (go_at_call 24; with_reducible refine Calls.mono (EvR.n ER.out _ (by decide)) ?_; rintro e w' ⟨v, rfl, hq⟩; have ER_ := Aside0.mk hq; (try clear ER); clear hq; have ER := ER_; clear ER_) | (go_at_call 47; with_reducible refine Calls.mono (spec_l01Src_l02Fill.calls g l _ _ _ _ w0 _ ER.out.dr) ?_; rintro e w' ⟨y0, y1, y2, y3, y4, y5, y6, y8, rfl, ht, hk, hd⟩; have hq := ER.out.keep hk hd; have HT := Aside0.mk ht; clear hk hd ht; have ER_ := Aside0.mk hq; (try clear ER); clear hq; have ER := ER_; clear ER_) | ((with_reducible refine gate_dst (N := 3) rfl ?_); refine be_ 3 #[.int .i64 0, .int .i64 0, .int .i64 0, .int .i64 0, .int .i64 0, .int .i64 0, .string (⟨#[]⟩ : ByteArray), .slice none 0 0, .int .i64 0] 25 ?_; intro ge hg w2 hbox hb; have hs := EvR.box ER.out hg hbox hb; have ES := Aside0.mk hs; clear hs hb hbox hg ER; obtain ⟨⟨ha0, ha1, ha2, ha3, ha4, ha5, ha6, ha7, ha8⟩, hb0, hb1, hb2, hb3, hb4, hb5, hb6, hb7, hb8⟩ := cells_9 ES.out.be))
  go_loopg [4] 8 (fun kq v4 w' => ∃ i : Int, v4 = .int .i64 i ∧ Aside0 (1 ≤ i ∧ i ≤ 8 ∧ i + kq = 9) ∧ Aside0 (kq ≤ 8) ∧ Aside0 (EvE w0 w w' g gr ge l 2))
  case atStart => exact ⟨1, rfl, ⟨by decide, by decide, by decide⟩, ⟨Nat.le_refl _⟩, ⟨(ES.out.all HT.out).ee (by decide)⟩⟩
  case round =>
    (try clear ES HT ha0 hb0 ha1 hb1 ha2 hb2 ha3 hb3 ha4 hb4 ha5 hb5 ha6 hb6 ha7 hb7 ha8 hb8)
    obtain ⟨i, rfl, HI, HK1, HE⟩ := hrel
    obtain ⟨e0, e1, e2, e3, e4, e5, e6, v7, l7, e8, hs, hn⟩ := HE.out; obtain ⟨A7, c7, e7⟩ := Kd.R_slice hs.ro; subst e7; (try clear HN); have HN := Aside0.mk hn; clear hn; (try clear ha0 hb0 ha1 hb1 ha2 hb2 ha3 hb3 ha4 hb4 ha5 hb5 ha6 hb6 ha7 hb7 ha8 hb8); have ES_ := Aside0.mk hs; (try clear ES); clear hs; have ES := ES_; clear ES_; obtain ⟨⟨ha0, ha1, ha2, ha3, ha4, ha5, ha6, ha7, ha8⟩, hb0, hb1, hb2, hb3, hb4, hb5, hb6, hb7, hb8⟩ := cells_9 ES.out.be
    clear HE
    cases gk with
    | zero => exact absurd HI.out.2.2 (by have := HI.out.2.1; omega)
    | succ k1 =>
      by_cases c : i < 8
      · have cb : decide (i < 8) = true := decide_eq_true c
        have CI := Aside0.mk c
        clear c
        by_cases ce : i = e0
        · have ce0 : (i == e0) = true := beq_iff_eq.mpr ce
          have ce1 : (i != e0) = false := bne_eq_false_iff_eq.mpr ce
          clear ce
          go_wp2
          go_roundg k1
          case measure => have := HK1.out; omega
          case rel => exact ⟨_, rfl, ⟨by have := HI.out; have := CI.out; unfold wrap64; omega⟩, ⟨by have := HK1.out; omega⟩, ⟨ES.out.ee HN.out⟩⟩
        · have ce0 : (i == e0) = false := beq_eq_false_iff_ne.mpr ce
          have ce1 : (i != e0) = true := bne_iff_ne.mpr ce
          clear ce
          by_cases cl : l7.length < 2
          · have HL := Aside0.mk cl
            have cl0 : decide (l7.length < 2) = true := decide_eq_true cl
            have cl1 : decide ((l7.length : Int) < 2) = true := decide_eq_true (by omega)
            clear cl
            go_wp2_with (first | (go_at_call 34; (first | with_reducible refine Calls.mono (EvS.one ES.out _ (by decide)) ?_ | with_reducible refine Calls.mono (EvS.one (ES.out.set3 _) _ (by decide)) ?_ | with_reducible refine Calls.mono (EvS.one (ES.out.set4 _) _ (by decide)) ?_ | with_reducible refine Calls.mono (EvS.one (ES.out.set5 _) _ (by decide)) ?_ | with_reducible refine Calls.mono (EvS.one (ES.out.set6 _ ht) _ (by decide)) ?_); rintro e w' ⟨v, rfl, hs⟩; (try clear ha0 hb0 ha1 hb1 ha2 hb2 ha3 hb3 ha4 hb4 ha5 hb5 ha6 hb6 ha7 hb7 ha8 hb8); have ES_ := Aside0.mk hs; clear ES hs; have ES := ES_; clear ES_; obtain ⟨⟨ha0, ha1, ha2, ha3, ha4, ha5, ha6, ha7, ha8⟩, hb0, hb1, hb2, hb3, hb4, hb5, hb6, hb7, hb8⟩ := cells_9 ES.out.be) | ((with_reducible refine gate_builtin (b := .append) (xs := #[.tmp 38, .tmp 40]) rfl ?_); (try (refine gate_guard (by rfl) ?_; dsimp only)); at_builtin; refine Kd.R_append (Kd.int .i64) w.heap.size rfl (.tmp 38) (.tmp 40) 23 2 (.int .i64 0) 8 rfl Try.underlying23 info2 rfl (by decide) (by omega) (.slice A7 l7.length c7) l7 i [.int .i64 i] (fun _ => True) (fun _ => False) rfl rfl ?aP (fun _ hk => hk.elim) ?aF ?aO (Below.refl _ _) ?aS ?aL ?_; (case aP => exact rfl); (case aF => exact (fun _ _ => trivial)); (case aO => exact ES.out.ro); (case aS => exact ES.out.kp.1); (case aL => have := HN.out; omega); intro v1 w1 ho hb hg hat; obtain ⟨yq, hyq⟩ : ∃ y : List Int, y = l7 ++ [i] := ⟨_, rfl⟩; rw [← hyq] at ho; have HQ := Aside0.mk (show yq.length ≤ l7.length + 1 by rw [hyq, List.length_append]; exact Nat.le_refl _); clear hyq; have hp := EvS.grown ES.out hb hg; have HO := Aside0.mk ho; have EP := Aside0.mk hp; clear ho hb hg hat hp; (try clear ha0 hb0 ha1 hb1 ha2 hb2 ha3 hb3 ha4 hb4 ha5 hb5 ha6 hb6 ha7 hb7 ha8 hb8); obtain ⟨⟨ha0, ha1, ha2, ha3, ha4, ha5, ha6, ha7, ha8⟩, hb0, hb1, hb2, hb3, hb4, hb5, hb6, hb7, hb8⟩ := cells_9 EP.out.be; obtain ⟨Ar, cr, er⟩ := Kd.R_slice HO.out; subst er))
            all_goals (go_roundg k1; (case measure => have := HK1.out; omega); (case rel => first | exact ⟨_, rfl, ⟨by have := HI.out; have := CI.out; unfold wrap64; omega⟩, ⟨by have := HK1.out; omega⟩, ⟨(EvP.set7 EP.out HO.out).ee (by have := HQ.out; have := HL.out; omega)⟩⟩ | exact ⟨_, rfl, ⟨by have := HI.out; have := CI.out; unfold wrap64; omega⟩, ⟨by have := HK1.out; omega⟩, ⟨ES.out.ee HN.out⟩⟩))
          · have cl0 : decide (l7.length < 2) = false := decide_eq_false cl
            have cl1 : decide ((l7.length : Int) < 2) = false := decide_eq_false (by omega)
            clear cl
            go_wp2
            go_roundg k1
            case measure => have := HK1.out; omega
            case rel => exact ⟨_, rfl, ⟨by have := HI.out; have := CI.out; unfold wrap64; omega⟩, ⟨by have := HK1.out; omega⟩, ⟨ES.out.ee HN.out⟩⟩
      · have cb : decide (i < 8) = false := decide_eq_false c
        clear c
        go_upto_region 7 with fail
        go_cut [51] (fun v51 wx => (∃ b : Bool, v51 = .bool b) ∧ EvE w0 w wx g gr ge l 2)
        case first =>
          by_cases c0 : l7.length = 0
          · have c00 : ((l7.length : Int) == 0) = true := by simp [c0]
            have c01 : (l7.length == 0) = true := by simp [c0]
            clear c0
            go_wp2
            all_goals (go_meet; case rel => exact ⟨⟨_, rfl⟩, ES.out.ee HN.out⟩)
          · have c00 : ((l7.length : Int) == 0) = false := beq_eq_false_iff_ne.mpr (by omega)
            have c01 : (l7.length == 0) = false := beq_eq_false_iff_ne.mpr c0
            clear c0
            go_wp2
            all_goals (go_meet; case rel => exact ⟨⟨_, rfl⟩, ES.out.ee HN.out⟩)
        case rest =>
          clear ES HN
          obtain ⟨⟨b, rfl⟩, hE⟩ := hcut
          obtain ⟨e0, e1, e2, e3, e4, e5, e6, v7, l7, e8, hs, hn⟩ := hE; obtain ⟨A7, c7, e7⟩ := Kd.R_slice hs.ro; subst e7; (try clear HN); have HN := Aside0.mk hn; clear hn; (try clear ha0 hb0 ha1 hb1 ha2 hb2 ha3 hb3 ha4 hb4 ha5 hb5 ha6 hb6 ha7 hb7 ha8 hb8); have ES_ := Aside0.mk hs; (try clear ES); clear hs; have ES := ES_; clear ES_; obtain ⟨⟨ha0, ha1, ha2, ha3, ha4, ha5, ha6, ha7, ha8⟩, hb0, hb1, hb2, hb3, hb4, hb5, hb6, hb7, hb8⟩ := cells_9 ES.out.be
          go_upto_if 51 with fail
          go_cut [52] (fun v52 wx => EvE w0 w wx g gr ge l 2)
          case first =>
            go_wp2_with (first | ((with_reducible refine gate_dst (N := 52) rfl ?_); refine Kd.R_lit (Kd.int .i64) _ 2 ?hg (N := 52) ?hd (xs := ([1] : List Int)) (inner := [.int .i64 1]) (ok := fun _ => True) (okp := fun _ => True) ?hr ?hp (fun _ hk => hk) trivial (Below.refl _ _) (Nat.le_refl _) (by simp) ?_; (case hd => rfl); (case hg => rfl); (case hr => first | (go_simp; done) | (go_simp; rfl)); (case hp => exact (Reps.one (show Kd.M (Kd.int .i64) _ _ _ 1 [.int .i64 1] from rfl) (Reps.none _ _))); intro v1 w1 ho hb hg_ hnew_; clear hg_ hnew_; rw [← NO.out] at ho; have HO := Aside0.mk (Kd.R_lower (Kd.R_mono ho (fun _ h => h)) ES.out.kp.1); obtain hs : EvS w0 w _ g gr ge l _ _ _ _ _ _ _ _ _ _ := (by first | with_reducible exact EvS.below ES.out hb | with_reducible exact EvS.below (ES.out.set3 _) hb | with_reducible exact EvS.below (ES.out.set4 _) hb | with_reducible exact EvS.below (ES.out.set5 _) hb | with_reducible exact EvS.below (ES.out.set6 _ ht) hb); clear hb ho; (try clear ha0 hb0 ha1 hb1 ha2 hb2 ha3 hb3 ha4 hb4 ha5 hb5 ha6 hb6 ha7 hb7 ha8 hb8); have ES_ := Aside0.mk hs; clear ES hs; have ES := ES_; clear ES_; obtain ⟨⟨ha0, ha1, ha2, ha3, ha4, ha5, ha6, ha7, ha8⟩, hb0, hb1, hb2, hb3, hb4, hb5, hb6, hb7, hb8⟩ := cells_9 ES.out.be; obtain ⟨Ar, cr, er⟩ := Kd.R_slice HO.out; subst er))
            all_goals (go_meet; case rel => first | with_reducible exact ES.out.ee HN.out | with_reducible exact (ES.out.set7 HO.out).ee (n := 2) (by rw [LO.out]; decide))
          case rest =>
            clear ES HN
            obtain ⟨e0, e1, e2, e3, e4, e5, e6, v7, l7, e8, hs, hn⟩ := hcut; obtain ⟨A7, c7, e7⟩ := Kd.R_slice hs.ro; subst e7; (try clear HN); have HN := Aside0.mk hn; clear hn; (try clear ha0 hb0 ha1 hb1 ha2 hb2 ha3 hb3 ha4 hb4 ha5 hb5 ha6 hb6 ha7 hb7 ha8 hb8); have ES_ := Aside0.mk hs; (try clear ES); clear hs; have ES := ES_; clear ES_; obtain ⟨⟨ha0, ha1, ha2, ha3, ha4, ha5, ha6, ha7, ha8⟩, hb0, hb1, hb2, hb3, hb4, hb5, hb6, hb7, hb8⟩ := cells_9 ES.out.be
            go_upto_if 55 with (first | (go_at_call 34; (first | with_reducible refine Calls.mono (EvS.one ES.out _ (by decide)) ?_ | with_reducible refine Calls.mono (EvS.one (ES.out.set3 _) _ (by decide)) ?_ | with_reducible refine Calls.mono (EvS.one (ES.out.set4 _) _ (by decide)) ?_ | with_reducible refine Calls.mono (EvS.one (ES.out.set5 _) _ (by decide)) ?_ | with_reducible refine Calls.mono (EvS.one (ES.out.set6 _ ht) _ (by decide)) ?_); rintro e w' ⟨v, rfl, hs⟩; (try clear ha0 hb0 ha1 hb1 ha2 hb2 ha3 hb3 ha4 hb4 ha5 hb5 ha6 hb6 ha7 hb7 ha8 hb8); have ES_ := Aside0.mk hs; clear ES hs; have ES := ES_; clear ES_; obtain ⟨⟨ha0, ha1, ha2, ha3, ha4, ha5, ha6, ha7, ha8⟩, hb0, hb1, hb2, hb3, hb4, hb5, hb6, hb7, hb8⟩ := cells_9 ES.out.be))
            go_cut [52] (fun v52 wx => EvE w0 w wx g gr ge l 2)
            case first =>
              go_wp2_with (first | (go_at_call 24; (first | with_reducible refine Calls.mono (EvS.n ES.out _ (by decide)) ?_ | with_reducible refine Calls.mono (EvS.n (ES.out.set3 _) _ (by decide)) ?_ | with_reducible refine Calls.mono (EvS.n (ES.out.set4 _) _ (by decide)) ?_ | with_reducible refine Calls.mono (EvS.n (ES.out.set5 _) _ (by decide)) ?_ | with_reducible refine Calls.mono (EvS.n (ES.out.set6 _ ht) _ (by decide)) ?_); rintro e w' ⟨v, rfl, hv, hk, hs⟩; clear hk; have HV := Aside0.mk hv; clear hv; (try clear ha0 hb0 ha1 hb1 ha2 hb2 ha3 hb3 ha4 hb4 ha5 hb5 ha6 hb6 ha7 hb7 ha8 hb8); have ES_ := Aside0.mk hs; clear ES hs; have ES := ES_; clear ES_; obtain ⟨⟨ha0, ha1, ha2, ha3, ha4, ha5, ha6, ha7, ha8⟩, hb0, hb1, hb2, hb3, hb4, hb5, hb6, hb7, hb8⟩ := cells_9 ES.out.be))
              all_goals (go_meet; case rel => first | with_reducible exact ES.out.ee HN.out | with_reducible exact (ES.out.all (by decide)).ee (n := 2) (by decide))
            case rest =>
              clear ES HN
              obtain ⟨e0, e1, e2, e3, e4, e5, e6, v7, l7, e8, hs, hn⟩ := hcut; obtain ⟨A7, c7, e7⟩ := Kd.R_slice hs.ro; subst e7; (try clear HN); have HN := Aside0.mk hn; clear hn; (try clear ha0 hb0 ha1 hb1 ha2 hb2 ha3 hb3 ha4 hb4 ha5 hb5 ha6 hb6 ha7 hb7 ha8 hb8); have ES_ := Aside0.mk hs; (try clear ES); clear hs; have ES := ES_; clear ES_; obtain ⟨⟨ha0, ha1, ha2, ha3, ha4, ha5, ha6, ha7, ha8⟩, hb0, hb1, hb2, hb3, hb4, hb5, hb6, hb7, hb8⟩ := cells_9 ES.out.be
              go_upto_if 61 with (first | (go_at_call 34; (first | with_reducible refine Calls.mono (EvS.one ES.out _ (by decide)) ?_ | with_reducible refine Calls.mono (EvS.one (ES.out.set3 _) _ (by decide)) ?_ | with_reducible refine Calls.mono (EvS.one (ES.out.set4 _) _ (by decide)) ?_ | with_reducible refine Calls.mono (EvS.one (ES.out.set5 _) _ (by decide)) ?_ | with_reducible refine Calls.mono (EvS.one (ES.out.set6 _ ht) _ (by decide)) ?_); rintro e w' ⟨v, rfl, hs⟩; (try clear ha0 hb0 ha1 hb1 ha2 hb2 ha3 hb3 ha4 hb4 ha5 hb5 ha6 hb6 ha7 hb7 ha8 hb8); have ES_ := Aside0.mk hs; clear ES hs; have ES := ES_; clear ES_; obtain ⟨⟨ha0, ha1, ha2, ha3, ha4, ha5, ha6, ha7, ha8⟩, hb0, hb1, hb2, hb3, hb4, hb5, hb6, hb7, hb8⟩ := cells_9 ES.out.be))
              go_cut [52] (fun v52 wx => EvE w0 w wx g gr ge l 3)
              case first =>
                go_wp2_with (first | (go_at_call 24; (have h_ := HO.out; clear h_); have HD_ := Aside0.mk (EvS.dr ES.out); (first | with_reducible refine Calls.mono (EvS.n ES.out _ (by decide)) ?_ | with_reducible refine Calls.mono (EvS.n (ES.out.set3 _) _ (by decide)) ?_ | with_reducible refine Calls.mono (EvS.n (ES.out.set4 _) _ (by decide)) ?_ | with_reducible refine Calls.mono (EvS.n (ES.out.set5 _) _ (by decide)) ?_ | with_reducible refine Calls.mono (EvS.n (ES.out.set6 _ ht) _ (by decide)) ?_); rintro e w' ⟨v, rfl, hv, hk, hs⟩; have HO_ := Aside0.mk (Dr.row HD_.out HO.out (by decide) hk); clear HO hk HD_; have HO := HO_; clear HO_; (try clear ha0 hb0 ha1 hb1 ha2 hb2 ha3 hb3 ha4 hb4 ha5 hb5 ha6 hb6 ha7 hb7 ha8 hb8); have ES_ := Aside0.mk hs; clear ES hs; have ES := ES_; clear ES_; obtain ⟨⟨ha0, ha1, ha2, ha3, ha4, ha5, ha6, ha7, ha8⟩, hb0, hb1, hb2, hb3, hb4, hb5, hb6, hb7, hb8⟩ := cells_9 ES.out.be; obtain ⟨Ar, cr, er⟩ := Kd.R_slice HO.out; subst er; have p_ : 0 ≤ v := hv.1; have q_ : v < (yk.length : Int) := (by rw [LK.out]; have := hv.2; omega); clear hv; obtain ⟨adr, ear, hxr⟩ := Kd.at_int (Kd.R_reads' HO.out).2.2 v p_ q_; cases ear; replace p_ := eq_true p_; replace q_ := eq_true q_; clear HO) | (go_at_call 24; (first | with_reducible refine Calls.mono (EvS.n ES.out _ (by decide)) ?_ | with_reducible refine Calls.mono (EvS.n (ES.out.set3 _) _ (by decide)) ?_ | with_reducible refine Calls.mono (EvS.n (ES.out.set4 _) _ (by decide)) ?_ | with_reducible refine Calls.mono (EvS.n (ES.out.set5 _) _ (by decide)) ?_ | with_reducible refine Calls.mono (EvS.n (ES.out.set6 _ ht) _ (by decide)) ?_); rintro e w' ⟨v, rfl, hv, hk, hs⟩; clear hk; have HV := Aside0.mk hv; clear hv; (try clear ha0 hb0 ha1 hb1 ha2 hb2 ha3 hb3 ha4 hb4 ha5 hb5 ha6 hb6 ha7 hb7 ha8 hb8); have ES_ := Aside0.mk hs; clear ES hs; have ES := ES_; clear ES_; obtain ⟨⟨ha0, ha1, ha2, ha3, ha4, ha5, ha6, ha7, ha8⟩, hb0, hb1, hb2, hb3, hb4, hb5, hb6, hb7, hb8⟩ := cells_9 ES.out.be) | (go_at_call 48; (first | with_reducible refine Calls.mono (EvS.edge ES.out) ?_ | with_reducible refine Calls.mono (EvS.edge (ES.out.set3 _)) ?_ | with_reducible refine Calls.mono (EvS.edge (ES.out.set4 _)) ?_ | with_reducible refine Calls.mono (EvS.edge (ES.out.set5 _)) ?_ | with_reducible refine Calls.mono (EvS.edge (ES.out.set6 _ ht)) ?_); rintro e w' ⟨v, rfl, hs⟩; (try clear ha0 hb0 ha1 hb1 ha2 hb2 ha3 hb3 ha4 hb4 ha5 hb5 ha6 hb6 ha7 hb7 ha8 hb8); have ES_ := Aside0.mk hs; clear ES hs; have ES := ES_; clear ES_; obtain ⟨⟨ha0, ha1, ha2, ha3, ha4, ha5, ha6, ha7, ha8⟩, hb0, hb1, hb2, hb3, hb4, hb5, hb6, hb7, hb8⟩ := cells_9 ES.out.be) | ((with_reducible refine gate_dst (N := 69) rfl ?_); refine Kd.R_lit (Kd.int .i64) _ 2 ?hg (N := 69) ?hd (xs := ([0, 1, 1000000, 1000001] : List Int)) (inner := [.int .i64 0, .int .i64 1, .int .i64 1000000, .int .i64 1000001]) (ok := fun _ => True) (okp := fun _ => True) ?hr ?hp (fun _ hk => hk) trivial (Below.refl _ _) (Nat.le_refl _) (by simp) ?_; (case hd => rfl); (case hg => rfl); (case hr => first | (go_simp; done) | (go_simp; rfl)); (case hp => exact (Reps.one (show Kd.M (Kd.int .i64) _ _ _ 0 [.int .i64 0] from rfl) (Reps.one (show Kd.M (Kd.int .i64) _ _ _ 1 [.int .i64 1] from rfl) (Reps.one (show Kd.M (Kd.int .i64) _ _ _ 1000000 [.int .i64 1000000] from rfl) (Reps.one (show Kd.M (Kd.int .i64) _ _ _ 1000001 [.int .i64 1000001] from rfl) (Reps.none _ _)))))); intro v1 w1 ho hb hg_ hnew_; clear hg_ hnew_; rw [← NK.out] at ho; have HO := Aside0.mk (Kd.R_mono ho (fun _ h => h)); obtain hs : EvS w0 w _ g gr ge l _ _ _ _ _ _ _ _ _ _ := (by first | with_reducible exact EvS.below ES.out hb | with_reducible exact EvS.below (ES.out.set3 _) hb | with_reducible exact EvS.below (ES.out.set4 _) hb | with_reducible exact EvS.below (ES.out.set5 _) hb | with_reducible exact EvS.below (ES.out.set6 _ ht) hb); clear hb ho; (try clear ha0 hb0 ha1 hb1 ha2 hb2 ha3 hb3 ha4 hb4 ha5 hb5 ha6 hb6 ha7 hb7 ha8 hb8); have ES_ := Aside0.mk hs; clear ES hs; have ES := ES_; clear ES_; obtain ⟨⟨ha0, ha1, ha2, ha3, ha4, ha5, ha6, ha7, ha8⟩, hb0, hb1, hb2, hb3, hb4, hb5, hb6, hb7, hb8⟩ := cells_9 ES.out.be) | ((with_reducible refine gate_dst (N := 104) rfl ?_); (try (refine gate_guard (by rfl) ?_; dsimp only)); refine Kd.R_make (Kd.int .u8) _ 5 rfl (N := 104) rfl 22 _ _ rfl (wrap64 (29 + v)) rfl rfl Try.underlying22 (.int .u8 0) 1 info5 rfl (by decide) (by omega) 0 (ok := fun _ => True) (okp := fun _ => True) rfl (fun _ hk => hk) trivial (by have := HV.out; unfold wrap64; omega) (by have := HV.out; unfold wrap64; omega) (Below.refl _ _) (Nat.le_refl _) ?_; intro v1 w1 ho hb hg_ hnew_; clear hg_ hnew_; obtain ⟨yz, hyz⟩ : ∃ y : List Int, y = List.replicate (wrap64 (29 + v)).toNat 0 := ⟨_, rfl⟩; rw [← hyz] at ho; have ht : (strOfNums yz).size ≤ 1000 := (by rw [strOfNums_size, hyz, List.length_replicate]; have := HV.out; unfold wrap64; omega); clear hyz; have HO := Aside0.mk ho; have hs := EvS.below ES.out hb; clear hb ho; have hcv := own_string (P := Try.prog) Try.underlying22 Try.underlying5 Try.underlying9 (Kd.own_of_R HO.out); (try clear ha0 hb0 ha1 hb1 ha2 hb2 ha3 hb3 ha4 hb4 ha5 hb5 ha6 hb6 ha7 hb7 ha8 hb8); have ES_ := Aside0.mk hs; clear ES hs; have ES := ES_; clear ES_; obtain ⟨⟨ha0, ha1, ha2, ha3, ha4, ha5, ha6, ha7, ha8⟩, hb0, hb1, hb2, hb3, hb4, hb5, hb6, hb7, hb8⟩ := cells_9 ES.out.be))
                all_goals (first | (go_meet; (case rel => first | with_reducible exact ES.out.ee (Nat.le_succ_of_le HN.out) | with_reducible exact (ES.out.set0 _).ee (Nat.le_succ_of_le HN.out) | with_reducible exact (ES.out.set1 _).ee (Nat.le_succ_of_le HN.out) | with_reducible exact (ES.out.set2 _).ee (Nat.le_succ_of_le HN.out) | with_reducible exact (ES.out.set3 _).ee (Nat.le_succ_of_le HN.out) | with_reducible exact (ES.out.set5 _).ee (Nat.le_succ_of_le HN.out) | with_reducible exact (ES.out.set6 _ ht).ee (Nat.le_succ_of_le HN.out))) | (
                             have hs := ES.out.drew
                             refine start_ (n := 8) (S := fun w' => w'.cell? ⟨ge, 7, none⟩ = some (.slice A7 l7.length c7)) (ds := [7]) #[false, false, false, false, false, false, false, false] (by kernel_rfl) rfl rfl ha7 (fun hHeld => ?_); refine with_tabW spec_l01Src_l02Event.tab23 spec_l01Src_l02Event.bits23 (fun HT_ HW_ => ?_)
                             clear ES ha0 hb0 ha1 hb1 ha2 hb2 ha3 hb3 ha4 hb4 ha5 hb5 ha6 hb6 ha7 hb7 ha8 hb8
                             generalize World.drew w' = w9 at hs hHeld ⊢
                             have ES := Aside0.mk hs
                             clear hs
                             refine p_ 0 (some 92) HT_.out (bm 8 1) ?_
                             refine p_ 2 (some 94) HT_.out (bm 8 5) ?_
                             refine t_ 1 (some 93) (bm 8 7) (take_ofW HT_.out HW_.out (by kernel_rfl)) hHeld ?_
                             refine one_ (i := 3) (N := some 95) (bm 8 15) rfl rfl (one_of HT_.out (by kernel_rfl)) (by decide) (fun K hK => ?_)
                             refine gs_ Try.func24 #[.pointer (some ⟨g, 0, none⟩), .int .i64 9] ?_
                             with_reducible refine Calls.mono (EvS.n ES.out 9 (by decide)) ?_
                             rintro e w8 ⟨v, rfl, hv, hk, hs⟩
                             refine ⟨_, rfl, ?_⟩
                             clear hv hk ES
                             have ES := Aside0.mk hs
                             clear hs
                             refine hK.out _ _ ((blk_cell ES.out.be 7).trans rfl) (fun hHeld => ?_)
                             clear hK K
                             refine n_ (some 95) ?_
                             refine one_ (i := 4) (N := some 96) (bm 8 31) rfl rfl (one_of HT_.out (by kernel_rfl)) (by decide) (fun K hK => ?_)
                             refine value_ (w1 := ?_) (v := ?_) (by rfl) rfl ?_ ?_
                             rotate_left 2
                             · go_simp
                               constructor
                               · rfl
                               · rfl
                             refine hK.out _ _ ((blk_cell (blk_alloc ES.out.be _) 7).trans rfl) (fun hHeld => ?_)
                             clear hK K
                             refine n_ (some 96) ?_
                             refine one_ (i := 5) (N := some 97) (bm 8 63) rfl rfl (one_of HT_.out (by kernel_rfl)) (by decide) (fun K hK => ?_)
                             refine Kd.R_append_step (Kd.int .i64) w.heap.size (by rfl) (.tmp 93) (.tmp 96) 23 2 (.int .i64 0) 8 rfl Try.underlying23 info2 rfl (by decide) (by omega) (.slice A7 l7.length c7) l7 v [.int .i64 v] (fun _ => True) (fun _ => False) rfl rfl ?aP (fun _ hk => hk.elim) ?aF ?aO (Below.refl _ _) ?aS ?aL ?_
                             (case aP => exact rfl)
                             (case aF => exact (fun _ _ => trivial))
                             (case aO => exact ES.out.ro)
                             (case aS => exact ES.out.kp.1)
                             (case aL => have := HN.out; omega)
                             intro v1 w1 ho hb hg hat
                             obtain ⟨yq, hyq⟩ : ∃ y : List Int, y = l7 ++ [v] := ⟨_, rfl⟩
                             rw [← hyq] at ho
                             have HQ := Aside0.mk (show yq.length ≤ l7.length + 1 by rw [hyq, List.length_append]; exact Nat.le_refl _)
                             have EP := Aside0.mk (EvS.grown ES.out hb hg)
                             have HO := Aside0.mk ho
                             clear hyq ho hb hg hat ES
                             obtain ⟨Ar, cr, er⟩ := Kd.R_slice HO.out
                             subst er
                             refine hK.out _ _ ((blk_cell EP.out.be 7).trans rfl) (fun hHeld => ?_)
                             clear hK K
                             refine n_ (some 97) ?_
                             refine p_ 6 (some 98) HT_.out (bm 8 127) ?_
                             refine last_ (i := 7) (N := none) (bm 8 255) rfl rfl (one_of HT_.out (by kernel_rfl)) (by decide) (fun K hK => ?_)
                             have hs7 : w1.cell? ⟨ge, 7, none⟩ = some (.slice A7 l7.length c7) := (blk_cell EP.out.be 7).trans rfl
                             have hf7 := blk_frozen EP.out.be 7
                             refine skip_ (w1 := ?_) (by rfl) rfl ?_ ?_
                             rotate_left
                             · go_simp
                               rfl
                             refine hK.out _ _ ?_
                             clear hK K
                             refine done_ (done_of HT_.out (by kernel_rfl)) ?_
                             try go_wp2
                             go_meet
                             case rel => exact (EvP.set7 EP.out HO.out).ee (by have := HQ.out; have := HN.out; omega)))
              case rest =>
                clear ES HN
                obtain ⟨e0, e1, e2, e3, e4, e5, e6, v7, l7, e8, hs, hn⟩ := hcut; obtain ⟨A7, c7, e7⟩ := Kd.R_slice hs.ro; subst e7; (try clear HN); have HN := Aside0.mk hn; clear hn; (try clear ha0 hb0 ha1 hb1 ha2 hb2 ha3 hb3 ha4 hb4 ha5 hb5 ha6 hb6 ha7 hb7 ha8 hb8); have ES_ := Aside0.mk hs; (try clear ES); clear hs; have ES := ES_; clear ES_; obtain ⟨⟨ha0, ha1, ha2, ha3, ha4, ha5, ha6, ha7, ha8⟩, hb0, hb1, hb2, hb3, hb4, hb5, hb6, hb7, hb8⟩ := cells_9 ES.out.be
                obtain ⟨⟨hc0, hc1, hc2, hc3, hc4, hc5, hc6, hc7, hc8⟩, hd0, hd1, hd2, hd3, hd4, hd5, hd6, hd7, hd8⟩ := cells_9 ES.out.br; have hne1 := ES.out.ne; have hne2 := Ne.symm hne1
                go_wp2
                refine bodyPost_ret (results_cell_row rfl _ _ gr 25 #[.int .i64 e0, .int .i64 e1, .int .i64 e2, .int .i64 e3, .int .i64 e4, .int .i64 e5, .string e6, .slice A7 l7.length c7, .int .i64 e8] (0, 0) _ rfl (by refine bp9_ (c0 := .int .i64 0) (c1 := .int .i64 0) (c2 := .int .i64 0) (c3 := .int .i64 0) (c4 := .int .i64 0) (c5 := .int .i64 0) (c6 := .string (⟨#[]⟩ : ByteArray)) (c7 := .slice none 0 0) (c8 := .int .i64 0) ?_; exact ES.out.br) Try.underlying25 rfl (by kernel_rfl)) rfl ?_
                exact ⟨e0, e1, e2, e3, e4, e5, e6, _, l7, e8, rfl, ES.out.t6, HN.out, Kd.R_mono ES.out.fin.ro (fun _ _ => trivial), ES.out.fin.kp, ES.out.fin.dr⟩
theorem Dr.bel {w0 W : World} {g : Nat} {l : List Int} (h : Dr w0 W g l) : Below w0.heap.size w0 W := by
  obtain ⟨_, _, h⟩ := h
  exact h
theorem Dr.source_l0 (l : List Int) (d : Nat) : ∀ (i : Nat) (mix : Int), i + d = 64 → ∃ k mix' sz, spec_l01Source.l0 k l (i : Int) l 0 mix 0 = some (l, 0, mix', sz) := by
  have fin : ∀ (i : Nat) (mix : Int), ¬ ((i : Int) < (l.length : Int) ∧ (i : Int) < 64) → ∃ k mix' sz, spec_l01Source.l0 k l (i : Int) l 0 mix 0 = some (l, 0, mix', sz) := by
    intro i mix hc
    by_cases c : (wrap64 ((l.length : Int) / 20)) > 12
    · refine ⟨1, mix, 12, ?_⟩
      simp only [spec_l01Source.l0]
      by_cases c1 : (i : Int) < (l.length : Int)
      · rw [if_pos c1, if_neg (by omega), if_pos c]
      · rw [if_neg c1, if_pos c]
    · refine ⟨1, mix, wrap64 ((l.length : Int) / 20), ?_⟩
      simp only [spec_l01Source.l0]
      by_cases c1 : (i : Int) < (l.length : Int)
      · rw [if_pos c1, if_neg (by omega), if_neg c]
      · rw [if_neg c1, if_neg c]
  induction d with
  | zero =>
    intro i mix hi
    exact fin i mix (by omega)
  | succ d ih =>
    intro i mix hi
    by_cases c : (i : Int) < (l.length : Int)
    · obtain ⟨k, m2, sz, h⟩ := ih (i + 1) (IntKind.u64.wrap ((Go.bits .xor .u64 mix (IntKind.u64.wrap (rd l (i : Int)))) * 1099511628211)) (by omega)
      refine ⟨k + 1, m2, sz, ?_⟩
      simp only [spec_l01Source.l0]
      rw [if_pos c, if_pos (by omega), if_pos (by omega), show wrap64 ((i : Int) + 1) = ((i + 1 : Nat) : Int) from by unfold wrap64; omega]
      exact h
    · exact fin i mix (fun h => c h.1)
theorem Dr.source {A0 : Option Addr} {c0 : Nat} {l : List Int} {w0 w : World} (hl : l.length ≤ 1048576) (hB : Below w0.heap.size w0 w) (hr0 : Kd.C (Kd.int .u8) w0 A0 l.length l) (hc0 : l.length ≤ c0) :
    Calls Try.prog 19 #[.slice A0 l.length c0] w fun e w' => ∃ g : Nat, e = .returned (.pointer (some ⟨g, 0, none⟩)) ∧ Dr w0 w' g l ∧ Below w.heap.size w w' := by
  obtain ⟨k, m, z, h⟩ := Dr.source_l0 l 64 0 88172645463325252 rfl
  refine (spec_l01Source.calls k A0 c0 l l 0 m z w0 w hB hr0 hc0 (by unfold spec_l01Source.f; exact h)).mono ?_
  rintro e w' ⟨g, rfl, hi, hb, hb2⟩
  exact ⟨g, rfl, ⟨hl, ⟨0, m, z, by omega, by omega, hi⟩, hb⟩, hb2⟩
theorem Dr.ne_blk {w0 W : World} {g : Nat} {l : List Int} (h : Dr w0 W g l) {a : Nat} {cs : Array Value} {t : TypeId} {fr : Nat × Nat} (hb2 : W.heap[a]? = some (.cells cs t fr)) (ht : t ≠ 63) : g ≠ a := by
  obtain ⟨h1, ⟨a, m, z, h2, h3, h4⟩, h5⟩ := h
  exact h4.ne_blk hb2 ht
section
variable {w W : World} {gr : Nat} {u0 u1 u2 u3 u4 u5 u6 u7 u8 : Value}
theorem below9 (h : Below w.heap.size w W) (hg : w.heap.size ≤ gr) : Below w.heap.size w (((((((((W.setCell ⟨gr, 0, none⟩ u0).setCell ⟨gr, 1, none⟩ u1).setCell ⟨gr, 2, none⟩ u2).setCell ⟨gr, 3, none⟩ u3).setCell ⟨gr, 4, none⟩ u4).setCell ⟨gr, 5, none⟩ u5).setCell ⟨gr, 6, none⟩ u6).setCell ⟨gr, 7, none⟩ u7).setCell ⟨gr, 8, none⟩ u8) := below_set (below_set (below_set (below_set (below_set (below_set (below_set (below_set (below_set h hg) hg) hg) hg) hg) hg) hg) hg) hg
theorem row9 {α : Type} {d : Kd α} {e base : Nat} {ok : Nat → Prop} {v : Value} {xs : List α} (h : d.R e W base ok v xs) {cs : Array Value} (hb : W.heap[gr]? = some (.cells cs 25 (0, 0))) (ht : ∀ q, q ∈ e :: d.E → q ≠ 25) : d.R e (((((((((W.setCell ⟨gr, 0, none⟩ u0).setCell ⟨gr, 1, none⟩ u1).setCell ⟨gr, 2, none⟩ u2).setCell ⟨gr, 3, none⟩ u3).setCell ⟨gr, 4, none⟩ u4).setCell ⟨gr, 5, none⟩ u5).setCell ⟨gr, 6, none⟩ u6).setCell ⟨gr, 7, none⟩ u7).setCell ⟨gr, 8, none⟩ u8) base ok v xs :=
  Kd.R_mono (Kd.R_far (p := ⟨gr, 8, none⟩) (Kd.R_far (p := ⟨gr, 7, none⟩) (Kd.R_far (p := ⟨gr, 6, none⟩) (Kd.R_far (p := ⟨gr, 5, none⟩) (Kd.R_far (p := ⟨gr, 4, none⟩) (Kd.R_far (p := ⟨gr, 3, none⟩) (Kd.R_far (p := ⟨gr, 2, none⟩) (Kd.R_far (p := ⟨gr, 1, none⟩) (Kd.R_far (p := ⟨gr, 0, none⟩) (Kd.R_types h hb ht) (fun _ k => k.2) u0) (fun _ k => k.2) u1) (fun _ k => k.2) u2) (fun _ k => k.2) u3) (fun _ k => k.2) u4) (fun _ k => k.2) u5) (fun _ k => k.2) u6) (fun _ k => k.2) u7) (fun _ k => k.2) u8) (fun _ k => k.1)
theorem blk9 {g : Nat} {cs : Array Value} {t : TypeId} (h : W.heap[g]? = some (.cells cs t (0, 0))) (hne : g ≠ gr) : (((((((((W.setCell ⟨gr, 0, none⟩ u0).setCell ⟨gr, 1, none⟩ u1).setCell ⟨gr, 2, none⟩ u2).setCell ⟨gr, 3, none⟩ u3).setCell ⟨gr, 4, none⟩ u4).setCell ⟨gr, 5, none⟩ u5).setCell ⟨gr, 6, none⟩ u6).setCell ⟨gr, 7, none⟩ u7).setCell ⟨gr, 8, none⟩ u8).heap[g]? = some (.cells cs t (0, 0)) :=
  blk_far (p := ⟨gr, 8, none⟩) (blk_far (p := ⟨gr, 7, none⟩) (blk_far (p := ⟨gr, 6, none⟩) (blk_far (p := ⟨gr, 5, none⟩) (blk_far (p := ⟨gr, 4, none⟩) (blk_far (p := ⟨gr, 3, none⟩) (blk_far (p := ⟨gr, 2, none⟩) (blk_far (p := ⟨gr, 1, none⟩) (blk_far (p := ⟨gr, 0, none⟩) h hne u0) hne u1) hne u2) hne u3) hne u4) hne u5) hne u6) hne u7) hne u8
theorem Dr.put9 {w0 : World} {g : Nat} {l : List Int} (h : Dr w0 W g l) (hne : g ≠ gr) (hk : w0.heap.size ≤ gr) : Dr w0 (((((((((W.setCell ⟨gr, 0, none⟩ u0).setCell ⟨gr, 1, none⟩ u1).setCell ⟨gr, 2, none⟩ u2).setCell ⟨gr, 3, none⟩ u3).setCell ⟨gr, 4, none⟩ u4).setCell ⟨gr, 5, none⟩ u5).setCell ⟨gr, 6, none⟩ u6).setCell ⟨gr, 7, none⟩ u7).setCell ⟨gr, 8, none⟩ u8) g l := ((((((((h.far hne hk u0).far hne hk u1).far hne hk u2).far hne hk u3).far hne hk u4).far hne hk u5).far hne hk u6).far hne hk u7).far hne hk u8
end
set_option maxHeartbeats 8000000 in
set_option maxRecDepth 100000 in
theorem spec_DrawEventBytes.calls (A0 : Option Addr) (c0 : Nat) (l0 : List Int) (w : World) (hl0 : l0.length ≤ 1048576) (hr0 : Kd.C (Kd.int .u8) w A0 l0.length l0) (hc0 : l0.length ≤ c0) :
    Calls Try.prog 4 #[.slice A0 l0.length c0] w fun e w' => ∃ (y0 y1 y2 y3 y4 y5 : Int) (y6 : ByteArray) (v7 : Value) (l7 : List Int) (y8 : Int), e = .returned (.agg #[.int .i64 y0, .int .i64 y1, .int .i64 y2, .int .i64 y3, .int .i64 y4, .int .i64 y5, .string y6, v7, .int .i64 y8]) ∧ y6.size ≤ 1000 ∧ l7.length ≤ 3 ∧ Kd.R (Kd.int .i64) 2 w' w.heap.size (fun _ => True) v7 l7 ∧ Below w.heap.size w w' := by
  have hu25 := Try.underlying25
  have HR := Aside0.mk hr0
  have HC := Aside0.mk hc0
  have HL := Aside0.mk hl0
  clear hr0 hc0 hl0
  go_enter Try.func4, Try.ntmps4
  go_wp2_with (first | ((with_reducible refine gate_dst (N := 2) rfl ?_); refine be_ 2 #[.int .i64 0, .int .i64 0, .int .i64 0, .int .i64 0, .int .i64 0, .int .i64 0, .string (⟨#[]⟩ : ByteArray), .slice none 0 0, .int .i64 0] 25 ?_; intro gr hg w1 hbox hb; have BR := Aside0.mk hbox; have HGR := Aside0.mk (show w.heap.size ≤ gr by rw [hg]; exact Nat.le_refl _); have HB := Aside0.mk hb; clear hg hbox hb) | (go_at_call 19; with_reducible refine Calls.mono (Dr.source HL.out HB.out HR.out HC.out) ?_; rintro e w' ⟨g, rfl, hd, hb⟩; have BR_ := Aside0.mk (blk_below BR.out hb); have HB_ := Aside0.mk (below_step HB.out hb); clear BR HB hb; have BR := BR_; have HB := HB_; clear BR_ HB_; have HD := Aside0.mk hd; clear hd) | (go_at_call 20; with_reducible refine Calls.mono (spec_l01Src_l02Event.calls g l0 w _ HD.out) ?_; rintro e w3 ⟨y0, y1, y2, y3, y4, y5, y6, v7, l7, y8, rfl, ht, hn, ho, hk, hd⟩; have BR_ := Aside0.mk (hk.blk BR.out (Ne.symm (HD.out.ne_blk BR.out (by decide))) (by simp)); have HO := Aside0.mk (Kd.R_lower ho (below_size HB.out)); clear BR HB HD ho hk; have BR := BR_; have HB := Aside0.mk hd.bel; have HT := Aside0.mk ht; have HN := Aside0.mk hn; clear BR_ ht hn hd; obtain ⟨A7, c7, e7⟩ := Kd.R_slice HO.out; subst e7; obtain ⟨⟨hc0, hc1, hc2, hc3, hc4, hc5, hc6, hc7, hc8⟩, hd0, hd1, hd2, hd3, hd4, hd5, hd6, hd7, hd8⟩ := cells_9 BR.out))
  refine bodyPost_ret (results_cell_row rfl _ _ gr 25 #[.int .i64 y0, .int .i64 y1, .int .i64 y2, .int .i64 y3, .int .i64 y4, .int .i64 y5, .string y6, .slice A7 l7.length c7, .int .i64 y8] (0, 0) _ rfl (by refine bp9_ (c0 := .int .i64 0) (c1 := .int .i64 0) (c2 := .int .i64 0) (c3 := .int .i64 0) (c4 := .int .i64 0) (c5 := .int .i64 0) (c6 := .string (⟨#[]⟩ : ByteArray)) (c7 := .slice none 0 0) (c8 := .int .i64 0) ?_; exact BR.out) Try.underlying25 rfl (by kernel_rfl)) rfl ?_
  exact ⟨_, _, _, _, _, _, _, _, _, _, rfl, HT.out, HN.out, row9 HO.out BR.out (by decide), below9 HB.out HGR.out⟩

end Go.Proofs.Yteimdbmfgojioaa.Print
