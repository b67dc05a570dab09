/- Rows that the library's sort has turned. -/
import Derived.Test.YtcbfopepfhfaoaaShelfG
import Derived.Test.YtcbfopepfhfaoaaSpecW
import Derived.Test.YtcbfopepfhfaoaaCutMore
import Derived.Test.YtcbfopepfhfaoaaCutLast
import Derived.Test.YtcbfopepfhfaoaaCutKept
import Derived.Test.YtcbfopepfhfaoaaCutTab
import Derived.Shelf.SortM.Plain
import Derived.Shelf.SortM.SortNone
import Derived.Shelf.SlicesE.Compact
import Derived.Shelf.SlicesE.DeleteFunc
import Derived.Shelf.SlSortCmp.WholeK
import Derived.Shelf.SlSortCmp.NoneTotal
namespace Go.Proofs.Ytcbfopepfhfaoaa.Print
open Go.RowKit Go.Proofs.YtcbfopepfhfaoaaW.PrintWords Go.Proofs.YtcbfopepfhfaoaaW.PrintLast Go.Proofs.YtcbfopepfhfaoaaW.PrintMore
set_option linter.unusedVariables false
set_option linter.unusedSimpArgs false

/-! Rows that the library's sort has turned: between its words (Holds, putRow, grow) and the print's (Kd.R). -/
section
open Go.Sort
theorem sw_heap {β : Type} [Inhabited β] (enc : β → Value) {w : World} {g n : Nat} {os : Array Obj} {cur : Array Value} {e : TypeId} {fr : Nat × Nat} (d : Array β) (hb : w.heap[g]? = some (.cells cur e fr)) :
    (Go.Sort.grow (putRow enc (Go.Sort.ahead w n) g 0 d) os).heap[g]? = some (.cells (putCells enc 0 d cur) e fr) := by
  have hg : g < w.heap.size := (Array.getElem?_eq_some_iff.1 hb).1
  rw [heap_grow_old _ _ (by simpa using hg)]
  simp [putRow, mapBlock, Go.Sort.ahead, Array.getElem?_modify, hb, onCells]
theorem sw_grown {β : Type} [Inhabited β] (enc : β → Value) {w : World} {g n : Nat} {os : Array Obj} (d : Array β) : w.grownBy (Go.Sort.grow (putRow enc (Go.Sort.ahead w n) g 0 d) os) (some g) := by
  refine ⟨rfl, rfl, rfl, by simp, fun k hk hne => ?_⟩
  rw [heap_grow_old _ _ (by simpa using hk)]
  have : g ≠ k := fun e => hne (by rw [e])
  simp [putRow, mapBlock, Go.Sort.ahead, Array.getElem?_modify, this]
theorem sw_take {β : Type} [Inhabited β] (enc : β → Value) (cur : Array Value) (d : Array β) (h : d.size ≤ cur.size) : (putCells enc 0 d cur).toList.take d.size = d.toList.map enc := by
  apply List.ext_getElem?
  intro j
  by_cases hj : j < d.size
  · rw [List.getElem?_take_of_lt hj, Array.getElem?_toList]
    simp [putCells, hj, show j < cur.size by omega]
  · rw [List.getElem?_take_eq_none (by omega), List.getElem?_eq_none (by simp; omega)]
theorem sw_size {β : Type} [Inhabited β] (enc : β → Value) (cur : Array Value) (d : Array β) : (putCells enc 0 d cur).size = cur.size := by simp [putCells]
theorem sw_holds {β : Type} [Inhabited β] (enc : β → Value) {w : World} {g : Nat} {cur : Array Value} {e : TypeId} {d : Array β} (hb : w.heap[g]? = some (.cells cur e (0, 0))) (ht : cur.toList.take d.size = d.toList.map enc) : Holds enc w g 0 d := by
  intro j hj
  refine ⟨?_, by simp [World.frozen?, hb]⟩
  have h1 : (cur.toList.take d.size)[j]? = (d.toList.map enc)[j]? := by rw [ht]
  rw [List.getElem?_take_of_lt hj] at h1
  simp only [World.cell?, hb, Nat.zero_add]
  simp only [Option.isSome_none, Bool.false_eq_true, if_false]
  rw [← Array.getElem?_toList, h1]
  simp [hj]
/-- An element's cells are its code, and nothing else. -/
structure Flat {α : Type} (d : Kd α) (enc : α → List Value) : Prop where
  fwd : ∀ {w : World} {base : Nat} {ok : Nat → Prop} {x : α} {cs : List Value}, d.M w base ok x cs → cs = enc x
  bwd : ∀ (w : World) (base : Nat) (ok : Nat → Prop) (x : α), d.M w base ok x (enc x)
theorem Flat.one {α : Type} (f : α → Value) (h1 : ∀ x, (f x).oneCell' = true) : Flat (Kd.scalar f h1) (fun x => [f x]) := ⟨fun h => h, fun _ _ _ _ => rfl⟩
theorem flat_reps {α : Type} {R : α → List Value → Prop} {enc : α → List Value} {k : Nat} (hR : ∀ x cs, R x cs → cs = enc x) : ∀ (xs : List α) (cs : List Value), Reps R k xs cs → cs = xs.flatMap enc
  | [], cs, h => by
    have := h.1
    simp at this
    simp [this]
  | x :: xs, cs, h => by
    obtain ⟨hl, hp⟩ := h
    have h0 := hR _ _ (hp 0 x rfl)
    simp only [Nat.zero_mul, List.drop_zero] at h0
    have ih := flat_reps (k := k) hR xs (cs.drop k) ⟨by rw [List.length_drop, hl, List.length_cons, Nat.succ_mul]; omega, fun j p hj => by
      have h2 := hp (j + 1) p (by simpa using hj)
      rw [List.drop_drop]
      rw [show k + j * k = (j + 1) * k by rw [Nat.succ_mul]; omega]
      exact h2⟩
    rw [List.flatMap_cons, ← ih, ← h0, List.take_append_drop]
theorem flat_seg {α : Type} {enc : α → List Value} {k : Nat} (hk : ∀ x, (enc x).length = k) : ∀ (xs : List α) (j : Nat) (p : α), xs[j]? = some p → ((xs.flatMap enc).drop (j * k)).take k = enc p
  | [], j, p, h => by simp at h
  | x :: xs, 0, p, h => by
    have e : x = p := by simpa using h
    subst e
    rw [Nat.zero_mul, List.drop_zero, List.flatMap_cons, ← hk x, List.take_left]
  | x :: xs, j + 1, p, h => by
    rw [List.flatMap_cons, show (j + 1) * k = (enc x).length + j * k by rw [Nat.succ_mul, hk]; omega, ← List.drop_drop, List.drop_left]
    exact flat_seg hk xs j p (by simpa using h)
theorem flat_len {α : Type} {enc : α → List Value} {k : Nat} (hk : ∀ x, (enc x).length = k) : ∀ (xs : List α), (xs.flatMap enc).length = xs.length * k
  | [] => by simp
  | x :: xs => by rw [List.flatMap_cons, List.length_append, hk, flat_len hk xs, List.length_cons, Nat.succ_mul]; omega
theorem Flat.len {α : Type} {d : Kd α} {enc : α → List Value} (F : Flat d enc) (w : World) (x : α) : (enc x).length = d.sz := d.K_len (d.K_of_M (F.bwd w 0 (fun _ => True) x))
theorem Flat.open_ {α : Type} {d : Kd α} {enc : α → List Value} (F : Flat d enc) {e : Nat} {w : World} {base : Nat} {ok : Nat → Prop} {v : Value} {xs : List α} (h : d.R e w base ok v xs) :
    (v = .slice none 0 0 ∧ xs = []) ∨ ∃ g cap cur, v = .slice (some ⟨g, 0, none⟩) xs.length cap ∧ ok g ∧ base ≤ g ∧ w.heap[g]? = some (.cells cur e (0, 0)) ∧ xs.length ≤ cap ∧ cap ≤ maxLen ∧ cur.size = cap * d.sz ∧ cur.toList.take (xs.length * d.sz) = xs.flatMap enc := by
  obtain ⟨h0, inner, ⟨hl, ho⟩, hr⟩ := h
  rcases ho with ⟨rfl, hn⟩ | ⟨g, cap, cur, rfl, hg, hb, h1, h2, h3, h4⟩
  · exact .inl ⟨rfl, List.eq_nil_of_length_eq_zero hn⟩
  · exact .inr ⟨g, cap, cur, rfl, h0 g rfl, hg, hb, h1, h2, h3, h4.trans (flat_reps (fun _ _ hm => F.fwd hm) xs inner hr)⟩
theorem Flat.close_ {α : Type} {d : Kd α} {enc : α → List Value} (F : Flat d enc) {e : Nat} {w : World} {base : Nat} {ok : Nat → Prop} {g cap : Nat} {cur : Array Value} {ys : List α} (hok : ok g) (hbase : base ≤ g) (hb : w.heap[g]? = some (.cells cur e (0, 0)))
    (h1 : ys.length ≤ cap) (h2 : cap ≤ maxLen) (h3 : cur.size = cap * d.sz) (h4 : cur.toList.take (ys.length * d.sz) = ys.flatMap enc) : d.R e w base ok (.slice (some ⟨g, 0, none⟩) ys.length cap) ys := by
  refine ⟨fun k hk => ?_, ys.flatMap enc, ⟨flat_len (F.len w) ys, .inr ⟨g, cap, cur, rfl, hbase, hb, h1, h2, h3, h4⟩⟩, flat_len (F.len w) ys, fun j p hj => ?_⟩
  · have e1 : g = k := by simpa [Value.ownBlock] using hk
    subst e1; exact hok
  · rw [flat_seg (F.len w) ys j p hj]
    exact F.bwd _ _ _ _
theorem flat_get {α : Type} [Inhabited α] {enc : α → List Value} {k : Nat} (hk : ∀ x, (enc x).length = k) : ∀ (xs : List α) (t : Nat), t < xs.length * k → (xs.flatMap enc)[t]? = some ((enc xs.toArray[t / k]!)[t % k]!)
  | [], t, h => by simp at h
  | x :: xs, t, h => by
    have k0 : 0 < k := by
      rcases Nat.eq_zero_or_pos k with h0 | h0
      · subst h0; simp at h
      · exact h0
    rw [List.flatMap_cons]
    by_cases ht : t < k
    · rw [List.getElem?_append_left (by rw [hk]; exact ht), Nat.div_eq_of_lt ht, Nat.mod_eq_of_lt ht]
      have hl : t < (enc x).length := by rw [hk]; exact ht
      rw [List.getElem?_eq_getElem hl]
      simp [hl]
    · have hs : t - k < xs.length * k := by rw [List.length_cons, Nat.succ_mul] at h; omega
      have e1 : t / k = (t - k) / k + 1 := by rw [Nat.div_eq_sub_div k0 (by omega)]
      have e2 : t % k = (t - k) % k := by rw [Nat.mod_eq_sub_mod (by omega)]
      rw [List.getElem?_append_right (by rw [hk]; omega), hk, flat_get hk xs (t - k) hs, e1, e2]
      simp
theorem flatK_list {α : Type} [Inhabited α] {enc : α → List Value} {k : Nat} (hk : ∀ x, (enc x).length = k) (xs : List α) : (flatK enc k xs.toArray).toList = xs.flatMap enc := by
  apply List.ext_getElem?
  intro t
  by_cases h : t < xs.length * k
  · have h2 : t < (flatK enc k xs.toArray).size := by rw [size_flatK]; simpa using h
    rw [flat_get hk xs t h, Array.getElem?_toList, ← get_flatK enc k xs.toArray t (by simpa using h)]
    rw [Array.getElem?_eq_getElem h2, getElem!_pos _ t h2]
  · rw [List.getElem?_eq_none (by rw [Array.length_toList, size_flatK]; simpa using h), List.getElem?_eq_none (by rw [flat_len hk]; omega)]
/-- What stands behind a call that turns one row of the call's own. -/
theorem sw_kept {w w' : World} {g : Nat} {S : Nat → Prop} (h : w.grownBy w' (some g)) (hg : S g) : Kept w w' S :=
  Kept.of_grown (S := S) h (Kept.refl w S) (fun k e => by
    have e1 : g = k := by simpa using e
    subst e1; exact Or.inl hg)
end
section
open Go.Sort
/-- The world is the old one, some orders drawn, some blocks laid behind it. -/
def GD (w w' : World) : Prop := ∃ (q : Nat) (os : Array Obj), w' = Go.Sort.grow (w.drewN q) os
theorem GD.refl (w : World) : GD w w := ⟨0, #[], by rw [grow_empty]; rfl⟩
theorem gd_alloc {w W : World} (h : GD w W) (o : Obj) : GD w (W.alloc o) := by
  obtain ⟨q, os, rfl⟩ := h
  exact ⟨q, os ++ #[o], by rw [alloc_eq_grow, grow_grow]⟩
theorem gd_drewN {w W : World} (h : GD w W) (n : Nat) : GD w (W.drewN n) := by
  obtain ⟨q, os, rfl⟩ := h
  refine ⟨q + n, os, ?_⟩
  rw [← World.drewN_drewN]
  rfl
theorem gd_drew {w W : World} (h : GD w W) : GD w W.drew := gd_drewN h 1
variable {P : Program} {ops : Array Oper} {rest : List Oper} {o : Oper} {a : Act} {Q : Exit → Act → World → Prop} {Kc : Act → World → Prop}
theorem boxG_event {W : World} (hgd : o.guard = none) {N : Tmp} (_hd : o.dst = some N) {cs : Array Value} {t : TypeId}
    (hrun : (execOp a.eval o).run P W = .ok (.value (.pointer (some ⟨W.heap.size, 0, none⟩))) (W.alloc (.cells cs t (0, 0))))
    (h : ∀ g, g = W.heap.size → ∀ w1, w1.heap[g]? = some (.cells cs t (0, 0)) → Below W.heap.size W w1 → w1 = W.alloc (.cells cs t (0, 0)) → wpList P ops Q rest (a.put o.dst (.pointer (some ⟨g, 0, none⟩))) w1) : wpList P ops Q (o :: rest) a W :=
  Kd.event_run hgd hrun (h _ rfl _ (blk_new W _) (below_alloc (Below.refl _ _) _) rfl)
theorem litG_step {α : Type} (d : Kd α) {w0 W : World} (base e : Nat) (hw : Region.wanted o (yielded ops a.tmps) = true) {N : Tmp} (_hd : o.dst = some N) {xs : List α} {inner : List Value} {ok okp : Nat → Prop}
    (hrun : (execOp a.eval o).run P W = .ok (.value (.slice (some ⟨W.heap.size, 0, none⟩) xs.length xs.length)) (W.alloc (.cells inner.toArray e)))
    (hrep : Reps (d.M W base okp) d.sz xs inner) (hok : ∀ k, okp k → ok k) (hfresh : ok W.heap.size) (HB : Below base w0 W) (hbase : base ≤ W.heap.size) (hm : xs.length ≤ 9223372036854775807)
    (h : ∀ v1 w1, d.R e w1 base ok v1 xs → Below base w0 w1 → W.grownBy w1 none → (∃ b, v1.ownBlock = some b ∧ W.heap.size ≤ b) → w1 = W.alloc (.cells inner.toArray e) → Kc (a.put o.dst v1) w1) : if Region.wanted o (yielded ops a.tmps) = true then Oper.wp P o a W Kc Q else Kc (a.put o.dst undef) W := by
  have hnb : ∀ k, okp k → k < W.heap.size → (ok k ∧ some k ≠ (Value.slice (some ⟨W.heap.size, 0, none⟩) xs.length xs.length).ownBlock) := fun k hk hlt => ⟨hok k hk, fun he => by
    have h3 : k = W.heap.size := by simpa [Value.ownBlock] using he
    omega⟩
  refine event_step hw hrun (h _ _ ⟨fun k hk => ?_, inner, ?_, ?_⟩ (HB.alloc hbase _) (World.grownBy_alloc W _ none) ⟨W.heap.size, by simp [Value.ownBlock], Nat.le_refl _⟩ rfl)
  · have : W.heap.size = k := by simpa [Value.ownBlock] using hk
    subst this
    exact hfresh
  · have h2 := World.ownsRow_lit (base := base) (e := e) (size := d.sz) W inner.toArray xs.length hbase (by simpa [maxLen] using hm) (by simpa using hrep.1)
    simpa using h2
  · exact hrep.imp_ (fun p c hp => d.M_mono (fun k hk => hnb k hk.1 hk.2.2.1) (Kd.M_below (d.M_bound hp) (below_alloc (Below.refl _ _) _)))
end


end Go.Proofs.Ytcbfopepfhfaoaa.Print
