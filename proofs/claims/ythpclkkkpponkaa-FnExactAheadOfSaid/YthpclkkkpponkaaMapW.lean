/- A set in a map. -/
import Derived.Test.YthpclkkkpponkaaCutMore
import Derived.Test.YthpclkkkpponkaaCutLast
import Derived.Test.YthpclkkkpponkaaCutKept
import Derived.Test.YthpclkkkpponkaaCutTab
import Derived.Test.YthpclkkkpponkaaProg
import Derived.Maps.Own
import Derived.Maps.Views
import Derived.KernelRfl
namespace Go.Proofs.Ythpclkkkpponkaa.Print
open Go.RowKit Go.Proofs.YthpclkkkpponkaaW.PrintWords Go.Proofs.YthpclkkkpponkaaW.PrintLast Go.Proofs.YthpclkkkpponkaaW.PrintMore
set_option linter.unusedVariables false
set_option linter.unusedSimpArgs false

/-! A set of numbers: a map[int64]bool that the call made (AheadOf's 'met'). -/
def ok64 (a : Int) : Prop := (Lit.int .i64 a).wf = true
instance (a : Int) : Decidable (ok64 a) := inferInstanceAs (Decidable (_ = true))
def Met (w : World) (b n : Nat) (S : List Int) : Prop :=
  ∃ D : DataW Unit, w.ownsMap Try.prog 2 (plainElem Try.prog 4) b n D ∧ Maps.IsMap D ∧ ∀ a : Int, ok64 a → D.atKey (.int .i64 a) (.lit (.bool false)) = .lit (.bool (decide (a ∈ S)))
theorem met_made (w : World) : Met (w.alloc (.map #[] 0)) w.heap.size 0 [] :=
  ⟨.map [], World.ownsMap_made w _ _ _, Maps.isMap_empty, fun a _ => by rw [decide_eq_false (by simp)]; rfl⟩
theorem met_block {w w' : World} {b n : Nat} {S : List Int} (h : Met w b n S) (hb : w'.heap[b]? = w.heap[b]?) : Met w' b n S := by
  obtain ⟨D, ⟨es, clock, h1, h2⟩, h3⟩ := h
  exact ⟨D, ⟨es, clock, hb.trans h1, h2⟩, h3⟩
theorem met_lt {w : World} {b n : Nat} {S : List Int} (h : Met w b n S) : b < w.heap.size := by
  obtain ⟨D, h1, _⟩ := h
  exact h1.lt
theorem met_below {w w' : World} {b n : Nat} {S : List Int} (h : Met w b n S) (hb : Below w.heap.size w w') : Met w' b n S := met_block h (hb.block b (met_lt h))
theorem met_grown {w w' : World} {b n : Nat} {S : List Int} {row : Option Nat} (h : Met w b n S) (hg : w.grownBy w' row) (hne : some b ≠ row) : Met w' b n S := met_block h (hg.block b (met_lt h) hne)
theorem met_far {w : World} {b n : Nat} {S : List Int} (h : Met w b n S) {p : Addr} (hp : b ≠ p.block) (u : Value) : Met (w.setCell p u) b n S := met_block h (Below.heap_setCell w p u b hp)
theorem met_zero (w : World) : (zeroValue 4).run Try.prog w = .ok (.bool false) w := by kernel_rfl
theorem met_elem {v : Value} {c : Bool} {ps : List MemPlace} (h : plainElem (H := Unit) Try.prog 4 v = some (.lit (.bool c), ps)) : v = .bool c := by
  unfold plainElem at h
  rw [Try.underlying4] at h
  cases v <;> simp at h
  rw [h.1]
theorem met_lookup {w : World} {b n : Nat} {S : List Int} (h : Met w b n S) (a : Int) (ha : ok64 a) : (Instr.lookup 61 (.map (some b)) (.int .i64 a) false).run Try.prog w = .ok (.bool (decide (a ∈ S))) w := by
  obtain ⟨D, h1, h2, h3⟩ := h
  obtain ⟨v, ps, hrun, hv⟩ := h1.lookup (Maps.int_keyed Try.underlying2) Try.underlying61 (met_zero w) (plainElem_bool Try.underlying4 false) (Maps.keyOf_int_mk Try.underlying2 ha)
  rw [h3 a ha] at hv
  rw [hrun, met_elem hv]
theorem met_put {D : DataW Unit} {S : List Int} (h2 : Maps.IsMap D) (h3 : ∀ a : Int, ok64 a → D.atKey (.int .i64 a) (.lit (.bool false)) = .lit (.bool (decide (a ∈ S)))) (a : Int) :
    ∀ c : Int, ok64 c → (D.put (.int .i64 a) (.lit (.bool true))).atKey (.int .i64 c) (.lit (.bool false)) = .lit (.bool (decide (c ∈ a :: S))) := by
  intro c hc
  by_cases e : c = a
  · subst e
    rw [Maps.atKey_put_same h2 (show WideAt.IsKeyLit (Lit.int .i64 c) from trivial), decide_eq_true (List.mem_cons_self)]
  · rw [Maps.atKey_put_other (fun q => e (by injection q)), h3 c hc]
    congr 2
    rw [decide_eq_decide, List.mem_cons]
    exact ⟨fun h => .inr h, fun h => h.resolve_left e⟩
theorem met_update {w : World} {ops : Array Oper} {rest : List Oper} {o : Oper} {a : Act} {Q : Exit → Act → World → Prop} (hg : o.guard = none) (m x v : Operand) (hop : o.op = Op.mapUpdate 61 m x v)
    {b n : Nat} {S : List Int} (hm : a.eval m = .map (some b)) (h : Met w b n S) (hn : n < maxLen) (id : Int) (hid : ok64 id) (hx : a.eval x = .int .i64 id) (hv : a.eval v = .bool true)
    (hK : ∀ w', Met w' b (n + 1) (id :: S) → w.grownBy w' (some b) → wpList Try.prog ops Q rest (a.put o.dst undef) w') : wpList Try.prog ops Q (o :: rest) a w := by
  obtain ⟨D, h1, h2, h3⟩ := h
  refine wpList_mapUpdate_own w hg m x v 61 hop 2 4 (Maps.int_keyed Try.underlying2) Try.underlying61 (plainElem Try.prog 4) b n D hm h1 hn (.int .i64 id) (.bool true) (.int .i64 id) hx hv (Maps.keyOf_int_mk Try.underlying2 hid) (.lit (.bool true)) [] (plainElem_bool Try.underlying4 true) ?_
  intro w' k1 k2
  exact hK w' ⟨_, k1, h2.put _ _, met_put h2 h3 id⟩ k2
/-- 'make(map[int64]bool)', a look-up: at the operation, for the walk. -/
theorem map_event {W : World} {ops : Array Oper} {rest : List Oper} {o : Oper} {a : Act} {Q : Exit → Act → World → Prop} (hg : o.guard = none) (hop : o.op = Op.makeMap 61 none)
    (hK : ∀ gm w', gm = W.heap.size → Met w' gm 0 [] → Below W.heap.size W w' → wpList Try.prog ops Q rest (a.put o.dst (.map (some gm))) w') : wpList Try.prog ops Q (o :: rest) a W := by
  refine wpList_plain hg fun K' hK' => ?_
  have hrun : (Instr.makeMap 61 none).run Try.prog W = .ok (.map (some W.heap.size)) (W.alloc (.map #[] 0)) := run_makeMap _ _
  unfold Oper.wp
  simp [execOp, hop, hrun, Result.andThen]
  exact hK' _ _ (hK _ _ rfl (met_made W) (below_alloc (Below.refl _ _) _))
theorem look_event {W : World} {ops : Array Oper} {rest : List Oper} {o : Oper} {a : Act} {Q : Exit → Act → World → Prop} (hg : o.guard = none) {m x : Operand} (hop : o.op = Op.lookup 61 m x false)
    {b n : Nat} {S : List Int} {id : Int} (hm : a.eval m = .map (some b)) (hx : a.eval x = .int .i64 id) (h : Met W b n S) (hid : ok64 id)
    (hK : wpList Try.prog ops Q rest (a.put o.dst (.bool (decide (id ∈ S)))) W) : wpList Try.prog ops Q (o :: rest) a W := by
  refine wpList_plain hg fun K' hK' => ?_
  have hrun := met_lookup h id hid
  unfold Oper.wp
  simp [execOp, hop, hm, hx, hrun, Result.andThen]
  exact hK' _ _ hK
theorem s9_ {w : World} {g : Nat} {t : TypeId} {c0 c1 c2 c3 c4 c5 c6 c7 c8 v0 v1 v2 v3 v4 v5 v6 v7 v8 : Value} (h : w.heap[g]? = some (.cells #[c0, c1, c2, c3, c4, c5, c6, c7, c8] t (0, 0))) :
    (((((((((w.setCell ⟨g, 0, none⟩ v0).setCell ⟨g, 1, none⟩ v1).setCell ⟨g, 2, none⟩ v2).setCell ⟨g, 3, none⟩ v3).setCell ⟨g, 4, none⟩ v4).setCell ⟨g, 5, none⟩ v5).setCell ⟨g, 6, none⟩ v6).setCell ⟨g, 7, none⟩ v7).setCell ⟨g, 8, none⟩ v8).heap[g]? = some (.cells #[v0, v1, v2, v3, v4, v5, v6, v7, v8] t (0, 0)) := by
  have h0 := h
  have h1 := blk_put (cs' := #[v0, c1, c2, c3, c4, c5, c6, c7, c8]) h0 0 v0 rfl
  have h2 := blk_put (cs' := #[v0, v1, c2, c3, c4, c5, c6, c7, c8]) h1 1 v1 rfl
  have h3 := blk_put (cs' := #[v0, v1, v2, c3, c4, c5, c6, c7, c8]) h2 2 v2 rfl
  have h4 := blk_put (cs' := #[v0, v1, v2, v3, c4, c5, c6, c7, c8]) h3 3 v3 rfl
  have h5 := blk_put (cs' := #[v0, v1, v2, v3, v4, c5, c6, c7, c8]) h4 4 v4 rfl
  have h6 := blk_put (cs' := #[v0, v1, v2, v3, v4, v5, c6, c7, c8]) h5 5 v5 rfl
  have h7 := blk_put (cs' := #[v0, v1, v2, v3, v4, v5, v6, c7, c8]) h6 6 v6 rfl
  have h8 := blk_put (cs' := #[v0, v1, v2, v3, v4, v5, v6, v7, c8]) h7 7 v7 rfl
  have h9 := blk_put (cs' := #[v0, v1, v2, v3, v4, v5, v6, v7, v8]) h8 8 v8 rfl
  exact h9


end Go.Proofs.Ythpclkkkpponkaa.Print
