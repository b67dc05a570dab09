-- Printed by wip/myprint.py over the kit's print, in this session's own call.
import Derived.Test.YtepbkhgffjinjaaPrint9
namespace Go.Proofs.Ytepbkhgffjinjaa.Print
open Go.RowKit Go.Proofs.YtepbkhgffjinjaaW.PrintWords Go.Proofs.YtepbkhgffjinjaaW.PrintLast Go.Proofs.YtepbkhgffjinjaaW.PrintMore
attribute [local go_sem] max2_int min2_int max_two min_two max_three min_three max_four min_four   -- for this text's walks alone
set_option maxHeartbeats 8000000
set_option maxRecDepth 100000
set_option linter.unusedVariables false
set_option linter.unusedSimpArgs false

/-! ### spec_l01Fold: function 73 -/
def spec_l01Fold.f (a0 : Int) : Option (Int) := if a0 < 0 then (some (IntKind.u64.wrap ((IntKind.u64.wrap (2 * (IntKind.u64.wrap (wrap64 (-(wrap64 (a0 + 1))))))) + 1))) else (some (IntKind.u64.wrap (2 * (IntKind.u64.wrap (a0)))))
theorem spec_l01Fold.calls (a0 : Int) (r : Int) (w : World) (h : spec_l01Fold.f a0 = some r) :
    Calls Try.prog 73 #[.int .i64 a0] w fun e w' => e = .returned (.int .u64 r) ∧ Drawn0 w w' := by
 have H : (if a0 < 0 then (some (IntKind.u64.wrap ((IntKind.u64.wrap (2 * (IntKind.u64.wrap (wrap64 (-(wrap64 (a0 + 1))))))) + 1))) else (some (IntKind.u64.wrap (2 * (IntKind.u64.wrap (a0)))))) = some r := h; clear h; by_cases c2 : a0 < 0
 ·
  rw [if_pos c2] at H; have c2b0 : decide (a0 < 0) = true := decide_eq_true c2; clear c2; obtain rfl := Option.some.inj H; go_enter Try.func73, Try.ntmps73; go_wp2
  go_ret
  exact ⟨by first | rfl | (simp; done) | (simp [*]; done), by repeat (first | exact Drawn0.refl _ | apply Drawn0.step)⟩
 ·
  rw [if_neg c2] at H; have c2b0 : decide (a0 < 0) = false := decide_eq_false c2; clear c2; obtain rfl := Option.some.inj H; go_enter Try.func73, Try.ntmps73; go_wp2
  go_ret
  exact ⟨by first | rfl | (simp; done) | (simp [*]; done), by repeat (first | exact Drawn0.refl _ | apply Drawn0.step)⟩

/-! ### spec_PutNum: function 57 -/
def spec_PutNum.l0 : Nat → Int → List Int → Option (ByteArray)
  | 0, _, _ => none
  | k + 1, x3, x4 => if x3 ≥ 128 then (if x4.length < 140737488355328 then (spec_PutNum.l0 k (IntKind.u64.wrap (Int.tdiv x3 128)) (x4 ++ [(IntKind.u64.wrap ((Int.tmod x3 128) + 128)) % 256])) else (none)) else (if x4.length < 140737488355328 then (some (strOfNums (x4 ++ [(x3) % 256]))) else (none))
def spec_PutNum.f (k : Nat) (a0 : Int) : Option (ByteArray) := (spec_l01Fold.f a0).bind fun t344 => (spec_PutNum.l0 k t344 (([] : List Int)))
theorem spec_PutNum.mono_l : ∀ k, (∀ y0 y1, LeO (spec_PutNum.l0 k y0 y1) (spec_PutNum.l0 (k + 1) y0 y1))
  | 0 => fun _ _ r h => by simp [spec_PutNum.l0] at h
  | k + 1 => by
    have ih0 := spec_PutNum.mono_l k
    · intro y0 y1
      unfold spec_PutNum.l0
      repeat' first | (with_reducible exact ih0 _ _) | (with_reducible exact LeO.refl _) | (with_reducible exact LeO.none _) | (with_reducible refine LeO.ite ?_ ?_) | (with_reducible refine LeO.bind ?_ (fun _ => ?_)) | exact ih0 _ _ | exact LeO.none _ | refine LeO.ite ?_ ?_ | refine LeO.bind ?_ (fun _ => ?_)
theorem spec_PutNum.mono : ∀ a0 k, LeO (spec_PutNum.f k a0) (spec_PutNum.f (k + 1) a0) := by
  intro a0 k
  have ih0 := spec_PutNum.mono_l k
  unfold spec_PutNum.f
  repeat' first | (with_reducible exact ih0 _ _) | (with_reducible exact LeO.refl _) | (with_reducible exact LeO.none _) | (with_reducible refine LeO.ite ?_ ?_) | (with_reducible refine LeO.bind ?_ (fun _ => ?_)) | exact ih0 _ _ | exact LeO.none _ | refine LeO.ite ?_ ?_ | refine LeO.bind ?_ (fun _ => ?_)
theorem spec_PutNum.calls (k : Nat) (a0 : Int) (r : ByteArray) (w : World) (h : spec_PutNum.f k a0 = some r) :
    Calls Try.prog 57 #[.int .i64 a0] w fun e w' => e = .returned (.string r) ∧ Below w.heap.size w w' := by
 have HB := Aside0.mk (Below.refl w.heap.size w); have H : ((spec_l01Fold.f a0).bind fun t344 => (spec_PutNum.l0 k t344 (([] : List Int)))) = some r := h; clear h; replace H := Option.bind_eq_some_iff.mp H; obtain ⟨t344, A20, H⟩ := H; have A2 := Aside0.mk A20; clear A20; obtain ⟨y345, hy345⟩ : ∃ y_ : List Int, y_ = (([] : List Int)) := ⟨_, rfl⟩; replace H : (spec_PutNum.l0 k t344 y345) = some r := by first | (rw [hy345]; exact H) | exact H
 have Ny345 := Aside0.mk hy345; clear hy345; have H' := Aside0.mk H; clear H; go_enter Try.func57, Try.ntmps57; go_wp2_with (first | ((with_reducible refine gate_callee (f := 73) rfl ?_); refine gl_ (some 6) Try.func73 #[.int .i64 a0] ?_; (with_reducible refine (spec_l01Fold.calls a0 t344 _ A2.out).mono ?_); rintro e w' ⟨rfl, ⟨nd, rfl⟩⟩; refine ⟨_, rfl, ?_⟩) | ((with_reducible refine gate_dst (N := 7) rfl ?_); refine Kd.R_lit (Kd.int .u8) _ 5 ?hg (N := 7) ?hd (xs := ([] : List Int)) (inner := []) (ok := fun _ => True) (okp := fun _ => True) ?hr ?hp (fun _ hk => hk) trivial (Below.refl _ _) (Nat.le_refl _) (by simp) ?_; (case hd => rfl); (case hg => rfl); (case hr => first | (go_simp; done) | (go_simp; rfl)); (case hp => exact (Reps.none _ _)); intro v346 w3 ho4 hb hg_ hnew_; clear hg_ hnew_; (first | rw [← Ny345.out] at ho4 | (simp only [Int.reduceToNat] at ho4; rw [← Ny345.out] at ho4)); have HO347 := Aside0.mk (Kd.R_lower ho4 (below_size (a1_ HB.out))); replace HB := Aside0.mk (below_step (a1_ HB.out) hb); clear hb ho4))
 go_loopg [3, 4] k (fun kq v3 v4 w' => ∃ (x3_1 : Int) (x4_1 : List Int), v3 = .int .u64 x3_1 ∧ Aside0 (spec_PutNum.l0 kq x3_1 x4_1 = some r) ∧ Aside0 (kq ≤ k) ∧ Aside0 (Kd.R (Kd.int .u8) 5 w' w.heap.size (fun _ => True) v4 x4_1) ∧ Aside0 (Below w.heap.size w w'))
 case atStart => exact ⟨(t344), (y345), (by first | rfl | (simp; done) | (simp [*]; done)), H', ⟨Nat.le_refl _⟩, ⟨(a2_ HO347.out)⟩, ⟨(a1_ HB.out)⟩⟩
 case round =>
  clear H'; (try clear p2); obtain ⟨x3_1, x4_1, rfl, HA, HK1, HO_4, HB⟩ := hrel
  cases gk with
  | zero => exact absurd HA.out (by simp [spec_PutNum.l0])
  | succ k1 =>
   have H := HA.out; clear HA; simp only [spec_PutNum.l0] at H; by_cases c5 : x3_1 ≥ 128
   ·
    rw [if_pos c5] at H; have c5b0 : decide (128 ≤ x3_1) = true := decide_eq_true c5; clear c5; by_cases c6 : x4_1.length < 140737488355328
    ·
     rw [if_pos c6] at H; have LMc6 := Aside0.mk c6; clear c6; obtain ⟨y348, hy348⟩ : ∃ y_ : List Int, y_ = (x4_1 ++ [(IntKind.u64.wrap ((Int.tmod x3_1 128) + 128)) % 256]) := ⟨_, rfl⟩; replace H : (spec_PutNum.l0 k1 (IntKind.u64.wrap (Int.tdiv x3_1 128)) y348) = some r := by first | (rw [hy348]; exact H) | exact H
     have Ny348 := Aside0.mk hy348; clear hy348; have H' := Aside0.mk H; clear H; go_wp2_with (first | ((with_reducible refine gate_builtin (b := .append) (xs := #[.tmp 10, .tmp 15]) rfl ?_); at_builtin; refine Kd.R_append (Kd.int .u8) (w0 := w) w.heap.size rfl (.tmp 10) (.tmp 15) 22 5 (.int .u8 0) 1 rfl Try.underlying22 info5 rfl (by decide) (by omega) u4 x4_1 ((IntKind.u64.wrap ((Int.tmod x3_1 128) + 128)) % 256) [.int .u8 ((IntKind.u64.wrap ((Int.tmod x3_1 128) + 128)) % 256)] (fun _ => True) (fun _ => False) rfl rfl ?aP (fun _ hk => hk.elim) ?aF ?aO ?aB ?aS ?aL ?_; (case aP => exact rfl); (case aB => exact (a1_ HB.out)); (case aF => exact (fun _ _ => trivial)); (case aO => exact (a2_ HO_4.out)); (case aS => exact (below_size (a1_ HB.out))); (case aL => have := LMc6.out; omega); intro v349 w7 ho hb hg hat; rw [← Ny348.out] at ho; have n0_ := Aside0.mk (hb); have n1_ := Aside0.mk (ho); clear HB; clear HO_4; have HB := n0_; have HO350 := n1_; clear n0_ n1_; clear ho hb hg hat))
     go_roundg k1
     case measure => have := HK1.out; omega
     case rel => exact ⟨(IntKind.u64.wrap (Int.tdiv x3_1 128)), (y348), (by first | rfl | (simp; done) | (simp [*]; done)), H', ⟨by have := HK1.out; omega⟩, ⟨(a2_ HO350.out)⟩, ⟨(a1_ HB.out)⟩⟩
    ·
     rw [if_neg c6] at H; exact absurd H (by simp)
   ·
    rw [if_neg c5] at H; have c5b0 : decide (128 ≤ x3_1) = false := decide_eq_false c5; clear c5; by_cases c8 : x4_1.length < 140737488355328
    ·
     rw [if_pos c8] at H; have LMc8 := Aside0.mk c8; clear c8; obtain ⟨y351, hy351⟩ : ∃ y_ : List Int, y_ = (x4_1 ++ [(x3_1) % 256]) := ⟨_, rfl⟩; replace H : (some (strOfNums y351)) = some r := by first | (rw [hy351]; exact H) | exact H
     have Ny351 := Aside0.mk hy351; clear hy351; obtain rfl := Option.some.inj H; go_wp2_with (first | ((with_reducible refine gate_builtin (b := .append) (xs := #[.tmp 19, .tmp 22]) rfl ?_); at_builtin; refine Kd.R_append (Kd.int .u8) (w0 := w) w.heap.size rfl (.tmp 19) (.tmp 22) 22 5 (.int .u8 0) 1 rfl Try.underlying22 info5 rfl (by decide) (by omega) u4 x4_1 ((x3_1) % 256) [.int .u8 ((x3_1) % 256)] (fun _ => True) (fun _ => False) rfl rfl ?aP (fun _ hk => hk.elim) ?aF ?aO ?aB ?aS ?aL ?_; (case aP => exact rfl); (case aB => exact (a1_ HB.out)); (case aF => exact (fun _ _ => trivial)); (case aO => exact (a2_ HO_4.out)); (case aS => exact (below_size (a1_ HB.out))); (case aL => have := LMc8.out; omega); intro v352 w9 ho hb hg hat; rw [← Ny351.out] at ho; have n0_ := Aside0.mk (hb); have n1_ := Aside0.mk (ho); clear HB; clear HO_4; have HB := n0_; have HO353 := n1_; clear n0_ n1_; clear ho hb hg hat; have hcv10 := own_string (P := Try.prog) Try.underlying22 Try.underlying5 Try.underlying9 (Kd.own_of_R HO353.out)))
     go_ret
     exact ⟨a3_, (a1_ HB.out)⟩
    ·
     rw [if_neg c8] at H; exact absurd H (by simp)

/-! ### spec_SpansBytes: function 21 -/
/-- A row of bytes made by a conversion: behind its room it may bear a mark. -/
def spec_SpansBytes.Own (w : World) (base : Nat) (e : TypeId) (v : Value) (s : ByteArray) : Prop :=
  ∃ g cap cur fz, v = .slice (some ⟨g, 0, none⟩) s.size cap ∧ base ≤ g ∧ w.heap[g]? = some (.cells cur e fz) ∧ (fz.2 = 0 ∨ cap ≤ fz.1) ∧ s.size ≤ cap ∧ cap ≤ maxLen ∧ cur.size = cap ∧ cur.toList.take s.size = Lib.strCells s
theorem spec_SpansBytes.own_new (w : World) (base : Nat) (e : TypeId) (s : ByteArray) (hb : base ≤ w.heap.size) (hs : s.size ≤ maxLen) : spec_SpansBytes.Own (Lib.bytesWorld w e s) base e (.slice (some ⟨w.heap.size, 0, none⟩) s.size (grownCap w s.size 0 e)) s := by
  have hge := grownCap_ge w s.size 0 e
  have hz : (Lib.bytesCells w e s).size = grownCap w s.size 0 e := by
    unfold Lib.bytesCells
    rw [Array.size_append, Array.size_map, Array.size_replicate, ByteArray.size_data]; omega
  refine ⟨w.heap.size, _, _, _, rfl, hb, Lib.bytesWorld_at_new w e s, Or.inr (by show _ ≤ (Lib.bytesCells w e s).size; omega), hge, grownCap_le_maxLen w _ _ _ hs, hz, ?_⟩
  unfold Lib.bytesCells Lib.strCells
  rw [Array.toList_append, Array.toList_map, List.take_append_of_le_length (by rw [List.length_map, data_length]; omega), List.take_of_length_le (by rw [List.length_map, data_length]; omega)]
theorem spec_SpansBytes.own_below {w w' : World} {base : Nat} {e : TypeId} {v : Value} {s : ByteArray} (h : spec_SpansBytes.Own w base e v s) (hb : Below w.heap.size w w') : spec_SpansBytes.Own w' base e v s := by
  obtain ⟨g, cap, cur, fz, hv, hg, hh, rest⟩ := h
  exact ⟨g, cap, cur, fz, hv, hg, (hb.block g (Array.getElem?_eq_some_iff.1 hh).1).trans hh, rest⟩
theorem spec_SpansBytes.own_drew {w : World} {base : Nat} {e : TypeId} {v : Value} {s : ByteArray} (h : spec_SpansBytes.Own w base e v s) : spec_SpansBytes.Own w.drew base e v s := h
theorem spec_SpansBytes.own_reads {w : World} {base : Nat} {e : TypeId} {v : Value} {s : ByteArray} (h : spec_SpansBytes.Own w base e v s) : ∃ g cap, v = .slice (some ⟨g, 0, none⟩) s.size cap ∧ ReadsInt w .u8 (some ⟨g, 0, none⟩) s.size (bytesOf s) := by
  obtain ⟨g, cap, cur, fz, hv, hg, hh, _, hc, hm, hz, ht⟩ := h
  refine ⟨g, cap, hv, bytesOf_length s, by simp only [maxLen] at hm; omega, fun _ => ⟨_, rfl, fun j hj => ?_⟩⟩
  rw [add_plain]
  have h1 : w.cell? ⟨g, j, none⟩ = cur[j]? := by simp [World.cell?, hh]
  rw [h1]
  have h2 : cur[j]? = (cur.toList.take s.size)[j]? := by rw [List.getElem?_take_of_lt hj]; simp
  rw [h2, ht]
  have h' : j < s.data.toList.length := by rw [data_length]; exact hj
  simp [Lib.strCells, bytesOf, List.getD_eq_getElem?_getD, List.getElem?_eq_getElem h']
theorem spec_SpansBytes.storeCells (P : Program) (g o : Nat) (t : TypeId) (fz : Nat × Nat) : ∀ (vs : List Value) (i : Nat) (cur : Array Value) (w : World), w.heap[g]? = some (.cells cur t fz) → (fz.2 = 0 ∨ cur.size ≤ fz.1) → o + i + vs.length ≤ cur.size → (∀ v ∈ vs, v.oneCell' = true) →
    (Go.storeCells ⟨g, o, none⟩ vs i).run P w = .ok () (w.setRow g (cur.toList.take (o + i) ++ vs ++ cur.toList.drop (o + i + vs.length)).toArray)
  | [], i, cur, w, hg, _, _, _ => by
    simp only [Go.storeCells, List.append_nil, List.length_nil, Nat.add_zero, List.take_append_drop, Array.toArray_toList]
    rw [setRow_self w g cur t fz hg]
    rfl
  | v :: rest, i, cur, w, hg, hfz, hl, h1 => by
    have hi : o + i < cur.size := by simp at hl; omega
    have hadd : (⟨g, o, none⟩ : Addr).add i = ⟨g, o + i, none⟩ := by unfold Addr.add; split <;> simp_all
    have hcell : w.cell? ⟨g, o + i, none⟩ = some cur[o + i] := by simp [World.cell?, hg, hi]
    have hfro : w.frozen? ⟨g, o + i, none⟩ = false := by
      obtain ⟨lo, hi'⟩ := fz
      simp only [World.frozen?, hg, Bool.and_eq_false_iff, decide_eq_false_iff_not]
      simp only at hfz
      rcases hfz with h | h
      · right; omega
      · left; omega
    have hst : (store ((⟨g, o, none⟩ : Addr).add i) v).run P w = .ok () (w.setRow g (cur.setIfInBounds (o + i) v)) := by
      rw [hadd, run_store P w _ v _ (h1 v (by simp)), hcell]
      simp [hfro, setCell_eq_setRow w g (o + i) cur t fz v hg]
    have ih := spec_SpansBytes.storeCells P g o t fz rest (i + 1) (cur.setIfInBounds (o + i) v) (w.setRow g (cur.setIfInBounds (o + i) v)) (setRow_heap w g cur _ t _ hg) (by simpa using hfz) (by simp at hl ⊢; omega) (fun x hx => h1 x (by simp [hx]))
    simp only [Go.storeCells, Sem.run_bind, hst, Result.andThen_ok, ih, setRow_setRow]
    congr 3
    have e := list_seg_step cur.toList (o + i) v rest (by simp at hl ⊢; omega)
    simpa [Array.toList_setIfInBounds, Nat.add_assoc] using e
theorem spec_SpansBytes.strCells_append (a b : ByteArray) : Lib.strCells (a ++ b) = Lib.strCells a ++ Lib.strCells b := by simp [Lib.strCells]
theorem spec_SpansBytes.run_append {P : Program} (w : World) (base : Nat) (t u ty e : TypeId) (i : TypeInfo) (ht : P.underlying t = some (.slice e)) (hu : P.underlying u = some .string) (hi : P.info? e = some i) (hz : i.zero = some (.int .u8 0)) (hsize : i.size = 1) (hby : i.bytes = 1)
    (v : Value) (x s : ByteArray) (hown : spec_SpansBytes.Own w base e v x) (h63 : x.size + s.size ≤ maxLen) (hbytes : x.size + s.size ≤ 140737488355328) (hbase : base ≤ w.heap.size) :
    ∃ v' w', (Builtin.append_ #[t, u] ty #[v, .string s]).run P w = .ok v' w' ∧ spec_SpansBytes.Own w' base e v' (x ++ s) ∧ w.grownBy w' v.ownBlock := by
  obtain ⟨g, cap, cur, fz, rfl, hbg, hg, hfz, hnc, hcm, hcs, htake⟩ := hown
  have hsmall : x.size + s.size ≤ 9223372036854775807 := by simp only [maxLen] at h63; omega
  have hxl : (Lib.strCells x).length = x.size := Lib.strCells_length x
  have hlen : (Lib.strCells x ++ Lib.strCells s).length = x.size + s.size := by rw [List.length_append, hxl, Lib.strCells_length]
  by_cases hroom : x.size + s.size ≤ cap
  · have hf := Lib.run_firstCells_string (P := P) w 1 s
    have hst := spec_SpansBytes.storeCells P g x.size e fz (Lib.strCells s) 0 cur w hg (by rw [hcs]; exact hfz) (by rw [Lib.strCells_length]; omega) (Lib.strCells_oneCell s)
    simp only [Nat.add_zero, Lib.strCells_length] at hst
    have hr : (Builtin.append_ #[t, u] ty #[.slice (some ⟨g, 0, none⟩) x.size cap, .string s]).run P w = .ok (.slice (some ⟨g, 0, none⟩) (x.size + s.size) cap) (w.setRow g (cur.toList.take x.size ++ Lib.strCells s ++ cur.toList.drop (x.size + s.size)).toArray) := by
      simp [Builtin.append_, run_underlying ht, run_underlying hu, sizeOf, typeInfo, hi, hsize, Builtin.lenOf, hroom, hf, Addr.add_lit, hst]
    refine ⟨_, _, hr, ⟨g, cap, _, fz, by rw [ByteArray.size_append], hbg, setRow_heap w g cur _ e _ hg, hfz, by rw [ByteArray.size_append]; exact hroom, hcm, ?_, ?_⟩, ⟨rfl, rfl, rfl, by simp, fun k _ hk => setRow_other w g k _ (fun e => hk (by simp [Value.ownBlock, e]))⟩⟩
    · simp only [List.size_toArray, List.length_append, List.length_take, List.length_drop, Array.length_toList, Lib.strCells_length]
      omega
    · rw [ByteArray.size_append, htake, spec_SpansBytes.strCells_append, ← hlen]
      exact List.take_left
  · have holds : ∀ j u, (Lib.strCells x)[j]? = some u → w.cell? ((⟨g, 0, none⟩ : Addr).add j) = some u := by
      intro j u hj
      rw [add_plain]
      have h1 : w.cell? ⟨g, j, none⟩ = cur[j]? := by simp [World.cell?, hg]
      have hjl : j < x.size := by
        rw [← hxl]
        rcases Nat.lt_or_ge j (Lib.strCells x).length with h | h
        · exact h
        · rw [List.getElem?_eq_none h] at hj; cases hj
      have h2 : cur[j]? = (cur.toList.take x.size)[j]? := by rw [List.getElem?_take_of_lt hjl]; simp
      rw [h1, h2, htake]; exact hj
    have hr := Lib.run_append_grow_string (P := P) w t u ty e i (.int .u8 0) ht hu hi hz ⟨g, 0, none⟩ x.size cap (Lib.strCells x) (by rw [hsize, hxl, Nat.mul_one]) holds s (by omega) (by omega) (by rw [hby]; exact growslice_fits (by omega) (by omega))
    have hge := grownCap_ge w (x.size + s.size) cap e
    have hcm2 : grownCap w (x.size + s.size) cap e ≤ maxLen := grownCap_le_maxLen w (x.size + s.size) cap e h63
    refine ⟨_, _, hr, ⟨w.heap.size, _, _, (0, 0), by rw [ByteArray.size_append], hbase, heap_alloc_new w.drew _, Or.inl rfl, by rw [ByteArray.size_append]; exact hge, hcm2, ?_, ?_⟩, ⟨rfl, rfl, rfl, by simp, fun k hk _ => by first | exact heap_alloc_old w.drew _ hk | exact heap_alloc_old w.drew _ k hk⟩⟩
    · have hz1 : (Value.int IntKind.u8 0).cells.size = 1 := rfl
      simp only [Array.size_append, List.size_toArray, size_zeroCells, hz1, hxl, Lib.strCells_length]
      omega
    · rw [ByteArray.size_append, spec_SpansBytes.strCells_append]
      simp only [Array.toList_append, List.append_assoc]
      rw [← List.append_assoc, ← hlen]
      exact List.take_left
theorem spec_SpansBytes.wp_append {P : Program} {ops : Array Oper} {rest : List Oper} {o : Oper} {a : Act} {Q : Exit → Act → World → Prop} {w0 w : World} (base : Nat) (hgd : o.guard = none) (sl y : Operand) (t u e : TypeId)
    (ho : o.op = .call { callee := .builtin .append, args := #[sl, y], argTypes := #[t, u] }) (ht : P.underlying t = some (.slice e)) (hu : P.underlying u = some .string) (hinfo : (P.info? e).map (fun i => (i.zero, i.size, i.bytes)) = some (some (.int .u8 0), 1, 1))
    (v : Value) (x s : ByteArray) (hs : a.eval sl = v) (hx : a.eval y = .string s) (hown : spec_SpansBytes.Own w base e v x) (HB : Below base w0 w) (hbase : base ≤ w.heap.size) (hl : x.size + s.size ≤ 140737488355328)
    (h : ∀ v' w', spec_SpansBytes.Own w' base e v' (x ++ s) → Below base w0 w' → wpList P ops Q rest (a.put o.dst v') w') : wpList P ops Q (o :: rest) a w := by
  refine wpList_plain hgd fun K hK => ?_
  obtain ⟨i0, hi, hzz⟩ := Option.map_eq_some_iff.1 hinfo
  simp only [Prod.mk.injEq] at hzz
  obtain ⟨hz0, hz1, hz2⟩ := hzz
  obtain ⟨v', w', hr, h2, h3⟩ := spec_SpansBytes.run_append (P := P) w base t u o.type e i0 ht hu hi hz0 hz1 hz2 v x s hown (by simp only [maxLen]; omega) hl hbase
  unfold Oper.wp execOp
  simp only [ho, resolve, invoke, builtin, Sem.run_bind, Sem.run_pure, Result.andThen_ok, List.map_toArray, List.map_cons, List.map_nil, hs, hx, hr]
  refine hK _ _ (h v' w' h2 (HB.grown h3 hbase ?_))
  obtain ⟨g, cap, cur, fz, rfl, hbg, _⟩ := hown
  intro k hk
  simp [Value.ownBlock] at hk
  omega
open Go.Region in
theorem spec_SpansBytes.append_step {P : Program} {ops : Array Oper} {o : Oper} {a : Act} {Q : Exit → Act → World → Prop} {Kc : Act → World → Prop} {w0 w : World} (base : Nat) (hw : Region.wanted o (yielded ops a.tmps) = true) (sl y : Operand) (t u e : TypeId)
    (ho : o.op = .call { callee := .builtin .append, args := #[sl, y], argTypes := #[t, u] }) (ht : P.underlying t = some (.slice e)) (hu : P.underlying u = some .string) (hinfo : (P.info? e).map (fun i => (i.zero, i.size, i.bytes)) = some (some (.int .u8 0), 1, 1))
    (v : Value) (x s : ByteArray) (hs : a.eval sl = v) (hx : a.eval y = .string s) (hown : spec_SpansBytes.Own w base e v x) (HB : Below base w0 w) (hbase : base ≤ w.heap.size) (hl : x.size + s.size ≤ 140737488355328)
    (h : ∀ v' w', spec_SpansBytes.Own w' base e v' (x ++ s) → Below base w0 w' → Kc (a.put o.dst v') w') :
    if Region.wanted o (yielded ops a.tmps) = true then Oper.wp P o a w Kc Q else Kc (a.put o.dst undef) w := by
  obtain ⟨i0, hi, hzz⟩ := Option.map_eq_some_iff.1 hinfo
  simp only [Prod.mk.injEq] at hzz
  obtain ⟨hz0, hz1, hz2⟩ := hzz
  obtain ⟨v', w', hr, h2, h3⟩ := spec_SpansBytes.run_append (P := P) w base t u o.type e i0 ht hu hi hz0 hz1 hz2 v x s hown (by simp only [maxLen]; omega) hl hbase
  rw [if_pos hw]
  unfold Oper.wp execOp
  simp only [ho, resolve, invoke, builtin, Sem.run_bind, Sem.run_pure, Result.andThen_ok, List.map_toArray, List.map_cons, List.map_nil, hs, hx, hr]
  refine h v' w' h2 (HB.grown h3 hbase ?_)
  obtain ⟨g, cap, cur, fz, rfl, hbg, _⟩ := hown
  intro k hk
  simp [Value.ownBlock] at hk
  omega
theorem spec_SpansBytes.son (t : ByteArray) : strOfNums (bytesOf t) = t := by
  have ext : ∀ {a b : ByteArray}, a.data.toList = b.data.toList → a = b := by intro a b h; cases a; cases b; simp at h; rw [h]
  apply ext
  simp only [strOfNums, bytesOf, List.map_map]
  conv => rhs; rw [← List.map_id t.data.toList]
  apply List.map_congr_left
  intro x _
  show UInt8.ofNat ((x.toNat : Int)).toNat = x
  rw [Int.toNat_natCast]; simp
def spec_SpansBytes.l0 : Nat → List (S60) → ByteArray → Int → Int → Option ByteArray
  | 0, _, _, _, _ => none
  | k + 1, l, acc, at_, i => if i < (l.length : Int) then (if 0 ≤ i then ((spec_PutNum.f k (wrap64 ((rd_T60 l i).f0 - at_))).bind fun s => ((spec_PutNum.f k (wrap64 ((rd_T60 l i).f1 - (rd_T60 l i).f0))).bind fun t => (if acc.size + (s.size + t.size) ≤ 140737488355328 then (spec_SpansBytes.l0 k l (acc ++ (s ++ t)) ((rd_T60 l i).f1) (wrap64 (i + 1))) else none))) else none) else (if (acc.size : Int) > 8000 then (some (⟨#[]⟩ : ByteArray)) else (some acc))
def spec_SpansBytes.f (k : Nat) (l0 : List (S60)) : Option ByteArray := (spec_SpansRight.f k l0).bind fun t => if t = true then ((spec_PutNum.f k (l0.length : Int)).bind fun s => (if s.size ≤ 140737488355328 then (spec_SpansBytes.l0 k l0 s 0 0) else none)) else (some (⟨#[]⟩ : ByteArray))
theorem spec_SpansBytes.mono_l : ∀ k, (∀ y0 y1 y2 y3, LeO (spec_SpansBytes.l0 k y0 y1 y2 y3) (spec_SpansBytes.l0 (k + 1) y0 y1 y2 y3))
  | 0 => fun _ _ _ _ r h => by simp [spec_SpansBytes.l0] at h
  | k + 1 => by
    have ih0 := spec_SpansBytes.mono_l k
    · intro y0 y1 y2 y3
      unfold spec_SpansBytes.l0
      repeat' first | (with_reducible exact ih0 _ _ _ _) | (with_reducible exact spec_PutNum.mono _ _) | (with_reducible exact LeO.refl _) | (with_reducible exact LeO.none _) | (with_reducible refine LeO.ite ?_ ?_) | (with_reducible refine LeO.bind ?_ (fun _ => ?_))
theorem spec_SpansBytes.mono : ∀ a0 k, LeO (spec_SpansBytes.f k a0) (spec_SpansBytes.f (k + 1) a0) := by
  intro a0 k
  have ih0 := spec_SpansBytes.mono_l k
  unfold spec_SpansBytes.f
  repeat' first | (with_reducible exact ih0 _ _ _ _) | (with_reducible exact spec_SpansRight.mono _ _) | (with_reducible exact spec_PutNum.mono _ _) | (with_reducible exact LeO.refl _) | (with_reducible exact LeO.none _) | (with_reducible refine LeO.ite ?_ ?_) | (with_reducible refine LeO.bind ?_ (fun _ => ?_))
theorem spec_SpansBytes.calls (k : Nat) (A0 : Option Addr) (c0 : Nat) (l0 : List (S60)) (r : ByteArray) (w : World) (hr0 : Kd.C k60 w A0 l0.length l0) (hc0 : l0.length ≤ c0) (h : spec_SpansBytes.f k l0 = some r) :
    Calls Try.prog 21 #[.slice A0 l0.length c0] w fun e w' => e = .returned (.string r) ∧ Below w.heap.size w w' := by
  have HR0 := Aside0.mk hr0; have HC0 := Aside0.mk hc0; clear hr0 hc0; have HB := Aside0.mk (Below.refl w.heap.size w); unfold spec_SpansBytes.f at h
  obtain ⟨t1, A1, H⟩ := Option.bind_eq_some_iff.mp h; clear h; have A1 := Aside0.mk A1; by_cases c1 : t1 = true
  · subst c1
    rw [if_pos rfl] at H; obtain ⟨s1, A2, H⟩ := Option.bind_eq_some_iff.mp H; have A2 := Aside0.mk A2; by_cases c2 : s1.size ≤ 140737488355328
    · rw [if_pos c2] at H
      have H' := Aside0.mk H; have C2 := Aside0.mk c2; clear H c2; have kb := fun W => print_bytes (P := Try.prog) 9 22 5 Try.underlying9 Try.underlying22 Try.underlying5 s1 W
      go_enter Try.func21, Try.ntmps21; go_wp2_with (first | (go_at_call 25; (with_reducible refine (spec_SpansRight.calls k _ _ l0 true _ ?side1 HC0.out A1.out).mono ?_); (case side1 => repeat (first | exact HR0.out | (with_reducible refine Kd.C_alloc ?_ _) | (with_reducible refine Kd.C_drewN ?_ _) | (with_reducible refine Kd.C_drew ?_))); rintro e w1 ⟨rfl, hb⟩; have HB1 := Aside0.mk (below_step HB.out hb); clear hb) | (go_at_call 57; (with_reducible refine (spec_PutNum.calls k (l0.length : Int) s1 _ A2.out).mono ?_); rintro e w2 ⟨rfl, hb⟩; have HB2 := Aside0.mk (below_step HB1.out hb); clear hb) | (rw [kb]))
      have HB3 := Aside0.mk (bytes_below HB2.out (below_size HB2.out) 5 s1); have HO := Aside0.mk (spec_SpansBytes.own_new w2 w.heap.size 5 s1 (below_size HB2.out) (by have := C2.out; simp only [maxLen]; omega)); generalize hv3 : (Value.slice (some ⟨w2.heap.size, 0, none⟩) s1.size (grownCap w2 s1.size 0 5)) = v3_ at HO; go_loopg [3, 4, 5] k (fun kq v3 v4 v5 w' => ∃ (acc : ByteArray) (at_ i : Int), v4 = .int .i64 at_ ∧ v5 = .int .i64 i ∧ Aside0 (spec_SpansBytes.l0 kq l0 acc at_ i = some r) ∧ Aside0 (kq ≤ k) ∧ Aside0 (spec_SpansBytes.Own w' w.heap.size 5 v3 acc) ∧ Aside0 (Below w.heap.size w w'))
      case atStart => exact ⟨s1, 0, 0, rfl, rfl, H', ⟨Nat.le_refl _⟩, HO, HB3⟩
      case round =>
        clear HB HB1 HB2 HB3 HO H'; obtain ⟨acc, at_, i, rfl, rfl, HA, HK1, HO, HB⟩ := hrel
        cases gk with
        | zero => exact absurd HA.out (by simp [spec_SpansBytes.l0])
        | succ k1 =>
          have H := HA.out; clear HA; simp only [spec_SpansBytes.l0] at H; by_cases c7 : i < (l0.length : Int)
          · rw [if_pos c7] at H
            have c7b0 : decide (i < (l0.length : Int)) = true := decide_eq_true c7; by_cases c8 : 0 ≤ i
            · rw [if_pos c8] at H
              obtain ⟨s, A3, H⟩ := Option.bind_eq_some_iff.mp H; have A3 := Aside0.mk A3; obtain ⟨t, A4, H⟩ := Option.bind_eq_some_iff.mp H; have A4 := Aside0.mk A4; by_cases c9 : acc.size + (s.size + t.size) ≤ 140737488355328
              · rw [if_pos c9] at H
                have H' := Aside0.mk H; have C9 := Aside0.mk c9; clear H c9; obtain ⟨ad, ea_, hx0, hx1⟩ := at_T60 HR0.out i c8 c7; cases ea_; have X0 := Aside0.mk hx0; have X1 := Aside0.mk hx1; replace hx0 := (HB.out.cell (World.block_lt_of_cell? _ _ hx0)).trans hx0; replace hx1 := (HB.out.cell (World.block_lt_of_cell? _ _ hx1)).trans hx1; have p := eq_true c8; have q := eq_true c7; clear c7 c8; have cs : s.size + t.size ≤ 9223372036854775807 := by have := C9.out; omega
                have csb1 : decide (s.size + t.size ≤ 9223372036854775807) = true := decide_eq_true cs; have csb2 : (9223372036854775807 < s.size + t.size) = False := eq_false (Nat.not_lt.2 cs); try go_wp2
                have HO1_ := Aside0.mk (spec_SpansBytes.own_drew HO.out); have HB1_ := Aside0.mk (below_drew1 HB.out); clear HO HB hx0 hx1; have HO := HO1_; have HB := HB1_; clear HO1_ HB1_; -- REGION
                refine start_ (n := 24) (S := fun w' => w'.cell? (ad.add (i.toNat * 2)) = some (.int .i64 (rd_T60 l0 i).f0) ∧ w'.cell? ⟨(ad.add (i.toNat * 2)).block, (ad.add (i.toNat * 2)).off + 1, none⟩ = some (.int .i64 (rd_T60 l0 i).f1)) (ds := []) #[false, false, false, false, false, false, false, false, false, false, false, false, false, false, false, false, false, false, false, false, false, false, false, false] (by kernel_rfl) rfl rfl ⟨((HB.out.cell (World.block_lt_of_cell? _ _ X0.out)).trans X0.out), ((HB.out.cell (World.block_lt_of_cell? _ _ X1.out)).trans X1.out)⟩ (fun hHeld => ?_); generalize wr.drew = w2' at HO HB hHeld ⊢; refine pure_ (i := 0) (N := some 19) (v := ?_) (a' := ?_) #[true, false, false, false, false, false, false, false, false, false, false, false, false, false, false, false, false, false, false, false, false, false, false, false] rfl rfl (by kernel_rfl) (fun _ _ _ h => h) (Or.inl ⟨by rfl, ?_⟩) ?_ ?_; rotate_left
                · intro w'
                  go_simp; with_reducible rfl
                rotate_left
                · simp only [Act.put, List.setIfInBounds_toArray, List.set_cons_zero, List.set_cons_succ, i64_w, i32_w]
                  rfl
                refine pure_ (i := 1) (N := some 20) (v := ?_) (a' := ?_) #[true, true, false, false, false, false, false, false, false, false, false, false, false, false, false, false, false, false, false, false, false, false, false, false] rfl rfl (by kernel_rfl) (fun _ _ _ h => h) (Or.inl ⟨by rfl, ?_⟩) ?_ ?_; rotate_left
                · intro w'
                  go_simp; with_reducible rfl
                rotate_left
                · simp only [Act.put, List.setIfInBounds_toArray, List.set_cons_zero, List.set_cons_succ, i64_w, i32_w]
                  rfl
                refine pure_ (i := 2) (N := some 21) (v := ?_) (a' := ?_) #[true, true, true, false, false, false, false, false, false, false, false, false, false, false, false, false, false, false, false, false, false, false, false, false] rfl rfl (by kernel_rfl) (fun _ _ _ h => h) (Or.inl ⟨by rfl, ?_⟩) ?_ ?_; rotate_left
                · intro w'
                  go_simp; with_reducible rfl
                rotate_left
                · simp only [Act.put, List.setIfInBounds_toArray, List.set_cons_zero, List.set_cons_succ, i64_w, i32_w]
                  rfl
                refine pure_ (i := 3) (N := some 22) (v := ?_) (a' := ?_) #[true, true, true, true, false, false, false, false, false, false, false, false, false, false, false, false, false, false, false, false, false, false, false, false] rfl rfl (by kernel_rfl) (fun _ _ _ h => h) (Or.inl ⟨by rfl, ?_⟩) ?_ ?_; rotate_left
                · intro w'
                  go_simp; with_reducible rfl
                rotate_left
                · simp only [Act.put, List.setIfInBounds_toArray, List.set_cons_zero, List.set_cons_succ, i64_w, i32_w]
                  rfl
                refine pure_ (i := 4) (N := some 23) (v := ?_) (a' := ?_) #[true, true, true, true, true, false, false, false, false, false, false, false, false, false, false, false, false, false, false, false, false, false, false, false] rfl rfl (by kernel_rfl) (fun _ _ _ h => h) (Or.inl ⟨by rfl, ?_⟩) ?_ ?_; rotate_left
                · intro w'
                  go_simp; with_reducible rfl
                rotate_left
                · simp only [Act.put, List.setIfInBounds_toArray, List.set_cons_zero, List.set_cons_succ, i64_w, i32_w]
                  rfl
                refine pure_ (i := 6) (N := some 25) (v := ?_) (a' := ?_) #[true, true, true, true, true, false, true, false, false, false, false, false, false, false, false, false, false, false, false, false, false, false, false, false] rfl rfl (by kernel_rfl) (fun _ _ _ h => h) (Or.inl ⟨by rfl, ?_⟩) ?_ ?_; rotate_left
                · intro w'
                  go_simp; with_reducible rfl
                rotate_left
                · simp only [Act.put, List.setIfInBounds_toArray, List.set_cons_zero, List.set_cons_succ, i64_w, i32_w]
                  rfl
                refine pure_ (i := 9) (N := some 28) (v := ?_) (a' := ?_) #[true, true, true, true, true, false, true, false, false, true, false, false, false, false, false, false, false, false, false, false, false, false, false, false] rfl rfl (by kernel_rfl) (fun _ _ _ h => h) (Or.inl ⟨by rfl, ?_⟩) ?_ ?_; rotate_left
                · intro w'
                  go_simp; with_reducible rfl
                rotate_left
                · simp only [Act.put, List.setIfInBounds_toArray, List.set_cons_zero, List.set_cons_succ, i64_w, i32_w]
                  rfl
                refine pure_ (i := 10) (N := some 29) (v := ?_) (a' := ?_) #[true, true, true, true, true, false, true, false, false, true, true, false, false, false, false, false, false, false, false, false, false, false, false, false] rfl rfl (by kernel_rfl) (fun _ _ _ h => h) (Or.inl ⟨by rfl, ?_⟩) ?_ ?_; rotate_left
                · intro w'
                  go_simp; with_reducible rfl
                rotate_left
                · simp only [Act.put, List.setIfInBounds_toArray, List.set_cons_zero, List.set_cons_succ, i64_w, i32_w]
                  rfl
                refine pure_ (i := 11) (N := some 30) (v := ?_) (a' := ?_) #[true, true, true, true, true, false, true, false, false, true, true, true, false, false, false, false, false, false, false, false, false, false, false, false] rfl rfl (by kernel_rfl) (fun _ _ _ h => h) (Or.inl ⟨by rfl, ?_⟩) ?_ ?_; rotate_left
                · intro w'
                  go_simp; with_reducible rfl
                rotate_left
                · simp only [Act.put, List.setIfInBounds_toArray, List.set_cons_zero, List.set_cons_succ, i64_w, i32_w]
                  rfl
                refine pure_ (i := 12) (N := some 31) (v := ?_) (a' := ?_) #[true, true, true, true, true, false, true, false, false, true, true, true, true, false, false, false, false, false, false, false, false, false, false, false] rfl rfl (by kernel_rfl) (fun _ _ _ h => h) (Or.inl ⟨by rfl, ?_⟩) ?_ ?_; rotate_left
                · intro w'
                  go_simp; with_reducible rfl
                rotate_left
                · simp only [Act.put, List.setIfInBounds_toArray, List.set_cons_zero, List.set_cons_succ, i64_w, i32_w]
                  rfl
                refine pure_ (i := 14) (N := some 33) (v := ?_) (a' := ?_) #[true, true, true, true, true, false, true, false, false, true, true, true, true, false, true, false, false, false, false, false, false, false, false, false] rfl rfl (by kernel_rfl) (fun _ _ _ h => h) (Or.inl ⟨by rfl, ?_⟩) ?_ ?_; rotate_left
                · intro w'
                  go_simp; with_reducible rfl
                rotate_left
                · simp only [Act.put, List.setIfInBounds_toArray, List.set_cons_zero, List.set_cons_succ, i64_w, i32_w]
                  rfl
                refine pure_ (i := 15) (N := some 34) (v := ?_) (a' := ?_) #[true, true, true, true, true, false, true, false, false, true, true, true, true, false, true, true, false, false, false, false, false, false, false, false] rfl rfl (by kernel_rfl) (fun _ _ _ h => h) (Or.inl ⟨by rfl, ?_⟩) ?_ ?_; rotate_left
                · intro w'
                  go_simp; with_reducible rfl
                rotate_left
                · simp only [Act.put, List.setIfInBounds_toArray, List.set_cons_zero, List.set_cons_succ, i64_w, i32_w]
                  rfl
                refine pure_ (i := 16) (N := some 35) (v := ?_) (a' := ?_) #[true, true, true, true, true, false, true, false, false, true, true, true, true, false, true, true, true, false, false, false, false, false, false, false] rfl rfl (by kernel_rfl) (fun _ _ _ h => h) (Or.inl ⟨by rfl, ?_⟩) ?_ ?_; rotate_left
                · intro w'
                  go_simp; with_reducible rfl
                rotate_left
                · simp only [Act.put, List.setIfInBounds_toArray, List.set_cons_zero, List.set_cons_succ, i64_w, i32_w]
                  rfl
                refine pure_ (i := 17) (N := some 36) (v := ?_) (a' := ?_) #[true, true, true, true, true, false, true, false, false, true, true, true, true, false, true, true, true, true, false, false, false, false, false, false] rfl rfl (by kernel_rfl) (fun _ _ _ h => h) (Or.inl ⟨by rfl, ?_⟩) ?_ ?_; rotate_left
                · intro w'
                  go_simp; with_reducible rfl
                rotate_left
                · simp only [Act.put, List.setIfInBounds_toArray, List.set_cons_zero, List.set_cons_succ, i64_w, i32_w]
                  rfl
                refine take_ (i := 5) (N := some 24) (v := ?_) (a' := ?_) #[true, true, true, true, true, true, true, false, false, true, true, true, true, false, true, true, true, true, false, false, false, false, false, false] rfl rfl (by kernel_rfl) (fun _ _ _ h => h) (Or.inl ⟨by rfl, ?_⟩) hHeld ?_ ?_; rotate_left
                · rintro w' ⟨s0, s1⟩
                  go_simp; with_reducible rfl
                rotate_left
                · simp only [Act.put, List.setIfInBounds_toArray, List.set_cons_zero, List.set_cons_succ, i64_w, i32_w]
                  rfl
                refine pure_ (i := 7) (N := some 26) (v := ?_) (a' := ?_) #[true, true, true, true, true, true, true, true, false, true, true, true, true, false, true, true, true, true, false, false, false, false, false, false] rfl rfl (by kernel_rfl) (fun _ _ _ h => h) (Or.inl ⟨by rfl, ?_⟩) ?_ ?_; rotate_left
                · intro w'
                  go_simp; with_reducible rfl
                rotate_left
                · simp only [Act.put, List.setIfInBounds_toArray, List.set_cons_zero, List.set_cons_succ, i64_w, i32_w]
                  rfl
                refine take_ (i := 13) (N := some 32) (v := ?_) (a' := ?_) #[true, true, true, true, true, true, true, true, false, true, true, true, true, true, true, true, true, true, false, false, false, false, false, false] rfl rfl (by kernel_rfl) (fun _ _ _ h => h) (Or.inl ⟨by rfl, ?_⟩) hHeld ?_ ?_; rotate_left
                · rintro w' ⟨s0, s1⟩
                  go_simp; with_reducible rfl
                rotate_left
                · simp only [Act.put, List.setIfInBounds_toArray, List.set_cons_zero, List.set_cons_succ, i64_w, i32_w]
                  rfl
                refine take_ (i := 18) (N := some 37) (v := ?_) (a' := ?_) #[true, true, true, true, true, true, true, true, false, true, true, true, true, true, true, true, true, true, true, false, false, false, false, false] rfl rfl (by kernel_rfl) (fun _ _ _ h => h) (Or.inl ⟨by rfl, ?_⟩) hHeld ?_ ?_; rotate_left
                · rintro w' ⟨s0, s1⟩
                  go_simp; with_reducible rfl
                rotate_left
                · simp only [Act.put, List.setIfInBounds_toArray, List.set_cons_zero, List.set_cons_succ, i64_w, i32_w]
                  rfl
                refine pure_ (i := 19) (N := some 38) (v := ?_) (a' := ?_) #[true, true, true, true, true, true, true, true, false, true, true, true, true, true, true, true, true, true, true, true, false, false, false, false] rfl rfl (by kernel_rfl) (fun _ _ _ h => h) (Or.inl ⟨by rfl, ?_⟩) ?_ ?_; rotate_left
                · intro w'
                  go_simp; with_reducible rfl
                rotate_left
                · simp only [Act.put, List.setIfInBounds_toArray, List.set_cons_zero, List.set_cons_succ, i64_w, i32_w]
                  rfl
                refine one_ (i := 8) (N := some 27) #[true, true, true, true, true, true, true, true, true, true, true, true, true, true, true, true, true, true, true, true, false, false, false, false] rfl rfl (by kernel_rfl) (by decide) (fun K hK => ?_); refine goes_ Try.func57 (by kernel_rfl) rfl #[.int .i64 (wrap64 ((rd_T60 l0 i).f0 - at_))] (by rfl) rfl rfl (by (try simp only [List.map_toArray, List.map_cons, List.map_nil]); first | done | rfl) ?_; with_reducible refine (spec_PutNum.calls k1 (wrap64 ((rd_T60 l0 i).f0 - at_)) s _ A3.out).mono ?_
                rintro e w3 ⟨rfl, hb⟩; refine ⟨_, rfl, ?_⟩; have HO3 := Aside0.mk (spec_SpansBytes.own_below HO.out hb); have HB3 := Aside0.mk (below_step HB.out hb); clear hb; refine hK.out _ _ ⟨((HB3.out.cell (World.block_lt_of_cell? _ _ X0.out)).trans X0.out), ((HB3.out.cell (World.block_lt_of_cell? _ _ X1.out)).trans X1.out)⟩ (fun hHeld => ?_); clear hK K; refine norm_ (a' := ?_) ?_ ?_; rotate_left
                · show Act.put _ (some 27) _ = _
                  simp only [Act.put, List.setIfInBounds_toArray, List.set_cons_zero, List.set_cons_succ, i64_w, i32_w]; rfl
                refine one_ (i := 20) (N := some 39) #[true, true, true, true, true, true, true, true, true, true, true, true, true, true, true, true, true, true, true, true, true, false, false, false] rfl rfl (by kernel_rfl) (by decide) (fun K hK => ?_); refine goes_ Try.func57 (by kernel_rfl) rfl #[.int .i64 (wrap64 ((rd_T60 l0 i).f1 - (rd_T60 l0 i).f0))] (by rfl) rfl rfl (by (try simp only [List.map_toArray, List.map_cons, List.map_nil]); first | done | rfl) ?_; with_reducible refine (spec_PutNum.calls k1 (wrap64 ((rd_T60 l0 i).f1 - (rd_T60 l0 i).f0)) t _ A4.out).mono ?_
                rintro e w4 ⟨rfl, hb⟩; refine ⟨_, rfl, ?_⟩; have HO4 := Aside0.mk (spec_SpansBytes.own_below HO3.out hb); have HB4 := Aside0.mk (below_step HB3.out hb); clear hb; refine hK.out _ _ ⟨((HB4.out.cell (World.block_lt_of_cell? _ _ X0.out)).trans X0.out), ((HB4.out.cell (World.block_lt_of_cell? _ _ X1.out)).trans X1.out)⟩ (fun hHeld => ?_); clear hK K; refine norm_ (a' := ?_) ?_ ?_; rotate_left
                · show Act.put _ (some 39) _ = _
                  simp only [Act.put, List.setIfInBounds_toArray, List.set_cons_zero, List.set_cons_succ, i64_w, i32_w]; rfl
                refine pure_ (i := 21) (N := some 40) (v := ?_) (a' := ?_) #[true, true, true, true, true, true, true, true, true, true, true, true, true, true, true, true, true, true, true, true, true, true, false, false] rfl rfl (by kernel_rfl) (fun _ _ _ h => h) (Or.inl ⟨by rfl, ?_⟩) ?_ ?_; rotate_left
                · intro w'
                  go_simp; with_reducible rfl
                rotate_left
                · simp only [Act.put, List.setIfInBounds_toArray, List.set_cons_zero, List.set_cons_succ, i64_w, i32_w]
                  rfl
                refine one_ (i := 22) (N := some 41) #[true, true, true, true, true, true, true, true, true, true, true, true, true, true, true, true, true, true, true, true, true, true, true, false] rfl rfl (by kernel_rfl) (by decide) (fun K hK => ?_); refine spec_SpansBytes.append_step (w0 := w) w.heap.size (by rfl) (.tmp 19) (.tmp 40) 22 9 5 rfl Try.underlying22 Try.underlying9 info5 u3 acc (s ++ t) rfl rfl HO4.out HB4.out (below_size HB4.out) (by have := C9.out; rw [ByteArray.size_append]; omega) ?_; intro v5_ w5 ho hb; have HO5 := Aside0.mk ho; have HB5 := Aside0.mk hb; clear ho hb; refine hK.out _ _ ⟨((HB5.out.cell (World.block_lt_of_cell? _ _ X0.out)).trans X0.out), ((HB5.out.cell (World.block_lt_of_cell? _ _ X1.out)).trans X1.out)⟩ (fun hHeld => ?_); clear hK K; refine norm_ (a' := ?_) ?_ ?_; rotate_left
                · show Act.put _ (some 41) _ = _
                  simp only [Act.put, List.setIfInBounds_toArray, List.set_cons_zero, List.set_cons_succ, i64_w, i32_w]; rfl
                refine pure_ (i := 23) (N := some 3) (v := ?_) (a' := ?_) #[true, true, true, true, true, true, true, true, true, true, true, true, true, true, true, true, true, true, true, true, true, true, true, true] rfl rfl (by kernel_rfl) (fun _ _ _ h => h) (Or.inl ⟨by rfl, ?_⟩) ?_ ?_; rotate_left
                · intro w'
                  go_simp; with_reducible rfl
                rotate_left
                · simp only [Act.put, List.setIfInBounds_toArray, List.set_cons_zero, List.set_cons_succ, i64_w, i32_w]
                  rfl
                refine done_ (by kernel_rfl) ?_; -- END
                have hx1 := (HB5.out.cell (World.block_lt_of_cell? _ _ X1.out)).trans X1.out; go_wp2
                go_roundg k1
                case measure => have := HK1.out; omega
                case rel => exact ⟨acc ++ (s ++ t), (rd_T60 l0 i).f1, wrap64 (i + 1), rfl, (by first | rfl | (simp only [i64_w]; rfl) | (simp [*]; done)), H', ⟨by have := HK1.out; omega⟩, HO5, HB5⟩
              · rw [if_neg c9] at H; cases H
            · rw [if_neg c8] at H; cases H
          · rw [if_neg c7] at H
            have c7b0 : decide (i < (l0.length : Int)) = false := decide_eq_false c7; obtain ⟨g_, cap_, hv_, hrd⟩ := spec_SpansBytes.own_reads HO.out; subst hv_; have ks := string_of_reads (P := Try.prog) (src := 22) (e := 5) (dst := 9) (c := cap_) Try.underlying22 Try.underlying5 Try.underlying9 hrd; rw [spec_SpansBytes.son] at ks; by_cases c10 : (acc.size : Int) > 8000
            · rw [if_pos c10] at H
              obtain rfl := Option.some.inj H; have c10b0 : decide ((acc.size : Int) > 8000) = true := decide_eq_true c10; go_wp2
              go_ret
              exact ⟨rfl, HB.out⟩
            · rw [if_neg c10] at H
              obtain rfl := Option.some.inj H; have c10b0 : decide ((acc.size : Int) > 8000) = false := decide_eq_false c10; go_wp2_with (rw [ks])
              go_ret
              exact ⟨rfl, HB.out⟩
    · rw [if_neg c2] at H; cases H
  · rw [if_neg c1] at H
    obtain rfl := Option.some.inj H; replace c1 := Bool.eq_false_iff.mpr c1; subst c1; go_enter Try.func21, Try.ntmps21; go_wp2_with (go_at_call 25; (with_reducible refine (spec_SpansRight.calls k _ _ l0 false _ ?side1 HC0.out A1.out).mono ?_); (case side1 => repeat (first | exact HR0.out | (with_reducible refine Kd.C_alloc ?_ _) | (with_reducible refine Kd.C_drewN ?_ _) | (with_reducible refine Kd.C_drew ?_))); rintro e w1 ⟨rfl, hb⟩; have HB1 := Aside0.mk (below_step HB.out hb); clear hb)
    go_ret
    exact ⟨rfl, HB1.out⟩

end Go.Proofs.Ytepbkhgffjinjaa.Print
