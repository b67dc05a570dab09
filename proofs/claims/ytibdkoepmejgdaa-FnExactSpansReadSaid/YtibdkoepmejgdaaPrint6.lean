-- Printed by wip/myprint.py over the kit's print, in this session's own call.
import Derived.Test.YtibdkoepmejgdaaPrint0
import Derived.Test.YtibdkoepmejgdaaPrint1
import Derived.Test.YtibdkoepmejgdaaPrint3
import Derived.Test.YtibdkoepmejgdaaPrint5
namespace Go.Proofs.Ytibdkoepmejgdaa.Print
open Go.RowKit Go.Proofs.YtibdkoepmejgdaaW.PrintWords Go.Proofs.YtibdkoepmejgdaaW.PrintLast Go.Proofs.YtibdkoepmejgdaaW.PrintMore
attribute [local go_sem] max2_int min2_int max_two min_two max_three min_three max_four min_four   -- for this text's walks alone
set_option linter.unusedVariables false
set_option linter.unusedSimpArgs false

/-! ### spec_SpansRead: function 12 -/
mutual
def spec_SpansRead.l0 : Nat → ByteArray → Int → List (S48) → Int → Int → ByteArray → Int → Bool → Option ((List (S48)) × Int)
  | 0, _, _, _, _, _, _, _, _ => none
  | k + 1, x0, x4, x5, x6, x7, x126000, x126001, x126002 => if x7 < x4 then (if x7 ≤ 400 then (spec_SpansRead.j1 k x0 x4 x5 x6 x7 (!x126002) x126000 x126001 x126002) else (spec_SpansRead.j1 k x0 x4 x5 x6 x7 false x126000 x126001 x126002)) else (spec_SpansRead.j1 k x0 x4 x5 x6 x7 false x126000 x126001 x126002)
def spec_SpansRead.j1 : Nat → ByteArray → Int → List (S48) → Int → Int → Bool → ByteArray → Int → Bool → Option ((List (S48)) × Int)
  | 0, _, _, _, _, _, _, _, _, _ => none
  | k + 1, x0, x4, x5, x6, x7, x32, x126000, x126001, x126002 => if x32 = true then ((spec_l02Reader_num.f k x126000 x126001 x126002).bind fun bt134 => ((spec_l02Reader_num.f k bt134.2.1 bt134.2.2.1 bt134.2.2.2).bind fun bt139 => (if bt139.2.2.2 = true then (if x5.length < 8796093022208 then (spec_SpansRead.l0 k x0 x4 (x5 ++ [(⟨wrap64 (bt134.1 + x6), wrap64 ((wrap64 (bt134.1 + x6)) + bt139.1)⟩ : S48)]) (wrap64 ((wrap64 (bt134.1 + x6)) + bt139.1)) (wrap64 (x7 + 1)) bt139.2.1 bt139.2.2.1 true) else (none)) else ((spec_l02Id.f (wrap64 (bt134.1 + x6))).bind fun t146 => (if t146 = true then ((spec_l02Id.f (wrap64 ((wrap64 (bt134.1 + x6)) + bt139.1))).bind fun t147 => (if x5.length < 8796093022208 then (spec_SpansRead.l0 k x0 x4 (x5 ++ [(⟨wrap64 (bt134.1 + x6), wrap64 ((wrap64 (bt134.1 + x6)) + bt139.1)⟩ : S48)]) (wrap64 ((wrap64 (bt134.1 + x6)) + bt139.1)) (wrap64 (x7 + 1)) bt139.2.1 bt139.2.2.1 (!t147)) else (none))) else (if x5.length < 8796093022208 then (spec_SpansRead.l0 k x0 x4 (x5 ++ [(⟨wrap64 (bt134.1 + x6), wrap64 ((wrap64 (bt134.1 + x6)) + bt139.1)⟩ : S48)]) (wrap64 ((wrap64 (bt134.1 + x6)) + bt139.1)) (wrap64 (x7 + 1)) bt139.2.1 bt139.2.2.1 true) else (none))))))) else (if x126002 = true then (some (([] : List (S48)), 3)) else (if x0.toList = ([] : List UInt8) then (some (([] : List (S48)), 3)) else ((spec_SpansBytes.f k x5).bind fun t133 => (if t133.toList = x0.toList then (some (x5, 0)) else (some (([] : List (S48)), 3))))))
end
def spec_SpansRead.f (k : Nat) (a0 : ByteArray) : Option ((List (S48)) × Int) := if (a0.size : Int) > 8000 then (some (([] : List (S48)), 2)) else ((spec_l02Reader_num.f k a0 0 false).bind fun bt126 => (spec_SpansRead.l0 k a0 bt126.1 (([] : List (S48))) 0 0 bt126.2.1 bt126.2.2.1 bt126.2.2.2))
theorem spec_SpansRead.mono_l : ∀ k, (∀ y0 y1 y2 y3 y4 y5 y6 y7, LeO (spec_SpansRead.l0 k y0 y1 y2 y3 y4 y5 y6 y7) (spec_SpansRead.l0 (k + 1) y0 y1 y2 y3 y4 y5 y6 y7)) ∧ (∀ y0 y1 y2 y3 y4 y5 y6 y7 y8, LeO (spec_SpansRead.j1 k y0 y1 y2 y3 y4 y5 y6 y7 y8) (spec_SpansRead.j1 (k + 1) y0 y1 y2 y3 y4 y5 y6 y7 y8))
  | 0 => ⟨fun _ _ _ _ _ _ _ _ r h => by simp [spec_SpansRead.l0] at h, fun _ _ _ _ _ _ _ _ _ r h => by simp [spec_SpansRead.j1] at h⟩
  | k + 1 => by
    obtain ⟨ih0, ih1⟩ := spec_SpansRead.mono_l k
    refine ⟨?_, ?_⟩
    · intro y0 y1 y2 y3 y4 y5 y6 y7
      unfold spec_SpansRead.l0
      repeat' first
      | (with_reducible exact ih0 _ _ _ _ _ _ _ _)
      | (with_reducible exact ih1 _ _ _ _ _ _ _ _ _)
      | (with_reducible exact spec_SpansBytes.mono _ _)
      | (with_reducible exact spec_l02Reader_num.mono _ _ _ _)
      | (with_reducible exact LeO.refl _)
      | (with_reducible exact LeO.none _)
      | (with_reducible refine LeO.ite ?_ ?_)
      | (with_reducible refine LeO.bind ?_ (fun _ => ?_))
      | exact ih0 _ _ _ _ _ _ _ _
      | exact ih1 _ _ _ _ _ _ _ _ _
      | exact spec_SpansBytes.mono _ _
      | exact spec_l02Reader_num.mono _ _ _ _
      | exact LeO.none _
      | refine LeO.ite ?_ ?_
      | refine LeO.bind ?_ (fun _ => ?_)
    · intro y0 y1 y2 y3 y4 y5 y6 y7 y8
      unfold spec_SpansRead.j1
      repeat' first
      | (with_reducible exact ih0 _ _ _ _ _ _ _ _)
      | (with_reducible exact ih1 _ _ _ _ _ _ _ _ _)
      | (with_reducible exact spec_SpansBytes.mono _ _)
      | (with_reducible exact spec_l02Reader_num.mono _ _ _ _)
      | (with_reducible exact LeO.refl _)
      | (with_reducible exact LeO.none _)
      | (with_reducible refine LeO.ite ?_ ?_)
      | (with_reducible refine LeO.bind ?_ (fun _ => ?_))
      | exact ih0 _ _ _ _ _ _ _ _
      | exact ih1 _ _ _ _ _ _ _ _ _
      | exact spec_SpansBytes.mono _ _
      | exact spec_l02Reader_num.mono _ _ _ _
      | exact LeO.none _
      | refine LeO.ite ?_ ?_
      | refine LeO.bind ?_ (fun _ => ?_)
theorem spec_SpansRead.mono : ∀ a0 k, LeO (spec_SpansRead.f k a0) (spec_SpansRead.f (k + 1) a0) := by
  intro a0 k
  obtain ⟨ih0, ih1⟩ := spec_SpansRead.mono_l k
  unfold spec_SpansRead.f
  repeat' first
      | (with_reducible exact ih0 _ _ _ _ _ _ _ _)
      | (with_reducible exact ih1 _ _ _ _ _ _ _ _ _)
      | (with_reducible exact spec_SpansBytes.mono _ _)
      | (with_reducible exact spec_l02Reader_num.mono _ _ _ _)
      | (with_reducible exact LeO.refl _)
      | (with_reducible exact LeO.none _)
      | (with_reducible refine LeO.ite ?_ ?_)
      | (with_reducible refine LeO.bind ?_ (fun _ => ?_))
      | exact ih0 _ _ _ _ _ _ _ _
      | exact ih1 _ _ _ _ _ _ _ _ _
      | exact spec_SpansBytes.mono _ _
      | exact spec_l02Reader_num.mono _ _ _ _
      | exact LeO.none _
      | refine LeO.ite ?_ ?_
      | refine LeO.bind ?_ (fun _ => ?_)
set_option maxHeartbeats 8000000 in
set_option maxRecDepth 100000 in
theorem spec_SpansRead.calls (k : Nat) (a0 : ByteArray) (r1 : List (S48)) (r2 : Int) (w : World) (h : spec_SpansRead.f k a0 = some (r1, r2)) :
    Calls Try.prog 12 #[.string a0] w fun e w' => ∃ v0_ : Value, e = .returned (.agg #[v0_, .int .i64 r2]) ∧ Kd.R k48 48 w' w.heap.size (fun _ => True) v0_ r1 ∧ Below w.heap.size w w' := by
  have hu30 := Try.underlying30
  have hu55 := Try.underlying55
  have hu48 := Try.underlying48
  have HB := Aside0.mk (Below.refl w.heap.size w)
  have H : (if (a0.size : Int) > 8000 then (some (([] : List (S48)), 2)) else ((spec_l02Reader_num.f k a0 0 false).bind fun bt126 => (spec_SpansRead.l0 k a0 bt126.1 (([] : List (S48))) 0 0 bt126.2.1 bt126.2.2.1 bt126.2.2.2))) = some (r1, r2) := h
  clear h
  go_enter Try.func12, Try.ntmps12
  go_upto_if 11 with (first | ((with_reducible refine gate_dst (N := 2) rfl ?_); refine box_event ?hg (N := 2) ?hd (cs := #[.slice none 0 0, .int .i64 0]) (t := 30) ?hr ?_; (case hd => rfl); (case hg => rfl); (case hr => first | (go_simp; done) | (go_simp; rfl)); intro gb124 hg w3 hbox hb; have n0_ := Aside0.mk (below_step (by repeat (first | (with_reducible first | exact HB.out | apply below_alloc | apply pw_below_drewN | apply below_drew1) | exact HB.out)) hb); have n1_ := Aside0.mk (hbox); have n2_ := Aside0.mk ((by rw [hg]; exact (below_size (by repeat (first | (with_reducible first | exact HB.out | apply below_alloc | apply pw_below_drewN | apply below_drew1) | exact HB.out))) : w.heap.size ≤ gb124)); have n3_ := Aside0.mk ((by rw [hg]; exact (below_size (by repeat (first | (with_reducible first | exact HB.out | apply below_alloc | apply pw_below_drewN | apply below_drew1) | exact HB.out))) : w.heap.size ≤ gb124)); clear HB; have HB := n0_; have BK124 := n1_; have GW124 := n2_; have GE124 := n3_; clear n0_ n1_ n2_ n3_; clear hb hbox hg; have hcz4_0 : w3.cell? ⟨gb124, 0, none⟩ = some (.slice none 0 0) := (blk_cell BK124.out 0).trans rfl; have hcz4_1 : w3.cell? ⟨gb124, 1, none⟩ = some (.int .i64 0) := (blk_cell BK124.out 1).trans rfl; have hfz4_0 := blk_frozen BK124.out 0; have hfz4_1 := blk_frozen BK124.out 1))
  by_cases c2 : (a0.size : Int) > 8000
  · rw [if_pos c2] at H
    have c2b0 : decide (8000 < (a0.size : Int)) = true := decide_eq_true c2
    have c2b1 : decide (8000 < a0.size) = true := decide_eq_true (by omega)
    clear c2
    simp only [Option.some.injEq, Prod.mk.injEq] at H
    obtain ⟨rfl, rfl⟩ := H
    (try simp only [c2b0, Bool.not_true, Bool.not_false])
    (try simp only [c2b1, Bool.not_true, Bool.not_false])
    go_wp2
    refine bodyPost_ret (results_cell_row rfl _ _ gb124 30 #[.slice none 0 0, .int .i64 2] (0, 0) _ rfl (by (with_reducible repeat (first | refine blk_drewN ?_ _ | refine blk_drew ?_ | refine blk_alloc ?_ _)); refine blk_put (cs := #[.slice none 0 0, .int .i64 0]) ?_ 1 _ rfl; (with_reducible repeat (first | refine blk_drewN ?_ _ | refine blk_drew ?_ | refine blk_alloc ?_ _)); refine blk_put (cs := #[.slice none 0 0, .int .i64 0]) ?_ 0 _ rfl; (with_reducible repeat (first | refine blk_drewN ?_ _ | refine blk_drew ?_ | refine blk_alloc ?_ _)); exact BK124.out) Try.underlying30 rfl (by kernel_rfl)) rfl ?_
    exact ⟨_, by first | rfl | (simp [errW_none, errW_some] <;> rfl) | (simp [*, errW_none, errW_some] <;> rfl), by first | exact Kd.R_nil _ _ _ _ _ | exact Kd.N_nil _ _ _ _ _ | exact Kd.V_nil _ _ _ _ _ | exact Kd.Q_nil _ _ _ _ _ | exact Kd.S_nil _ _ _ _ _, by repeat (first | (with_reducible first | exact HB.out | apply below_alloc | apply pw_below_drewN | apply below_drew1 | refine below_set ?_ GE124.out) | exact HB.out)⟩
  · rw [if_neg c2] at H
    have c2b0 : decide (8000 < (a0.size : Int)) = false := decide_eq_false c2
    have c2b1 : decide (8000 < a0.size) = false := decide_eq_false (by omega)
    clear c2
    replace H := Option.bind_eq_some_iff.mp H
    obtain ⟨⟨t126, t127, t128, t129⟩, A50, H⟩ := H
    replace H : (spec_SpansRead.l0 k a0 t126 (([] : List (S48))) 0 0 t127 t128 t129) = some (r1, r2) := H
    have A5 := Aside0.mk A50
    clear A50
    obtain ⟨y130, hy130⟩ : ∃ y_ : List (S48), y_ = (([] : List (S48))) := ⟨_, rfl⟩
    replace H : (spec_SpansRead.l0 k a0 t126 y130 0 0 t127 t128 t129) = some (r1, r2) := by first | (rw [hy130]; with_reducible exact H) | (have H2_ := (Option.bind_some _ _).symm.trans H; rw [hy130]; with_reducible exact H2_) | (have H2_ := (Option.bind_some _ _).symm.trans H; with_reducible exact H2_) | with_reducible exact H | (rw [hy130]; exact H) | exact H
    have Ny130 := Aside0.mk hy130
    clear hy130
    have H' := Aside0.mk H
    clear H
    (try simp only [c2b0, Bool.not_true, Bool.not_false])
    (try simp only [c2b1, Bool.not_true, Bool.not_false])
    go_wp2_with (first | ((with_reducible refine gate_dst (N := 15) rfl ?_); refine box_event ?hg (N := 15) ?hd (cs := #[.string a0, .int .i64 0, .bool false]) (t := 55) ?hr ?_; (case hd => rfl); (case hg => rfl); (case hr => first | (go_simp; done) | (go_simp; rfl)); intro gb125 hg w7 hbox hb; have n0_ := Aside0.mk (blk_below (g := gb124) (o := .cells #[.slice none 0 0, .int .i64 0] 30 (0, 0)) (by (with_reducible repeat (first | refine blk_drewN ?_ _ | refine blk_drew ?_ | refine blk_alloc ?_ _)); exact BK124.out) hb); have n1_ := Aside0.mk (below_step (by repeat (first | (with_reducible first | exact HB.out | apply below_alloc | apply pw_below_drewN | apply below_drew1 | refine below_set ?_ GE124.out) | exact HB.out)) hb); have n2_ := Aside0.mk ((by rw [hg]; exact (below_size (by repeat (first | (with_reducible first | exact HB.out | apply below_alloc | apply pw_below_drewN | apply below_drew1 | refine below_set ?_ GE124.out) | exact HB.out))) : w.heap.size ≤ gb125)); have n3_ := Aside0.mk ((by rw [hg]; exact (below_size (by repeat (first | (with_reducible first | exact HB.out | apply below_alloc | apply pw_below_drewN | apply below_drew1 | refine below_set ?_ GE124.out) | exact HB.out))) : w.heap.size ≤ gb125)); have n4_ := Aside0.mk ((by rw [hg]; exact Nat.ne_of_lt (blk_lt (g := gb124) (o := .cells #[.slice none 0 0, .int .i64 0] 30 (0, 0)) (by (with_reducible repeat (first | refine blk_drewN ?_ _ | refine blk_drew ?_ | refine blk_alloc ?_ _)); exact BK124.out)) : gb124 ≠ gb125)); have n5_ := Aside0.mk ((by rw [hg]; exact Nat.ne_of_gt (blk_lt (g := gb124) (o := .cells #[.slice none 0 0, .int .i64 0] 30 (0, 0)) (by (with_reducible repeat (first | refine blk_drewN ?_ _ | refine blk_drew ?_ | refine blk_alloc ?_ _)); exact BK124.out)) : gb125 ≠ gb124)); have n6_ := Aside0.mk ((show IsS55 w _ gb125 a0 0 false from ⟨hbox, by rw [hg]; exact (below_size (by repeat (first | (with_reducible first | exact HB.out | apply below_alloc | apply pw_below_drewN | apply below_drew1 | refine below_set ?_ GE124.out) | exact HB.out)))⟩)); clear BK124; clear HB; have BK124 := n0_; have HB := n1_; have GW125 := n2_; have GE125 := n3_; have NB124_125 := n4_; have NB125_124 := n5_; have HI125 := n6_; clear n0_ n1_ n2_ n3_ n4_ n5_ n6_; clear hb hbox hg) | ((with_reducible refine gate_callee (f := 32) rfl ?_); refine goesL_ (some 17) rfl rfl Try.func32 (by kernel_rfl) rfl #[.pointer (some ⟨gb125, 0, none⟩)] rfl (by (try simp only [List.map_toArray, List.map_cons, List.map_nil]); first | done | rfl | (simp only [List.length_drop, List.length_take]; rfl)) ?_; (with_reducible refine (spec_l02Reader_num.calls k gb125 a0 0 false t126 t127 t128 t129 w _ ?side1 ?side2 A5.out).mono ?_); (case side1 => repeat (first | (with_reducible first | exact HI125.out | apply IsS55.alloc | apply IsS55.drewN | apply IsS55.drew | apply IsS55.set_0 | apply IsS55.set_1 | apply IsS55.set_2 | (first | refine IsS55.far ?_ NB125_124.out _ | apply IsS55.far (p := ⟨gb124, _, none⟩) (hne := NB125_124.out))) | exact HI125.out)); (case side2 => repeat (first | (with_reducible first | exact HB.out | apply below_alloc | apply pw_below_drewN | apply below_drew1 | refine below_set ?_ (IsS55.ge HI125.out) | refine below_set ?_ GE124.out) | exact HB.out)); rintro e w8 ⟨rfl, hi, hb, hk⟩; refine ⟨_, rfl, ?_⟩; have n0_ := Aside0.mk (KeepBut.blk hk (g' := gb124) (o := .cells #[.slice none 0 0, .int .i64 0] 30 (0, 0)) (by (with_reducible repeat (first | refine blk_drewN ?_ _ | refine blk_drew ?_ | refine blk_alloc ?_ _)); exact BK124.out) NB124_125.out (by simp)); have n1_ := Aside0.mk (hb); have n2_ := Aside0.mk (hi); clear BK124; clear HB; clear HI125; have BK124 := n0_; have HB := n1_; have HI125 := n2_; clear n0_ n1_ n2_; (try clear hb); (try clear hb2); (try clear hk); (try clear hi)) | ((with_reducible refine gate_dst (N := 18) rfl ?_); refine Kd.R_lit k48 _ 48 ?hg (N := 18) ?hd (xs := ([] : List (S48))) (inner := []) (ok := fun _ => True) (okp := fun _ => True) ?hr ?hp (fun _ hk => hk) trivial (Below.refl _ _) (Nat.le_refl _) (by simp) ?_; (case hd => rfl); (case hg => rfl); (case hr => first | (go_simp; done) | (go_simp; rfl)); (case hp => exact (Reps.none _ _)); intro v131 w9 ho10 hb hg_ hnew_; clear hg_ hnew_; (first | rw [← Ny130.out] at ho10 | (simp only [Int.reduceToNat] at ho10; rw [← Ny130.out] at ho10)); have n0_ := Aside0.mk (Kd.R_lower ho10 (below_size (by repeat (first | (with_reducible first | exact HB.out | apply below_alloc | apply pw_below_drewN | apply below_drew1 | refine below_set ?_ (IsS55.ge HI125.out) | refine below_set ?_ GE124.out) | exact HB.out)))); have n1_ := Aside0.mk (blk_below (g := gb124) (o := .cells #[.slice none 0 0, .int .i64 0] 30 (0, 0)) (by (with_reducible repeat (first | refine blk_drewN ?_ _ | refine blk_drew ?_ | refine blk_alloc ?_ _)); exact BK124.out) hb); have n2_ := Aside0.mk (IsS55.below (by repeat (first | (with_reducible first | exact HI125.out | apply IsS55.alloc | apply IsS55.drewN | apply IsS55.drew | apply IsS55.set_0 | apply IsS55.set_1 | apply IsS55.set_2 | (first | refine IsS55.far ?_ NB125_124.out _ | apply IsS55.far (p := ⟨gb124, _, none⟩) (hne := NB125_124.out))) | exact HI125.out)) hb); have n3_ := Aside0.mk (below_step (by repeat (first | (with_reducible first | exact HB.out | apply below_alloc | apply pw_below_drewN | apply below_drew1 | refine below_set ?_ (IsS55.ge HI125.out) | refine below_set ?_ GE124.out) | exact HB.out)) hb); clear BK124; clear HI125; clear HB; have HO132 := n0_; have BK124 := n1_; have HI125 := n2_; have HB := n3_; clear n0_ n1_ n2_ n3_; clear hb ho10))
    go_loopg [5, 6, 7] k (fun kq v5 v6 v7 w' => ∃ (x5_1 : List (S48)) (x6_1 : Int) (x7_1 : Int) (x126000_1 : ByteArray) (x126001_1 : Int) (x126002_1 : Bool), v6 = .int .i64 x6_1 ∧ v7 = .int .i64 x7_1 ∧ Aside0 (spec_SpansRead.l0 kq a0 t126 x5_1 x6_1 x7_1 x126000_1 x126001_1 x126002_1 = some (r1, r2)) ∧ Aside0 (kq ≤ k) ∧ Aside0 (Kd.R k48 48 w' w.heap.size (fun _ => True) v5 x5_1) ∧ Aside0 (w'.heap[gb124]? = some (.cells #[(.slice none 0 0), .int .i64 0] 30 (0, 0))) ∧ Aside0 (IsS55 w w' gb125 x126000_1 x126001_1 x126002_1) ∧ Aside0 (Below w.heap.size w w'))
    case atStart => exact ⟨(y130), (0), (0), (t127), (t128), (t129), (by first | rfl | (simp; done) | (simp [*]; done)), (by first | rfl | (simp; done) | (simp [*]; done)), H', ⟨Nat.le_refl _⟩, ⟨by (with_reducible repeat (first | apply Kd.R_alloc | apply Kd.R_drewN | apply Kd.R_drew)); exact HO132.out⟩, ⟨by (with_reducible repeat (first | refine blk_drewN ?_ _ | refine blk_drew ?_ | refine blk_alloc ?_ _)); exact BK124.out⟩, ⟨by repeat (first | (with_reducible first | exact HI125.out | apply IsS55.alloc | apply IsS55.drewN | apply IsS55.drew | apply IsS55.set_0 | apply IsS55.set_1 | apply IsS55.set_2 | (first | refine IsS55.far ?_ NB125_124.out _ | apply IsS55.far (p := ⟨gb124, _, none⟩) (hne := NB125_124.out))) | exact HI125.out)⟩, ⟨by repeat (first | (with_reducible first | exact HB.out | apply below_alloc | apply pw_below_drewN | apply below_drew1 | refine below_set ?_ (IsS55.ge HI125.out) | refine below_set ?_ GE124.out) | exact HB.out)⟩⟩
    case round =>
      clear H'
      try clear c1
      try clear c2
      try clear c2b0
      try clear c2b1
      try clear p2
      try clear c3
      try clear hcz4_0
      try clear hcz4_1
      try clear hfz4_0
      try clear hfz4_1
      obtain ⟨x5_1, x6_1, x7_1, x126000_1, x126001_1, x126002_1, rfl, rfl, HA, HK1, HO_5, BK124, HI125, HB⟩ := hrel
      cases gk with
      | zero => exact absurd HA.out (by simp [spec_SpansRead.l0])
      | succ k1 =>
        have H := HA.out
        clear HA
        simp only [spec_SpansRead.l0] at H
        have HC11 := Aside0.mk H
        clear H
        go_upto_region 8 with (fail)
        go_cut [32] (fun v32 wc => ∃ (kq : Nat) (x32_10 : Bool), v32 = .bool x32_10 ∧ Aside0 (spec_SpansRead.j1 kq a0 t126 x5_1 x6_1 x7_1 x32_10 x126000_1 x126001_1 x126002_1 = some (r1, r2)) ∧ Aside0 (kq ≤ k1) ∧ Aside0 (Kd.R k48 48 wc w.heap.size (fun _ => True) u5 x5_1) ∧ Aside0 (wc.heap[gb124]? = some (.cells #[(.slice none 0 0), .int .i64 0] 30 (0, 0))) ∧ Aside0 (IsS55 w wc gb125 x126000_1 x126001_1 x126002_1) ∧ Aside0 (Below w.heap.size w wc))
        case first =>
          have H := HC11.out
          clear HC11
          by_cases c12 : x7_1 < t126
          · rw [if_pos c12] at H
            have c12b0 : decide (x7_1 < t126) = true := decide_eq_true c12
            clear c12
            (first | rw [c12b0] | (simp only [i64_w, i32_w]; rw [c12b0]) | skip)
            by_cases c13 : x7_1 ≤ 400
            · rw [if_pos c13] at H
              have c13b0 : decide (x7_1 ≤ 400) = true := decide_eq_true c13
              clear c13
              have H' := Aside0.mk H
              clear H
              obtain ⟨HGz14, hgz14⟩ := HI125.out
              have hcz14_0 := cellS55_0 HGz14
              have hcz14_1 := cellS55_1 HGz14
              have hcz14_2 := cellS55_2 HGz14
              have hfz14_0 := blk_frozen HGz14 0
              have hfz14_1 := blk_frozen HGz14 1
              have hfz14_2 := blk_frozen HGz14 2
              clear HGz14 hgz14
              go_wp2
              go_meet
              case rel => exact ⟨_, (!x126002_1), (by first | rfl | (simp; done) | (simp [*]; done)), H', ⟨by have := HK1.out; first | omega | exact Nat.le_refl _⟩, ⟨by (with_reducible repeat (first | apply Kd.R_alloc | apply Kd.R_drewN | apply Kd.R_drew)); exact HO_5.out⟩, ⟨by (with_reducible repeat (first | refine blk_drewN ?_ _ | refine blk_drew ?_ | refine blk_alloc ?_ _)); exact BK124.out⟩, ⟨by repeat (first | (with_reducible first | exact HI125.out | apply IsS55.alloc | apply IsS55.drewN | apply IsS55.drew | apply IsS55.set_0 | apply IsS55.set_1 | apply IsS55.set_2 | (first | refine IsS55.far ?_ NB125_124.out _ | apply IsS55.far (p := ⟨gb124, _, none⟩) (hne := NB125_124.out))) | exact HI125.out)⟩, ⟨by repeat (first | (with_reducible first | exact HB.out | apply below_alloc | apply pw_below_drewN | apply below_drew1 | refine below_set ?_ (IsS55.ge HI125.out) | refine below_set ?_ GE124.out) | exact HB.out)⟩⟩
            · rw [if_neg c13] at H
              have c13b0 : decide (x7_1 ≤ 400) = false := decide_eq_false c13
              clear c13
              have H' := Aside0.mk H
              clear H
              go_wp2
              go_meet
              case rel => exact ⟨_, (false), (by first | rfl | (simp; done) | (simp [*]; done)), H', ⟨by have := HK1.out; first | omega | exact Nat.le_refl _⟩, ⟨by (with_reducible repeat (first | apply Kd.R_alloc | apply Kd.R_drewN | apply Kd.R_drew)); exact HO_5.out⟩, ⟨by (with_reducible repeat (first | refine blk_drewN ?_ _ | refine blk_drew ?_ | refine blk_alloc ?_ _)); exact BK124.out⟩, ⟨by repeat (first | (with_reducible first | exact HI125.out | apply IsS55.alloc | apply IsS55.drewN | apply IsS55.drew | apply IsS55.set_0 | apply IsS55.set_1 | apply IsS55.set_2 | (first | refine IsS55.far ?_ NB125_124.out _ | apply IsS55.far (p := ⟨gb124, _, none⟩) (hne := NB125_124.out))) | exact HI125.out)⟩, ⟨by repeat (first | (with_reducible first | exact HB.out | apply below_alloc | apply pw_below_drewN | apply below_drew1 | refine below_set ?_ (IsS55.ge HI125.out) | refine below_set ?_ GE124.out) | exact HB.out)⟩⟩
          · rw [if_neg c12] at H
            have c12b0 : decide (x7_1 < t126) = false := decide_eq_false c12
            clear c12
            (first | rw [c12b0] | (simp only [i64_w, i32_w]; rw [c12b0]) | skip)
            have H' := Aside0.mk H
            clear H
            go_wp2
            go_meet
            case rel => exact ⟨_, (false), (by first | rfl | (simp; done) | (simp [*]; done)), H', ⟨by have := HK1.out; first | omega | exact Nat.le_refl _⟩, ⟨by (with_reducible repeat (first | apply Kd.R_alloc | apply Kd.R_drewN | apply Kd.R_drew)); exact HO_5.out⟩, ⟨by (with_reducible repeat (first | refine blk_drewN ?_ _ | refine blk_drew ?_ | refine blk_alloc ?_ _)); exact BK124.out⟩, ⟨by repeat (first | (with_reducible first | exact HI125.out | apply IsS55.alloc | apply IsS55.drewN | apply IsS55.drew | apply IsS55.set_0 | apply IsS55.set_1 | apply IsS55.set_2 | (first | refine IsS55.far ?_ NB125_124.out _ | apply IsS55.far (p := ⟨gb124, _, none⟩) (hne := NB125_124.out))) | exact HI125.out)⟩, ⟨by repeat (first | (with_reducible first | exact HB.out | apply below_alloc | apply pw_below_drewN | apply below_drew1 | refine below_set ?_ (IsS55.ge HI125.out) | refine below_set ?_ GE124.out) | exact HB.out)⟩⟩
        case rest =>
          clear HC11
          try clear c1
          try clear c2
          try clear c2b0
          try clear c2b1
          try clear p2
          try clear c3
          try clear c12
          try clear c12b0
          try clear c13
          try clear c13b0
          try clear hcz14_0
          try clear hcz14_1
          try clear hcz14_2
          try clear hcz4_0
          try clear hcz4_1
          try clear hfz14_0
          try clear hfz14_1
          try clear hfz14_2
          try clear hfz4_0
          try clear hfz4_1
          try clear p2
          obtain ⟨kq, x32_10, rfl, HA, HJ10, HO_5, BK124, HI125, HB⟩ := hcut
          cases kq with
          | zero => exact absurd HA.out (by simp [spec_SpansRead.j1])
          | succ kj10 =>
            have H := HA.out
            clear HA
            simp only [spec_SpansRead.j1] at H
            by_cases c15 : x32_10 = true
            · subst c15
              have H1 : ((spec_l02Reader_num.f kj10 x126000_1 x126001_1 x126002_1).bind fun bt134 => ((spec_l02Reader_num.f kj10 bt134.2.1 bt134.2.2.1 bt134.2.2.2).bind fun bt139 => (if bt139.2.2.2 = true then (if x5_1.length < 8796093022208 then (spec_SpansRead.l0 kj10 a0 t126 (x5_1 ++ [(⟨wrap64 (bt134.1 + x6_1), wrap64 ((wrap64 (bt134.1 + x6_1)) + bt139.1)⟩ : S48)]) (wrap64 ((wrap64 (bt134.1 + x6_1)) + bt139.1)) (wrap64 (x7_1 + 1)) bt139.2.1 bt139.2.2.1 true) else (none)) else ((spec_l02Id.f (wrap64 (bt134.1 + x6_1))).bind fun t146 => (if t146 = true then ((spec_l02Id.f (wrap64 ((wrap64 (bt134.1 + x6_1)) + bt139.1))).bind fun t147 => (if x5_1.length < 8796093022208 then (spec_SpansRead.l0 kj10 a0 t126 (x5_1 ++ [(⟨wrap64 (bt134.1 + x6_1), wrap64 ((wrap64 (bt134.1 + x6_1)) + bt139.1)⟩ : S48)]) (wrap64 ((wrap64 (bt134.1 + x6_1)) + bt139.1)) (wrap64 (x7_1 + 1)) bt139.2.1 bt139.2.2.1 (!t147)) else (none))) else (if x5_1.length < 8796093022208 then (spec_SpansRead.l0 kj10 a0 t126 (x5_1 ++ [(⟨wrap64 (bt134.1 + x6_1), wrap64 ((wrap64 (bt134.1 + x6_1)) + bt139.1)⟩ : S48)]) (wrap64 ((wrap64 (bt134.1 + x6_1)) + bt139.1)) (wrap64 (x7_1 + 1)) bt139.2.1 bt139.2.2.1 true) else (none))))))) = some (r1, r2) := by rw [if_pos rfl] at H; exact H
              clear H
              have H := H1
              clear H1
              replace H := Option.bind_eq_some_iff.mp H
              obtain ⟨⟨t134, t135, t136, t137⟩, A160, H⟩ := H
              replace H : ((spec_l02Reader_num.f kj10 t135 t136 t137).bind fun bt139 => (if bt139.2.2.2 = true then (if x5_1.length < 8796093022208 then (spec_SpansRead.l0 kj10 a0 t126 (x5_1 ++ [(⟨wrap64 (t134 + x6_1), wrap64 ((wrap64 (t134 + x6_1)) + bt139.1)⟩ : S48)]) (wrap64 ((wrap64 (t134 + x6_1)) + bt139.1)) (wrap64 (x7_1 + 1)) bt139.2.1 bt139.2.2.1 true) else (none)) else ((spec_l02Id.f (wrap64 (t134 + x6_1))).bind fun t146 => (if t146 = true then ((spec_l02Id.f (wrap64 ((wrap64 (t134 + x6_1)) + bt139.1))).bind fun t147 => (if x5_1.length < 8796093022208 then (spec_SpansRead.l0 kj10 a0 t126 (x5_1 ++ [(⟨wrap64 (t134 + x6_1), wrap64 ((wrap64 (t134 + x6_1)) + bt139.1)⟩ : S48)]) (wrap64 ((wrap64 (t134 + x6_1)) + bt139.1)) (wrap64 (x7_1 + 1)) bt139.2.1 bt139.2.2.1 (!t147)) else (none))) else (if x5_1.length < 8796093022208 then (spec_SpansRead.l0 kj10 a0 t126 (x5_1 ++ [(⟨wrap64 (t134 + x6_1), wrap64 ((wrap64 (t134 + x6_1)) + bt139.1)⟩ : S48)]) (wrap64 ((wrap64 (t134 + x6_1)) + bt139.1)) (wrap64 (x7_1 + 1)) bt139.2.1 bt139.2.2.1 true) else (none)))))) = some (r1, r2) := H
              have A16 := Aside0.mk A160
              clear A160
              replace H := Option.bind_eq_some_iff.mp H
              obtain ⟨⟨t139, t140, t141, t142⟩, A170, H⟩ := H
              replace H : (if t142 = true then (if x5_1.length < 8796093022208 then (spec_SpansRead.l0 kj10 a0 t126 (x5_1 ++ [(⟨wrap64 (t134 + x6_1), wrap64 ((wrap64 (t134 + x6_1)) + t139)⟩ : S48)]) (wrap64 ((wrap64 (t134 + x6_1)) + t139)) (wrap64 (x7_1 + 1)) t140 t141 true) else (none)) else ((spec_l02Id.f (wrap64 (t134 + x6_1))).bind fun t146 => (if t146 = true then ((spec_l02Id.f (wrap64 ((wrap64 (t134 + x6_1)) + t139))).bind fun t147 => (if x5_1.length < 8796093022208 then (spec_SpansRead.l0 kj10 a0 t126 (x5_1 ++ [(⟨wrap64 (t134 + x6_1), wrap64 ((wrap64 (t134 + x6_1)) + t139)⟩ : S48)]) (wrap64 ((wrap64 (t134 + x6_1)) + t139)) (wrap64 (x7_1 + 1)) t140 t141 (!t147)) else (none))) else (if x5_1.length < 8796093022208 then (spec_SpansRead.l0 kj10 a0 t126 (x5_1 ++ [(⟨wrap64 (t134 + x6_1), wrap64 ((wrap64 (t134 + x6_1)) + t139)⟩ : S48)]) (wrap64 ((wrap64 (t134 + x6_1)) + t139)) (wrap64 (x7_1 + 1)) t140 t141 true) else (none))))) = some (r1, r2) := H
              have A17 := Aside0.mk A170
              clear A170
              by_cases c18 : t142 = true
              · subst c18
                have H1 : (if x5_1.length < 8796093022208 then (spec_SpansRead.l0 kj10 a0 t126 (x5_1 ++ [(⟨wrap64 (t134 + x6_1), wrap64 ((wrap64 (t134 + x6_1)) + t139)⟩ : S48)]) (wrap64 ((wrap64 (t134 + x6_1)) + t139)) (wrap64 (x7_1 + 1)) t140 t141 true) else (none)) = some (r1, r2) := by rw [if_pos rfl] at H; exact H
                clear H
                have H := H1
                clear H1
                by_cases c19 : x5_1.length < 8796093022208
                · rw [if_pos c19] at H
                  have LMc19 := Aside0.mk c19
                  clear c19
                  obtain ⟨y143, hy143⟩ : ∃ y_ : List (S48), y_ = (x5_1 ++ [(⟨wrap64 (t134 + x6_1), wrap64 ((wrap64 (t134 + x6_1)) + t139)⟩ : S48)]) := ⟨_, rfl⟩
                  replace H : (spec_SpansRead.l0 kj10 a0 t126 y143 (wrap64 ((wrap64 (t134 + x6_1)) + t139)) (wrap64 (x7_1 + 1)) t140 t141 true) = some (r1, r2) := by first | (rw [hy143]; with_reducible exact H) | (have H2_ := (Option.bind_some _ _).symm.trans H; rw [hy143]; with_reducible exact H2_) | (have H2_ := (Option.bind_some _ _).symm.trans H; with_reducible exact H2_) | with_reducible exact H | (rw [hy143]; exact H) | exact H
                  have Ny143 := Aside0.mk hy143
                  clear hy143
                  have H' := Aside0.mk H
                  clear H
                  try go_wp2_with (first | ((with_reducible refine gate_callee (f := 32) rfl ?_); refine goesL_ (some 36) rfl rfl Try.func32 (by kernel_rfl) rfl #[.pointer (some ⟨gb125, 0, none⟩)] rfl (by (try simp only [List.map_toArray, List.map_cons, List.map_nil]); first | done | rfl | (simp only [List.length_drop, List.length_take]; rfl)) ?_; (with_reducible refine (spec_l02Reader_num.calls kj10 gb125 x126000_1 x126001_1 x126002_1 t134 t135 t136 t137 w _ ?side1 ?side2 A16.out).mono ?_); (case side1 => repeat (first | (with_reducible first | exact HI125.out | apply IsS55.alloc | apply IsS55.drewN | apply IsS55.drew | apply IsS55.set_0 | apply IsS55.set_1 | apply IsS55.set_2 | (first | refine IsS55.far ?_ NB125_124.out _ | apply IsS55.far (p := ⟨gb124, _, none⟩) (hne := NB125_124.out))) | exact HI125.out)); (case side2 => repeat (first | (with_reducible first | exact HB.out | apply below_alloc | apply pw_below_drewN | apply below_drew1 | refine below_set ?_ (IsS55.ge HI125.out) | refine below_set ?_ GE124.out) | exact HB.out)); rintro e w20 ⟨rfl, hi, hb, hk⟩; refine ⟨_, rfl, ?_⟩; have n0_ := Aside0.mk (Kd.R_mono (Kd.R_keep (IsS55.apart (show IsS55 w _ gb125 x126000_1 x126001_1 x126002_1 from by repeat (first | (with_reducible first | exact HI125.out | apply IsS55.alloc | apply IsS55.drewN | apply IsS55.drew | apply IsS55.set_0 | apply IsS55.set_1 | apply IsS55.set_2 | (first | refine IsS55.far ?_ NB125_124.out _ | apply IsS55.far (p := ⟨gb124, _, none⟩) (hne := NB125_124.out))) | exact HI125.out)) (by (with_reducible repeat (first | apply Kd.R_alloc | apply Kd.R_drewN | apply Kd.R_drew)); exact HO_5.out) (by decide)) hk (fun _ h => h.2)) (fun _ h => h.1)); have n1_ := Aside0.mk (KeepBut.blk hk (g' := gb124) (o := .cells #[.slice none 0 0, .int .i64 0] 30 (0, 0)) (by (with_reducible repeat (first | refine blk_drewN ?_ _ | refine blk_drew ?_ | refine blk_alloc ?_ _)); exact BK124.out) NB124_125.out (by simp)); have n2_ := Aside0.mk (hb); have n3_ := Aside0.mk (hi); clear HO_5; clear BK124; clear HB; clear HI125; have HO_5 := n0_; have BK124 := n1_; have HB := n2_; have HI125 := n3_; clear n0_ n1_ n2_ n3_; (try clear hb); (try clear hb2); (try clear hk); (try clear hi)) | ((with_reducible refine gate_dst (N := 8) rfl ?_); refine box_event ?hg (N := 8) ?hd (cs := #[.int .i64 0, .int .i64 0]) (t := 48) ?hr ?_; (case hd => rfl); (case hg => rfl); (case hr => first | (go_simp; done) | (go_simp; rfl)); intro gb138 hg w21 hbox hb; have n0_ := Aside0.mk (Kd.R_below (Kd.R_elderB (by (with_reducible repeat (first | apply Kd.R_alloc | apply Kd.R_drewN | apply Kd.R_drew)); exact HO_5.out) gb138 (Nat.le_of_eq hg.symm)) hb); have n1_ := Aside0.mk (blk_below (g := gb124) (o := .cells #[.slice none 0 0, .int .i64 0] 30 (0, 0)) (by (with_reducible repeat (first | refine blk_drewN ?_ _ | refine blk_drew ?_ | refine blk_alloc ?_ _)); exact BK124.out) hb); have n2_ := Aside0.mk (IsS55.below (by repeat (first | (with_reducible first | exact HI125.out | apply IsS55.alloc | apply IsS55.drewN | apply IsS55.drew | apply IsS55.set_0 | apply IsS55.set_1 | apply IsS55.set_2 | (first | refine IsS55.far ?_ NB125_124.out _ | apply IsS55.far (p := ⟨gb124, _, none⟩) (hne := NB125_124.out))) | exact HI125.out)) hb); have n3_ := Aside0.mk (below_step (by repeat (first | (with_reducible first | exact HB.out | apply below_alloc | apply pw_below_drewN | apply below_drew1 | refine below_set ?_ (IsS55.ge HI125.out) | refine below_set ?_ GE124.out) | exact HB.out)) hb); have n4_ := Aside0.mk (hbox); have n5_ := Aside0.mk ((by rw [hg]; exact (below_size (by repeat (first | (with_reducible first | exact HB.out | apply below_alloc | apply pw_below_drewN | apply below_drew1 | refine below_set ?_ (IsS55.ge HI125.out) | refine below_set ?_ GE124.out) | exact HB.out))) : w.heap.size ≤ gb138)); have n6_ := Aside0.mk ((by rw [hg]; exact (below_size (by repeat (first | (with_reducible first | exact HB.out | apply below_alloc | apply pw_below_drewN | apply below_drew1 | refine below_set ?_ (IsS55.ge HI125.out) | refine below_set ?_ GE124.out) | exact HB.out))) : w.heap.size ≤ gb138)); have n7_ := Aside0.mk ((by rw [hg]; exact Nat.ne_of_lt (blk_lt (g := gb124) (o := .cells #[.slice none 0 0, .int .i64 0] 30 (0, 0)) (by (with_reducible repeat (first | refine blk_drewN ?_ _ | refine blk_drew ?_ | refine blk_alloc ?_ _)); exact BK124.out)) : gb124 ≠ gb138)); have n8_ := Aside0.mk ((by rw [hg]; exact Nat.ne_of_gt (blk_lt (g := gb124) (o := .cells #[.slice none 0 0, .int .i64 0] 30 (0, 0)) (by (with_reducible repeat (first | refine blk_drewN ?_ _ | refine blk_drew ?_ | refine blk_alloc ?_ _)); exact BK124.out)) : gb138 ≠ gb124)); have n9_ := Aside0.mk ((by rw [hg]; exact Nat.ne_of_lt (IsS55.lt (show IsS55 w _ gb125 t135 t136 t137 from by repeat (first | (with_reducible first | exact HI125.out | apply IsS55.alloc | apply IsS55.drewN | apply IsS55.drew | apply IsS55.set_0 | apply IsS55.set_1 | apply IsS55.set_2 | (first | refine IsS55.far ?_ NB125_124.out _ | apply IsS55.far (p := ⟨gb124, _, none⟩) (hne := NB125_124.out))) | exact HI125.out))) : gb125 ≠ gb138)); have n10_ := Aside0.mk ((by rw [hg]; exact Nat.ne_of_gt (IsS55.lt (show IsS55 w _ gb125 t135 t136 t137 from by repeat (first | (with_reducible first | exact HI125.out | apply IsS55.alloc | apply IsS55.drewN | apply IsS55.drew | apply IsS55.set_0 | apply IsS55.set_1 | apply IsS55.set_2 | (first | refine IsS55.far ?_ NB125_124.out _ | apply IsS55.far (p := ⟨gb124, _, none⟩) (hne := NB125_124.out))) | exact HI125.out))) : gb138 ≠ gb125)); clear HO_5; clear BK124; clear HI125; clear HB; have HO_5 := n0_; have BK124 := n1_; have HI125 := n2_; have HB := n3_; have BK138 := n4_; have GW138 := n5_; have GE138 := n6_; have NB124_138 := n7_; have NB138_124 := n8_; have NB125_138 := n9_; have NB138_125 := n10_; clear n0_ n1_ n2_ n3_ n4_ n5_ n6_ n7_ n8_ n9_ n10_; clear hb hbox hg; have hnb22 := NB138_124.out; have hnc22 := NB124_138.out; have hnb23 := NB138_125.out; have hnc23 := NB125_138.out; have hcz24_0 : w21.cell? ⟨gb138, 0, none⟩ = some (.int .i64 0) := (blk_cell BK138.out 0).trans rfl; have hcz24_1 : w21.cell? ⟨gb138, 1, none⟩ = some (.int .i64 0) := (blk_cell BK138.out 1).trans rfl; have hfz24_0 := blk_frozen BK138.out 0; have hfz24_1 := blk_frozen BK138.out 1))
                  have n0_ : Aside0 (Kd.R k48 48 ((w21.setCell ⟨gb138, 0, none⟩ (.int .i64 (wrap64 (t134 + x6_1)))).setCell ⟨gb138, 1, none⟩ (.int .i64 0)) w.heap.size (fun k_ => k_ ≠ gb138) u5 x5_1) := ⟨by (with_reducible repeat (first | apply Kd.R_alloc | apply Kd.R_drewN | apply Kd.R_drew)); exact Kd.R_mono (Kd.R_far (p := ⟨gb138, 1, none⟩) (Kd.R_far (p := ⟨gb138, 0, none⟩) (Kd.R_mono HO_5.out (fun k_ hk => (⟨hk, hk.2⟩ : _ ∧ k_ ≠ gb138))) (fun _ hk => hk.2) (.int .i64 (wrap64 (t134 + x6_1)))) (fun _ hk => hk.2) (.int .i64 0)) (fun _ hk => hk.1.2)⟩
                  have n1_ : Aside0 (((w21.setCell ⟨gb138, 0, none⟩ (.int .i64 (wrap64 (t134 + x6_1)))).setCell ⟨gb138, 1, none⟩ (.int .i64 0)).heap[gb124]? = some (.cells #[.slice none 0 0, .int .i64 0] 30 (0, 0))) := ⟨by (with_reducible repeat (first | refine blk_drewN ?_ _ | refine blk_drew ?_ | refine blk_alloc ?_ _)); refine blk_far ?_ NB124_138.out _; (with_reducible repeat (first | refine blk_drewN ?_ _ | refine blk_drew ?_ | refine blk_alloc ?_ _)); refine blk_far ?_ NB124_138.out _; (with_reducible repeat (first | refine blk_drewN ?_ _ | refine blk_drew ?_ | refine blk_alloc ?_ _)); exact BK124.out⟩
                  have n2_ : Aside0 (((w21.setCell ⟨gb138, 0, none⟩ (.int .i64 (wrap64 (t134 + x6_1)))).setCell ⟨gb138, 1, none⟩ (.int .i64 0)).heap[gb138]? = some (.cells #[.int .i64 (wrap64 (t134 + x6_1)), .int .i64 0] 48 (0, 0))) := ⟨by (with_reducible repeat (first | refine blk_drewN ?_ _ | refine blk_drew ?_ | refine blk_alloc ?_ _)); refine blk_put (cs := #[.int .i64 (wrap64 (t134 + x6_1)), .int .i64 0]) ?_ 1 _ rfl; (with_reducible repeat (first | refine blk_drewN ?_ _ | refine blk_drew ?_ | refine blk_alloc ?_ _)); refine blk_put (cs := #[.int .i64 0, .int .i64 0]) ?_ 0 _ rfl; (with_reducible repeat (first | refine blk_drewN ?_ _ | refine blk_drew ?_ | refine blk_alloc ?_ _)); exact BK138.out⟩
                  have n3_ : Aside0 (IsS55 w ((w21.setCell ⟨gb138, 0, none⟩ (.int .i64 (wrap64 (t134 + x6_1)))).setCell ⟨gb138, 1, none⟩ (.int .i64 0)) gb125 t135 t136 t137) := ⟨by repeat (first | (with_reducible first | exact HI125.out | apply IsS55.alloc | apply IsS55.drewN | apply IsS55.drew | apply IsS55.set_0 | apply IsS55.set_1 | apply IsS55.set_2 | (first | refine IsS55.far ?_ NB125_124.out _ | apply IsS55.far (p := ⟨gb124, _, none⟩) (hne := NB125_124.out)) | (first | refine IsS55.far ?_ NB125_138.out _ | apply IsS55.far (p := ⟨gb138, _, none⟩) (hne := NB125_138.out))) | exact HI125.out)⟩
                  have n4_ : Aside0 (Below w.heap.size w ((w21.setCell ⟨gb138, 0, none⟩ (.int .i64 (wrap64 (t134 + x6_1)))).setCell ⟨gb138, 1, none⟩ (.int .i64 0))) := ⟨by repeat (first | (with_reducible first | exact HB.out | apply below_alloc | apply pw_below_drewN | apply below_drew1 | refine below_set ?_ (IsS55.ge HI125.out) | refine below_set ?_ GE124.out | refine below_set ?_ GE138.out) | exact HB.out)⟩
                  (try clear HO_5)
                  (try clear BK124)
                  (try clear BK138)
                  (try clear HI125)
                  (try clear HB)
                  generalize ((w21.setCell ⟨gb138, 0, none⟩ (.int .i64 (wrap64 (t134 + x6_1)))).setCell ⟨gb138, 1, none⟩ (.int .i64 0)) = w25 at n0_ n1_ n2_ n3_ n4_ ⊢
                  have HO_5 := n0_
                  have BK124 := n1_
                  have BK138 := n2_
                  have HI125 := n3_
                  have HB := n4_
                  clear n0_ n1_ n2_ n3_ n4_
                  have n0_ := Aside0.mk (Kd.R_drew HO_5.out)
                  have n1_ := Aside0.mk (blk_drew BK124.out)
                  have n2_ := Aside0.mk (blk_drew BK138.out)
                  have n3_ := Aside0.mk (IsS55.drew HI125.out)
                  have n4_ := Aside0.mk (below_drew1 HB.out)
                  clear HO_5
                  clear BK124
                  clear BK138
                  clear HI125
                  clear HB
                  have HO_5 := n0_
                  have BK124 := n1_
                  have BK138 := n2_
                  have HI125 := n3_
                  have HB := n4_
                  clear n0_ n1_ n2_ n3_ n4_
                  refine start_ (n := 7) (S := fun w' => w'.cell? ⟨gb138, 0, none⟩ = some (.int .i64 (wrap64 (t134 + x6_1)))) (ds := []) #[false, false, false, false, false, false, false] (by kernel_rfl) rfl rfl ((blk_cell BK138.out 0).trans rfl) (fun hHeld => ?_)
                  generalize w25.drew = w26 at HO_5 BK124 BK138 HI125 HB hHeld ⊢
                  refine pure_ (i := 0) (N := some 40) (v := ?_) (a' := ?_) #[true, false, false, false, false, false, false] rfl rfl (by kernel_rfl) (fun _ _ _ h => h) (Or.inl ⟨by rfl, ?_⟩) ?_ ?_
                  rotate_left
                  · intro w'
                    go_simp
                    with_reducible rfl
                  rotate_left
                  · simp only [Act.put, List.setIfInBounds_toArray, List.set_cons_zero, List.set_cons_succ, i64_w, i32_w]
                    rfl
                  refine pure_ (i := 2) (N := some 42) (v := ?_) (a' := ?_) #[true, false, true, false, false, false, false] rfl rfl (by kernel_rfl) (fun _ _ _ h => h) (Or.inl ⟨by rfl, ?_⟩) ?_ ?_
                  rotate_left
                  · intro w'
                    go_simp
                    with_reducible rfl
                  rotate_left
                  · simp only [Act.put, List.setIfInBounds_toArray, List.set_cons_zero, List.set_cons_succ, i64_w, i32_w]
                    rfl
                  refine take_ (i := 1) (N := some 41) (v := ?_) (a' := ?_) #[true, true, true, false, false, false, false] rfl rfl (by kernel_rfl) (fun _ _ _ h => h) (Or.inl ⟨by rfl, ?_⟩) hHeld ?_ ?_
                  rotate_left
                  · intro w' s0
                    go_simp
                    with_reducible rfl
                  rotate_left
                  · simp only [Act.put, List.setIfInBounds_toArray, List.set_cons_zero, List.set_cons_succ, i64_w, i32_w]
                    rfl
                  refine one_ (i := 3) (N := some 43) #[true, true, true, true, false, false, false] rfl rfl (by kernel_rfl) (by decide) (fun K hK => ?_)
                  refine goes_ Try.func32 (by kernel_rfl) rfl #[.pointer (some ⟨gb125, 0, none⟩)] (by rfl) rfl rfl (by (try simp only [List.map_toArray, List.map_cons, List.map_nil]); first | done | rfl | (simp only [List.length_drop, List.length_take]; rfl)) ?_
                  with_reducible refine (spec_l02Reader_num.calls kj10 gb125 t135 t136 t137 t139 t140 t141 true w _ ?side1 ?side2 A17.out).mono ?_
                  (case side1 => repeat (first | (with_reducible first | exact HI125.out | apply IsS55.alloc | apply IsS55.drewN | apply IsS55.drew | apply IsS55.set_0 | apply IsS55.set_1 | apply IsS55.set_2 | (first | refine IsS55.far ?_ NB125_124.out _ | apply IsS55.far (p := ⟨gb124, _, none⟩) (hne := NB125_124.out)) | (first | refine IsS55.far ?_ NB125_138.out _ | apply IsS55.far (p := ⟨gb138, _, none⟩) (hne := NB125_138.out))) | exact HI125.out))
                  (case side2 => repeat (first | (with_reducible first | exact HB.out | apply below_alloc | apply pw_below_drewN | apply below_drew1 | refine below_set ?_ (IsS55.ge HI125.out) | refine below_set ?_ GE124.out | refine below_set ?_ GE138.out) | exact HB.out))
                  rintro e w27 ⟨rfl, hi, hb, hk⟩
                  refine ⟨_, rfl, ?_⟩
                  have n0_ := Aside0.mk (Kd.R_mono (Kd.R_keep (IsS55.apart (show IsS55 w _ gb125 t135 t136 t137 from by repeat (first | (with_reducible first | exact HI125.out | apply IsS55.alloc | apply IsS55.drewN | apply IsS55.drew | apply IsS55.set_0 | apply IsS55.set_1 | apply IsS55.set_2 | (first | refine IsS55.far ?_ NB125_124.out _ | apply IsS55.far (p := ⟨gb124, _, none⟩) (hne := NB125_124.out)) | (first | refine IsS55.far ?_ NB125_138.out _ | apply IsS55.far (p := ⟨gb138, _, none⟩) (hne := NB125_138.out))) | exact HI125.out)) (by (with_reducible repeat (first | apply Kd.R_alloc | apply Kd.R_drewN | apply Kd.R_drew)); exact HO_5.out) (by decide)) hk (fun _ h => h.2)) (fun _ h => h.1))
                  have n1_ := Aside0.mk (KeepBut.blk hk (g' := gb124) (o := .cells #[.slice none 0 0, .int .i64 0] 30 (0, 0)) (by (with_reducible repeat (first | refine blk_drewN ?_ _ | refine blk_drew ?_ | refine blk_alloc ?_ _)); exact BK124.out) NB124_125.out (by simp))
                  have n2_ := Aside0.mk (KeepBut.blk hk (g' := gb138) (o := .cells #[.int .i64 (wrap64 (t134 + x6_1)), .int .i64 0] 48 (0, 0)) (by (with_reducible repeat (first | refine blk_drewN ?_ _ | refine blk_drew ?_ | refine blk_alloc ?_ _)); exact BK138.out) NB138_125.out (by simp))
                  have n3_ := Aside0.mk (hb)
                  have n4_ := Aside0.mk (hi)
                  clear HO_5
                  clear BK124
                  clear BK138
                  clear HB
                  clear HI125
                  have HO_5 := n0_
                  have BK124 := n1_
                  have BK138 := n2_
                  have HB := n3_
                  have HI125 := n4_
                  clear n0_ n1_ n2_ n3_ n4_
                  (try clear hb)
                  (try clear hb2)
                  (try clear hk)
                  (try clear hi)
                  refine hK.out _ _ ((blk_cell BK138.out 0).trans rfl) (fun hHeld => ?_)
                  clear hK K
                  refine norm_ (a' := ?_) ?_ ?_
                  rotate_left
                  · show Act.put _ (some 43) _ = _
                    simp only [Act.put, List.setIfInBounds_toArray, List.set_cons_zero, List.set_cons_succ, i64_w, i32_w]
                    rfl
                  refine pure_ (i := 4) (N := some 44) (v := ?_) (a' := ?_) #[true, true, true, true, true, false, false] rfl rfl (by kernel_rfl) (fun _ _ _ h => h) (Or.inl ⟨by rfl, ?_⟩) ?_ ?_
                  rotate_left
                  · intro w'
                    go_simp
                    with_reducible rfl
                  rotate_left
                  · simp only [Act.put, List.setIfInBounds_toArray, List.set_cons_zero, List.set_cons_succ, i64_w, i32_w]
                    rfl
                  refine pure_ (i := 5) (N := some 45) (v := ?_) (a' := ?_) #[true, true, true, true, true, true, false] rfl rfl (by kernel_rfl) (fun _ _ _ h => h) (Or.inl ⟨by rfl, ?_⟩) ?_ ?_
                  rotate_left
                  · intro w'
                    go_simp
                    with_reducible rfl
                  rotate_left
                  · simp only [Act.put, List.setIfInBounds_toArray, List.set_cons_zero, List.set_cons_succ, i64_w, i32_w]
                    rfl
                  refine one_ (i := 6) (N := none) #[true, true, true, true, true, true, true] rfl rfl (by kernel_rfl) (by decide) (fun K hK => ?_)
                  have hs28 : w27.cell? ⟨gb138, 1, none⟩ = some (.int .i64 0) := (blk_cell BK138.out 1).trans rfl
                  have hfs28 := blk_frozen BK138.out 1
                  have hns28_0 := NB124_138.out
                  have hms28_0 := NB138_124.out
                  refine skip_ (w1 := ?_) (by rfl) rfl ?_ ?_
                  rotate_left
                  · go_simp
                    rfl
                  refine hK.out _ _ (((World.cell?_setCell_other _ _ _ _ (by simp)).trans (hHeld))) (fun hHeld => ?_)
                  clear hK K
                  refine done_ (by kernel_rfl) ?_
                  obtain ⟨HGz29, hgz29⟩ := HI125.out
                  have hcz29_0 := cellS55_0 HGz29
                  have hcz29_1 := cellS55_1 HGz29
                  have hcz29_2 := cellS55_2 HGz29
                  have hfz29_0 := blk_frozen HGz29 0
                  have hfz29_1 := blk_frozen HGz29 1
                  have hfz29_2 := blk_frozen HGz29 2
                  clear HGz29 hgz29
                  have hcz30_0 : w27.cell? ⟨gb138, 0, none⟩ = some (.int .i64 (wrap64 (t134 + x6_1))) := (blk_cell BK138.out 0).trans rfl
                  have hcz30_1 : w27.cell? ⟨gb138, 1, none⟩ = some (.int .i64 0) := (blk_cell BK138.out 1).trans rfl
                  have hfz30_0 := blk_frozen BK138.out 0
                  have hfz30_1 := blk_frozen BK138.out 1
                  try go_wp2_with (first | ((with_reducible refine gate_builtin (b := .append) (xs := #[.tmp 67, .tmp 69]) rfl ?_); at_builtin; refine Kd.R_append k48 (w0 := w) w.heap.size rfl (.tmp 67) (.tmp 69) 25 48 (.agg #[(.int .i64 0), (.int .i64 0)]) 16 rfl Try.underlying25 info48 rfl (by decide) (by omega) u5 x5_1 (⟨wrap64 (t134 + x6_1), wrap64 ((wrap64 (t134 + x6_1)) + t139)⟩ : S48) [.int .i64 (wrap64 (t134 + x6_1)), .int .i64 (wrap64 ((wrap64 (t134 + x6_1)) + t139))] (fun k_ => k_ ≠ gb138) (fun _ => False) rfl (by first | (go_simp; done) | (go_simp; rfl)) ?aP (fun _ hk => hk.elim) ?aF ?aO ?aB ?aS ?aL ?_; (case aP => exact k48_mkM _ _ _ (⟨wrap64 (t134 + x6_1), wrap64 ((wrap64 (t134 + x6_1)) + t139)⟩ : S48)); (case aB => exact (by repeat (first | (with_reducible first | exact HB.out | apply below_alloc | apply pw_below_drewN | apply below_drew1 | refine below_set ?_ (IsS55.ge HI125.out) | refine below_set ?_ GE124.out | refine below_set ?_ GE138.out) | exact HB.out))); (case aF => exact (fun k_ hk => Kd.freshB (g := gb138) (o := .cells #[.int .i64 (wrap64 (t134 + x6_1)), .int .i64 (wrap64 ((wrap64 (t134 + x6_1)) + t139))] 48 (0, 0)) (by (with_reducible repeat (first | refine blk_drewN ?_ _ | refine blk_drew ?_ | refine blk_alloc ?_ _)); refine blk_far ?_ NB138_125.out _; (with_reducible repeat (first | refine blk_drewN ?_ _ | refine blk_drew ?_ | refine blk_alloc ?_ _)); refine blk_put (cs := #[.int .i64 (wrap64 (t134 + x6_1)), .int .i64 0]) ?_ 1 _ rfl; (with_reducible repeat (first | refine blk_drewN ?_ _ | refine blk_drew ?_ | refine blk_alloc ?_ _)); exact BK138.out) k_ hk)); (case aO => exact (by (with_reducible repeat (first | apply Kd.R_alloc | apply Kd.R_drewN | apply Kd.R_drew)); exact Kd.R_mono (Kd.R_far (p := ⟨gb125, 2, none⟩) (Kd.R_far (p := ⟨gb138, 1, none⟩) (IsS55.apart HI125.out (Kd.R_mono HO_5.out (fun k_ hk => (⟨hk, hk⟩ : _ ∧ k_ ≠ gb138))) (by decide)) (fun _ hk => hk.1.2) (.int .i64 (wrap64 ((wrap64 (t134 + x6_1)) + t139)))) (fun _ hk => hk.2) (.bool true)) (fun _ hk => hk.1.1))); (case aS => exact (below_size (by repeat (first | (with_reducible first | exact HB.out | apply below_alloc | apply pw_below_drewN | apply below_drew1 | refine below_set ?_ (IsS55.ge HI125.out) | refine below_set ?_ GE124.out | refine below_set ?_ GE138.out) | exact HB.out)))); (case aL => have := LMc19.out; omega); intro v144 w31 ho hb hg hat; rw [← Ny143.out] at ho; have n0_ := Aside0.mk (blk_grown (g := gb124) (o := .cells #[.slice none 0 0, .int .i64 0] 30 (0, 0)) (by (with_reducible repeat (first | refine blk_drewN ?_ _ | refine blk_drew ?_ | refine blk_alloc ?_ _)); refine blk_far ?_ NB124_125.out _; (with_reducible repeat (first | refine blk_drewN ?_ _ | refine blk_drew ?_ | refine blk_alloc ?_ _)); refine blk_far ?_ NB124_138.out _; (with_reducible repeat (first | refine blk_drewN ?_ _ | refine blk_drew ?_ | refine blk_alloc ?_ _)); exact BK124.out) hg (Kd.R_ne HO_5.out BK124.out (by decide))); have n1_ := Aside0.mk (IsS55.grown (by repeat (first | (with_reducible first | exact HI125.out | apply IsS55.alloc | apply IsS55.drewN | apply IsS55.drew | apply IsS55.set_0 | apply IsS55.set_1 | apply IsS55.set_2 | (first | refine IsS55.far ?_ NB125_124.out _ | apply IsS55.far (p := ⟨gb124, _, none⟩) (hne := NB125_124.out)) | (first | refine IsS55.far ?_ NB125_138.out _ | apply IsS55.far (p := ⟨gb138, _, none⟩) (hne := NB125_138.out))) | exact HI125.out)) hg (IsS55.own_ne HI125.out HO_5.out (by decide))); have n2_ := Aside0.mk (blk_grown (g := gb138) (o := .cells #[.int .i64 (wrap64 (t134 + x6_1)), .int .i64 (wrap64 ((wrap64 (t134 + x6_1)) + t139))] 48 (0, 0)) (by (with_reducible repeat (first | refine blk_drewN ?_ _ | refine blk_drew ?_ | refine blk_alloc ?_ _)); refine blk_far ?_ NB138_125.out _; (with_reducible repeat (first | refine blk_drewN ?_ _ | refine blk_drew ?_ | refine blk_alloc ?_ _)); refine blk_put (cs := #[.int .i64 (wrap64 (t134 + x6_1)), .int .i64 0]) ?_ 1 _ rfl; (with_reducible repeat (first | refine blk_drewN ?_ _ | refine blk_drew ?_ | refine blk_alloc ?_ _)); exact BK138.out) hg (Kd.R_away HO_5.out (fun _ hk => hk))); have n3_ := Aside0.mk (hb); have n4_ := Aside0.mk (ho); clear BK124; clear HI125; clear BK138; clear HB; clear HO_5; have BK124 := n0_; have HI125 := n1_; have BK138 := n2_; have HB := n3_; have HO145 := n4_; clear n0_ n1_ n2_ n3_ n4_; clear ho hb hg hat))
                  go_roundg kj10
                  case measure => have := HK1.out; have := HJ10.out; omega
                  case rel => exact ⟨(y143), (wrap64 ((wrap64 (t134 + x6_1)) + t139)), (wrap64 (x7_1 + 1)), (t140), (t141), (true), (by first | rfl | (simp; done) | (simp [*]; done)), (by first | rfl | (simp; done) | (simp [*]; done)), H', ⟨by have := HK1.out; have := HJ10.out; omega⟩, ⟨by (with_reducible repeat (first | apply Kd.R_alloc | apply Kd.R_drewN | apply Kd.R_drew)); exact Kd.R_mono HO145.out (fun _ hk => trivial)⟩, ⟨by (with_reducible repeat (first | refine blk_drewN ?_ _ | refine blk_drew ?_ | refine blk_alloc ?_ _)); exact BK124.out⟩, ⟨by repeat (first | (with_reducible first | exact HI125.out | apply IsS55.alloc | apply IsS55.drewN | apply IsS55.drew | apply IsS55.set_0 | apply IsS55.set_1 | apply IsS55.set_2 | (first | refine IsS55.far ?_ NB125_124.out _ | apply IsS55.far (p := ⟨gb124, _, none⟩) (hne := NB125_124.out)) | (first | refine IsS55.far ?_ NB125_138.out _ | apply IsS55.far (p := ⟨gb138, _, none⟩) (hne := NB125_138.out))) | exact HI125.out)⟩, ⟨by repeat (first | (with_reducible first | exact HB.out | apply below_alloc | apply pw_below_drewN | apply below_drew1 | refine below_set ?_ (IsS55.ge HI125.out) | refine below_set ?_ GE124.out | refine below_set ?_ GE138.out) | exact HB.out)⟩⟩
                · rw [if_neg c19] at H
                  exact absurd H (by simp)
              · replace c18 := Bool.eq_false_iff.mpr c18
                subst c18
                have H1 : ((spec_l02Id.f (wrap64 (t134 + x6_1))).bind fun t146 => (if t146 = true then ((spec_l02Id.f (wrap64 ((wrap64 (t134 + x6_1)) + t139))).bind fun t147 => (if x5_1.length < 8796093022208 then (spec_SpansRead.l0 kj10 a0 t126 (x5_1 ++ [(⟨wrap64 (t134 + x6_1), wrap64 ((wrap64 (t134 + x6_1)) + t139)⟩ : S48)]) (wrap64 ((wrap64 (t134 + x6_1)) + t139)) (wrap64 (x7_1 + 1)) t140 t141 (!t147)) else (none))) else (if x5_1.length < 8796093022208 then (spec_SpansRead.l0 kj10 a0 t126 (x5_1 ++ [(⟨wrap64 (t134 + x6_1), wrap64 ((wrap64 (t134 + x6_1)) + t139)⟩ : S48)]) (wrap64 ((wrap64 (t134 + x6_1)) + t139)) (wrap64 (x7_1 + 1)) t140 t141 true) else (none)))) = some (r1, r2) := by rw [if_neg (show ¬ (false = true) by decide)] at H; exact H
                clear H
                have H := H1
                clear H1
                replace H := Option.bind_eq_some_iff.mp H
                obtain ⟨t146, A320, H⟩ := H
                replace H : (if t146 = true then ((spec_l02Id.f (wrap64 ((wrap64 (t134 + x6_1)) + t139))).bind fun t147 => (if x5_1.length < 8796093022208 then (spec_SpansRead.l0 kj10 a0 t126 (x5_1 ++ [(⟨wrap64 (t134 + x6_1), wrap64 ((wrap64 (t134 + x6_1)) + t139)⟩ : S48)]) (wrap64 ((wrap64 (t134 + x6_1)) + t139)) (wrap64 (x7_1 + 1)) t140 t141 (!t147)) else (none))) else (if x5_1.length < 8796093022208 then (spec_SpansRead.l0 kj10 a0 t126 (x5_1 ++ [(⟨wrap64 (t134 + x6_1), wrap64 ((wrap64 (t134 + x6_1)) + t139)⟩ : S48)]) (wrap64 ((wrap64 (t134 + x6_1)) + t139)) (wrap64 (x7_1 + 1)) t140 t141 true) else (none))) = some (r1, r2) := H
                have A32 := Aside0.mk A320
                clear A320
                by_cases c33 : t146 = true
                · subst c33
                  have H1 : ((spec_l02Id.f (wrap64 ((wrap64 (t134 + x6_1)) + t139))).bind fun t147 => (if x5_1.length < 8796093022208 then (spec_SpansRead.l0 kj10 a0 t126 (x5_1 ++ [(⟨wrap64 (t134 + x6_1), wrap64 ((wrap64 (t134 + x6_1)) + t139)⟩ : S48)]) (wrap64 ((wrap64 (t134 + x6_1)) + t139)) (wrap64 (x7_1 + 1)) t140 t141 (!t147)) else (none))) = some (r1, r2) := by rw [if_pos rfl] at H; exact H
                  clear H
                  have H := H1
                  clear H1
                  replace H := Option.bind_eq_some_iff.mp H
                  obtain ⟨t147, A340, H⟩ := H
                  replace H : (if x5_1.length < 8796093022208 then (spec_SpansRead.l0 kj10 a0 t126 (x5_1 ++ [(⟨wrap64 (t134 + x6_1), wrap64 ((wrap64 (t134 + x6_1)) + t139)⟩ : S48)]) (wrap64 ((wrap64 (t134 + x6_1)) + t139)) (wrap64 (x7_1 + 1)) t140 t141 (!t147)) else (none)) = some (r1, r2) := H
                  have A34 := Aside0.mk A340
                  clear A340
                  by_cases c35 : x5_1.length < 8796093022208
                  · rw [if_pos c35] at H
                    have LMc35 := Aside0.mk c35
                    clear c35
                    obtain ⟨y148, hy148⟩ : ∃ y_ : List (S48), y_ = (x5_1 ++ [(⟨wrap64 (t134 + x6_1), wrap64 ((wrap64 (t134 + x6_1)) + t139)⟩ : S48)]) := ⟨_, rfl⟩
                    replace H : (spec_SpansRead.l0 kj10 a0 t126 y148 (wrap64 ((wrap64 (t134 + x6_1)) + t139)) (wrap64 (x7_1 + 1)) t140 t141 (!t147)) = some (r1, r2) := by first | (rw [hy148]; with_reducible exact H) | (have H2_ := (Option.bind_some _ _).symm.trans H; rw [hy148]; with_reducible exact H2_) | (have H2_ := (Option.bind_some _ _).symm.trans H; with_reducible exact H2_) | with_reducible exact H | (rw [hy148]; exact H) | exact H
                    have Ny148 := Aside0.mk hy148
                    clear hy148
                    have H' := Aside0.mk H
                    clear H
                    try go_wp2_with (first | ((with_reducible refine gate_callee (f := 32) rfl ?_); refine goesL_ (some 36) rfl rfl Try.func32 (by kernel_rfl) rfl #[.pointer (some ⟨gb125, 0, none⟩)] rfl (by (try simp only [List.map_toArray, List.map_cons, List.map_nil]); first | done | rfl | (simp only [List.length_drop, List.length_take]; rfl)) ?_; (with_reducible refine (spec_l02Reader_num.calls kj10 gb125 x126000_1 x126001_1 x126002_1 t134 t135 t136 t137 w _ ?side1 ?side2 A16.out).mono ?_); (case side1 => repeat (first | (with_reducible first | exact HI125.out | apply IsS55.alloc | apply IsS55.drewN | apply IsS55.drew | apply IsS55.set_0 | apply IsS55.set_1 | apply IsS55.set_2 | (first | refine IsS55.far ?_ NB125_124.out _ | apply IsS55.far (p := ⟨gb124, _, none⟩) (hne := NB125_124.out))) | exact HI125.out)); (case side2 => repeat (first | (with_reducible first | exact HB.out | apply below_alloc | apply pw_below_drewN | apply below_drew1 | refine below_set ?_ (IsS55.ge HI125.out) | refine below_set ?_ GE124.out) | exact HB.out)); rintro e w36 ⟨rfl, hi, hb, hk⟩; refine ⟨_, rfl, ?_⟩; have n0_ := Aside0.mk (Kd.R_mono (Kd.R_keep (IsS55.apart (show IsS55 w _ gb125 x126000_1 x126001_1 x126002_1 from by repeat (first | (with_reducible first | exact HI125.out | apply IsS55.alloc | apply IsS55.drewN | apply IsS55.drew | apply IsS55.set_0 | apply IsS55.set_1 | apply IsS55.set_2 | (first | refine IsS55.far ?_ NB125_124.out _ | apply IsS55.far (p := ⟨gb124, _, none⟩) (hne := NB125_124.out))) | exact HI125.out)) (by (with_reducible repeat (first | apply Kd.R_alloc | apply Kd.R_drewN | apply Kd.R_drew)); exact HO_5.out) (by decide)) hk (fun _ h => h.2)) (fun _ h => h.1)); have n1_ := Aside0.mk (KeepBut.blk hk (g' := gb124) (o := .cells #[.slice none 0 0, .int .i64 0] 30 (0, 0)) (by (with_reducible repeat (first | refine blk_drewN ?_ _ | refine blk_drew ?_ | refine blk_alloc ?_ _)); exact BK124.out) NB124_125.out (by simp)); have n2_ := Aside0.mk (hb); have n3_ := Aside0.mk (hi); clear HO_5; clear BK124; clear HB; clear HI125; have HO_5 := n0_; have BK124 := n1_; have HB := n2_; have HI125 := n3_; clear n0_ n1_ n2_ n3_; (try clear hb); (try clear hb2); (try clear hk); (try clear hi)) | ((with_reducible refine gate_dst (N := 8) rfl ?_); refine box_event ?hg (N := 8) ?hd (cs := #[.int .i64 0, .int .i64 0]) (t := 48) ?hr ?_; (case hd => rfl); (case hg => rfl); (case hr => first | (go_simp; done) | (go_simp; rfl)); intro gb138 hg w37 hbox hb; have n0_ := Aside0.mk (Kd.R_below (Kd.R_elderB (by (with_reducible repeat (first | apply Kd.R_alloc | apply Kd.R_drewN | apply Kd.R_drew)); exact HO_5.out) gb138 (Nat.le_of_eq hg.symm)) hb); have n1_ := Aside0.mk (blk_below (g := gb124) (o := .cells #[.slice none 0 0, .int .i64 0] 30 (0, 0)) (by (with_reducible repeat (first | refine blk_drewN ?_ _ | refine blk_drew ?_ | refine blk_alloc ?_ _)); exact BK124.out) hb); have n2_ := Aside0.mk (IsS55.below (by repeat (first | (with_reducible first | exact HI125.out | apply IsS55.alloc | apply IsS55.drewN | apply IsS55.drew | apply IsS55.set_0 | apply IsS55.set_1 | apply IsS55.set_2 | (first | refine IsS55.far ?_ NB125_124.out _ | apply IsS55.far (p := ⟨gb124, _, none⟩) (hne := NB125_124.out))) | exact HI125.out)) hb); have n3_ := Aside0.mk (below_step (by repeat (first | (with_reducible first | exact HB.out | apply below_alloc | apply pw_below_drewN | apply below_drew1 | refine below_set ?_ (IsS55.ge HI125.out) | refine below_set ?_ GE124.out) | exact HB.out)) hb); have n4_ := Aside0.mk (hbox); have n5_ := Aside0.mk ((by rw [hg]; exact (below_size (by repeat (first | (with_reducible first | exact HB.out | apply below_alloc | apply pw_below_drewN | apply below_drew1 | refine below_set ?_ (IsS55.ge HI125.out) | refine below_set ?_ GE124.out) | exact HB.out))) : w.heap.size ≤ gb138)); have n6_ := Aside0.mk ((by rw [hg]; exact (below_size (by repeat (first | (with_reducible first | exact HB.out | apply below_alloc | apply pw_below_drewN | apply below_drew1 | refine below_set ?_ (IsS55.ge HI125.out) | refine below_set ?_ GE124.out) | exact HB.out))) : w.heap.size ≤ gb138)); have n7_ := Aside0.mk ((by rw [hg]; exact Nat.ne_of_lt (blk_lt (g := gb124) (o := .cells #[.slice none 0 0, .int .i64 0] 30 (0, 0)) (by (with_reducible repeat (first | refine blk_drewN ?_ _ | refine blk_drew ?_ | refine blk_alloc ?_ _)); exact BK124.out)) : gb124 ≠ gb138)); have n8_ := Aside0.mk ((by rw [hg]; exact Nat.ne_of_gt (blk_lt (g := gb124) (o := .cells #[.slice none 0 0, .int .i64 0] 30 (0, 0)) (by (with_reducible repeat (first | refine blk_drewN ?_ _ | refine blk_drew ?_ | refine blk_alloc ?_ _)); exact BK124.out)) : gb138 ≠ gb124)); have n9_ := Aside0.mk ((by rw [hg]; exact Nat.ne_of_lt (IsS55.lt (show IsS55 w _ gb125 t135 t136 t137 from by repeat (first | (with_reducible first | exact HI125.out | apply IsS55.alloc | apply IsS55.drewN | apply IsS55.drew | apply IsS55.set_0 | apply IsS55.set_1 | apply IsS55.set_2 | (first | refine IsS55.far ?_ NB125_124.out _ | apply IsS55.far (p := ⟨gb124, _, none⟩) (hne := NB125_124.out))) | exact HI125.out))) : gb125 ≠ gb138)); have n10_ := Aside0.mk ((by rw [hg]; exact Nat.ne_of_gt (IsS55.lt (show IsS55 w _ gb125 t135 t136 t137 from by repeat (first | (with_reducible first | exact HI125.out | apply IsS55.alloc | apply IsS55.drewN | apply IsS55.drew | apply IsS55.set_0 | apply IsS55.set_1 | apply IsS55.set_2 | (first | refine IsS55.far ?_ NB125_124.out _ | apply IsS55.far (p := ⟨gb124, _, none⟩) (hne := NB125_124.out))) | exact HI125.out))) : gb138 ≠ gb125)); clear HO_5; clear BK124; clear HI125; clear HB; have HO_5 := n0_; have BK124 := n1_; have HI125 := n2_; have HB := n3_; have BK138 := n4_; have GW138 := n5_; have GE138 := n6_; have NB124_138 := n7_; have NB138_124 := n8_; have NB125_138 := n9_; have NB138_125 := n10_; clear n0_ n1_ n2_ n3_ n4_ n5_ n6_ n7_ n8_ n9_ n10_; clear hb hbox hg; have hnb38 := NB138_124.out; have hnc38 := NB124_138.out; have hnb39 := NB138_125.out; have hnc39 := NB125_138.out; have hcz40_0 : w37.cell? ⟨gb138, 0, none⟩ = some (.int .i64 0) := (blk_cell BK138.out 0).trans rfl; have hcz40_1 : w37.cell? ⟨gb138, 1, none⟩ = some (.int .i64 0) := (blk_cell BK138.out 1).trans rfl; have hfz40_0 := blk_frozen BK138.out 0; have hfz40_1 := blk_frozen BK138.out 1))
                    have n0_ : Aside0 (Kd.R k48 48 ((w37.setCell ⟨gb138, 0, none⟩ (.int .i64 (wrap64 (t134 + x6_1)))).setCell ⟨gb138, 1, none⟩ (.int .i64 0)) w.heap.size (fun k_ => k_ ≠ gb138) u5 x5_1) := ⟨by (with_reducible repeat (first | apply Kd.R_alloc | apply Kd.R_drewN | apply Kd.R_drew)); exact Kd.R_mono (Kd.R_far (p := ⟨gb138, 1, none⟩) (Kd.R_far (p := ⟨gb138, 0, none⟩) (Kd.R_mono HO_5.out (fun k_ hk => (⟨hk, hk.2⟩ : _ ∧ k_ ≠ gb138))) (fun _ hk => hk.2) (.int .i64 (wrap64 (t134 + x6_1)))) (fun _ hk => hk.2) (.int .i64 0)) (fun _ hk => hk.1.2)⟩
                    have n1_ : Aside0 (((w37.setCell ⟨gb138, 0, none⟩ (.int .i64 (wrap64 (t134 + x6_1)))).setCell ⟨gb138, 1, none⟩ (.int .i64 0)).heap[gb124]? = some (.cells #[.slice none 0 0, .int .i64 0] 30 (0, 0))) := ⟨by (with_reducible repeat (first | refine blk_drewN ?_ _ | refine blk_drew ?_ | refine blk_alloc ?_ _)); refine blk_far ?_ NB124_138.out _; (with_reducible repeat (first | refine blk_drewN ?_ _ | refine blk_drew ?_ | refine blk_alloc ?_ _)); refine blk_far ?_ NB124_138.out _; (with_reducible repeat (first | refine blk_drewN ?_ _ | refine blk_drew ?_ | refine blk_alloc ?_ _)); exact BK124.out⟩
                    have n2_ : Aside0 (((w37.setCell ⟨gb138, 0, none⟩ (.int .i64 (wrap64 (t134 + x6_1)))).setCell ⟨gb138, 1, none⟩ (.int .i64 0)).heap[gb138]? = some (.cells #[.int .i64 (wrap64 (t134 + x6_1)), .int .i64 0] 48 (0, 0))) := ⟨by (with_reducible repeat (first | refine blk_drewN ?_ _ | refine blk_drew ?_ | refine blk_alloc ?_ _)); refine blk_put (cs := #[.int .i64 (wrap64 (t134 + x6_1)), .int .i64 0]) ?_ 1 _ rfl; (with_reducible repeat (first | refine blk_drewN ?_ _ | refine blk_drew ?_ | refine blk_alloc ?_ _)); refine blk_put (cs := #[.int .i64 0, .int .i64 0]) ?_ 0 _ rfl; (with_reducible repeat (first | refine blk_drewN ?_ _ | refine blk_drew ?_ | refine blk_alloc ?_ _)); exact BK138.out⟩
                    have n3_ : Aside0 (IsS55 w ((w37.setCell ⟨gb138, 0, none⟩ (.int .i64 (wrap64 (t134 + x6_1)))).setCell ⟨gb138, 1, none⟩ (.int .i64 0)) gb125 t135 t136 t137) := ⟨by repeat (first | (with_reducible first | exact HI125.out | apply IsS55.alloc | apply IsS55.drewN | apply IsS55.drew | apply IsS55.set_0 | apply IsS55.set_1 | apply IsS55.set_2 | (first | refine IsS55.far ?_ NB125_124.out _ | apply IsS55.far (p := ⟨gb124, _, none⟩) (hne := NB125_124.out)) | (first | refine IsS55.far ?_ NB125_138.out _ | apply IsS55.far (p := ⟨gb138, _, none⟩) (hne := NB125_138.out))) | exact HI125.out)⟩
                    have n4_ : Aside0 (Below w.heap.size w ((w37.setCell ⟨gb138, 0, none⟩ (.int .i64 (wrap64 (t134 + x6_1)))).setCell ⟨gb138, 1, none⟩ (.int .i64 0))) := ⟨by repeat (first | (with_reducible first | exact HB.out | apply below_alloc | apply pw_below_drewN | apply below_drew1 | refine below_set ?_ (IsS55.ge HI125.out) | refine below_set ?_ GE124.out | refine below_set ?_ GE138.out) | exact HB.out)⟩
                    (try clear HO_5)
                    (try clear BK124)
                    (try clear BK138)
                    (try clear HI125)
                    (try clear HB)
                    generalize ((w37.setCell ⟨gb138, 0, none⟩ (.int .i64 (wrap64 (t134 + x6_1)))).setCell ⟨gb138, 1, none⟩ (.int .i64 0)) = w41 at n0_ n1_ n2_ n3_ n4_ ⊢
                    have HO_5 := n0_
                    have BK124 := n1_
                    have BK138 := n2_
                    have HI125 := n3_
                    have HB := n4_
                    clear n0_ n1_ n2_ n3_ n4_
                    have n0_ := Aside0.mk (Kd.R_drew HO_5.out)
                    have n1_ := Aside0.mk (blk_drew BK124.out)
                    have n2_ := Aside0.mk (blk_drew BK138.out)
                    have n3_ := Aside0.mk (IsS55.drew HI125.out)
                    have n4_ := Aside0.mk (below_drew1 HB.out)
                    clear HO_5
                    clear BK124
                    clear BK138
                    clear HI125
                    clear HB
                    have HO_5 := n0_
                    have BK124 := n1_
                    have BK138 := n2_
                    have HI125 := n3_
                    have HB := n4_
                    clear n0_ n1_ n2_ n3_ n4_
                    refine start_ (n := 7) (S := fun w' => w'.cell? ⟨gb138, 0, none⟩ = some (.int .i64 (wrap64 (t134 + x6_1)))) (ds := []) #[false, false, false, false, false, false, false] (by kernel_rfl) rfl rfl ((blk_cell BK138.out 0).trans rfl) (fun hHeld => ?_)
                    generalize w41.drew = w42 at HO_5 BK124 BK138 HI125 HB hHeld ⊢
                    refine pure_ (i := 0) (N := some 40) (v := ?_) (a' := ?_) #[true, false, false, false, false, false, false] rfl rfl (by kernel_rfl) (fun _ _ _ h => h) (Or.inl ⟨by rfl, ?_⟩) ?_ ?_
                    rotate_left
                    · intro w'
                      go_simp
                      with_reducible rfl
                    rotate_left
                    · simp only [Act.put, List.setIfInBounds_toArray, List.set_cons_zero, List.set_cons_succ, i64_w, i32_w]
                      rfl
                    refine pure_ (i := 2) (N := some 42) (v := ?_) (a' := ?_) #[true, false, true, false, false, false, false] rfl rfl (by kernel_rfl) (fun _ _ _ h => h) (Or.inl ⟨by rfl, ?_⟩) ?_ ?_
                    rotate_left
                    · intro w'
                      go_simp
                      with_reducible rfl
                    rotate_left
                    · simp only [Act.put, List.setIfInBounds_toArray, List.set_cons_zero, List.set_cons_succ, i64_w, i32_w]
                      rfl
                    refine take_ (i := 1) (N := some 41) (v := ?_) (a' := ?_) #[true, true, true, false, false, false, false] rfl rfl (by kernel_rfl) (fun _ _ _ h => h) (Or.inl ⟨by rfl, ?_⟩) hHeld ?_ ?_
                    rotate_left
                    · intro w' s0
                      go_simp
                      with_reducible rfl
                    rotate_left
                    · simp only [Act.put, List.setIfInBounds_toArray, List.set_cons_zero, List.set_cons_succ, i64_w, i32_w]
                      rfl
                    refine one_ (i := 3) (N := some 43) #[true, true, true, true, false, false, false] rfl rfl (by kernel_rfl) (by decide) (fun K hK => ?_)
                    refine goes_ Try.func32 (by kernel_rfl) rfl #[.pointer (some ⟨gb125, 0, none⟩)] (by rfl) rfl rfl (by (try simp only [List.map_toArray, List.map_cons, List.map_nil]); first | done | rfl | (simp only [List.length_drop, List.length_take]; rfl)) ?_
                    with_reducible refine (spec_l02Reader_num.calls kj10 gb125 t135 t136 t137 t139 t140 t141 false w _ ?side1 ?side2 A17.out).mono ?_
                    (case side1 => repeat (first | (with_reducible first | exact HI125.out | apply IsS55.alloc | apply IsS55.drewN | apply IsS55.drew | apply IsS55.set_0 | apply IsS55.set_1 | apply IsS55.set_2 | (first | refine IsS55.far ?_ NB125_124.out _ | apply IsS55.far (p := ⟨gb124, _, none⟩) (hne := NB125_124.out)) | (first | refine IsS55.far ?_ NB125_138.out _ | apply IsS55.far (p := ⟨gb138, _, none⟩) (hne := NB125_138.out))) | exact HI125.out))
                    (case side2 => repeat (first | (with_reducible first | exact HB.out | apply below_alloc | apply pw_below_drewN | apply below_drew1 | refine below_set ?_ (IsS55.ge HI125.out) | refine below_set ?_ GE124.out | refine below_set ?_ GE138.out) | exact HB.out))
                    rintro e w43 ⟨rfl, hi, hb, hk⟩
                    refine ⟨_, rfl, ?_⟩
                    have n0_ := Aside0.mk (Kd.R_mono (Kd.R_keep (IsS55.apart (show IsS55 w _ gb125 t135 t136 t137 from by repeat (first | (with_reducible first | exact HI125.out | apply IsS55.alloc | apply IsS55.drewN | apply IsS55.drew | apply IsS55.set_0 | apply IsS55.set_1 | apply IsS55.set_2 | (first | refine IsS55.far ?_ NB125_124.out _ | apply IsS55.far (p := ⟨gb124, _, none⟩) (hne := NB125_124.out)) | (first | refine IsS55.far ?_ NB125_138.out _ | apply IsS55.far (p := ⟨gb138, _, none⟩) (hne := NB125_138.out))) | exact HI125.out)) (by (with_reducible repeat (first | apply Kd.R_alloc | apply Kd.R_drewN | apply Kd.R_drew)); exact HO_5.out) (by decide)) hk (fun _ h => h.2)) (fun _ h => h.1))
                    have n1_ := Aside0.mk (KeepBut.blk hk (g' := gb124) (o := .cells #[.slice none 0 0, .int .i64 0] 30 (0, 0)) (by (with_reducible repeat (first | refine blk_drewN ?_ _ | refine blk_drew ?_ | refine blk_alloc ?_ _)); exact BK124.out) NB124_125.out (by simp))
                    have n2_ := Aside0.mk (KeepBut.blk hk (g' := gb138) (o := .cells #[.int .i64 (wrap64 (t134 + x6_1)), .int .i64 0] 48 (0, 0)) (by (with_reducible repeat (first | refine blk_drewN ?_ _ | refine blk_drew ?_ | refine blk_alloc ?_ _)); exact BK138.out) NB138_125.out (by simp))
                    have n3_ := Aside0.mk (hb)
                    have n4_ := Aside0.mk (hi)
                    clear HO_5
                    clear BK124
                    clear BK138
                    clear HB
                    clear HI125
                    have HO_5 := n0_
                    have BK124 := n1_
                    have BK138 := n2_
                    have HB := n3_
                    have HI125 := n4_
                    clear n0_ n1_ n2_ n3_ n4_
                    (try clear hb)
                    (try clear hb2)
                    (try clear hk)
                    (try clear hi)
                    refine hK.out _ _ ((blk_cell BK138.out 0).trans rfl) (fun hHeld => ?_)
                    clear hK K
                    refine norm_ (a' := ?_) ?_ ?_
                    rotate_left
                    · show Act.put _ (some 43) _ = _
                      simp only [Act.put, List.setIfInBounds_toArray, List.set_cons_zero, List.set_cons_succ, i64_w, i32_w]
                      rfl
                    refine pure_ (i := 4) (N := some 44) (v := ?_) (a' := ?_) #[true, true, true, true, true, false, false] rfl rfl (by kernel_rfl) (fun _ _ _ h => h) (Or.inl ⟨by rfl, ?_⟩) ?_ ?_
                    rotate_left
                    · intro w'
                      go_simp
                      with_reducible rfl
                    rotate_left
                    · simp only [Act.put, List.setIfInBounds_toArray, List.set_cons_zero, List.set_cons_succ, i64_w, i32_w]
                      rfl
                    refine pure_ (i := 5) (N := some 45) (v := ?_) (a' := ?_) #[true, true, true, true, true, true, false] rfl rfl (by kernel_rfl) (fun _ _ _ h => h) (Or.inl ⟨by rfl, ?_⟩) ?_ ?_
                    rotate_left
                    · intro w'
                      go_simp
                      with_reducible rfl
                    rotate_left
                    · simp only [Act.put, List.setIfInBounds_toArray, List.set_cons_zero, List.set_cons_succ, i64_w, i32_w]
                      rfl
                    refine one_ (i := 6) (N := none) #[true, true, true, true, true, true, true] rfl rfl (by kernel_rfl) (by decide) (fun K hK => ?_)
                    have hs44 : w43.cell? ⟨gb138, 1, none⟩ = some (.int .i64 0) := (blk_cell BK138.out 1).trans rfl
                    have hfs44 := blk_frozen BK138.out 1
                    have hns44_0 := NB124_138.out
                    have hms44_0 := NB138_124.out
                    refine skip_ (w1 := ?_) (by rfl) rfl ?_ ?_
                    rotate_left
                    · go_simp
                      rfl
                    refine hK.out _ _ (((World.cell?_setCell_other _ _ _ _ (by simp)).trans (hHeld))) (fun hHeld => ?_)
                    clear hK K
                    refine done_ (by kernel_rfl) ?_
                    obtain ⟨HGz45, hgz45⟩ := HI125.out
                    have hcz45_0 := cellS55_0 HGz45
                    have hcz45_1 := cellS55_1 HGz45
                    have hcz45_2 := cellS55_2 HGz45
                    have hfz45_0 := blk_frozen HGz45 0
                    have hfz45_1 := blk_frozen HGz45 1
                    have hfz45_2 := blk_frozen HGz45 2
                    clear HGz45 hgz45
                    have hcz46_0 : w43.cell? ⟨gb138, 0, none⟩ = some (.int .i64 (wrap64 (t134 + x6_1))) := (blk_cell BK138.out 0).trans rfl
                    have hcz46_1 : w43.cell? ⟨gb138, 1, none⟩ = some (.int .i64 0) := (blk_cell BK138.out 1).trans rfl
                    have hfz46_0 := blk_frozen BK138.out 0
                    have hfz46_1 := blk_frozen BK138.out 1
                    try go_wp2_with (first | (go_at_call 33; (with_reducible refine (spec_l02Id.calls (wrap64 (t134 + x6_1)) true _ A32.out).mono ?_); rintro e w' ⟨rfl, ⟨nd, rfl⟩⟩) | (go_at_call 33; (with_reducible refine (spec_l02Id.calls (wrap64 ((wrap64 (t134 + x6_1)) + t139)) t147 _ A34.out).mono ?_); rintro e w' ⟨rfl, ⟨nd, rfl⟩⟩) | ((with_reducible refine gate_builtin (b := .append) (xs := #[.tmp 67, .tmp 69]) rfl ?_); at_builtin; refine Kd.R_append k48 (w0 := w) w.heap.size rfl (.tmp 67) (.tmp 69) 25 48 (.agg #[(.int .i64 0), (.int .i64 0)]) 16 rfl Try.underlying25 info48 rfl (by decide) (by omega) u5 x5_1 (⟨wrap64 (t134 + x6_1), wrap64 ((wrap64 (t134 + x6_1)) + t139)⟩ : S48) [.int .i64 (wrap64 (t134 + x6_1)), .int .i64 (wrap64 ((wrap64 (t134 + x6_1)) + t139))] (fun k_ => k_ ≠ gb138) (fun _ => False) rfl (by first | (go_simp; done) | (go_simp; rfl)) ?aP (fun _ hk => hk.elim) ?aF ?aO ?aB ?aS ?aL ?_; (case aP => exact k48_mkM _ _ _ (⟨wrap64 (t134 + x6_1), wrap64 ((wrap64 (t134 + x6_1)) + t139)⟩ : S48)); (case aB => exact (by repeat (first | (with_reducible first | exact HB.out | apply below_alloc | apply pw_below_drewN | apply below_drew1 | refine below_set ?_ (IsS55.ge HI125.out) | refine below_set ?_ GE124.out | refine below_set ?_ GE138.out) | exact HB.out))); (case aF => exact (fun k_ hk => Kd.freshB (g := gb138) (o := .cells #[.int .i64 (wrap64 (t134 + x6_1)), .int .i64 (wrap64 ((wrap64 (t134 + x6_1)) + t139))] 48 (0, 0)) (by (with_reducible repeat (first | refine blk_drewN ?_ _ | refine blk_drew ?_ | refine blk_alloc ?_ _)); refine blk_far ?_ NB138_125.out _; (with_reducible repeat (first | refine blk_drewN ?_ _ | refine blk_drew ?_ | refine blk_alloc ?_ _)); refine blk_put (cs := #[.int .i64 (wrap64 (t134 + x6_1)), .int .i64 0]) ?_ 1 _ rfl; (with_reducible repeat (first | refine blk_drewN ?_ _ | refine blk_drew ?_ | refine blk_alloc ?_ _)); exact BK138.out) k_ hk)); (case aO => exact (by (with_reducible repeat (first | apply Kd.R_alloc | apply Kd.R_drewN | apply Kd.R_drew)); exact Kd.R_mono (Kd.R_far (p := ⟨gb125, 2, none⟩) (Kd.R_far (p := ⟨gb138, 1, none⟩) (IsS55.apart HI125.out (Kd.R_mono HO_5.out (fun k_ hk => (⟨hk, hk⟩ : _ ∧ k_ ≠ gb138))) (by decide)) (fun _ hk => hk.1.2) (.int .i64 (wrap64 ((wrap64 (t134 + x6_1)) + t139)))) (fun _ hk => hk.2) (.bool (!t147))) (fun _ hk => hk.1.1))); (case aS => exact (below_size (by repeat (first | (with_reducible first | exact HB.out | apply below_alloc | apply pw_below_drewN | apply below_drew1 | refine below_set ?_ (IsS55.ge HI125.out) | refine below_set ?_ GE124.out | refine below_set ?_ GE138.out) | exact HB.out)))); (case aL => have := LMc35.out; omega); intro v149 w47 ho hb hg hat; rw [← Ny148.out] at ho; have n0_ := Aside0.mk (blk_grown (g := gb124) (o := .cells #[.slice none 0 0, .int .i64 0] 30 (0, 0)) (by (with_reducible repeat (first | refine blk_drewN ?_ _ | refine blk_drew ?_ | refine blk_alloc ?_ _)); refine blk_far ?_ NB124_125.out _; (with_reducible repeat (first | refine blk_drewN ?_ _ | refine blk_drew ?_ | refine blk_alloc ?_ _)); refine blk_far ?_ NB124_138.out _; (with_reducible repeat (first | refine blk_drewN ?_ _ | refine blk_drew ?_ | refine blk_alloc ?_ _)); exact BK124.out) hg (Kd.R_ne HO_5.out BK124.out (by decide))); have n1_ := Aside0.mk (IsS55.grown (by repeat (first | (with_reducible first | exact HI125.out | apply IsS55.alloc | apply IsS55.drewN | apply IsS55.drew | apply IsS55.set_0 | apply IsS55.set_1 | apply IsS55.set_2 | (first | refine IsS55.far ?_ NB125_124.out _ | apply IsS55.far (p := ⟨gb124, _, none⟩) (hne := NB125_124.out)) | (first | refine IsS55.far ?_ NB125_138.out _ | apply IsS55.far (p := ⟨gb138, _, none⟩) (hne := NB125_138.out))) | exact HI125.out)) hg (IsS55.own_ne HI125.out HO_5.out (by decide))); have n2_ := Aside0.mk (blk_grown (g := gb138) (o := .cells #[.int .i64 (wrap64 (t134 + x6_1)), .int .i64 (wrap64 ((wrap64 (t134 + x6_1)) + t139))] 48 (0, 0)) (by (with_reducible repeat (first | refine blk_drewN ?_ _ | refine blk_drew ?_ | refine blk_alloc ?_ _)); refine blk_far ?_ NB138_125.out _; (with_reducible repeat (first | refine blk_drewN ?_ _ | refine blk_drew ?_ | refine blk_alloc ?_ _)); refine blk_put (cs := #[.int .i64 (wrap64 (t134 + x6_1)), .int .i64 0]) ?_ 1 _ rfl; (with_reducible repeat (first | refine blk_drewN ?_ _ | refine blk_drew ?_ | refine blk_alloc ?_ _)); exact BK138.out) hg (Kd.R_away HO_5.out (fun _ hk => hk))); have n3_ := Aside0.mk (hb); have n4_ := Aside0.mk (ho); clear BK124; clear HI125; clear BK138; clear HB; clear HO_5; have BK124 := n0_; have HI125 := n1_; have BK138 := n2_; have HB := n3_; have HO150 := n4_; clear n0_ n1_ n2_ n3_ n4_; clear ho hb hg hat))
                    go_roundg kj10
                    case measure => have := HK1.out; have := HJ10.out; omega
                    case rel => exact ⟨(y148), (wrap64 ((wrap64 (t134 + x6_1)) + t139)), (wrap64 (x7_1 + 1)), (t140), (t141), (!t147), (by first | rfl | (simp; done) | (simp [*]; done)), (by first | rfl | (simp; done) | (simp [*]; done)), H', ⟨by have := HK1.out; have := HJ10.out; omega⟩, ⟨by (with_reducible repeat (first | apply Kd.R_alloc | apply Kd.R_drewN | apply Kd.R_drew)); exact Kd.R_mono HO150.out (fun _ hk => trivial)⟩, ⟨by (with_reducible repeat (first | refine blk_drewN ?_ _ | refine blk_drew ?_ | refine blk_alloc ?_ _)); exact BK124.out⟩, ⟨by repeat (first | (with_reducible first | exact HI125.out | apply IsS55.alloc | apply IsS55.drewN | apply IsS55.drew | apply IsS55.set_0 | apply IsS55.set_1 | apply IsS55.set_2 | (first | refine IsS55.far ?_ NB125_124.out _ | apply IsS55.far (p := ⟨gb124, _, none⟩) (hne := NB125_124.out)) | (first | refine IsS55.far ?_ NB125_138.out _ | apply IsS55.far (p := ⟨gb138, _, none⟩) (hne := NB125_138.out))) | exact HI125.out)⟩, ⟨by repeat (first | (with_reducible first | exact HB.out | apply below_alloc | apply pw_below_drewN | apply below_drew1 | refine below_set ?_ (IsS55.ge HI125.out) | refine below_set ?_ GE124.out | refine below_set ?_ GE138.out) | exact HB.out)⟩⟩
                  · rw [if_neg c35] at H
                    exact absurd H (by simp)
                · replace c33 := Bool.eq_false_iff.mpr c33
                  subst c33
                  have H1 : (if x5_1.length < 8796093022208 then (spec_SpansRead.l0 kj10 a0 t126 (x5_1 ++ [(⟨wrap64 (t134 + x6_1), wrap64 ((wrap64 (t134 + x6_1)) + t139)⟩ : S48)]) (wrap64 ((wrap64 (t134 + x6_1)) + t139)) (wrap64 (x7_1 + 1)) t140 t141 true) else (none)) = some (r1, r2) := by rw [if_neg (show ¬ (false = true) by decide)] at H; exact H
                  clear H
                  have H := H1
                  clear H1
                  by_cases c48 : x5_1.length < 8796093022208
                  · rw [if_pos c48] at H
                    have LMc48 := Aside0.mk c48
                    clear c48
                    obtain ⟨y151, hy151⟩ : ∃ y_ : List (S48), y_ = (x5_1 ++ [(⟨wrap64 (t134 + x6_1), wrap64 ((wrap64 (t134 + x6_1)) + t139)⟩ : S48)]) := ⟨_, rfl⟩
                    replace H : (spec_SpansRead.l0 kj10 a0 t126 y151 (wrap64 ((wrap64 (t134 + x6_1)) + t139)) (wrap64 (x7_1 + 1)) t140 t141 true) = some (r1, r2) := by first | (rw [hy151]; with_reducible exact H) | (have H2_ := (Option.bind_some _ _).symm.trans H; rw [hy151]; with_reducible exact H2_) | (have H2_ := (Option.bind_some _ _).symm.trans H; with_reducible exact H2_) | with_reducible exact H | (rw [hy151]; exact H) | exact H
                    have Ny151 := Aside0.mk hy151
                    clear hy151
                    have H' := Aside0.mk H
                    clear H
                    try go_wp2_with (first | ((with_reducible refine gate_callee (f := 32) rfl ?_); refine goesL_ (some 36) rfl rfl Try.func32 (by kernel_rfl) rfl #[.pointer (some ⟨gb125, 0, none⟩)] rfl (by (try simp only [List.map_toArray, List.map_cons, List.map_nil]); first | done | rfl | (simp only [List.length_drop, List.length_take]; rfl)) ?_; (with_reducible refine (spec_l02Reader_num.calls kj10 gb125 x126000_1 x126001_1 x126002_1 t134 t135 t136 t137 w _ ?side1 ?side2 A16.out).mono ?_); (case side1 => repeat (first | (with_reducible first | exact HI125.out | apply IsS55.alloc | apply IsS55.drewN | apply IsS55.drew | apply IsS55.set_0 | apply IsS55.set_1 | apply IsS55.set_2 | (first | refine IsS55.far ?_ NB125_124.out _ | apply IsS55.far (p := ⟨gb124, _, none⟩) (hne := NB125_124.out))) | exact HI125.out)); (case side2 => repeat (first | (with_reducible first | exact HB.out | apply below_alloc | apply pw_below_drewN | apply below_drew1 | refine below_set ?_ (IsS55.ge HI125.out) | refine below_set ?_ GE124.out) | exact HB.out)); rintro e w49 ⟨rfl, hi, hb, hk⟩; refine ⟨_, rfl, ?_⟩; have n0_ := Aside0.mk (Kd.R_mono (Kd.R_keep (IsS55.apart (show IsS55 w _ gb125 x126000_1 x126001_1 x126002_1 from by repeat (first | (with_reducible first | exact HI125.out | apply IsS55.alloc | apply IsS55.drewN | apply IsS55.drew | apply IsS55.set_0 | apply IsS55.set_1 | apply IsS55.set_2 | (first | refine IsS55.far ?_ NB125_124.out _ | apply IsS55.far (p := ⟨gb124, _, none⟩) (hne := NB125_124.out))) | exact HI125.out)) (by (with_reducible repeat (first | apply Kd.R_alloc | apply Kd.R_drewN | apply Kd.R_drew)); exact HO_5.out) (by decide)) hk (fun _ h => h.2)) (fun _ h => h.1)); have n1_ := Aside0.mk (KeepBut.blk hk (g' := gb124) (o := .cells #[.slice none 0 0, .int .i64 0] 30 (0, 0)) (by (with_reducible repeat (first | refine blk_drewN ?_ _ | refine blk_drew ?_ | refine blk_alloc ?_ _)); exact BK124.out) NB124_125.out (by simp)); have n2_ := Aside0.mk (hb); have n3_ := Aside0.mk (hi); clear HO_5; clear BK124; clear HB; clear HI125; have HO_5 := n0_; have BK124 := n1_; have HB := n2_; have HI125 := n3_; clear n0_ n1_ n2_ n3_; (try clear hb); (try clear hb2); (try clear hk); (try clear hi)) | ((with_reducible refine gate_dst (N := 8) rfl ?_); refine box_event ?hg (N := 8) ?hd (cs := #[.int .i64 0, .int .i64 0]) (t := 48) ?hr ?_; (case hd => rfl); (case hg => rfl); (case hr => first | (go_simp; done) | (go_simp; rfl)); intro gb138 hg w50 hbox hb; have n0_ := Aside0.mk (Kd.R_below (Kd.R_elderB (by (with_reducible repeat (first | apply Kd.R_alloc | apply Kd.R_drewN | apply Kd.R_drew)); exact HO_5.out) gb138 (Nat.le_of_eq hg.symm)) hb); have n1_ := Aside0.mk (blk_below (g := gb124) (o := .cells #[.slice none 0 0, .int .i64 0] 30 (0, 0)) (by (with_reducible repeat (first | refine blk_drewN ?_ _ | refine blk_drew ?_ | refine blk_alloc ?_ _)); exact BK124.out) hb); have n2_ := Aside0.mk (IsS55.below (by repeat (first | (with_reducible first | exact HI125.out | apply IsS55.alloc | apply IsS55.drewN | apply IsS55.drew | apply IsS55.set_0 | apply IsS55.set_1 | apply IsS55.set_2 | (first | refine IsS55.far ?_ NB125_124.out _ | apply IsS55.far (p := ⟨gb124, _, none⟩) (hne := NB125_124.out))) | exact HI125.out)) hb); have n3_ := Aside0.mk (below_step (by repeat (first | (with_reducible first | exact HB.out | apply below_alloc | apply pw_below_drewN | apply below_drew1 | refine below_set ?_ (IsS55.ge HI125.out) | refine below_set ?_ GE124.out) | exact HB.out)) hb); have n4_ := Aside0.mk (hbox); have n5_ := Aside0.mk ((by rw [hg]; exact (below_size (by repeat (first | (with_reducible first | exact HB.out | apply below_alloc | apply pw_below_drewN | apply below_drew1 | refine below_set ?_ (IsS55.ge HI125.out) | refine below_set ?_ GE124.out) | exact HB.out))) : w.heap.size ≤ gb138)); have n6_ := Aside0.mk ((by rw [hg]; exact (below_size (by repeat (first | (with_reducible first | exact HB.out | apply below_alloc | apply pw_below_drewN | apply below_drew1 | refine below_set ?_ (IsS55.ge HI125.out) | refine below_set ?_ GE124.out) | exact HB.out))) : w.heap.size ≤ gb138)); have n7_ := Aside0.mk ((by rw [hg]; exact Nat.ne_of_lt (blk_lt (g := gb124) (o := .cells #[.slice none 0 0, .int .i64 0] 30 (0, 0)) (by (with_reducible repeat (first | refine blk_drewN ?_ _ | refine blk_drew ?_ | refine blk_alloc ?_ _)); exact BK124.out)) : gb124 ≠ gb138)); have n8_ := Aside0.mk ((by rw [hg]; exact Nat.ne_of_gt (blk_lt (g := gb124) (o := .cells #[.slice none 0 0, .int .i64 0] 30 (0, 0)) (by (with_reducible repeat (first | refine blk_drewN ?_ _ | refine blk_drew ?_ | refine blk_alloc ?_ _)); exact BK124.out)) : gb138 ≠ gb124)); have n9_ := Aside0.mk ((by rw [hg]; exact Nat.ne_of_lt (IsS55.lt (show IsS55 w _ gb125 t135 t136 t137 from by repeat (first | (with_reducible first | exact HI125.out | apply IsS55.alloc | apply IsS55.drewN | apply IsS55.drew | apply IsS55.set_0 | apply IsS55.set_1 | apply IsS55.set_2 | (first | refine IsS55.far ?_ NB125_124.out _ | apply IsS55.far (p := ⟨gb124, _, none⟩) (hne := NB125_124.out))) | exact HI125.out))) : gb125 ≠ gb138)); have n10_ := Aside0.mk ((by rw [hg]; exact Nat.ne_of_gt (IsS55.lt (show IsS55 w _ gb125 t135 t136 t137 from by repeat (first | (with_reducible first | exact HI125.out | apply IsS55.alloc | apply IsS55.drewN | apply IsS55.drew | apply IsS55.set_0 | apply IsS55.set_1 | apply IsS55.set_2 | (first | refine IsS55.far ?_ NB125_124.out _ | apply IsS55.far (p := ⟨gb124, _, none⟩) (hne := NB125_124.out))) | exact HI125.out))) : gb138 ≠ gb125)); clear HO_5; clear BK124; clear HI125; clear HB; have HO_5 := n0_; have BK124 := n1_; have HI125 := n2_; have HB := n3_; have BK138 := n4_; have GW138 := n5_; have GE138 := n6_; have NB124_138 := n7_; have NB138_124 := n8_; have NB125_138 := n9_; have NB138_125 := n10_; clear n0_ n1_ n2_ n3_ n4_ n5_ n6_ n7_ n8_ n9_ n10_; clear hb hbox hg; have hnb51 := NB138_124.out; have hnc51 := NB124_138.out; have hnb52 := NB138_125.out; have hnc52 := NB125_138.out; have hcz53_0 : w50.cell? ⟨gb138, 0, none⟩ = some (.int .i64 0) := (blk_cell BK138.out 0).trans rfl; have hcz53_1 : w50.cell? ⟨gb138, 1, none⟩ = some (.int .i64 0) := (blk_cell BK138.out 1).trans rfl; have hfz53_0 := blk_frozen BK138.out 0; have hfz53_1 := blk_frozen BK138.out 1))
                    have n0_ : Aside0 (Kd.R k48 48 ((w50.setCell ⟨gb138, 0, none⟩ (.int .i64 (wrap64 (t134 + x6_1)))).setCell ⟨gb138, 1, none⟩ (.int .i64 0)) w.heap.size (fun k_ => k_ ≠ gb138) u5 x5_1) := ⟨by (with_reducible repeat (first | apply Kd.R_alloc | apply Kd.R_drewN | apply Kd.R_drew)); exact Kd.R_mono (Kd.R_far (p := ⟨gb138, 1, none⟩) (Kd.R_far (p := ⟨gb138, 0, none⟩) (Kd.R_mono HO_5.out (fun k_ hk => (⟨hk, hk.2⟩ : _ ∧ k_ ≠ gb138))) (fun _ hk => hk.2) (.int .i64 (wrap64 (t134 + x6_1)))) (fun _ hk => hk.2) (.int .i64 0)) (fun _ hk => hk.1.2)⟩
                    have n1_ : Aside0 (((w50.setCell ⟨gb138, 0, none⟩ (.int .i64 (wrap64 (t134 + x6_1)))).setCell ⟨gb138, 1, none⟩ (.int .i64 0)).heap[gb124]? = some (.cells #[.slice none 0 0, .int .i64 0] 30 (0, 0))) := ⟨by (with_reducible repeat (first | refine blk_drewN ?_ _ | refine blk_drew ?_ | refine blk_alloc ?_ _)); refine blk_far ?_ NB124_138.out _; (with_reducible repeat (first | refine blk_drewN ?_ _ | refine blk_drew ?_ | refine blk_alloc ?_ _)); refine blk_far ?_ NB124_138.out _; (with_reducible repeat (first | refine blk_drewN ?_ _ | refine blk_drew ?_ | refine blk_alloc ?_ _)); exact BK124.out⟩
                    have n2_ : Aside0 (((w50.setCell ⟨gb138, 0, none⟩ (.int .i64 (wrap64 (t134 + x6_1)))).setCell ⟨gb138, 1, none⟩ (.int .i64 0)).heap[gb138]? = some (.cells #[.int .i64 (wrap64 (t134 + x6_1)), .int .i64 0] 48 (0, 0))) := ⟨by (with_reducible repeat (first | refine blk_drewN ?_ _ | refine blk_drew ?_ | refine blk_alloc ?_ _)); refine blk_put (cs := #[.int .i64 (wrap64 (t134 + x6_1)), .int .i64 0]) ?_ 1 _ rfl; (with_reducible repeat (first | refine blk_drewN ?_ _ | refine blk_drew ?_ | refine blk_alloc ?_ _)); refine blk_put (cs := #[.int .i64 0, .int .i64 0]) ?_ 0 _ rfl; (with_reducible repeat (first | refine blk_drewN ?_ _ | refine blk_drew ?_ | refine blk_alloc ?_ _)); exact BK138.out⟩
                    have n3_ : Aside0 (IsS55 w ((w50.setCell ⟨gb138, 0, none⟩ (.int .i64 (wrap64 (t134 + x6_1)))).setCell ⟨gb138, 1, none⟩ (.int .i64 0)) gb125 t135 t136 t137) := ⟨by repeat (first | (with_reducible first | exact HI125.out | apply IsS55.alloc | apply IsS55.drewN | apply IsS55.drew | apply IsS55.set_0 | apply IsS55.set_1 | apply IsS55.set_2 | (first | refine IsS55.far ?_ NB125_124.out _ | apply IsS55.far (p := ⟨gb124, _, none⟩) (hne := NB125_124.out)) | (first | refine IsS55.far ?_ NB125_138.out _ | apply IsS55.far (p := ⟨gb138, _, none⟩) (hne := NB125_138.out))) | exact HI125.out)⟩
                    have n4_ : Aside0 (Below w.heap.size w ((w50.setCell ⟨gb138, 0, none⟩ (.int .i64 (wrap64 (t134 + x6_1)))).setCell ⟨gb138, 1, none⟩ (.int .i64 0))) := ⟨by repeat (first | (with_reducible first | exact HB.out | apply below_alloc | apply pw_below_drewN | apply below_drew1 | refine below_set ?_ (IsS55.ge HI125.out) | refine below_set ?_ GE124.out | refine below_set ?_ GE138.out) | exact HB.out)⟩
                    (try clear HO_5)
                    (try clear BK124)
                    (try clear BK138)
                    (try clear HI125)
                    (try clear HB)
                    generalize ((w50.setCell ⟨gb138, 0, none⟩ (.int .i64 (wrap64 (t134 + x6_1)))).setCell ⟨gb138, 1, none⟩ (.int .i64 0)) = w54 at n0_ n1_ n2_ n3_ n4_ ⊢
                    have HO_5 := n0_
                    have BK124 := n1_
                    have BK138 := n2_
                    have HI125 := n3_
                    have HB := n4_
                    clear n0_ n1_ n2_ n3_ n4_
                    have n0_ := Aside0.mk (Kd.R_drew HO_5.out)
                    have n1_ := Aside0.mk (blk_drew BK124.out)
                    have n2_ := Aside0.mk (blk_drew BK138.out)
                    have n3_ := Aside0.mk (IsS55.drew HI125.out)
                    have n4_ := Aside0.mk (below_drew1 HB.out)
                    clear HO_5
                    clear BK124
                    clear BK138
                    clear HI125
                    clear HB
                    have HO_5 := n0_
                    have BK124 := n1_
                    have BK138 := n2_
                    have HI125 := n3_
                    have HB := n4_
                    clear n0_ n1_ n2_ n3_ n4_
                    refine start_ (n := 7) (S := fun w' => w'.cell? ⟨gb138, 0, none⟩ = some (.int .i64 (wrap64 (t134 + x6_1)))) (ds := []) #[false, false, false, false, false, false, false] (by kernel_rfl) rfl rfl ((blk_cell BK138.out 0).trans rfl) (fun hHeld => ?_)
                    generalize w54.drew = w55 at HO_5 BK124 BK138 HI125 HB hHeld ⊢
                    refine pure_ (i := 0) (N := some 40) (v := ?_) (a' := ?_) #[true, false, false, false, false, false, false] rfl rfl (by kernel_rfl) (fun _ _ _ h => h) (Or.inl ⟨by rfl, ?_⟩) ?_ ?_
                    rotate_left
                    · intro w'
                      go_simp
                      with_reducible rfl
                    rotate_left
                    · simp only [Act.put, List.setIfInBounds_toArray, List.set_cons_zero, List.set_cons_succ, i64_w, i32_w]
                      rfl
                    refine pure_ (i := 2) (N := some 42) (v := ?_) (a' := ?_) #[true, false, true, false, false, false, false] rfl rfl (by kernel_rfl) (fun _ _ _ h => h) (Or.inl ⟨by rfl, ?_⟩) ?_ ?_
                    rotate_left
                    · intro w'
                      go_simp
                      with_reducible rfl
                    rotate_left
                    · simp only [Act.put, List.setIfInBounds_toArray, List.set_cons_zero, List.set_cons_succ, i64_w, i32_w]
                      rfl
                    refine take_ (i := 1) (N := some 41) (v := ?_) (a' := ?_) #[true, true, true, false, false, false, false] rfl rfl (by kernel_rfl) (fun _ _ _ h => h) (Or.inl ⟨by rfl, ?_⟩) hHeld ?_ ?_
                    rotate_left
                    · intro w' s0
                      go_simp
                      with_reducible rfl
                    rotate_left
                    · simp only [Act.put, List.setIfInBounds_toArray, List.set_cons_zero, List.set_cons_succ, i64_w, i32_w]
                      rfl
                    refine one_ (i := 3) (N := some 43) #[true, true, true, true, false, false, false] rfl rfl (by kernel_rfl) (by decide) (fun K hK => ?_)
                    refine goes_ Try.func32 (by kernel_rfl) rfl #[.pointer (some ⟨gb125, 0, none⟩)] (by rfl) rfl rfl (by (try simp only [List.map_toArray, List.map_cons, List.map_nil]); first | done | rfl | (simp only [List.length_drop, List.length_take]; rfl)) ?_
                    with_reducible refine (spec_l02Reader_num.calls kj10 gb125 t135 t136 t137 t139 t140 t141 false w _ ?side1 ?side2 A17.out).mono ?_
                    (case side1 => repeat (first | (with_reducible first | exact HI125.out | apply IsS55.alloc | apply IsS55.drewN | apply IsS55.drew | apply IsS55.set_0 | apply IsS55.set_1 | apply IsS55.set_2 | (first | refine IsS55.far ?_ NB125_124.out _ | apply IsS55.far (p := ⟨gb124, _, none⟩) (hne := NB125_124.out)) | (first | refine IsS55.far ?_ NB125_138.out _ | apply IsS55.far (p := ⟨gb138, _, none⟩) (hne := NB125_138.out))) | exact HI125.out))
                    (case side2 => repeat (first | (with_reducible first | exact HB.out | apply below_alloc | apply pw_below_drewN | apply below_drew1 | refine below_set ?_ (IsS55.ge HI125.out) | refine below_set ?_ GE124.out | refine below_set ?_ GE138.out) | exact HB.out))
                    rintro e w56 ⟨rfl, hi, hb, hk⟩
                    refine ⟨_, rfl, ?_⟩
                    have n0_ := Aside0.mk (Kd.R_mono (Kd.R_keep (IsS55.apart (show IsS55 w _ gb125 t135 t136 t137 from by repeat (first | (with_reducible first | exact HI125.out | apply IsS55.alloc | apply IsS55.drewN | apply IsS55.drew | apply IsS55.set_0 | apply IsS55.set_1 | apply IsS55.set_2 | (first | refine IsS55.far ?_ NB125_124.out _ | apply IsS55.far (p := ⟨gb124, _, none⟩) (hne := NB125_124.out)) | (first | refine IsS55.far ?_ NB125_138.out _ | apply IsS55.far (p := ⟨gb138, _, none⟩) (hne := NB125_138.out))) | exact HI125.out)) (by (with_reducible repeat (first | apply Kd.R_alloc | apply Kd.R_drewN | apply Kd.R_drew)); exact HO_5.out) (by decide)) hk (fun _ h => h.2)) (fun _ h => h.1))
                    have n1_ := Aside0.mk (KeepBut.blk hk (g' := gb124) (o := .cells #[.slice none 0 0, .int .i64 0] 30 (0, 0)) (by (with_reducible repeat (first | refine blk_drewN ?_ _ | refine blk_drew ?_ | refine blk_alloc ?_ _)); exact BK124.out) NB124_125.out (by simp))
                    have n2_ := Aside0.mk (KeepBut.blk hk (g' := gb138) (o := .cells #[.int .i64 (wrap64 (t134 + x6_1)), .int .i64 0] 48 (0, 0)) (by (with_reducible repeat (first | refine blk_drewN ?_ _ | refine blk_drew ?_ | refine blk_alloc ?_ _)); exact BK138.out) NB138_125.out (by simp))
                    have n3_ := Aside0.mk (hb)
                    have n4_ := Aside0.mk (hi)
                    clear HO_5
                    clear BK124
                    clear BK138
                    clear HB
                    clear HI125
                    have HO_5 := n0_
                    have BK124 := n1_
                    have BK138 := n2_
                    have HB := n3_
                    have HI125 := n4_
                    clear n0_ n1_ n2_ n3_ n4_
                    (try clear hb)
                    (try clear hb2)
                    (try clear hk)
                    (try clear hi)
                    refine hK.out _ _ ((blk_cell BK138.out 0).trans rfl) (fun hHeld => ?_)
                    clear hK K
                    refine norm_ (a' := ?_) ?_ ?_
                    rotate_left
                    · show Act.put _ (some 43) _ = _
                      simp only [Act.put, List.setIfInBounds_toArray, List.set_cons_zero, List.set_cons_succ, i64_w, i32_w]
                      rfl
                    refine pure_ (i := 4) (N := some 44) (v := ?_) (a' := ?_) #[true, true, true, true, true, false, false] rfl rfl (by kernel_rfl) (fun _ _ _ h => h) (Or.inl ⟨by rfl, ?_⟩) ?_ ?_
                    rotate_left
                    · intro w'
                      go_simp
                      with_reducible rfl
                    rotate_left
                    · simp only [Act.put, List.setIfInBounds_toArray, List.set_cons_zero, List.set_cons_succ, i64_w, i32_w]
                      rfl
                    refine pure_ (i := 5) (N := some 45) (v := ?_) (a' := ?_) #[true, true, true, true, true, true, false] rfl rfl (by kernel_rfl) (fun _ _ _ h => h) (Or.inl ⟨by rfl, ?_⟩) ?_ ?_
                    rotate_left
                    · intro w'
                      go_simp
                      with_reducible rfl
                    rotate_left
                    · simp only [Act.put, List.setIfInBounds_toArray, List.set_cons_zero, List.set_cons_succ, i64_w, i32_w]
                      rfl
                    refine one_ (i := 6) (N := none) #[true, true, true, true, true, true, true] rfl rfl (by kernel_rfl) (by decide) (fun K hK => ?_)
                    have hs57 : w56.cell? ⟨gb138, 1, none⟩ = some (.int .i64 0) := (blk_cell BK138.out 1).trans rfl
                    have hfs57 := blk_frozen BK138.out 1
                    have hns57_0 := NB124_138.out
                    have hms57_0 := NB138_124.out
                    refine skip_ (w1 := ?_) (by rfl) rfl ?_ ?_
                    rotate_left
                    · go_simp
                      rfl
                    refine hK.out _ _ (((World.cell?_setCell_other _ _ _ _ (by simp)).trans (hHeld))) (fun hHeld => ?_)
                    clear hK K
                    refine done_ (by kernel_rfl) ?_
                    obtain ⟨HGz58, hgz58⟩ := HI125.out
                    have hcz58_0 := cellS55_0 HGz58
                    have hcz58_1 := cellS55_1 HGz58
                    have hcz58_2 := cellS55_2 HGz58
                    have hfz58_0 := blk_frozen HGz58 0
                    have hfz58_1 := blk_frozen HGz58 1
                    have hfz58_2 := blk_frozen HGz58 2
                    clear HGz58 hgz58
                    have hcz59_0 : w56.cell? ⟨gb138, 0, none⟩ = some (.int .i64 (wrap64 (t134 + x6_1))) := (blk_cell BK138.out 0).trans rfl
                    have hcz59_1 : w56.cell? ⟨gb138, 1, none⟩ = some (.int .i64 0) := (blk_cell BK138.out 1).trans rfl
                    have hfz59_0 := blk_frozen BK138.out 0
                    have hfz59_1 := blk_frozen BK138.out 1
                    try go_wp2_with (first | (go_at_call 33; (with_reducible refine (spec_l02Id.calls (wrap64 (t134 + x6_1)) false _ A32.out).mono ?_); rintro e w' ⟨rfl, ⟨nd, rfl⟩⟩) | ((with_reducible refine gate_builtin (b := .append) (xs := #[.tmp 67, .tmp 69]) rfl ?_); at_builtin; refine Kd.R_append k48 (w0 := w) w.heap.size rfl (.tmp 67) (.tmp 69) 25 48 (.agg #[(.int .i64 0), (.int .i64 0)]) 16 rfl Try.underlying25 info48 rfl (by decide) (by omega) u5 x5_1 (⟨wrap64 (t134 + x6_1), wrap64 ((wrap64 (t134 + x6_1)) + t139)⟩ : S48) [.int .i64 (wrap64 (t134 + x6_1)), .int .i64 (wrap64 ((wrap64 (t134 + x6_1)) + t139))] (fun k_ => k_ ≠ gb138) (fun _ => False) rfl (by first | (go_simp; done) | (go_simp; rfl)) ?aP (fun _ hk => hk.elim) ?aF ?aO ?aB ?aS ?aL ?_; (case aP => exact k48_mkM _ _ _ (⟨wrap64 (t134 + x6_1), wrap64 ((wrap64 (t134 + x6_1)) + t139)⟩ : S48)); (case aB => exact (by repeat (first | (with_reducible first | exact HB.out | apply below_alloc | apply pw_below_drewN | apply below_drew1 | refine below_set ?_ (IsS55.ge HI125.out) | refine below_set ?_ GE124.out | refine below_set ?_ GE138.out) | exact HB.out))); (case aF => exact (fun k_ hk => Kd.freshB (g := gb138) (o := .cells #[.int .i64 (wrap64 (t134 + x6_1)), .int .i64 (wrap64 ((wrap64 (t134 + x6_1)) + t139))] 48 (0, 0)) (by (with_reducible repeat (first | refine blk_drewN ?_ _ | refine blk_drew ?_ | refine blk_alloc ?_ _)); refine blk_far ?_ NB138_125.out _; (with_reducible repeat (first | refine blk_drewN ?_ _ | refine blk_drew ?_ | refine blk_alloc ?_ _)); refine blk_put (cs := #[.int .i64 (wrap64 (t134 + x6_1)), .int .i64 0]) ?_ 1 _ rfl; (with_reducible repeat (first | refine blk_drewN ?_ _ | refine blk_drew ?_ | refine blk_alloc ?_ _)); exact BK138.out) k_ hk)); (case aO => exact (by (with_reducible repeat (first | apply Kd.R_alloc | apply Kd.R_drewN | apply Kd.R_drew)); exact Kd.R_mono (Kd.R_far (p := ⟨gb125, 2, none⟩) (Kd.R_far (p := ⟨gb138, 1, none⟩) (IsS55.apart HI125.out (Kd.R_mono HO_5.out (fun k_ hk => (⟨hk, hk⟩ : _ ∧ k_ ≠ gb138))) (by decide)) (fun _ hk => hk.1.2) (.int .i64 (wrap64 ((wrap64 (t134 + x6_1)) + t139)))) (fun _ hk => hk.2) (.bool true)) (fun _ hk => hk.1.1))); (case aS => exact (below_size (by repeat (first | (with_reducible first | exact HB.out | apply below_alloc | apply pw_below_drewN | apply below_drew1 | refine below_set ?_ (IsS55.ge HI125.out) | refine below_set ?_ GE124.out | refine below_set ?_ GE138.out) | exact HB.out)))); (case aL => have := LMc48.out; omega); intro v152 w60 ho hb hg hat; rw [← Ny151.out] at ho; have n0_ := Aside0.mk (blk_grown (g := gb124) (o := .cells #[.slice none 0 0, .int .i64 0] 30 (0, 0)) (by (with_reducible repeat (first | refine blk_drewN ?_ _ | refine blk_drew ?_ | refine blk_alloc ?_ _)); refine blk_far ?_ NB124_125.out _; (with_reducible repeat (first | refine blk_drewN ?_ _ | refine blk_drew ?_ | refine blk_alloc ?_ _)); refine blk_far ?_ NB124_138.out _; (with_reducible repeat (first | refine blk_drewN ?_ _ | refine blk_drew ?_ | refine blk_alloc ?_ _)); exact BK124.out) hg (Kd.R_ne HO_5.out BK124.out (by decide))); have n1_ := Aside0.mk (IsS55.grown (by repeat (first | (with_reducible first | exact HI125.out | apply IsS55.alloc | apply IsS55.drewN | apply IsS55.drew | apply IsS55.set_0 | apply IsS55.set_1 | apply IsS55.set_2 | (first | refine IsS55.far ?_ NB125_124.out _ | apply IsS55.far (p := ⟨gb124, _, none⟩) (hne := NB125_124.out)) | (first | refine IsS55.far ?_ NB125_138.out _ | apply IsS55.far (p := ⟨gb138, _, none⟩) (hne := NB125_138.out))) | exact HI125.out)) hg (IsS55.own_ne HI125.out HO_5.out (by decide))); have n2_ := Aside0.mk (blk_grown (g := gb138) (o := .cells #[.int .i64 (wrap64 (t134 + x6_1)), .int .i64 (wrap64 ((wrap64 (t134 + x6_1)) + t139))] 48 (0, 0)) (by (with_reducible repeat (first | refine blk_drewN ?_ _ | refine blk_drew ?_ | refine blk_alloc ?_ _)); refine blk_far ?_ NB138_125.out _; (with_reducible repeat (first | refine blk_drewN ?_ _ | refine blk_drew ?_ | refine blk_alloc ?_ _)); refine blk_put (cs := #[.int .i64 (wrap64 (t134 + x6_1)), .int .i64 0]) ?_ 1 _ rfl; (with_reducible repeat (first | refine blk_drewN ?_ _ | refine blk_drew ?_ | refine blk_alloc ?_ _)); exact BK138.out) hg (Kd.R_away HO_5.out (fun _ hk => hk))); have n3_ := Aside0.mk (hb); have n4_ := Aside0.mk (ho); clear BK124; clear HI125; clear BK138; clear HB; clear HO_5; have BK124 := n0_; have HI125 := n1_; have BK138 := n2_; have HB := n3_; have HO153 := n4_; clear n0_ n1_ n2_ n3_ n4_; clear ho hb hg hat))
                    go_roundg kj10
                    case measure => have := HK1.out; have := HJ10.out; omega
                    case rel => exact ⟨(y151), (wrap64 ((wrap64 (t134 + x6_1)) + t139)), (wrap64 (x7_1 + 1)), (t140), (t141), (true), (by first | rfl | (simp; done) | (simp [*]; done)), (by first | rfl | (simp; done) | (simp [*]; done)), H', ⟨by have := HK1.out; have := HJ10.out; omega⟩, ⟨by (with_reducible repeat (first | apply Kd.R_alloc | apply Kd.R_drewN | apply Kd.R_drew)); exact Kd.R_mono HO153.out (fun _ hk => trivial)⟩, ⟨by (with_reducible repeat (first | refine blk_drewN ?_ _ | refine blk_drew ?_ | refine blk_alloc ?_ _)); exact BK124.out⟩, ⟨by repeat (first | (with_reducible first | exact HI125.out | apply IsS55.alloc | apply IsS55.drewN | apply IsS55.drew | apply IsS55.set_0 | apply IsS55.set_1 | apply IsS55.set_2 | (first | refine IsS55.far ?_ NB125_124.out _ | apply IsS55.far (p := ⟨gb124, _, none⟩) (hne := NB125_124.out)) | (first | refine IsS55.far ?_ NB125_138.out _ | apply IsS55.far (p := ⟨gb138, _, none⟩) (hne := NB125_138.out))) | exact HI125.out)⟩, ⟨by repeat (first | (with_reducible first | exact HB.out | apply below_alloc | apply pw_below_drewN | apply below_drew1 | refine below_set ?_ (IsS55.ge HI125.out) | refine below_set ?_ GE124.out | refine below_set ?_ GE138.out) | exact HB.out)⟩⟩
                  · rw [if_neg c48] at H
                    exact absurd H (by simp)
            · replace c15 := Bool.eq_false_iff.mpr c15
              subst c15
              have H1 : (if x126002_1 = true then (some (([] : List (S48)), 3)) else (if a0.toList = ([] : List UInt8) then (some (([] : List (S48)), 3)) else ((spec_SpansBytes.f kj10 x5_1).bind fun t133 => (if t133.toList = a0.toList then (some (x5_1, 0)) else (some (([] : List (S48)), 3)))))) = some (r1, r2) := by rw [if_neg (show ¬ (false = true) by decide)] at H; exact H
              clear H
              have H := H1
              clear H1
              by_cases c61 : x126002_1 = true
              · subst c61
                have H1 : (some (([] : List (S48)), 3)) = some (r1, r2) := by rw [if_pos rfl] at H; exact H
                clear H
                have H := H1
                clear H1
                simp only [Option.some.injEq, Prod.mk.injEq] at H
                obtain ⟨rfl, rfl⟩ := H
                obtain ⟨HGz62, hgz62⟩ := HI125.out
                have hcz62_0 := cellS55_0 HGz62
                have hcz62_1 := cellS55_1 HGz62
                have hcz62_2 := cellS55_2 HGz62
                have hfz62_0 := blk_frozen HGz62 0
                have hfz62_1 := blk_frozen HGz62 1
                have hfz62_2 := blk_frozen HGz62 2
                clear HGz62 hgz62
                have hnb63 := NB124_125.out
                have hnc63 := NB125_124.out
                have hcz64_0 : wc.cell? ⟨gb124, 0, none⟩ = some (.slice none 0 0) := (blk_cell BK124.out 0).trans rfl
                have hcz64_1 : wc.cell? ⟨gb124, 1, none⟩ = some (.int .i64 0) := (blk_cell BK124.out 1).trans rfl
                have hfz64_0 := blk_frozen BK124.out 0
                have hfz64_1 := blk_frozen BK124.out 1
                go_wp2
                refine bodyPost_ret (results_cell_row rfl _ _ gb124 30 #[.slice none 0 0, .int .i64 3] (0, 0) _ rfl (by (with_reducible repeat (first | refine blk_drewN ?_ _ | refine blk_drew ?_ | refine blk_alloc ?_ _)); refine blk_put (cs := #[.slice none 0 0, .int .i64 0]) ?_ 1 _ rfl; (with_reducible repeat (first | refine blk_drewN ?_ _ | refine blk_drew ?_ | refine blk_alloc ?_ _)); refine blk_put (cs := #[.slice none 0 0, .int .i64 0]) ?_ 0 _ rfl; (with_reducible repeat (first | refine blk_drewN ?_ _ | refine blk_drew ?_ | refine blk_alloc ?_ _)); exact BK124.out) Try.underlying30 rfl (by kernel_rfl)) rfl ?_
                exact ⟨_, by first | rfl | (simp [errW_none, errW_some] <;> rfl) | (simp [*, errW_none, errW_some] <;> rfl), by first | exact Kd.R_nil _ _ _ _ _ | exact Kd.N_nil _ _ _ _ _ | exact Kd.V_nil _ _ _ _ _ | exact Kd.Q_nil _ _ _ _ _ | exact Kd.S_nil _ _ _ _ _, by repeat (first | (with_reducible first | exact HB.out | apply below_alloc | apply pw_below_drewN | apply below_drew1 | refine below_set ?_ (IsS55.ge HI125.out) | refine below_set ?_ GE124.out) | exact HB.out)⟩
              · replace c61 := Bool.eq_false_iff.mpr c61
                subst c61
                have H1 : (if a0.toList = ([] : List UInt8) then (some (([] : List (S48)), 3)) else ((spec_SpansBytes.f kj10 x5_1).bind fun t133 => (if t133.toList = a0.toList then (some (x5_1, 0)) else (some (([] : List (S48)), 3))))) = some (r1, r2) := by rw [if_neg (show ¬ (false = true) by decide)] at H; exact H
                clear H
                have H := H1
                clear H1
                by_cases c65 : a0.toList = ([] : List UInt8)
                · rw [if_pos c65] at H
                  have c65b0 : (a0.toList == ([] : List UInt8)) = true := beq_iff_eq.mpr c65
                  have c65b1 : (a0.toList != ([] : List UInt8)) = false := bne_eq_false_iff_eq.mpr c65
                  clear c65
                  simp only [Option.some.injEq, Prod.mk.injEq] at H
                  obtain ⟨rfl, rfl⟩ := H
                  obtain ⟨HGz66, hgz66⟩ := HI125.out
                  have hcz66_0 := cellS55_0 HGz66
                  have hcz66_1 := cellS55_1 HGz66
                  have hcz66_2 := cellS55_2 HGz66
                  have hfz66_0 := blk_frozen HGz66 0
                  have hfz66_1 := blk_frozen HGz66 1
                  have hfz66_2 := blk_frozen HGz66 2
                  clear HGz66 hgz66
                  have hnb67 := NB124_125.out
                  have hnc67 := NB125_124.out
                  have hcz68_0 : wc.cell? ⟨gb124, 0, none⟩ = some (.slice none 0 0) := (blk_cell BK124.out 0).trans rfl
                  have hcz68_1 : wc.cell? ⟨gb124, 1, none⟩ = some (.int .i64 0) := (blk_cell BK124.out 1).trans rfl
                  have hfz68_0 := blk_frozen BK124.out 0
                  have hfz68_1 := blk_frozen BK124.out 1
                  go_wp2
                  refine bodyPost_ret (results_cell_row rfl _ _ gb124 30 #[.slice none 0 0, .int .i64 3] (0, 0) _ rfl (by (with_reducible repeat (first | refine blk_drewN ?_ _ | refine blk_drew ?_ | refine blk_alloc ?_ _)); refine blk_put (cs := #[.slice none 0 0, .int .i64 0]) ?_ 1 _ rfl; (with_reducible repeat (first | refine blk_drewN ?_ _ | refine blk_drew ?_ | refine blk_alloc ?_ _)); refine blk_put (cs := #[.slice none 0 0, .int .i64 0]) ?_ 0 _ rfl; (with_reducible repeat (first | refine blk_drewN ?_ _ | refine blk_drew ?_ | refine blk_alloc ?_ _)); exact BK124.out) Try.underlying30 rfl (by kernel_rfl)) rfl ?_
                  exact ⟨_, by first | rfl | (simp [errW_none, errW_some] <;> rfl) | (simp [*, errW_none, errW_some] <;> rfl), by first | exact Kd.R_nil _ _ _ _ _ | exact Kd.N_nil _ _ _ _ _ | exact Kd.V_nil _ _ _ _ _ | exact Kd.Q_nil _ _ _ _ _ | exact Kd.S_nil _ _ _ _ _, by repeat (first | (with_reducible first | exact HB.out | apply below_alloc | apply pw_below_drewN | apply below_drew1 | refine below_set ?_ (IsS55.ge HI125.out) | refine below_set ?_ GE124.out) | exact HB.out)⟩
                · rw [if_neg c65] at H
                  have c65b0 : (a0.toList == ([] : List UInt8)) = false := beq_eq_false_iff_ne.mpr c65
                  have c65b1 : (a0.toList != ([] : List UInt8)) = true := bne_iff_ne.mpr c65
                  replace H := Option.bind_eq_some_iff.mp H
                  obtain ⟨t133, A690, H⟩ := H
                  replace H : (if t133.toList = a0.toList then (some (x5_1, 0)) else (some (([] : List (S48)), 3))) = some (r1, r2) := H
                  have A69 := Aside0.mk A690
                  clear A690
                  by_cases c70 : t133.toList = a0.toList
                  · rw [if_pos c70] at H
                    have c70b0 : (t133.toList == a0.toList) = true := beq_iff_eq.mpr c70
                    have c70b1 : (t133.toList != a0.toList) = false := bne_eq_false_iff_eq.mpr c70
                    clear c70
                    simp only [Option.some.injEq, Prod.mk.injEq] at H
                    obtain ⟨rfl, rfl⟩ := H
                    obtain ⟨HGz71, hgz71⟩ := HI125.out
                    have hcz71_0 := cellS55_0 HGz71
                    have hcz71_1 := cellS55_1 HGz71
                    have hcz71_2 := cellS55_2 HGz71
                    have hfz71_0 := blk_frozen HGz71 0
                    have hfz71_1 := blk_frozen HGz71 1
                    have hfz71_2 := blk_frozen HGz71 2
                    clear HGz71 hgz71
                    obtain ⟨Ao72, co72, eo72⟩ := Kd.R_slice HO_5.out
                    subst eo72
                    go_wp2_with (first | (go_at_call 8; (with_reducible refine (spec_SpansBytes.calls kj10 _ _ x5_1 t133 _ ?side1 ?side2 A69.out).mono ?_); (case side1 => repeat (first | exact (Kd.R_reads' HO_5.out).2.2 | (with_reducible refine Kd.C_alloc ?_ _) | (with_reducible refine Kd.C_drewN ?_ _) | (with_reducible refine Kd.C_drew ?_))); (case side2 => exact (Kd.R_reads' HO_5.out).2.1); rintro e w73 ⟨rfl, hb⟩; have n0_ := Aside0.mk (Kd.R_below (by (with_reducible repeat (first | apply Kd.R_alloc | apply Kd.R_drewN | apply Kd.R_drew)); exact HO_5.out) hb); have n1_ := Aside0.mk (blk_below (g := gb124) (o := .cells #[.slice none 0 0, .int .i64 0] 30 (0, 0)) (by (with_reducible repeat (first | refine blk_drewN ?_ _ | refine blk_drew ?_ | refine blk_alloc ?_ _)); exact BK124.out) hb); have n2_ := Aside0.mk (IsS55.below (by repeat (first | (with_reducible first | exact HI125.out | apply IsS55.alloc | apply IsS55.drewN | apply IsS55.drew | apply IsS55.set_0 | apply IsS55.set_1 | apply IsS55.set_2 | (first | refine IsS55.far ?_ NB125_124.out _ | apply IsS55.far (p := ⟨gb124, _, none⟩) (hne := NB125_124.out))) | exact HI125.out)) hb); have n3_ := Aside0.mk (below_step (by repeat (first | (with_reducible first | exact HB.out | apply below_alloc | apply pw_below_drewN | apply below_drew1 | refine below_set ?_ (IsS55.ge HI125.out) | refine below_set ?_ GE124.out) | exact HB.out)) hb); clear HO_5; clear BK124; clear HI125; clear HB; have HO_5 := n0_; have BK124 := n1_; have HI125 := n2_; have HB := n3_; clear n0_ n1_ n2_ n3_; (try clear hb); (try clear hb2); (try clear hk); (try clear hi); have hnb74 := NB124_125.out; have hnc74 := NB125_124.out; have hcz75_0 : w73.cell? ⟨gb124, 0, none⟩ = some (.slice none 0 0) := (blk_cell BK124.out 0).trans rfl; have hcz75_1 : w73.cell? ⟨gb124, 1, none⟩ = some (.int .i64 0) := (blk_cell BK124.out 1).trans rfl; have hfz75_0 := blk_frozen BK124.out 0; have hfz75_1 := blk_frozen BK124.out 1))
                    refine bodyPost_ret (results_cell_row rfl _ _ gb124 30 #[.slice Ao72 x5_1.length co72, .int .i64 0] (0, 0) _ rfl (by (with_reducible repeat (first | refine blk_drewN ?_ _ | refine blk_drew ?_ | refine blk_alloc ?_ _)); refine blk_put (cs := #[.slice Ao72 x5_1.length co72, .int .i64 0]) ?_ 1 _ rfl; (with_reducible repeat (first | refine blk_drewN ?_ _ | refine blk_drew ?_ | refine blk_alloc ?_ _)); refine blk_put (cs := #[.slice none 0 0, .int .i64 0]) ?_ 0 _ rfl; (with_reducible repeat (first | refine blk_drewN ?_ _ | refine blk_drew ?_ | refine blk_alloc ?_ _)); exact BK124.out) Try.underlying30 rfl (by kernel_rfl)) rfl ?_
                    exact ⟨_, by first | rfl | (simp [errW_none, errW_some] <;> rfl) | (simp [*, errW_none, errW_some] <;> rfl), by (with_reducible repeat (first | apply Kd.R_alloc | apply Kd.R_drewN | apply Kd.R_drew)); exact Kd.R_mono (Kd.R_far (p := ⟨gb124, 1, none⟩) (Kd.R_far (p := ⟨gb124, 0, none⟩) (Kd.R_types HO_5.out BK124.out (by decide)) (fun _ hk => hk.2) (.slice Ao72 x5_1.length co72)) (fun _ hk => hk.2) (.int .i64 0)) (fun _ hk => trivial), by repeat (first | (with_reducible first | exact HB.out | apply below_alloc | apply pw_below_drewN | apply below_drew1 | refine below_set ?_ (IsS55.ge HI125.out) | refine below_set ?_ GE124.out) | exact HB.out)⟩
                  · rw [if_neg c70] at H
                    have c70b0 : (t133.toList == a0.toList) = false := beq_eq_false_iff_ne.mpr c70
                    have c70b1 : (t133.toList != a0.toList) = true := bne_iff_ne.mpr c70
                    simp only [Option.some.injEq, Prod.mk.injEq] at H
                    obtain ⟨rfl, rfl⟩ := H
                    obtain ⟨HGz76, hgz76⟩ := HI125.out
                    have hcz76_0 := cellS55_0 HGz76
                    have hcz76_1 := cellS55_1 HGz76
                    have hcz76_2 := cellS55_2 HGz76
                    have hfz76_0 := blk_frozen HGz76 0
                    have hfz76_1 := blk_frozen HGz76 1
                    have hfz76_2 := blk_frozen HGz76 2
                    clear HGz76 hgz76
                    obtain ⟨Ao77, co77, eo77⟩ := Kd.R_slice HO_5.out
                    subst eo77
                    go_wp2_with (first | (go_at_call 8; (with_reducible refine (spec_SpansBytes.calls kj10 _ _ x5_1 t133 _ ?side1 ?side2 A69.out).mono ?_); (case side1 => repeat (first | exact (Kd.R_reads' HO_5.out).2.2 | (with_reducible refine Kd.C_alloc ?_ _) | (with_reducible refine Kd.C_drewN ?_ _) | (with_reducible refine Kd.C_drew ?_))); (case side2 => exact (Kd.R_reads' HO_5.out).2.1); rintro e w78 ⟨rfl, hb⟩; have n0_ := Aside0.mk (Kd.R_below (by (with_reducible repeat (first | apply Kd.R_alloc | apply Kd.R_drewN | apply Kd.R_drew)); exact HO_5.out) hb); have n1_ := Aside0.mk (blk_below (g := gb124) (o := .cells #[.slice none 0 0, .int .i64 0] 30 (0, 0)) (by (with_reducible repeat (first | refine blk_drewN ?_ _ | refine blk_drew ?_ | refine blk_alloc ?_ _)); exact BK124.out) hb); have n2_ := Aside0.mk (IsS55.below (by repeat (first | (with_reducible first | exact HI125.out | apply IsS55.alloc | apply IsS55.drewN | apply IsS55.drew | apply IsS55.set_0 | apply IsS55.set_1 | apply IsS55.set_2 | (first | refine IsS55.far ?_ NB125_124.out _ | apply IsS55.far (p := ⟨gb124, _, none⟩) (hne := NB125_124.out))) | exact HI125.out)) hb); have n3_ := Aside0.mk (below_step (by repeat (first | (with_reducible first | exact HB.out | apply below_alloc | apply pw_below_drewN | apply below_drew1 | refine below_set ?_ (IsS55.ge HI125.out) | refine below_set ?_ GE124.out) | exact HB.out)) hb); clear HO_5; clear BK124; clear HI125; clear HB; have HO_5 := n0_; have BK124 := n1_; have HI125 := n2_; have HB := n3_; clear n0_ n1_ n2_ n3_; (try clear hb); (try clear hb2); (try clear hk); (try clear hi); have hnb79 := NB124_125.out; have hnc79 := NB125_124.out; have hcz80_0 : w78.cell? ⟨gb124, 0, none⟩ = some (.slice none 0 0) := (blk_cell BK124.out 0).trans rfl; have hcz80_1 : w78.cell? ⟨gb124, 1, none⟩ = some (.int .i64 0) := (blk_cell BK124.out 1).trans rfl; have hfz80_0 := blk_frozen BK124.out 0; have hfz80_1 := blk_frozen BK124.out 1))
                    refine bodyPost_ret (results_cell_row rfl _ _ gb124 30 #[.slice none 0 0, .int .i64 3] (0, 0) _ rfl (by (with_reducible repeat (first | refine blk_drewN ?_ _ | refine blk_drew ?_ | refine blk_alloc ?_ _)); refine blk_put (cs := #[.slice none 0 0, .int .i64 0]) ?_ 1 _ rfl; (with_reducible repeat (first | refine blk_drewN ?_ _ | refine blk_drew ?_ | refine blk_alloc ?_ _)); refine blk_put (cs := #[.slice none 0 0, .int .i64 0]) ?_ 0 _ rfl; (with_reducible repeat (first | refine blk_drewN ?_ _ | refine blk_drew ?_ | refine blk_alloc ?_ _)); exact BK124.out) Try.underlying30 rfl (by kernel_rfl)) rfl ?_
                    exact ⟨_, by first | rfl | (simp [errW_none, errW_some] <;> rfl) | (simp [*, errW_none, errW_some] <;> rfl), by first | exact Kd.R_nil _ _ _ _ _ | exact Kd.N_nil _ _ _ _ _ | exact Kd.V_nil _ _ _ _ _ | exact Kd.Q_nil _ _ _ _ _ | exact Kd.S_nil _ _ _ _ _, by repeat (first | (with_reducible first | exact HB.out | apply below_alloc | apply pw_below_drewN | apply below_drew1 | refine below_set ?_ (IsS55.ge HI125.out) | refine below_set ?_ GE124.out) | exact HB.out)⟩
/-! ### impl_in: function 50 -/
def impl_in.f (a0 : Int) (a1 : Int) (a2 : Int) : Option (Bool) := if a1 ≤ a0 then (some (decide (a0 ≤ a2))) else (some false)
set_option maxHeartbeats 8000000 in
set_option maxRecDepth 100000 in
theorem impl_in.calls (a0 : Int) (a1 : Int) (a2 : Int) (r : Bool) (w : World) (h : impl_in.f a0 a1 a2 = some r) :
    Calls Try.prog 50 #[.int .i64 a0, .int .i64 a1, .int .i64 a2] w fun e w' => e = .returned (.bool r) ∧ Drawn0 w w' := by
  have H : (if a1 ≤ a0 then (some (decide (a0 ≤ a2))) else (some false)) = some r := h
  clear h
  by_cases c4 : a1 ≤ a0
  · rw [if_pos c4] at H
    have c4b0 : decide (a1 ≤ a0) = true := decide_eq_true c4
    clear c4
    obtain rfl := Option.some.inj H
    go_enter Try.func50, Try.ntmps50
    go_wp2
    go_ret
    exact ⟨by first | rfl | (simp; done) | (simp [*]; done), by repeat (first | exact Drawn0.refl _ | apply Drawn0.step)⟩
  · rw [if_neg c4] at H
    have c4b0 : decide (a1 ≤ a0) = false := decide_eq_false c4
    clear c4
    obtain rfl := Option.some.inj H
    go_enter Try.func50, Try.ntmps50
    go_wp2
    go_ret
    exact ⟨by first | rfl | (simp; done) | (simp [*]; done), by repeat (first | exact Drawn0.refl _ | apply Drawn0.step)⟩

/-! ### impl_isId: function 44 -/
def impl_isId.f (a0 : Int) : Option (Bool) := (impl_in.f a0 1 1000000).bind fun t154 => (some t154)
set_option maxHeartbeats 8000000 in
set_option maxRecDepth 100000 in
theorem impl_isId.calls (a0 : Int) (r : Bool) (w : World) (h : impl_isId.f a0 = some r) :
    Calls Try.prog 44 #[.int .i64 a0] w fun e w' => e = .returned (.bool r) ∧ Drawn0 w w' := by
  have H : ((impl_in.f a0 1 1000000).bind fun t154 => (some t154)) = some r := h
  clear h
  replace H := Option.bind_eq_some_iff.mp H
  obtain ⟨t154, A20, H⟩ := H
  replace H : (some t154) = some r := H
  have A2 := Aside0.mk A20
  clear A20
  obtain rfl := Option.some.inj H
  go_enter Try.func44, Try.ntmps44
  go_wp2_with (first | ((with_reducible refine gate_callee (f := 50) rfl ?_); refine goesL_ (some 4) rfl rfl Try.func50 (by kernel_rfl) rfl #[.int .i64 a0, .int .i64 1, .int .i64 1000000] rfl (by (try simp only [List.map_toArray, List.map_cons, List.map_nil]); first | done | rfl | (simp only [List.length_drop, List.length_take]; rfl)) ?_; (with_reducible refine (impl_in.calls a0 1 1000000 t154 _ A2.out).mono ?_); rintro e w' ⟨rfl, ⟨nd, rfl⟩⟩; refine ⟨_, rfl, ?_⟩))
  go_ret
  exact ⟨by first | rfl | (simp; done) | (simp [*]; done), by repeat (first | exact Drawn0.refl _ | apply Drawn0.step)⟩

end Go.Proofs.Ytibdkoepmejgdaa.Print
