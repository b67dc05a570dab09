-- Printed by wip/myprint.py over the kit's print, in this session's own call.
import Derived.Test.YtkhidbahbcfkbaaPrint0
import Derived.Test.YtkhidbahbcfkbaaPrint10
namespace Go.Proofs.Ytkhidbahbcfkbaa.Print
open Go.RowKit Go.Proofs.YtkhidbahbcfkbaaW.PrintWords Go.Proofs.YtkhidbahbcfkbaaW.PrintLast Go.Proofs.YtkhidbahbcfkbaaW.PrintMore
attribute [local go_sem] max2_int min2_int max_two min_two max_three min_three max_four min_four   -- for this text's walks alone
set_option linter.unusedVariables false
set_option linter.unusedSimpArgs false

/-! ### impl_Graph_areRight: function 23 -/
def impl_Graph_areRight.l0 : Nat → List (S43) → List (S43) → Int → Int → Int → List (S43) → List (S43) → Option (Bool)
  | 0, _, _, _, _, _, _, _ => none
  | k + 1, x1, x7, x8, x9, x249000, x249001, x249002 => if x9 < x8 then (if 0 ≤ x9 then (if x9 < (x7.length : Int) then ((impl_EventRight.f k ((rd_T43 x7 x9).f0) ((rd_T43 x7 x9).f1) ((rd_T43 x7 x9).f2) ((rd_T43 x7 x9).f3) ((rd_T43 x7 x9).f4) ((rd_T43 x7 x9).f5) ((rd_T43 x7 x9).f6) ((rd_T43 x7 x9).f7) ((rd_T43 x7 x9).f8)).bind fun t251 => (if t251 = true then (if ((rd_T43 x7 x9).f1) = x249000 then (if x9 > 0 then (if 0 ≤ (wrap64 (x9 - 1)) then (if (wrap64 (x9 - 1)) < (x1.length : Int) then (if ((rd_T43 x1 (wrap64 (x9 - 1))).f0) ≥ ((rd_T43 x7 x9).f0) then (some false) else (impl_Graph_areRight.l0 k x1 x7 x8 (wrap64 (x9 + 1)) x249000 x249001 x249002)) else (none)) else (none)) else (impl_Graph_areRight.l0 k x1 x7 x8 (wrap64 (x9 + 1)) x249000 x249001 x249002)) else (some false)) else (some false))) else (none)) else (none)) else (some true)
def impl_Graph_areRight.f (k : Nat) (a0_0 : Int) (l0_1 : List (S43)) (l0_2 : List (S43)) (l1 : List (S43)) : Option (Bool) := impl_Graph_areRight.l0 k l1 l1 (l1.length : Int) 0 a0_0 l0_1 l0_2
theorem impl_Graph_areRight.mono_l : ∀ k, (∀ y0 y1 y2 y3 y4 y5 y6, LeO (impl_Graph_areRight.l0 k y0 y1 y2 y3 y4 y5 y6) (impl_Graph_areRight.l0 (k + 1) y0 y1 y2 y3 y4 y5 y6))
  | 0 => fun _ _ _ _ _ _ _ r h => by simp [impl_Graph_areRight.l0] at h
  | k + 1 => by
    have ih0 := impl_Graph_areRight.mono_l k
    · intro y0 y1 y2 y3 y4 y5 y6
      unfold impl_Graph_areRight.l0
      repeat' first
      | (with_reducible exact ih0 _ _ _ _ _ _ _)
      | (with_reducible exact impl_EventRight.mono _ _ _ _ _ _ _ _ _ _)
      | (with_reducible exact LeO.refl _)
      | (with_reducible exact LeO.none _)
      | (with_reducible refine LeO.ite ?_ ?_)
      | (with_reducible refine LeO.bind ?_ (fun _ => ?_))
      | exact ih0 _ _ _ _ _ _ _
      | exact impl_EventRight.mono _ _ _ _ _ _ _ _ _ _
      | exact LeO.none _
      | refine LeO.ite ?_ ?_
      | refine LeO.bind ?_ (fun _ => ?_)
theorem impl_Graph_areRight.mono : ∀ a0 a1 a2 a3 k, LeO (impl_Graph_areRight.f k a0 a1 a2 a3) (impl_Graph_areRight.f (k + 1) a0 a1 a2 a3) := by
  intro a0 a1 a2 a3 k
  have ih0 := impl_Graph_areRight.mono_l k
  unfold impl_Graph_areRight.f
  repeat' first
      | (with_reducible exact ih0 _ _ _ _ _ _ _)
      | (with_reducible exact impl_EventRight.mono _ _ _ _ _ _ _ _ _ _)
      | (with_reducible exact LeO.refl _)
      | (with_reducible exact LeO.none _)
      | (with_reducible refine LeO.ite ?_ ?_)
      | (with_reducible refine LeO.bind ?_ (fun _ => ?_))
      | exact ih0 _ _ _ _ _ _ _
      | exact impl_EventRight.mono _ _ _ _ _ _ _ _ _ _
      | exact LeO.none _
      | refine LeO.ite ?_ ?_
      | refine LeO.bind ?_ (fun _ => ?_)
def impl_Graph_areRight.T4 : Bool × List (List Nat × List Nat) := (true, [([], []), ([0], [0]), ([1], [1]), ([2, 1], [2]), ([3], [3]), ([4, 3], [3, 4]), ([3], [3]), ([6, 3], [3, 6]), ([5, 7, 3], [3, 5, 7]), ([3, 8], [3, 8]), ([9, 3], [9]), ([10], [10]), ([11, 10], [10, 11]), ([12, 10, 10], [10, 12]), ([13], [13]), ([13], [13]), ([15, 13], [13, 15]), ([14, 16, 13], [13, 14, 16]), ([17, 13], [13, 17]), ([18, 13], [13, 18]), ([13], [13]), ([20, 13], [13, 20]), ([19, 21, 13], [13, 19, 21]), ([13, 22, 10], [10, 13, 22]), ([10, 23], [10, 23])])
def impl_Graph_areRight.B4 : List Nat := [0, 1, 3, 7, 15, 31, 15, 79, 255, 511, 1023, 2047, 4095, 8191, 16383, 16383, 49151, 131071, 262143, 524287, 16383, 1064959, 4194303, 8388607, 16777215]
theorem impl_Graph_areRight.tab4 : rtab .any (opsOf Try.f23 4) = impl_Graph_areRight.T4 := by kernel_rfl
theorem impl_Graph_areRight.bits4 : waitsOk impl_Graph_areRight.T4.2 impl_Graph_areRight.B4 = true := by kernel_rfl
set_option maxHeartbeats 8000000 in
set_option maxRecDepth 100000 in
theorem impl_Graph_areRight.calls (k : Nat) (a0_0 : Int) (A0_1 : Option Addr) (c0_1 : Nat) (l0_1 : List (S43)) (A0_2 : Option Addr) (c0_2 : Nat) (l0_2 : List (S43)) (A1 : Option Addr) (c1 : Nat) (l1 : List (S43)) (r : Bool) (w : World) (hr0_1 : Kd.C k43 w A0_1 l0_1.length l0_1) (hc0_1 : l0_1.length ≤ c0_1) (hr0_2 : Kd.C k43 w A0_2 l0_2.length l0_2) (hc0_2 : l0_2.length ≤ c0_2) (hr1 : Kd.C k43 w A1 l1.length l1) (hc1 : l1.length ≤ c1) (h : impl_Graph_areRight.f k a0_0 l0_1 l0_2 l1 = some r) :
    Calls Try.prog 23 #[.agg #[.int .i64 a0_0, .slice A0_1 l0_1.length c0_1, .slice A0_2 l0_2.length c0_2], .slice A1 l1.length c1] w fun e w' => e = .returned (.bool r) ∧ Below w.heap.size w w' := by
 have hu29 := Try.underlying29
 have hu43 := Try.underlying43
 have HR0_1 := Aside0.mk hr0_1
 have HC0_1 := Aside0.mk hc0_1
 clear hr0_1 hc0_1
 have HR0_2 := Aside0.mk hr0_2
 have HC0_2 := Aside0.mk hc0_2
 clear hr0_2 hc0_2
 have HR1 := Aside0.mk hr1
 have HC1 := Aside0.mk hc1
 clear hr1 hc1
 have HB := Aside0.mk (Below.refl w.heap.size w)
 have H : (impl_Graph_areRight.l0 k l1 l1 (l1.length : Int) 0 a0_0 l0_1 l0_2) = some r := h
 clear h
 have H' := Aside0.mk H
 clear H
 go_enter Try.func23, Try.ntmps23
 go_wp2_with (first | ((with_reducible refine gate_dst (N := 2) rfl ?_); refine box_event ?hg (N := 2) ?hd (cs := #[.int .i64 a0_0, .slice A0_1 l0_1.length c0_1, .slice A0_2 l0_2.length c0_2]) (t := 29) ?hr ?_; (case hd => rfl); (case hg => rfl); (case hr => first | (go_simp; done) | (go_simp; rfl)); intro gb248 hg w3 hbox hb; have n0_ := Aside0.mk (below_step HB.out hb); have n1_ := Aside0.mk (hbox); have n2_ := Aside0.mk ((by rw [hg]; exact (below_size HB.out) : w.heap.size ≤ gb248)); have n3_ := Aside0.mk ((by rw [hg]; exact (below_size HB.out) : w.heap.size ≤ gb248)); clear HB; have HB := n0_; have BK248 := n1_; have GW248 := n2_; have GE248 := n3_; clear n0_ n1_ n2_ n3_; clear hb hbox hg))
 go_loopg [9] k (fun kq v9 w' => ∃ (x9_1 : Int), v9 = .int .i64 x9_1 ∧ Aside0 (impl_Graph_areRight.l0 kq l1 l1 (l1.length : Int) x9_1 a0_0 l0_1 l0_2 = some r) ∧ Aside0 (kq ≤ k) ∧ Aside0 (w'.heap[gb248]? = some (.cells #[.int .i64 a0_0, (.slice A0_1 l0_1.length c0_1), (.slice A0_2 l0_2.length c0_2)] 29 (0, 0))) ∧ Aside0 (Below w.heap.size w w'))
 case atStart => exact ⟨(0), (by first | rfl | (simp; done) | (simp [*]; done)), H', ⟨Nat.le_refl _⟩, ⟨by exact BK248.out⟩, ⟨(a3_ HB.out GE248.out)⟩⟩
 case round =>
  clear H'
  try clear c1
  try clear c2
  try clear p2
  obtain ⟨x9_1, rfl, HA, HK1, BK248, HB⟩ := hrel
  cases gk with
  | zero => exact absurd HA.out (by simp [impl_Graph_areRight.l0])
  | succ k1 =>
   have H := HA.out
   clear HA
   simp only [impl_Graph_areRight.l0] at H
   by_cases c4 : x9_1 < (l1.length : Int)
   ·
    rw [if_pos c4] at H
    have c4b0 : decide (x9_1 < (l1.length : Int)) = true := decide_eq_true c4
    clear c4
    by_cases c5 : 0 ≤ x9_1
    ·
     rw [if_pos c5] at H
     have c5b0 : decide (0 ≤ x9_1) = true := decide_eq_true c5
     clear c5
     by_cases c6 : x9_1 < (l1.length : Int)
     ·
      rw [if_pos c6] at H
      have c6b0 : decide (x9_1 < (l1.length : Int)) = true := decide_eq_true c6
      clear c6
      replace H := Option.bind_eq_some_iff.mp H
      obtain ⟨t251, A70, H⟩ := H
      replace H : (if t251 = true then (if ((rd_T43 l1 x9_1).f1) = a0_0 then (if x9_1 > 0 then (if 0 ≤ (wrap64 (x9_1 - 1)) then (if (wrap64 (x9_1 - 1)) < (l1.length : Int) then (if ((rd_T43 l1 (wrap64 (x9_1 - 1))).f0) ≥ ((rd_T43 l1 x9_1).f0) then (some false) else (impl_Graph_areRight.l0 k1 l1 l1 (l1.length : Int) (wrap64 (x9_1 + 1)) a0_0 l0_1 l0_2)) else (none)) else (none)) else (impl_Graph_areRight.l0 k1 l1 l1 (l1.length : Int) (wrap64 (x9_1 + 1)) a0_0 l0_1 l0_2)) else (some false)) else (some false)) = some r := H
      have A7 := Aside0.mk A70
      clear A70
      by_cases c8 : t251 = true
      ·
       subst c8
       have H1 : (if ((rd_T43 l1 x9_1).f1) = a0_0 then (if x9_1 > 0 then (if 0 ≤ (wrap64 (x9_1 - 1)) then (if (wrap64 (x9_1 - 1)) < (l1.length : Int) then (if ((rd_T43 l1 (wrap64 (x9_1 - 1))).f0) ≥ ((rd_T43 l1 x9_1).f0) then (some false) else (impl_Graph_areRight.l0 k1 l1 l1 (l1.length : Int) (wrap64 (x9_1 + 1)) a0_0 l0_1 l0_2)) else (none)) else (none)) else (impl_Graph_areRight.l0 k1 l1 l1 (l1.length : Int) (wrap64 (x9_1 + 1)) a0_0 l0_1 l0_2)) else (some false)) = some r := by rw [if_pos rfl] at H; exact H
       clear H
       have H := H1
       clear H1
       by_cases c9 : ((rd_T43 l1 x9_1).f1) = a0_0
       ·
        rw [if_pos c9] at H
        have c9b0 : (((rd_T43 l1 x9_1).f1) == a0_0) = true := beq_iff_eq.mpr c9
        have c9b1 : (((rd_T43 l1 x9_1).f1) != a0_0) = false := bne_eq_false_iff_eq.mpr c9
        clear c9
        by_cases c10 : x9_1 > 0
        ·
         rw [if_pos c10] at H
         have c10b0 : decide (0 < x9_1) = true := decide_eq_true c10
         clear c10
         obtain ⟨ji11, hji11⟩ : ∃ j_ : Int, (wrap64 (x9_1 - 1)) = j_ := ⟨_, rfl⟩
         replace H : (if 0 ≤ (ji11) then (if (ji11) < (l1.length : Int) then (if ((rd_T43 l1 (ji11)).f0) ≥ ((rd_T43 l1 x9_1).f0) then (some false) else (impl_Graph_areRight.l0 k1 l1 l1 (l1.length : Int) (wrap64 (x9_1 + 1)) a0_0 l0_1 l0_2)) else (none)) else (none)) = some r := by first | (rw [hji11] at H; exact H) | (simp only [hji11] at H ⊢; exact H)
         (try rw [hji11] at A7)
         have hji11w : (IntKind.i64.wrap (x9_1 - 1)) = ji11 := (i64_w _).trans hji11
         by_cases c12 : 0 ≤ (ji11)
         ·
          rw [if_pos c12] at H
          have c12b0 : decide (0 ≤ (ji11)) = true := decide_eq_true c12
          clear c12
          by_cases c13 : (ji11) < (l1.length : Int)
          ·
           rw [if_pos c13] at H
           have c13b0 : decide ((ji11) < (l1.length : Int)) = true := decide_eq_true c13
           clear c13
           by_cases c14 : ((rd_T43 l1 (ji11)).f0) ≥ ((rd_T43 l1 x9_1).f0)
           ·
            rw [if_pos c14] at H
            have c14b0 : decide (((rd_T43 l1 x9_1).f0) ≤ ((rd_T43 l1 (ji11)).f0)) = true := decide_eq_true c14
            clear c14
            obtain rfl := Option.some.inj H
            have p249 : 0 ≤ (x9_1 : Int) := of_decide_eq_true (by first | (with_reducible assumption) | assumption)
            have q249 : x9_1 < (l1.length : Int) := of_decide_eq_true (by first | (with_reducible assumption) | assumption)
            obtain ⟨ad249, A249_7, c249_7, e249, hx249_0, hx249_1, hx249_2, hx249_3, hx249_4, hx249_5, hx249_6, hx249_7, hx249_8, hl249_7, hi249_7⟩ := at_T43 HR1.out x9_1 p249 q249
            cases e249
            replace hx249_0 := ce_ HB.out hx249_0
            replace hx249_1 := ce_ HB.out hx249_1
            replace hx249_2 := ce_ HB.out hx249_2
            replace hx249_3 := ce_ HB.out hx249_3
            replace hx249_4 := ce_ HB.out hx249_4
            replace hx249_5 := ce_ HB.out hx249_5
            replace hx249_6 := ce_ HB.out hx249_6
            replace hx249_7 := ce_ HB.out hx249_7
            replace hx249_8 := ce_ HB.out hx249_8
            have HR249_7 := Aside0.mk hi249_7
            have HC249_7 := Aside0.mk hl249_7
            clear hi249_7 hl249_7
            replace p249 := eq_true p249
            replace q249 := eq_true q249
            try go_wp2_with (first | ((with_reducible refine gate_dst (N := 6) rfl ?_); refine box_event ?hg (N := 6) ?hd (cs := #[.int .i64 0, .int .i64 0, .int .i64 0, .int .i64 0, .int .i64 0, .int .i64 0, .string (⟨#[]⟩ : ByteArray), .slice none 0 0, .int .i64 0]) (t := 43) ?hr ?_; (case hd => rfl); (case hg => rfl); (case hr => first | (go_simp; done) | (go_simp; rfl)); intro gb250 hg w15 hbox hb; have n0_ := Aside0.mk (blk_below BK248.out hb); have n1_ := Aside0.mk (below_step HB.out hb); have n2_ := Aside0.mk (hbox); have n3_ := Aside0.mk ((by rw [hg]; exact (below_size HB.out) : w.heap.size ≤ gb250)); have n4_ := Aside0.mk ((by rw [hg]; exact (below_size HB.out) : w.heap.size ≤ gb250)); have n5_ := Aside0.mk ((by rw [hg]; exact Nat.ne_of_lt (blk_lt BK248.out) : gb248 ≠ gb250)); have n6_ := Aside0.mk ((by rw [hg]; exact Nat.ne_of_gt (blk_lt BK248.out) : gb250 ≠ gb248)); clear BK248; clear HB; have BK248 := n0_; have HB := n1_; have BK250 := n2_; have GW250 := n3_; have GE250 := n4_; have NB248_250 := n5_; have NB250_248 := n6_; clear n0_ n1_ n2_ n3_ n4_ n5_ n6_; clear hb hbox hg; have hnb16 := NB250_248.out; have hnc16 := NB248_250.out; have hcz17_0 : w15.cell? ⟨gb250, 0, none⟩ = some (.int .i64 0) := (blk_cell BK250.out 0).trans rfl; have hcz17_1 : w15.cell? ⟨gb250, 1, none⟩ = some (.int .i64 0) := (blk_cell BK250.out 1).trans rfl; have hcz17_2 : w15.cell? ⟨gb250, 2, none⟩ = some (.int .i64 0) := (blk_cell BK250.out 2).trans rfl; have hcz17_3 : w15.cell? ⟨gb250, 3, none⟩ = some (.int .i64 0) := (blk_cell BK250.out 3).trans rfl; have hcz17_4 : w15.cell? ⟨gb250, 4, none⟩ = some (.int .i64 0) := (blk_cell BK250.out 4).trans rfl; have hcz17_5 : w15.cell? ⟨gb250, 5, none⟩ = some (.int .i64 0) := (blk_cell BK250.out 5).trans rfl; have hcz17_6 : w15.cell? ⟨gb250, 6, none⟩ = some (.string (⟨#[]⟩ : ByteArray)) := (blk_cell BK250.out 6).trans rfl; have hcz17_7 : w15.cell? ⟨gb250, 7, none⟩ = some (.slice none 0 0) := (blk_cell BK250.out 7).trans rfl; have hcz17_8 : w15.cell? ⟨gb250, 8, none⟩ = some (.int .i64 0) := (blk_cell BK250.out 8).trans rfl; have hfz17_0 := blk_frozen BK250.out 0; have hfz17_1 := blk_frozen BK250.out 1; have hfz17_2 := blk_frozen BK250.out 2; have hfz17_3 := blk_frozen BK250.out 3; have hfz17_4 := blk_frozen BK250.out 4; have hfz17_5 := blk_frozen BK250.out 5; have hfz17_6 := blk_frozen BK250.out 6; have hfz17_7 := blk_frozen BK250.out 7; have hfz17_8 := blk_frozen BK250.out 8))
            have n0_ : Aside0 ((((((((((w15.setCell ⟨gb250, 0, none⟩ (.int .i64 ((rd_T43 l1 x9_1).f0))).setCell ⟨gb250, 1, none⟩ (.int .i64 ((rd_T43 l1 x9_1).f1))).setCell ⟨gb250, 2, none⟩ (.int .i64 ((rd_T43 l1 x9_1).f2))).setCell ⟨gb250, 3, none⟩ (.int .i64 ((rd_T43 l1 x9_1).f3))).setCell ⟨gb250, 4, none⟩ (.int .i64 ((rd_T43 l1 x9_1).f4))).setCell ⟨gb250, 5, none⟩ (.int .i64 ((rd_T43 l1 x9_1).f5))).setCell ⟨gb250, 6, none⟩ (.string ((rd_T43 l1 x9_1).f6))).setCell ⟨gb250, 7, none⟩ (.slice A249_7 ((rd_T43 l1 x9_1).f7).length c249_7)).setCell ⟨gb250, 8, none⟩ (.int .i64 ((rd_T43 l1 x9_1).f8))).heap[gb248]? = some (.cells #[.int .i64 a0_0, .slice A0_1 l0_1.length c0_1, .slice A0_2 l0_2.length c0_2] 29 (0, 0))) := ⟨by refine blk_far ?_ NB248_250.out _; refine blk_far ?_ NB248_250.out _; refine blk_far ?_ NB248_250.out _; refine blk_far ?_ NB248_250.out _; refine blk_far ?_ NB248_250.out _; refine blk_far ?_ NB248_250.out _; refine blk_far ?_ NB248_250.out _; refine blk_far ?_ NB248_250.out _; refine blk_far ?_ NB248_250.out _; exact BK248.out⟩
            have n1_ : Aside0 ((((((((((w15.setCell ⟨gb250, 0, none⟩ (.int .i64 ((rd_T43 l1 x9_1).f0))).setCell ⟨gb250, 1, none⟩ (.int .i64 ((rd_T43 l1 x9_1).f1))).setCell ⟨gb250, 2, none⟩ (.int .i64 ((rd_T43 l1 x9_1).f2))).setCell ⟨gb250, 3, none⟩ (.int .i64 ((rd_T43 l1 x9_1).f3))).setCell ⟨gb250, 4, none⟩ (.int .i64 ((rd_T43 l1 x9_1).f4))).setCell ⟨gb250, 5, none⟩ (.int .i64 ((rd_T43 l1 x9_1).f5))).setCell ⟨gb250, 6, none⟩ (.string ((rd_T43 l1 x9_1).f6))).setCell ⟨gb250, 7, none⟩ (.slice A249_7 ((rd_T43 l1 x9_1).f7).length c249_7)).setCell ⟨gb250, 8, none⟩ (.int .i64 ((rd_T43 l1 x9_1).f8))).heap[gb250]? = some (.cells #[.int .i64 ((rd_T43 l1 x9_1).f0), .int .i64 ((rd_T43 l1 x9_1).f1), .int .i64 ((rd_T43 l1 x9_1).f2), .int .i64 ((rd_T43 l1 x9_1).f3), .int .i64 ((rd_T43 l1 x9_1).f4), .int .i64 ((rd_T43 l1 x9_1).f5), .string ((rd_T43 l1 x9_1).f6), .slice A249_7 ((rd_T43 l1 x9_1).f7).length c249_7, .int .i64 ((rd_T43 l1 x9_1).f8)] 43 (0, 0))) := ⟨by refine blk_put (cs := #[.int .i64 ((rd_T43 l1 x9_1).f0), .int .i64 ((rd_T43 l1 x9_1).f1), .int .i64 ((rd_T43 l1 x9_1).f2), .int .i64 ((rd_T43 l1 x9_1).f3), .int .i64 ((rd_T43 l1 x9_1).f4), .int .i64 ((rd_T43 l1 x9_1).f5), .string ((rd_T43 l1 x9_1).f6), .slice A249_7 ((rd_T43 l1 x9_1).f7).length c249_7, .int .i64 0]) ?_ 8 _ rfl; refine blk_put (cs := #[.int .i64 ((rd_T43 l1 x9_1).f0), .int .i64 ((rd_T43 l1 x9_1).f1), .int .i64 ((rd_T43 l1 x9_1).f2), .int .i64 ((rd_T43 l1 x9_1).f3), .int .i64 ((rd_T43 l1 x9_1).f4), .int .i64 ((rd_T43 l1 x9_1).f5), .string ((rd_T43 l1 x9_1).f6), .slice none 0 0, .int .i64 0]) ?_ 7 _ rfl; refine blk_put (cs := #[.int .i64 ((rd_T43 l1 x9_1).f0), .int .i64 ((rd_T43 l1 x9_1).f1), .int .i64 ((rd_T43 l1 x9_1).f2), .int .i64 ((rd_T43 l1 x9_1).f3), .int .i64 ((rd_T43 l1 x9_1).f4), .int .i64 ((rd_T43 l1 x9_1).f5), .string (⟨#[]⟩ : ByteArray), .slice none 0 0, .int .i64 0]) ?_ 6 _ rfl; refine blk_put (cs := #[.int .i64 ((rd_T43 l1 x9_1).f0), .int .i64 ((rd_T43 l1 x9_1).f1), .int .i64 ((rd_T43 l1 x9_1).f2), .int .i64 ((rd_T43 l1 x9_1).f3), .int .i64 ((rd_T43 l1 x9_1).f4), .int .i64 0, .string (⟨#[]⟩ : ByteArray), .slice none 0 0, .int .i64 0]) ?_ 5 _ rfl; refine blk_put (cs := #[.int .i64 ((rd_T43 l1 x9_1).f0), .int .i64 ((rd_T43 l1 x9_1).f1), .int .i64 ((rd_T43 l1 x9_1).f2), .int .i64 ((rd_T43 l1 x9_1).f3), .int .i64 0, .int .i64 0, .string (⟨#[]⟩ : ByteArray), .slice none 0 0, .int .i64 0]) ?_ 4 _ rfl; refine blk_put (cs := #[.int .i64 ((rd_T43 l1 x9_1).f0), .int .i64 ((rd_T43 l1 x9_1).f1), .int .i64 ((rd_T43 l1 x9_1).f2), .int .i64 0, .int .i64 0, .int .i64 0, .string (⟨#[]⟩ : ByteArray), .slice none 0 0, .int .i64 0]) ?_ 3 _ rfl; refine blk_put (cs := #[.int .i64 ((rd_T43 l1 x9_1).f0), .int .i64 ((rd_T43 l1 x9_1).f1), .int .i64 0, .int .i64 0, .int .i64 0, .int .i64 0, .string (⟨#[]⟩ : ByteArray), .slice none 0 0, .int .i64 0]) ?_ 2 _ rfl; refine blk_put (cs := #[.int .i64 ((rd_T43 l1 x9_1).f0), .int .i64 0, .int .i64 0, .int .i64 0, .int .i64 0, .int .i64 0, .string (⟨#[]⟩ : ByteArray), .slice none 0 0, .int .i64 0]) ?_ 1 _ rfl; refine blk_put (cs := #[.int .i64 0, .int .i64 0, .int .i64 0, .int .i64 0, .int .i64 0, .int .i64 0, .string (⟨#[]⟩ : ByteArray), .slice none 0 0, .int .i64 0]) ?_ 0 _ rfl; exact BK250.out⟩
            have n2_ : Aside0 (Below w.heap.size w (((((((((w15.setCell ⟨gb250, 0, none⟩ (.int .i64 ((rd_T43 l1 x9_1).f0))).setCell ⟨gb250, 1, none⟩ (.int .i64 ((rd_T43 l1 x9_1).f1))).setCell ⟨gb250, 2, none⟩ (.int .i64 ((rd_T43 l1 x9_1).f2))).setCell ⟨gb250, 3, none⟩ (.int .i64 ((rd_T43 l1 x9_1).f3))).setCell ⟨gb250, 4, none⟩ (.int .i64 ((rd_T43 l1 x9_1).f4))).setCell ⟨gb250, 5, none⟩ (.int .i64 ((rd_T43 l1 x9_1).f5))).setCell ⟨gb250, 6, none⟩ (.string ((rd_T43 l1 x9_1).f6))).setCell ⟨gb250, 7, none⟩ (.slice A249_7 ((rd_T43 l1 x9_1).f7).length c249_7)).setCell ⟨gb250, 8, none⟩ (.int .i64 ((rd_T43 l1 x9_1).f8)))) := ⟨(a6_ HB.out GE248.out GE250.out)⟩
            (try clear BK248)
            (try clear BK250)
            (try clear HB)
            generalize (((((((((w15.setCell ⟨gb250, 0, none⟩ (.int .i64 ((rd_T43 l1 x9_1).f0))).setCell ⟨gb250, 1, none⟩ (.int .i64 ((rd_T43 l1 x9_1).f1))).setCell ⟨gb250, 2, none⟩ (.int .i64 ((rd_T43 l1 x9_1).f2))).setCell ⟨gb250, 3, none⟩ (.int .i64 ((rd_T43 l1 x9_1).f3))).setCell ⟨gb250, 4, none⟩ (.int .i64 ((rd_T43 l1 x9_1).f4))).setCell ⟨gb250, 5, none⟩ (.int .i64 ((rd_T43 l1 x9_1).f5))).setCell ⟨gb250, 6, none⟩ (.string ((rd_T43 l1 x9_1).f6))).setCell ⟨gb250, 7, none⟩ (.slice A249_7 ((rd_T43 l1 x9_1).f7).length c249_7)).setCell ⟨gb250, 8, none⟩ (.int .i64 ((rd_T43 l1 x9_1).f8))) = w18 at n0_ n1_ n2_ ⊢
            have BK248 := n0_
            have BK250 := n1_
            have HB := n2_
            clear n0_ n1_ n2_
            have n0_ := Aside0.mk (blk_drew BK248.out)
            have n1_ := Aside0.mk (blk_drew BK250.out)
            have n2_ := Aside0.mk (below_drew1 HB.out)
            clear BK248
            clear BK250
            clear HB
            have BK248 := n0_
            have BK250 := n1_
            have HB := n2_
            clear n0_ n1_ n2_
            have p252 : 0 ≤ ((ji11) : Int) := of_decide_eq_true (by first | (with_reducible assumption) | assumption)
            have q252 : (ji11) < (l1.length : Int) := of_decide_eq_true (by first | (with_reducible assumption) | assumption)
            obtain ⟨ad252, A252_7, c252_7, e252, hx252_0, hx252_1, hx252_2, hx252_3, hx252_4, hx252_5, hx252_6, hx252_7, hx252_8, hl252_7, hi252_7⟩ := at_T43 HR1.out (ji11) p252 q252
            have hw252_8 := hx252_8
            have hw252_7 := hx252_7
            have hw252_6 := hx252_6
            have hw252_5 := hx252_5
            have hw252_4 := hx252_4
            have hw252_3 := hx252_3
            have hw252_2 := hx252_2
            have hw252_1 := hx252_1
            have hw252_0 := hx252_0
            obtain rfl : ad249 = ad252 := (by injection e252)
            replace hx252_0 := ce_ HB.out hx252_0
            replace hx252_1 := ce_ HB.out hx252_1
            replace hx252_2 := ce_ HB.out hx252_2
            replace hx252_3 := ce_ HB.out hx252_3
            replace hx252_4 := ce_ HB.out hx252_4
            replace hx252_5 := ce_ HB.out hx252_5
            replace hx252_6 := ce_ HB.out hx252_6
            replace hx252_7 := ce_ HB.out hx252_7
            replace hx252_8 := ce_ HB.out hx252_8
            have HR252_7 := Aside0.mk hi252_7
            have HC252_7 := Aside0.mk hl252_7
            clear hi252_7 hl252_7
            replace p252 := eq_true p252
            replace q252 := eq_true q252
            refine start_ (n := 25) (S := fun w' => w'.cell? ⟨gb250, 0, none⟩ = some (.int .i64 ((rd_T43 l1 x9_1).f0)) ∧ w'.cell? ⟨gb250, 1, none⟩ = some (.int .i64 ((rd_T43 l1 x9_1).f1)) ∧ w'.cell? ⟨gb250, 2, none⟩ = some (.int .i64 ((rd_T43 l1 x9_1).f2)) ∧ w'.cell? ⟨gb250, 3, none⟩ = some (.int .i64 ((rd_T43 l1 x9_1).f3)) ∧ w'.cell? ⟨gb250, 4, none⟩ = some (.int .i64 ((rd_T43 l1 x9_1).f4)) ∧ w'.cell? ⟨gb250, 5, none⟩ = some (.int .i64 ((rd_T43 l1 x9_1).f5)) ∧ w'.cell? ⟨gb250, 6, none⟩ = some (.string ((rd_T43 l1 x9_1).f6)) ∧ w'.cell? ⟨gb250, 7, none⟩ = some (.slice A249_7 ((rd_T43 l1 x9_1).f7).length c249_7) ∧ w'.cell? ⟨gb250, 8, none⟩ = some (.int .i64 ((rd_T43 l1 x9_1).f8)) ∧ w'.cell? ⟨gb248, 0, none⟩ = some (.int .i64 a0_0) ∧ w'.cell? ⟨gb248, 1, none⟩ = some (.slice A0_1 l0_1.length c0_1) ∧ w'.cell? ⟨gb248, 2, none⟩ = some (.slice A0_2 l0_2.length c0_2) ∧ w'.cell? (ad249.add (((ji11)).toNat * 9)) = some (.int .i64 ((rd_T43 l1 (ji11)).f0)) ∧ w'.cell? ⟨(ad249.add (((ji11)).toNat * 9)).block, (ad249.add (((ji11)).toNat * 9)).off + 1, none⟩ = some (.int .i64 ((rd_T43 l1 (ji11)).f1)) ∧ w'.cell? ⟨(ad249.add (((ji11)).toNat * 9)).block, (ad249.add (((ji11)).toNat * 9)).off + 2, none⟩ = some (.int .i64 ((rd_T43 l1 (ji11)).f2)) ∧ w'.cell? ⟨(ad249.add (((ji11)).toNat * 9)).block, (ad249.add (((ji11)).toNat * 9)).off + 3, none⟩ = some (.int .i64 ((rd_T43 l1 (ji11)).f3)) ∧ w'.cell? ⟨(ad249.add (((ji11)).toNat * 9)).block, (ad249.add (((ji11)).toNat * 9)).off + 4, none⟩ = some (.int .i64 ((rd_T43 l1 (ji11)).f4)) ∧ w'.cell? ⟨(ad249.add (((ji11)).toNat * 9)).block, (ad249.add (((ji11)).toNat * 9)).off + 5, none⟩ = some (.int .i64 ((rd_T43 l1 (ji11)).f5)) ∧ w'.cell? ⟨(ad249.add (((ji11)).toNat * 9)).block, (ad249.add (((ji11)).toNat * 9)).off + 6, none⟩ = some (.string ((rd_T43 l1 (ji11)).f6)) ∧ w'.cell? ⟨(ad249.add (((ji11)).toNat * 9)).block, (ad249.add (((ji11)).toNat * 9)).off + 7, none⟩ = some (.slice A252_7 ((rd_T43 l1 (ji11)).f7).length c252_7) ∧ w'.cell? ⟨(ad249.add (((ji11)).toNat * 9)).block, (ad249.add (((ji11)).toNat * 9)).off + 8, none⟩ = some (.int .i64 ((rd_T43 l1 (ji11)).f8))) (ds := []) #[false, false, false, false, false, false, false, false, false, false, false, false, false, false, false, false, false, false, false, false, false, false, false, false, false] (by kernel_rfl) rfl rfl ⟨(blk_cell BK250.out 0).trans rfl, (blk_cell BK250.out 1).trans rfl, (blk_cell BK250.out 2).trans rfl, (blk_cell BK250.out 3).trans rfl, (blk_cell BK250.out 4).trans rfl, (blk_cell BK250.out 5).trans rfl, (blk_cell BK250.out 6).trans rfl, (blk_cell BK250.out 7).trans rfl, (blk_cell BK250.out 8).trans rfl, (blk_cell BK248.out 0).trans rfl, (blk_cell BK248.out 1).trans rfl, (blk_cell BK248.out 2).trans rfl, (ce_ HB.out hw252_0 :), (ce_ HB.out hw252_1 :), (ce_ HB.out hw252_2 :), (ce_ HB.out hw252_3 :), (ce_ HB.out hw252_4 :), (ce_ HB.out hw252_5 :), (ce_ HB.out hw252_6 :), (ce_ HB.out hw252_7 :), (ce_ HB.out hw252_8 :)⟩ (fun hHeld => ?_); refine with_tabW impl_Graph_areRight.tab4 impl_Graph_areRight.bits4 (fun HT_ HW_ => ?_)
            generalize w18.drew = w19 at BK248 BK250 HB HR252_7 hx252_0 hx252_1 hx252_2 hx252_3 hx252_4 hx252_5 hx252_6 hx252_7 hx252_8 hHeld ⊢
            refine take_ (i := 0) (N := some 14) (v := ?_) (a' := ?_) #[true, false, false, false, false, false, false, false, false, false, false, false, false, false, false, false, false, false, false, false, false, false, false, false, false] rfl rfl (take_ofW HT_.out HW_.out (by kernel_rfl)) (fun _ _ _ h => h) (Or.inl ⟨by rfl, ?_⟩) hHeld ?_ ?_
            rotate_left
            ·
             rintro w' ⟨s0, s1, s2, s3, s4, s5, s6, s7, s8, s9, s10, s11, s12, s13, s14, s15, s16, s17, s18, s19, s20⟩
             go_simp
             with_reducible rfl
            rotate_left
            ·
             simp only [Act.put, lS, l0_, l1_, i64_w, i32_w]
             rfl
            refine one_ (i := 1) (N := some 15) #[true, true, false, false, false, false, false, false, false, false, false, false, false, false, false, false, false, false, false, false, false, false, false, false, false] rfl rfl (one_of HT_.out (by kernel_rfl)) (by decide) (fun K hK => ?_)
            refine goes_ Try.func39 (by kernel_rfl) rfl #[.agg #[.int .i64 ((rd_T43 l1 x9_1).f0), .int .i64 ((rd_T43 l1 x9_1).f1), .int .i64 ((rd_T43 l1 x9_1).f2), .int .i64 ((rd_T43 l1 x9_1).f3), .int .i64 ((rd_T43 l1 x9_1).f4), .int .i64 ((rd_T43 l1 x9_1).f5), .string ((rd_T43 l1 x9_1).f6), .slice A249_7 ((rd_T43 l1 x9_1).f7).length c249_7, .int .i64 ((rd_T43 l1 x9_1).f8)]] (by rfl) rfl rfl (by (try simp only [List.map_toArray, List.map_cons, List.map_nil]); first | done | rfl | (simp only [List.length_drop, List.length_take]; rfl)) ?_
            with_reducible refine (impl_EventRight.calls k1 ((rd_T43 l1 x9_1).f0) ((rd_T43 l1 x9_1).f1) ((rd_T43 l1 x9_1).f2) ((rd_T43 l1 x9_1).f3) ((rd_T43 l1 x9_1).f4) ((rd_T43 l1 x9_1).f5) ((rd_T43 l1 x9_1).f6) _ _ ((rd_T43 l1 x9_1).f7) ((rd_T43 l1 x9_1).f8) true _ ?side1 ?side2 A7.out).mono ?_
            (case side1 => repeat (first | exact (Kd.C_below HR249_7.out HB.out) | (with_reducible refine Kd.C_alloc ?_ _) | (with_reducible refine Kd.C_drewN ?_ _) | (with_reducible refine Kd.C_drew ?_)))
            (case side2 => exact HC249_7.out)
            rintro e w20 ⟨rfl, hb⟩
            refine ⟨_, rfl, ?_⟩
            have n0_ := Aside0.mk (blk_below BK248.out hb)
            have n1_ := Aside0.mk (blk_below BK250.out hb)
            have n2_ := Aside0.mk (below_step HB.out hb)
            clear BK248
            clear BK250
            clear HB
            have BK248 := n0_
            have BK250 := n1_
            have HB := n2_
            clear n0_ n1_ n2_
            (try clear hb)
            (try clear hb2)
            (try clear hk)
            (try clear hi)
            refine hK.out _ _ ⟨(blk_cell BK250.out 0).trans rfl, (blk_cell BK250.out 1).trans rfl, (blk_cell BK250.out 2).trans rfl, (blk_cell BK250.out 3).trans rfl, (blk_cell BK250.out 4).trans rfl, (blk_cell BK250.out 5).trans rfl, (blk_cell BK250.out 6).trans rfl, (blk_cell BK250.out 7).trans rfl, (blk_cell BK250.out 8).trans rfl, (blk_cell BK248.out 0).trans rfl, (blk_cell BK248.out 1).trans rfl, (blk_cell BK248.out 2).trans rfl, (ce_ HB.out hw252_0 :), (ce_ HB.out hw252_1 :), (ce_ HB.out hw252_2 :), (ce_ HB.out hw252_3 :), (ce_ HB.out hw252_4 :), (ce_ HB.out hw252_5 :), (ce_ HB.out hw252_6 :), (ce_ HB.out hw252_7 :), (ce_ HB.out hw252_8 :)⟩ (fun hHeld => ?_)
            clear hK K
            refine norm_ (a' := ?_) ?_ ?_
            rotate_left
            ·
             show Act.put _ (some 15) _ = _
             simp only [Act.put, lS, l0_, l1_, i64_w, i32_w]
             rfl
            refine pure_ (i := 2) (N := some 16) (v := ?_) (a' := ?_) #[true, true, true, false, false, false, false, false, false, false, false, false, false, false, false, false, false, false, false, false, false, false, false, false, false] rfl rfl (any_of HT_.out (by kernel_rfl)) (fun _ _ _ h => h) (Or.inl ⟨by rfl, ?_⟩) ?_ ?_
            rotate_left
            ·
             intro w'
             go_simp
             with_reducible rfl
            rotate_left
            ·
             simp only [Act.put, lS, l0_, l1_, i64_w, i32_w]
             rfl
            refine pure_ (i := 3) (N := some 17) (v := ?_) (a' := ?_) #[true, true, true, true, false, false, false, false, false, false, false, false, false, false, false, false, false, false, false, false, false, false, false, false, false] rfl rfl (any_of HT_.out (by kernel_rfl)) (fun _ _ _ h => h) (Or.inl ⟨by rfl, ?_⟩) ?_ ?_
            rotate_left
            ·
             intro w'
             go_simp
             with_reducible rfl
            rotate_left
            ·
             simp only [Act.put, lS, l0_, l1_, i64_w, i32_w]
             rfl
            refine pure_ (i := 4) (N := some 18) (v := ?_) (a' := ?_) #[true, true, true, true, true, false, false, false, false, false, false, false, false, false, false, false, false, false, false, false, false, false, false, false, false] rfl rfl (any_of HT_.out (by kernel_rfl)) (fun _ _ _ h => h) (Or.inl ⟨by rfl, ?_⟩) ?_ ?_
            rotate_left
            ·
             intro w'
             go_simp
             with_reducible rfl
            rotate_left
            ·
             simp only [Act.put, lS, l0_, l1_, i64_w, i32_w]
             rfl
            refine pure_ (i := 6) (N := some 20) (v := ?_) (a' := ?_) #[true, true, true, true, true, false, true, false, false, false, false, false, false, false, false, false, false, false, false, false, false, false, false, false, false] rfl rfl (any_of HT_.out (by kernel_rfl)) (fun _ _ _ h => h) (Or.inl ⟨by rfl, ?_⟩) ?_ ?_
            rotate_left
            ·
             intro w'
             go_simp
             with_reducible rfl
            rotate_left
            ·
             simp only [Act.put, lS, l0_, l1_, i64_w, i32_w]
             rfl
            refine take_ (i := 5) (N := some 19) (v := ?_) (a' := ?_) #[true, true, true, true, true, true, true, false, false, false, false, false, false, false, false, false, false, false, false, false, false, false, false, false, false] rfl rfl (take_ofW HT_.out HW_.out (by kernel_rfl)) (fun _ _ _ h => h) (Or.inl ⟨by rfl, ?_⟩) hHeld ?_ ?_
            rotate_left
            ·
             rintro w' ⟨s0, s1, s2, s3, s4, s5, s6, s7, s8, s9, s10, s11, s12, s13, s14, s15, s16, s17, s18, s19, s20⟩
             go_simp
             with_reducible rfl
            rotate_left
            ·
             simp only [Act.put, lS, l0_, l1_, i64_w, i32_w]
             rfl
            refine take_ (i := 7) (N := some 21) (v := ?_) (a' := ?_) #[true, true, true, true, true, true, true, true, false, false, false, false, false, false, false, false, false, false, false, false, false, false, false, false, false] rfl rfl (take_ofW HT_.out HW_.out (by kernel_rfl)) (fun _ _ _ h => h) (Or.inl ⟨by rfl, ?_⟩) hHeld ?_ ?_
            rotate_left
            ·
             rintro w' ⟨s0, s1, s2, s3, s4, s5, s6, s7, s8, s9, s10, s11, s12, s13, s14, s15, s16, s17, s18, s19, s20⟩
             go_simp
             with_reducible rfl
            rotate_left
            ·
             simp only [Act.put, lS, l0_, l1_, i64_w, i32_w]
             rfl
            refine pure_ (i := 8) (N := some 22) (v := ?_) (a' := ?_) #[true, true, true, true, true, true, true, true, true, false, false, false, false, false, false, false, false, false, false, false, false, false, false, false, false] rfl rfl (any_of HT_.out (by kernel_rfl)) (fun _ _ _ h => h) (Or.inl ⟨by rfl, ?_⟩) ?_ ?_
            rotate_left
            ·
             intro w'
             go_simp
             with_reducible rfl
            rotate_left
            ·
             simp only [Act.put, lS, l0_, l1_, i64_w, i32_w]
             rfl
            refine pure_ (i := 9) (N := some 23) (v := ?_) (a' := ?_) #[true, true, true, true, true, true, true, true, true, true, false, false, false, false, false, false, false, false, false, false, false, false, false, false, false] rfl rfl (any_of HT_.out (by kernel_rfl)) (fun _ _ _ h => h) (Or.inl ⟨by rfl, ?_⟩) ?_ ?_
            rotate_left
            ·
             intro w'
             go_simp
             with_reducible rfl
            rotate_left
            ·
             simp only [Act.put, lS, l0_, l1_, i64_w, i32_w]
             rfl
            refine pure_ (i := 10) (N := some 24) (v := ?_) (a' := ?_) #[true, true, true, true, true, true, true, true, true, true, true, false, false, false, false, false, false, false, false, false, false, false, false, false, false] rfl rfl (any_of HT_.out (by kernel_rfl)) (fun _ _ _ h => h) (Or.inl ⟨by rfl, ?_⟩) ?_ ?_
            rotate_left
            ·
             intro w'
             go_simp
             with_reducible rfl
            rotate_left
            ·
             simp only [Act.put, lS, l0_, l1_, i64_w, i32_w]
             rfl
            refine pure_ (i := 11) (N := some 25) (v := ?_) (a' := ?_) #[true, true, true, true, true, true, true, true, true, true, true, true, false, false, false, false, false, false, false, false, false, false, false, false, false] rfl rfl (any_of HT_.out (by kernel_rfl)) (fun _ _ _ h => h) (Or.inl ⟨by rfl, ?_⟩) ?_ ?_
            rotate_left
            ·
             intro w'
             go_simp
             with_reducible rfl
            rotate_left
            ·
             simp only [Act.put, lS, l0_, l1_, i64_w, i32_w]
             rfl
            refine pure_ (i := 12) (N := some 26) (v := ?_) (a' := ?_) #[true, true, true, true, true, true, true, true, true, true, true, true, true, false, false, false, false, false, false, false, false, false, false, false, false] rfl rfl (any_of HT_.out (by kernel_rfl)) (fun _ _ _ h => h) (Or.inl ⟨by rfl, ?_⟩) ?_ ?_
            rotate_left
            ·
             intro w'
             go_simp
             with_reducible rfl
            rotate_left
            ·
             simp only [Act.put, lS, l0_, l1_, i64_w, i32_w]
             rfl
            refine pure_ (i := 13) (N := some 27) (v := ?_) (a' := ?_) #[true, true, true, true, true, true, true, true, true, true, true, true, true, true, false, false, false, false, false, false, false, false, false, false, false] rfl rfl (any_of HT_.out (by kernel_rfl)) (fun _ _ _ h => h) (Or.inl ⟨by rfl, ?_⟩) ?_ ?_
            rotate_left
            ·
             intro w'
             go_simp
             with_reducible rfl
            rotate_left
            ·
             simp only [Act.put, lS, l0_, l1_, i64_w, i32_w]
             rfl
            refine pure_ (i := 14) (N := some 28) (v := ?_) (a' := ?_) #[true, true, true, true, true, true, true, true, true, true, true, true, true, true, true, false, false, false, false, false, false, false, false, false, false] rfl rfl (any_of HT_.out (by kernel_rfl)) (fun _ _ _ h => h) (Or.inl ⟨by rfl, ?_⟩) ?_ ?_
            rotate_left
            ·
             intro w'
             go_simp
             with_reducible rfl
            rotate_left
            ·
             simp only [Act.put, lS, l0_, l1_, i64_w, i32_w]
             rfl
            refine pure_ (i := 15) (N := some 29) (v := ?_) (a' := ?_) #[true, true, true, true, true, true, true, true, true, true, true, true, true, true, true, true, false, false, false, false, false, false, false, false, false] rfl rfl (any_of HT_.out (by kernel_rfl)) (fun _ _ _ h => h) (Or.inl ⟨by rfl, ?_⟩) ?_ ?_
            rotate_left
            ·
             intro w'
             go_simp
             with_reducible rfl
            rotate_left
            ·
             simp only [Act.put, lS, l0_, l1_, i64_w, i32_w]
             rfl
            refine pure_ (i := 16) (N := some 30) (v := ?_) (a' := ?_) #[true, true, true, true, true, true, true, true, true, true, true, true, true, true, true, true, true, false, false, false, false, false, false, false, false] rfl rfl (any_of HT_.out (by kernel_rfl)) (fun _ _ _ h => h) (Or.inl ⟨by rfl, ?_⟩) ?_ ?_
            rotate_left
            ·
             intro w'
             go_simp
             with_reducible rfl
            rotate_left
            ·
             simp only [Act.put, lS, l0_, l1_, i64_w, i32_w]
             rfl
            refine pure_ (i := 17) (N := some 31) (v := ?_) (a' := ?_) #[true, true, true, true, true, true, true, true, true, true, true, true, true, true, true, true, true, true, false, false, false, false, false, false, false] rfl rfl (any_of HT_.out (by kernel_rfl)) (fun _ _ _ h => h) (Or.inl ⟨by rfl, ?_⟩) ?_ ?_
            rotate_left
            ·
             intro w'
             go_simp
             with_reducible rfl
            rotate_left
            ·
             simp only [Act.put, lS, l0_, l1_, i64_w, i32_w]
             rfl
            refine pure_ (i := 18) (N := some 32) (v := ?_) (a' := ?_) #[true, true, true, true, true, true, true, true, true, true, true, true, true, true, true, true, true, true, true, false, false, false, false, false, false] rfl rfl (any_of HT_.out (by kernel_rfl)) (fun _ _ _ h => h) (Or.inl ⟨by rfl, ?_⟩) ?_ ?_
            rotate_left
            ·
             intro w'
             go_simp
             with_reducible rfl
            rotate_left
            ·
             simp only [Act.put, lS, l0_, l1_, i64_w, i32_w]
             rfl
            refine pure_ (i := 20) (N := some 34) (v := ?_) (a' := ?_) #[true, true, true, true, true, true, true, true, true, true, true, true, true, true, true, true, true, true, true, false, true, false, false, false, false] rfl rfl (any_of HT_.out (by kernel_rfl)) (fun _ _ _ h => h) (Or.inl ⟨by rfl, ?_⟩) ?_ ?_
            rotate_left
            ·
             intro w'
             go_simp
             with_reducible rfl
            rotate_left
            ·
             simp only [Act.put, lS, l0_, l1_, i64_w, i32_w]
             rfl
            refine take_ (i := 19) (N := some 33) (v := ?_) (a' := ?_) #[true, true, true, true, true, true, true, true, true, true, true, true, true, true, true, true, true, true, true, true, true, false, false, false, false] rfl rfl (take_ofW HT_.out HW_.out (by kernel_rfl)) (fun _ _ _ h => h) (Or.inl ⟨by rfl, ?_⟩) hHeld ?_ ?_
            rotate_left
            ·
             rintro w' ⟨s0, s1, s2, s3, s4, s5, s6, s7, s8, s9, s10, s11, s12, s13, s14, s15, s16, s17, s18, s19, s20⟩
             go_simp
             with_reducible rfl
            rotate_left
            ·
             simp only [Act.put, lS, l0_, l1_, i64_w, i32_w]
             rfl
            refine take_ (i := 21) (N := some 35) (v := ?_) (a' := ?_) #[true, true, true, true, true, true, true, true, true, true, true, true, true, true, true, true, true, true, true, true, true, true, false, false, false] rfl rfl (take_ofW HT_.out HW_.out (by kernel_rfl)) (fun _ _ _ h => h) (Or.inl ⟨by rfl, ?_⟩) hHeld ?_ ?_
            rotate_left
            ·
             rintro w' ⟨s0, s1, s2, s3, s4, s5, s6, s7, s8, s9, s10, s11, s12, s13, s14, s15, s16, s17, s18, s19, s20⟩
             go_simp
             with_reducible rfl
            rotate_left
            ·
             simp only [Act.put, lS, l0_, l1_, i64_w, i32_w]
             rfl
            refine pure_ (i := 22) (N := some 36) (v := ?_) (a' := ?_) #[true, true, true, true, true, true, true, true, true, true, true, true, true, true, true, true, true, true, true, true, true, true, true, false, false] rfl rfl (any_of HT_.out (by kernel_rfl)) (fun _ _ _ h => h) (Or.inl ⟨by rfl, ?_⟩) ?_ ?_
            rotate_left
            ·
             intro w'
             go_simp
             with_reducible rfl
            rotate_left
            ·
             simp only [Act.put, lS, l0_, l1_, i64_w, i32_w]
             rfl
            refine pure_ (i := 23) (N := some 37) (v := ?_) (a' := ?_) #[true, true, true, true, true, true, true, true, true, true, true, true, true, true, true, true, true, true, true, true, true, true, true, true, false] rfl rfl (any_of HT_.out (by kernel_rfl)) (fun _ _ _ h => h) (Or.inl ⟨by rfl, ?_⟩) ?_ ?_
            rotate_left
            ·
             intro w'
             go_simp
             with_reducible rfl
            rotate_left
            ·
             simp only [Act.put, lS, l0_, l1_, i64_w, i32_w]
             rfl
            refine pure_ (i := 24) (N := some 38) (v := ?_) (a' := ?_) #[true, true, true, true, true, true, true, true, true, true, true, true, true, true, true, true, true, true, true, true, true, true, true, true, true] rfl rfl (any_of HT_.out (by kernel_rfl)) (fun _ _ _ h => h) (Or.inl ⟨by rfl, ?_⟩) ?_ ?_
            rotate_left
            ·
             intro w'
             go_simp
             with_reducible rfl
            rotate_left
            ·
             simp only [Act.put, lS, l0_, l1_, i64_w, i32_w]
             rfl
            refine done_ (done_of HT_.out (by kernel_rfl)) ?_
            try go_wp2
            go_ret
            exact ⟨by first | rfl | (simp [errW_none, errW_some] <;> rfl) | (simp only [← hji11]; first | rfl | (simp [errW_none, errW_some] <;> rfl)) | (simp [*, errW_none, errW_some] <;> rfl), (a6_ HB.out GE248.out GE250.out)⟩
           ·
            rw [if_neg c14] at H
            have c14b0 : decide (((rd_T43 l1 x9_1).f0) ≤ ((rd_T43 l1 (ji11)).f0)) = false := decide_eq_false c14
            clear c14
            have H' := Aside0.mk H
            clear H
            have p249 : 0 ≤ (x9_1 : Int) := of_decide_eq_true (by first | (with_reducible assumption) | assumption)
            have q249 : x9_1 < (l1.length : Int) := of_decide_eq_true (by first | (with_reducible assumption) | assumption)
            obtain ⟨ad249, A249_7, c249_7, e249, hx249_0, hx249_1, hx249_2, hx249_3, hx249_4, hx249_5, hx249_6, hx249_7, hx249_8, hl249_7, hi249_7⟩ := at_T43 HR1.out x9_1 p249 q249
            cases e249
            replace hx249_0 := ce_ HB.out hx249_0
            replace hx249_1 := ce_ HB.out hx249_1
            replace hx249_2 := ce_ HB.out hx249_2
            replace hx249_3 := ce_ HB.out hx249_3
            replace hx249_4 := ce_ HB.out hx249_4
            replace hx249_5 := ce_ HB.out hx249_5
            replace hx249_6 := ce_ HB.out hx249_6
            replace hx249_7 := ce_ HB.out hx249_7
            replace hx249_8 := ce_ HB.out hx249_8
            have HR249_7 := Aside0.mk hi249_7
            have HC249_7 := Aside0.mk hl249_7
            clear hi249_7 hl249_7
            replace p249 := eq_true p249
            replace q249 := eq_true q249
            try go_wp2_with (first | ((with_reducible refine gate_dst (N := 6) rfl ?_); refine box_event ?hg (N := 6) ?hd (cs := #[.int .i64 0, .int .i64 0, .int .i64 0, .int .i64 0, .int .i64 0, .int .i64 0, .string (⟨#[]⟩ : ByteArray), .slice none 0 0, .int .i64 0]) (t := 43) ?hr ?_; (case hd => rfl); (case hg => rfl); (case hr => first | (go_simp; done) | (go_simp; rfl)); intro gb250 hg w21 hbox hb; have n0_ := Aside0.mk (blk_below BK248.out hb); have n1_ := Aside0.mk (below_step HB.out hb); have n2_ := Aside0.mk (hbox); have n3_ := Aside0.mk ((by rw [hg]; exact (below_size HB.out) : w.heap.size ≤ gb250)); have n4_ := Aside0.mk ((by rw [hg]; exact (below_size HB.out) : w.heap.size ≤ gb250)); have n5_ := Aside0.mk ((by rw [hg]; exact Nat.ne_of_lt (blk_lt BK248.out) : gb248 ≠ gb250)); have n6_ := Aside0.mk ((by rw [hg]; exact Nat.ne_of_gt (blk_lt BK248.out) : gb250 ≠ gb248)); clear BK248; clear HB; have BK248 := n0_; have HB := n1_; have BK250 := n2_; have GW250 := n3_; have GE250 := n4_; have NB248_250 := n5_; have NB250_248 := n6_; clear n0_ n1_ n2_ n3_ n4_ n5_ n6_; clear hb hbox hg; have hnb22 := NB250_248.out; have hnc22 := NB248_250.out; have hcz23_0 : w21.cell? ⟨gb250, 0, none⟩ = some (.int .i64 0) := (blk_cell BK250.out 0).trans rfl; have hcz23_1 : w21.cell? ⟨gb250, 1, none⟩ = some (.int .i64 0) := (blk_cell BK250.out 1).trans rfl; have hcz23_2 : w21.cell? ⟨gb250, 2, none⟩ = some (.int .i64 0) := (blk_cell BK250.out 2).trans rfl; have hcz23_3 : w21.cell? ⟨gb250, 3, none⟩ = some (.int .i64 0) := (blk_cell BK250.out 3).trans rfl; have hcz23_4 : w21.cell? ⟨gb250, 4, none⟩ = some (.int .i64 0) := (blk_cell BK250.out 4).trans rfl; have hcz23_5 : w21.cell? ⟨gb250, 5, none⟩ = some (.int .i64 0) := (blk_cell BK250.out 5).trans rfl; have hcz23_6 : w21.cell? ⟨gb250, 6, none⟩ = some (.string (⟨#[]⟩ : ByteArray)) := (blk_cell BK250.out 6).trans rfl; have hcz23_7 : w21.cell? ⟨gb250, 7, none⟩ = some (.slice none 0 0) := (blk_cell BK250.out 7).trans rfl; have hcz23_8 : w21.cell? ⟨gb250, 8, none⟩ = some (.int .i64 0) := (blk_cell BK250.out 8).trans rfl; have hfz23_0 := blk_frozen BK250.out 0; have hfz23_1 := blk_frozen BK250.out 1; have hfz23_2 := blk_frozen BK250.out 2; have hfz23_3 := blk_frozen BK250.out 3; have hfz23_4 := blk_frozen BK250.out 4; have hfz23_5 := blk_frozen BK250.out 5; have hfz23_6 := blk_frozen BK250.out 6; have hfz23_7 := blk_frozen BK250.out 7; have hfz23_8 := blk_frozen BK250.out 8))
            have n0_ : Aside0 ((((((((((w21.setCell ⟨gb250, 0, none⟩ (.int .i64 ((rd_T43 l1 x9_1).f0))).setCell ⟨gb250, 1, none⟩ (.int .i64 ((rd_T43 l1 x9_1).f1))).setCell ⟨gb250, 2, none⟩ (.int .i64 ((rd_T43 l1 x9_1).f2))).setCell ⟨gb250, 3, none⟩ (.int .i64 ((rd_T43 l1 x9_1).f3))).setCell ⟨gb250, 4, none⟩ (.int .i64 ((rd_T43 l1 x9_1).f4))).setCell ⟨gb250, 5, none⟩ (.int .i64 ((rd_T43 l1 x9_1).f5))).setCell ⟨gb250, 6, none⟩ (.string ((rd_T43 l1 x9_1).f6))).setCell ⟨gb250, 7, none⟩ (.slice A249_7 ((rd_T43 l1 x9_1).f7).length c249_7)).setCell ⟨gb250, 8, none⟩ (.int .i64 ((rd_T43 l1 x9_1).f8))).heap[gb248]? = some (.cells #[.int .i64 a0_0, .slice A0_1 l0_1.length c0_1, .slice A0_2 l0_2.length c0_2] 29 (0, 0))) := ⟨by refine blk_far ?_ NB248_250.out _; refine blk_far ?_ NB248_250.out _; refine blk_far ?_ NB248_250.out _; refine blk_far ?_ NB248_250.out _; refine blk_far ?_ NB248_250.out _; refine blk_far ?_ NB248_250.out _; refine blk_far ?_ NB248_250.out _; refine blk_far ?_ NB248_250.out _; refine blk_far ?_ NB248_250.out _; exact BK248.out⟩
            have n1_ : Aside0 ((((((((((w21.setCell ⟨gb250, 0, none⟩ (.int .i64 ((rd_T43 l1 x9_1).f0))).setCell ⟨gb250, 1, none⟩ (.int .i64 ((rd_T43 l1 x9_1).f1))).setCell ⟨gb250, 2, none⟩ (.int .i64 ((rd_T43 l1 x9_1).f2))).setCell ⟨gb250, 3, none⟩ (.int .i64 ((rd_T43 l1 x9_1).f3))).setCell ⟨gb250, 4, none⟩ (.int .i64 ((rd_T43 l1 x9_1).f4))).setCell ⟨gb250, 5, none⟩ (.int .i64 ((rd_T43 l1 x9_1).f5))).setCell ⟨gb250, 6, none⟩ (.string ((rd_T43 l1 x9_1).f6))).setCell ⟨gb250, 7, none⟩ (.slice A249_7 ((rd_T43 l1 x9_1).f7).length c249_7)).setCell ⟨gb250, 8, none⟩ (.int .i64 ((rd_T43 l1 x9_1).f8))).heap[gb250]? = some (.cells #[.int .i64 ((rd_T43 l1 x9_1).f0), .int .i64 ((rd_T43 l1 x9_1).f1), .int .i64 ((rd_T43 l1 x9_1).f2), .int .i64 ((rd_T43 l1 x9_1).f3), .int .i64 ((rd_T43 l1 x9_1).f4), .int .i64 ((rd_T43 l1 x9_1).f5), .string ((rd_T43 l1 x9_1).f6), .slice A249_7 ((rd_T43 l1 x9_1).f7).length c249_7, .int .i64 ((rd_T43 l1 x9_1).f8)] 43 (0, 0))) := ⟨by refine blk_put (cs := #[.int .i64 ((rd_T43 l1 x9_1).f0), .int .i64 ((rd_T43 l1 x9_1).f1), .int .i64 ((rd_T43 l1 x9_1).f2), .int .i64 ((rd_T43 l1 x9_1).f3), .int .i64 ((rd_T43 l1 x9_1).f4), .int .i64 ((rd_T43 l1 x9_1).f5), .string ((rd_T43 l1 x9_1).f6), .slice A249_7 ((rd_T43 l1 x9_1).f7).length c249_7, .int .i64 0]) ?_ 8 _ rfl; refine blk_put (cs := #[.int .i64 ((rd_T43 l1 x9_1).f0), .int .i64 ((rd_T43 l1 x9_1).f1), .int .i64 ((rd_T43 l1 x9_1).f2), .int .i64 ((rd_T43 l1 x9_1).f3), .int .i64 ((rd_T43 l1 x9_1).f4), .int .i64 ((rd_T43 l1 x9_1).f5), .string ((rd_T43 l1 x9_1).f6), .slice none 0 0, .int .i64 0]) ?_ 7 _ rfl; refine blk_put (cs := #[.int .i64 ((rd_T43 l1 x9_1).f0), .int .i64 ((rd_T43 l1 x9_1).f1), .int .i64 ((rd_T43 l1 x9_1).f2), .int .i64 ((rd_T43 l1 x9_1).f3), .int .i64 ((rd_T43 l1 x9_1).f4), .int .i64 ((rd_T43 l1 x9_1).f5), .string (⟨#[]⟩ : ByteArray), .slice none 0 0, .int .i64 0]) ?_ 6 _ rfl; refine blk_put (cs := #[.int .i64 ((rd_T43 l1 x9_1).f0), .int .i64 ((rd_T43 l1 x9_1).f1), .int .i64 ((rd_T43 l1 x9_1).f2), .int .i64 ((rd_T43 l1 x9_1).f3), .int .i64 ((rd_T43 l1 x9_1).f4), .int .i64 0, .string (⟨#[]⟩ : ByteArray), .slice none 0 0, .int .i64 0]) ?_ 5 _ rfl; refine blk_put (cs := #[.int .i64 ((rd_T43 l1 x9_1).f0), .int .i64 ((rd_T43 l1 x9_1).f1), .int .i64 ((rd_T43 l1 x9_1).f2), .int .i64 ((rd_T43 l1 x9_1).f3), .int .i64 0, .int .i64 0, .string (⟨#[]⟩ : ByteArray), .slice none 0 0, .int .i64 0]) ?_ 4 _ rfl; refine blk_put (cs := #[.int .i64 ((rd_T43 l1 x9_1).f0), .int .i64 ((rd_T43 l1 x9_1).f1), .int .i64 ((rd_T43 l1 x9_1).f2), .int .i64 0, .int .i64 0, .int .i64 0, .string (⟨#[]⟩ : ByteArray), .slice none 0 0, .int .i64 0]) ?_ 3 _ rfl; refine blk_put (cs := #[.int .i64 ((rd_T43 l1 x9_1).f0), .int .i64 ((rd_T43 l1 x9_1).f1), .int .i64 0, .int .i64 0, .int .i64 0, .int .i64 0, .string (⟨#[]⟩ : ByteArray), .slice none 0 0, .int .i64 0]) ?_ 2 _ rfl; refine blk_put (cs := #[.int .i64 ((rd_T43 l1 x9_1).f0), .int .i64 0, .int .i64 0, .int .i64 0, .int .i64 0, .int .i64 0, .string (⟨#[]⟩ : ByteArray), .slice none 0 0, .int .i64 0]) ?_ 1 _ rfl; refine blk_put (cs := #[.int .i64 0, .int .i64 0, .int .i64 0, .int .i64 0, .int .i64 0, .int .i64 0, .string (⟨#[]⟩ : ByteArray), .slice none 0 0, .int .i64 0]) ?_ 0 _ rfl; exact BK250.out⟩
            have n2_ : Aside0 (Below w.heap.size w (((((((((w21.setCell ⟨gb250, 0, none⟩ (.int .i64 ((rd_T43 l1 x9_1).f0))).setCell ⟨gb250, 1, none⟩ (.int .i64 ((rd_T43 l1 x9_1).f1))).setCell ⟨gb250, 2, none⟩ (.int .i64 ((rd_T43 l1 x9_1).f2))).setCell ⟨gb250, 3, none⟩ (.int .i64 ((rd_T43 l1 x9_1).f3))).setCell ⟨gb250, 4, none⟩ (.int .i64 ((rd_T43 l1 x9_1).f4))).setCell ⟨gb250, 5, none⟩ (.int .i64 ((rd_T43 l1 x9_1).f5))).setCell ⟨gb250, 6, none⟩ (.string ((rd_T43 l1 x9_1).f6))).setCell ⟨gb250, 7, none⟩ (.slice A249_7 ((rd_T43 l1 x9_1).f7).length c249_7)).setCell ⟨gb250, 8, none⟩ (.int .i64 ((rd_T43 l1 x9_1).f8)))) := ⟨(a6_ HB.out GE248.out GE250.out)⟩
            (try clear BK248)
            (try clear BK250)
            (try clear HB)
            generalize (((((((((w21.setCell ⟨gb250, 0, none⟩ (.int .i64 ((rd_T43 l1 x9_1).f0))).setCell ⟨gb250, 1, none⟩ (.int .i64 ((rd_T43 l1 x9_1).f1))).setCell ⟨gb250, 2, none⟩ (.int .i64 ((rd_T43 l1 x9_1).f2))).setCell ⟨gb250, 3, none⟩ (.int .i64 ((rd_T43 l1 x9_1).f3))).setCell ⟨gb250, 4, none⟩ (.int .i64 ((rd_T43 l1 x9_1).f4))).setCell ⟨gb250, 5, none⟩ (.int .i64 ((rd_T43 l1 x9_1).f5))).setCell ⟨gb250, 6, none⟩ (.string ((rd_T43 l1 x9_1).f6))).setCell ⟨gb250, 7, none⟩ (.slice A249_7 ((rd_T43 l1 x9_1).f7).length c249_7)).setCell ⟨gb250, 8, none⟩ (.int .i64 ((rd_T43 l1 x9_1).f8))) = w24 at n0_ n1_ n2_ ⊢
            have BK248 := n0_
            have BK250 := n1_
            have HB := n2_
            clear n0_ n1_ n2_
            have n0_ := Aside0.mk (blk_drew BK248.out)
            have n1_ := Aside0.mk (blk_drew BK250.out)
            have n2_ := Aside0.mk (below_drew1 HB.out)
            clear BK248
            clear BK250
            clear HB
            have BK248 := n0_
            have BK250 := n1_
            have HB := n2_
            clear n0_ n1_ n2_
            have p252 : 0 ≤ ((ji11) : Int) := of_decide_eq_true (by first | (with_reducible assumption) | assumption)
            have q252 : (ji11) < (l1.length : Int) := of_decide_eq_true (by first | (with_reducible assumption) | assumption)
            obtain ⟨ad252, A252_7, c252_7, e252, hx252_0, hx252_1, hx252_2, hx252_3, hx252_4, hx252_5, hx252_6, hx252_7, hx252_8, hl252_7, hi252_7⟩ := at_T43 HR1.out (ji11) p252 q252
            have hw252_8 := hx252_8
            have hw252_7 := hx252_7
            have hw252_6 := hx252_6
            have hw252_5 := hx252_5
            have hw252_4 := hx252_4
            have hw252_3 := hx252_3
            have hw252_2 := hx252_2
            have hw252_1 := hx252_1
            have hw252_0 := hx252_0
            obtain rfl : ad249 = ad252 := (by injection e252)
            replace hx252_0 := ce_ HB.out hx252_0
            replace hx252_1 := ce_ HB.out hx252_1
            replace hx252_2 := ce_ HB.out hx252_2
            replace hx252_3 := ce_ HB.out hx252_3
            replace hx252_4 := ce_ HB.out hx252_4
            replace hx252_5 := ce_ HB.out hx252_5
            replace hx252_6 := ce_ HB.out hx252_6
            replace hx252_7 := ce_ HB.out hx252_7
            replace hx252_8 := ce_ HB.out hx252_8
            have HR252_7 := Aside0.mk hi252_7
            have HC252_7 := Aside0.mk hl252_7
            clear hi252_7 hl252_7
            replace p252 := eq_true p252
            replace q252 := eq_true q252
            refine start_ (n := 25) (S := fun w' => w'.cell? ⟨gb250, 0, none⟩ = some (.int .i64 ((rd_T43 l1 x9_1).f0)) ∧ w'.cell? ⟨gb250, 1, none⟩ = some (.int .i64 ((rd_T43 l1 x9_1).f1)) ∧ w'.cell? ⟨gb250, 2, none⟩ = some (.int .i64 ((rd_T43 l1 x9_1).f2)) ∧ w'.cell? ⟨gb250, 3, none⟩ = some (.int .i64 ((rd_T43 l1 x9_1).f3)) ∧ w'.cell? ⟨gb250, 4, none⟩ = some (.int .i64 ((rd_T43 l1 x9_1).f4)) ∧ w'.cell? ⟨gb250, 5, none⟩ = some (.int .i64 ((rd_T43 l1 x9_1).f5)) ∧ w'.cell? ⟨gb250, 6, none⟩ = some (.string ((rd_T43 l1 x9_1).f6)) ∧ w'.cell? ⟨gb250, 7, none⟩ = some (.slice A249_7 ((rd_T43 l1 x9_1).f7).length c249_7) ∧ w'.cell? ⟨gb250, 8, none⟩ = some (.int .i64 ((rd_T43 l1 x9_1).f8)) ∧ w'.cell? ⟨gb248, 0, none⟩ = some (.int .i64 a0_0) ∧ w'.cell? ⟨gb248, 1, none⟩ = some (.slice A0_1 l0_1.length c0_1) ∧ w'.cell? ⟨gb248, 2, none⟩ = some (.slice A0_2 l0_2.length c0_2) ∧ w'.cell? (ad249.add (((ji11)).toNat * 9)) = some (.int .i64 ((rd_T43 l1 (ji11)).f0)) ∧ w'.cell? ⟨(ad249.add (((ji11)).toNat * 9)).block, (ad249.add (((ji11)).toNat * 9)).off + 1, none⟩ = some (.int .i64 ((rd_T43 l1 (ji11)).f1)) ∧ w'.cell? ⟨(ad249.add (((ji11)).toNat * 9)).block, (ad249.add (((ji11)).toNat * 9)).off + 2, none⟩ = some (.int .i64 ((rd_T43 l1 (ji11)).f2)) ∧ w'.cell? ⟨(ad249.add (((ji11)).toNat * 9)).block, (ad249.add (((ji11)).toNat * 9)).off + 3, none⟩ = some (.int .i64 ((rd_T43 l1 (ji11)).f3)) ∧ w'.cell? ⟨(ad249.add (((ji11)).toNat * 9)).block, (ad249.add (((ji11)).toNat * 9)).off + 4, none⟩ = some (.int .i64 ((rd_T43 l1 (ji11)).f4)) ∧ w'.cell? ⟨(ad249.add (((ji11)).toNat * 9)).block, (ad249.add (((ji11)).toNat * 9)).off + 5, none⟩ = some (.int .i64 ((rd_T43 l1 (ji11)).f5)) ∧ w'.cell? ⟨(ad249.add (((ji11)).toNat * 9)).block, (ad249.add (((ji11)).toNat * 9)).off + 6, none⟩ = some (.string ((rd_T43 l1 (ji11)).f6)) ∧ w'.cell? ⟨(ad249.add (((ji11)).toNat * 9)).block, (ad249.add (((ji11)).toNat * 9)).off + 7, none⟩ = some (.slice A252_7 ((rd_T43 l1 (ji11)).f7).length c252_7) ∧ w'.cell? ⟨(ad249.add (((ji11)).toNat * 9)).block, (ad249.add (((ji11)).toNat * 9)).off + 8, none⟩ = some (.int .i64 ((rd_T43 l1 (ji11)).f8))) (ds := []) #[false, false, false, false, false, false, false, false, false, false, false, false, false, false, false, false, false, false, false, false, false, false, false, false, false] (by kernel_rfl) rfl rfl ⟨(blk_cell BK250.out 0).trans rfl, (blk_cell BK250.out 1).trans rfl, (blk_cell BK250.out 2).trans rfl, (blk_cell BK250.out 3).trans rfl, (blk_cell BK250.out 4).trans rfl, (blk_cell BK250.out 5).trans rfl, (blk_cell BK250.out 6).trans rfl, (blk_cell BK250.out 7).trans rfl, (blk_cell BK250.out 8).trans rfl, (blk_cell BK248.out 0).trans rfl, (blk_cell BK248.out 1).trans rfl, (blk_cell BK248.out 2).trans rfl, (ce_ HB.out hw252_0 :), (ce_ HB.out hw252_1 :), (ce_ HB.out hw252_2 :), (ce_ HB.out hw252_3 :), (ce_ HB.out hw252_4 :), (ce_ HB.out hw252_5 :), (ce_ HB.out hw252_6 :), (ce_ HB.out hw252_7 :), (ce_ HB.out hw252_8 :)⟩ (fun hHeld => ?_); refine with_tabW impl_Graph_areRight.tab4 impl_Graph_areRight.bits4 (fun HT_ HW_ => ?_)
            generalize w24.drew = w25 at BK248 BK250 HB HR252_7 hx252_0 hx252_1 hx252_2 hx252_3 hx252_4 hx252_5 hx252_6 hx252_7 hx252_8 hHeld ⊢
            refine take_ (i := 0) (N := some 14) (v := ?_) (a' := ?_) #[true, false, false, false, false, false, false, false, false, false, false, false, false, false, false, false, false, false, false, false, false, false, false, false, false] rfl rfl (take_ofW HT_.out HW_.out (by kernel_rfl)) (fun _ _ _ h => h) (Or.inl ⟨by rfl, ?_⟩) hHeld ?_ ?_
            rotate_left
            ·
             rintro w' ⟨s0, s1, s2, s3, s4, s5, s6, s7, s8, s9, s10, s11, s12, s13, s14, s15, s16, s17, s18, s19, s20⟩
             go_simp
             with_reducible rfl
            rotate_left
            ·
             simp only [Act.put, lS, l0_, l1_, i64_w, i32_w]
             rfl
            refine one_ (i := 1) (N := some 15) #[true, true, false, false, false, false, false, false, false, false, false, false, false, false, false, false, false, false, false, false, false, false, false, false, false] rfl rfl (one_of HT_.out (by kernel_rfl)) (by decide) (fun K hK => ?_)
            refine goes_ Try.func39 (by kernel_rfl) rfl #[.agg #[.int .i64 ((rd_T43 l1 x9_1).f0), .int .i64 ((rd_T43 l1 x9_1).f1), .int .i64 ((rd_T43 l1 x9_1).f2), .int .i64 ((rd_T43 l1 x9_1).f3), .int .i64 ((rd_T43 l1 x9_1).f4), .int .i64 ((rd_T43 l1 x9_1).f5), .string ((rd_T43 l1 x9_1).f6), .slice A249_7 ((rd_T43 l1 x9_1).f7).length c249_7, .int .i64 ((rd_T43 l1 x9_1).f8)]] (by rfl) rfl rfl (by (try simp only [List.map_toArray, List.map_cons, List.map_nil]); first | done | rfl | (simp only [List.length_drop, List.length_take]; rfl)) ?_
            with_reducible refine (impl_EventRight.calls k1 ((rd_T43 l1 x9_1).f0) ((rd_T43 l1 x9_1).f1) ((rd_T43 l1 x9_1).f2) ((rd_T43 l1 x9_1).f3) ((rd_T43 l1 x9_1).f4) ((rd_T43 l1 x9_1).f5) ((rd_T43 l1 x9_1).f6) _ _ ((rd_T43 l1 x9_1).f7) ((rd_T43 l1 x9_1).f8) true _ ?side1 ?side2 A7.out).mono ?_
            (case side1 => repeat (first | exact (Kd.C_below HR249_7.out HB.out) | (with_reducible refine Kd.C_alloc ?_ _) | (with_reducible refine Kd.C_drewN ?_ _) | (with_reducible refine Kd.C_drew ?_)))
            (case side2 => exact HC249_7.out)
            rintro e w26 ⟨rfl, hb⟩
            refine ⟨_, rfl, ?_⟩
            have n0_ := Aside0.mk (blk_below BK248.out hb)
            have n1_ := Aside0.mk (blk_below BK250.out hb)
            have n2_ := Aside0.mk (below_step HB.out hb)
            clear BK248
            clear BK250
            clear HB
            have BK248 := n0_
            have BK250 := n1_
            have HB := n2_
            clear n0_ n1_ n2_
            (try clear hb)
            (try clear hb2)
            (try clear hk)
            (try clear hi)
            refine hK.out _ _ ⟨(blk_cell BK250.out 0).trans rfl, (blk_cell BK250.out 1).trans rfl, (blk_cell BK250.out 2).trans rfl, (blk_cell BK250.out 3).trans rfl, (blk_cell BK250.out 4).trans rfl, (blk_cell BK250.out 5).trans rfl, (blk_cell BK250.out 6).trans rfl, (blk_cell BK250.out 7).trans rfl, (blk_cell BK250.out 8).trans rfl, (blk_cell BK248.out 0).trans rfl, (blk_cell BK248.out 1).trans rfl, (blk_cell BK248.out 2).trans rfl, (ce_ HB.out hw252_0 :), (ce_ HB.out hw252_1 :), (ce_ HB.out hw252_2 :), (ce_ HB.out hw252_3 :), (ce_ HB.out hw252_4 :), (ce_ HB.out hw252_5 :), (ce_ HB.out hw252_6 :), (ce_ HB.out hw252_7 :), (ce_ HB.out hw252_8 :)⟩ (fun hHeld => ?_)
            clear hK K
            refine norm_ (a' := ?_) ?_ ?_
            rotate_left
            ·
             show Act.put _ (some 15) _ = _
             simp only [Act.put, lS, l0_, l1_, i64_w, i32_w]
             rfl
            refine pure_ (i := 2) (N := some 16) (v := ?_) (a' := ?_) #[true, true, true, false, false, false, false, false, false, false, false, false, false, false, false, false, false, false, false, false, false, false, false, false, false] rfl rfl (any_of HT_.out (by kernel_rfl)) (fun _ _ _ h => h) (Or.inl ⟨by rfl, ?_⟩) ?_ ?_
            rotate_left
            ·
             intro w'
             go_simp
             with_reducible rfl
            rotate_left
            ·
             simp only [Act.put, lS, l0_, l1_, i64_w, i32_w]
             rfl
            refine pure_ (i := 3) (N := some 17) (v := ?_) (a' := ?_) #[true, true, true, true, false, false, false, false, false, false, false, false, false, false, false, false, false, false, false, false, false, false, false, false, false] rfl rfl (any_of HT_.out (by kernel_rfl)) (fun _ _ _ h => h) (Or.inl ⟨by rfl, ?_⟩) ?_ ?_
            rotate_left
            ·
             intro w'
             go_simp
             with_reducible rfl
            rotate_left
            ·
             simp only [Act.put, lS, l0_, l1_, i64_w, i32_w]
             rfl
            refine pure_ (i := 4) (N := some 18) (v := ?_) (a' := ?_) #[true, true, true, true, true, false, false, false, false, false, false, false, false, false, false, false, false, false, false, false, false, false, false, false, false] rfl rfl (any_of HT_.out (by kernel_rfl)) (fun _ _ _ h => h) (Or.inl ⟨by rfl, ?_⟩) ?_ ?_
            rotate_left
            ·
             intro w'
             go_simp
             with_reducible rfl
            rotate_left
            ·
             simp only [Act.put, lS, l0_, l1_, i64_w, i32_w]
             rfl
            refine pure_ (i := 6) (N := some 20) (v := ?_) (a' := ?_) #[true, true, true, true, true, false, true, false, false, false, false, false, false, false, false, false, false, false, false, false, false, false, false, false, false] rfl rfl (any_of HT_.out (by kernel_rfl)) (fun _ _ _ h => h) (Or.inl ⟨by rfl, ?_⟩) ?_ ?_
            rotate_left
            ·
             intro w'
             go_simp
             with_reducible rfl
            rotate_left
            ·
             simp only [Act.put, lS, l0_, l1_, i64_w, i32_w]
             rfl
            refine take_ (i := 5) (N := some 19) (v := ?_) (a' := ?_) #[true, true, true, true, true, true, true, false, false, false, false, false, false, false, false, false, false, false, false, false, false, false, false, false, false] rfl rfl (take_ofW HT_.out HW_.out (by kernel_rfl)) (fun _ _ _ h => h) (Or.inl ⟨by rfl, ?_⟩) hHeld ?_ ?_
            rotate_left
            ·
             rintro w' ⟨s0, s1, s2, s3, s4, s5, s6, s7, s8, s9, s10, s11, s12, s13, s14, s15, s16, s17, s18, s19, s20⟩
             go_simp
             with_reducible rfl
            rotate_left
            ·
             simp only [Act.put, lS, l0_, l1_, i64_w, i32_w]
             rfl
            refine take_ (i := 7) (N := some 21) (v := ?_) (a' := ?_) #[true, true, true, true, true, true, true, true, false, false, false, false, false, false, false, false, false, false, false, false, false, false, false, false, false] rfl rfl (take_ofW HT_.out HW_.out (by kernel_rfl)) (fun _ _ _ h => h) (Or.inl ⟨by rfl, ?_⟩) hHeld ?_ ?_
            rotate_left
            ·
             rintro w' ⟨s0, s1, s2, s3, s4, s5, s6, s7, s8, s9, s10, s11, s12, s13, s14, s15, s16, s17, s18, s19, s20⟩
             go_simp
             with_reducible rfl
            rotate_left
            ·
             simp only [Act.put, lS, l0_, l1_, i64_w, i32_w]
             rfl
            refine pure_ (i := 8) (N := some 22) (v := ?_) (a' := ?_) #[true, true, true, true, true, true, true, true, true, false, false, false, false, false, false, false, false, false, false, false, false, false, false, false, false] rfl rfl (any_of HT_.out (by kernel_rfl)) (fun _ _ _ h => h) (Or.inl ⟨by rfl, ?_⟩) ?_ ?_
            rotate_left
            ·
             intro w'
             go_simp
             with_reducible rfl
            rotate_left
            ·
             simp only [Act.put, lS, l0_, l1_, i64_w, i32_w]
             rfl
            refine pure_ (i := 9) (N := some 23) (v := ?_) (a' := ?_) #[true, true, true, true, true, true, true, true, true, true, false, false, false, false, false, false, false, false, false, false, false, false, false, false, false] rfl rfl (any_of HT_.out (by kernel_rfl)) (fun _ _ _ h => h) (Or.inl ⟨by rfl, ?_⟩) ?_ ?_
            rotate_left
            ·
             intro w'
             go_simp
             with_reducible rfl
            rotate_left
            ·
             simp only [Act.put, lS, l0_, l1_, i64_w, i32_w]
             rfl
            refine pure_ (i := 10) (N := some 24) (v := ?_) (a' := ?_) #[true, true, true, true, true, true, true, true, true, true, true, false, false, false, false, false, false, false, false, false, false, false, false, false, false] rfl rfl (any_of HT_.out (by kernel_rfl)) (fun _ _ _ h => h) (Or.inl ⟨by rfl, ?_⟩) ?_ ?_
            rotate_left
            ·
             intro w'
             go_simp
             with_reducible rfl
            rotate_left
            ·
             simp only [Act.put, lS, l0_, l1_, i64_w, i32_w]
             rfl
            refine pure_ (i := 11) (N := some 25) (v := ?_) (a' := ?_) #[true, true, true, true, true, true, true, true, true, true, true, true, false, false, false, false, false, false, false, false, false, false, false, false, false] rfl rfl (any_of HT_.out (by kernel_rfl)) (fun _ _ _ h => h) (Or.inl ⟨by rfl, ?_⟩) ?_ ?_
            rotate_left
            ·
             intro w'
             go_simp
             with_reducible rfl
            rotate_left
            ·
             simp only [Act.put, lS, l0_, l1_, i64_w, i32_w]
             rfl
            refine pure_ (i := 12) (N := some 26) (v := ?_) (a' := ?_) #[true, true, true, true, true, true, true, true, true, true, true, true, true, false, false, false, false, false, false, false, false, false, false, false, false] rfl rfl (any_of HT_.out (by kernel_rfl)) (fun _ _ _ h => h) (Or.inl ⟨by rfl, ?_⟩) ?_ ?_
            rotate_left
            ·
             intro w'
             go_simp
             with_reducible rfl
            rotate_left
            ·
             simp only [Act.put, lS, l0_, l1_, i64_w, i32_w]
             rfl
            refine pure_ (i := 13) (N := some 27) (v := ?_) (a' := ?_) #[true, true, true, true, true, true, true, true, true, true, true, true, true, true, false, false, false, false, false, false, false, false, false, false, false] rfl rfl (any_of HT_.out (by kernel_rfl)) (fun _ _ _ h => h) (Or.inl ⟨by rfl, ?_⟩) ?_ ?_
            rotate_left
            ·
             intro w'
             go_simp
             with_reducible rfl
            rotate_left
            ·
             simp only [Act.put, lS, l0_, l1_, i64_w, i32_w]
             rfl
            refine pure_ (i := 14) (N := some 28) (v := ?_) (a' := ?_) #[true, true, true, true, true, true, true, true, true, true, true, true, true, true, true, false, false, false, false, false, false, false, false, false, false] rfl rfl (any_of HT_.out (by kernel_rfl)) (fun _ _ _ h => h) (Or.inl ⟨by rfl, ?_⟩) ?_ ?_
            rotate_left
            ·
             intro w'
             go_simp
             with_reducible rfl
            rotate_left
            ·
             simp only [Act.put, lS, l0_, l1_, i64_w, i32_w]
             rfl
            refine pure_ (i := 15) (N := some 29) (v := ?_) (a' := ?_) #[true, true, true, true, true, true, true, true, true, true, true, true, true, true, true, true, false, false, false, false, false, false, false, false, false] rfl rfl (any_of HT_.out (by kernel_rfl)) (fun _ _ _ h => h) (Or.inl ⟨by rfl, ?_⟩) ?_ ?_
            rotate_left
            ·
             intro w'
             go_simp
             with_reducible rfl
            rotate_left
            ·
             simp only [Act.put, lS, l0_, l1_, i64_w, i32_w]
             rfl
            refine pure_ (i := 16) (N := some 30) (v := ?_) (a' := ?_) #[true, true, true, true, true, true, true, true, true, true, true, true, true, true, true, true, true, false, false, false, false, false, false, false, false] rfl rfl (any_of HT_.out (by kernel_rfl)) (fun _ _ _ h => h) (Or.inl ⟨by rfl, ?_⟩) ?_ ?_
            rotate_left
            ·
             intro w'
             go_simp
             with_reducible rfl
            rotate_left
            ·
             simp only [Act.put, lS, l0_, l1_, i64_w, i32_w]
             rfl
            refine pure_ (i := 17) (N := some 31) (v := ?_) (a' := ?_) #[true, true, true, true, true, true, true, true, true, true, true, true, true, true, true, true, true, true, false, false, false, false, false, false, false] rfl rfl (any_of HT_.out (by kernel_rfl)) (fun _ _ _ h => h) (Or.inl ⟨by rfl, ?_⟩) ?_ ?_
            rotate_left
            ·
             intro w'
             go_simp
             with_reducible rfl
            rotate_left
            ·
             simp only [Act.put, lS, l0_, l1_, i64_w, i32_w]
             rfl
            refine pure_ (i := 18) (N := some 32) (v := ?_) (a' := ?_) #[true, true, true, true, true, true, true, true, true, true, true, true, true, true, true, true, true, true, true, false, false, false, false, false, false] rfl rfl (any_of HT_.out (by kernel_rfl)) (fun _ _ _ h => h) (Or.inl ⟨by rfl, ?_⟩) ?_ ?_
            rotate_left
            ·
             intro w'
             go_simp
             with_reducible rfl
            rotate_left
            ·
             simp only [Act.put, lS, l0_, l1_, i64_w, i32_w]
             rfl
            refine pure_ (i := 20) (N := some 34) (v := ?_) (a' := ?_) #[true, true, true, true, true, true, true, true, true, true, true, true, true, true, true, true, true, true, true, false, true, false, false, false, false] rfl rfl (any_of HT_.out (by kernel_rfl)) (fun _ _ _ h => h) (Or.inl ⟨by rfl, ?_⟩) ?_ ?_
            rotate_left
            ·
             intro w'
             go_simp
             with_reducible rfl
            rotate_left
            ·
             simp only [Act.put, lS, l0_, l1_, i64_w, i32_w]
             rfl
            refine take_ (i := 19) (N := some 33) (v := ?_) (a' := ?_) #[true, true, true, true, true, true, true, true, true, true, true, true, true, true, true, true, true, true, true, true, true, false, false, false, false] rfl rfl (take_ofW HT_.out HW_.out (by kernel_rfl)) (fun _ _ _ h => h) (Or.inl ⟨by rfl, ?_⟩) hHeld ?_ ?_
            rotate_left
            ·
             rintro w' ⟨s0, s1, s2, s3, s4, s5, s6, s7, s8, s9, s10, s11, s12, s13, s14, s15, s16, s17, s18, s19, s20⟩
             go_simp
             with_reducible rfl
            rotate_left
            ·
             simp only [Act.put, lS, l0_, l1_, i64_w, i32_w]
             rfl
            refine take_ (i := 21) (N := some 35) (v := ?_) (a' := ?_) #[true, true, true, true, true, true, true, true, true, true, true, true, true, true, true, true, true, true, true, true, true, true, false, false, false] rfl rfl (take_ofW HT_.out HW_.out (by kernel_rfl)) (fun _ _ _ h => h) (Or.inl ⟨by rfl, ?_⟩) hHeld ?_ ?_
            rotate_left
            ·
             rintro w' ⟨s0, s1, s2, s3, s4, s5, s6, s7, s8, s9, s10, s11, s12, s13, s14, s15, s16, s17, s18, s19, s20⟩
             go_simp
             with_reducible rfl
            rotate_left
            ·
             simp only [Act.put, lS, l0_, l1_, i64_w, i32_w]
             rfl
            refine pure_ (i := 22) (N := some 36) (v := ?_) (a' := ?_) #[true, true, true, true, true, true, true, true, true, true, true, true, true, true, true, true, true, true, true, true, true, true, true, false, false] rfl rfl (any_of HT_.out (by kernel_rfl)) (fun _ _ _ h => h) (Or.inl ⟨by rfl, ?_⟩) ?_ ?_
            rotate_left
            ·
             intro w'
             go_simp
             with_reducible rfl
            rotate_left
            ·
             simp only [Act.put, lS, l0_, l1_, i64_w, i32_w]
             rfl
            refine pure_ (i := 23) (N := some 37) (v := ?_) (a' := ?_) #[true, true, true, true, true, true, true, true, true, true, true, true, true, true, true, true, true, true, true, true, true, true, true, true, false] rfl rfl (any_of HT_.out (by kernel_rfl)) (fun _ _ _ h => h) (Or.inl ⟨by rfl, ?_⟩) ?_ ?_
            rotate_left
            ·
             intro w'
             go_simp
             with_reducible rfl
            rotate_left
            ·
             simp only [Act.put, lS, l0_, l1_, i64_w, i32_w]
             rfl
            refine pure_ (i := 24) (N := some 38) (v := ?_) (a' := ?_) #[true, true, true, true, true, true, true, true, true, true, true, true, true, true, true, true, true, true, true, true, true, true, true, true, true] rfl rfl (any_of HT_.out (by kernel_rfl)) (fun _ _ _ h => h) (Or.inl ⟨by rfl, ?_⟩) ?_ ?_
            rotate_left
            ·
             intro w'
             go_simp
             with_reducible rfl
            rotate_left
            ·
             simp only [Act.put, lS, l0_, l1_, i64_w, i32_w]
             rfl
            refine done_ (done_of HT_.out (by kernel_rfl)) ?_
            try go_wp2
            go_roundg k1
            case measure => have := HK1.out; omega
            case rel => exact ⟨(wrap64 (x9_1 + 1)), (by first | rfl | (simp; done) | (simp [*]; done)), H', ⟨by have := HK1.out; omega⟩, ⟨by exact BK248.out⟩, ⟨(a6_ HB.out GE248.out GE250.out)⟩⟩
          ·
           rw [if_neg c13] at H
           exact absurd H (by simp)
         ·
          rw [if_neg c12] at H
          exact absurd H (by simp)
        ·
         rw [if_neg c10] at H
         have c10b0 : decide (0 < x9_1) = false := decide_eq_false c10
         clear c10
         have H' := Aside0.mk H
         clear H
         have p249 : 0 ≤ (x9_1 : Int) := of_decide_eq_true (by first | (with_reducible assumption) | assumption)
         have q249 : x9_1 < (l1.length : Int) := of_decide_eq_true (by first | (with_reducible assumption) | assumption)
         obtain ⟨ad249, A249_7, c249_7, e249, hx249_0, hx249_1, hx249_2, hx249_3, hx249_4, hx249_5, hx249_6, hx249_7, hx249_8, hl249_7, hi249_7⟩ := at_T43 HR1.out x9_1 p249 q249
         cases e249
         replace hx249_0 := ce_ HB.out hx249_0
         replace hx249_1 := ce_ HB.out hx249_1
         replace hx249_2 := ce_ HB.out hx249_2
         replace hx249_3 := ce_ HB.out hx249_3
         replace hx249_4 := ce_ HB.out hx249_4
         replace hx249_5 := ce_ HB.out hx249_5
         replace hx249_6 := ce_ HB.out hx249_6
         replace hx249_7 := ce_ HB.out hx249_7
         replace hx249_8 := ce_ HB.out hx249_8
         have HR249_7 := Aside0.mk hi249_7
         have HC249_7 := Aside0.mk hl249_7
         clear hi249_7 hl249_7
         replace p249 := eq_true p249
         replace q249 := eq_true q249
         try go_wp2_with (first | ((with_reducible refine gate_dst (N := 6) rfl ?_); refine box_event ?hg (N := 6) ?hd (cs := #[.int .i64 0, .int .i64 0, .int .i64 0, .int .i64 0, .int .i64 0, .int .i64 0, .string (⟨#[]⟩ : ByteArray), .slice none 0 0, .int .i64 0]) (t := 43) ?hr ?_; (case hd => rfl); (case hg => rfl); (case hr => first | (go_simp; done) | (go_simp; rfl)); intro gb250 hg w27 hbox hb; have n0_ := Aside0.mk (blk_below BK248.out hb); have n1_ := Aside0.mk (below_step HB.out hb); have n2_ := Aside0.mk (hbox); have n3_ := Aside0.mk ((by rw [hg]; exact (below_size HB.out) : w.heap.size ≤ gb250)); have n4_ := Aside0.mk ((by rw [hg]; exact (below_size HB.out) : w.heap.size ≤ gb250)); have n5_ := Aside0.mk ((by rw [hg]; exact Nat.ne_of_lt (blk_lt BK248.out) : gb248 ≠ gb250)); have n6_ := Aside0.mk ((by rw [hg]; exact Nat.ne_of_gt (blk_lt BK248.out) : gb250 ≠ gb248)); clear BK248; clear HB; have BK248 := n0_; have HB := n1_; have BK250 := n2_; have GW250 := n3_; have GE250 := n4_; have NB248_250 := n5_; have NB250_248 := n6_; clear n0_ n1_ n2_ n3_ n4_ n5_ n6_; clear hb hbox hg; have hnb28 := NB250_248.out; have hnc28 := NB248_250.out; have hcz29_0 : w27.cell? ⟨gb250, 0, none⟩ = some (.int .i64 0) := (blk_cell BK250.out 0).trans rfl; have hcz29_1 : w27.cell? ⟨gb250, 1, none⟩ = some (.int .i64 0) := (blk_cell BK250.out 1).trans rfl; have hcz29_2 : w27.cell? ⟨gb250, 2, none⟩ = some (.int .i64 0) := (blk_cell BK250.out 2).trans rfl; have hcz29_3 : w27.cell? ⟨gb250, 3, none⟩ = some (.int .i64 0) := (blk_cell BK250.out 3).trans rfl; have hcz29_4 : w27.cell? ⟨gb250, 4, none⟩ = some (.int .i64 0) := (blk_cell BK250.out 4).trans rfl; have hcz29_5 : w27.cell? ⟨gb250, 5, none⟩ = some (.int .i64 0) := (blk_cell BK250.out 5).trans rfl; have hcz29_6 : w27.cell? ⟨gb250, 6, none⟩ = some (.string (⟨#[]⟩ : ByteArray)) := (blk_cell BK250.out 6).trans rfl; have hcz29_7 : w27.cell? ⟨gb250, 7, none⟩ = some (.slice none 0 0) := (blk_cell BK250.out 7).trans rfl; have hcz29_8 : w27.cell? ⟨gb250, 8, none⟩ = some (.int .i64 0) := (blk_cell BK250.out 8).trans rfl; have hfz29_0 := blk_frozen BK250.out 0; have hfz29_1 := blk_frozen BK250.out 1; have hfz29_2 := blk_frozen BK250.out 2; have hfz29_3 := blk_frozen BK250.out 3; have hfz29_4 := blk_frozen BK250.out 4; have hfz29_5 := blk_frozen BK250.out 5; have hfz29_6 := blk_frozen BK250.out 6; have hfz29_7 := blk_frozen BK250.out 7; have hfz29_8 := blk_frozen BK250.out 8))
         have n0_ : Aside0 ((((((((((w27.setCell ⟨gb250, 0, none⟩ (.int .i64 ((rd_T43 l1 x9_1).f0))).setCell ⟨gb250, 1, none⟩ (.int .i64 ((rd_T43 l1 x9_1).f1))).setCell ⟨gb250, 2, none⟩ (.int .i64 ((rd_T43 l1 x9_1).f2))).setCell ⟨gb250, 3, none⟩ (.int .i64 ((rd_T43 l1 x9_1).f3))).setCell ⟨gb250, 4, none⟩ (.int .i64 ((rd_T43 l1 x9_1).f4))).setCell ⟨gb250, 5, none⟩ (.int .i64 ((rd_T43 l1 x9_1).f5))).setCell ⟨gb250, 6, none⟩ (.string ((rd_T43 l1 x9_1).f6))).setCell ⟨gb250, 7, none⟩ (.slice A249_7 ((rd_T43 l1 x9_1).f7).length c249_7)).setCell ⟨gb250, 8, none⟩ (.int .i64 ((rd_T43 l1 x9_1).f8))).heap[gb248]? = some (.cells #[.int .i64 a0_0, .slice A0_1 l0_1.length c0_1, .slice A0_2 l0_2.length c0_2] 29 (0, 0))) := ⟨by refine blk_far ?_ NB248_250.out _; refine blk_far ?_ NB248_250.out _; refine blk_far ?_ NB248_250.out _; refine blk_far ?_ NB248_250.out _; refine blk_far ?_ NB248_250.out _; refine blk_far ?_ NB248_250.out _; refine blk_far ?_ NB248_250.out _; refine blk_far ?_ NB248_250.out _; refine blk_far ?_ NB248_250.out _; exact BK248.out⟩
         have n1_ : Aside0 ((((((((((w27.setCell ⟨gb250, 0, none⟩ (.int .i64 ((rd_T43 l1 x9_1).f0))).setCell ⟨gb250, 1, none⟩ (.int .i64 ((rd_T43 l1 x9_1).f1))).setCell ⟨gb250, 2, none⟩ (.int .i64 ((rd_T43 l1 x9_1).f2))).setCell ⟨gb250, 3, none⟩ (.int .i64 ((rd_T43 l1 x9_1).f3))).setCell ⟨gb250, 4, none⟩ (.int .i64 ((rd_T43 l1 x9_1).f4))).setCell ⟨gb250, 5, none⟩ (.int .i64 ((rd_T43 l1 x9_1).f5))).setCell ⟨gb250, 6, none⟩ (.string ((rd_T43 l1 x9_1).f6))).setCell ⟨gb250, 7, none⟩ (.slice A249_7 ((rd_T43 l1 x9_1).f7).length c249_7)).setCell ⟨gb250, 8, none⟩ (.int .i64 ((rd_T43 l1 x9_1).f8))).heap[gb250]? = some (.cells #[.int .i64 ((rd_T43 l1 x9_1).f0), .int .i64 ((rd_T43 l1 x9_1).f1), .int .i64 ((rd_T43 l1 x9_1).f2), .int .i64 ((rd_T43 l1 x9_1).f3), .int .i64 ((rd_T43 l1 x9_1).f4), .int .i64 ((rd_T43 l1 x9_1).f5), .string ((rd_T43 l1 x9_1).f6), .slice A249_7 ((rd_T43 l1 x9_1).f7).length c249_7, .int .i64 ((rd_T43 l1 x9_1).f8)] 43 (0, 0))) := ⟨by refine blk_put (cs := #[.int .i64 ((rd_T43 l1 x9_1).f0), .int .i64 ((rd_T43 l1 x9_1).f1), .int .i64 ((rd_T43 l1 x9_1).f2), .int .i64 ((rd_T43 l1 x9_1).f3), .int .i64 ((rd_T43 l1 x9_1).f4), .int .i64 ((rd_T43 l1 x9_1).f5), .string ((rd_T43 l1 x9_1).f6), .slice A249_7 ((rd_T43 l1 x9_1).f7).length c249_7, .int .i64 0]) ?_ 8 _ rfl; refine blk_put (cs := #[.int .i64 ((rd_T43 l1 x9_1).f0), .int .i64 ((rd_T43 l1 x9_1).f1), .int .i64 ((rd_T43 l1 x9_1).f2), .int .i64 ((rd_T43 l1 x9_1).f3), .int .i64 ((rd_T43 l1 x9_1).f4), .int .i64 ((rd_T43 l1 x9_1).f5), .string ((rd_T43 l1 x9_1).f6), .slice none 0 0, .int .i64 0]) ?_ 7 _ rfl; refine blk_put (cs := #[.int .i64 ((rd_T43 l1 x9_1).f0), .int .i64 ((rd_T43 l1 x9_1).f1), .int .i64 ((rd_T43 l1 x9_1).f2), .int .i64 ((rd_T43 l1 x9_1).f3), .int .i64 ((rd_T43 l1 x9_1).f4), .int .i64 ((rd_T43 l1 x9_1).f5), .string (⟨#[]⟩ : ByteArray), .slice none 0 0, .int .i64 0]) ?_ 6 _ rfl; refine blk_put (cs := #[.int .i64 ((rd_T43 l1 x9_1).f0), .int .i64 ((rd_T43 l1 x9_1).f1), .int .i64 ((rd_T43 l1 x9_1).f2), .int .i64 ((rd_T43 l1 x9_1).f3), .int .i64 ((rd_T43 l1 x9_1).f4), .int .i64 0, .string (⟨#[]⟩ : ByteArray), .slice none 0 0, .int .i64 0]) ?_ 5 _ rfl; refine blk_put (cs := #[.int .i64 ((rd_T43 l1 x9_1).f0), .int .i64 ((rd_T43 l1 x9_1).f1), .int .i64 ((rd_T43 l1 x9_1).f2), .int .i64 ((rd_T43 l1 x9_1).f3), .int .i64 0, .int .i64 0, .string (⟨#[]⟩ : ByteArray), .slice none 0 0, .int .i64 0]) ?_ 4 _ rfl; refine blk_put (cs := #[.int .i64 ((rd_T43 l1 x9_1).f0), .int .i64 ((rd_T43 l1 x9_1).f1), .int .i64 ((rd_T43 l1 x9_1).f2), .int .i64 0, .int .i64 0, .int .i64 0, .string (⟨#[]⟩ : ByteArray), .slice none 0 0, .int .i64 0]) ?_ 3 _ rfl; refine blk_put (cs := #[.int .i64 ((rd_T43 l1 x9_1).f0), .int .i64 ((rd_T43 l1 x9_1).f1), .int .i64 0, .int .i64 0, .int .i64 0, .int .i64 0, .string (⟨#[]⟩ : ByteArray), .slice none 0 0, .int .i64 0]) ?_ 2 _ rfl; refine blk_put (cs := #[.int .i64 ((rd_T43 l1 x9_1).f0), .int .i64 0, .int .i64 0, .int .i64 0, .int .i64 0, .int .i64 0, .string (⟨#[]⟩ : ByteArray), .slice none 0 0, .int .i64 0]) ?_ 1 _ rfl; refine blk_put (cs := #[.int .i64 0, .int .i64 0, .int .i64 0, .int .i64 0, .int .i64 0, .int .i64 0, .string (⟨#[]⟩ : ByteArray), .slice none 0 0, .int .i64 0]) ?_ 0 _ rfl; exact BK250.out⟩
         have n2_ : Aside0 (Below w.heap.size w (((((((((w27.setCell ⟨gb250, 0, none⟩ (.int .i64 ((rd_T43 l1 x9_1).f0))).setCell ⟨gb250, 1, none⟩ (.int .i64 ((rd_T43 l1 x9_1).f1))).setCell ⟨gb250, 2, none⟩ (.int .i64 ((rd_T43 l1 x9_1).f2))).setCell ⟨gb250, 3, none⟩ (.int .i64 ((rd_T43 l1 x9_1).f3))).setCell ⟨gb250, 4, none⟩ (.int .i64 ((rd_T43 l1 x9_1).f4))).setCell ⟨gb250, 5, none⟩ (.int .i64 ((rd_T43 l1 x9_1).f5))).setCell ⟨gb250, 6, none⟩ (.string ((rd_T43 l1 x9_1).f6))).setCell ⟨gb250, 7, none⟩ (.slice A249_7 ((rd_T43 l1 x9_1).f7).length c249_7)).setCell ⟨gb250, 8, none⟩ (.int .i64 ((rd_T43 l1 x9_1).f8)))) := ⟨(a6_ HB.out GE248.out GE250.out)⟩
         (try clear BK248)
         (try clear BK250)
         (try clear HB)
         generalize (((((((((w27.setCell ⟨gb250, 0, none⟩ (.int .i64 ((rd_T43 l1 x9_1).f0))).setCell ⟨gb250, 1, none⟩ (.int .i64 ((rd_T43 l1 x9_1).f1))).setCell ⟨gb250, 2, none⟩ (.int .i64 ((rd_T43 l1 x9_1).f2))).setCell ⟨gb250, 3, none⟩ (.int .i64 ((rd_T43 l1 x9_1).f3))).setCell ⟨gb250, 4, none⟩ (.int .i64 ((rd_T43 l1 x9_1).f4))).setCell ⟨gb250, 5, none⟩ (.int .i64 ((rd_T43 l1 x9_1).f5))).setCell ⟨gb250, 6, none⟩ (.string ((rd_T43 l1 x9_1).f6))).setCell ⟨gb250, 7, none⟩ (.slice A249_7 ((rd_T43 l1 x9_1).f7).length c249_7)).setCell ⟨gb250, 8, none⟩ (.int .i64 ((rd_T43 l1 x9_1).f8))) = w30 at n0_ n1_ n2_ ⊢
         have BK248 := n0_
         have BK250 := n1_
         have HB := n2_
         clear n0_ n1_ n2_
         have n0_ := Aside0.mk (blk_drew BK248.out)
         have n1_ := Aside0.mk (blk_drew BK250.out)
         have n2_ := Aside0.mk (below_drew1 HB.out)
         clear BK248
         clear BK250
         clear HB
         have BK248 := n0_
         have BK250 := n1_
         have HB := n2_
         clear n0_ n1_ n2_
         refine start_ (n := 25) (S := fun w' => w'.cell? ⟨gb250, 0, none⟩ = some (.int .i64 ((rd_T43 l1 x9_1).f0)) ∧ w'.cell? ⟨gb250, 1, none⟩ = some (.int .i64 ((rd_T43 l1 x9_1).f1)) ∧ w'.cell? ⟨gb250, 2, none⟩ = some (.int .i64 ((rd_T43 l1 x9_1).f2)) ∧ w'.cell? ⟨gb250, 3, none⟩ = some (.int .i64 ((rd_T43 l1 x9_1).f3)) ∧ w'.cell? ⟨gb250, 4, none⟩ = some (.int .i64 ((rd_T43 l1 x9_1).f4)) ∧ w'.cell? ⟨gb250, 5, none⟩ = some (.int .i64 ((rd_T43 l1 x9_1).f5)) ∧ w'.cell? ⟨gb250, 6, none⟩ = some (.string ((rd_T43 l1 x9_1).f6)) ∧ w'.cell? ⟨gb250, 7, none⟩ = some (.slice A249_7 ((rd_T43 l1 x9_1).f7).length c249_7) ∧ w'.cell? ⟨gb250, 8, none⟩ = some (.int .i64 ((rd_T43 l1 x9_1).f8)) ∧ w'.cell? ⟨gb248, 0, none⟩ = some (.int .i64 a0_0) ∧ w'.cell? ⟨gb248, 1, none⟩ = some (.slice A0_1 l0_1.length c0_1) ∧ w'.cell? ⟨gb248, 2, none⟩ = some (.slice A0_2 l0_2.length c0_2)) (ds := []) #[false, false, false, false, false, false, false, false, false, false, false, false, false, false, false, false, false, false, false, false, false, false, false, false, false] (by kernel_rfl) rfl rfl ⟨(blk_cell BK250.out 0).trans rfl, (blk_cell BK250.out 1).trans rfl, (blk_cell BK250.out 2).trans rfl, (blk_cell BK250.out 3).trans rfl, (blk_cell BK250.out 4).trans rfl, (blk_cell BK250.out 5).trans rfl, (blk_cell BK250.out 6).trans rfl, (blk_cell BK250.out 7).trans rfl, (blk_cell BK250.out 8).trans rfl, (blk_cell BK248.out 0).trans rfl, (blk_cell BK248.out 1).trans rfl, (blk_cell BK248.out 2).trans rfl⟩ (fun hHeld => ?_); refine with_tabW impl_Graph_areRight.tab4 impl_Graph_areRight.bits4 (fun HT_ HW_ => ?_)
         generalize w30.drew = w31 at BK248 BK250 HB hHeld ⊢
         refine take_ (i := 0) (N := some 14) (v := ?_) (a' := ?_) #[true, false, false, false, false, false, false, false, false, false, false, false, false, false, false, false, false, false, false, false, false, false, false, false, false] rfl rfl (take_ofW HT_.out HW_.out (by kernel_rfl)) (fun _ _ _ h => h) (Or.inl ⟨by rfl, ?_⟩) hHeld ?_ ?_
         rotate_left
         ·
          rintro w' ⟨s0, s1, s2, s3, s4, s5, s6, s7, s8, s9, s10, s11⟩
          go_simp
          with_reducible rfl
         rotate_left
         ·
          simp only [Act.put, lS, l0_, l1_, i64_w, i32_w]
          rfl
         refine one_ (i := 1) (N := some 15) #[true, true, false, false, false, false, false, false, false, false, false, false, false, false, false, false, false, false, false, false, false, false, false, false, false] rfl rfl (one_of HT_.out (by kernel_rfl)) (by decide) (fun K hK => ?_)
         refine goes_ Try.func39 (by kernel_rfl) rfl #[.agg #[.int .i64 ((rd_T43 l1 x9_1).f0), .int .i64 ((rd_T43 l1 x9_1).f1), .int .i64 ((rd_T43 l1 x9_1).f2), .int .i64 ((rd_T43 l1 x9_1).f3), .int .i64 ((rd_T43 l1 x9_1).f4), .int .i64 ((rd_T43 l1 x9_1).f5), .string ((rd_T43 l1 x9_1).f6), .slice A249_7 ((rd_T43 l1 x9_1).f7).length c249_7, .int .i64 ((rd_T43 l1 x9_1).f8)]] (by rfl) rfl rfl (by (try simp only [List.map_toArray, List.map_cons, List.map_nil]); first | done | rfl | (simp only [List.length_drop, List.length_take]; rfl)) ?_
         with_reducible refine (impl_EventRight.calls k1 ((rd_T43 l1 x9_1).f0) ((rd_T43 l1 x9_1).f1) ((rd_T43 l1 x9_1).f2) ((rd_T43 l1 x9_1).f3) ((rd_T43 l1 x9_1).f4) ((rd_T43 l1 x9_1).f5) ((rd_T43 l1 x9_1).f6) _ _ ((rd_T43 l1 x9_1).f7) ((rd_T43 l1 x9_1).f8) true _ ?side1 ?side2 A7.out).mono ?_
         (case side1 => repeat (first | exact (Kd.C_below HR249_7.out HB.out) | (with_reducible refine Kd.C_alloc ?_ _) | (with_reducible refine Kd.C_drewN ?_ _) | (with_reducible refine Kd.C_drew ?_)))
         (case side2 => exact HC249_7.out)
         rintro e w32 ⟨rfl, hb⟩
         refine ⟨_, rfl, ?_⟩
         have n0_ := Aside0.mk (blk_below BK248.out hb)
         have n1_ := Aside0.mk (blk_below BK250.out hb)
         have n2_ := Aside0.mk (below_step HB.out hb)
         clear BK248
         clear BK250
         clear HB
         have BK248 := n0_
         have BK250 := n1_
         have HB := n2_
         clear n0_ n1_ n2_
         (try clear hb)
         (try clear hb2)
         (try clear hk)
         (try clear hi)
         refine hK.out _ _ ⟨(blk_cell BK250.out 0).trans rfl, (blk_cell BK250.out 1).trans rfl, (blk_cell BK250.out 2).trans rfl, (blk_cell BK250.out 3).trans rfl, (blk_cell BK250.out 4).trans rfl, (blk_cell BK250.out 5).trans rfl, (blk_cell BK250.out 6).trans rfl, (blk_cell BK250.out 7).trans rfl, (blk_cell BK250.out 8).trans rfl, (blk_cell BK248.out 0).trans rfl, (blk_cell BK248.out 1).trans rfl, (blk_cell BK248.out 2).trans rfl⟩ (fun hHeld => ?_)
         clear hK K
         refine norm_ (a' := ?_) ?_ ?_
         rotate_left
         ·
          show Act.put _ (some 15) _ = _
          simp only [Act.put, lS, l0_, l1_, i64_w, i32_w]
          rfl
         refine pure_ (i := 2) (N := some 16) (v := ?_) (a' := ?_) #[true, true, true, false, false, false, false, false, false, false, false, false, false, false, false, false, false, false, false, false, false, false, false, false, false] rfl rfl (any_of HT_.out (by kernel_rfl)) (fun _ _ _ h => h) (Or.inl ⟨by rfl, ?_⟩) ?_ ?_
         rotate_left
         ·
          intro w'
          go_simp
          with_reducible rfl
         rotate_left
         ·
          simp only [Act.put, lS, l0_, l1_, i64_w, i32_w]
          rfl
         refine pure_ (i := 3) (N := some 17) (v := ?_) (a' := ?_) #[true, true, true, true, false, false, false, false, false, false, false, false, false, false, false, false, false, false, false, false, false, false, false, false, false] rfl rfl (any_of HT_.out (by kernel_rfl)) (fun _ _ _ h => h) (Or.inl ⟨by rfl, ?_⟩) ?_ ?_
         rotate_left
         ·
          intro w'
          go_simp
          with_reducible rfl
         rotate_left
         ·
          simp only [Act.put, lS, l0_, l1_, i64_w, i32_w]
          rfl
         refine pure_ (i := 4) (N := some 18) (v := ?_) (a' := ?_) #[true, true, true, true, true, false, false, false, false, false, false, false, false, false, false, false, false, false, false, false, false, false, false, false, false] rfl rfl (any_of HT_.out (by kernel_rfl)) (fun _ _ _ h => h) (Or.inl ⟨by rfl, ?_⟩) ?_ ?_
         rotate_left
         ·
          intro w'
          go_simp
          with_reducible rfl
         rotate_left
         ·
          simp only [Act.put, lS, l0_, l1_, i64_w, i32_w]
          rfl
         refine pure_ (i := 6) (N := some 20) (v := ?_) (a' := ?_) #[true, true, true, true, true, false, true, false, false, false, false, false, false, false, false, false, false, false, false, false, false, false, false, false, false] rfl rfl (any_of HT_.out (by kernel_rfl)) (fun _ _ _ h => h) (Or.inl ⟨by rfl, ?_⟩) ?_ ?_
         rotate_left
         ·
          intro w'
          go_simp
          with_reducible rfl
         rotate_left
         ·
          simp only [Act.put, lS, l0_, l1_, i64_w, i32_w]
          rfl
         refine take_ (i := 5) (N := some 19) (v := ?_) (a' := ?_) #[true, true, true, true, true, true, true, false, false, false, false, false, false, false, false, false, false, false, false, false, false, false, false, false, false] rfl rfl (take_ofW HT_.out HW_.out (by kernel_rfl)) (fun _ _ _ h => h) (Or.inl ⟨by rfl, ?_⟩) hHeld ?_ ?_
         rotate_left
         ·
          rintro w' ⟨s0, s1, s2, s3, s4, s5, s6, s7, s8, s9, s10, s11⟩
          go_simp
          with_reducible rfl
         rotate_left
         ·
          simp only [Act.put, lS, l0_, l1_, i64_w, i32_w]
          rfl
         refine take_ (i := 7) (N := some 21) (v := ?_) (a' := ?_) #[true, true, true, true, true, true, true, true, false, false, false, false, false, false, false, false, false, false, false, false, false, false, false, false, false] rfl rfl (take_ofW HT_.out HW_.out (by kernel_rfl)) (fun _ _ _ h => h) (Or.inl ⟨by rfl, ?_⟩) hHeld ?_ ?_
         rotate_left
         ·
          rintro w' ⟨s0, s1, s2, s3, s4, s5, s6, s7, s8, s9, s10, s11⟩
          go_simp
          with_reducible rfl
         rotate_left
         ·
          simp only [Act.put, lS, l0_, l1_, i64_w, i32_w]
          rfl
         refine pure_ (i := 8) (N := some 22) (v := ?_) (a' := ?_) #[true, true, true, true, true, true, true, true, true, false, false, false, false, false, false, false, false, false, false, false, false, false, false, false, false] rfl rfl (any_of HT_.out (by kernel_rfl)) (fun _ _ _ h => h) (Or.inl ⟨by rfl, ?_⟩) ?_ ?_
         rotate_left
         ·
          intro w'
          go_simp
          with_reducible rfl
         rotate_left
         ·
          simp only [Act.put, lS, l0_, l1_, i64_w, i32_w]
          rfl
         refine pure_ (i := 9) (N := some 23) (v := ?_) (a' := ?_) #[true, true, true, true, true, true, true, true, true, true, false, false, false, false, false, false, false, false, false, false, false, false, false, false, false] rfl rfl (any_of HT_.out (by kernel_rfl)) (fun _ _ _ h => h) (Or.inl ⟨by rfl, ?_⟩) ?_ ?_
         rotate_left
         ·
          intro w'
          go_simp
          with_reducible rfl
         rotate_left
         ·
          simp only [Act.put, lS, l0_, l1_, i64_w, i32_w]
          rfl
         refine pure_ (i := 10) (N := some 24) (v := ?_) (a' := ?_) #[true, true, true, true, true, true, true, true, true, true, true, false, false, false, false, false, false, false, false, false, false, false, false, false, false] rfl rfl (any_of HT_.out (by kernel_rfl)) (fun _ _ _ h => h) (Or.inl ⟨by rfl, ?_⟩) ?_ ?_
         rotate_left
         ·
          intro w'
          go_simp
          with_reducible rfl
         rotate_left
         ·
          simp only [Act.put, lS, l0_, l1_, i64_w, i32_w]
          rfl
         refine pure_ (i := 11) (N := some 25) (v := ?_) (a' := ?_) #[true, true, true, true, true, true, true, true, true, true, true, true, false, false, false, false, false, false, false, false, false, false, false, false, false] rfl rfl (any_of HT_.out (by kernel_rfl)) (fun _ _ _ h => h) (Or.inl ⟨by rfl, ?_⟩) ?_ ?_
         rotate_left
         ·
          intro w'
          go_simp
          with_reducible rfl
         rotate_left
         ·
          simp only [Act.put, lS, l0_, l1_, i64_w, i32_w]
          rfl
         refine pure_ (i := 12) (N := some 26) (v := ?_) (a' := ?_) #[true, true, true, true, true, true, true, true, true, true, true, true, true, false, false, false, false, false, false, false, false, false, false, false, false] rfl rfl (any_of HT_.out (by kernel_rfl)) (fun _ _ _ h => h) (Or.inl ⟨by rfl, ?_⟩) ?_ ?_
         rotate_left
         ·
          intro w'
          go_simp
          with_reducible rfl
         rotate_left
         ·
          simp only [Act.put, lS, l0_, l1_, i64_w, i32_w]
          rfl
         refine pure_ (i := 13) (N := some 27) (v := ?_) (a' := ?_) #[true, true, true, true, true, true, true, true, true, true, true, true, true, true, false, false, false, false, false, false, false, false, false, false, false] rfl rfl (any_of HT_.out (by kernel_rfl)) (fun _ _ _ h => h) (Or.inl ⟨by rfl, ?_⟩) ?_ ?_
         rotate_left
         ·
          intro w'
          go_simp
          with_reducible rfl
         rotate_left
         ·
          simp only [Act.put, lS, l0_, l1_, i64_w, i32_w]
          rfl
         refine pure_ (i := 14) (N := some 28) (v := undef) (a' := ?_) #[true, true, true, true, true, true, true, true, true, true, true, true, true, true, true, false, false, false, false, false, false, false, false, false, false] rfl rfl (any_of HT_.out (by kernel_rfl)) (fun _ _ _ h => h) (Or.inr ⟨by rfl, rfl⟩) ?_ ?_
         rotate_left
         ·
          simp only [Act.put, lS, l0_, l1_, i64_w, i32_w]
          rfl
         refine pure_ (i := 15) (N := some 29) (v := undef) (a' := ?_) #[true, true, true, true, true, true, true, true, true, true, true, true, true, true, true, true, false, false, false, false, false, false, false, false, false] rfl rfl (any_of HT_.out (by kernel_rfl)) (fun _ _ _ h => h) (Or.inr ⟨by rfl, rfl⟩) ?_ ?_
         rotate_left
         ·
          simp only [Act.put, lS, l0_, l1_, i64_w, i32_w]
          rfl
         refine pure_ (i := 16) (N := some 30) (v := undef) (a' := ?_) #[true, true, true, true, true, true, true, true, true, true, true, true, true, true, true, true, true, false, false, false, false, false, false, false, false] rfl rfl (any_of HT_.out (by kernel_rfl)) (fun _ _ _ h => h) (Or.inr ⟨by rfl, rfl⟩) ?_ ?_
         rotate_left
         ·
          simp only [Act.put, lS, l0_, l1_, i64_w, i32_w]
          rfl
         refine pure_ (i := 17) (N := some 31) (v := undef) (a' := ?_) #[true, true, true, true, true, true, true, true, true, true, true, true, true, true, true, true, true, true, false, false, false, false, false, false, false] rfl rfl (any_of HT_.out (by kernel_rfl)) (fun _ _ _ h => h) (Or.inr ⟨by rfl, rfl⟩) ?_ ?_
         rotate_left
         ·
          simp only [Act.put, lS, l0_, l1_, i64_w, i32_w]
          rfl
         refine pure_ (i := 18) (N := some 32) (v := undef) (a' := ?_) #[true, true, true, true, true, true, true, true, true, true, true, true, true, true, true, true, true, true, true, false, false, false, false, false, false] rfl rfl (any_of HT_.out (by kernel_rfl)) (fun _ _ _ h => h) (Or.inr ⟨by rfl, rfl⟩) ?_ ?_
         rotate_left
         ·
          simp only [Act.put, lS, l0_, l1_, i64_w, i32_w]
          rfl
         refine pure_ (i := 19) (N := some 33) (v := undef) (a' := ?_) #[true, true, true, true, true, true, true, true, true, true, true, true, true, true, true, true, true, true, true, true, false, false, false, false, false] rfl rfl (any_of HT_.out (by kernel_rfl)) (fun _ _ _ h => h) (Or.inr ⟨by rfl, rfl⟩) ?_ ?_
         rotate_left
         ·
          simp only [Act.put, lS, l0_, l1_, i64_w, i32_w]
          rfl
         refine pure_ (i := 20) (N := some 34) (v := undef) (a' := ?_) #[true, true, true, true, true, true, true, true, true, true, true, true, true, true, true, true, true, true, true, true, true, false, false, false, false] rfl rfl (any_of HT_.out (by kernel_rfl)) (fun _ _ _ h => h) (Or.inr ⟨by rfl, rfl⟩) ?_ ?_
         rotate_left
         ·
          simp only [Act.put, lS, l0_, l1_, i64_w, i32_w]
          rfl
         refine pure_ (i := 21) (N := some 35) (v := undef) (a' := ?_) #[true, true, true, true, true, true, true, true, true, true, true, true, true, true, true, true, true, true, true, true, true, true, false, false, false] rfl rfl (any_of HT_.out (by kernel_rfl)) (fun _ _ _ h => h) (Or.inr ⟨by rfl, rfl⟩) ?_ ?_
         rotate_left
         ·
          simp only [Act.put, lS, l0_, l1_, i64_w, i32_w]
          rfl
         refine pure_ (i := 22) (N := some 36) (v := undef) (a' := ?_) #[true, true, true, true, true, true, true, true, true, true, true, true, true, true, true, true, true, true, true, true, true, true, true, false, false] rfl rfl (any_of HT_.out (by kernel_rfl)) (fun _ _ _ h => h) (Or.inr ⟨by rfl, rfl⟩) ?_ ?_
         rotate_left
         ·
          simp only [Act.put, lS, l0_, l1_, i64_w, i32_w]
          rfl
         refine pure_ (i := 23) (N := some 37) (v := ?_) (a' := ?_) #[true, true, true, true, true, true, true, true, true, true, true, true, true, true, true, true, true, true, true, true, true, true, true, true, false] rfl rfl (any_of HT_.out (by kernel_rfl)) (fun _ _ _ h => h) (Or.inl ⟨by rfl, ?_⟩) ?_ ?_
         rotate_left
         ·
          intro w'
          go_simp
          with_reducible rfl
         rotate_left
         ·
          simp only [Act.put, lS, l0_, l1_, i64_w, i32_w]
          rfl
         refine pure_ (i := 24) (N := some 38) (v := ?_) (a' := ?_) #[true, true, true, true, true, true, true, true, true, true, true, true, true, true, true, true, true, true, true, true, true, true, true, true, true] rfl rfl (any_of HT_.out (by kernel_rfl)) (fun _ _ _ h => h) (Or.inl ⟨by rfl, ?_⟩) ?_ ?_
         rotate_left
         ·
          intro w'
          go_simp
          with_reducible rfl
         rotate_left
         ·
          simp only [Act.put, lS, l0_, l1_, i64_w, i32_w]
          rfl
         refine done_ (done_of HT_.out (by kernel_rfl)) ?_
         try go_wp2
         go_roundg k1
         case measure => have := HK1.out; omega
         case rel => exact ⟨(wrap64 (x9_1 + 1)), (by first | rfl | (simp; done) | (simp [*]; done)), H', ⟨by have := HK1.out; omega⟩, ⟨by exact BK248.out⟩, ⟨(a6_ HB.out GE248.out GE250.out)⟩⟩
       ·
        rw [if_neg c9] at H
        have c9b0 : (((rd_T43 l1 x9_1).f1) == a0_0) = false := beq_eq_false_iff_ne.mpr c9
        have c9b1 : (((rd_T43 l1 x9_1).f1) != a0_0) = true := bne_iff_ne.mpr c9
        obtain rfl := Option.some.inj H
        have p249 : 0 ≤ (x9_1 : Int) := of_decide_eq_true (by first | (with_reducible assumption) | assumption)
        have q249 : x9_1 < (l1.length : Int) := of_decide_eq_true (by first | (with_reducible assumption) | assumption)
        obtain ⟨ad249, A249_7, c249_7, e249, hx249_0, hx249_1, hx249_2, hx249_3, hx249_4, hx249_5, hx249_6, hx249_7, hx249_8, hl249_7, hi249_7⟩ := at_T43 HR1.out x9_1 p249 q249
        cases e249
        replace hx249_0 := ce_ HB.out hx249_0
        replace hx249_1 := ce_ HB.out hx249_1
        replace hx249_2 := ce_ HB.out hx249_2
        replace hx249_3 := ce_ HB.out hx249_3
        replace hx249_4 := ce_ HB.out hx249_4
        replace hx249_5 := ce_ HB.out hx249_5
        replace hx249_6 := ce_ HB.out hx249_6
        replace hx249_7 := ce_ HB.out hx249_7
        replace hx249_8 := ce_ HB.out hx249_8
        have HR249_7 := Aside0.mk hi249_7
        have HC249_7 := Aside0.mk hl249_7
        clear hi249_7 hl249_7
        replace p249 := eq_true p249
        replace q249 := eq_true q249
        try go_wp2_with (first | ((with_reducible refine gate_dst (N := 6) rfl ?_); refine box_event ?hg (N := 6) ?hd (cs := #[.int .i64 0, .int .i64 0, .int .i64 0, .int .i64 0, .int .i64 0, .int .i64 0, .string (⟨#[]⟩ : ByteArray), .slice none 0 0, .int .i64 0]) (t := 43) ?hr ?_; (case hd => rfl); (case hg => rfl); (case hr => first | (go_simp; done) | (go_simp; rfl)); intro gb250 hg w33 hbox hb; have n0_ := Aside0.mk (blk_below BK248.out hb); have n1_ := Aside0.mk (below_step HB.out hb); have n2_ := Aside0.mk (hbox); have n3_ := Aside0.mk ((by rw [hg]; exact (below_size HB.out) : w.heap.size ≤ gb250)); have n4_ := Aside0.mk ((by rw [hg]; exact (below_size HB.out) : w.heap.size ≤ gb250)); have n5_ := Aside0.mk ((by rw [hg]; exact Nat.ne_of_lt (blk_lt BK248.out) : gb248 ≠ gb250)); have n6_ := Aside0.mk ((by rw [hg]; exact Nat.ne_of_gt (blk_lt BK248.out) : gb250 ≠ gb248)); clear BK248; clear HB; have BK248 := n0_; have HB := n1_; have BK250 := n2_; have GW250 := n3_; have GE250 := n4_; have NB248_250 := n5_; have NB250_248 := n6_; clear n0_ n1_ n2_ n3_ n4_ n5_ n6_; clear hb hbox hg; have hnb34 := NB250_248.out; have hnc34 := NB248_250.out; have hcz35_0 : w33.cell? ⟨gb250, 0, none⟩ = some (.int .i64 0) := (blk_cell BK250.out 0).trans rfl; have hcz35_1 : w33.cell? ⟨gb250, 1, none⟩ = some (.int .i64 0) := (blk_cell BK250.out 1).trans rfl; have hcz35_2 : w33.cell? ⟨gb250, 2, none⟩ = some (.int .i64 0) := (blk_cell BK250.out 2).trans rfl; have hcz35_3 : w33.cell? ⟨gb250, 3, none⟩ = some (.int .i64 0) := (blk_cell BK250.out 3).trans rfl; have hcz35_4 : w33.cell? ⟨gb250, 4, none⟩ = some (.int .i64 0) := (blk_cell BK250.out 4).trans rfl; have hcz35_5 : w33.cell? ⟨gb250, 5, none⟩ = some (.int .i64 0) := (blk_cell BK250.out 5).trans rfl; have hcz35_6 : w33.cell? ⟨gb250, 6, none⟩ = some (.string (⟨#[]⟩ : ByteArray)) := (blk_cell BK250.out 6).trans rfl; have hcz35_7 : w33.cell? ⟨gb250, 7, none⟩ = some (.slice none 0 0) := (blk_cell BK250.out 7).trans rfl; have hcz35_8 : w33.cell? ⟨gb250, 8, none⟩ = some (.int .i64 0) := (blk_cell BK250.out 8).trans rfl; have hfz35_0 := blk_frozen BK250.out 0; have hfz35_1 := blk_frozen BK250.out 1; have hfz35_2 := blk_frozen BK250.out 2; have hfz35_3 := blk_frozen BK250.out 3; have hfz35_4 := blk_frozen BK250.out 4; have hfz35_5 := blk_frozen BK250.out 5; have hfz35_6 := blk_frozen BK250.out 6; have hfz35_7 := blk_frozen BK250.out 7; have hfz35_8 := blk_frozen BK250.out 8))
        have n0_ : Aside0 ((((((((((w33.setCell ⟨gb250, 0, none⟩ (.int .i64 ((rd_T43 l1 x9_1).f0))).setCell ⟨gb250, 1, none⟩ (.int .i64 ((rd_T43 l1 x9_1).f1))).setCell ⟨gb250, 2, none⟩ (.int .i64 ((rd_T43 l1 x9_1).f2))).setCell ⟨gb250, 3, none⟩ (.int .i64 ((rd_T43 l1 x9_1).f3))).setCell ⟨gb250, 4, none⟩ (.int .i64 ((rd_T43 l1 x9_1).f4))).setCell ⟨gb250, 5, none⟩ (.int .i64 ((rd_T43 l1 x9_1).f5))).setCell ⟨gb250, 6, none⟩ (.string ((rd_T43 l1 x9_1).f6))).setCell ⟨gb250, 7, none⟩ (.slice A249_7 ((rd_T43 l1 x9_1).f7).length c249_7)).setCell ⟨gb250, 8, none⟩ (.int .i64 ((rd_T43 l1 x9_1).f8))).heap[gb248]? = some (.cells #[.int .i64 a0_0, .slice A0_1 l0_1.length c0_1, .slice A0_2 l0_2.length c0_2] 29 (0, 0))) := ⟨by refine blk_far ?_ NB248_250.out _; refine blk_far ?_ NB248_250.out _; refine blk_far ?_ NB248_250.out _; refine blk_far ?_ NB248_250.out _; refine blk_far ?_ NB248_250.out _; refine blk_far ?_ NB248_250.out _; refine blk_far ?_ NB248_250.out _; refine blk_far ?_ NB248_250.out _; refine blk_far ?_ NB248_250.out _; exact BK248.out⟩
        have n1_ : Aside0 ((((((((((w33.setCell ⟨gb250, 0, none⟩ (.int .i64 ((rd_T43 l1 x9_1).f0))).setCell ⟨gb250, 1, none⟩ (.int .i64 ((rd_T43 l1 x9_1).f1))).setCell ⟨gb250, 2, none⟩ (.int .i64 ((rd_T43 l1 x9_1).f2))).setCell ⟨gb250, 3, none⟩ (.int .i64 ((rd_T43 l1 x9_1).f3))).setCell ⟨gb250, 4, none⟩ (.int .i64 ((rd_T43 l1 x9_1).f4))).setCell ⟨gb250, 5, none⟩ (.int .i64 ((rd_T43 l1 x9_1).f5))).setCell ⟨gb250, 6, none⟩ (.string ((rd_T43 l1 x9_1).f6))).setCell ⟨gb250, 7, none⟩ (.slice A249_7 ((rd_T43 l1 x9_1).f7).length c249_7)).setCell ⟨gb250, 8, none⟩ (.int .i64 ((rd_T43 l1 x9_1).f8))).heap[gb250]? = some (.cells #[.int .i64 ((rd_T43 l1 x9_1).f0), .int .i64 ((rd_T43 l1 x9_1).f1), .int .i64 ((rd_T43 l1 x9_1).f2), .int .i64 ((rd_T43 l1 x9_1).f3), .int .i64 ((rd_T43 l1 x9_1).f4), .int .i64 ((rd_T43 l1 x9_1).f5), .string ((rd_T43 l1 x9_1).f6), .slice A249_7 ((rd_T43 l1 x9_1).f7).length c249_7, .int .i64 ((rd_T43 l1 x9_1).f8)] 43 (0, 0))) := ⟨by refine blk_put (cs := #[.int .i64 ((rd_T43 l1 x9_1).f0), .int .i64 ((rd_T43 l1 x9_1).f1), .int .i64 ((rd_T43 l1 x9_1).f2), .int .i64 ((rd_T43 l1 x9_1).f3), .int .i64 ((rd_T43 l1 x9_1).f4), .int .i64 ((rd_T43 l1 x9_1).f5), .string ((rd_T43 l1 x9_1).f6), .slice A249_7 ((rd_T43 l1 x9_1).f7).length c249_7, .int .i64 0]) ?_ 8 _ rfl; refine blk_put (cs := #[.int .i64 ((rd_T43 l1 x9_1).f0), .int .i64 ((rd_T43 l1 x9_1).f1), .int .i64 ((rd_T43 l1 x9_1).f2), .int .i64 ((rd_T43 l1 x9_1).f3), .int .i64 ((rd_T43 l1 x9_1).f4), .int .i64 ((rd_T43 l1 x9_1).f5), .string ((rd_T43 l1 x9_1).f6), .slice none 0 0, .int .i64 0]) ?_ 7 _ rfl; refine blk_put (cs := #[.int .i64 ((rd_T43 l1 x9_1).f0), .int .i64 ((rd_T43 l1 x9_1).f1), .int .i64 ((rd_T43 l1 x9_1).f2), .int .i64 ((rd_T43 l1 x9_1).f3), .int .i64 ((rd_T43 l1 x9_1).f4), .int .i64 ((rd_T43 l1 x9_1).f5), .string (⟨#[]⟩ : ByteArray), .slice none 0 0, .int .i64 0]) ?_ 6 _ rfl; refine blk_put (cs := #[.int .i64 ((rd_T43 l1 x9_1).f0), .int .i64 ((rd_T43 l1 x9_1).f1), .int .i64 ((rd_T43 l1 x9_1).f2), .int .i64 ((rd_T43 l1 x9_1).f3), .int .i64 ((rd_T43 l1 x9_1).f4), .int .i64 0, .string (⟨#[]⟩ : ByteArray), .slice none 0 0, .int .i64 0]) ?_ 5 _ rfl; refine blk_put (cs := #[.int .i64 ((rd_T43 l1 x9_1).f0), .int .i64 ((rd_T43 l1 x9_1).f1), .int .i64 ((rd_T43 l1 x9_1).f2), .int .i64 ((rd_T43 l1 x9_1).f3), .int .i64 0, .int .i64 0, .string (⟨#[]⟩ : ByteArray), .slice none 0 0, .int .i64 0]) ?_ 4 _ rfl; refine blk_put (cs := #[.int .i64 ((rd_T43 l1 x9_1).f0), .int .i64 ((rd_T43 l1 x9_1).f1), .int .i64 ((rd_T43 l1 x9_1).f2), .int .i64 0, .int .i64 0, .int .i64 0, .string (⟨#[]⟩ : ByteArray), .slice none 0 0, .int .i64 0]) ?_ 3 _ rfl; refine blk_put (cs := #[.int .i64 ((rd_T43 l1 x9_1).f0), .int .i64 ((rd_T43 l1 x9_1).f1), .int .i64 0, .int .i64 0, .int .i64 0, .int .i64 0, .string (⟨#[]⟩ : ByteArray), .slice none 0 0, .int .i64 0]) ?_ 2 _ rfl; refine blk_put (cs := #[.int .i64 ((rd_T43 l1 x9_1).f0), .int .i64 0, .int .i64 0, .int .i64 0, .int .i64 0, .int .i64 0, .string (⟨#[]⟩ : ByteArray), .slice none 0 0, .int .i64 0]) ?_ 1 _ rfl; refine blk_put (cs := #[.int .i64 0, .int .i64 0, .int .i64 0, .int .i64 0, .int .i64 0, .int .i64 0, .string (⟨#[]⟩ : ByteArray), .slice none 0 0, .int .i64 0]) ?_ 0 _ rfl; exact BK250.out⟩
        have n2_ : Aside0 (Below w.heap.size w (((((((((w33.setCell ⟨gb250, 0, none⟩ (.int .i64 ((rd_T43 l1 x9_1).f0))).setCell ⟨gb250, 1, none⟩ (.int .i64 ((rd_T43 l1 x9_1).f1))).setCell ⟨gb250, 2, none⟩ (.int .i64 ((rd_T43 l1 x9_1).f2))).setCell ⟨gb250, 3, none⟩ (.int .i64 ((rd_T43 l1 x9_1).f3))).setCell ⟨gb250, 4, none⟩ (.int .i64 ((rd_T43 l1 x9_1).f4))).setCell ⟨gb250, 5, none⟩ (.int .i64 ((rd_T43 l1 x9_1).f5))).setCell ⟨gb250, 6, none⟩ (.string ((rd_T43 l1 x9_1).f6))).setCell ⟨gb250, 7, none⟩ (.slice A249_7 ((rd_T43 l1 x9_1).f7).length c249_7)).setCell ⟨gb250, 8, none⟩ (.int .i64 ((rd_T43 l1 x9_1).f8)))) := ⟨(a6_ HB.out GE248.out GE250.out)⟩
        (try clear BK248)
        (try clear BK250)
        (try clear HB)
        generalize (((((((((w33.setCell ⟨gb250, 0, none⟩ (.int .i64 ((rd_T43 l1 x9_1).f0))).setCell ⟨gb250, 1, none⟩ (.int .i64 ((rd_T43 l1 x9_1).f1))).setCell ⟨gb250, 2, none⟩ (.int .i64 ((rd_T43 l1 x9_1).f2))).setCell ⟨gb250, 3, none⟩ (.int .i64 ((rd_T43 l1 x9_1).f3))).setCell ⟨gb250, 4, none⟩ (.int .i64 ((rd_T43 l1 x9_1).f4))).setCell ⟨gb250, 5, none⟩ (.int .i64 ((rd_T43 l1 x9_1).f5))).setCell ⟨gb250, 6, none⟩ (.string ((rd_T43 l1 x9_1).f6))).setCell ⟨gb250, 7, none⟩ (.slice A249_7 ((rd_T43 l1 x9_1).f7).length c249_7)).setCell ⟨gb250, 8, none⟩ (.int .i64 ((rd_T43 l1 x9_1).f8))) = w36 at n0_ n1_ n2_ ⊢
        have BK248 := n0_
        have BK250 := n1_
        have HB := n2_
        clear n0_ n1_ n2_
        have n0_ := Aside0.mk (blk_drew BK248.out)
        have n1_ := Aside0.mk (blk_drew BK250.out)
        have n2_ := Aside0.mk (below_drew1 HB.out)
        clear BK248
        clear BK250
        clear HB
        have BK248 := n0_
        have BK250 := n1_
        have HB := n2_
        clear n0_ n1_ n2_
        refine start_ (n := 25) (S := fun w' => w'.cell? ⟨gb250, 0, none⟩ = some (.int .i64 ((rd_T43 l1 x9_1).f0)) ∧ w'.cell? ⟨gb250, 1, none⟩ = some (.int .i64 ((rd_T43 l1 x9_1).f1)) ∧ w'.cell? ⟨gb250, 2, none⟩ = some (.int .i64 ((rd_T43 l1 x9_1).f2)) ∧ w'.cell? ⟨gb250, 3, none⟩ = some (.int .i64 ((rd_T43 l1 x9_1).f3)) ∧ w'.cell? ⟨gb250, 4, none⟩ = some (.int .i64 ((rd_T43 l1 x9_1).f4)) ∧ w'.cell? ⟨gb250, 5, none⟩ = some (.int .i64 ((rd_T43 l1 x9_1).f5)) ∧ w'.cell? ⟨gb250, 6, none⟩ = some (.string ((rd_T43 l1 x9_1).f6)) ∧ w'.cell? ⟨gb250, 7, none⟩ = some (.slice A249_7 ((rd_T43 l1 x9_1).f7).length c249_7) ∧ w'.cell? ⟨gb250, 8, none⟩ = some (.int .i64 ((rd_T43 l1 x9_1).f8)) ∧ w'.cell? ⟨gb248, 0, none⟩ = some (.int .i64 a0_0) ∧ w'.cell? ⟨gb248, 1, none⟩ = some (.slice A0_1 l0_1.length c0_1) ∧ w'.cell? ⟨gb248, 2, none⟩ = some (.slice A0_2 l0_2.length c0_2)) (ds := []) #[false, false, false, false, false, false, false, false, false, false, false, false, false, false, false, false, false, false, false, false, false, false, false, false, false] (by kernel_rfl) rfl rfl ⟨(blk_cell BK250.out 0).trans rfl, (blk_cell BK250.out 1).trans rfl, (blk_cell BK250.out 2).trans rfl, (blk_cell BK250.out 3).trans rfl, (blk_cell BK250.out 4).trans rfl, (blk_cell BK250.out 5).trans rfl, (blk_cell BK250.out 6).trans rfl, (blk_cell BK250.out 7).trans rfl, (blk_cell BK250.out 8).trans rfl, (blk_cell BK248.out 0).trans rfl, (blk_cell BK248.out 1).trans rfl, (blk_cell BK248.out 2).trans rfl⟩ (fun hHeld => ?_); refine with_tabW impl_Graph_areRight.tab4 impl_Graph_areRight.bits4 (fun HT_ HW_ => ?_)
        generalize w36.drew = w37 at BK248 BK250 HB hHeld ⊢
        refine take_ (i := 0) (N := some 14) (v := ?_) (a' := ?_) #[true, false, false, false, false, false, false, false, false, false, false, false, false, false, false, false, false, false, false, false, false, false, false, false, false] rfl rfl (take_ofW HT_.out HW_.out (by kernel_rfl)) (fun _ _ _ h => h) (Or.inl ⟨by rfl, ?_⟩) hHeld ?_ ?_
        rotate_left
        ·
         rintro w' ⟨s0, s1, s2, s3, s4, s5, s6, s7, s8, s9, s10, s11⟩
         go_simp
         with_reducible rfl
        rotate_left
        ·
         simp only [Act.put, lS, l0_, l1_, i64_w, i32_w]
         rfl
        refine one_ (i := 1) (N := some 15) #[true, true, false, false, false, false, false, false, false, false, false, false, false, false, false, false, false, false, false, false, false, false, false, false, false] rfl rfl (one_of HT_.out (by kernel_rfl)) (by decide) (fun K hK => ?_)
        refine goes_ Try.func39 (by kernel_rfl) rfl #[.agg #[.int .i64 ((rd_T43 l1 x9_1).f0), .int .i64 ((rd_T43 l1 x9_1).f1), .int .i64 ((rd_T43 l1 x9_1).f2), .int .i64 ((rd_T43 l1 x9_1).f3), .int .i64 ((rd_T43 l1 x9_1).f4), .int .i64 ((rd_T43 l1 x9_1).f5), .string ((rd_T43 l1 x9_1).f6), .slice A249_7 ((rd_T43 l1 x9_1).f7).length c249_7, .int .i64 ((rd_T43 l1 x9_1).f8)]] (by rfl) rfl rfl (by (try simp only [List.map_toArray, List.map_cons, List.map_nil]); first | done | rfl | (simp only [List.length_drop, List.length_take]; rfl)) ?_
        with_reducible refine (impl_EventRight.calls k1 ((rd_T43 l1 x9_1).f0) ((rd_T43 l1 x9_1).f1) ((rd_T43 l1 x9_1).f2) ((rd_T43 l1 x9_1).f3) ((rd_T43 l1 x9_1).f4) ((rd_T43 l1 x9_1).f5) ((rd_T43 l1 x9_1).f6) _ _ ((rd_T43 l1 x9_1).f7) ((rd_T43 l1 x9_1).f8) true _ ?side1 ?side2 A7.out).mono ?_
        (case side1 => repeat (first | exact (Kd.C_below HR249_7.out HB.out) | (with_reducible refine Kd.C_alloc ?_ _) | (with_reducible refine Kd.C_drewN ?_ _) | (with_reducible refine Kd.C_drew ?_)))
        (case side2 => exact HC249_7.out)
        rintro e w38 ⟨rfl, hb⟩
        refine ⟨_, rfl, ?_⟩
        have n0_ := Aside0.mk (blk_below BK248.out hb)
        have n1_ := Aside0.mk (blk_below BK250.out hb)
        have n2_ := Aside0.mk (below_step HB.out hb)
        clear BK248
        clear BK250
        clear HB
        have BK248 := n0_
        have BK250 := n1_
        have HB := n2_
        clear n0_ n1_ n2_
        (try clear hb)
        (try clear hb2)
        (try clear hk)
        (try clear hi)
        refine hK.out _ _ ⟨(blk_cell BK250.out 0).trans rfl, (blk_cell BK250.out 1).trans rfl, (blk_cell BK250.out 2).trans rfl, (blk_cell BK250.out 3).trans rfl, (blk_cell BK250.out 4).trans rfl, (blk_cell BK250.out 5).trans rfl, (blk_cell BK250.out 6).trans rfl, (blk_cell BK250.out 7).trans rfl, (blk_cell BK250.out 8).trans rfl, (blk_cell BK248.out 0).trans rfl, (blk_cell BK248.out 1).trans rfl, (blk_cell BK248.out 2).trans rfl⟩ (fun hHeld => ?_)
        clear hK K
        refine norm_ (a' := ?_) ?_ ?_
        rotate_left
        ·
         show Act.put _ (some 15) _ = _
         simp only [Act.put, lS, l0_, l1_, i64_w, i32_w]
         rfl
        refine pure_ (i := 2) (N := some 16) (v := ?_) (a' := ?_) #[true, true, true, false, false, false, false, false, false, false, false, false, false, false, false, false, false, false, false, false, false, false, false, false, false] rfl rfl (any_of HT_.out (by kernel_rfl)) (fun _ _ _ h => h) (Or.inl ⟨by rfl, ?_⟩) ?_ ?_
        rotate_left
        ·
         intro w'
         go_simp
         with_reducible rfl
        rotate_left
        ·
         simp only [Act.put, lS, l0_, l1_, i64_w, i32_w]
         rfl
        refine pure_ (i := 3) (N := some 17) (v := ?_) (a' := ?_) #[true, true, true, true, false, false, false, false, false, false, false, false, false, false, false, false, false, false, false, false, false, false, false, false, false] rfl rfl (any_of HT_.out (by kernel_rfl)) (fun _ _ _ h => h) (Or.inl ⟨by rfl, ?_⟩) ?_ ?_
        rotate_left
        ·
         intro w'
         go_simp
         with_reducible rfl
        rotate_left
        ·
         simp only [Act.put, lS, l0_, l1_, i64_w, i32_w]
         rfl
        refine pure_ (i := 4) (N := some 18) (v := ?_) (a' := ?_) #[true, true, true, true, true, false, false, false, false, false, false, false, false, false, false, false, false, false, false, false, false, false, false, false, false] rfl rfl (any_of HT_.out (by kernel_rfl)) (fun _ _ _ h => h) (Or.inl ⟨by rfl, ?_⟩) ?_ ?_
        rotate_left
        ·
         intro w'
         go_simp
         with_reducible rfl
        rotate_left
        ·
         simp only [Act.put, lS, l0_, l1_, i64_w, i32_w]
         rfl
        refine pure_ (i := 6) (N := some 20) (v := ?_) (a' := ?_) #[true, true, true, true, true, false, true, false, false, false, false, false, false, false, false, false, false, false, false, false, false, false, false, false, false] rfl rfl (any_of HT_.out (by kernel_rfl)) (fun _ _ _ h => h) (Or.inl ⟨by rfl, ?_⟩) ?_ ?_
        rotate_left
        ·
         intro w'
         go_simp
         with_reducible rfl
        rotate_left
        ·
         simp only [Act.put, lS, l0_, l1_, i64_w, i32_w]
         rfl
        refine take_ (i := 5) (N := some 19) (v := ?_) (a' := ?_) #[true, true, true, true, true, true, true, false, false, false, false, false, false, false, false, false, false, false, false, false, false, false, false, false, false] rfl rfl (take_ofW HT_.out HW_.out (by kernel_rfl)) (fun _ _ _ h => h) (Or.inl ⟨by rfl, ?_⟩) hHeld ?_ ?_
        rotate_left
        ·
         rintro w' ⟨s0, s1, s2, s3, s4, s5, s6, s7, s8, s9, s10, s11⟩
         go_simp
         with_reducible rfl
        rotate_left
        ·
         simp only [Act.put, lS, l0_, l1_, i64_w, i32_w]
         rfl
        refine take_ (i := 7) (N := some 21) (v := ?_) (a' := ?_) #[true, true, true, true, true, true, true, true, false, false, false, false, false, false, false, false, false, false, false, false, false, false, false, false, false] rfl rfl (take_ofW HT_.out HW_.out (by kernel_rfl)) (fun _ _ _ h => h) (Or.inl ⟨by rfl, ?_⟩) hHeld ?_ ?_
        rotate_left
        ·
         rintro w' ⟨s0, s1, s2, s3, s4, s5, s6, s7, s8, s9, s10, s11⟩
         go_simp
         with_reducible rfl
        rotate_left
        ·
         simp only [Act.put, lS, l0_, l1_, i64_w, i32_w]
         rfl
        refine pure_ (i := 8) (N := some 22) (v := ?_) (a' := ?_) #[true, true, true, true, true, true, true, true, true, false, false, false, false, false, false, false, false, false, false, false, false, false, false, false, false] rfl rfl (any_of HT_.out (by kernel_rfl)) (fun _ _ _ h => h) (Or.inl ⟨by rfl, ?_⟩) ?_ ?_
        rotate_left
        ·
         intro w'
         go_simp
         with_reducible rfl
        rotate_left
        ·
         simp only [Act.put, lS, l0_, l1_, i64_w, i32_w]
         rfl
        refine pure_ (i := 9) (N := some 23) (v := ?_) (a' := ?_) #[true, true, true, true, true, true, true, true, true, true, false, false, false, false, false, false, false, false, false, false, false, false, false, false, false] rfl rfl (any_of HT_.out (by kernel_rfl)) (fun _ _ _ h => h) (Or.inl ⟨by rfl, ?_⟩) ?_ ?_
        rotate_left
        ·
         intro w'
         go_simp
         with_reducible rfl
        rotate_left
        ·
         simp only [Act.put, lS, l0_, l1_, i64_w, i32_w]
         rfl
        refine pure_ (i := 10) (N := some 24) (v := ?_) (a' := ?_) #[true, true, true, true, true, true, true, true, true, true, true, false, false, false, false, false, false, false, false, false, false, false, false, false, false] rfl rfl (any_of HT_.out (by kernel_rfl)) (fun _ _ _ h => h) (Or.inl ⟨by rfl, ?_⟩) ?_ ?_
        rotate_left
        ·
         intro w'
         go_simp
         with_reducible rfl
        rotate_left
        ·
         simp only [Act.put, lS, l0_, l1_, i64_w, i32_w]
         rfl
        refine pure_ (i := 11) (N := some 25) (v := undef) (a' := ?_) #[true, true, true, true, true, true, true, true, true, true, true, true, false, false, false, false, false, false, false, false, false, false, false, false, false] rfl rfl (any_of HT_.out (by kernel_rfl)) (fun _ _ _ h => h) (Or.inr ⟨by rfl, rfl⟩) ?_ ?_
        rotate_left
        ·
         simp only [Act.put, lS, l0_, l1_, i64_w, i32_w]
         rfl
        refine pure_ (i := 12) (N := some 26) (v := undef) (a' := ?_) #[true, true, true, true, true, true, true, true, true, true, true, true, true, false, false, false, false, false, false, false, false, false, false, false, false] rfl rfl (any_of HT_.out (by kernel_rfl)) (fun _ _ _ h => h) (Or.inr ⟨by rfl, rfl⟩) ?_ ?_
        rotate_left
        ·
         simp only [Act.put, lS, l0_, l1_, i64_w, i32_w]
         rfl
        refine pure_ (i := 13) (N := some 27) (v := undef) (a' := ?_) #[true, true, true, true, true, true, true, true, true, true, true, true, true, true, false, false, false, false, false, false, false, false, false, false, false] rfl rfl (any_of HT_.out (by kernel_rfl)) (fun _ _ _ h => h) (Or.inr ⟨by rfl, rfl⟩) ?_ ?_
        rotate_left
        ·
         simp only [Act.put, lS, l0_, l1_, i64_w, i32_w]
         rfl
        refine pure_ (i := 14) (N := some 28) (v := undef) (a' := ?_) #[true, true, true, true, true, true, true, true, true, true, true, true, true, true, true, false, false, false, false, false, false, false, false, false, false] rfl rfl (any_of HT_.out (by kernel_rfl)) (fun _ _ _ h => h) (Or.inr ⟨by rfl, rfl⟩) ?_ ?_
        rotate_left
        ·
         simp only [Act.put, lS, l0_, l1_, i64_w, i32_w]
         rfl
        refine pure_ (i := 15) (N := some 29) (v := undef) (a' := ?_) #[true, true, true, true, true, true, true, true, true, true, true, true, true, true, true, true, false, false, false, false, false, false, false, false, false] rfl rfl (any_of HT_.out (by kernel_rfl)) (fun _ _ _ h => h) (Or.inr ⟨by rfl, rfl⟩) ?_ ?_
        rotate_left
        ·
         simp only [Act.put, lS, l0_, l1_, i64_w, i32_w]
         rfl
        refine pure_ (i := 16) (N := some 30) (v := undef) (a' := ?_) #[true, true, true, true, true, true, true, true, true, true, true, true, true, true, true, true, true, false, false, false, false, false, false, false, false] rfl rfl (any_of HT_.out (by kernel_rfl)) (fun _ _ _ h => h) (Or.inr ⟨by rfl, rfl⟩) ?_ ?_
        rotate_left
        ·
         simp only [Act.put, lS, l0_, l1_, i64_w, i32_w]
         rfl
        refine pure_ (i := 17) (N := some 31) (v := undef) (a' := ?_) #[true, true, true, true, true, true, true, true, true, true, true, true, true, true, true, true, true, true, false, false, false, false, false, false, false] rfl rfl (any_of HT_.out (by kernel_rfl)) (fun _ _ _ h => h) (Or.inr ⟨by rfl, rfl⟩) ?_ ?_
        rotate_left
        ·
         simp only [Act.put, lS, l0_, l1_, i64_w, i32_w]
         rfl
        refine pure_ (i := 18) (N := some 32) (v := undef) (a' := ?_) #[true, true, true, true, true, true, true, true, true, true, true, true, true, true, true, true, true, true, true, false, false, false, false, false, false] rfl rfl (any_of HT_.out (by kernel_rfl)) (fun _ _ _ h => h) (Or.inr ⟨by rfl, rfl⟩) ?_ ?_
        rotate_left
        ·
         simp only [Act.put, lS, l0_, l1_, i64_w, i32_w]
         rfl
        refine pure_ (i := 19) (N := some 33) (v := undef) (a' := ?_) #[true, true, true, true, true, true, true, true, true, true, true, true, true, true, true, true, true, true, true, true, false, false, false, false, false] rfl rfl (any_of HT_.out (by kernel_rfl)) (fun _ _ _ h => h) (Or.inr ⟨by rfl, rfl⟩) ?_ ?_
        rotate_left
        ·
         simp only [Act.put, lS, l0_, l1_, i64_w, i32_w]
         rfl
        refine pure_ (i := 20) (N := some 34) (v := undef) (a' := ?_) #[true, true, true, true, true, true, true, true, true, true, true, true, true, true, true, true, true, true, true, true, true, false, false, false, false] rfl rfl (any_of HT_.out (by kernel_rfl)) (fun _ _ _ h => h) (Or.inr ⟨by rfl, rfl⟩) ?_ ?_
        rotate_left
        ·
         simp only [Act.put, lS, l0_, l1_, i64_w, i32_w]
         rfl
        refine pure_ (i := 21) (N := some 35) (v := undef) (a' := ?_) #[true, true, true, true, true, true, true, true, true, true, true, true, true, true, true, true, true, true, true, true, true, true, false, false, false] rfl rfl (any_of HT_.out (by kernel_rfl)) (fun _ _ _ h => h) (Or.inr ⟨by rfl, rfl⟩) ?_ ?_
        rotate_left
        ·
         simp only [Act.put, lS, l0_, l1_, i64_w, i32_w]
         rfl
        refine pure_ (i := 22) (N := some 36) (v := undef) (a' := ?_) #[true, true, true, true, true, true, true, true, true, true, true, true, true, true, true, true, true, true, true, true, true, true, true, false, false] rfl rfl (any_of HT_.out (by kernel_rfl)) (fun _ _ _ h => h) (Or.inr ⟨by rfl, rfl⟩) ?_ ?_
        rotate_left
        ·
         simp only [Act.put, lS, l0_, l1_, i64_w, i32_w]
         rfl
        refine pure_ (i := 23) (N := some 37) (v := undef) (a' := ?_) #[true, true, true, true, true, true, true, true, true, true, true, true, true, true, true, true, true, true, true, true, true, true, true, true, false] rfl rfl (any_of HT_.out (by kernel_rfl)) (fun _ _ _ h => h) (Or.inr ⟨by rfl, rfl⟩) ?_ ?_
        rotate_left
        ·
         simp only [Act.put, lS, l0_, l1_, i64_w, i32_w]
         rfl
        refine pure_ (i := 24) (N := some 38) (v := ?_) (a' := ?_) #[true, true, true, true, true, true, true, true, true, true, true, true, true, true, true, true, true, true, true, true, true, true, true, true, true] rfl rfl (any_of HT_.out (by kernel_rfl)) (fun _ _ _ h => h) (Or.inl ⟨by rfl, ?_⟩) ?_ ?_
        rotate_left
        ·
         intro w'
         go_simp
         with_reducible rfl
        rotate_left
        ·
         simp only [Act.put, lS, l0_, l1_, i64_w, i32_w]
         rfl
        refine done_ (done_of HT_.out (by kernel_rfl)) ?_
        try go_wp2
        go_ret
        exact ⟨a2_, (a6_ HB.out GE248.out GE250.out)⟩
      ·
       replace c8 := Bool.eq_false_iff.mpr c8
       subst c8
       have H1 : (some false) = some r := by rw [if_neg (show ¬ (false = true) by decide)] at H; exact H
       clear H
       have H := H1
       clear H1
       obtain rfl := Option.some.inj H
       have p249 : 0 ≤ (x9_1 : Int) := of_decide_eq_true (by first | (with_reducible assumption) | assumption)
       have q249 : x9_1 < (l1.length : Int) := of_decide_eq_true (by first | (with_reducible assumption) | assumption)
       obtain ⟨ad249, A249_7, c249_7, e249, hx249_0, hx249_1, hx249_2, hx249_3, hx249_4, hx249_5, hx249_6, hx249_7, hx249_8, hl249_7, hi249_7⟩ := at_T43 HR1.out x9_1 p249 q249
       cases e249
       replace hx249_0 := ce_ HB.out hx249_0
       replace hx249_1 := ce_ HB.out hx249_1
       replace hx249_2 := ce_ HB.out hx249_2
       replace hx249_3 := ce_ HB.out hx249_3
       replace hx249_4 := ce_ HB.out hx249_4
       replace hx249_5 := ce_ HB.out hx249_5
       replace hx249_6 := ce_ HB.out hx249_6
       replace hx249_7 := ce_ HB.out hx249_7
       replace hx249_8 := ce_ HB.out hx249_8
       have HR249_7 := Aside0.mk hi249_7
       have HC249_7 := Aside0.mk hl249_7
       clear hi249_7 hl249_7
       replace p249 := eq_true p249
       replace q249 := eq_true q249
       try go_wp2_with (first | ((with_reducible refine gate_dst (N := 6) rfl ?_); refine box_event ?hg (N := 6) ?hd (cs := #[.int .i64 0, .int .i64 0, .int .i64 0, .int .i64 0, .int .i64 0, .int .i64 0, .string (⟨#[]⟩ : ByteArray), .slice none 0 0, .int .i64 0]) (t := 43) ?hr ?_; (case hd => rfl); (case hg => rfl); (case hr => first | (go_simp; done) | (go_simp; rfl)); intro gb250 hg w39 hbox hb; have n0_ := Aside0.mk (blk_below BK248.out hb); have n1_ := Aside0.mk (below_step HB.out hb); have n2_ := Aside0.mk (hbox); have n3_ := Aside0.mk ((by rw [hg]; exact (below_size HB.out) : w.heap.size ≤ gb250)); have n4_ := Aside0.mk ((by rw [hg]; exact (below_size HB.out) : w.heap.size ≤ gb250)); have n5_ := Aside0.mk ((by rw [hg]; exact Nat.ne_of_lt (blk_lt BK248.out) : gb248 ≠ gb250)); have n6_ := Aside0.mk ((by rw [hg]; exact Nat.ne_of_gt (blk_lt BK248.out) : gb250 ≠ gb248)); clear BK248; clear HB; have BK248 := n0_; have HB := n1_; have BK250 := n2_; have GW250 := n3_; have GE250 := n4_; have NB248_250 := n5_; have NB250_248 := n6_; clear n0_ n1_ n2_ n3_ n4_ n5_ n6_; clear hb hbox hg; have hnb40 := NB250_248.out; have hnc40 := NB248_250.out; have hcz41_0 : w39.cell? ⟨gb250, 0, none⟩ = some (.int .i64 0) := (blk_cell BK250.out 0).trans rfl; have hcz41_1 : w39.cell? ⟨gb250, 1, none⟩ = some (.int .i64 0) := (blk_cell BK250.out 1).trans rfl; have hcz41_2 : w39.cell? ⟨gb250, 2, none⟩ = some (.int .i64 0) := (blk_cell BK250.out 2).trans rfl; have hcz41_3 : w39.cell? ⟨gb250, 3, none⟩ = some (.int .i64 0) := (blk_cell BK250.out 3).trans rfl; have hcz41_4 : w39.cell? ⟨gb250, 4, none⟩ = some (.int .i64 0) := (blk_cell BK250.out 4).trans rfl; have hcz41_5 : w39.cell? ⟨gb250, 5, none⟩ = some (.int .i64 0) := (blk_cell BK250.out 5).trans rfl; have hcz41_6 : w39.cell? ⟨gb250, 6, none⟩ = some (.string (⟨#[]⟩ : ByteArray)) := (blk_cell BK250.out 6).trans rfl; have hcz41_7 : w39.cell? ⟨gb250, 7, none⟩ = some (.slice none 0 0) := (blk_cell BK250.out 7).trans rfl; have hcz41_8 : w39.cell? ⟨gb250, 8, none⟩ = some (.int .i64 0) := (blk_cell BK250.out 8).trans rfl; have hfz41_0 := blk_frozen BK250.out 0; have hfz41_1 := blk_frozen BK250.out 1; have hfz41_2 := blk_frozen BK250.out 2; have hfz41_3 := blk_frozen BK250.out 3; have hfz41_4 := blk_frozen BK250.out 4; have hfz41_5 := blk_frozen BK250.out 5; have hfz41_6 := blk_frozen BK250.out 6; have hfz41_7 := blk_frozen BK250.out 7; have hfz41_8 := blk_frozen BK250.out 8))
       have n0_ : Aside0 ((((((((((w39.setCell ⟨gb250, 0, none⟩ (.int .i64 ((rd_T43 l1 x9_1).f0))).setCell ⟨gb250, 1, none⟩ (.int .i64 ((rd_T43 l1 x9_1).f1))).setCell ⟨gb250, 2, none⟩ (.int .i64 ((rd_T43 l1 x9_1).f2))).setCell ⟨gb250, 3, none⟩ (.int .i64 ((rd_T43 l1 x9_1).f3))).setCell ⟨gb250, 4, none⟩ (.int .i64 ((rd_T43 l1 x9_1).f4))).setCell ⟨gb250, 5, none⟩ (.int .i64 ((rd_T43 l1 x9_1).f5))).setCell ⟨gb250, 6, none⟩ (.string ((rd_T43 l1 x9_1).f6))).setCell ⟨gb250, 7, none⟩ (.slice A249_7 ((rd_T43 l1 x9_1).f7).length c249_7)).setCell ⟨gb250, 8, none⟩ (.int .i64 ((rd_T43 l1 x9_1).f8))).heap[gb248]? = some (.cells #[.int .i64 a0_0, .slice A0_1 l0_1.length c0_1, .slice A0_2 l0_2.length c0_2] 29 (0, 0))) := ⟨by refine blk_far ?_ NB248_250.out _; refine blk_far ?_ NB248_250.out _; refine blk_far ?_ NB248_250.out _; refine blk_far ?_ NB248_250.out _; refine blk_far ?_ NB248_250.out _; refine blk_far ?_ NB248_250.out _; refine blk_far ?_ NB248_250.out _; refine blk_far ?_ NB248_250.out _; refine blk_far ?_ NB248_250.out _; exact BK248.out⟩
       have n1_ : Aside0 ((((((((((w39.setCell ⟨gb250, 0, none⟩ (.int .i64 ((rd_T43 l1 x9_1).f0))).setCell ⟨gb250, 1, none⟩ (.int .i64 ((rd_T43 l1 x9_1).f1))).setCell ⟨gb250, 2, none⟩ (.int .i64 ((rd_T43 l1 x9_1).f2))).setCell ⟨gb250, 3, none⟩ (.int .i64 ((rd_T43 l1 x9_1).f3))).setCell ⟨gb250, 4, none⟩ (.int .i64 ((rd_T43 l1 x9_1).f4))).setCell ⟨gb250, 5, none⟩ (.int .i64 ((rd_T43 l1 x9_1).f5))).setCell ⟨gb250, 6, none⟩ (.string ((rd_T43 l1 x9_1).f6))).setCell ⟨gb250, 7, none⟩ (.slice A249_7 ((rd_T43 l1 x9_1).f7).length c249_7)).setCell ⟨gb250, 8, none⟩ (.int .i64 ((rd_T43 l1 x9_1).f8))).heap[gb250]? = some (.cells #[.int .i64 ((rd_T43 l1 x9_1).f0), .int .i64 ((rd_T43 l1 x9_1).f1), .int .i64 ((rd_T43 l1 x9_1).f2), .int .i64 ((rd_T43 l1 x9_1).f3), .int .i64 ((rd_T43 l1 x9_1).f4), .int .i64 ((rd_T43 l1 x9_1).f5), .string ((rd_T43 l1 x9_1).f6), .slice A249_7 ((rd_T43 l1 x9_1).f7).length c249_7, .int .i64 ((rd_T43 l1 x9_1).f8)] 43 (0, 0))) := ⟨by refine blk_put (cs := #[.int .i64 ((rd_T43 l1 x9_1).f0), .int .i64 ((rd_T43 l1 x9_1).f1), .int .i64 ((rd_T43 l1 x9_1).f2), .int .i64 ((rd_T43 l1 x9_1).f3), .int .i64 ((rd_T43 l1 x9_1).f4), .int .i64 ((rd_T43 l1 x9_1).f5), .string ((rd_T43 l1 x9_1).f6), .slice A249_7 ((rd_T43 l1 x9_1).f7).length c249_7, .int .i64 0]) ?_ 8 _ rfl; refine blk_put (cs := #[.int .i64 ((rd_T43 l1 x9_1).f0), .int .i64 ((rd_T43 l1 x9_1).f1), .int .i64 ((rd_T43 l1 x9_1).f2), .int .i64 ((rd_T43 l1 x9_1).f3), .int .i64 ((rd_T43 l1 x9_1).f4), .int .i64 ((rd_T43 l1 x9_1).f5), .string ((rd_T43 l1 x9_1).f6), .slice none 0 0, .int .i64 0]) ?_ 7 _ rfl; refine blk_put (cs := #[.int .i64 ((rd_T43 l1 x9_1).f0), .int .i64 ((rd_T43 l1 x9_1).f1), .int .i64 ((rd_T43 l1 x9_1).f2), .int .i64 ((rd_T43 l1 x9_1).f3), .int .i64 ((rd_T43 l1 x9_1).f4), .int .i64 ((rd_T43 l1 x9_1).f5), .string (⟨#[]⟩ : ByteArray), .slice none 0 0, .int .i64 0]) ?_ 6 _ rfl; refine blk_put (cs := #[.int .i64 ((rd_T43 l1 x9_1).f0), .int .i64 ((rd_T43 l1 x9_1).f1), .int .i64 ((rd_T43 l1 x9_1).f2), .int .i64 ((rd_T43 l1 x9_1).f3), .int .i64 ((rd_T43 l1 x9_1).f4), .int .i64 0, .string (⟨#[]⟩ : ByteArray), .slice none 0 0, .int .i64 0]) ?_ 5 _ rfl; refine blk_put (cs := #[.int .i64 ((rd_T43 l1 x9_1).f0), .int .i64 ((rd_T43 l1 x9_1).f1), .int .i64 ((rd_T43 l1 x9_1).f2), .int .i64 ((rd_T43 l1 x9_1).f3), .int .i64 0, .int .i64 0, .string (⟨#[]⟩ : ByteArray), .slice none 0 0, .int .i64 0]) ?_ 4 _ rfl; refine blk_put (cs := #[.int .i64 ((rd_T43 l1 x9_1).f0), .int .i64 ((rd_T43 l1 x9_1).f1), .int .i64 ((rd_T43 l1 x9_1).f2), .int .i64 0, .int .i64 0, .int .i64 0, .string (⟨#[]⟩ : ByteArray), .slice none 0 0, .int .i64 0]) ?_ 3 _ rfl; refine blk_put (cs := #[.int .i64 ((rd_T43 l1 x9_1).f0), .int .i64 ((rd_T43 l1 x9_1).f1), .int .i64 0, .int .i64 0, .int .i64 0, .int .i64 0, .string (⟨#[]⟩ : ByteArray), .slice none 0 0, .int .i64 0]) ?_ 2 _ rfl; refine blk_put (cs := #[.int .i64 ((rd_T43 l1 x9_1).f0), .int .i64 0, .int .i64 0, .int .i64 0, .int .i64 0, .int .i64 0, .string (⟨#[]⟩ : ByteArray), .slice none 0 0, .int .i64 0]) ?_ 1 _ rfl; refine blk_put (cs := #[.int .i64 0, .int .i64 0, .int .i64 0, .int .i64 0, .int .i64 0, .int .i64 0, .string (⟨#[]⟩ : ByteArray), .slice none 0 0, .int .i64 0]) ?_ 0 _ rfl; exact BK250.out⟩
       have n2_ : Aside0 (Below w.heap.size w (((((((((w39.setCell ⟨gb250, 0, none⟩ (.int .i64 ((rd_T43 l1 x9_1).f0))).setCell ⟨gb250, 1, none⟩ (.int .i64 ((rd_T43 l1 x9_1).f1))).setCell ⟨gb250, 2, none⟩ (.int .i64 ((rd_T43 l1 x9_1).f2))).setCell ⟨gb250, 3, none⟩ (.int .i64 ((rd_T43 l1 x9_1).f3))).setCell ⟨gb250, 4, none⟩ (.int .i64 ((rd_T43 l1 x9_1).f4))).setCell ⟨gb250, 5, none⟩ (.int .i64 ((rd_T43 l1 x9_1).f5))).setCell ⟨gb250, 6, none⟩ (.string ((rd_T43 l1 x9_1).f6))).setCell ⟨gb250, 7, none⟩ (.slice A249_7 ((rd_T43 l1 x9_1).f7).length c249_7)).setCell ⟨gb250, 8, none⟩ (.int .i64 ((rd_T43 l1 x9_1).f8)))) := ⟨(a6_ HB.out GE248.out GE250.out)⟩
       (try clear BK248)
       (try clear BK250)
       (try clear HB)
       generalize (((((((((w39.setCell ⟨gb250, 0, none⟩ (.int .i64 ((rd_T43 l1 x9_1).f0))).setCell ⟨gb250, 1, none⟩ (.int .i64 ((rd_T43 l1 x9_1).f1))).setCell ⟨gb250, 2, none⟩ (.int .i64 ((rd_T43 l1 x9_1).f2))).setCell ⟨gb250, 3, none⟩ (.int .i64 ((rd_T43 l1 x9_1).f3))).setCell ⟨gb250, 4, none⟩ (.int .i64 ((rd_T43 l1 x9_1).f4))).setCell ⟨gb250, 5, none⟩ (.int .i64 ((rd_T43 l1 x9_1).f5))).setCell ⟨gb250, 6, none⟩ (.string ((rd_T43 l1 x9_1).f6))).setCell ⟨gb250, 7, none⟩ (.slice A249_7 ((rd_T43 l1 x9_1).f7).length c249_7)).setCell ⟨gb250, 8, none⟩ (.int .i64 ((rd_T43 l1 x9_1).f8))) = w42 at n0_ n1_ n2_ ⊢
       have BK248 := n0_
       have BK250 := n1_
       have HB := n2_
       clear n0_ n1_ n2_
       have n0_ := Aside0.mk (blk_drew BK248.out)
       have n1_ := Aside0.mk (blk_drew BK250.out)
       have n2_ := Aside0.mk (below_drew1 HB.out)
       clear BK248
       clear BK250
       clear HB
       have BK248 := n0_
       have BK250 := n1_
       have HB := n2_
       clear n0_ n1_ n2_
       refine start_ (n := 25) (S := fun w' => w'.cell? ⟨gb250, 0, none⟩ = some (.int .i64 ((rd_T43 l1 x9_1).f0)) ∧ w'.cell? ⟨gb250, 1, none⟩ = some (.int .i64 ((rd_T43 l1 x9_1).f1)) ∧ w'.cell? ⟨gb250, 2, none⟩ = some (.int .i64 ((rd_T43 l1 x9_1).f2)) ∧ w'.cell? ⟨gb250, 3, none⟩ = some (.int .i64 ((rd_T43 l1 x9_1).f3)) ∧ w'.cell? ⟨gb250, 4, none⟩ = some (.int .i64 ((rd_T43 l1 x9_1).f4)) ∧ w'.cell? ⟨gb250, 5, none⟩ = some (.int .i64 ((rd_T43 l1 x9_1).f5)) ∧ w'.cell? ⟨gb250, 6, none⟩ = some (.string ((rd_T43 l1 x9_1).f6)) ∧ w'.cell? ⟨gb250, 7, none⟩ = some (.slice A249_7 ((rd_T43 l1 x9_1).f7).length c249_7) ∧ w'.cell? ⟨gb250, 8, none⟩ = some (.int .i64 ((rd_T43 l1 x9_1).f8))) (ds := []) #[false, false, false, false, false, false, false, false, false, false, false, false, false, false, false, false, false, false, false, false, false, false, false, false, false] (by kernel_rfl) rfl rfl ⟨(blk_cell BK250.out 0).trans rfl, (blk_cell BK250.out 1).trans rfl, (blk_cell BK250.out 2).trans rfl, (blk_cell BK250.out 3).trans rfl, (blk_cell BK250.out 4).trans rfl, (blk_cell BK250.out 5).trans rfl, (blk_cell BK250.out 6).trans rfl, (blk_cell BK250.out 7).trans rfl, (blk_cell BK250.out 8).trans rfl⟩ (fun hHeld => ?_); refine with_tabW impl_Graph_areRight.tab4 impl_Graph_areRight.bits4 (fun HT_ HW_ => ?_)
       generalize w42.drew = w43 at BK248 BK250 HB hHeld ⊢
       refine take_ (i := 0) (N := some 14) (v := ?_) (a' := ?_) #[true, false, false, false, false, false, false, false, false, false, false, false, false, false, false, false, false, false, false, false, false, false, false, false, false] rfl rfl (take_ofW HT_.out HW_.out (by kernel_rfl)) (fun _ _ _ h => h) (Or.inl ⟨by rfl, ?_⟩) hHeld ?_ ?_
       rotate_left
       ·
        rintro w' ⟨s0, s1, s2, s3, s4, s5, s6, s7, s8⟩
        go_simp
        with_reducible rfl
       rotate_left
       ·
        simp only [Act.put, lS, l0_, l1_, i64_w, i32_w]
        rfl
       refine one_ (i := 1) (N := some 15) #[true, true, false, false, false, false, false, false, false, false, false, false, false, false, false, false, false, false, false, false, false, false, false, false, false] rfl rfl (one_of HT_.out (by kernel_rfl)) (by decide) (fun K hK => ?_)
       refine goes_ Try.func39 (by kernel_rfl) rfl #[.agg #[.int .i64 ((rd_T43 l1 x9_1).f0), .int .i64 ((rd_T43 l1 x9_1).f1), .int .i64 ((rd_T43 l1 x9_1).f2), .int .i64 ((rd_T43 l1 x9_1).f3), .int .i64 ((rd_T43 l1 x9_1).f4), .int .i64 ((rd_T43 l1 x9_1).f5), .string ((rd_T43 l1 x9_1).f6), .slice A249_7 ((rd_T43 l1 x9_1).f7).length c249_7, .int .i64 ((rd_T43 l1 x9_1).f8)]] (by rfl) rfl rfl (by (try simp only [List.map_toArray, List.map_cons, List.map_nil]); first | done | rfl | (simp only [List.length_drop, List.length_take]; rfl)) ?_
       with_reducible refine (impl_EventRight.calls k1 ((rd_T43 l1 x9_1).f0) ((rd_T43 l1 x9_1).f1) ((rd_T43 l1 x9_1).f2) ((rd_T43 l1 x9_1).f3) ((rd_T43 l1 x9_1).f4) ((rd_T43 l1 x9_1).f5) ((rd_T43 l1 x9_1).f6) _ _ ((rd_T43 l1 x9_1).f7) ((rd_T43 l1 x9_1).f8) false _ ?side1 ?side2 A7.out).mono ?_
       (case side1 => repeat (first | exact (Kd.C_below HR249_7.out HB.out) | (with_reducible refine Kd.C_alloc ?_ _) | (with_reducible refine Kd.C_drewN ?_ _) | (with_reducible refine Kd.C_drew ?_)))
       (case side2 => exact HC249_7.out)
       rintro e w44 ⟨rfl, hb⟩
       refine ⟨_, rfl, ?_⟩
       have n0_ := Aside0.mk (blk_below BK248.out hb)
       have n1_ := Aside0.mk (blk_below BK250.out hb)
       have n2_ := Aside0.mk (below_step HB.out hb)
       clear BK248
       clear BK250
       clear HB
       have BK248 := n0_
       have BK250 := n1_
       have HB := n2_
       clear n0_ n1_ n2_
       (try clear hb)
       (try clear hb2)
       (try clear hk)
       (try clear hi)
       refine hK.out _ _ ⟨(blk_cell BK250.out 0).trans rfl, (blk_cell BK250.out 1).trans rfl, (blk_cell BK250.out 2).trans rfl, (blk_cell BK250.out 3).trans rfl, (blk_cell BK250.out 4).trans rfl, (blk_cell BK250.out 5).trans rfl, (blk_cell BK250.out 6).trans rfl, (blk_cell BK250.out 7).trans rfl, (blk_cell BK250.out 8).trans rfl⟩ (fun hHeld => ?_)
       clear hK K
       refine norm_ (a' := ?_) ?_ ?_
       rotate_left
       ·
        show Act.put _ (some 15) _ = _
        simp only [Act.put, lS, l0_, l1_, i64_w, i32_w]
        rfl
       refine pure_ (i := 2) (N := some 16) (v := ?_) (a' := ?_) #[true, true, true, false, false, false, false, false, false, false, false, false, false, false, false, false, false, false, false, false, false, false, false, false, false] rfl rfl (any_of HT_.out (by kernel_rfl)) (fun _ _ _ h => h) (Or.inl ⟨by rfl, ?_⟩) ?_ ?_
       rotate_left
       ·
        intro w'
        go_simp
        with_reducible rfl
       rotate_left
       ·
        simp only [Act.put, lS, l0_, l1_, i64_w, i32_w]
        rfl
       refine pure_ (i := 3) (N := some 17) (v := ?_) (a' := ?_) #[true, true, true, true, false, false, false, false, false, false, false, false, false, false, false, false, false, false, false, false, false, false, false, false, false] rfl rfl (any_of HT_.out (by kernel_rfl)) (fun _ _ _ h => h) (Or.inl ⟨by rfl, ?_⟩) ?_ ?_
       rotate_left
       ·
        intro w'
        go_simp
        with_reducible rfl
       rotate_left
       ·
        simp only [Act.put, lS, l0_, l1_, i64_w, i32_w]
        rfl
       refine pure_ (i := 4) (N := some 18) (v := undef) (a' := ?_) #[true, true, true, true, true, false, false, false, false, false, false, false, false, false, false, false, false, false, false, false, false, false, false, false, false] rfl rfl (any_of HT_.out (by kernel_rfl)) (fun _ _ _ h => h) (Or.inr ⟨by rfl, rfl⟩) ?_ ?_
       rotate_left
       ·
        simp only [Act.put, lS, l0_, l1_, i64_w, i32_w]
        rfl
       refine pure_ (i := 5) (N := some 19) (v := undef) (a' := ?_) #[true, true, true, true, true, true, false, false, false, false, false, false, false, false, false, false, false, false, false, false, false, false, false, false, false] rfl rfl (any_of HT_.out (by kernel_rfl)) (fun _ _ _ h => h) (Or.inr ⟨by rfl, rfl⟩) ?_ ?_
       rotate_left
       ·
        simp only [Act.put, lS, l0_, l1_, i64_w, i32_w]
        rfl
       refine pure_ (i := 6) (N := some 20) (v := undef) (a' := ?_) #[true, true, true, true, true, true, true, false, false, false, false, false, false, false, false, false, false, false, false, false, false, false, false, false, false] rfl rfl (any_of HT_.out (by kernel_rfl)) (fun _ _ _ h => h) (Or.inr ⟨by rfl, rfl⟩) ?_ ?_
       rotate_left
       ·
        simp only [Act.put, lS, l0_, l1_, i64_w, i32_w]
        rfl
       refine pure_ (i := 7) (N := some 21) (v := undef) (a' := ?_) #[true, true, true, true, true, true, true, true, false, false, false, false, false, false, false, false, false, false, false, false, false, false, false, false, false] rfl rfl (any_of HT_.out (by kernel_rfl)) (fun _ _ _ h => h) (Or.inr ⟨by rfl, rfl⟩) ?_ ?_
       rotate_left
       ·
        simp only [Act.put, lS, l0_, l1_, i64_w, i32_w]
        rfl
       refine pure_ (i := 8) (N := some 22) (v := undef) (a' := ?_) #[true, true, true, true, true, true, true, true, true, false, false, false, false, false, false, false, false, false, false, false, false, false, false, false, false] rfl rfl (any_of HT_.out (by kernel_rfl)) (fun _ _ _ h => h) (Or.inr ⟨by rfl, rfl⟩) ?_ ?_
       rotate_left
       ·
        simp only [Act.put, lS, l0_, l1_, i64_w, i32_w]
        rfl
       refine pure_ (i := 9) (N := some 23) (v := ?_) (a' := ?_) #[true, true, true, true, true, true, true, true, true, true, false, false, false, false, false, false, false, false, false, false, false, false, false, false, false] rfl rfl (any_of HT_.out (by kernel_rfl)) (fun _ _ _ h => h) (Or.inl ⟨by rfl, ?_⟩) ?_ ?_
       rotate_left
       ·
        intro w'
        go_simp
        with_reducible rfl
       rotate_left
       ·
        simp only [Act.put, lS, l0_, l1_, i64_w, i32_w]
        rfl
       refine pure_ (i := 10) (N := some 24) (v := ?_) (a' := ?_) #[true, true, true, true, true, true, true, true, true, true, true, false, false, false, false, false, false, false, false, false, false, false, false, false, false] rfl rfl (any_of HT_.out (by kernel_rfl)) (fun _ _ _ h => h) (Or.inl ⟨by rfl, ?_⟩) ?_ ?_
       rotate_left
       ·
        intro w'
        go_simp
        with_reducible rfl
       rotate_left
       ·
        simp only [Act.put, lS, l0_, l1_, i64_w, i32_w]
        rfl
       refine pure_ (i := 11) (N := some 25) (v := undef) (a' := ?_) #[true, true, true, true, true, true, true, true, true, true, true, true, false, false, false, false, false, false, false, false, false, false, false, false, false] rfl rfl (any_of HT_.out (by kernel_rfl)) (fun _ _ _ h => h) (Or.inr ⟨by rfl, rfl⟩) ?_ ?_
       rotate_left
       ·
        simp only [Act.put, lS, l0_, l1_, i64_w, i32_w]
        rfl
       refine pure_ (i := 12) (N := some 26) (v := undef) (a' := ?_) #[true, true, true, true, true, true, true, true, true, true, true, true, true, false, false, false, false, false, false, false, false, false, false, false, false] rfl rfl (any_of HT_.out (by kernel_rfl)) (fun _ _ _ h => h) (Or.inr ⟨by rfl, rfl⟩) ?_ ?_
       rotate_left
       ·
        simp only [Act.put, lS, l0_, l1_, i64_w, i32_w]
        rfl
       refine pure_ (i := 13) (N := some 27) (v := undef) (a' := ?_) #[true, true, true, true, true, true, true, true, true, true, true, true, true, true, false, false, false, false, false, false, false, false, false, false, false] rfl rfl (any_of HT_.out (by kernel_rfl)) (fun _ _ _ h => h) (Or.inr ⟨by rfl, rfl⟩) ?_ ?_
       rotate_left
       ·
        simp only [Act.put, lS, l0_, l1_, i64_w, i32_w]
        rfl
       refine pure_ (i := 14) (N := some 28) (v := undef) (a' := ?_) #[true, true, true, true, true, true, true, true, true, true, true, true, true, true, true, false, false, false, false, false, false, false, false, false, false] rfl rfl (any_of HT_.out (by kernel_rfl)) (fun _ _ _ h => h) (Or.inr ⟨by rfl, rfl⟩) ?_ ?_
       rotate_left
       ·
        simp only [Act.put, lS, l0_, l1_, i64_w, i32_w]
        rfl
       refine pure_ (i := 15) (N := some 29) (v := undef) (a' := ?_) #[true, true, true, true, true, true, true, true, true, true, true, true, true, true, true, true, false, false, false, false, false, false, false, false, false] rfl rfl (any_of HT_.out (by kernel_rfl)) (fun _ _ _ h => h) (Or.inr ⟨by rfl, rfl⟩) ?_ ?_
       rotate_left
       ·
        simp only [Act.put, lS, l0_, l1_, i64_w, i32_w]
        rfl
       refine pure_ (i := 16) (N := some 30) (v := undef) (a' := ?_) #[true, true, true, true, true, true, true, true, true, true, true, true, true, true, true, true, true, false, false, false, false, false, false, false, false] rfl rfl (any_of HT_.out (by kernel_rfl)) (fun _ _ _ h => h) (Or.inr ⟨by rfl, rfl⟩) ?_ ?_
       rotate_left
       ·
        simp only [Act.put, lS, l0_, l1_, i64_w, i32_w]
        rfl
       refine pure_ (i := 17) (N := some 31) (v := undef) (a' := ?_) #[true, true, true, true, true, true, true, true, true, true, true, true, true, true, true, true, true, true, false, false, false, false, false, false, false] rfl rfl (any_of HT_.out (by kernel_rfl)) (fun _ _ _ h => h) (Or.inr ⟨by rfl, rfl⟩) ?_ ?_
       rotate_left
       ·
        simp only [Act.put, lS, l0_, l1_, i64_w, i32_w]
        rfl
       refine pure_ (i := 18) (N := some 32) (v := undef) (a' := ?_) #[true, true, true, true, true, true, true, true, true, true, true, true, true, true, true, true, true, true, true, false, false, false, false, false, false] rfl rfl (any_of HT_.out (by kernel_rfl)) (fun _ _ _ h => h) (Or.inr ⟨by rfl, rfl⟩) ?_ ?_
       rotate_left
       ·
        simp only [Act.put, lS, l0_, l1_, i64_w, i32_w]
        rfl
       refine pure_ (i := 19) (N := some 33) (v := undef) (a' := ?_) #[true, true, true, true, true, true, true, true, true, true, true, true, true, true, true, true, true, true, true, true, false, false, false, false, false] rfl rfl (any_of HT_.out (by kernel_rfl)) (fun _ _ _ h => h) (Or.inr ⟨by rfl, rfl⟩) ?_ ?_
       rotate_left
       ·
        simp only [Act.put, lS, l0_, l1_, i64_w, i32_w]
        rfl
       refine pure_ (i := 20) (N := some 34) (v := undef) (a' := ?_) #[true, true, true, true, true, true, true, true, true, true, true, true, true, true, true, true, true, true, true, true, true, false, false, false, false] rfl rfl (any_of HT_.out (by kernel_rfl)) (fun _ _ _ h => h) (Or.inr ⟨by rfl, rfl⟩) ?_ ?_
       rotate_left
       ·
        simp only [Act.put, lS, l0_, l1_, i64_w, i32_w]
        rfl
       refine pure_ (i := 21) (N := some 35) (v := undef) (a' := ?_) #[true, true, true, true, true, true, true, true, true, true, true, true, true, true, true, true, true, true, true, true, true, true, false, false, false] rfl rfl (any_of HT_.out (by kernel_rfl)) (fun _ _ _ h => h) (Or.inr ⟨by rfl, rfl⟩) ?_ ?_
       rotate_left
       ·
        simp only [Act.put, lS, l0_, l1_, i64_w, i32_w]
        rfl
       refine pure_ (i := 22) (N := some 36) (v := undef) (a' := ?_) #[true, true, true, true, true, true, true, true, true, true, true, true, true, true, true, true, true, true, true, true, true, true, true, false, false] rfl rfl (any_of HT_.out (by kernel_rfl)) (fun _ _ _ h => h) (Or.inr ⟨by rfl, rfl⟩) ?_ ?_
       rotate_left
       ·
        simp only [Act.put, lS, l0_, l1_, i64_w, i32_w]
        rfl
       refine pure_ (i := 23) (N := some 37) (v := undef) (a' := ?_) #[true, true, true, true, true, true, true, true, true, true, true, true, true, true, true, true, true, true, true, true, true, true, true, true, false] rfl rfl (any_of HT_.out (by kernel_rfl)) (fun _ _ _ h => h) (Or.inr ⟨by rfl, rfl⟩) ?_ ?_
       rotate_left
       ·
        simp only [Act.put, lS, l0_, l1_, i64_w, i32_w]
        rfl
       refine pure_ (i := 24) (N := some 38) (v := ?_) (a' := ?_) #[true, true, true, true, true, true, true, true, true, true, true, true, true, true, true, true, true, true, true, true, true, true, true, true, true] rfl rfl (any_of HT_.out (by kernel_rfl)) (fun _ _ _ h => h) (Or.inl ⟨by rfl, ?_⟩) ?_ ?_
       rotate_left
       ·
        intro w'
        go_simp
        with_reducible rfl
       rotate_left
       ·
        simp only [Act.put, lS, l0_, l1_, i64_w, i32_w]
        rfl
       refine done_ (done_of HT_.out (by kernel_rfl)) ?_
       try go_wp2
       go_ret
       exact ⟨a2_, (a6_ HB.out GE248.out GE250.out)⟩
     ·
      rw [if_neg c6] at H
      exact absurd H (by simp)
    ·
     rw [if_neg c5] at H
     exact absurd H (by simp)
   ·
    rw [if_neg c4] at H
    have c4b0 : decide (x9_1 < (l1.length : Int)) = false := decide_eq_false c4
    clear c4
    obtain rfl := Option.some.inj H
    go_wp2
    go_ret
    exact ⟨a2_, (a3_ HB.out GE248.out)⟩

end Go.Proofs.Ytkhidbahbcfkbaa.Print
