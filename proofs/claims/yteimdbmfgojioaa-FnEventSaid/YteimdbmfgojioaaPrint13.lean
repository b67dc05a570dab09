-- Printed by wip/myprint.py over the kit's print, in this session's own call.
import Derived.Test.YteimdbmfgojioaaPrint0
namespace Go.Proofs.Yteimdbmfgojioaa.Print
open Go.RowKit Go.Proofs.YteimdbmfgojioaaW.PrintWords Go.Proofs.YteimdbmfgojioaaW.PrintLast Go.Proofs.YteimdbmfgojioaaW.PrintMore
attribute [local go_sem] max2_int min2_int max_two min_two max_three min_three max_four min_four   -- for this text's walks alone
set_option maxHeartbeats 8000000
set_option maxRecDepth 100000
set_option linter.unusedVariables false
set_option linter.unusedSimpArgs false

/-! ### spec_GetNum: function 55 -/
mutual
def spec_GetNum.l0 : Nat → ByteArray → Int → Int → Int → Option (Int × Int × Int)
  | 0, _, _, _, _ => none
  | k + 1, x0, x1, x5, x6 => if x6 < 10 then (if x1 ≥ (wrap64 ((x0.size : Int) - x6)) then (some (0, 0, 4)) else (if 0 ≤ (wrap64 (x1 + x6)) then (if (wrap64 (x1 + x6)) < (x0.size : Int) then (if x6 = 9 then (spec_GetNum.j1 k x0 x1 x5 x6 (IntKind.u64.wrap (bt x0 (wrap64 (x1 + x6)))) (decide ((IntKind.u64.wrap (bt x0 (wrap64 (x1 + x6)))) > 1))) else (spec_GetNum.j1 k x0 x1 x5 x6 (IntKind.u64.wrap (bt x0 (wrap64 (x1 + x6)))) false)) else (none)) else (none))) else (some (0, 0, 3))
def spec_GetNum.j1 : Nat → ByteArray → Int → Int → Int → Int → Bool → Option (Int × Int × Int)
  | 0, _, _, _, _, _, _ => none
  | k + 1, x0, x1, x5, x6, x7, x38 => if x38 = true then (some (0, 0, 3)) else (if 0 ≤ (IntKind.u64.wrap (wrap64 (7 * x6))) then (if x7 < 128 then (if x7 = 0 then (spec_GetNum.j2 k x1 (IntKind.u64.wrap (x5 + (shl .u64 (Int.tmod x7 128) (IntKind.u64.wrap (wrap64 (7 * x6)))))) x6 (decide (x6 > 0))) else (spec_GetNum.j2 k x1 (IntKind.u64.wrap (x5 + (shl .u64 (Int.tmod x7 128) (IntKind.u64.wrap (wrap64 (7 * x6)))))) x6 false)) else (spec_GetNum.l0 k x0 x1 (IntKind.u64.wrap (x5 + (shl .u64 (Int.tmod x7 128) (IntKind.u64.wrap (wrap64 (7 * x6)))))) (wrap64 (x6 + 1)))) else (none))
def spec_GetNum.j2 : Nat → Int → Int → Int → Bool → Option (Int × Int × Int)
  | 0, _, _, _, _ => none
  | k + 1, x1, x5, x6, x55 => if x55 = true then (some (0, 0, 3)) else (if (Int.tmod x5 2) = 1 then (some (wrap64 ((wrap64 (-(wrap64 (IntKind.u64.wrap (Int.tdiv x5 2))))) - 1), wrap64 ((wrap64 (x1 + x6)) + 1), 0)) else (some (wrap64 (IntKind.u64.wrap (Int.tdiv x5 2)), wrap64 ((wrap64 (x1 + x6)) + 1), 0)))
end
def spec_GetNum.f (k : Nat) (a0 : ByteArray) (a1 : Int) : Option (Int × Int × Int) := if (a0.size : Int) > 8000 then (some (0, 0, 2)) else (if a1 < 0 then (some (0, 0, 1)) else (spec_GetNum.l0 k a0 a1 0 0))
theorem spec_GetNum.mono_l : ∀ k, (∀ y0 y1 y2 y3, LeO (spec_GetNum.l0 k y0 y1 y2 y3) (spec_GetNum.l0 (k + 1) y0 y1 y2 y3)) ∧ (∀ y0 y1 y2 y3 y4 y5, LeO (spec_GetNum.j1 k y0 y1 y2 y3 y4 y5) (spec_GetNum.j1 (k + 1) y0 y1 y2 y3 y4 y5)) ∧ (∀ y0 y1 y2 y3, LeO (spec_GetNum.j2 k y0 y1 y2 y3) (spec_GetNum.j2 (k + 1) y0 y1 y2 y3))
  | 0 => ⟨fun _ _ _ _ r h => by simp [spec_GetNum.l0] at h, fun _ _ _ _ _ _ r h => by simp [spec_GetNum.j1] at h, fun _ _ _ _ r h => by simp [spec_GetNum.j2] at h⟩
  | k + 1 => by
    obtain ⟨ih0, ih1, ih2⟩ := spec_GetNum.mono_l k
    refine ⟨?_, ?_, ?_⟩
    (intro y0 y1 y2 y3; unfold spec_GetNum.l0); rotate_left
    (intro y0 y1 y2 y3 y4 y5; unfold spec_GetNum.j1); rotate_left
    (intro y0 y1 y2 y3; unfold spec_GetNum.j2); rotate_left
    all_goals (repeat' first | (with_reducible exact ih0 _ _ _ _) | (with_reducible exact ih1 _ _ _ _ _ _) | (with_reducible exact ih2 _ _ _ _) | (with_reducible exact LeO.refl _) | (with_reducible exact LeO.none _) | (with_reducible refine LeO.ite ?_ ?_) | (with_reducible refine LeO.bind ?_ (fun _ => ?_)) | exact ih0 _ _ _ _ | exact ih1 _ _ _ _ _ _ | exact ih2 _ _ _ _ | exact LeO.none _ | refine LeO.ite ?_ ?_ | refine LeO.bind ?_ (fun _ => ?_))
theorem spec_GetNum.mono : ∀ a0 a1 k, LeO (spec_GetNum.f k a0 a1) (spec_GetNum.f (k + 1) a0 a1) := by
  intro a0 a1 k
  obtain ⟨ih0, ih1, ih2⟩ := spec_GetNum.mono_l k
  unfold spec_GetNum.f
  repeat' first | (with_reducible exact ih0 _ _ _ _) | (with_reducible exact ih1 _ _ _ _ _ _) | (with_reducible exact ih2 _ _ _ _) | (with_reducible exact LeO.refl _) | (with_reducible exact LeO.none _) | (with_reducible refine LeO.ite ?_ ?_) | (with_reducible refine LeO.bind ?_ (fun _ => ?_)) | exact ih0 _ _ _ _ | exact ih1 _ _ _ _ _ _ | exact ih2 _ _ _ _ | exact LeO.none _ | refine LeO.ite ?_ ?_ | refine LeO.bind ?_ (fun _ => ?_)
theorem spec_GetNum.calls (k : Nat) (a0 : ByteArray) (a1 : Int) (r1 : Int) (r2 : Int) (r3 : Int) (w : World) (h : spec_GetNum.f k a0 a1 = some (r1, r2, r3)) :
    Calls Try.prog 55 #[.string a0, .int .i64 a1] w fun e w' => e = .returned (.agg #[.int .i64 r1, .int .i64 r2, .int .i64 r3]) ∧ Below w.heap.size w w' := by
 have hu70 := Try.underlying70; have HB := Aside0.mk (Below.refl w.heap.size w); have H : (if (a0.size : Int) > 8000 then (some (0, 0, 2)) else (if a1 < 0 then (some (0, 0, 1)) else (spec_GetNum.l0 k a0 a1 0 0))) = some (r1, r2, r3) := h; clear h; by_cases c3 : (a0.size : Int) > 8000
 ·
  rw [if_pos c3] at H; have c3b0 : decide (8000 < (a0.size : Int)) = true := decide_eq_true c3; have c3b1 : decide (8000 < a0.size) = true := decide_eq_true (by omega); clear c3; simp only [Option.some.injEq, Prod.mk.injEq] at H; obtain ⟨rfl, rfl, rfl⟩ := H; go_enter Try.func55, Try.ntmps55; go_wp2_with (first | ((with_reducible refine gate_dst (N := 4) rfl ?_); refine be_ 4 #[.int .i64 0, .int .i64 0, .int .i64 0] 70 ?_; intro gb360 hg w4 hbox hb; have BK360 := Aside0.mk (hbox); have GW360 := Aside0.mk ((by rw [hg]; exact (below_size HB.out) : w.heap.size ≤ gb360)); replace HB := Aside0.mk (below_step HB.out hb); have GE360 := GW360; clear hb hbox hg; have hcz5_0 : w4.cell? ⟨gb360, 0, none⟩ = some (.int .i64 0) := bc_ BK360.out 0; have hcz5_1 : w4.cell? ⟨gb360, 1, none⟩ = some (.int .i64 0) := bc_ BK360.out 1; have hcz5_2 : w4.cell? ⟨gb360, 2, none⟩ = some (.int .i64 0) := bc_ BK360.out 2; have hfz5_0 := blk_frozen BK360.out 0; have hfz5_1 := blk_frozen BK360.out 1; have hfz5_2 := blk_frozen BK360.out 2))
  refine bodyPost_ret (results_cell_row rfl _ _ gb360 70 #[.int .i64 0, .int .i64 0, .int .i64 2] (0, 0) _ rfl (by refine bp3_ (c0 := .int .i64 0) (c1 := .int .i64 0) (c2 := .int .i64 0) ?_; exact BK360.out) Try.underlying70 rfl (by kernel_rfl)) rfl ?_; exact ⟨a3_, (a1_ HB.out GE360.out)⟩
 ·
  rw [if_neg c3] at H; have c3b0 : decide (8000 < (a0.size : Int)) = false := decide_eq_false c3; have c3b1 : decide (8000 < a0.size) = false := decide_eq_false (by omega); clear c3; by_cases c6 : a1 < 0
  ·
   rw [if_pos c6] at H; have c6b0 : decide (a1 < 0) = true := decide_eq_true c6; clear c6; simp only [Option.some.injEq, Prod.mk.injEq] at H; obtain ⟨rfl, rfl, rfl⟩ := H; go_enter Try.func55, Try.ntmps55; go_wp2_with (first | ((with_reducible refine gate_dst (N := 4) rfl ?_); refine be_ 4 #[.int .i64 0, .int .i64 0, .int .i64 0] 70 ?_; intro gb360 hg w7 hbox hb; have BK360 := Aside0.mk (hbox); have GW360 := Aside0.mk ((by rw [hg]; exact (below_size HB.out) : w.heap.size ≤ gb360)); replace HB := Aside0.mk (below_step HB.out hb); have GE360 := GW360; clear hb hbox hg; have hcz8_0 : w7.cell? ⟨gb360, 0, none⟩ = some (.int .i64 0) := bc_ BK360.out 0; have hcz8_1 : w7.cell? ⟨gb360, 1, none⟩ = some (.int .i64 0) := bc_ BK360.out 1; have hcz8_2 : w7.cell? ⟨gb360, 2, none⟩ = some (.int .i64 0) := bc_ BK360.out 2; have hfz8_0 := blk_frozen BK360.out 0; have hfz8_1 := blk_frozen BK360.out 1; have hfz8_2 := blk_frozen BK360.out 2))
   refine bodyPost_ret (results_cell_row rfl _ _ gb360 70 #[.int .i64 0, .int .i64 0, .int .i64 1] (0, 0) _ rfl (by refine bp3_ (c0 := .int .i64 0) (c1 := .int .i64 0) (c2 := .int .i64 0) ?_; exact BK360.out) Try.underlying70 rfl (by kernel_rfl)) rfl ?_; exact ⟨a3_, (a1_ HB.out GE360.out)⟩
  ·
   rw [if_neg c6] at H; have c6b0 : decide (a1 < 0) = false := decide_eq_false c6; clear c6; have H' := Aside0.mk H; clear H; go_enter Try.func55, Try.ntmps55; go_wp2_with (first | ((with_reducible refine gate_dst (N := 4) rfl ?_); refine be_ 4 #[.int .i64 0, .int .i64 0, .int .i64 0] 70 ?_; intro gb360 hg w9 hbox hb; have BK360 := Aside0.mk (hbox); have GW360 := Aside0.mk ((by rw [hg]; exact (below_size HB.out) : w.heap.size ≤ gb360)); replace HB := Aside0.mk (below_step HB.out hb); have GE360 := GW360; clear hb hbox hg))
   go_loopg [5, 6] k (fun kq v5 v6 w' => ∃ (x5_1 : Int) (x6_1 : Int) (x361000_1 : Int) (x361001_1 : Int) (x361002_1 : Int), v5 = .int .u64 x5_1 ∧ v6 = .int .i64 x6_1 ∧ Aside0 (spec_GetNum.l0 kq a0 a1 x5_1 x6_1 = some (r1, r2, r3)) ∧ Aside0 (kq ≤ k) ∧ Aside0 (w'.heap[gb360]? = some (.cells #[.int .i64 x361000_1, .int .i64 x361001_1, .int .i64 x361002_1] 70 (0, 0))) ∧ Aside0 (Below w.heap.size w w'))
   case atStart => exact ⟨(0), (0), (0), (0), (0), (by first | rfl | (simp; done) | (simp [*]; done)), (by first | rfl | (simp; done) | (simp [*]; done)), H', ⟨Nat.le_refl _⟩, ⟨by exact BK360.out⟩, ⟨(a1_ HB.out GE360.out)⟩⟩
   case round =>
    clear H'; (try clear p2); (try clear c3); (try clear c3b0); (try clear c3b1); (try clear c5); (try clear c6); (try clear c6b0); (try clear hcz5_0); (try clear hcz5_1); (try clear hcz5_2); (try clear hcz8_0); (try clear hcz8_1); (try clear hcz8_2); (try clear hfz5_0); (try clear hfz5_1); (try clear hfz5_2); (try clear hfz8_0); (try clear hfz8_1); (try clear hfz8_2); obtain ⟨x5_1, x6_1, x361000_1, x361001_1, x361002_1, rfl, rfl, HA, HK1, BK360, HB⟩ := hrel
    cases gk with
    | zero => exact absurd HA.out (by simp [spec_GetNum.l0])
    | succ k1 =>
     have H := HA.out; clear HA; simp only [spec_GetNum.l0] at H; by_cases c10 : x6_1 < 10
     ·
      rw [if_pos c10] at H; have c10b0 : decide (x6_1 < 10) = true := decide_eq_true c10; clear c10; by_cases c11 : a1 ≥ (wrap64 ((a0.size : Int) - x6_1))
      ·
       rw [if_pos c11] at H; have c11b0 : decide ((wrap64 ((a0.size : Int) - x6_1)) ≤ a1) = true := decide_eq_true c11; have c11b0w : decide ((IntKind.i64.wrap ((a0.size : Int) - x6_1)) ≤ a1) = true := by simp only [i64_w]; exact c11b0
       clear c11; simp only [Option.some.injEq, Prod.mk.injEq] at H; obtain ⟨rfl, rfl, rfl⟩ := H; have hcz12_0 : wr.cell? ⟨gb360, 0, none⟩ = some (.int .i64 x361000_1) := bc_ BK360.out 0; have hcz12_1 : wr.cell? ⟨gb360, 1, none⟩ = some (.int .i64 x361001_1) := bc_ BK360.out 1; have hcz12_2 : wr.cell? ⟨gb360, 2, none⟩ = some (.int .i64 x361002_1) := bc_ BK360.out 2; have hfz12_0 := blk_frozen BK360.out 0; have hfz12_1 := blk_frozen BK360.out 1; have hfz12_2 := blk_frozen BK360.out 2; go_wp2
       refine bodyPost_ret (results_cell_row rfl _ _ gb360 70 #[.int .i64 0, .int .i64 0, .int .i64 4] (0, 0) _ rfl (by refine bp3_ (c0 := .int .i64 x361000_1) (c1 := .int .i64 x361001_1) (c2 := .int .i64 x361002_1) ?_; exact BK360.out) Try.underlying70 rfl (by kernel_rfl)) rfl ?_; exact ⟨a3_, (a1_ HB.out GE360.out)⟩
      ·
       rw [if_neg c11] at H; have c11b0 : decide ((wrap64 ((a0.size : Int) - x6_1)) ≤ a1) = false := decide_eq_false c11; have c11b0w : decide ((IntKind.i64.wrap ((a0.size : Int) - x6_1)) ≤ a1) = false := by simp only [i64_w]; exact c11b0
       clear c11; obtain ⟨ji13, hji13⟩ : ∃ j_ : Int, (wrap64 (a1 + x6_1)) = j_ := ⟨_, rfl⟩; replace H : (if 0 ≤ (ji13) then (if (ji13) < (a0.size : Int) then (if x6_1 = 9 then (spec_GetNum.j1 k1 a0 a1 x5_1 x6_1 (IntKind.u64.wrap (bt a0 (ji13))) (decide ((IntKind.u64.wrap (bt a0 (ji13))) > 1))) else (spec_GetNum.j1 k1 a0 a1 x5_1 x6_1 (IntKind.u64.wrap (bt a0 (ji13))) false)) else (none)) else (none)) = some (r1, r2, r3) := by first | (rw [hji13] at H; exact H) | (simp only [hji13] at H ⊢; exact H)
       have hji13w : (IntKind.i64.wrap (a1 + x6_1)) = ji13 := (i64_w _).trans hji13; by_cases c14 : 0 ≤ (ji13)
       ·
        rw [if_pos c14] at H; have c14b0 : decide (0 ≤ (ji13)) = true := decide_eq_true c14; clear c14; by_cases c15 : (ji13) < (a0.size : Int)
        ·
         rw [if_pos c15] at H; have c15b0 : decide ((ji13) < (a0.size : Int)) = true := decide_eq_true c15; clear c15; have HC17 := Aside0.mk H; clear H; have p16 : 0 ≤ ((ji13) : Int) := d_; have q16 : (ji13) < (a0.size : Int) := d_; have hx16 := bt_at a0 (ji13); replace p16 := eq_true p16; replace q16 := eq_true q16; go_upto_region 12 with (fail)
         go_cut [38] (fun v38 wc => ∃ (kq : Nat) (x38_16 : Bool), v38 = .bool x38_16 ∧ Aside0 (spec_GetNum.j1 kq a0 a1 x5_1 x6_1 (IntKind.u64.wrap (bt a0 (ji13))) x38_16 = some (r1, r2, r3)) ∧ Aside0 (kq ≤ k1) ∧ Aside0 (wc.heap[gb360]? = some (.cells #[.int .i64 x361000_1, .int .i64 x361001_1, .int .i64 x361002_1] 70 (0, 0))) ∧ Aside0 (Below w.heap.size w wc))
         case first =>
          have H := HC17.out; clear HC17; by_cases c18 : x6_1 = 9
          ·
           rw [if_pos c18] at H; have c18b0 : (x6_1 == 9) = true := beq_iff_eq.mpr c18; have c18b1 : (x6_1 != 9) = false := bne_eq_false_iff_eq.mpr c18; clear c18; (first | rw [c18b0] | rw [c18b1] | (simp only [i64_w, i32_w]; rw [c18b0]) | skip)
           have H' := Aside0.mk H; clear H; go_wp2
           go_meet
           case rel => exact ⟨_, (decide ((IntKind.u64.wrap (bt a0 (ji13))) > 1)), (by first | rfl | (simp; done) | (simp only [← hji13] <;> (first | rfl | simp)) | (simp [*]; done)), H', ⟨by have := HK1.out; first | omega | exact Nat.le_refl _⟩, ⟨by exact BK360.out⟩, ⟨(a1_ HB.out GE360.out)⟩⟩
          ·
           rw [if_neg c18] at H; have c18b0 : (x6_1 == 9) = false := beq_eq_false_iff_ne.mpr c18; have c18b1 : (x6_1 != 9) = true := bne_iff_ne.mpr c18; (first | rw [c18b0] | rw [c18b1] | (simp only [i64_w, i32_w]; rw [c18b0]) | skip)
           have H' := Aside0.mk H; clear H; go_wp2
           go_meet
           case rel => exact ⟨_, (false), (by first | rfl | (simp; done) | (simp [*]; done)), H', ⟨by have := HK1.out; first | omega | exact Nat.le_refl _⟩, ⟨by exact BK360.out⟩, ⟨(a1_ HB.out GE360.out)⟩⟩
         case rest =>
          clear HC17; (try clear c1); (try clear p1); (try clear q1); (try clear hx1); (try clear p2); (try clear c3); (try clear c3b0); (try clear c3b1); (try clear c5); (try clear c6); (try clear c6b0); (try clear p6); (try clear c10); (try clear c10b0); (try clear c11); (try clear c11b0); (try clear c14); (try clear c14b0); (try clear c15); (try clear c15b0); (try clear p16); (try clear q16); (try clear hx16); (try clear c18); (try clear c18b0); (try clear c18b1); (try clear hcz12_0); (try clear hcz12_1); (try clear hcz12_2); (try clear hcz5_0); (try clear hcz5_1); (try clear hcz5_2); (try clear hcz8_0); (try clear hcz8_1); (try clear hcz8_2); (try clear hfz12_0); (try clear hfz12_1); (try clear hfz12_2); (try clear hfz5_0); (try clear hfz5_1); (try clear hfz5_2); (try clear hfz8_0); (try clear hfz8_1); (try clear hfz8_2); (try clear p16); (try clear p2); (try clear q16); obtain ⟨kq, x38_16, rfl, HA, HJ16, BK360, HB⟩ := hcut
          cases kq with
          | zero => exact absurd HA.out (by simp [spec_GetNum.j1])
          | succ kj16 =>
           have H := HA.out; clear HA; simp only [spec_GetNum.j1] at H; by_cases c19 : x38_16 = true
           ·
            subst c19; rw [if_pos rfl] at H; simp only [Option.some.injEq, Prod.mk.injEq] at H; obtain ⟨rfl, rfl, rfl⟩ := H; have hcz20_0 : wc.cell? ⟨gb360, 0, none⟩ = some (.int .i64 x361000_1) := bc_ BK360.out 0; have hcz20_1 : wc.cell? ⟨gb360, 1, none⟩ = some (.int .i64 x361001_1) := bc_ BK360.out 1; have hcz20_2 : wc.cell? ⟨gb360, 2, none⟩ = some (.int .i64 x361002_1) := bc_ BK360.out 2; have hfz20_0 := blk_frozen BK360.out 0; have hfz20_1 := blk_frozen BK360.out 1; have hfz20_2 := blk_frozen BK360.out 2; go_wp2
            refine bodyPost_ret (results_cell_row rfl _ _ gb360 70 #[.int .i64 0, .int .i64 0, .int .i64 3] (0, 0) _ rfl (by refine blk_put (cs := #[.int .i64 0, .int .i64 0, .int .i64 x361002_1]) ?_ 2 _ (by first | rfl | (simp only [← hji13]; rfl)); refine blk_put (cs := #[.int .i64 0, .int .i64 x361001_1, .int .i64 x361002_1]) ?_ 1 _ (by first | rfl | (simp only [← hji13]; rfl)); refine blk_put (cs := #[.int .i64 x361000_1, .int .i64 x361001_1, .int .i64 x361002_1]) ?_ 0 _ (by first | rfl | (simp only [← hji13]; rfl)); exact BK360.out) Try.underlying70 rfl (by kernel_rfl)) rfl ?_; exact ⟨by first | rfl | (simp [errW_none, errW_some] <;> rfl) | (simp only [← hji13]; first | rfl | (simp [errW_none, errW_some] <;> rfl)) | (simp [*, errW_none, errW_some] <;> rfl), (a1_ HB.out GE360.out)⟩
           ·
            replace c19 := Bool.eq_false_iff.mpr c19; subst c19; rw [if_neg (show ¬ (false = true) by decide)] at H; obtain ⟨ji21, hji21⟩ : ∃ j_ : Int, (IntKind.u64.wrap (wrap64 (7 * x6_1))) = j_ := ⟨_, rfl⟩; replace H : (if 0 ≤ (ji21) then (if (IntKind.u64.wrap (bt a0 (ji13))) < 128 then (if (IntKind.u64.wrap (bt a0 (ji13))) = 0 then (spec_GetNum.j2 kj16 a1 (IntKind.u64.wrap (x5_1 + (shl .u64 (Int.tmod (IntKind.u64.wrap (bt a0 (ji13))) 128) (ji21)))) x6_1 (decide (x6_1 > 0))) else (spec_GetNum.j2 kj16 a1 (IntKind.u64.wrap (x5_1 + (shl .u64 (Int.tmod (IntKind.u64.wrap (bt a0 (ji13))) 128) (ji21)))) x6_1 false)) else (spec_GetNum.l0 kj16 a0 a1 (IntKind.u64.wrap (x5_1 + (shl .u64 (Int.tmod (IntKind.u64.wrap (bt a0 (ji13))) 128) (ji21)))) (wrap64 (x6_1 + 1)))) else (none)) = some (r1, r2, r3) := by first | (rw [hji21] at H; exact H) | (simp only [hji21] at H ⊢; exact H)
            by_cases c22 : 0 ≤ (ji21)
            ·
             rw [if_pos c22] at H; have c22b0 := eq_true c22; have c22b1 : decide (0 ≤ (ji21)) = true := decide_eq_true c22; clear c22; obtain ⟨ji23, hji23⟩ : ∃ j_ : Int, (shl .u64 (Int.tmod (IntKind.u64.wrap (bt a0 (ji13))) 128) (ji21)) = j_ := ⟨_, rfl⟩; replace H : (if (IntKind.u64.wrap (bt a0 (ji13))) < 128 then (if (IntKind.u64.wrap (bt a0 (ji13))) = 0 then (spec_GetNum.j2 kj16 a1 (IntKind.u64.wrap (x5_1 + (ji23))) x6_1 (decide (x6_1 > 0))) else (spec_GetNum.j2 kj16 a1 (IntKind.u64.wrap (x5_1 + (ji23))) x6_1 false)) else (spec_GetNum.l0 kj16 a0 a1 (IntKind.u64.wrap (x5_1 + (ji23))) (wrap64 (x6_1 + 1)))) = some (r1, r2, r3) := by first | (rw [hji23] at H; exact H) | (simp only [hji23] at H ⊢; exact H)
             have hji23_ : (IntKind.u64.wrap ((Int.tmod (IntKind.u64.wrap (bt a0 (ji13))) 128) * 2 ^ min (ji21).toNat 64)) = ji23 := hji23; have hji23z : (ji21) ≤ 64 → (IntKind.u64.wrap ((Int.tmod (IntKind.u64.wrap (bt a0 (ji13))) 128) * 2 ^ (ji21).toNat)) = ji23 := shl_small hji23; by_cases c24 : (IntKind.u64.wrap (bt a0 (ji13))) < 128
             ·
              rw [if_pos c24] at H; have c24b0 : decide ((IntKind.u64.wrap (bt a0 (ji13))) < 128) = true := decide_eq_true c24; clear c24; have HC25 := Aside0.mk H; clear H; go_upto_region 16 with (fail)
              go_cut [55] (fun v55 wc => ∃ (kq : Nat) (x55_24 : Bool), v55 = .bool x55_24 ∧ Aside0 (spec_GetNum.j2 kq a1 (IntKind.u64.wrap (x5_1 + (ji23))) x6_1 x55_24 = some (r1, r2, r3)) ∧ Aside0 (kq ≤ kj16) ∧ Aside0 (wc.heap[gb360]? = some (.cells #[.int .i64 x361000_1, .int .i64 x361001_1, .int .i64 x361002_1] 70 (0, 0))) ∧ Aside0 (Below w.heap.size w wc))
              case first =>
               have H := HC25.out; clear HC25; by_cases c26 : (IntKind.u64.wrap (bt a0 (ji13))) = 0
               ·
                rw [if_pos c26] at H; have c26b0 : ((IntKind.u64.wrap (bt a0 (ji13))) == 0) = true := beq_iff_eq.mpr c26; have c26b1 : ((IntKind.u64.wrap (bt a0 (ji13))) != 0) = false := bne_eq_false_iff_eq.mpr c26; clear c26; (first | rw [c26b0] | rw [c26b1] | (simp only [i64_w, i32_w]; rw [c26b0]) | skip)
                have H' := Aside0.mk H; clear H; go_wp2
                go_meet
                case rel => exact ⟨_, (decide (x6_1 > 0)), (by first | rfl | (simp; done) | (simp [*]; done)), H', ⟨by have := HK1.out; have := HJ16.out; first | omega | exact Nat.le_refl _⟩, ⟨by exact BK360.out⟩, ⟨(a1_ HB.out GE360.out)⟩⟩
               ·
                rw [if_neg c26] at H; have c26b0 : ((IntKind.u64.wrap (bt a0 (ji13))) == 0) = false := beq_eq_false_iff_ne.mpr c26; have c26b1 : ((IntKind.u64.wrap (bt a0 (ji13))) != 0) = true := bne_iff_ne.mpr c26; (first | rw [c26b0] | rw [c26b1] | (simp only [i64_w, i32_w]; rw [c26b0]) | skip)
                have H' := Aside0.mk H; clear H; go_wp2
                go_meet
                case rel => exact ⟨_, (false), (by first | rfl | (simp; done) | (simp [*]; done)), H', ⟨by have := HK1.out; have := HJ16.out; first | omega | exact Nat.le_refl _⟩, ⟨by exact BK360.out⟩, ⟨(a1_ HB.out GE360.out)⟩⟩
              case rest =>
               clear HC25; (try clear c1); (try clear p1); (try clear q1); (try clear hx1); (try clear c2); (try clear p2); (try clear c3); (try clear c3b0); (try clear c3b1); (try clear c5); (try clear c6); (try clear c6b0); (try clear p6); (try clear c10); (try clear c10b0); (try clear c11); (try clear c11b0); (try clear c14); (try clear c14b0); (try clear c15); (try clear c15b0); (try clear p16); (try clear q16); (try clear hx16); (try clear c18); (try clear c18b0); (try clear c18b1); (try clear c19); (try clear c22); (try clear c22b0); (try clear c22b1); (try clear c24); (try clear c24b0); (try clear c26); (try clear c26b0); (try clear c26b1); (try clear hcz12_0); (try clear hcz12_1); (try clear hcz12_2); (try clear hcz20_0); (try clear hcz20_1); (try clear hcz20_2); (try clear hcz5_0); (try clear hcz5_1); (try clear hcz5_2); (try clear hcz8_0); (try clear hcz8_1); (try clear hcz8_2); (try clear hfz12_0); (try clear hfz12_1); (try clear hfz12_2); (try clear hfz20_0); (try clear hfz20_1); (try clear hfz20_2); (try clear hfz5_0); (try clear hfz5_1); (try clear hfz5_2); (try clear hfz8_0); (try clear hfz8_1); (try clear hfz8_2); (try clear p1); (try clear p16); (try clear p2); (try clear p6); (try clear q1); (try clear q16); obtain ⟨kq, x55_24, rfl, HA, HJ24, BK360, HB⟩ := hcut
               cases kq with
               | zero => exact absurd HA.out (by simp [spec_GetNum.j2])
               | succ kj24 =>
                have H := HA.out; clear HA; simp only [spec_GetNum.j2] at H; by_cases c27 : x55_24 = true
                ·
                 subst c27; rw [if_pos rfl] at H; simp only [Option.some.injEq, Prod.mk.injEq] at H; obtain ⟨rfl, rfl, rfl⟩ := H; have hcz28_0 : wc.cell? ⟨gb360, 0, none⟩ = some (.int .i64 x361000_1) := bc_ BK360.out 0; have hcz28_1 : wc.cell? ⟨gb360, 1, none⟩ = some (.int .i64 x361001_1) := bc_ BK360.out 1; have hcz28_2 : wc.cell? ⟨gb360, 2, none⟩ = some (.int .i64 x361002_1) := bc_ BK360.out 2; have hfz28_0 := blk_frozen BK360.out 0; have hfz28_1 := blk_frozen BK360.out 1; have hfz28_2 := blk_frozen BK360.out 2; go_wp2
                 refine bodyPost_ret (results_cell_row rfl _ _ gb360 70 #[.int .i64 0, .int .i64 0, .int .i64 3] (0, 0) _ rfl (by refine blk_put (cs := #[.int .i64 0, .int .i64 0, .int .i64 x361002_1]) ?_ 2 _ (by first | rfl | (simp only [← hji13, ← hji21, ← hji23]; rfl)); refine blk_put (cs := #[.int .i64 0, .int .i64 x361001_1, .int .i64 x361002_1]) ?_ 1 _ (by first | rfl | (simp only [← hji13, ← hji21, ← hji23]; rfl)); refine blk_put (cs := #[.int .i64 x361000_1, .int .i64 x361001_1, .int .i64 x361002_1]) ?_ 0 _ (by first | rfl | (simp only [← hji13, ← hji21, ← hji23]; rfl)); exact BK360.out) Try.underlying70 rfl (by kernel_rfl)) rfl ?_; exact ⟨by first | rfl | (simp [errW_none, errW_some] <;> rfl) | (simp only [← hji13, ← hji21, ← hji23]; first | rfl | (simp [errW_none, errW_some] <;> rfl)) | (simp [*, errW_none, errW_some] <;> rfl), (a1_ HB.out GE360.out)⟩
                ·
                 replace c27 := Bool.eq_false_iff.mpr c27; subst c27; rw [if_neg (show ¬ (false = true) by decide)] at H; by_cases c29 : (Int.tmod (IntKind.u64.wrap (x5_1 + (ji23))) 2) = 1
                 ·
                  rw [if_pos c29] at H; have c29b0 : ((Int.tmod (IntKind.u64.wrap (x5_1 + (ji23))) 2) == 1) = true := beq_iff_eq.mpr c29; have c29b1 : ((Int.tmod (IntKind.u64.wrap (x5_1 + (ji23))) 2) != 1) = false := bne_eq_false_iff_eq.mpr c29; clear c29; simp only [Option.some.injEq, Prod.mk.injEq] at H; obtain ⟨rfl, rfl, rfl⟩ := H; have hcz30_0 : wc.cell? ⟨gb360, 0, none⟩ = some (.int .i64 x361000_1) := bc_ BK360.out 0; have hcz30_1 : wc.cell? ⟨gb360, 1, none⟩ = some (.int .i64 x361001_1) := bc_ BK360.out 1; have hcz30_2 : wc.cell? ⟨gb360, 2, none⟩ = some (.int .i64 x361002_1) := bc_ BK360.out 2; have hfz30_0 := blk_frozen BK360.out 0; have hfz30_1 := blk_frozen BK360.out 1; have hfz30_2 := blk_frozen BK360.out 2; go_wp2
                  refine bodyPost_ret (results_cell_row rfl _ _ gb360 70 #[.int .i64 (wrap64 ((wrap64 (-(wrap64 (IntKind.u64.wrap (Int.tdiv (IntKind.u64.wrap (x5_1 + (ji23))) 2))))) - 1)), .int .i64 (wrap64 ((wrap64 (a1 + x6_1)) + 1)), .int .i64 0] (0, 0) _ rfl (by refine blk_put (cs := #[.int .i64 (wrap64 ((wrap64 (-(wrap64 (IntKind.u64.wrap (Int.tdiv (IntKind.u64.wrap (x5_1 + (ji23))) 2))))) - 1)), .int .i64 (wrap64 ((wrap64 (a1 + x6_1)) + 1)), .int .i64 x361002_1]) ?_ 2 _ (by first | rfl | (simp only [← hji13, ← hji21, ← hji23]; rfl)); refine blk_put (cs := #[.int .i64 (wrap64 ((wrap64 (-(wrap64 (IntKind.u64.wrap (Int.tdiv (IntKind.u64.wrap (x5_1 + (ji23))) 2))))) - 1)), .int .i64 x361001_1, .int .i64 x361002_1]) ?_ 1 _ (by first | rfl | (simp only [← hji13, ← hji21, ← hji23]; rfl)); refine blk_put (cs := #[.int .i64 x361000_1, .int .i64 x361001_1, .int .i64 x361002_1]) ?_ 0 _ (by first | rfl | (simp only [← hji13, ← hji21, ← hji23]; rfl)); exact BK360.out) Try.underlying70 rfl (by kernel_rfl)) rfl ?_; exact ⟨by first | rfl | (simp [errW_none, errW_some] <;> rfl) | (simp only [← hji13, ← hji21, ← hji23]; first | rfl | (simp [errW_none, errW_some] <;> rfl)) | (simp [*, errW_none, errW_some] <;> rfl), (a1_ HB.out GE360.out)⟩
                 ·
                  rw [if_neg c29] at H; have c29b0 : ((Int.tmod (IntKind.u64.wrap (x5_1 + (ji23))) 2) == 1) = false := beq_eq_false_iff_ne.mpr c29; have c29b1 : ((Int.tmod (IntKind.u64.wrap (x5_1 + (ji23))) 2) != 1) = true := bne_iff_ne.mpr c29; simp only [Option.some.injEq, Prod.mk.injEq] at H; obtain ⟨rfl, rfl, rfl⟩ := H; have hcz31_0 : wc.cell? ⟨gb360, 0, none⟩ = some (.int .i64 x361000_1) := bc_ BK360.out 0; have hcz31_1 : wc.cell? ⟨gb360, 1, none⟩ = some (.int .i64 x361001_1) := bc_ BK360.out 1; have hcz31_2 : wc.cell? ⟨gb360, 2, none⟩ = some (.int .i64 x361002_1) := bc_ BK360.out 2; have hfz31_0 := blk_frozen BK360.out 0; have hfz31_1 := blk_frozen BK360.out 1; have hfz31_2 := blk_frozen BK360.out 2; go_wp2
                  refine bodyPost_ret (results_cell_row rfl _ _ gb360 70 #[.int .i64 (wrap64 (IntKind.u64.wrap (Int.tdiv (IntKind.u64.wrap (x5_1 + (ji23))) 2))), .int .i64 (wrap64 ((wrap64 (a1 + x6_1)) + 1)), .int .i64 0] (0, 0) _ rfl (by refine blk_put (cs := #[.int .i64 (wrap64 (IntKind.u64.wrap (Int.tdiv (IntKind.u64.wrap (x5_1 + (ji23))) 2))), .int .i64 (wrap64 ((wrap64 (a1 + x6_1)) + 1)), .int .i64 x361002_1]) ?_ 2 _ (by first | rfl | (simp only [← hji13, ← hji21, ← hji23]; rfl)); refine blk_put (cs := #[.int .i64 (wrap64 (IntKind.u64.wrap (Int.tdiv (IntKind.u64.wrap (x5_1 + (ji23))) 2))), .int .i64 x361001_1, .int .i64 x361002_1]) ?_ 1 _ (by first | rfl | (simp only [← hji13, ← hji21, ← hji23]; rfl)); refine blk_put (cs := #[.int .i64 x361000_1, .int .i64 x361001_1, .int .i64 x361002_1]) ?_ 0 _ (by first | rfl | (simp only [← hji13, ← hji21, ← hji23]; rfl)); exact BK360.out) Try.underlying70 rfl (by kernel_rfl)) rfl ?_; exact ⟨by first | rfl | (simp [errW_none, errW_some] <;> rfl) | (simp only [← hji13, ← hji21, ← hji23]; first | rfl | (simp [errW_none, errW_some] <;> rfl)) | (simp [*, errW_none, errW_some] <;> rfl), (a1_ HB.out GE360.out)⟩
             ·
              rw [if_neg c24] at H; have c24b0 : decide ((IntKind.u64.wrap (bt a0 (ji13))) < 128) = false := decide_eq_false c24; clear c24; have H' := Aside0.mk H; clear H; go_wp2
              go_roundg kj16
              case measure => have := HK1.out; have := HJ16.out; omega
              case rel => exact ⟨(IntKind.u64.wrap (x5_1 + (ji23))), (wrap64 (x6_1 + 1)), (x361000_1), (x361001_1), (x361002_1), (by first | rfl | (simp; done) | (simp only [← hji23] <;> (first | rfl | simp)) | (simp [*]; done)), (by first | rfl | (simp; done) | (simp [*]; done)), H', ⟨by have := HK1.out; have := HJ16.out; omega⟩, ⟨by exact BK360.out⟩, ⟨(a1_ HB.out GE360.out)⟩⟩
            ·
             rw [if_neg c22] at H; exact absurd H (by simp)
        ·
         rw [if_neg c15] at H; exact absurd H (by simp)
       ·
        rw [if_neg c14] at H; exact absurd H (by simp)
     ·
      rw [if_neg c10] at H; have c10b0 : decide (x6_1 < 10) = false := decide_eq_false c10; clear c10; simp only [Option.some.injEq, Prod.mk.injEq] at H; obtain ⟨rfl, rfl, rfl⟩ := H; have hcz32_0 : wr.cell? ⟨gb360, 0, none⟩ = some (.int .i64 x361000_1) := bc_ BK360.out 0; have hcz32_1 : wr.cell? ⟨gb360, 1, none⟩ = some (.int .i64 x361001_1) := bc_ BK360.out 1; have hcz32_2 : wr.cell? ⟨gb360, 2, none⟩ = some (.int .i64 x361002_1) := bc_ BK360.out 2; have hfz32_0 := blk_frozen BK360.out 0; have hfz32_1 := blk_frozen BK360.out 1; have hfz32_2 := blk_frozen BK360.out 2; go_wp2
      refine bodyPost_ret (results_cell_row rfl _ _ gb360 70 #[.int .i64 0, .int .i64 0, .int .i64 3] (0, 0) _ rfl (by refine bp3_ (c0 := .int .i64 x361000_1) (c1 := .int .i64 x361001_1) (c2 := .int .i64 x361002_1) ?_; exact BK360.out) Try.underlying70 rfl (by kernel_rfl)) rfl ?_; exact ⟨a3_, (a1_ HB.out GE360.out)⟩

/-- A state of type 54 at block g of W; what its slices lead to came in by w0. -/
def IsS54 (w0 W : World) (g : Nat) (f0 : ByteArray) (f1 : Int) (f2 : Bool) : Prop := W.heap[g]? = some (.cells #[.string f0, .int .i64 f1, .bool f2] 54 (0, 0)) ∧ w0.heap.size ≤ g
theorem IsS54.grown {w0 W : World} {g : Nat} {f0 : ByteArray} {f1 : Int} {f2 : Bool} {W1 : World} {row : Option Nat} (h : IsS54 w0 W g f0 f1 f2) (hw : W.grownBy W1 row) (hne : some g ≠ row) : IsS54 w0 W1 g f0 f1 f2 := by
  obtain ⟨hb, hg⟩ := h
  exact ⟨blk_grown hb hw hne, hg⟩
theorem IsS54.own_neN {w0 W : World} {g : Nat} {f0 : ByteArray} {f1 : Int} {f2 : Bool} {α : Type} {d : Kd α} {e : Nat} {base : Nat} {ok : Nat → Prop} {v : Value} {xs : List α} (h : IsS54 w0 W g f0 f1 f2) (ho : Kd.N d e W base ok v xs) (ht : e ≠ 54) : some g ≠ v.ownBlock := by
  obtain ⟨hb, hg⟩ := h
  exact Kd.N_ne ho hb ht
theorem IsS54.fresh {w0 W : World} {g : Nat} {f0 : ByteArray} {f1 : Int} {f2 : Bool} (h : IsS54 w0 W g f0 f1 f2) : ∀ k, W.heap.size ≤ k → k ≠ g := by
  obtain ⟨hb, hg⟩ := h
  exact Kd.freshB hb
theorem IsS54.kept {w0 W : World} {g : Nat} {f0 : ByteArray} {f1 : Int} {f2 : Bool} {W1 : World} {S : Nat → Prop} (h : IsS54 w0 W g f0 f1 f2) (hk : Kept W W1 S) (hne : ¬ S g) : IsS54 w0 W1 g f0 f1 f2 := by
  obtain ⟨hb, hg⟩ := h
  exact ⟨blk_kept hb hk hne, hg⟩
theorem IsS54.below {w0 W : World} {g : Nat} {f0 : ByteArray} {f1 : Int} {f2 : Bool} {W1 : World} (h : IsS54 w0 W g f0 f1 f2) (hw : Below W.heap.size W W1) : IsS54 w0 W1 g f0 f1 f2 := h.grown (grown_of_below hw none) (by simp)
theorem IsS54.alloc {w0 W : World} {g : Nat} {f0 : ByteArray} {f1 : Int} {f2 : Bool} (h : IsS54 w0 W g f0 f1 f2) (o : Obj) : IsS54 w0 (W.alloc o) g f0 f1 f2 := h.below (below_alloc (Below.refl _ _) o)
theorem IsS54.drewN {w0 W : World} {g : Nat} {f0 : ByteArray} {f1 : Int} {f2 : Bool} (h : IsS54 w0 W g f0 f1 f2) (m : Nat) : IsS54 w0 (W.drewN m) g f0 f1 f2 := h
theorem IsS54.drew {w0 W : World} {g : Nat} {f0 : ByteArray} {f1 : Int} {f2 : Bool} (h : IsS54 w0 W g f0 f1 f2) : IsS54 w0 W.drew g f0 f1 f2 := h
theorem IsS54.at_ {w0 W : World} {g : Nat} {f0 : ByteArray} {f1 : Int} {f2 : Bool} {w' : World} {m : Nat} (hq : W.drewN m = w') (h : IsS54 w0 W g f0 f1 f2) : IsS54 w0 w' g f0 f1 f2 := by subst hq; exact IsS54.drewN h m
theorem IsS54.apart {w0 W : World} {g : Nat} {f0 : ByteArray} {f1 : Int} {f2 : Bool} {α : Type} {d : Kd α} {e : Nat} {base : Nat} {ok : Nat → Prop} {v : Value} {xs : List α} (h : IsS54 w0 W g f0 f1 f2) (ho : d.R e W base ok v xs) (ht : ∀ q, q ∈ e :: d.E → q ≠ 54) : d.R e W base (fun k => ok k ∧ k ≠ g) v xs := by
  obtain ⟨hb, hg⟩ := h
  exact Kd.R_types ho hb ht
theorem IsS54.own_ne {w0 W : World} {g : Nat} {f0 : ByteArray} {f1 : Int} {f2 : Bool} {α : Type} {d : Kd α} {e : Nat} {base : Nat} {ok : Nat → Prop} {v : Value} {xs : List α} (h : IsS54 w0 W g f0 f1 f2) (ho : d.R e W base ok v xs) (ht : e ≠ 54) : some g ≠ v.ownBlock := by
  obtain ⟨hb, hg⟩ := h
  exact Kd.R_ne ho hb ht
theorem IsS54.apartQ {w0 W : World} {g : Nat} {f0 : ByteArray} {f1 : Int} {f2 : Bool} {α : Type} {d : Kd α} {e : Nat} {base : Nat} {ok : Nat → Prop} {v : Value} {xs : List α} (h : IsS54 w0 W g f0 f1 f2) (ho : d.Q e W base ok v xs) (ht : ∀ q, q ∈ e :: d.E → q ≠ 54) : d.Q e W base (fun k => ok k ∧ k ≠ g) v xs := by
  obtain ⟨hb, hg⟩ := h
  exact Kd.Q_types ho hb ht
theorem IsS54.own_neQ {w0 W : World} {g : Nat} {f0 : ByteArray} {f1 : Int} {f2 : Bool} {α : Type} {d : Kd α} {e : Nat} {base : Nat} {ok : Nat → Prop} {v : Value} {xs : List α} (h : IsS54 w0 W g f0 f1 f2) (ho : d.Q e W base ok v xs) (ht : e ≠ 54) : some g ≠ v.ownBlock := by
  obtain ⟨hb, hg⟩ := h
  exact Kd.Q_ne ho hb ht
theorem IsS54.apartS {w0 W : World} {g : Nat} {f0 : ByteArray} {f1 : Int} {f2 : Bool} {α : Type} {d : Kd α} {e : Nat} {base : Nat} {ok : Nat → Prop} {v : Value} {xs : List α} (h : IsS54 w0 W g f0 f1 f2) (ho : d.S e W base ok v xs) (ht : ∀ q, q ∈ e :: d.E → q ≠ 54) : d.S e W base (fun k => ok k ∧ k ≠ g) v xs := by
  obtain ⟨hb, hg⟩ := h
  exact Kd.S_types ho hb ht
theorem IsS54.own_neS {w0 W : World} {g : Nat} {f0 : ByteArray} {f1 : Int} {f2 : Bool} {α : Type} {d : Kd α} {e : Nat} {base : Nat} {ok : Nat → Prop} {v : Value} {xs : List α} (h : IsS54 w0 W g f0 f1 f2) (ho : d.S e W base ok v xs) (ht : e ≠ 54) : some g ≠ v.ownBlock := by
  obtain ⟨hb, hg⟩ := h
  exact Kd.S_ne ho hb ht
theorem IsS54.lt {w0 W : World} {g : Nat} {f0 : ByteArray} {f1 : Int} {f2 : Bool} (h : IsS54 w0 W g f0 f1 f2) : g < W.heap.size := by
  obtain ⟨hb, hg⟩ := h
  exact blk_lt hb
theorem IsS54.ge {w0 W : World} {g : Nat} {f0 : ByteArray} {f1 : Int} {f2 : Bool} (h : IsS54 w0 W g f0 f1 f2) : w0.heap.size ≤ g := by
  obtain ⟨hb, hg⟩ := h
  exact hg
theorem IsS54.ne_blk {w0 W : World} {g : Nat} {f0 : ByteArray} {f1 : Int} {f2 : Bool} {a : Nat} {cs : Array Value} {t : TypeId} {fr : Nat × Nat} (h : IsS54 w0 W g f0 f1 f2) (hb2 : W.heap[a]? = some (.cells cs t fr)) (ht : t ≠ 54) : g ≠ a := by
  obtain ⟨hb, hg⟩ := h
  rintro rfl
  rw [hb] at hb2
  injection hb2 with hb2
  injection hb2 with _ ht2
  exact ht ht2.symm
theorem IsS54.far {w0 W : World} {g : Nat} {f0 : ByteArray} {f1 : Int} {f2 : Bool} {p : Addr} (h : IsS54 w0 W g f0 f1 f2) (hne : g ≠ p.block) (u : Value) : IsS54 w0 (W.setCell p u) g f0 f1 f2 := by
  obtain ⟨hb, hg⟩ := h
  exact ⟨blk_far hb hne u, hg⟩
theorem cellS54_0 {W : World} {g : Nat} {f0 : ByteArray} {f1 : Int} {f2 : Bool} (h : W.heap[g]? = some (.cells #[.string f0, .int .i64 f1, .bool f2] 54 (0, 0))) : W.cell? ⟨g, 0, none⟩ = some (.string f0) := (blk_cell h 0).trans rfl
theorem IsS54.set_0 {w0 W : World} {g : Nat} {f0 : ByteArray} {f1 : Int} {f2 : Bool} (h : IsS54 w0 W g f0 f1 f2) (x : ByteArray) : IsS54 w0 (W.setCell ⟨g, 0, none⟩ (.string x)) g x f1 f2 := by
  obtain ⟨hb, hg⟩ := h
  exact ⟨by simpa using blk_set hb 0 (.string x), hg⟩
theorem cellS54_1 {W : World} {g : Nat} {f0 : ByteArray} {f1 : Int} {f2 : Bool} (h : W.heap[g]? = some (.cells #[.string f0, .int .i64 f1, .bool f2] 54 (0, 0))) : W.cell? ⟨g, 1, none⟩ = some (.int .i64 f1) := (blk_cell h 1).trans rfl
theorem IsS54.set_1 {w0 W : World} {g : Nat} {f0 : ByteArray} {f1 : Int} {f2 : Bool} (h : IsS54 w0 W g f0 f1 f2) (x : Int) : IsS54 w0 (W.setCell ⟨g, 1, none⟩ (.int .i64 x)) g f0 x f2 := by
  obtain ⟨hb, hg⟩ := h
  exact ⟨by simpa using blk_set hb 1 (.int .i64 x), hg⟩
theorem cellS54_2 {W : World} {g : Nat} {f0 : ByteArray} {f1 : Int} {f2 : Bool} (h : W.heap[g]? = some (.cells #[.string f0, .int .i64 f1, .bool f2] 54 (0, 0))) : W.cell? ⟨g, 2, none⟩ = some (.bool f2) := (blk_cell h 2).trans rfl
theorem IsS54.set_2 {w0 W : World} {g : Nat} {f0 : ByteArray} {f1 : Int} {f2 : Bool} (h : IsS54 w0 W g f0 f1 f2) (x : Bool) : IsS54 w0 (W.setCell ⟨g, 2, none⟩ (.bool x)) g f0 f1 x := by
  obtain ⟨hb, hg⟩ := h
  exact ⟨by simpa using blk_set hb 2 (.bool x), hg⟩
theorem IsS54.new (w0 W : World) (f0 : ByteArray) (f1 : Int) (f2 : Bool) (hB : Below w0.heap.size w0 W) : IsS54 w0 (W.alloc (.cells #[.string f0, .int .i64 f1, .bool f2] 54)) W.heap.size f0 f1 f2 := ⟨by simpa using heap_alloc_new W _, hB.size⟩

/-! ### spec_l02Reader_num: function 31 -/
def spec_l02Reader_num.f (k : Nat) (s0_0 : ByteArray) (s0_1 : Int) (s0_2 : Bool) : Option (Int × ByteArray × Int × Bool) := (spec_GetNum.f k s0_0 s0_1).bind fun bt361 => (if s0_2 = true then (some (0, s0_0, s0_1, true)) else (if bt361.2.2 = 0 then (some (bt361.1, s0_0, bt361.2.1, s0_2)) else (some (0, s0_0, s0_1, true))))
theorem spec_l02Reader_num.mono : ∀ a0 a1 a2 k, LeO (spec_l02Reader_num.f k a0 a1 a2) (spec_l02Reader_num.f (k + 1) a0 a1 a2) := by
  intro a0 a1 a2 k
  unfold spec_l02Reader_num.f
  repeat' first | (with_reducible exact spec_GetNum.mono _ _ _) | (with_reducible exact LeO.refl _) | (with_reducible exact LeO.none _) | (with_reducible refine LeO.ite ?_ ?_) | (with_reducible refine LeO.bind ?_ (fun _ => ?_)) | exact spec_GetNum.mono _ _ _ | exact LeO.none _ | refine LeO.ite ?_ ?_ | refine LeO.bind ?_ (fun _ => ?_)
def spec_l02Reader_num.T1 : Bool × List (List Nat × List Nat) := (true, [([], []), ([0], [0]), ([1], [1]), ([2], [2]), ([], []), ([4], [4]), ([5], [5]), ([6], [6]), ([3, 7], [3, 7]), ([], []), ([9, 8, 8, 0, 1, 2, 3, 4, 5, 6, 7, 8, 9], [8, 9])])
def spec_l02Reader_num.B1 : List Nat := [0, 1, 3, 7, 0, 16, 48, 112, 255, 0, 1023]
theorem spec_l02Reader_num.tab1 : rtab .any (opsOf Try.f31 1) = spec_l02Reader_num.T1 := by kernel_rfl
theorem spec_l02Reader_num.bits1 : waitsOk spec_l02Reader_num.T1.2 spec_l02Reader_num.B1 = true := by kernel_rfl
theorem spec_l02Reader_num.calls (k : Nat) (g : Nat) (s0_0 : ByteArray) (s0_1 : Int) (s0_2 : Bool) (r1 : Int) (r2 : ByteArray) (r3 : Int) (r4 : Bool) (w0 w : World) (hI : IsS54 w0 w g s0_0 s0_1 s0_2) (hB : Below w0.heap.size w0 w) (h : spec_l02Reader_num.f k s0_0 s0_1 s0_2 = some (r1, r2, r3, r4)) :
    Calls Try.prog 31 #[.pointer (some ⟨g, 0, none⟩)] w fun e w' => e = .returned (.int .i64 r1) ∧ IsS54 w0 w' g r2 r3 r4 ∧ Below w0.heap.size w0 w' ∧ KeepBut w w' g none := by
 have hu70 := Try.underlying70; have HI0 := Aside0.mk hI; have HK := Aside0.mk (KeepBut.refl w g none); have HL := Aside0.mk hB.size; clear hI; have HW0 := Aside0.mk hB.size; have HB := Aside0.mk hB; clear hB; have H : ((spec_GetNum.f k s0_0 s0_1).bind fun bt361 => (if s0_2 = true then (some (0, s0_0, s0_1, true)) else (if bt361.2.2 = 0 then (some (bt361.1, s0_0, bt361.2.1, s0_2)) else (some (0, s0_0, s0_1, true))))) = some (r1, r2, r3, r4) := h; clear h; replace H := Option.bind_eq_some_iff.mp H; obtain ⟨⟨t361, t362, t363⟩, A20, H⟩ := H; dsimp only at H; have A2 := Aside0.mk A20; clear A20; go_enter Try.func31, Try.ntmps31; try go_wp2
 replace HI0 := Aside0.mk (IsS54.drew HI0.out); replace HK := Aside0.mk (keep_drew HK.out); replace HB := Aside0.mk (below_drew1 HB.out); refine start_ (n := 11) (S := fun w' => w'.cell? ⟨g, 0, none⟩ = some (.string s0_0) ∧ w'.cell? ⟨g, 1, none⟩ = some (.int .i64 s0_1) ∧ w'.cell? ⟨g, 2, none⟩ = some (.bool s0_2)) (ds := []) #[false, false, false, false, false, false, false, false, false, false, false] (by kernel_rfl) rfl rfl ⟨(blk_cell (Aside0.mk HI0.out.1).out 0).trans rfl, (blk_cell (Aside0.mk HI0.out.1).out 1).trans rfl, (blk_cell (Aside0.mk HI0.out.1).out 2).trans rfl⟩ (fun hHeld => ?_); refine with_tabW spec_l02Reader_num.tab1 spec_l02Reader_num.bits1 (fun HT_ HW_ => ?_); generalize w.drew = w4 at HI0 HK HB hHeld ⊢; refine p_ 0 (some 4) HT_.out (bm 11 1) ?_; refine p_ 1 (some 5) HT_.out (bm 11 3) ?_; refine p_ 2 (some 6) HT_.out (bm 11 7) ?_; refine p_ 4 (some 8) HT_.out (bm 11 23) ?_; refine p_ 5 (some 9) HT_.out (bm 11 55) ?_; refine p_ 6 (some 10) HT_.out (bm 11 119) ?_; refine t_ 3 (some 7) (bm 11 127) (take_ofW HT_.out HW_.out (by kernel_rfl)) hHeld ?_; refine t_ 7 (some 11) (bm 11 255) (take_ofW HT_.out HW_.out (by kernel_rfl)) hHeld ?_; refine join_ (σ := Nat) 1 #[true, true, true, true, true, true, true, true, true, true, false] (fun s_ => [(12, .agg #[.int .i64 t361, .int .i64 t362, .int .i64 t363]), (3, .pointer (some ⟨s_, 0, none⟩))]) (fun s_ w' => (w'.cell? ⟨g, 0, none⟩ = some (.string s0_0) ∧ w'.cell? ⟨g, 1, none⟩ = some (.int .i64 s0_1) ∧ w'.cell? ⟨g, 2, none⟩ = some (.bool s0_2)) ∧ (w'.heap[s_]? = some (.cells #[.int .i64 0, .int .i64 0, .int .i64 0] 70 (0, 0))) ∧ (w.heap.size ≤ s_) ∧ (w0.heap.size ≤ s_) ∧ (g ≠ s_) ∧ (s_ ≠ g) ∧ (IsS54 w0 w' g s0_0 s0_1 s0_2) ∧ (KeepBut w w' g none) ∧ (Below w0.heap.size w0 w')) ?_ ?_
 rotate_left
 ·
  intro hCont; refine two_ (i := 8) (j := 9) (Ni := some 12) (Nj := some 3) #[true, true, true, true, true, true, true, true, true, false, false] #[true, true, true, true, true, true, true, true, false, true, false] rfl rfl rfl rfl (two_of HT_.out (by kernel_rfl)) (by decide) (by decide) (fun K hK => ?_) (fun K hK => ?_)
  ·
   skip
   refine gs_ Try.func55 #[.string s0_0, .int .i64 s0_1] ?_; with_reducible refine (spec_GetNum.calls k s0_0 s0_1 t361 t362 t363 _ A2.out).mono ?_
   rintro e w5 ⟨rfl, hb⟩; refine ⟨_, rfl, ?_⟩; replace HK := Aside0.mk (KeepBut.trans HK.out (KeepBut.of_below hb g none) (.inl rfl)); replace HB := Aside0.mk (below_step (a20_ HB.out HI0.out) hb); replace HI0 := Aside0.mk (IsS54.below HI0.out hb); (try clear hb); (try clear hb2); (try clear hk); (try clear hi); refine hK.out _ _ ⟨(blk_cell (Aside0.mk HI0.out.1).out 0).trans rfl, (blk_cell (Aside0.mk HI0.out.1).out 1).trans rfl, (blk_cell (Aside0.mk HI0.out.1).out 2).trans rfl⟩ (fun hHeld => ?_); clear hK K; refine n_ (some 12) ?_; refine one_ (i := 9) (N := some 3) (bm 11 1023) rfl rfl (one_of HT_.out (by kernel_rfl)) (by decide) (fun K hK => ?_); refine box_step ?hg (N := 3) ?hd (cs := #[.int .i64 0, .int .i64 0, .int .i64 0]) (t := 70) ?hr ?_; (case hd => rfl); (case hg => rfl); (case hr => first | (go_simp; done) | (go_simp; rfl)); intro gb364 hg w6 hbox hb; have n0_ := Aside0.mk (IsS54.below HI0.out hb); have n1_ := Aside0.mk (KeepBut.trans HK.out (KeepBut.of_below hb g none) (.inl rfl)); have n2_ := Aside0.mk (below_step (a20_ HB.out HI0.out) hb); have n3_ := Aside0.mk (hbox); have n4_ := Aside0.mk ((by rw [hg]; exact (keep_size (w := w) (g := g) (row := none) HK.out) : w.heap.size ≤ gb364)); have n5_ := Aside0.mk ((Nat.le_trans HW0.out (by rw [hg]; exact (keep_size (w := w) (g := g) (row := none) HK.out) : w.heap.size ≤ gb364) : w0.heap.size ≤ gb364)); have n6_ := Aside0.mk ((by rw [hg]; exact Nat.ne_of_lt (IsS54.lt (show IsS54 w0 _ g s0_0 s0_1 s0_2 from (a21_ HI0.out))) : g ≠ gb364))
   have n7_ := Aside0.mk ((by rw [hg]; exact Nat.ne_of_gt (IsS54.lt (show IsS54 w0 _ g s0_0 s0_1 s0_2 from (a21_ HI0.out))) : gb364 ≠ g)); clear HI0; clear HK; clear HB; have HI0 := n0_; have HK := n1_; have HB := n2_; have BK364 := n3_; have GW364 := n4_; have GE364 := n5_; have NB0_364 := n6_; have NB364_0 := n7_; clear n0_ n1_ n2_ n3_ n4_ n5_ n6_ n7_; clear hb hbox hg; refine hK.out _ _ ⟨(blk_cell (Aside0.mk HI0.out.1).out 0).trans rfl, (blk_cell (Aside0.mk HI0.out.1).out 1).trans rfl, (blk_cell (Aside0.mk HI0.out.1).out 2).trans rfl⟩ (fun hHeld => ?_); clear hK K; refine n_ (some 3) ?_; exact norm_ (by simp only [putAll, Act.put, lS, l0_, l1_]) (hCont (gb364) _ ⟨hHeld, BK364.out, GW364.out, GE364.out, NB0_364.out, NB364_0.out, HI0.out, HK.out, (a22_ HB.out HI0.out GE364.out)⟩)
  ·
   skip
   refine box_step ?hg (N := 3) ?hd (cs := #[.int .i64 0, .int .i64 0, .int .i64 0]) (t := 70) ?hr ?_; (case hd => rfl); (case hg => rfl); (case hr => first | (go_simp; done) | (go_simp; rfl)); intro gb364 hg w5 hbox hb; replace HB := Aside0.mk (below_step (a20_ HB.out HI0.out) hb); have BK364 := Aside0.mk (hbox); have GW364 := Aside0.mk ((by rw [hg]; exact (keep_size (w := w) (g := g) (row := none) HK.out) : w.heap.size ≤ gb364)); have GE364 := Aside0.mk ((Nat.le_trans HW0.out (by rw [hg]; exact (keep_size (w := w) (g := g) (row := none) HK.out) : w.heap.size ≤ gb364) : w0.heap.size ≤ gb364)); replace HK := Aside0.mk (KeepBut.trans HK.out (KeepBut.of_below hb g none) (.inl rfl)); have NB0_364 := Aside0.mk ((by rw [hg]; exact Nat.ne_of_lt (IsS54.lt (show IsS54 w0 _ g s0_0 s0_1 s0_2 from (a21_ HI0.out))) : g ≠ gb364)); have NB364_0 := Aside0.mk ((by rw [hg]; exact Nat.ne_of_gt (IsS54.lt (show IsS54 w0 _ g s0_0 s0_1 s0_2 from (a21_ HI0.out))) : gb364 ≠ g)); replace HI0 := Aside0.mk (IsS54.below HI0.out hb); clear hb hbox hg; refine hK.out _ _ ⟨(blk_cell (Aside0.mk HI0.out.1).out 0).trans rfl, (blk_cell (Aside0.mk HI0.out.1).out 1).trans rfl, (blk_cell (Aside0.mk HI0.out.1).out 2).trans rfl⟩ (fun hHeld => ?_); clear hK K; refine n_ (some 3) ?_; refine one_ (i := 8) (N := some 12) (bm 11 1023) rfl rfl (one_of HT_.out (by kernel_rfl)) (by decide) (fun K hK => ?_)
   refine gs_ Try.func55 #[.string s0_0, .int .i64 s0_1] ?_; with_reducible refine (spec_GetNum.calls k s0_0 s0_1 t361 t362 t363 _ A2.out).mono ?_
   rintro e w6 ⟨rfl, hb⟩; refine ⟨_, rfl, ?_⟩; replace BK364 := Aside0.mk (blk_below BK364.out hb); replace HK := Aside0.mk (KeepBut.trans HK.out (KeepBut.of_below hb g none) (.inl rfl)); replace HB := Aside0.mk (below_step (a22_ HB.out HI0.out GE364.out) hb); replace HI0 := Aside0.mk (IsS54.below HI0.out hb); (try clear hb); (try clear hb2); (try clear hk); (try clear hi); refine hK.out _ _ ⟨(blk_cell (Aside0.mk HI0.out.1).out 0).trans rfl, (blk_cell (Aside0.mk HI0.out.1).out 1).trans rfl, (blk_cell (Aside0.mk HI0.out.1).out 2).trans rfl⟩ (fun hHeld => ?_); clear hK K; refine n_ (some 12) ?_; exact norm_ (by simp only [putAll, Act.put, lS, l0_, l1_]) (hCont (gb364) _ ⟨hHeld, BK364.out, GW364.out, GE364.out, NB0_364.out, NB364_0.out, HI0.out, HK.out, (a22_ HB.out HI0.out GE364.out)⟩)
 rintro gb364 w7 ⟨hS_, h0_, h1_, h2_, h3_, h4_, h5_, h6_, h7_⟩; have n0_ : Aside0 (w7.heap[gb364]? = some (.cells #[.int .i64 0, .int .i64 0, .int .i64 0] 70 (0, 0))) := ⟨h0_⟩; have n1_ : Aside0 (w.heap.size ≤ gb364) := ⟨h1_⟩; have n2_ : Aside0 (w0.heap.size ≤ gb364) := ⟨h2_⟩; have n3_ : Aside0 (g ≠ gb364) := ⟨h3_⟩; have n4_ : Aside0 (gb364 ≠ g) := ⟨h4_⟩; have n5_ : Aside0 (IsS54 w0 w7 g s0_0 s0_1 s0_2) := ⟨h5_⟩; have n6_ : Aside0 (KeepBut w w7 g none) := ⟨h6_⟩; have n7_ : Aside0 (Below w0.heap.size w0 w7) := ⟨h7_⟩; clear HI0; clear HK; clear HB; clear h0_ h1_ h2_ h3_ h4_ h5_ h6_ h7_; have BK364 := n0_; have GW364 := n1_; have GE364 := n2_; have NB0_364 := n3_; have NB364_0 := n4_; have HI0 := n5_; have HK := n6_; have HB := n7_; clear n0_ n1_ n2_ n3_ n4_ n5_ n6_ n7_; have hHeld : w7.cell? ⟨g, 0, none⟩ = some (.string s0_0) ∧ w7.cell? ⟨g, 1, none⟩ = some (.int .i64 s0_1) ∧ w7.cell? ⟨g, 2, none⟩ = some (.bool s0_2) := hS_; refine norm_ (a' := ?_) ?_ ?_; rotate_left
 ·
  simp only [putAll, Act.put, lS, l0_, l1_]; rfl
 refine one_ (i := 10) (N := none) (bm 11 2047) rfl rfl (one_of HT_.out (by kernel_rfl)) (by decide) (fun K hK => ?_); have hs8 : w7.cell? ⟨gb364, 0, none⟩ = some (.int .i64 0) := bc_ BK364.out 0; have hfs8 := blk_frozen BK364.out 0; have hs9 : w7.cell? ⟨gb364, 1, none⟩ = some (.int .i64 0) := bc_ BK364.out 1; have hfs9 := blk_frozen BK364.out 1; have hs10 : w7.cell? ⟨gb364, 2, none⟩ = some (.int .i64 0) := bc_ BK364.out 2; have hfs10 := blk_frozen BK364.out 2; refine skip_ (w1 := ?_) (by rfl) rfl ?_ ?_; rotate_left
 ·
  go_simp; rfl
 refine hK.out _ _ ⟨(f3_ NB0_364.out hHeld.1), (f3_ NB0_364.out hHeld.2.1), (f3_ NB0_364.out hHeld.2.2)⟩ (fun hHeld => ?_); clear hK K; refine done_ (done_of HT_.out (by kernel_rfl)) ?_; by_cases c3 : s0_2 = true
 ·
  subst c3; rw [if_pos rfl] at H; simp only [Option.some.injEq, Prod.mk.injEq] at H; obtain ⟨rfl, rfl, rfl, rfl⟩ := H; obtain ⟨HGz11, hgz11⟩ := HI0.out; have hcz11_0 := cellS54_0 HGz11; have hcz11_1 := cellS54_1 HGz11; have hcz11_2 := cellS54_2 HGz11; have hfz11_0 := blk_frozen HGz11 0; have hfz11_1 := blk_frozen HGz11 1; have hfz11_2 := blk_frozen HGz11 2; clear HGz11 hgz11; try go_wp2
  go_ret
  exact ⟨a3_, (a23_ HI0.out NB0_364.out), (a22_ HB.out HI0.out GE364.out), (a11_ HK.out GW364.out)⟩
 ·
  replace c3 := Bool.eq_false_iff.mpr c3; subst c3; rw [if_neg (show ¬ (false = true) by decide)] at H; by_cases c12 : t363 = 0
  ·
   rw [if_pos c12] at H; have c12b0 : (t363 == 0) = true := beq_iff_eq.mpr c12; have c12b1 : (t363 != 0) = false := bne_eq_false_iff_eq.mpr c12; clear c12; simp only [Option.some.injEq, Prod.mk.injEq] at H; obtain ⟨rfl, rfl, rfl, rfl⟩ := H; obtain ⟨HGz20, hgz20⟩ := HI0.out; have hcz20_0 := cellS54_0 HGz20; have hcz20_1 := cellS54_1 HGz20; have hcz20_2 := cellS54_2 HGz20; have hfz20_0 := blk_frozen HGz20 0; have hfz20_1 := blk_frozen HGz20 1; have hfz20_2 := blk_frozen HGz20 2; clear HGz20 hgz20; have hnb21 := NB364_0.out; have hnc21 := NB0_364.out; obtain ⟨⟨hcz22_0, hcz22_1, hcz22_2⟩, hfz22_0, hfz22_1, hfz22_2⟩ := cells_3 BK364.out; try go_wp2
   go_ret
   exact ⟨a3_, (a23_ HI0.out NB0_364.out), (a22_ HB.out HI0.out GE364.out), (a11_ HK.out GW364.out)⟩
  ·
   rw [if_neg c12] at H; have c12b0 : (t363 == 0) = false := beq_eq_false_iff_ne.mpr c12; have c12b1 : (t363 != 0) = true := bne_iff_ne.mpr c12; simp only [Option.some.injEq, Prod.mk.injEq] at H; obtain ⟨rfl, rfl, rfl, rfl⟩ := H; obtain ⟨HGz30, hgz30⟩ := HI0.out; have hcz30_0 := cellS54_0 HGz30; have hcz30_1 := cellS54_1 HGz30; have hcz30_2 := cellS54_2 HGz30; have hfz30_0 := blk_frozen HGz30 0; have hfz30_1 := blk_frozen HGz30 1; have hfz30_2 := blk_frozen HGz30 2; clear HGz30 hgz30; have hnb31 := NB364_0.out; have hnc31 := NB0_364.out; obtain ⟨⟨hcz32_0, hcz32_1, hcz32_2⟩, hfz32_0, hfz32_1, hfz32_2⟩ := cells_3 BK364.out; try go_wp2
   go_ret
   exact ⟨a3_, (a23_ HI0.out NB0_364.out), (a22_ HB.out HI0.out GE364.out), (a11_ HK.out GW364.out)⟩
end Go.Proofs.Yteimdbmfgojioaa.Print
