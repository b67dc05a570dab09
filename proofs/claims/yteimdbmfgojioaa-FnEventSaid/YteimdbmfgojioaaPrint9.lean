-- Printed by wip/myprint.py over the kit's print, in this session's own call.
import Derived.Test.YteimdbmfgojioaaPrint0
namespace Go.Proofs.Yteimdbmfgojioaa.Print
open Go.RowKit Go.Proofs.YteimdbmfgojioaaW.PrintWords Go.Proofs.YteimdbmfgojioaaW.PrintLast Go.Proofs.YteimdbmfgojioaaW.PrintMore
attribute [local go_sem] max2_int min2_int max_two min_two max_three min_three max_four min_four   -- for this text's walks alone
set_option maxHeartbeats 8000000
set_option maxRecDepth 100000
set_option linter.unusedVariables false
set_option linter.unusedSimpArgs false

/-! ### impl_getNum: function 53 -/
mutual
def impl_getNum.l0 : Nat → ByteArray → Int → Int → Int → Option (Int × Int × Int)
  | 0, _, _, _, _ => none
  | k + 1, x0, x1, x5, x6 => if (wrap64 (x1 + x6)) < x1 then (impl_getNum.j1 k x0 x1 x5 x6 true) else (impl_getNum.j1 k x0 x1 x5 x6 (decide ((wrap64 (x1 + x6)) ≥ (x0.size : Int))))
def impl_getNum.j1 : Nat → ByteArray → Int → Int → Int → Bool → Option (Int × Int × Int)
  | 0, _, _, _, _, _ => none
  | k + 1, x0, x1, x5, x6, x25 => if x25 = true then (some (0, 0, 4)) else (if 0 ≤ (wrap64 (x1 + x6)) then (if (wrap64 (x1 + x6)) < (x0.size : Int) then (if x6 = 9 then (impl_getNum.j2 k x0 x1 x5 x6 (bt x0 (wrap64 (x1 + x6))) (decide ((bt x0 (wrap64 (x1 + x6))) > 1))) else (impl_getNum.j2 k x0 x1 x5 x6 (bt x0 (wrap64 (x1 + x6))) false)) else (none)) else (none))
def impl_getNum.j2 : Nat → ByteArray → Int → Int → Int → Int → Bool → Option (Int × Int × Int)
  | 0, _, _, _, _, _, _ => none
  | k + 1, x0, x1, x5, x6, x7, x32 => if x32 = true then (impl_getNum.j3 k x0 x1 x5 x6 x7 x32) else (if x7 = 0 then (impl_getNum.j3 k x0 x1 x5 x6 x7 (decide (x6 > 0))) else (impl_getNum.j3 k x0 x1 x5 x6 x7 false))
def impl_getNum.j3 : Nat → ByteArray → Int → Int → Int → Int → Bool → Option (Int × Int × Int)
  | 0, _, _, _, _, _, _ => none
  | k + 1, x0, x1, x5, x6, x7, x32 => if x32 = true then (some (0, 0, 3)) else (if 0 ≤ (wrap64 (7 * x6)) then (if x7 < 128 then (some (Go.bits .xor .i64 (wrap64 ((Go.bits .or .u64 x5 (shl .u64 (IntKind.u64.wrap (Go.bits .and .u8 x7 127)) (wrap64 (7 * x6)))) / 2)) (wrap64 (-(wrap64 (Go.bits .and .u64 (Go.bits .or .u64 x5 (shl .u64 (IntKind.u64.wrap (Go.bits .and .u8 x7 127)) (wrap64 (7 * x6)))) 1)))), wrap64 ((wrap64 (x1 + x6)) + 1), 0)) else (impl_getNum.l0 k x0 x1 (Go.bits .or .u64 x5 (shl .u64 (IntKind.u64.wrap (Go.bits .and .u8 x7 127)) (wrap64 (7 * x6)))) (wrap64 (x6 + 1)))) else (none))
end
def impl_getNum.f (k : Nat) (a0 : ByteArray) (a1 : Int) : Option (Int × Int × Int) := if a1 < 0 then (some (0, 0, 1)) else (impl_getNum.l0 k a0 a1 0 0)
theorem impl_getNum.mono_l : ∀ k, (∀ y0 y1 y2 y3, LeO (impl_getNum.l0 k y0 y1 y2 y3) (impl_getNum.l0 (k + 1) y0 y1 y2 y3)) ∧ (∀ y0 y1 y2 y3 y4, LeO (impl_getNum.j1 k y0 y1 y2 y3 y4) (impl_getNum.j1 (k + 1) y0 y1 y2 y3 y4)) ∧ (∀ y0 y1 y2 y3 y4 y5, LeO (impl_getNum.j2 k y0 y1 y2 y3 y4 y5) (impl_getNum.j2 (k + 1) y0 y1 y2 y3 y4 y5)) ∧ (∀ y0 y1 y2 y3 y4 y5, LeO (impl_getNum.j3 k y0 y1 y2 y3 y4 y5) (impl_getNum.j3 (k + 1) y0 y1 y2 y3 y4 y5))
  | 0 => ⟨fun _ _ _ _ r h => by simp [impl_getNum.l0] at h, fun _ _ _ _ _ r h => by simp [impl_getNum.j1] at h, fun _ _ _ _ _ _ r h => by simp [impl_getNum.j2] at h, fun _ _ _ _ _ _ r h => by simp [impl_getNum.j3] at h⟩
  | k + 1 => by
    obtain ⟨ih0, ih1, ih2, ih3⟩ := impl_getNum.mono_l k
    refine ⟨?_, ?_, ?_, ?_⟩
    (intro y0 y1 y2 y3; unfold impl_getNum.l0); rotate_left
    (intro y0 y1 y2 y3 y4; unfold impl_getNum.j1); rotate_left
    (intro y0 y1 y2 y3 y4 y5; unfold impl_getNum.j2); rotate_left
    (intro y0 y1 y2 y3 y4 y5; unfold impl_getNum.j3); rotate_left
    all_goals (repeat' first | (with_reducible exact ih0 _ _ _ _) | (with_reducible exact ih1 _ _ _ _ _) | (with_reducible exact ih2 _ _ _ _ _ _) | (with_reducible exact ih3 _ _ _ _ _ _) | (with_reducible exact LeO.refl _) | (with_reducible exact LeO.none _) | (with_reducible refine LeO.ite ?_ ?_) | (with_reducible refine LeO.bind ?_ (fun _ => ?_)) | exact ih0 _ _ _ _ | exact ih1 _ _ _ _ _ | exact ih2 _ _ _ _ _ _ | exact ih3 _ _ _ _ _ _ | exact LeO.none _ | refine LeO.ite ?_ ?_ | refine LeO.bind ?_ (fun _ => ?_))
theorem impl_getNum.mono : ∀ a0 a1 k, LeO (impl_getNum.f k a0 a1) (impl_getNum.f (k + 1) a0 a1) := by
  intro a0 a1 k
  obtain ⟨ih0, ih1, ih2, ih3⟩ := impl_getNum.mono_l k
  unfold impl_getNum.f
  repeat' first | (with_reducible exact ih0 _ _ _ _) | (with_reducible exact ih1 _ _ _ _ _) | (with_reducible exact ih2 _ _ _ _ _ _) | (with_reducible exact ih3 _ _ _ _ _ _) | (with_reducible exact LeO.refl _) | (with_reducible exact LeO.none _) | (with_reducible refine LeO.ite ?_ ?_) | (with_reducible refine LeO.bind ?_ (fun _ => ?_)) | exact ih0 _ _ _ _ | exact ih1 _ _ _ _ _ | exact ih2 _ _ _ _ _ _ | exact ih3 _ _ _ _ _ _ | exact LeO.none _ | refine LeO.ite ?_ ?_ | refine LeO.bind ?_ (fun _ => ?_)
theorem impl_getNum.calls (k : Nat) (a0 : ByteArray) (a1 : Int) (r1 : Int) (r2 : Int) (r3 : Int) (w : World) (h : impl_getNum.f k a0 a1 = some (r1, r2, r3)) :
    Calls Try.prog 53 #[.string a0, .int .i64 a1] w fun e w' => e = .returned (.agg #[.int .i64 r1, .int .i64 r2, .int .i64 r3]) ∧ Below w.heap.size w w' := by
 have hu70 := Try.underlying70; have HB := Aside0.mk (Below.refl w.heap.size w); have H : (if a1 < 0 then (some (0, 0, 1)) else (impl_getNum.l0 k a0 a1 0 0)) = some (r1, r2, r3) := h; clear h; by_cases c3 : a1 < 0
 ·
  rw [if_pos c3] at H; have c3b0 : decide (a1 < 0) = true := decide_eq_true c3; clear c3; simp only [Option.some.injEq, Prod.mk.injEq] at H; obtain ⟨rfl, rfl, rfl⟩ := H; go_enter Try.func53, Try.ntmps53; go_wp2_with (first | ((with_reducible refine gate_dst (N := 4) rfl ?_); (try (refine gate_guard (by rfl) ?_; dsimp only)); refine be_ 4 #[.int .i64 0, .int .i64 0, .int .i64 0] 70 ?_; intro gb294 hg w4 hbox hb; have BK294 := Aside0.mk (hbox); have GW294 := Aside0.mk ((by rw [hg]; exact (below_size HB.out) : w.heap.size ≤ gb294)); replace HB := Aside0.mk (below_step HB.out hb); have GE294 := GW294; clear hb hbox hg; have hcz5_0 : w4.cell? ⟨gb294, 0, none⟩ = some (.int .i64 0) := bc_ BK294.out 0; have hcz5_1 : w4.cell? ⟨gb294, 1, none⟩ = some (.int .i64 0) := bc_ BK294.out 1; have hcz5_2 : w4.cell? ⟨gb294, 2, none⟩ = some (.int .i64 0) := bc_ BK294.out 2; have hfz5_0 := blk_frozen BK294.out 0; have hfz5_1 := blk_frozen BK294.out 1; have hfz5_2 := blk_frozen BK294.out 2))
  refine bodyPost_ret (results_cell_row rfl _ _ gb294 70 #[.int .i64 0, .int .i64 0, .int .i64 1] (0, 0) _ rfl (by refine bp3_ (c0 := .int .i64 0) (c1 := .int .i64 0) (c2 := .int .i64 0) ?_; exact BK294.out) Try.underlying70 rfl (by kernel_rfl)) rfl ?_; exact ⟨a3_, (a1_ HB.out GE294.out)⟩
 ·
  rw [if_neg c3] at H; have c3b0 : decide (a1 < 0) = false := decide_eq_false c3; clear c3; have H' := Aside0.mk H; clear H; go_enter Try.func53, Try.ntmps53; go_wp2_with (first | ((with_reducible refine gate_dst (N := 4) rfl ?_); (try (refine gate_guard (by rfl) ?_; dsimp only)); refine be_ 4 #[.int .i64 0, .int .i64 0, .int .i64 0] 70 ?_; intro gb294 hg w6 hbox hb; have BK294 := Aside0.mk (hbox); have GW294 := Aside0.mk ((by rw [hg]; exact (below_size HB.out) : w.heap.size ≤ gb294)); replace HB := Aside0.mk (below_step HB.out hb); have GE294 := GW294; clear hb hbox hg))
  go_loopg [5, 6] k (fun kq v5 v6 w' => ∃ (x5_1 : Int) (x6_1 : Int) (x295000_1 : Int) (x295001_1 : Int) (x295002_1 : Int), v5 = .int .u64 x5_1 ∧ v6 = .int .i64 x6_1 ∧ Aside0 (impl_getNum.l0 kq a0 a1 x5_1 x6_1 = some (r1, r2, r3)) ∧ Aside0 (kq ≤ k) ∧ Aside0 (w'.heap[gb294]? = some (.cells #[.int .i64 x295000_1, .int .i64 x295001_1, .int .i64 x295002_1] 70 (0, 0))) ∧ Aside0 (Below w.heap.size w w'))
  case atStart => exact ⟨(0), (0), (0), (0), (0), (by first | rfl | (simp; done) | (simp [*]; done)), (by first | rfl | (simp; done) | (simp [*]; done)), H', ⟨Nat.le_refl _⟩, ⟨by exact BK294.out⟩, ⟨(a1_ HB.out GE294.out)⟩⟩
  case round =>
   clear H'; (try clear p2); (try clear c3); (try clear c3b0); (try clear c5); (try clear hcz5_0); (try clear hcz5_1); (try clear hcz5_2); (try clear hfz5_0); (try clear hfz5_1); (try clear hfz5_2); obtain ⟨x5_1, x6_1, x295000_1, x295001_1, x295002_1, rfl, rfl, HA, HK1, BK294, HB⟩ := hrel
   cases gk with
   | zero => exact absurd HA.out (by simp [impl_getNum.l0])
   | succ k1 =>
    have H := HA.out; clear HA; simp only [impl_getNum.l0] at H; have HC7 := Aside0.mk H; clear H; go_upto_region 6 with (fail)
    go_cut [25] (fun v25 wc => ∃ (kq : Nat) (x25_6 : Bool), v25 = .bool x25_6 ∧ Aside0 (impl_getNum.j1 kq a0 a1 x5_1 x6_1 x25_6 = some (r1, r2, r3)) ∧ Aside0 (kq ≤ k1) ∧ Aside0 (wc.heap[gb294]? = some (.cells #[.int .i64 x295000_1, .int .i64 x295001_1, .int .i64 x295002_1] 70 (0, 0))) ∧ Aside0 (Below w.heap.size w wc))
    case first =>
     have H := HC7.out; clear HC7; by_cases c8 : (wrap64 (a1 + x6_1)) < a1
     ·
      rw [if_pos c8] at H; have c8b0 : decide ((wrap64 (a1 + x6_1)) < a1) = true := decide_eq_true c8; have c8b0w : decide ((IntKind.i64.wrap (a1 + x6_1)) < a1) = true := by simp only [i64_w]; exact c8b0
      clear c8; (first | rw [c8b0] | rw [c8b1] | (simp only [i64_w, i32_w]; rw [c8b0]) | skip)
      have H' := Aside0.mk H; clear H; go_wp2
      go_meet
      case rel => exact ⟨_, (true), (by first | rfl | (simp; done) | (simp [*]; done)), H', ⟨by have := HK1.out; first | omega | exact Nat.le_refl _⟩, ⟨by exact BK294.out⟩, ⟨(a1_ HB.out GE294.out)⟩⟩
     ·
      rw [if_neg c8] at H; have c8b0 : decide ((wrap64 (a1 + x6_1)) < a1) = false := decide_eq_false c8; have c8b0w : decide ((IntKind.i64.wrap (a1 + x6_1)) < a1) = false := by simp only [i64_w]; exact c8b0
      clear c8; (first | rw [c8b0] | rw [c8b1] | (simp only [i64_w, i32_w]; rw [c8b0]) | skip)
      have H' := Aside0.mk H; clear H; go_wp2
      go_meet
      case rel => exact ⟨_, (decide ((wrap64 (a1 + x6_1)) ≥ (a0.size : Int))), (by first | rfl | (simp; done) | (simp [*]; done)), H', ⟨by have := HK1.out; first | omega | exact Nat.le_refl _⟩, ⟨by exact BK294.out⟩, ⟨(a1_ HB.out GE294.out)⟩⟩
    case rest =>
     clear HC7; (try clear p2); (try clear c3); (try clear c3b0); (try clear c5); (try clear p6); (try clear c8); (try clear c8b0); (try clear hcz5_0); (try clear hcz5_1); (try clear hcz5_2); (try clear hfz5_0); (try clear hfz5_1); (try clear hfz5_2); (try clear p2); obtain ⟨kq, x25_6, rfl, HA, HJ6, BK294, HB⟩ := hcut
     cases kq with
     | zero => exact absurd HA.out (by simp [impl_getNum.j1])
     | succ kj6 =>
      have H := HA.out; clear HA; simp only [impl_getNum.j1] at H; by_cases c9 : x25_6 = true
      ·
       subst c9; rw [if_pos rfl] at H; simp only [Option.some.injEq, Prod.mk.injEq] at H; obtain ⟨rfl, rfl, rfl⟩ := H; have hcz10_0 : wc.cell? ⟨gb294, 0, none⟩ = some (.int .i64 x295000_1) := bc_ BK294.out 0; have hcz10_1 : wc.cell? ⟨gb294, 1, none⟩ = some (.int .i64 x295001_1) := bc_ BK294.out 1; have hcz10_2 : wc.cell? ⟨gb294, 2, none⟩ = some (.int .i64 x295002_1) := bc_ BK294.out 2; have hfz10_0 := blk_frozen BK294.out 0; have hfz10_1 := blk_frozen BK294.out 1; have hfz10_2 := blk_frozen BK294.out 2; go_wp2
       refine bodyPost_ret (results_cell_row rfl _ _ gb294 70 #[.int .i64 0, .int .i64 0, .int .i64 4] (0, 0) _ rfl (by refine bp3_ (c0 := .int .i64 x295000_1) (c1 := .int .i64 x295001_1) (c2 := .int .i64 x295002_1) ?_; exact BK294.out) Try.underlying70 rfl (by kernel_rfl)) rfl ?_; exact ⟨a3_, (a1_ HB.out GE294.out)⟩
      ·
       replace c9 := Bool.eq_false_iff.mpr c9; subst c9; rw [if_neg (show ¬ (false = true) by decide)] at H; obtain ⟨ji11, hji11⟩ : ∃ j_ : Int, (wrap64 (a1 + x6_1)) = j_ := ⟨_, rfl⟩; replace H : (if 0 ≤ (ji11) then (if (ji11) < (a0.size : Int) then (if x6_1 = 9 then (impl_getNum.j2 kj6 a0 a1 x5_1 x6_1 (bt a0 (ji11)) (decide ((bt a0 (ji11)) > 1))) else (impl_getNum.j2 kj6 a0 a1 x5_1 x6_1 (bt a0 (ji11)) false)) else (none)) else (none)) = some (r1, r2, r3) := by first | (rw [hji11] at H; exact H) | (simp only [hji11] at H ⊢; exact H)
       have hji11w : (IntKind.i64.wrap (a1 + x6_1)) = ji11 := (i64_w _).trans hji11; by_cases c12 : 0 ≤ (ji11)
       ·
        rw [if_pos c12] at H; have c12b0 : decide (0 ≤ (ji11)) = true := decide_eq_true c12; clear c12; by_cases c13 : (ji11) < (a0.size : Int)
        ·
         rw [if_pos c13] at H; have c13b0 : decide ((ji11) < (a0.size : Int)) = true := decide_eq_true c13; clear c13; have HC15 := Aside0.mk H; clear H; have p14 : 0 ≤ ((ji11) : Int) := d_; have q14 : (ji11) < (a0.size : Int) := d_; have hx14 := bt_at a0 (ji11); replace p14 := eq_true p14; replace q14 := eq_true q14; go_upto_region 9 with (fail)
         go_cut [32] (fun v32 wc => ∃ (kq : Nat) (x32_14 : Bool), v32 = .bool x32_14 ∧ Aside0 (impl_getNum.j2 kq a0 a1 x5_1 x6_1 (bt a0 (ji11)) x32_14 = some (r1, r2, r3)) ∧ Aside0 (kq ≤ kj6) ∧ Aside0 (wc.heap[gb294]? = some (.cells #[.int .i64 x295000_1, .int .i64 x295001_1, .int .i64 x295002_1] 70 (0, 0))) ∧ Aside0 (Below w.heap.size w wc))
         case first =>
          have H := HC15.out; clear HC15; by_cases c16 : x6_1 = 9
          ·
           rw [if_pos c16] at H; have c16b0 : (x6_1 == 9) = true := beq_iff_eq.mpr c16; have c16b1 : (x6_1 != 9) = false := bne_eq_false_iff_eq.mpr c16; clear c16; (first | rw [c16b0] | rw [c16b1] | (simp only [i64_w, i32_w]; rw [c16b0]) | skip)
           have H' := Aside0.mk H; clear H; go_wp2
           go_meet
           case rel => exact ⟨_, (decide ((bt a0 (ji11)) > 1)), (by first | rfl | (simp; done) | (simp only [← hji11] <;> (first | rfl | simp)) | (simp [*]; done)), H', ⟨by have := HK1.out; have := HJ6.out; first | omega | exact Nat.le_refl _⟩, ⟨by exact BK294.out⟩, ⟨(a1_ HB.out GE294.out)⟩⟩
          ·
           rw [if_neg c16] at H; have c16b0 : (x6_1 == 9) = false := beq_eq_false_iff_ne.mpr c16; have c16b1 : (x6_1 != 9) = true := bne_iff_ne.mpr c16; (first | rw [c16b0] | rw [c16b1] | (simp only [i64_w, i32_w]; rw [c16b0]) | skip)
           have H' := Aside0.mk H; clear H; go_wp2
           go_meet
           case rel => exact ⟨_, (false), (by first | rfl | (simp; done) | (simp [*]; done)), H', ⟨by have := HK1.out; have := HJ6.out; first | omega | exact Nat.le_refl _⟩, ⟨by exact BK294.out⟩, ⟨(a1_ HB.out GE294.out)⟩⟩
         case rest =>
          clear HC15; (try clear c1); (try clear p1); (try clear q1); (try clear hx1); (try clear p2); (try clear c3); (try clear c3b0); (try clear c5); (try clear p6); (try clear c8); (try clear c8b0); (try clear c9); (try clear c12); (try clear c12b0); (try clear c13); (try clear c13b0); (try clear p14); (try clear q14); (try clear hx14); (try clear c16); (try clear c16b0); (try clear c16b1); (try clear hcz10_0); (try clear hcz10_1); (try clear hcz10_2); (try clear hcz5_0); (try clear hcz5_1); (try clear hcz5_2); (try clear hfz10_0); (try clear hfz10_1); (try clear hfz10_2); (try clear hfz5_0); (try clear hfz5_1); (try clear hfz5_2); (try clear p14); (try clear p2); (try clear p6); (try clear q14); obtain ⟨kq, x32_14, rfl, HA, HJ14, BK294, HB⟩ := hcut
          cases kq with
          | zero => exact absurd HA.out (by simp [impl_getNum.j2])
          | succ kj14 =>
           have H := HA.out; clear HA; simp only [impl_getNum.j2] at H; have HC17 := Aside0.mk H; clear H; go_upto_if 32 with (fail)
           go_cut [32] (fun v32 wc => ∃ (kq : Nat) (x32_16 : Bool), v32 = .bool x32_16 ∧ Aside0 (impl_getNum.j3 kq a0 a1 x5_1 x6_1 (bt a0 (ji11)) x32_16 = some (r1, r2, r3)) ∧ Aside0 (kq ≤ kj14) ∧ Aside0 (wc.heap[gb294]? = some (.cells #[.int .i64 x295000_1, .int .i64 x295001_1, .int .i64 x295002_1] 70 (0, 0))) ∧ Aside0 (Below w.heap.size w wc))
           case first =>
            have H := HC17.out; clear HC17; by_cases c18 : x32_14 = true
            ·
             subst c18; rw [if_pos rfl] at H; have H' := Aside0.mk H; clear H; go_wp2
             go_meet
             case rel => exact ⟨_, (true), (by first | rfl | (simp; done) | (simp [*]; done)), H', ⟨by have := HK1.out; have := HJ6.out; have := HJ14.out; first | omega | exact Nat.le_refl _⟩, ⟨by exact BK294.out⟩, ⟨(a1_ HB.out GE294.out)⟩⟩
            ·
             replace c18 := Bool.eq_false_iff.mpr c18; subst c18; rw [if_neg (show ¬ (false = true) by decide)] at H; by_cases c19 : (bt a0 (ji11)) = 0
             ·
              rw [if_pos c19] at H; have c19b0 : ((bt a0 (ji11)) == 0) = true := beq_iff_eq.mpr c19; have c19b1 : ((bt a0 (ji11)) != 0) = false := bne_eq_false_iff_eq.mpr c19; clear c19; (first | rw [c19b0] | rw [c19b1] | (simp only [i64_w, i32_w]; rw [c19b0]) | skip)
              have H' := Aside0.mk H; clear H; go_wp2
              go_meet
              case rel => exact ⟨_, (decide (x6_1 > 0)), (by first | rfl | (simp; done) | (simp [*]; done)), H', ⟨by have := HK1.out; have := HJ6.out; have := HJ14.out; first | omega | exact Nat.le_refl _⟩, ⟨by exact BK294.out⟩, ⟨(a1_ HB.out GE294.out)⟩⟩
             ·
              rw [if_neg c19] at H; have c19b0 : ((bt a0 (ji11)) == 0) = false := beq_eq_false_iff_ne.mpr c19; have c19b1 : ((bt a0 (ji11)) != 0) = true := bne_iff_ne.mpr c19; (first | rw [c19b0] | rw [c19b1] | (simp only [i64_w, i32_w]; rw [c19b0]) | skip)
              have H' := Aside0.mk H; clear H; go_wp2
              go_meet
              case rel => exact ⟨_, (false), (by first | rfl | (simp; done) | (simp [*]; done)), H', ⟨by have := HK1.out; have := HJ6.out; have := HJ14.out; first | omega | exact Nat.le_refl _⟩, ⟨by exact BK294.out⟩, ⟨(a1_ HB.out GE294.out)⟩⟩
           case rest =>
            clear HC17; (try clear c1); (try clear p1); (try clear q1); (try clear hx1); (try clear p2); (try clear c3); (try clear c3b0); (try clear c5); (try clear p6); (try clear c8); (try clear c8b0); (try clear c9); (try clear c12); (try clear c12b0); (try clear c13); (try clear c13b0); (try clear p14); (try clear q14); (try clear hx14); (try clear c16); (try clear c16b0); (try clear c16b1); (try clear c18); (try clear c19); (try clear c19b0); (try clear c19b1); (try clear hcz10_0); (try clear hcz10_1); (try clear hcz10_2); (try clear hcz5_0); (try clear hcz5_1); (try clear hcz5_2); (try clear hfz10_0); (try clear hfz10_1); (try clear hfz10_2); (try clear hfz5_0); (try clear hfz5_1); (try clear hfz5_2); (try clear p1); (try clear p14); (try clear p2); (try clear p6); (try clear q1); (try clear q14); obtain ⟨kq, x32_16, rfl, HA, HJ16, BK294, HB⟩ := hcut
            cases kq with
            | zero => exact absurd HA.out (by simp [impl_getNum.j3])
            | succ kj16 =>
             have H := HA.out; clear HA; simp only [impl_getNum.j3] at H; by_cases c20 : x32_16 = true
             ·
              subst c20; rw [if_pos rfl] at H; simp only [Option.some.injEq, Prod.mk.injEq] at H; obtain ⟨rfl, rfl, rfl⟩ := H; have hcz21_0 : wc.cell? ⟨gb294, 0, none⟩ = some (.int .i64 x295000_1) := bc_ BK294.out 0; have hcz21_1 : wc.cell? ⟨gb294, 1, none⟩ = some (.int .i64 x295001_1) := bc_ BK294.out 1; have hcz21_2 : wc.cell? ⟨gb294, 2, none⟩ = some (.int .i64 x295002_1) := bc_ BK294.out 2; have hfz21_0 := blk_frozen BK294.out 0; have hfz21_1 := blk_frozen BK294.out 1; have hfz21_2 := blk_frozen BK294.out 2; go_wp2
              refine bodyPost_ret (results_cell_row rfl _ _ gb294 70 #[.int .i64 0, .int .i64 0, .int .i64 3] (0, 0) _ rfl (by refine blk_put (cs := #[.int .i64 0, .int .i64 0, .int .i64 x295002_1]) ?_ 2 _ (by first | rfl | (simp only [← hji11]; rfl)); refine blk_put (cs := #[.int .i64 0, .int .i64 x295001_1, .int .i64 x295002_1]) ?_ 1 _ (by first | rfl | (simp only [← hji11]; rfl)); refine blk_put (cs := #[.int .i64 x295000_1, .int .i64 x295001_1, .int .i64 x295002_1]) ?_ 0 _ (by first | rfl | (simp only [← hji11]; rfl)); exact BK294.out) Try.underlying70 rfl (by kernel_rfl)) rfl ?_; exact ⟨by first | rfl | (simp [errW_none, errW_some] <;> rfl) | (simp only [← hji11]; first | rfl | (simp [errW_none, errW_some] <;> rfl)) | (simp [*, errW_none, errW_some] <;> rfl), (a1_ HB.out GE294.out)⟩
             ·
              replace c20 := Bool.eq_false_iff.mpr c20; subst c20; rw [if_neg (show ¬ (false = true) by decide)] at H; obtain ⟨ji22, hji22⟩ : ∃ j_ : Int, (wrap64 (7 * x6_1)) = j_ := ⟨_, rfl⟩; replace H : (if 0 ≤ (ji22) then (if (bt a0 (ji11)) < 128 then (some (Go.bits .xor .i64 (wrap64 ((Go.bits .or .u64 x5_1 (shl .u64 (IntKind.u64.wrap (Go.bits .and .u8 (bt a0 (ji11)) 127)) (ji22))) / 2)) (wrap64 (-(wrap64 (Go.bits .and .u64 (Go.bits .or .u64 x5_1 (shl .u64 (IntKind.u64.wrap (Go.bits .and .u8 (bt a0 (ji11)) 127)) (ji22))) 1)))), wrap64 ((wrap64 (a1 + x6_1)) + 1), 0)) else (impl_getNum.l0 kj16 a0 a1 (Go.bits .or .u64 x5_1 (shl .u64 (IntKind.u64.wrap (Go.bits .and .u8 (bt a0 (ji11)) 127)) (ji22))) (wrap64 (x6_1 + 1)))) else (none)) = some (r1, r2, r3) := by first | (rw [hji22] at H; exact H) | (simp only [hji22] at H ⊢; exact H)
              have hji22w : (IntKind.i64.wrap (7 * x6_1)) = ji22 := (i64_w _).trans hji22; by_cases c23 : 0 ≤ (ji22)
              ·
               rw [if_pos c23] at H; have c23b0 := eq_true c23; have c23b1 : decide (0 ≤ (ji22)) = true := decide_eq_true c23; clear c23; obtain ⟨ji24, hji24⟩ : ∃ j_ : Int, (shl .u64 (IntKind.u64.wrap (Go.bits .and .u8 (bt a0 (ji11)) 127)) (ji22)) = j_ := ⟨_, rfl⟩; replace H : (if (bt a0 (ji11)) < 128 then (some (Go.bits .xor .i64 (wrap64 ((Go.bits .or .u64 x5_1 (ji24)) / 2)) (wrap64 (-(wrap64 (Go.bits .and .u64 (Go.bits .or .u64 x5_1 (ji24)) 1)))), wrap64 ((wrap64 (a1 + x6_1)) + 1), 0)) else (impl_getNum.l0 kj16 a0 a1 (Go.bits .or .u64 x5_1 (ji24)) (wrap64 (x6_1 + 1)))) = some (r1, r2, r3) := by first | (rw [hji24] at H; exact H) | (simp only [hji24] at H ⊢; exact H)
               have hji24_ : (IntKind.u64.wrap ((IntKind.u64.wrap (Go.bits .and .u8 (bt a0 (ji11)) 127)) * 2 ^ min (ji22).toNat 64)) = ji24 := hji24; have hji24z : (ji22) ≤ 64 → (IntKind.u64.wrap ((IntKind.u64.wrap (Go.bits .and .u8 (bt a0 (ji11)) 127)) * 2 ^ (ji22).toNat)) = ji24 := shl_small hji24; by_cases c25 : (bt a0 (ji11)) < 128
               ·
                rw [if_pos c25] at H; have c25b0 : decide ((bt a0 (ji11)) < 128) = true := decide_eq_true c25; clear c25; simp only [Option.some.injEq, Prod.mk.injEq] at H; obtain ⟨rfl, rfl, rfl⟩ := H; have hcz26_0 : wc.cell? ⟨gb294, 0, none⟩ = some (.int .i64 x295000_1) := bc_ BK294.out 0; have hcz26_1 : wc.cell? ⟨gb294, 1, none⟩ = some (.int .i64 x295001_1) := bc_ BK294.out 1; have hcz26_2 : wc.cell? ⟨gb294, 2, none⟩ = some (.int .i64 x295002_1) := bc_ BK294.out 2; have hfz26_0 := blk_frozen BK294.out 0; have hfz26_1 := blk_frozen BK294.out 1; have hfz26_2 := blk_frozen BK294.out 2; go_wp2
                refine bodyPost_ret (results_cell_row rfl _ _ gb294 70 #[.int .i64 (Go.bits .xor .i64 (wrap64 ((Go.bits .or .u64 x5_1 (ji24)) / 2)) (wrap64 (-(wrap64 (Go.bits .and .u64 (Go.bits .or .u64 x5_1 (ji24)) 1))))), .int .i64 (wrap64 ((wrap64 (a1 + x6_1)) + 1)), .int .i64 0] (0, 0) _ rfl (by refine blk_put (cs := #[.int .i64 (Go.bits .xor .i64 (wrap64 ((Go.bits .or .u64 x5_1 (ji24)) / 2)) (wrap64 (-(wrap64 (Go.bits .and .u64 (Go.bits .or .u64 x5_1 (ji24)) 1))))), .int .i64 (wrap64 ((wrap64 (a1 + x6_1)) + 1)), .int .i64 x295002_1]) ?_ 2 _ (by first | rfl | (simp only [← hji11, ← hji22, ← hji24]; rfl)); refine blk_put (cs := #[.int .i64 (Go.bits .xor .i64 (wrap64 ((Go.bits .or .u64 x5_1 (ji24)) / 2)) (wrap64 (-(wrap64 (Go.bits .and .u64 (Go.bits .or .u64 x5_1 (ji24)) 1))))), .int .i64 x295001_1, .int .i64 x295002_1]) ?_ 1 _ (by first | rfl | (simp only [← hji11, ← hji22, ← hji24]; rfl)); refine blk_put (cs := #[.int .i64 x295000_1, .int .i64 x295001_1, .int .i64 x295002_1]) ?_ 0 _ (by first | rfl | (simp only [← hji11, ← hji22, ← hji24]; rfl)); exact BK294.out) Try.underlying70 rfl (by kernel_rfl)) rfl ?_; exact ⟨by first | rfl | (simp [errW_none, errW_some] <;> rfl) | (simp only [← hji11, ← hji22, ← hji24]; first | rfl | (simp [errW_none, errW_some] <;> rfl)) | (simp [*, errW_none, errW_some] <;> rfl), (a1_ HB.out GE294.out)⟩
               ·
                rw [if_neg c25] at H; have c25b0 : decide ((bt a0 (ji11)) < 128) = false := decide_eq_false c25; clear c25; have H' := Aside0.mk H; clear H; go_wp2
                go_roundg kj16
                case measure => have := HK1.out; have := HJ6.out; have := HJ14.out; have := HJ16.out; omega
                case rel => exact ⟨(Go.bits .or .u64 x5_1 (ji24)), (wrap64 (x6_1 + 1)), (x295000_1), (x295001_1), (x295002_1), (by first | rfl | (simp; done) | (simp only [← hji24] <;> (first | rfl | simp)) | (simp [*]; done)), (by first | rfl | (simp; done) | (simp [*]; done)), H', ⟨by have := HK1.out; have := HJ6.out; have := HJ14.out; have := HJ16.out; omega⟩, ⟨by exact BK294.out⟩, ⟨(a1_ HB.out GE294.out)⟩⟩
              ·
               rw [if_neg c23] at H; exact absurd H (by simp)
        ·
         rw [if_neg c13] at H; exact absurd H (by simp)
       ·
        rw [if_neg c12] at H; exact absurd H (by simp)

end Go.Proofs.Yteimdbmfgojioaa.Print
