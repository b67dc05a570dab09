-- Printed by wip/myprint.py over the kit's print, in this session's own call.
import Derived.Test.YthpclkkkpponkaaPrint0
import Derived.Test.YthpclkkkpponkaaPrint5
namespace Go.Proofs.Ythpclkkkpponkaa.Print
open Go.RowKit Go.Proofs.YthpclkkkpponkaaW.PrintWords Go.Proofs.YthpclkkkpponkaaW.PrintLast Go.Proofs.YthpclkkkpponkaaW.PrintMore
attribute [local go_sem] max2_int min2_int max_two min_two max_three min_three max_four min_four   -- for this text's walks alone
set_option maxHeartbeats 8000000
set_option maxRecDepth 100000
set_option linter.unusedVariables false
set_option linter.unusedSimpArgs false

/-! ### spec_l03Depths: function 23 -/
mutual
def spec_l03Depths.l0 : Nat → List (S39) → List Int → Int → Option (List Int)
  | 0, _, _, _ => none
  | k + 1, x0, x3, x4 => if x4 < (x0.length : Int) then (spec_l03Depths.l1 k x0 x3 x4 0) else (some x3)
def spec_l03Depths.l1 : Nat → List (S39) → List Int → Int → Int → Option (List Int)
  | 0, _, _, _, _ => none
  | k + 1, x0, x3, x4, x5 => if x5 < (x0.length : Int) then (if 0 ≤ x5 then (if x5 < (x3.length : Int) then (if (rd x3 x5) > 0 then (spec_l03Depths.l1 k x0 x3 x4 (wrap64 (x5 + 1))) else (spec_l03Depths.l2 k x0 x3 x4 x5 0 true 0)) else (none)) else (none)) else (spec_l03Depths.l0 k x0 x3 (wrap64 (x4 + 1)))
def spec_l03Depths.l2 : Nat → List (S39) → List Int → Int → Int → Int → Bool → Int → Option (List Int)
  | 0, _, _, _, _, _, _, _ => none
  | k + 1, x0, x3, x4, x5, x6, x7, x8 => if 0 ≤ x5 then (if x5 < (x0.length : Int) then (if x8 < (((rd_T39 x0 x5).f7).length : Int) then (if 0 ≤ x8 then ((spec_l03At.f k x0 (rd ((rd_T39 x0 x5).f7) x8)).bind fun t147 => (if 0 ≤ t147 then (if t147 < (x3.length : Int) then (if x7 = true then (if (rd x3 t147) > x6 then (spec_l03Depths.l2 k x0 x3 x4 x5 (rd x3 t147) (decide ((rd x3 t147) > 0)) (wrap64 (x8 + 1))) else (spec_l03Depths.l2 k x0 x3 x4 x5 x6 (decide ((rd x3 t147) > 0)) (wrap64 (x8 + 1)))) else (if (rd x3 t147) > x6 then (spec_l03Depths.l2 k x0 x3 x4 x5 (rd x3 t147) false (wrap64 (x8 + 1))) else (spec_l03Depths.l2 k x0 x3 x4 x5 x6 false (wrap64 (x8 + 1))))) else (none)) else (none))) else (none)) else (if x7 = true then (if x5 < (x3.length : Int) then (spec_l03Depths.l1 k x0 (x3.set (x5 : Int).toNat (wrap64 (x6 + 1))) x4 (wrap64 (x5 + 1))) else (none)) else (spec_l03Depths.l1 k x0 x3 x4 (wrap64 (x5 + 1))))) else (none)) else (none)
end
def spec_l03Depths.f (k : Nat) (l0 : List (S39)) : Option (List Int) := if 0 ≤ (l0.length : Int) then (if ((l0.length : Int) : Int).toNat ≤ 35184372088832 then (spec_l03Depths.l0 k l0 (List.replicate ((l0.length : Int) : Int).toNat 0) 0) else (none)) else (none)
theorem spec_l03Depths.mono_l : ∀ k, (∀ y0 y1 y2, LeO (spec_l03Depths.l0 k y0 y1 y2) (spec_l03Depths.l0 (k + 1) y0 y1 y2)) ∧ (∀ y0 y1 y2 y3, LeO (spec_l03Depths.l1 k y0 y1 y2 y3) (spec_l03Depths.l1 (k + 1) y0 y1 y2 y3)) ∧ (∀ y0 y1 y2 y3 y4 y5 y6, LeO (spec_l03Depths.l2 k y0 y1 y2 y3 y4 y5 y6) (spec_l03Depths.l2 (k + 1) y0 y1 y2 y3 y4 y5 y6))
  | 0 => ⟨fun _ _ _ r h => by simp [spec_l03Depths.l0] at h, fun _ _ _ _ r h => by simp [spec_l03Depths.l1] at h, fun _ _ _ _ _ _ _ r h => by simp [spec_l03Depths.l2] at h⟩
  | k + 1 => by
    obtain ⟨ih0, ih1, ih2⟩ := spec_l03Depths.mono_l k
    refine ⟨?_, ?_, ?_⟩
    (intro y0 y1 y2; unfold spec_l03Depths.l0); rotate_left
    (intro y0 y1 y2 y3; unfold spec_l03Depths.l1); rotate_left
    (intro y0 y1 y2 y3 y4 y5 y6; unfold spec_l03Depths.l2); rotate_left
    all_goals (repeat' first | (with_reducible exact ih0 _ _ _) | (with_reducible exact ih1 _ _ _ _) | (with_reducible exact ih2 _ _ _ _ _ _ _) | (with_reducible exact spec_l03At.mono _ _ _) | (with_reducible exact LeO.refl _) | (with_reducible exact LeO.none _) | (with_reducible refine LeO.ite ?_ ?_) | (with_reducible refine LeO.bind ?_ (fun _ => ?_)) | exact ih0 _ _ _ | exact ih1 _ _ _ _ | exact ih2 _ _ _ _ _ _ _ | exact spec_l03At.mono _ _ _ | exact LeO.none _ | refine LeO.ite ?_ ?_ | refine LeO.bind ?_ (fun _ => ?_))
theorem spec_l03Depths.mono : ∀ a0 k, LeO (spec_l03Depths.f k a0) (spec_l03Depths.f (k + 1) a0) := by
  intro a0 k
  obtain ⟨ih0, ih1, ih2⟩ := spec_l03Depths.mono_l k
  unfold spec_l03Depths.f
  repeat' first | (with_reducible exact ih0 _ _ _) | (with_reducible exact ih1 _ _ _ _) | (with_reducible exact ih2 _ _ _ _ _ _ _) | (with_reducible exact spec_l03At.mono _ _ _) | (with_reducible exact LeO.refl _) | (with_reducible exact LeO.none _) | (with_reducible refine LeO.ite ?_ ?_) | (with_reducible refine LeO.bind ?_ (fun _ => ?_)) | exact ih0 _ _ _ | exact ih1 _ _ _ _ | exact ih2 _ _ _ _ _ _ _ | exact spec_l03At.mono _ _ _ | exact LeO.none _ | refine LeO.ite ?_ ?_ | refine LeO.bind ?_ (fun _ => ?_)
theorem spec_l03Depths.calls (k : Nat) (A0 : Option Addr) (c0 : Nat) (l0 : List (S39)) (r : List Int) (w : World) (hr0 : Kd.C k39 w A0 l0.length l0) (hc0 : l0.length ≤ c0) (h : spec_l03Depths.f k l0 = some r) :
    Calls Try.prog 23 #[.slice A0 l0.length c0] w fun e w' => ∃ v0_ : Value, e = .returned (v0_) ∧ Kd.R (Kd.int .i64) 2 w' w.heap.size (fun _ => True) v0_ r ∧ Below w.heap.size w w' := by
 have HR0 := Aside0.mk hr0; have HC0 := Aside0.mk hc0; clear hr0 hc0; have HB := Aside0.mk (Below.refl w.heap.size w); have H : (if 0 ≤ (l0.length : Int) then (if ((l0.length : Int) : Int).toNat ≤ 35184372088832 then (spec_l03Depths.l0 k l0 (List.replicate ((l0.length : Int) : Int).toNat 0) 0) else (none)) else (none)) = some r := h; clear h; by_cases c2 : 0 ≤ (l0.length : Int)
 ·
  rw [if_pos c2] at H; have c2b0 := eq_true c2; have c2b1 : decide (0 ≤ (l0.length : Int)) = true := decide_eq_true c2; clear c2; by_cases c3 : ((l0.length : Int) : Int).toNat ≤ 35184372088832
  ·
   rw [if_pos c3] at H; have c3b0 := eq_true c3; have c3b1 : decide (((l0.length : Int) : Int).toNat ≤ 35184372088832) = true := decide_eq_true c3; clear c3; obtain ⟨y140, hy140⟩ : ∃ y_ : List Int, y_ = (List.replicate ((l0.length : Int) : Int).toNat 0) := ⟨_, rfl⟩; replace H : (spec_l03Depths.l0 k l0 y140 0) = some r := by first | (rw [hy140]; exact H) | exact H
   have Ny140 := Aside0.mk hy140; clear hy140; have H' := Aside0.mk H; clear H; go_enter Try.func23, Try.ntmps23; go_wp2_with (first | ((with_reducible refine gate_dst (N := 12) rfl ?_); refine Kd.R_make (Kd.int .i64) _ 2 rfl (N := 12) rfl 37 _ _ rfl (l0.length : Int) rfl rfl Try.underlying37 (.int .i64 0) 8 info2 rfl (by decide) (by omega) 0 (ok := fun _ => True) (okp := fun _ => True) rfl (fun _ hk => hk) trivial (d_) (Nat.le_trans (Nat.mul_le_mul_right _ (d_ : (l0.length : Int).toNat ≤ 35184372088832)) (by omega)) (Below.refl _ _) (Nat.le_refl _) ?_; intro v141 w4 ho5 hb hg_ hnew_; clear hg_ hnew_; (first | rw [← Ny140.out] at ho5 | (simp only [Int.reduceToNat] at ho5; rw [← Ny140.out] at ho5)); have HO142 := Aside0.mk (Kd.R_lower ho5 (below_size (a1_ HB.out))); replace HB := Aside0.mk (below_step (a1_ HB.out) hb); clear hb ho5))
   go_loopg [4] k (fun kq v4 w' => ∃ (x3_1 : List Int) (x4_1 : Int), v4 = .int .i64 x4_1 ∧ Aside0 (spec_l03Depths.l0 kq l0 x3_1 x4_1 = some r) ∧ Aside0 (kq ≤ k) ∧ Aside0 (Kd.R (Kd.int .i64) 2 w' w.heap.size (fun _ => True) v141 x3_1) ∧ Aside0 (Below w.heap.size w w'))
   case atStart => exact ⟨(y140), (0), (by first | rfl | (simp; done) | (simp [*]; done)), H', ⟨Nat.le_refl _⟩, ⟨(a6_ HO142.out)⟩, ⟨(a1_ HB.out)⟩⟩
   case round =>
    clear H'; (try clear c2); (try clear c2b0); (try clear c2b1); (try clear p2); (try clear c3); (try clear c3b0); (try clear c3b1); obtain ⟨x3_1, x4_1, rfl, HA, HK1, HO_3, HB⟩ := hrel
    cases gk with
    | zero => exact absurd HA.out (by simp [spec_l03Depths.l0])
    | succ k1 =>
     have H := HA.out; clear HA; simp only [spec_l03Depths.l0] at H; by_cases c6 : x4_1 < (l0.length : Int)
     ·
      rw [if_pos c6] at H; have c6b0 : decide (x4_1 < (l0.length : Int)) = true := decide_eq_true c6; clear c6; have H' := Aside0.mk H; clear H; go_wp2
      go_loopg [5] k1 (fun kq v5 w' => ∃ (x3_2 : List Int) (x5_2 : Int), v5 = .int .i64 x5_2 ∧ Aside0 (spec_l03Depths.l1 kq l0 x3_2 x4_1 x5_2 = some r) ∧ Aside0 (kq ≤ k1) ∧ Aside0 (Kd.R (Kd.int .i64) 2 w' w.heap.size (fun _ => True) v141 x3_2) ∧ Aside0 (Below w.heap.size w w'))
      case atStart => exact ⟨(x3_1), (0), (by first | rfl | (simp; done) | (simp [*]; done)), H', ⟨Nat.le_refl _⟩, ⟨(a6_ HO_3.out)⟩, ⟨(a1_ HB.out)⟩⟩
      case round =>
       clear H'; (try clear c2); (try clear c2b0); (try clear c2b1); (try clear p2); (try clear c3); (try clear c3b0); (try clear c3b1); (try clear c6); (try clear c6b0); (try clear p2); obtain ⟨x3_2, x5_2, rfl, HA, HK2, HO_3, HB⟩ := hrel
       cases gk with
       | zero => exact absurd HA.out (by simp [spec_l03Depths.l1])
       | succ k2 =>
        have H := HA.out; clear HA; simp only [spec_l03Depths.l1] at H; by_cases c7 : x5_2 < (l0.length : Int)
        ·
         rw [if_pos c7] at H; have c7b0 : decide (x5_2 < (l0.length : Int)) = true := decide_eq_true c7; clear c7; by_cases c8 : 0 ≤ x5_2
         ·
          rw [if_pos c8] at H; have c8b0 : decide (0 ≤ x5_2) = true := decide_eq_true c8; clear c8; by_cases c9 : x5_2 < (x3_2.length : Int)
          ·
           rw [if_pos c9] at H; have c9b0 : decide (x5_2 < (x3_2.length : Int)) = true := decide_eq_true c9; clear c9; by_cases c10 : (rd x3_2 x5_2) > 0
           ·
            rw [if_pos c10] at H; have c10b0 : decide (0 < (rd x3_2 x5_2)) = true := decide_eq_true c10; clear c10; have H' := Aside0.mk H; clear H; obtain ⟨Ao11, co11, eo11⟩ := Kd.R_slice HO_3.out; subst eo11; have p143 : 0 ≤ (x5_2 : Int) := d_; have q143 : x5_2 < (x3_2.length : Int) := d_; obtain ⟨ad143, e143, hx143_0⟩ := Kd.at_int (Kd.R_reads' HO_3.out).2.2 x5_2 p143 q143; cases e143; replace p143 := eq_true p143; replace q143 := eq_true q143; go_wp2
            go_roundg k2
            case measure => have := HK1.out; have := HK2.out; omega
            case rel => exact ⟨(x3_2), (wrap64 (x5_2 + 1)), (by first | rfl | (simp; done) | (simp [*]; done)), H', ⟨by have := HK1.out; have := HK2.out; omega⟩, ⟨(a6_ HO_3.out)⟩, ⟨(a1_ HB.out)⟩⟩
           ·
            rw [if_neg c10] at H; have c10b0 : decide (0 < (rd x3_2 x5_2)) = false := decide_eq_false c10; clear c10; have H' := Aside0.mk H; clear H; obtain ⟨Ao12, co12, eo12⟩ := Kd.R_slice HO_3.out; subst eo12; have p143 : 0 ≤ (x5_2 : Int) := d_; have q143 : x5_2 < (x3_2.length : Int) := d_; obtain ⟨ad143, e143, hx143_0⟩ := Kd.at_int (Kd.R_reads' HO_3.out).2.2 x5_2 p143 q143; cases e143; replace p143 := eq_true p143; replace q143 := eq_true q143; go_wp2
            go_loopg [6, 7, 8] k2 (fun kq v6 v7 v8 w' => ∃ (x6_3 : Int) (x7_3 : Bool) (x8_3 : Int), v6 = .int .i64 x6_3 ∧ v7 = .bool x7_3 ∧ v8 = .int .i64 x8_3 ∧ Aside0 (spec_l03Depths.l2 kq l0 x3_2 x4_1 x5_2 x6_3 x7_3 x8_3 = some r) ∧ Aside0 (kq ≤ k2) ∧ Aside0 (Kd.R (Kd.int .i64) 2 w' w.heap.size (fun _ => True) (.slice (some ad143) x3_2.length co12) x3_2) ∧ Aside0 (Below w.heap.size w w'))
            case atStart => exact ⟨(0), (true), (0), (by first | rfl | (simp; done) | (simp [*]; done)), (by first | rfl | (simp; done) | (simp [*]; done)), (by first | rfl | (simp; done) | (simp [*]; done)), H', ⟨Nat.le_refl _⟩, ⟨(a6_ HO_3.out)⟩, ⟨(a1_ HB.out)⟩⟩
            case round =>
             clear H'; (try clear c1); (try clear p1); (try clear q1); (try clear hx1); (try clear c2); (try clear c2b0); (try clear c2b1); (try clear p2); (try clear c3); (try clear c3b0); (try clear c3b1); (try clear c6); (try clear c6b0); (try clear p6); (try clear c7); (try clear c7b0); (try clear c8); (try clear c8b0); (try clear c9); (try clear c9b0); (try clear c10); (try clear c10b0); (try clear hx143_0); (try clear p143); (try clear p2); (try clear q143); obtain ⟨x6_3, x7_3, x8_3, rfl, rfl, rfl, HA, HK3, HO_3, HB⟩ := hrel
             cases gk with
             | zero => exact absurd HA.out (by simp [spec_l03Depths.l2])
             | succ k3 =>
              have H := HA.out; clear HA; simp only [spec_l03Depths.l2] at H; by_cases c13 : 0 ≤ x5_2
              ·
               rw [if_pos c13] at H; have c13b0 : decide (0 ≤ x5_2) = true := decide_eq_true c13; clear c13; by_cases c14 : x5_2 < (l0.length : Int)
               ·
                rw [if_pos c14] at H; have c14b0 : decide (x5_2 < (l0.length : Int)) = true := decide_eq_true c14; clear c14; by_cases c15 : x8_3 < (((rd_T39 l0 x5_2).f7).length : Int)
                ·
                 rw [if_pos c15] at H; have c15b0 : decide (x8_3 < (((rd_T39 l0 x5_2).f7).length : Int)) = true := decide_eq_true c15; clear c15; by_cases c16 : 0 ≤ x8_3
                 ·
                  rw [if_pos c16] at H; have c16b0 : decide (0 ≤ x8_3) = true := decide_eq_true c16; clear c16; replace H := Option.bind_eq_some_iff.mp H; obtain ⟨t147, A170, H⟩ := H; have A17 := Aside0.mk A170; clear A170; by_cases c18 : 0 ≤ t147
                  ·
                   rw [if_pos c18] at H; have c18b0 : decide (0 ≤ t147) = true := decide_eq_true c18; clear c18; by_cases c19 : t147 < (x3_2.length : Int)
                   ·
                    rw [if_pos c19] at H; have c19b0 : decide (t147 < (x3_2.length : Int)) = true := decide_eq_true c19; clear c19; by_cases c20 : x7_3 = true
                    ·
                     subst c20; rw [if_pos rfl] at H; by_cases c21 : (rd x3_2 t147) > x6_3
                     ·
                      rw [if_pos c21] at H; have c21b0 : decide (x6_3 < (rd x3_2 t147)) = true := decide_eq_true c21; clear c21; have H' := Aside0.mk H; clear H; have p144 : 0 ≤ (x5_2 : Int) := d_; have q144 : x5_2 < (l0.length : Int) := d_; obtain ⟨ad144, A144_7, c144_7, e144, hx144_0, hx144_1, hx144_2, hx144_3, hx144_4, hx144_5, hx144_6, hx144_7, hx144_8, hl144_7, hi144_7⟩ := at_T39 HR0.out x5_2 p144 q144; cases e144; replace hx144_0 := ce_ HB.out hx144_0; replace hx144_1 := ce_ HB.out hx144_1; replace hx144_2 := ce_ HB.out hx144_2; replace hx144_3 := ce_ HB.out hx144_3; replace hx144_4 := ce_ HB.out hx144_4; replace hx144_5 := ce_ HB.out hx144_5; replace hx144_6 := ce_ HB.out hx144_6; replace hx144_7 := ce_ HB.out hx144_7; replace hx144_8 := ce_ HB.out hx144_8; have HR144_7 := Aside0.mk hi144_7; have HC144_7 := Aside0.mk hl144_7; clear hi144_7 hl144_7; replace p144 := eq_true p144; replace q144 := eq_true q144; have p145 : 0 ≤ (x5_2 : Int) := d_; have q145 : x5_2 < (l0.length : Int) := d_; obtain ⟨ad145, A145_7, c145_7, e145, hx145_0, hx145_1, hx145_2, hx145_3, hx145_4, hx145_5, hx145_6, hx145_7, hx145_8, hl145_7, hi145_7⟩ := at_T39 HR0.out x5_2 p145 q145; obtain rfl : ad144 = ad145 := (by injection e145); replace hx145_0 := ce_ HB.out hx145_0; replace hx145_1 := ce_ HB.out hx145_1; replace hx145_2 := ce_ HB.out hx145_2; replace hx145_3 := ce_ HB.out hx145_3; replace hx145_4 := ce_ HB.out hx145_4; replace hx145_5 := ce_ HB.out hx145_5; replace hx145_6 := ce_ HB.out hx145_6
                      replace hx145_7 := ce_ HB.out hx145_7; replace hx145_8 := ce_ HB.out hx145_8; have HR145_7 := Aside0.mk hi145_7; have HC145_7 := Aside0.mk hl145_7; clear hi145_7 hl145_7; replace p145 := eq_true p145; replace q145 := eq_true q145; have ea_ := Option.some.inj (hx144_7.symm.trans hx145_7); injection ea_ with ea_ en_ ec_
                      subst ea_; subst ec_; clear en_; have p146 : 0 ≤ (x8_3 : Int) := d_; have q146 : x8_3 < (((rd_T39 l0 x5_2).f7).length : Int) := d_; obtain ⟨ad146, e146, hx146_0⟩ := Kd.at_int HR145_7.out x8_3 p146 q146; cases e146; replace hx146_0 := ce_ HB.out hx146_0; replace p146 := eq_true p146; replace q146 := eq_true q146; go_wp2_with (first | ((with_reducible refine gate_callee (f := 22) rfl ?_); refine gl_ (some 50) Try.func22 #[.slice (some ad144) l0.length c0, .int .i64 (rd ((rd_T39 l0 x5_2).f7) x8_3)] ?_; (with_reducible refine (spec_l03At.calls k3 _ _ l0 (rd ((rd_T39 l0 x5_2).f7) x8_3) t147 _ ?side1 HC0.out A17.out).mono ?_); (case side1 => exact (cb_ HR0.out HB.out)); rintro e w' ⟨rfl, ⟨nd, rfl⟩⟩; refine ⟨_, rfl, ?_⟩; have p148 : 0 ≤ (t147 : Int) := d_; have q148 : t147 < (x3_2.length : Int) := d_; obtain ⟨ad148, e148, hx148_0⟩ := Kd.at_int (Kd.R_reads' HO_3.out).2.2 t147 p148 q148; obtain rfl : ad143 = ad148 := (by injection e148); replace p148 := eq_true p148; replace q148 := eq_true q148))
                      go_roundg k3
                      case measure => have := HK1.out; have := HK2.out; have := HK3.out; omega
                      case rel => exact ⟨(rd x3_2 t147), (decide ((rd x3_2 t147) > 0)), (wrap64 (x8_3 + 1)), (by first | rfl | (simp; done) | (simp [*]; done)), (by first | rfl | (simp; done) | (simp [*]; done)), (by first | rfl | (simp; done) | (simp [*]; done)), H', ⟨by have := HK1.out; have := HK2.out; have := HK3.out; omega⟩, ⟨(a6_ HO_3.out)⟩, ⟨(a1_ HB.out)⟩⟩
                     ·
                      rw [if_neg c21] at H; have c21b0 : decide (x6_3 < (rd x3_2 t147)) = false := decide_eq_false c21; clear c21; have H' := Aside0.mk H; clear H; have p144 : 0 ≤ (x5_2 : Int) := d_; have q144 : x5_2 < (l0.length : Int) := d_; obtain ⟨ad144, A144_7, c144_7, e144, hx144_0, hx144_1, hx144_2, hx144_3, hx144_4, hx144_5, hx144_6, hx144_7, hx144_8, hl144_7, hi144_7⟩ := at_T39 HR0.out x5_2 p144 q144; cases e144; replace hx144_0 := ce_ HB.out hx144_0; replace hx144_1 := ce_ HB.out hx144_1; replace hx144_2 := ce_ HB.out hx144_2; replace hx144_3 := ce_ HB.out hx144_3; replace hx144_4 := ce_ HB.out hx144_4; replace hx144_5 := ce_ HB.out hx144_5; replace hx144_6 := ce_ HB.out hx144_6; replace hx144_7 := ce_ HB.out hx144_7; replace hx144_8 := ce_ HB.out hx144_8; have HR144_7 := Aside0.mk hi144_7; have HC144_7 := Aside0.mk hl144_7; clear hi144_7 hl144_7; replace p144 := eq_true p144; replace q144 := eq_true q144; have p145 : 0 ≤ (x5_2 : Int) := d_; have q145 : x5_2 < (l0.length : Int) := d_; obtain ⟨ad145, A145_7, c145_7, e145, hx145_0, hx145_1, hx145_2, hx145_3, hx145_4, hx145_5, hx145_6, hx145_7, hx145_8, hl145_7, hi145_7⟩ := at_T39 HR0.out x5_2 p145 q145; obtain rfl : ad144 = ad145 := (by injection e145); replace hx145_0 := ce_ HB.out hx145_0; replace hx145_1 := ce_ HB.out hx145_1; replace hx145_2 := ce_ HB.out hx145_2; replace hx145_3 := ce_ HB.out hx145_3; replace hx145_4 := ce_ HB.out hx145_4; replace hx145_5 := ce_ HB.out hx145_5; replace hx145_6 := ce_ HB.out hx145_6
                      replace hx145_7 := ce_ HB.out hx145_7; replace hx145_8 := ce_ HB.out hx145_8; have HR145_7 := Aside0.mk hi145_7; have HC145_7 := Aside0.mk hl145_7; clear hi145_7 hl145_7; replace p145 := eq_true p145; replace q145 := eq_true q145; have ea_ := Option.some.inj (hx144_7.symm.trans hx145_7); injection ea_ with ea_ en_ ec_
                      subst ea_; subst ec_; clear en_; have p146 : 0 ≤ (x8_3 : Int) := d_; have q146 : x8_3 < (((rd_T39 l0 x5_2).f7).length : Int) := d_; obtain ⟨ad146, e146, hx146_0⟩ := Kd.at_int HR145_7.out x8_3 p146 q146; cases e146; replace hx146_0 := ce_ HB.out hx146_0; replace p146 := eq_true p146; replace q146 := eq_true q146; go_wp2_with (first | ((with_reducible refine gate_callee (f := 22) rfl ?_); refine gl_ (some 50) Try.func22 #[.slice (some ad144) l0.length c0, .int .i64 (rd ((rd_T39 l0 x5_2).f7) x8_3)] ?_; (with_reducible refine (spec_l03At.calls k3 _ _ l0 (rd ((rd_T39 l0 x5_2).f7) x8_3) t147 _ ?side1 HC0.out A17.out).mono ?_); (case side1 => exact (cb_ HR0.out HB.out)); rintro e w' ⟨rfl, ⟨nd, rfl⟩⟩; refine ⟨_, rfl, ?_⟩; have p148 : 0 ≤ (t147 : Int) := d_; have q148 : t147 < (x3_2.length : Int) := d_; obtain ⟨ad148, e148, hx148_0⟩ := Kd.at_int (Kd.R_reads' HO_3.out).2.2 t147 p148 q148; obtain rfl : ad143 = ad148 := (by injection e148); replace p148 := eq_true p148; replace q148 := eq_true q148))
                      go_roundg k3
                      case measure => have := HK1.out; have := HK2.out; have := HK3.out; omega
                      case rel => exact ⟨(x6_3), (decide ((rd x3_2 t147) > 0)), (wrap64 (x8_3 + 1)), (by first | rfl | (simp; done) | (simp [*]; done)), (by first | rfl | (simp; done) | (simp [*]; done)), (by first | rfl | (simp; done) | (simp [*]; done)), H', ⟨by have := HK1.out; have := HK2.out; have := HK3.out; omega⟩, ⟨(a6_ HO_3.out)⟩, ⟨(a1_ HB.out)⟩⟩
                    ·
                     replace c20 := Bool.eq_false_iff.mpr c20; subst c20; rw [if_neg (show ¬ (false = true) by decide)] at H; by_cases c22 : (rd x3_2 t147) > x6_3
                     ·
                      rw [if_pos c22] at H; have c22b0 : decide (x6_3 < (rd x3_2 t147)) = true := decide_eq_true c22; clear c22; have H' := Aside0.mk H; clear H; have p144 : 0 ≤ (x5_2 : Int) := d_; have q144 : x5_2 < (l0.length : Int) := d_; obtain ⟨ad144, A144_7, c144_7, e144, hx144_0, hx144_1, hx144_2, hx144_3, hx144_4, hx144_5, hx144_6, hx144_7, hx144_8, hl144_7, hi144_7⟩ := at_T39 HR0.out x5_2 p144 q144; cases e144; replace hx144_0 := ce_ HB.out hx144_0; replace hx144_1 := ce_ HB.out hx144_1; replace hx144_2 := ce_ HB.out hx144_2; replace hx144_3 := ce_ HB.out hx144_3; replace hx144_4 := ce_ HB.out hx144_4; replace hx144_5 := ce_ HB.out hx144_5; replace hx144_6 := ce_ HB.out hx144_6; replace hx144_7 := ce_ HB.out hx144_7; replace hx144_8 := ce_ HB.out hx144_8; have HR144_7 := Aside0.mk hi144_7; have HC144_7 := Aside0.mk hl144_7; clear hi144_7 hl144_7; replace p144 := eq_true p144; replace q144 := eq_true q144; have p145 : 0 ≤ (x5_2 : Int) := d_; have q145 : x5_2 < (l0.length : Int) := d_; obtain ⟨ad145, A145_7, c145_7, e145, hx145_0, hx145_1, hx145_2, hx145_3, hx145_4, hx145_5, hx145_6, hx145_7, hx145_8, hl145_7, hi145_7⟩ := at_T39 HR0.out x5_2 p145 q145; obtain rfl : ad144 = ad145 := (by injection e145); replace hx145_0 := ce_ HB.out hx145_0; replace hx145_1 := ce_ HB.out hx145_1; replace hx145_2 := ce_ HB.out hx145_2; replace hx145_3 := ce_ HB.out hx145_3; replace hx145_4 := ce_ HB.out hx145_4; replace hx145_5 := ce_ HB.out hx145_5; replace hx145_6 := ce_ HB.out hx145_6
                      replace hx145_7 := ce_ HB.out hx145_7; replace hx145_8 := ce_ HB.out hx145_8; have HR145_7 := Aside0.mk hi145_7; have HC145_7 := Aside0.mk hl145_7; clear hi145_7 hl145_7; replace p145 := eq_true p145; replace q145 := eq_true q145; have ea_ := Option.some.inj (hx144_7.symm.trans hx145_7); injection ea_ with ea_ en_ ec_
                      subst ea_; subst ec_; clear en_; have p146 : 0 ≤ (x8_3 : Int) := d_; have q146 : x8_3 < (((rd_T39 l0 x5_2).f7).length : Int) := d_; obtain ⟨ad146, e146, hx146_0⟩ := Kd.at_int HR145_7.out x8_3 p146 q146; cases e146; replace hx146_0 := ce_ HB.out hx146_0; replace p146 := eq_true p146; replace q146 := eq_true q146; go_wp2_with (first | ((with_reducible refine gate_callee (f := 22) rfl ?_); refine gl_ (some 50) Try.func22 #[.slice (some ad144) l0.length c0, .int .i64 (rd ((rd_T39 l0 x5_2).f7) x8_3)] ?_; (with_reducible refine (spec_l03At.calls k3 _ _ l0 (rd ((rd_T39 l0 x5_2).f7) x8_3) t147 _ ?side1 HC0.out A17.out).mono ?_); (case side1 => exact (cb_ HR0.out HB.out)); rintro e w' ⟨rfl, ⟨nd, rfl⟩⟩; refine ⟨_, rfl, ?_⟩; have p148 : 0 ≤ (t147 : Int) := d_; have q148 : t147 < (x3_2.length : Int) := d_; obtain ⟨ad148, e148, hx148_0⟩ := Kd.at_int (Kd.R_reads' HO_3.out).2.2 t147 p148 q148; obtain rfl : ad143 = ad148 := (by injection e148); replace p148 := eq_true p148; replace q148 := eq_true q148))
                      go_roundg k3
                      case measure => have := HK1.out; have := HK2.out; have := HK3.out; omega
                      case rel => exact ⟨(rd x3_2 t147), (false), (wrap64 (x8_3 + 1)), (by first | rfl | (simp; done) | (simp [*]; done)), (by first | rfl | (simp; done) | (simp [*]; done)), (by first | rfl | (simp; done) | (simp [*]; done)), H', ⟨by have := HK1.out; have := HK2.out; have := HK3.out; omega⟩, ⟨(a6_ HO_3.out)⟩, ⟨(a1_ HB.out)⟩⟩
                     ·
                      rw [if_neg c22] at H; have c22b0 : decide (x6_3 < (rd x3_2 t147)) = false := decide_eq_false c22; clear c22; have H' := Aside0.mk H; clear H; have p144 : 0 ≤ (x5_2 : Int) := d_; have q144 : x5_2 < (l0.length : Int) := d_; obtain ⟨ad144, A144_7, c144_7, e144, hx144_0, hx144_1, hx144_2, hx144_3, hx144_4, hx144_5, hx144_6, hx144_7, hx144_8, hl144_7, hi144_7⟩ := at_T39 HR0.out x5_2 p144 q144; cases e144; replace hx144_0 := ce_ HB.out hx144_0; replace hx144_1 := ce_ HB.out hx144_1; replace hx144_2 := ce_ HB.out hx144_2; replace hx144_3 := ce_ HB.out hx144_3; replace hx144_4 := ce_ HB.out hx144_4; replace hx144_5 := ce_ HB.out hx144_5; replace hx144_6 := ce_ HB.out hx144_6; replace hx144_7 := ce_ HB.out hx144_7; replace hx144_8 := ce_ HB.out hx144_8; have HR144_7 := Aside0.mk hi144_7; have HC144_7 := Aside0.mk hl144_7; clear hi144_7 hl144_7; replace p144 := eq_true p144; replace q144 := eq_true q144; have p145 : 0 ≤ (x5_2 : Int) := d_; have q145 : x5_2 < (l0.length : Int) := d_; obtain ⟨ad145, A145_7, c145_7, e145, hx145_0, hx145_1, hx145_2, hx145_3, hx145_4, hx145_5, hx145_6, hx145_7, hx145_8, hl145_7, hi145_7⟩ := at_T39 HR0.out x5_2 p145 q145; obtain rfl : ad144 = ad145 := (by injection e145); replace hx145_0 := ce_ HB.out hx145_0; replace hx145_1 := ce_ HB.out hx145_1; replace hx145_2 := ce_ HB.out hx145_2; replace hx145_3 := ce_ HB.out hx145_3; replace hx145_4 := ce_ HB.out hx145_4; replace hx145_5 := ce_ HB.out hx145_5; replace hx145_6 := ce_ HB.out hx145_6
                      replace hx145_7 := ce_ HB.out hx145_7; replace hx145_8 := ce_ HB.out hx145_8; have HR145_7 := Aside0.mk hi145_7; have HC145_7 := Aside0.mk hl145_7; clear hi145_7 hl145_7; replace p145 := eq_true p145; replace q145 := eq_true q145; have ea_ := Option.some.inj (hx144_7.symm.trans hx145_7); injection ea_ with ea_ en_ ec_
                      subst ea_; subst ec_; clear en_; have p146 : 0 ≤ (x8_3 : Int) := d_; have q146 : x8_3 < (((rd_T39 l0 x5_2).f7).length : Int) := d_; obtain ⟨ad146, e146, hx146_0⟩ := Kd.at_int HR145_7.out x8_3 p146 q146; cases e146; replace hx146_0 := ce_ HB.out hx146_0; replace p146 := eq_true p146; replace q146 := eq_true q146; go_wp2_with (first | ((with_reducible refine gate_callee (f := 22) rfl ?_); refine gl_ (some 50) Try.func22 #[.slice (some ad144) l0.length c0, .int .i64 (rd ((rd_T39 l0 x5_2).f7) x8_3)] ?_; (with_reducible refine (spec_l03At.calls k3 _ _ l0 (rd ((rd_T39 l0 x5_2).f7) x8_3) t147 _ ?side1 HC0.out A17.out).mono ?_); (case side1 => exact (cb_ HR0.out HB.out)); rintro e w' ⟨rfl, ⟨nd, rfl⟩⟩; refine ⟨_, rfl, ?_⟩; have p148 : 0 ≤ (t147 : Int) := d_; have q148 : t147 < (x3_2.length : Int) := d_; obtain ⟨ad148, e148, hx148_0⟩ := Kd.at_int (Kd.R_reads' HO_3.out).2.2 t147 p148 q148; obtain rfl : ad143 = ad148 := (by injection e148); replace p148 := eq_true p148; replace q148 := eq_true q148))
                      go_roundg k3
                      case measure => have := HK1.out; have := HK2.out; have := HK3.out; omega
                      case rel => exact ⟨(x6_3), (false), (wrap64 (x8_3 + 1)), (by first | rfl | (simp; done) | (simp [*]; done)), (by first | rfl | (simp; done) | (simp [*]; done)), (by first | rfl | (simp; done) | (simp [*]; done)), H', ⟨by have := HK1.out; have := HK2.out; have := HK3.out; omega⟩, ⟨(a6_ HO_3.out)⟩, ⟨(a1_ HB.out)⟩⟩
                   ·
                    rw [if_neg c19] at H; exact absurd H (by simp)
                  ·
                   rw [if_neg c18] at H; exact absurd H (by simp)
                 ·
                  rw [if_neg c16] at H; exact absurd H (by simp)
                ·
                 rw [if_neg c15] at H; have c15b0 : decide (x8_3 < (((rd_T39 l0 x5_2).f7).length : Int)) = false := decide_eq_false c15; clear c15; by_cases c23 : x7_3 = true
                 ·
                  subst c23; rw [if_pos rfl] at H; by_cases c24 : x5_2 < (x3_2.length : Int)
                  ·
                   rw [if_pos c24] at H; have c24b0 : decide (x5_2 < (x3_2.length : Int)) = true := decide_eq_true c24; clear c24; obtain ⟨y149, hy149⟩ : ∃ y_ : List Int, y_ = (x3_2.set (x5_2 : Int).toNat (wrap64 (x6_3 + 1))) := ⟨_, rfl⟩; replace H : (spec_l03Depths.l1 k3 l0 y149 x4_1 (wrap64 (x5_2 + 1))) = some r := by first | (rw [hy149]; exact H) | exact H
                   have Ny149 := Aside0.mk hy149; clear hy149; have H' := Aside0.mk H; clear H; have p144 : 0 ≤ (x5_2 : Int) := d_; have q144 : x5_2 < (l0.length : Int) := d_; obtain ⟨ad144, A144_7, c144_7, e144, hx144_0, hx144_1, hx144_2, hx144_3, hx144_4, hx144_5, hx144_6, hx144_7, hx144_8, hl144_7, hi144_7⟩ := at_T39 HR0.out x5_2 p144 q144; cases e144; replace hx144_0 := ce_ HB.out hx144_0; replace hx144_1 := ce_ HB.out hx144_1; replace hx144_2 := ce_ HB.out hx144_2; replace hx144_3 := ce_ HB.out hx144_3; replace hx144_4 := ce_ HB.out hx144_4; replace hx144_5 := ce_ HB.out hx144_5; replace hx144_6 := ce_ HB.out hx144_6; replace hx144_7 := ce_ HB.out hx144_7; replace hx144_8 := ce_ HB.out hx144_8; have HR144_7 := Aside0.mk hi144_7; have HC144_7 := Aside0.mk hl144_7; clear hi144_7 hl144_7; replace p144 := eq_true p144; replace q144 := eq_true q144; have p25 : 0 ≤ (x5_2 : Int) := d_; have q25 : (x5_2 : Int) < ((x3_2.length : Int) : Int) := d_; obtain ⟨go25, co25, eo25, gb25, gl25, cl25, HG25⟩ := Kd.R_form HO_3.out (by omega); (first | cases eo25 | (injection eo25 with ea_ en_ ec_; (first | subst ea_ | (injection ea_ with ea_; subst ea_)); subst ec_; clear en_))
                   have GB25 := Aside0.mk gb25; have GG25 := Aside0.mk HG25; clear gb25 gl25 HG25; (first | simp only [add_plain] at hx143_0 | skip)
                   (first | simp only [add_plain] at hx148_0 | skip)
                   obtain ⟨hx25_0, hf25_0⟩ := Kd.R_celln 0 HO_3.out (x5_2 : Int) p25 q25; replace p25 := eq_true p25; replace q25 := eq_true q25; have HP26 := Kd.R_putg HO_3.out (x5_2 : Int) (wrap64 (x6_3 + 1)); go_wp2_with (first | ((with_reducible refine gate_store (t := 2) (p := 67) rfl ?_); refine store_event (t := 2) (p := 67) (v := ?vo_w27) (w1 := (wr.setCell ⟨go25, (x5_2 : Int).toNat, none⟩ (.int .i64 (wrap64 (x6_3 + 1))))) ?hg ?ho ?hn ?hr ?_; (case ho => rfl); (case hg => rfl); (case hn => rfl); (case hr => first | (go_simp; done) | (go_simp; rfl)); intro w27 hw; have hg : wr.grownBy w27 (some go25) := (by rw [hw]; exact HP26.2); have hp_ : Kd.R (Kd.int .i64) 2 w27 w.heap.size (fun _ => True) (.slice (some ⟨go25, 0, none⟩) x3_2.length co12) y149 := (by rw [hw, Ny149.out]; exact HP26.1); clear HP26; replace HO_3 := Aside0.mk (hp_); replace HB := Aside0.mk ((by rw [hw]; exact below_set (HB.out) GB25.out : Below w.heap.size w w27)); clear hg hw hp_))
                   go_roundg k3
                   case measure => have := HK1.out; have := HK2.out; have := HK3.out; omega
                   case rel => exact ⟨(y149), (wrap64 (x5_2 + 1)), (by first | rfl | (simp; done) | (simp [*]; done)), H', ⟨by have := HK1.out; have := HK2.out; have := HK3.out; omega⟩, ⟨(a6_ HO_3.out)⟩, ⟨(a1_ HB.out)⟩⟩
                  ·
                   rw [if_neg c24] at H; exact absurd H (by simp)
                 ·
                  replace c23 := Bool.eq_false_iff.mpr c23; subst c23; rw [if_neg (show ¬ (false = true) by decide)] at H; have H' := Aside0.mk H; clear H; have p144 : 0 ≤ (x5_2 : Int) := d_; have q144 : x5_2 < (l0.length : Int) := d_; obtain ⟨ad144, A144_7, c144_7, e144, hx144_0, hx144_1, hx144_2, hx144_3, hx144_4, hx144_5, hx144_6, hx144_7, hx144_8, hl144_7, hi144_7⟩ := at_T39 HR0.out x5_2 p144 q144; cases e144; replace hx144_0 := ce_ HB.out hx144_0; replace hx144_1 := ce_ HB.out hx144_1; replace hx144_2 := ce_ HB.out hx144_2; replace hx144_3 := ce_ HB.out hx144_3; replace hx144_4 := ce_ HB.out hx144_4; replace hx144_5 := ce_ HB.out hx144_5; replace hx144_6 := ce_ HB.out hx144_6; replace hx144_7 := ce_ HB.out hx144_7; replace hx144_8 := ce_ HB.out hx144_8; have HR144_7 := Aside0.mk hi144_7; have HC144_7 := Aside0.mk hl144_7; clear hi144_7 hl144_7; replace p144 := eq_true p144; replace q144 := eq_true q144; go_wp2
                  go_roundg k3
                  case measure => have := HK1.out; have := HK2.out; have := HK3.out; omega
                  case rel => exact ⟨(x3_2), (wrap64 (x5_2 + 1)), (by first | rfl | (simp; done) | (simp [*]; done)), H', ⟨by have := HK1.out; have := HK2.out; have := HK3.out; omega⟩, ⟨(a6_ HO_3.out)⟩, ⟨(a1_ HB.out)⟩⟩
               ·
                rw [if_neg c14] at H; exact absurd H (by simp)
              ·
               rw [if_neg c13] at H; exact absurd H (by simp)
          ·
           rw [if_neg c9] at H; exact absurd H (by simp)
         ·
          rw [if_neg c8] at H; exact absurd H (by simp)
        ·
         rw [if_neg c7] at H; have c7b0 : decide (x5_2 < (l0.length : Int)) = false := decide_eq_false c7; clear c7; have H' := Aside0.mk H; clear H; go_wp2
         go_roundg k2
         case measure => have := HK1.out; have := HK2.out; omega
         case rel => exact ⟨(x3_2), (wrap64 (x4_1 + 1)), (by first | rfl | (simp; done) | (simp [*]; done)), H', ⟨by have := HK1.out; have := HK2.out; omega⟩, ⟨(a6_ HO_3.out)⟩, ⟨(a1_ HB.out)⟩⟩
     ·
      rw [if_neg c6] at H; have c6b0 : decide (x4_1 < (l0.length : Int)) = false := decide_eq_false c6; clear c6; obtain rfl := Option.some.inj H; go_wp2
      go_ret
      exact ⟨_, a2_, (a6_ HO_3.out), (a1_ HB.out)⟩
  ·
   rw [if_neg c3] at H; exact absurd H (by simp)
 ·
  rw [if_neg c2] at H; exact absurd H (by simp)

end Go.Proofs.Ythpclkkkpponkaa.Print
