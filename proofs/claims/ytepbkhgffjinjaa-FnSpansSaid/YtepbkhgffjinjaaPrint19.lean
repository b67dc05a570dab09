-- Printed by wip/myprint.py over the kit's print, in this session's own call.
import Derived.Test.YtepbkhgffjinjaaPrint9
namespace Go.Proofs.Ytepbkhgffjinjaa.Print
open Go.RowKit Go.Proofs.YtepbkhgffjinjaaW.PrintWords Go.Proofs.YtepbkhgffjinjaaW.PrintLast Go.Proofs.YtepbkhgffjinjaaW.PrintMore
attribute [local go_sem] max2_int min2_int max_two min_two max_three min_three max_four min_four   -- for this text's walks alone
set_option maxHeartbeats 8000000
set_option maxRecDepth 100000
set_option linter.unusedVariables false
set_option linter.unusedSimpArgs false

/-! ### spec_SpansLess: function 20 -/
mutual
def spec_SpansLess.j0 : Nat → List (S60) → List (S60) → List (S60) → Bool → Option ((List (S60)))
  | 0, _, _, _, _ => none
  | k + 1, x0, x1, x5, x17 => if x17 = true then (some x5) else (spec_SpansLess.l0 k x0 x1 x5 0)
def spec_SpansLess.l0 : Nat → List (S60) → List (S60) → List (S60) → Int → Option ((List (S60)))
  | 0, _, _, _, _ => none
  | k + 1, x0, x1, x5, x6 => if x6 < (x0.length : Int) then (if 0 ≤ x6 then (spec_SpansLess.l1 k x0 x1 x5 x6 ((rd_T60 x0 x6).f0) 0) else (none)) else (if (x5.length : Int) > 400 then (some (([] : List (S60)))) else (some x5))
def spec_SpansLess.l1 : Nat → List (S60) → List (S60) → List (S60) → Int → Int → Int → Option ((List (S60)))
  | 0, _, _, _, _, _, _ => none
  | k + 1, x0, x1, x5, x6, x7, x8 => if x8 < (x1.length : Int) then (if 0 ≤ x8 then (if ((rd_T60 x1 x8).f1) < x7 then (spec_SpansLess.j3 k x0 x1 x5 x6 x7 x8 true) else (if 0 ≤ x6 then (if x6 < (x0.length : Int) then (spec_SpansLess.j3 k x0 x1 x5 x6 x7 x8 (decide (((rd_T60 x1 x8).f0) > ((rd_T60 x0 x6).f1)))) else (none)) else (none))) else (none)) else (if 0 ≤ x6 then (if x6 < (x0.length : Int) then (if x7 ≤ ((rd_T60 x0 x6).f1) then (if x5.length < 8796093022208 then (spec_SpansLess.l0 k x0 x1 (x5 ++ [(⟨x7, (rd_T60 x0 x6).f1⟩ : S60)]) (wrap64 (x6 + 1))) else (none)) else (spec_SpansLess.l0 k x0 x1 x5 (wrap64 (x6 + 1)))) else (none)) else (none))
def spec_SpansLess.j3 : Nat → List (S60) → List (S60) → List (S60) → Int → Int → Int → Bool → Option ((List (S60)))
  | 0, _, _, _, _, _, _, _ => none
  | k + 1, x0, x1, x5, x6, x7, x8, x55 => if x55 = true then (spec_SpansLess.l1 k x0 x1 x5 x6 x7 (wrap64 (x8 + 1))) else (if 0 ≤ x8 then (if x8 < (x1.length : Int) then (if ((rd_T60 x1 x8).f0) > x7 then (if x5.length < 8796093022208 then (spec_SpansLess.l1 k x0 x1 (x5 ++ [(⟨x7, wrap64 (((rd_T60 x1 x8).f0) - 1)⟩ : S60)]) x6 (wrap64 (((rd_T60 x1 x8).f1) + 1)) (wrap64 (x8 + 1))) else (none)) else (spec_SpansLess.l1 k x0 x1 x5 x6 (wrap64 (((rd_T60 x1 x8).f1) + 1)) (wrap64 (x8 + 1)))) else (none)) else (none))
end
def spec_SpansLess.f (k : Nat) (l0 : List (S60)) (l1 : List (S60)) : Option ((List (S60))) := (some (([] : List (S60)) : List (S60))).bind fun y577 => ((spec_SpansRight.f k l0).bind fun t580 => (if t580 = true then ((spec_SpansRight.f k l1).bind fun t581 => (spec_SpansLess.j0 k l0 l1 y577 (!t581))) else (spec_SpansLess.j0 k l0 l1 y577 true)))
theorem spec_SpansLess.mono_l : ∀ k, (∀ y0 y1 y2 y3, LeO (spec_SpansLess.j0 k y0 y1 y2 y3) (spec_SpansLess.j0 (k + 1) y0 y1 y2 y3)) ∧ (∀ y0 y1 y2 y3, LeO (spec_SpansLess.l0 k y0 y1 y2 y3) (spec_SpansLess.l0 (k + 1) y0 y1 y2 y3)) ∧ (∀ y0 y1 y2 y3 y4 y5, LeO (spec_SpansLess.l1 k y0 y1 y2 y3 y4 y5) (spec_SpansLess.l1 (k + 1) y0 y1 y2 y3 y4 y5)) ∧ (∀ y0 y1 y2 y3 y4 y5 y6, LeO (spec_SpansLess.j3 k y0 y1 y2 y3 y4 y5 y6) (spec_SpansLess.j3 (k + 1) y0 y1 y2 y3 y4 y5 y6))
  | 0 => ⟨fun _ _ _ _ r h => by simp [spec_SpansLess.j0] at h, fun _ _ _ _ r h => by simp [spec_SpansLess.l0] at h, fun _ _ _ _ _ _ r h => by simp [spec_SpansLess.l1] at h, fun _ _ _ _ _ _ _ r h => by simp [spec_SpansLess.j3] at h⟩
  | k + 1 => by
    obtain ⟨ih0, ih1, ih2, ih3⟩ := spec_SpansLess.mono_l k
    refine ⟨?_, ?_, ?_, ?_⟩
    (intro y0 y1 y2 y3; unfold spec_SpansLess.j0); rotate_left
    (intro y0 y1 y2 y3; unfold spec_SpansLess.l0); rotate_left
    (intro y0 y1 y2 y3 y4 y5; unfold spec_SpansLess.l1); rotate_left
    (intro y0 y1 y2 y3 y4 y5 y6; unfold spec_SpansLess.j3); rotate_left
    all_goals (repeat' first | (with_reducible exact ih0 _ _ _ _) | (with_reducible exact ih1 _ _ _ _) | (with_reducible exact ih2 _ _ _ _ _ _) | (with_reducible exact ih3 _ _ _ _ _ _ _) | (with_reducible exact spec_SpansRight.mono _ _) | (with_reducible exact LeO.refl _) | (with_reducible exact LeO.none _) | (with_reducible refine LeO.ite ?_ ?_) | (with_reducible refine LeO.bind ?_ (fun _ => ?_)) | exact ih0 _ _ _ _ | exact ih1 _ _ _ _ | exact ih2 _ _ _ _ _ _ | exact ih3 _ _ _ _ _ _ _ | exact spec_SpansRight.mono _ _ | exact LeO.none _ | refine LeO.ite ?_ ?_ | refine LeO.bind ?_ (fun _ => ?_))
theorem spec_SpansLess.mono : ∀ a0 a1 k, LeO (spec_SpansLess.f k a0 a1) (spec_SpansLess.f (k + 1) a0 a1) := by
  intro a0 a1 k
  obtain ⟨ih0, ih1, ih2, ih3⟩ := spec_SpansLess.mono_l k
  unfold spec_SpansLess.f
  repeat' first | (with_reducible exact ih0 _ _ _ _) | (with_reducible exact ih1 _ _ _ _) | (with_reducible exact ih2 _ _ _ _ _ _) | (with_reducible exact ih3 _ _ _ _ _ _ _) | (with_reducible exact spec_SpansRight.mono _ _) | (with_reducible exact LeO.refl _) | (with_reducible exact LeO.none _) | (with_reducible refine LeO.ite ?_ ?_) | (with_reducible refine LeO.bind ?_ (fun _ => ?_)) | exact ih0 _ _ _ _ | exact ih1 _ _ _ _ | exact ih2 _ _ _ _ _ _ | exact ih3 _ _ _ _ _ _ _ | exact spec_SpansRight.mono _ _ | exact LeO.none _ | refine LeO.ite ?_ ?_ | refine LeO.bind ?_ (fun _ => ?_)
theorem spec_SpansLess.calls (k : Nat) (A0 : Option Addr) (c0 : Nat) (l0 : List (S60)) (A1 : Option Addr) (c1 : Nat) (l1 : List (S60)) (r : List (S60)) (w : World) (hr0 : Kd.C k60 w A0 l0.length l0) (hc0 : l0.length ≤ c0) (hr1 : Kd.C k60 w A1 l1.length l1) (hc1 : l1.length ≤ c1) (h : spec_SpansLess.f k l0 l1 = some r) :
    Calls Try.prog 20 #[.slice A0 l0.length c0, .slice A1 l1.length c1] w fun e w' => ∃ v0_ : Value, e = .returned (v0_) ∧ Kd.R k60 60 w' w.heap.size (fun _ => True) v0_ r ∧ Below w.heap.size w w' := by
 have hu60 := Try.underlying60; have HR0 := Aside0.mk hr0; have HC0 := Aside0.mk hc0; clear hr0 hc0; have HR1 := Aside0.mk hr1; have HC1 := Aside0.mk hc1; clear hr1 hc1; have HB := Aside0.mk (Below.refl w.heap.size w); have H : ((some (([] : List (S60)) : List (S60))).bind fun y577 => ((spec_SpansRight.f k l0).bind fun t580 => (if t580 = true then ((spec_SpansRight.f k l1).bind fun t581 => (spec_SpansLess.j0 k l0 l1 y577 (!t581))) else (spec_SpansLess.j0 k l0 l1 y577 true)))) = some r := h; clear h; obtain ⟨y577, hy577⟩ : ∃ y_ : List (S60), y_ = (([] : List (S60))) := ⟨_, rfl⟩; replace H := bs_ hy577 H
 have Ny577 := Aside0.mk hy577; clear hy577; have HC3 := Aside0.mk H; clear H; go_enter Try.func20, Try.ntmps20; go_upto_region 2 with (first | ((with_reducible refine gate_dst (N := 9) rfl ?_); refine Kd.R_lit k60 _ 60 ?hg (N := 9) ?hd (xs := ([] : List (S60))) (inner := []) (ok := fun _ => True) (okp := fun _ => True) ?hr ?hp (fun _ hk => hk) trivial (Below.refl _ _) (Nat.le_refl _) (by simp) ?_; (case hd => rfl); (case hg => rfl); (case hr => first | (go_simp; done) | (go_simp; rfl)); (case hp => exact (Reps.none _ _)); intro v578 w4 ho5 hb hg_ hnew_; clear hg_ hnew_; (first | rw [← Ny577.out] at ho5 | (simp only [Int.reduceToNat] at ho5; rw [← Ny577.out] at ho5)); have HO579 := Aside0.mk (Kd.R_lower ho5 (below_size HB.out)); replace HB := Aside0.mk (below_step HB.out hb); clear hb ho5))
 repeat (go_quiet (first | ((with_reducible refine gate_dst (N := 9) rfl ?_); refine Kd.R_lit k60 _ 60 ?hg (N := 9) ?hd (xs := ([] : List (S60))) (inner := []) (ok := fun _ => True) (okp := fun _ => True) ?hr ?hp (fun _ hk => hk) trivial (Below.refl _ _) (Nat.le_refl _) (by simp) ?_; (case hd => rfl); (case hg => rfl); (case hr => first | (go_simp; done) | (go_simp; rfl)); (case hp => exact (Reps.none _ _)); intro v578 w4 ho5 hb hg_ hnew_; clear hg_ hnew_; (first | rw [← Ny577.out] at ho5 | (simp only [Int.reduceToNat] at ho5; rw [← Ny577.out] at ho5)); have HO579 := Aside0.mk (Kd.R_lower ho5 (below_size HB.out)); replace HB := Aside0.mk (below_step HB.out hb); clear hb ho5)); go_upto_region 2 with (first | ((with_reducible refine gate_dst (N := 9) rfl ?_); refine Kd.R_lit k60 _ 60 ?hg (N := 9) ?hd (xs := ([] : List (S60))) (inner := []) (ok := fun _ => True) (okp := fun _ => True) ?hr ?hp (fun _ hk => hk) trivial (Below.refl _ _) (Nat.le_refl _) (by simp) ?_; (case hd => rfl); (case hg => rfl); (case hr => first | (go_simp; done) | (go_simp; rfl)); (case hp => exact (Reps.none _ _)); intro v578 w4 ho5 hb hg_ hnew_; clear hg_ hnew_; (first | rw [← Ny577.out] at ho5 | (simp only [Int.reduceToNat] at ho5; rw [← Ny577.out] at ho5)); have HO579 := Aside0.mk (Kd.R_lower ho5 (below_size HB.out)); replace HB := Aside0.mk (below_step HB.out hb); clear hb ho5)))
 (try simp only [Act.put, lS, l0_, l1_])
 go_cut [17] (fun v17 wc => ∃ (kq : Nat) (x17_2 : Bool), v17 = .bool x17_2 ∧ Aside0 (spec_SpansLess.j0 kq l0 l1 y577 x17_2 = some r) ∧ Aside0 (kq ≤ k) ∧ Aside0 (Kd.R k60 60 wc w.heap.size (fun _ => True) v578 y577) ∧ Aside0 (Below w.heap.size w wc))
 case first =>
  have H := HC3.out; clear HC3; replace H := Option.bind_eq_some_iff.mp H; obtain ⟨t580, A60, H⟩ := H; have A6 := Aside0.mk A60; clear A60; by_cases c7 : t580 = true
  ·
   subst c7; rw [if_pos rfl] at H; replace H := Option.bind_eq_some_iff.mp H; obtain ⟨t581, A80, H⟩ := H; have A8 := Aside0.mk A80; clear A80; have H' := Aside0.mk H; clear H; go_wp2_with (first | (go_at_call 25; (with_reducible refine (spec_SpansRight.calls k _ _ l0 true _ ?side1 HC0.out A6.out).mono ?_); (case side1 => exact (cb_ HR0.out HB.out)); rintro e w9 ⟨rfl, hb⟩; replace HO579 := Aside0.mk (Kd.R_below HO579.out hb); replace HB := Aside0.mk (below_step HB.out hb); (try clear hb); (try clear hb2); (try clear hk); (try clear hi)) | (go_at_call 25; (with_reducible refine (spec_SpansRight.calls k _ _ l1 t581 _ ?side1 HC1.out A8.out).mono ?_); (case side1 => exact (cb_ HR1.out HB.out)); rintro e w10 ⟨rfl, hb⟩; replace HO579 := Aside0.mk (Kd.R_below HO579.out hb); replace HB := Aside0.mk (below_step HB.out hb); (try clear hb); (try clear hb2); (try clear hk); (try clear hi)))
   repeat (go_quiet (first | (go_at_call 25; (with_reducible refine (spec_SpansRight.calls k _ _ l0 true _ ?side1 HC0.out A6.out).mono ?_); (case side1 => exact (cb_ HR0.out HB.out)); rintro e w9 ⟨rfl, hb⟩; replace HO579 := Aside0.mk (Kd.R_below HO579.out hb); replace HB := Aside0.mk (below_step HB.out hb); (try clear hb); (try clear hb2); (try clear hk); (try clear hi)) | (go_at_call 25; (with_reducible refine (spec_SpansRight.calls k _ _ l1 t581 _ ?side1 HC1.out A8.out).mono ?_); (case side1 => exact (cb_ HR1.out HB.out)); rintro e w10 ⟨rfl, hb⟩; replace HO579 := Aside0.mk (Kd.R_below HO579.out hb); replace HB := Aside0.mk (below_step HB.out hb); (try clear hb); (try clear hb2); (try clear hk); (try clear hi))); try go_wp2_with (first | (go_at_call 25; (with_reducible refine (spec_SpansRight.calls k _ _ l0 true _ ?side1 HC0.out A6.out).mono ?_); (case side1 => exact (cb_ HR0.out HB.out)); rintro e w9 ⟨rfl, hb⟩; replace HO579 := Aside0.mk (Kd.R_below HO579.out hb); replace HB := Aside0.mk (below_step HB.out hb); (try clear hb); (try clear hb2); (try clear hk); (try clear hi)) | (go_at_call 25; (with_reducible refine (spec_SpansRight.calls k _ _ l1 t581 _ ?side1 HC1.out A8.out).mono ?_); (case side1 => exact (cb_ HR1.out HB.out)); rintro e w10 ⟨rfl, hb⟩; replace HO579 := Aside0.mk (Kd.R_below HO579.out hb); replace HB := Aside0.mk (below_step HB.out hb); (try clear hb); (try clear hb2); (try clear hk); (try clear hi))))
   go_meet
   case rel => exact ⟨_, (!t581), (by first | rfl | (simp; done) | (simp [*]; done)), H', ⟨by first | omega | exact Nat.le_refl _⟩, ⟨(a2_ HO579.out)⟩, ⟨(a1_ HB.out)⟩⟩
  ·
   replace c7 := Bool.eq_false_iff.mpr c7; subst c7; rw [if_neg (show ¬ (false = true) by decide)] at H; have H' := Aside0.mk H; clear H; go_wp2_with (first | (go_at_call 25; (with_reducible refine (spec_SpansRight.calls k _ _ l0 false _ ?side1 HC0.out A6.out).mono ?_); (case side1 => exact (cb_ HR0.out HB.out)); rintro e w11 ⟨rfl, hb⟩; replace HO579 := Aside0.mk (Kd.R_below HO579.out hb); replace HB := Aside0.mk (below_step HB.out hb); (try clear hb); (try clear hb2); (try clear hk); (try clear hi)))
   repeat (go_quiet (first | (go_at_call 25; (with_reducible refine (spec_SpansRight.calls k _ _ l0 false _ ?side1 HC0.out A6.out).mono ?_); (case side1 => exact (cb_ HR0.out HB.out)); rintro e w11 ⟨rfl, hb⟩; replace HO579 := Aside0.mk (Kd.R_below HO579.out hb); replace HB := Aside0.mk (below_step HB.out hb); (try clear hb); (try clear hb2); (try clear hk); (try clear hi))); try go_wp2_with (first | (go_at_call 25; (with_reducible refine (spec_SpansRight.calls k _ _ l0 false _ ?side1 HC0.out A6.out).mono ?_); (case side1 => exact (cb_ HR0.out HB.out)); rintro e w11 ⟨rfl, hb⟩; replace HO579 := Aside0.mk (Kd.R_below HO579.out hb); replace HB := Aside0.mk (below_step HB.out hb); (try clear hb); (try clear hb2); (try clear hk); (try clear hi))))
   go_meet
   case rel => exact ⟨_, (true), (by first | rfl | (simp; done) | (simp [*]; done)), H', ⟨by first | omega | exact Nat.le_refl _⟩, ⟨(a2_ HO579.out)⟩, ⟨(a1_ HB.out)⟩⟩
 case rest =>
  clear HC3; (try clear c1); (try clear c2); (try clear p2); (try clear c7); obtain ⟨kq, x17_2, rfl, HA, HJ2, HO_5, HB⟩ := hcut
  cases kq with
  | zero => exact absurd HA.out (by simp [spec_SpansLess.j0])
  | succ kj2 =>
   have H := HA.out; clear HA; simp only [spec_SpansLess.j0] at H; by_cases c12 : x17_2 = true
   ·
    subst c12; rw [if_pos rfl] at H; obtain rfl := Option.some.inj H; go_wp2
    repeat (go_quiet (fail); try go_wp2)
    go_ret
    exact ⟨_, a3_, (a2_ HO_5.out), (a1_ HB.out)⟩
   ·
    replace c12 := Bool.eq_false_iff.mpr c12; subst c12; rw [if_neg (show ¬ (false = true) by decide)] at H; have H' := Aside0.mk H; clear H; go_wp2
    repeat (go_quiet (fail); try go_wp2)
    go_loopg [5, 6] kj2 (fun kq v5 v6 w' => ∃ (x5_2 : List (S60)) (x6_2 : Int), v6 = .int .i64 x6_2 ∧ Aside0 (spec_SpansLess.l0 kq l0 l1 x5_2 x6_2 = some r) ∧ Aside0 (kq ≤ kj2) ∧ Aside0 (Kd.R k60 60 w' w.heap.size (fun _ => True) v5 x5_2) ∧ Aside0 (Below w.heap.size w w'))
    case atStart => exact ⟨(y577), (0), (by first | rfl | (simp; done) | (simp [*]; done)), H', ⟨Nat.le_refl _⟩, ⟨(a2_ HO_5.out)⟩, ⟨(a1_ HB.out)⟩⟩
    case round =>
     clear H'; (try clear c1); (try clear c2); (try clear p2); (try clear c7); (try clear c12); (try clear p2); obtain ⟨x5_2, x6_2, rfl, HA, HK2, HO_5, HB⟩ := hrel
     cases gk with
     | zero => exact absurd HA.out (by simp [spec_SpansLess.l0])
     | succ k2 =>
      have H := HA.out; clear HA; simp only [spec_SpansLess.l0] at H; by_cases c13 : x6_2 < (l0.length : Int)
      ·
       rw [if_pos c13] at H; have c13b0 : decide (x6_2 < (l0.length : Int)) = true := decide_eq_true c13; clear c13; by_cases c14 : 0 ≤ x6_2
       ·
        rw [if_pos c14] at H; have c14b0 : decide (0 ≤ x6_2) = true := decide_eq_true c14; clear c14; have H' := Aside0.mk H; clear H; have p585 : 0 ≤ (x6_2 : Int) := d_; have q585 : x6_2 < (l0.length : Int) := d_; obtain ⟨ad585, e585, hx585_0, hx585_1⟩ := at_T60 (Kd.C_below HR0.out HB.out) x6_2 p585 q585; cases e585; replace p585 := eq_true p585; replace q585 := eq_true q585; go_wp2
        repeat (go_quiet (fail); try go_wp2)
        go_loopg [5, 7, 8] k2 (fun kq v5 v7 v8 w' => ∃ (x5_3 : List (S60)) (x7_3 : Int) (x8_3 : Int), v7 = .int .i64 x7_3 ∧ v8 = .int .i64 x8_3 ∧ Aside0 (spec_SpansLess.l1 kq l0 l1 x5_3 x6_2 x7_3 x8_3 = some r) ∧ Aside0 (kq ≤ k2) ∧ Aside0 (Kd.R k60 60 w' w.heap.size (fun _ => True) v5 x5_3) ∧ Aside0 (Below w.heap.size w w'))
        case atStart => exact ⟨(x5_2), ((rd_T60 l0 x6_2).f0), (0), (by first | rfl | (simp; done) | (simp [*]; done)), (by first | rfl | (simp; done) | (simp [*]; done)), H', ⟨Nat.le_refl _⟩, ⟨(a2_ HO_5.out)⟩, ⟨(a1_ HB.out)⟩⟩
        case round =>
         clear H'; (try clear c1); (try clear c2); (try clear p2); (try clear p5); (try clear q5); (try clear hx5); (try clear c7); (try clear c12); (try clear c13); (try clear c13b0); (try clear c14); (try clear c14b0); (try clear hx585_0); (try clear hx585_1); (try clear p2); (try clear p585); (try clear q585); obtain ⟨x5_3, x7_3, x8_3, rfl, rfl, HA, HK3, HO_5, HB⟩ := hrel
         cases gk with
         | zero => exact absurd HA.out (by simp [spec_SpansLess.l1])
         | succ k3 =>
          have H := HA.out; clear HA; simp only [spec_SpansLess.l1] at H; by_cases c15 : x8_3 < (l1.length : Int)
          ·
           rw [if_pos c15] at H; have c15b0 : decide (x8_3 < (l1.length : Int)) = true := decide_eq_true c15; clear c15; have HC16 := Aside0.mk H; clear H; go_upto_region 11 with (fail)
           repeat (go_quiet (fail); go_upto_region 11 with (fail))
           go_cut [55] (fun v55 wc => ∃ (kq : Nat) (x55_15 : Bool), v55 = .bool x55_15 ∧ Aside0 (spec_SpansLess.j3 kq l0 l1 x5_3 x6_2 x7_3 x8_3 x55_15 = some r) ∧ Aside0 (kq ≤ k3) ∧ Aside0 (Kd.R k60 60 wc w.heap.size (fun _ => True) u5 x5_3) ∧ Aside0 (Below w.heap.size w wc))
           case first =>
            have H := HC16.out; clear HC16; by_cases c17 : 0 ≤ x8_3
            ·
             rw [if_pos c17] at H; have c17b0 : decide (0 ≤ x8_3) = true := decide_eq_true c17; clear c17; (first | rw [c17b0] | rw [c17b1] | (simp only [i64_w, i32_w]; rw [c17b0]) | skip)
             by_cases c18 : ((rd_T60 l1 x8_3).f1) < x7_3
             ·
              rw [if_pos c18] at H; have c18b0 : decide (((rd_T60 l1 x8_3).f1) < x7_3) = true := decide_eq_true c18; clear c18; have H' := Aside0.mk H; clear H; have p591 : 0 ≤ (x8_3 : Int) := d_; have q591 : x8_3 < (l1.length : Int) := d_; obtain ⟨ad591, e591, hx591_0, hx591_1⟩ := at_T60 (Kd.C_below HR1.out HB.out) x8_3 p591 q591; cases e591; replace p591 := eq_true p591; replace q591 := eq_true q591; go_wp2
              repeat (go_quiet (fail); try go_wp2)
              go_meet
              case rel => exact ⟨_, (true), (by first | rfl | (simp; done) | (simp [*]; done)), H', ⟨by have := HJ2.out; have := HK2.out; have := HK3.out; first | omega | exact Nat.le_refl _⟩, ⟨(a2_ HO_5.out)⟩, ⟨(a1_ HB.out)⟩⟩
             ·
              rw [if_neg c18] at H; have c18b0 : decide (((rd_T60 l1 x8_3).f1) < x7_3) = false := decide_eq_false c18; clear c18; by_cases c19 : 0 ≤ x6_2
              ·
               rw [if_pos c19] at H; have c19b0 : decide (0 ≤ x6_2) = true := decide_eq_true c19; clear c19; by_cases c20 : x6_2 < (l0.length : Int)
               ·
                rw [if_pos c20] at H; have c20b0 : decide (x6_2 < (l0.length : Int)) = true := decide_eq_true c20; clear c20; have H' := Aside0.mk H; clear H; have p591 : 0 ≤ (x8_3 : Int) := d_; have q591 : x8_3 < (l1.length : Int) := d_; obtain ⟨ad591, e591, hx591_0, hx591_1⟩ := at_T60 (Kd.C_below HR1.out HB.out) x8_3 p591 q591; cases e591; replace p591 := eq_true p591; replace q591 := eq_true q591; have p592 : 0 ≤ (x8_3 : Int) := d_; have q592 : x8_3 < (l1.length : Int) := d_; obtain ⟨ad592, e592, hx592_0, hx592_1⟩ := at_T60 (Kd.C_below HR1.out HB.out) x8_3 p592 q592; obtain rfl : ad591 = ad592 := (by injection e592); replace p592 := eq_true p592; replace q592 := eq_true q592; have p593 : 0 ≤ (x6_2 : Int) := d_; have q593 : x6_2 < (l0.length : Int) := d_; obtain ⟨ad593, e593, hx593_0, hx593_1⟩ := at_T60 (Kd.C_below HR0.out HB.out) x6_2 p593 q593; obtain rfl : ad585 = ad593 := (by injection e593); replace p593 := eq_true p593; replace q593 := eq_true q593; go_wp2
                repeat (go_quiet (fail); try go_wp2)
                go_meet
                case rel => exact ⟨_, (decide (((rd_T60 l1 x8_3).f0) > ((rd_T60 l0 x6_2).f1))), (by first | rfl | (simp; done) | (simp [*]; done)), H', ⟨by have := HJ2.out; have := HK2.out; have := HK3.out; first | omega | exact Nat.le_refl _⟩, ⟨(a2_ HO_5.out)⟩, ⟨(a1_ HB.out)⟩⟩
               ·
                rw [if_neg c20] at H; exact absurd H (by simp)
              ·
               rw [if_neg c19] at H; exact absurd H (by simp)
            ·
             rw [if_neg c17] at H; exact absurd H (by simp)
           case rest =>
            clear HC16; (try clear c1); (try clear c2); (try clear p2); (try clear p5); (try clear q5); (try clear hx5); (try clear c7); (try clear c12); (try clear c13); (try clear c13b0); (try clear c14); (try clear c14b0); (try clear c15); (try clear c15b0); (try clear c17); (try clear c17b0); (try clear c18); (try clear c18b0); (try clear c19); (try clear c19b0); (try clear c20); (try clear c20b0); (try clear hx585_0); (try clear hx585_1); (try clear hx591_0); (try clear hx591_1); (try clear hx592_0); (try clear hx592_1); (try clear hx593_0); (try clear hx593_1); (try clear p2); (try clear p5); (try clear p585); (try clear p591); (try clear p592); (try clear p593); (try clear q5); (try clear q585); (try clear q591); (try clear q592); (try clear q593); obtain ⟨kq, x55_15, rfl, HA, HJ15, HO_5, HB⟩ := hcut
            cases kq with
            | zero => exact absurd HA.out (by simp [spec_SpansLess.j3])
            | succ kj15 =>
             have H := HA.out; clear HA; simp only [spec_SpansLess.j3] at H; by_cases c21 : x55_15 = true
             ·
              subst c21; rw [if_pos rfl] at H; have H' := Aside0.mk H; clear H; go_wp2
              repeat (go_quiet (fail); try go_wp2)
              go_roundg kj15
              case measure => have := HJ2.out; have := HK2.out; have := HK3.out; have := HJ15.out; omega
              case rel => exact ⟨(x5_3), (x7_3), (wrap64 (x8_3 + 1)), (by first | rfl | (simp; done) | (simp [*]; done)), (by first | rfl | (simp; done) | (simp [*]; done)), H', ⟨by have := HJ2.out; have := HK2.out; have := HK3.out; have := HJ15.out; omega⟩, ⟨(a2_ HO_5.out)⟩, ⟨(a1_ HB.out)⟩⟩
             ·
              replace c21 := Bool.eq_false_iff.mpr c21; subst c21; rw [if_neg (show ¬ (false = true) by decide)] at H; by_cases c22 : 0 ≤ x8_3
              ·
               rw [if_pos c22] at H; have c22b0 : decide (0 ≤ x8_3) = true := decide_eq_true c22; clear c22; by_cases c23 : x8_3 < (l1.length : Int)
               ·
                rw [if_pos c23] at H; have c23b0 : decide (x8_3 < (l1.length : Int)) = true := decide_eq_true c23; clear c23; by_cases c24 : ((rd_T60 l1 x8_3).f0) > x7_3
                ·
                 rw [if_pos c24] at H; have c24b0 : decide (x7_3 < ((rd_T60 l1 x8_3).f0)) = true := decide_eq_true c24; clear c24; by_cases c25 : x5_3.length < 8796093022208
                 ·
                  rw [if_pos c25] at H; have LMc25 := Aside0.mk c25; clear c25; obtain ⟨y596, hy596⟩ : ∃ y_ : List (S60), y_ = (x5_3 ++ [(⟨x7_3, wrap64 (((rd_T60 l1 x8_3).f0) - 1)⟩ : S60)]) := ⟨_, rfl⟩; replace H : (spec_SpansLess.l1 kj15 l0 l1 y596 x6_2 (wrap64 (((rd_T60 l1 x8_3).f1) + 1)) (wrap64 (x8_3 + 1))) = some r := by first | (rw [hy596]; exact H) | exact H
                  have Ny596 := Aside0.mk hy596; clear hy596; have H' := Aside0.mk H; clear H; have p594 : 0 ≤ (x8_3 : Int) := d_; have q594 : x8_3 < (l1.length : Int) := d_; obtain ⟨ad594, e594, hx594_0, hx594_1⟩ := at_T60 (Kd.C_below HR1.out HB.out) x8_3 p594 q594; cases e594; replace p594 := eq_true p594; replace q594 := eq_true q594; have p595 : 0 ≤ (x8_3 : Int) := d_; have q595 : x8_3 < (l1.length : Int) := d_; obtain ⟨ad595, e595, hx595_0, hx595_1⟩ := at_T60 (Kd.C_below HR1.out HB.out) x8_3 p595 q595; obtain rfl : ad594 = ad595 := (by injection e595); replace p595 := eq_true p595; replace q595 := eq_true q595; go_wp2_with (first | ((with_reducible refine gate_builtin (b := .append) (xs := #[.tmp 63, .tmp 72]) rfl ?_); at_builtin; refine Kd.R_append k60 (w0 := w) w.heap.size rfl (.tmp 63) (.tmp 72) 25 60 (.agg #[(.int .i64 0), (.int .i64 0)]) 16 rfl Try.underlying25 info60 rfl (by decide) (by omega) u5 x5_3 (⟨x7_3, wrap64 (((rd_T60 l1 x8_3).f0) - 1)⟩ : S60) [.int .i64 x7_3, .int .i64 (wrap64 (((rd_T60 l1 x8_3).f0) - 1))] (fun _ => True) (fun _ => False) rfl rfl ?aP (fun _ hk => hk.elim) ?aF ?aO ?aB ?aS ?aL ?_; (case aP => exact k60_mkM _ _ _ (⟨x7_3, wrap64 (((rd_T60 l1 x8_3).f0) - 1)⟩ : S60)); (case aB => exact HB.out); (case aF => exact (fun _ _ => trivial)); (case aO => exact HO_5.out); (case aS => exact (below_size HB.out)); (case aL => have := LMc25.out; omega); intro v597 w26 ho hb hg hat; rw [← Ny596.out] at ho; have n0_ := Aside0.mk (hb); have n1_ := Aside0.mk (ho); clear HB; clear HO_5; have HB := n0_; have HO598 := n1_; clear n0_ n1_; clear ho hb hg hat; have p599 : 0 ≤ (x8_3 : Int) := d_; have q599 : x8_3 < (l1.length : Int) := d_; obtain ⟨ad599, e599, hx599_0, hx599_1⟩ := at_T60 HR1.out x8_3 p599 q599; obtain rfl : ad594 = ad599 := (by injection e599); replace hx599_0 := ce_ HB.out hx599_0; replace hx599_1 := ce_ HB.out hx599_1; replace p599 := eq_true p599; replace q599 := eq_true q599))
                  repeat (go_quiet (first | ((with_reducible refine gate_builtin (b := .append) (xs := #[.tmp 63, .tmp 72]) rfl ?_); at_builtin; refine Kd.R_append k60 (w0 := w) w.heap.size rfl (.tmp 63) (.tmp 72) 25 60 (.agg #[(.int .i64 0), (.int .i64 0)]) 16 rfl Try.underlying25 info60 rfl (by decide) (by omega) u5 x5_3 (⟨x7_3, wrap64 (((rd_T60 l1 x8_3).f0) - 1)⟩ : S60) [.int .i64 x7_3, .int .i64 (wrap64 (((rd_T60 l1 x8_3).f0) - 1))] (fun _ => True) (fun _ => False) rfl rfl ?aP (fun _ hk => hk.elim) ?aF ?aO ?aB ?aS ?aL ?_; (case aP => exact k60_mkM _ _ _ (⟨x7_3, wrap64 (((rd_T60 l1 x8_3).f0) - 1)⟩ : S60)); (case aB => exact (a1_ HB.out)); (case aF => exact (fun _ _ => trivial)); (case aO => exact (a2_ HO_5.out)); (case aS => exact (below_size (a1_ HB.out))); (case aL => have := LMc25.out; omega); intro v597 w26 ho hb hg hat; rw [← Ny596.out] at ho; have n0_ := Aside0.mk (hb); have n1_ := Aside0.mk (ho); clear HB; clear HO_5; have HB := n0_; have HO598 := n1_; clear n0_ n1_; clear ho hb hg hat; have p599 : 0 ≤ (x8_3 : Int) := d_; have q599 : x8_3 < (l1.length : Int) := d_; obtain ⟨ad599, e599, hx599_0, hx599_1⟩ := at_T60 HR1.out x8_3 p599 q599; obtain rfl : ad594 = ad599 := (by injection e599); replace hx599_0 := ce_ HB.out hx599_0; replace hx599_1 := ce_ HB.out hx599_1; replace p599 := eq_true p599; replace q599 := eq_true q599)); try go_wp2_with (first | ((with_reducible refine gate_builtin (b := .append) (xs := #[.tmp 63, .tmp 72]) rfl ?_); at_builtin; refine Kd.R_append k60 (w0 := w) w.heap.size rfl (.tmp 63) (.tmp 72) 25 60 (.agg #[(.int .i64 0), (.int .i64 0)]) 16 rfl Try.underlying25 info60 rfl (by decide) (by omega) u5 x5_3 (⟨x7_3, wrap64 (((rd_T60 l1 x8_3).f0) - 1)⟩ : S60) [.int .i64 x7_3, .int .i64 (wrap64 (((rd_T60 l1 x8_3).f0) - 1))] (fun _ => True) (fun _ => False) rfl rfl ?aP (fun _ hk => hk.elim) ?aF ?aO ?aB ?aS ?aL ?_; (case aP => exact k60_mkM _ _ _ (⟨x7_3, wrap64 (((rd_T60 l1 x8_3).f0) - 1)⟩ : S60)); (case aB => exact (a1_ HB.out)); (case aF => exact (fun _ _ => trivial)); (case aO => exact (a2_ HO_5.out)); (case aS => exact (below_size (a1_ HB.out))); (case aL => have := LMc25.out; omega); intro v597 w26 ho hb hg hat; rw [← Ny596.out] at ho; have n0_ := Aside0.mk (hb); have n1_ := Aside0.mk (ho); clear HB; clear HO_5; have HB := n0_; have HO598 := n1_; clear n0_ n1_; clear ho hb hg hat; have p599 : 0 ≤ (x8_3 : Int) := d_; have q599 : x8_3 < (l1.length : Int) := d_; obtain ⟨ad599, e599, hx599_0, hx599_1⟩ := at_T60 HR1.out x8_3 p599 q599; obtain rfl : ad594 = ad599 := (by injection e599); replace hx599_0 := ce_ HB.out hx599_0; replace hx599_1 := ce_ HB.out hx599_1; replace p599 := eq_true p599; replace q599 := eq_true q599)))
                  go_roundg kj15
                  case measure => have := HJ2.out; have := HK2.out; have := HK3.out; have := HJ15.out; omega
                  case rel => exact ⟨(y596), (wrap64 (((rd_T60 l1 x8_3).f1) + 1)), (wrap64 (x8_3 + 1)), (by first | rfl | (simp; done) | (simp [*]; done)), (by first | rfl | (simp; done) | (simp [*]; done)), H', ⟨by have := HJ2.out; have := HK2.out; have := HK3.out; have := HJ15.out; omega⟩, ⟨(a2_ HO598.out)⟩, ⟨(a1_ HB.out)⟩⟩
                 ·
                  rw [if_neg c25] at H; exact absurd H (by simp)
                ·
                 rw [if_neg c24] at H; have c24b0 : decide (x7_3 < ((rd_T60 l1 x8_3).f0)) = false := decide_eq_false c24; clear c24; have H' := Aside0.mk H; clear H; have p594 : 0 ≤ (x8_3 : Int) := d_; have q594 : x8_3 < (l1.length : Int) := d_; obtain ⟨ad594, e594, hx594_0, hx594_1⟩ := at_T60 (Kd.C_below HR1.out HB.out) x8_3 p594 q594; cases e594; replace p594 := eq_true p594; replace q594 := eq_true q594; have p600 : 0 ≤ (x8_3 : Int) := d_; have q600 : x8_3 < (l1.length : Int) := d_; obtain ⟨ad600, e600, hx600_0, hx600_1⟩ := at_T60 (Kd.C_below HR1.out HB.out) x8_3 p600 q600; obtain rfl : ad594 = ad600 := (by injection e600); replace p600 := eq_true p600; replace q600 := eq_true q600; go_wp2
                 repeat (go_quiet (fail); try go_wp2)
                 go_roundg kj15
                 case measure => have := HJ2.out; have := HK2.out; have := HK3.out; have := HJ15.out; omega
                 case rel => exact ⟨(x5_3), (wrap64 (((rd_T60 l1 x8_3).f1) + 1)), (wrap64 (x8_3 + 1)), (by first | rfl | (simp; done) | (simp [*]; done)), (by first | rfl | (simp; done) | (simp [*]; done)), H', ⟨by have := HJ2.out; have := HK2.out; have := HK3.out; have := HJ15.out; omega⟩, ⟨(a2_ HO_5.out)⟩, ⟨(a1_ HB.out)⟩⟩
               ·
                rw [if_neg c23] at H; exact absurd H (by simp)
              ·
               rw [if_neg c22] at H; exact absurd H (by simp)
          ·
           rw [if_neg c15] at H; have c15b0 : decide (x8_3 < (l1.length : Int)) = false := decide_eq_false c15; clear c15; by_cases c27 : 0 ≤ x6_2
           ·
            rw [if_pos c27] at H; have c27b0 : decide (0 ≤ x6_2) = true := decide_eq_true c27; clear c27; by_cases c28 : x6_2 < (l0.length : Int)
            ·
             rw [if_pos c28] at H; have c28b0 : decide (x6_2 < (l0.length : Int)) = true := decide_eq_true c28; clear c28; by_cases c29 : x7_3 ≤ ((rd_T60 l0 x6_2).f1)
             ·
              rw [if_pos c29] at H; have c29b0 : decide (x7_3 ≤ ((rd_T60 l0 x6_2).f1)) = true := decide_eq_true c29; clear c29; by_cases c30 : x5_3.length < 8796093022208
              ·
               rw [if_pos c30] at H; have LMc30 := Aside0.mk c30; clear c30; obtain ⟨y588, hy588⟩ : ∃ y_ : List (S60), y_ = (x5_3 ++ [(⟨x7_3, (rd_T60 l0 x6_2).f1⟩ : S60)]) := ⟨_, rfl⟩; replace H : (spec_SpansLess.l0 k3 l0 l1 y588 (wrap64 (x6_2 + 1))) = some r := by first | (rw [hy588]; exact H) | exact H
               have Ny588 := Aside0.mk hy588; clear hy588; have H' := Aside0.mk H; clear H; have p586 : 0 ≤ (x6_2 : Int) := d_; have q586 : x6_2 < (l0.length : Int) := d_; obtain ⟨ad586, e586, hx586_0, hx586_1⟩ := at_T60 (Kd.C_below HR0.out HB.out) x6_2 p586 q586; obtain rfl : ad585 = ad586 := (by injection e586); replace p586 := eq_true p586; replace q586 := eq_true q586; have p587 : 0 ≤ (x6_2 : Int) := d_; have q587 : x6_2 < (l0.length : Int) := d_; obtain ⟨ad587, e587, hx587_0, hx587_1⟩ := at_T60 (Kd.C_below HR0.out HB.out) x6_2 p587 q587; obtain rfl : ad585 = ad587 := (by injection e587); replace p587 := eq_true p587; replace q587 := eq_true q587; go_wp2_with (first | ((with_reducible refine gate_builtin (b := .append) (xs := #[.tmp 87, .tmp 95]) rfl ?_); at_builtin; refine Kd.R_append k60 (w0 := w) w.heap.size rfl (.tmp 87) (.tmp 95) 25 60 (.agg #[(.int .i64 0), (.int .i64 0)]) 16 rfl Try.underlying25 info60 rfl (by decide) (by omega) u5 x5_3 (⟨x7_3, (rd_T60 l0 x6_2).f1⟩ : S60) [.int .i64 x7_3, .int .i64 ((rd_T60 l0 x6_2).f1)] (fun _ => True) (fun _ => False) rfl rfl ?aP (fun _ hk => hk.elim) ?aF ?aO ?aB ?aS ?aL ?_; (case aP => exact k60_mkM _ _ _ (⟨x7_3, (rd_T60 l0 x6_2).f1⟩ : S60)); (case aB => exact HB.out); (case aF => exact (fun _ _ => trivial)); (case aO => exact HO_5.out); (case aS => exact (below_size HB.out)); (case aL => have := LMc30.out; omega); intro v589 w31 ho hb hg hat; rw [← Ny588.out] at ho; have n0_ := Aside0.mk (hb); have n1_ := Aside0.mk (ho); clear HB; clear HO_5; have HB := n0_; have HO590 := n1_; clear n0_ n1_; clear ho hb hg hat))
               repeat (go_quiet (first | ((with_reducible refine gate_builtin (b := .append) (xs := #[.tmp 87, .tmp 95]) rfl ?_); at_builtin; refine Kd.R_append k60 (w0 := w) w.heap.size rfl (.tmp 87) (.tmp 95) 25 60 (.agg #[(.int .i64 0), (.int .i64 0)]) 16 rfl Try.underlying25 info60 rfl (by decide) (by omega) u5 x5_3 (⟨x7_3, (rd_T60 l0 x6_2).f1⟩ : S60) [.int .i64 x7_3, .int .i64 ((rd_T60 l0 x6_2).f1)] (fun _ => True) (fun _ => False) rfl rfl ?aP (fun _ hk => hk.elim) ?aF ?aO ?aB ?aS ?aL ?_; (case aP => exact k60_mkM _ _ _ (⟨x7_3, (rd_T60 l0 x6_2).f1⟩ : S60)); (case aB => exact (a1_ HB.out)); (case aF => exact (fun _ _ => trivial)); (case aO => exact (a2_ HO_5.out)); (case aS => exact (below_size (a1_ HB.out))); (case aL => have := LMc30.out; omega); intro v589 w31 ho hb hg hat; rw [← Ny588.out] at ho; have n0_ := Aside0.mk (hb); have n1_ := Aside0.mk (ho); clear HB; clear HO_5; have HB := n0_; have HO590 := n1_; clear n0_ n1_; clear ho hb hg hat)); try go_wp2_with (first | ((with_reducible refine gate_builtin (b := .append) (xs := #[.tmp 87, .tmp 95]) rfl ?_); at_builtin; refine Kd.R_append k60 (w0 := w) w.heap.size rfl (.tmp 87) (.tmp 95) 25 60 (.agg #[(.int .i64 0), (.int .i64 0)]) 16 rfl Try.underlying25 info60 rfl (by decide) (by omega) u5 x5_3 (⟨x7_3, (rd_T60 l0 x6_2).f1⟩ : S60) [.int .i64 x7_3, .int .i64 ((rd_T60 l0 x6_2).f1)] (fun _ => True) (fun _ => False) rfl rfl ?aP (fun _ hk => hk.elim) ?aF ?aO ?aB ?aS ?aL ?_; (case aP => exact k60_mkM _ _ _ (⟨x7_3, (rd_T60 l0 x6_2).f1⟩ : S60)); (case aB => exact (a1_ HB.out)); (case aF => exact (fun _ _ => trivial)); (case aO => exact (a2_ HO_5.out)); (case aS => exact (below_size (a1_ HB.out))); (case aL => have := LMc30.out; omega); intro v589 w31 ho hb hg hat; rw [← Ny588.out] at ho; have n0_ := Aside0.mk (hb); have n1_ := Aside0.mk (ho); clear HB; clear HO_5; have HB := n0_; have HO590 := n1_; clear n0_ n1_; clear ho hb hg hat)))
               go_roundg k3
               case measure => have := HJ2.out; have := HK2.out; have := HK3.out; omega
               case rel => exact ⟨(y588), (wrap64 (x6_2 + 1)), (by first | rfl | (simp; done) | (simp [*]; done)), H', ⟨by have := HJ2.out; have := HK2.out; have := HK3.out; omega⟩, ⟨(a2_ HO590.out)⟩, ⟨(a1_ HB.out)⟩⟩
              ·
               rw [if_neg c30] at H; exact absurd H (by simp)
             ·
              rw [if_neg c29] at H; have c29b0 : decide (x7_3 ≤ ((rd_T60 l0 x6_2).f1)) = false := decide_eq_false c29; clear c29; have H' := Aside0.mk H; clear H; have p586 : 0 ≤ (x6_2 : Int) := d_; have q586 : x6_2 < (l0.length : Int) := d_; obtain ⟨ad586, e586, hx586_0, hx586_1⟩ := at_T60 (Kd.C_below HR0.out HB.out) x6_2 p586 q586; obtain rfl : ad585 = ad586 := (by injection e586); replace p586 := eq_true p586; replace q586 := eq_true q586; go_wp2
              repeat (go_quiet (fail); try go_wp2)
              go_roundg k3
              case measure => have := HJ2.out; have := HK2.out; have := HK3.out; omega
              case rel => exact ⟨(x5_3), (wrap64 (x6_2 + 1)), (by first | rfl | (simp; done) | (simp [*]; done)), H', ⟨by have := HJ2.out; have := HK2.out; have := HK3.out; omega⟩, ⟨(a2_ HO_5.out)⟩, ⟨(a1_ HB.out)⟩⟩
            ·
             rw [if_neg c28] at H; exact absurd H (by simp)
           ·
            rw [if_neg c27] at H; exact absurd H (by simp)
       ·
        rw [if_neg c14] at H; exact absurd H (by simp)
      ·
       rw [if_neg c13] at H; have c13b0 : decide (x6_2 < (l0.length : Int)) = false := decide_eq_false c13; clear c13; by_cases c32 : (x5_2.length : Int) > 400
       ·
        rw [if_pos c32] at H; have c32b0 : decide (400 < (x5_2.length : Int)) = true := decide_eq_true c32; have c32b1 : decide (400 < x5_2.length) = true := decide_eq_true (by omega); clear c32; obtain ⟨y582, hy582⟩ : ∃ y_ : List (S60), y_ = (([] : List (S60))) := ⟨_, rfl⟩; replace H : (some y582) = some r := by first | (rw [hy582]; exact H) | exact H
        have Ny582 := Aside0.mk hy582; clear hy582; obtain rfl := Option.some.inj H; obtain ⟨Ao33, co33, eo33⟩ := Kd.R_slice HO_5.out; subst eo33; go_wp2_with (first | ((with_reducible refine gate_dst (N := 100) rfl ?_); refine Kd.R_lit k60 _ 60 ?hg (N := 100) ?hd (xs := ([] : List (S60))) (inner := []) (ok := fun _ => True) (okp := fun _ => True) ?hr ?hp (fun _ hk => hk) trivial (Below.refl _ _) (Nat.le_refl _) (by simp) ?_; (case hd => rfl); (case hg => rfl); (case hr => first | (go_simp; done) | (go_simp; rfl)); (case hp => exact (Reps.none _ _)); intro v583 w34 ho35 hb hg_ hnew_; clear hg_ hnew_; (first | rw [← Ny582.out] at ho35 | (simp only [Int.reduceToNat] at ho35; rw [← Ny582.out] at ho35)); have HO584 := Aside0.mk (Kd.R_lower (Kd.R_new' ho35 (Kd.R_lt HO_5.out)) (below_size HB.out)); replace HO_5 := Aside0.mk (Kd.R_elder' HO_5.out (Kd.R_base ho35) hb); replace HB := Aside0.mk (below_step HB.out hb); clear hb ho35))
        repeat (go_quiet (first | ((with_reducible refine gate_dst (N := 100) rfl ?_); refine Kd.R_lit k60 _ 60 ?hg (N := 100) ?hd (xs := ([] : List (S60))) (inner := []) (ok := fun _ => True) (okp := fun _ => True) ?hr ?hp (fun _ hk => hk) trivial (Below.refl _ _) (Nat.le_refl _) (by simp) ?_; (case hd => rfl); (case hg => rfl); (case hr => first | (go_simp; done) | (go_simp; rfl)); (case hp => exact (Reps.none _ _)); intro v583 w34 ho35 hb hg_ hnew_; clear hg_ hnew_; (first | rw [← Ny582.out] at ho35 | (simp only [Int.reduceToNat] at ho35; rw [← Ny582.out] at ho35)); have HO584 := Aside0.mk (Kd.R_lower (Kd.R_new' ho35 (Kd.R_lt HO_5.out)) (below_size HB.out)); replace HO_5 := Aside0.mk (Kd.R_elder' HO_5.out (Kd.R_base ho35) hb); replace HB := Aside0.mk (below_step HB.out hb); clear hb ho35)); try go_wp2_with (first | ((with_reducible refine gate_dst (N := 100) rfl ?_); refine Kd.R_lit k60 _ 60 ?hg (N := 100) ?hd (xs := ([] : List (S60))) (inner := []) (ok := fun _ => True) (okp := fun _ => True) ?hr ?hp (fun _ hk => hk) trivial (Below.refl _ _) (Nat.le_refl _) (by simp) ?_; (case hd => rfl); (case hg => rfl); (case hr => first | (go_simp; done) | (go_simp; rfl)); (case hp => exact (Reps.none _ _)); intro v583 w34 ho35 hb hg_ hnew_; clear hg_ hnew_; (first | rw [← Ny582.out] at ho35 | (simp only [Int.reduceToNat] at ho35; rw [← Ny582.out] at ho35)); have HO584 := Aside0.mk (Kd.R_lower (Kd.R_new' ho35 (Kd.R_lt HO_5.out)) (below_size HB.out)); replace HO_5 := Aside0.mk (Kd.R_elder' HO_5.out (Kd.R_base ho35) hb); replace HB := Aside0.mk (below_step HB.out hb); clear hb ho35)))
        go_ret
        exact ⟨_, a3_, by (with_reducible repeat (first | apply Kd.R_alloc | apply Kd.R_drewN | apply Kd.R_drew)); exact Kd.R_mono HO584.out (fun _ hk => trivial), (a1_ HB.out)⟩
       ·
        rw [if_neg c32] at H; have c32b0 : decide (400 < (x5_2.length : Int)) = false := decide_eq_false c32; have c32b1 : decide (400 < x5_2.length) = false := decide_eq_false (by omega); clear c32; obtain rfl := Option.some.inj H; obtain ⟨Ao36, co36, eo36⟩ := Kd.R_slice HO_5.out; subst eo36; go_wp2
        repeat (go_quiet (fail); try go_wp2)
        go_ret
        exact ⟨_, a3_, (a2_ HO_5.out), (a1_ HB.out)⟩

/-! ### impl_Span_87: function 87 -/
def impl_Span_87.r (p : S60 → Bool) (l : List S60) : Int := if l.any p = true then (l.findIdx p : Int) else -1
set_option maxHeartbeats 4000000 in
set_option maxRecDepth 100000 in
theorem impl_Span_87.callsF (g : Nat) (lb : Array Value) (p : S60 → Bool) (A : Option Addr) (c : Nat) (l : List S60) (w : World)
    (eg : ∀ args w, (callFunc g args).run Try.prog w = .ok (.enter g args) w)
    (hr : Kd.C k60 w A l.length l)
    (hp : ∀ (W : World) (i : Nat) (x : S60), l[i]? = some x → Below w.heap.size w W → Calls Try.prog g (#[.agg #[.int .i64 x.f0, .int .i64 x.f1]] ++ lb) W fun e w' => e = .returned (.bool (p x)) ∧ Below w.heap.size w w') :
    Calls Try.prog 87 #[.slice A l.length c, .func (.func g) #[] lb] w fun e w' => e = .returned (.int .i64 (impl_Span_87.r p l)) ∧ Below w.heap.size w w' := by
  have HR := Aside0.mk hr; have HP := Aside0.mk hp; have hlen : l.length ≤ 9223372036854775807 := hr.2.1; clear hr hp; go_enter Try.func87, Try.ntmps87; go_wp2
  go_loopg [5, 8] l.length (fun gg _ s8 wr => ∃ kk : Nat, kk ≤ l.length ∧ l.length - kk ≤ gg ∧ s8 = .int .i64 kk ∧ Aside0 (Below w.heap.size w wr) ∧ Aside0 (∀ j x, l[j]? = some x → j < kk → p x = false))
  case atStart => exact ⟨0, Nat.zero_le _, by omega, rfl, ⟨Below.refl _ w⟩, ⟨fun j x _ hj => absurd hj (Nat.not_lt_zero _)⟩⟩
  case round =>
    obtain ⟨kk, hkk, hg, rfl, BW, AA⟩ := hrel; by_cases hlt : kk < l.length
    · have hltz : (kk : Int) < (l.length : Int) := by omega
      have hge : (0 : Int) ≤ (kk : Int) := by omega
      obtain ⟨ad, rfl, hx, hx1⟩ := at_T60 HR.out (kk : Int) hge hltz; have hx := (BW.out.cell (World.block_lt_of_cell? _ _ hx)).trans hx; have hx1 := (BW.out.cell (World.block_lt_of_cell? _ _ hx1)).trans hx1
      have hget : l[kk]? = some (rd_T60 l (kk : Int)) := by
        unfold rd_T60; rw [Int.toNat_natCast, List.getD_eq_getElem?_getD, List.getElem?_eq_getElem hlt]; rfl
      have hcall := HP.out wr kk _ hget BW.out; have G := Aside0.mk hget; clear hget; generalize rd_T60 l (kk : Int) = y at hx hx1 hcall G; rw [Int.toNat_natCast] at hx hx1
      cases hq : p y with
      | true =>
        rw [hq] at hcall; have HQ := Aside0.mk hq; clear hq; go_wp2_with (go_at_fn g; refine hcall.mono ?_; rintro e w' ⟨rfl, hb'⟩)
        go_ret
        refine ⟨?_, hb'⟩; have h1 : l.any p = true := List.any_eq_true.2 ⟨y, List.mem_of_getElem? G.out, HQ.out⟩
        have h2 : l.findIdx p = kk := by
          have e1 : l.findIdx p ≤ kk := by
            rw [← Nat.not_lt]; intro hh; have := List.not_of_lt_findIdx hh; have e2 := List.getElem?_eq_some_iff.1 G.out; rw [e2.2, HQ.out] at this; simp at this
          have e3 : ¬ l.findIdx p < kk := by
            intro hh; have hlt2 : l.findIdx p < l.length := by omega
            have h4 := AA.out _ _ (List.getElem?_eq_getElem hlt2) hh; have h5 := List.findIdx_getElem (w := hlt2); rw [h4] at h5; simp at h5
          omega
        have h3 : impl_Span_87.r p l = (kk : Int) := by unfold impl_Span_87.r; rw [if_pos h1, h2]
        rw [h3]; rfl
      | false =>
        rw [hq] at hcall; have HQ := Aside0.mk hq; clear hq; go_wp2_with (go_at_fn g; refine hcall.mono ?_; rintro e w' ⟨rfl, hb'⟩)
        go_roundg (l.length - (kk + 1))
        case measure => omega
        case rel =>
          refine ⟨kk + 1, by omega, by omega, by go_num, ⟨hb'⟩, ⟨fun j x hj hjk => ?_⟩⟩; by_cases e : j = kk
          · subst e
            rw [G.out] at hj; cases hj; exact HQ.out
          · exact AA.out j x hj (by omega)
    · have hltz : ¬ (kk : Int) < (l.length : Int) := by omega
      have hkl : kk = l.length := by omega
      subst hkl; go_wp2
      go_ret
      refine ⟨?_, BW.out⟩
      have h1 : ¬ l.any p = true := by
        intro h; obtain ⟨x, hx, hpx⟩ := List.any_eq_true.1 h; obtain ⟨j, hj, rfl⟩ := List.getElem_of_mem hx; have := AA.out j _ (List.getElem?_eq_getElem hj) hj; rw [this] at hpx; cases hpx
      have h3 : impl_Span_87.r p l = -1 := by unfold impl_Span_87.r; rw [if_neg h1]
      rw [h3]; rfl

/-! ### impl_Span_74: function 74 -/
set_option maxHeartbeats 4000000 in
set_option maxRecDepth 100000 in
theorem impl_Span_74.callsF (g : Nat) (lb : Array Value) (p : S60 → Bool) (A : Option Addr) (c : Nat) (l : List S60) (w : World)
    (eg : ∀ args w, (callFunc g args).run Try.prog w = .ok (.enter g args) w)
    (hr : Kd.C k60 w A l.length l)
    (hp : ∀ (W : World) (i : Nat) (x : S60), l[i]? = some x → Below w.heap.size w W → Calls Try.prog g (#[.agg #[.int .i64 x.f0, .int .i64 x.f1]] ++ lb) W fun e w' => e = .returned (.bool (p x)) ∧ Below w.heap.size w w') :
    Calls Try.prog 74 #[.slice A l.length c, .func (.func g) #[] lb] w fun e w' => e = .returned (.bool (l.any p)) ∧ Below w.heap.size w w' := by
  have HI := Aside0.mk (impl_Span_87.callsF g lb p A c l w eg hr hp); clear hr hp eg; go_enter Try.func74, Try.ntmps74; go_wp2_with (go_at_call 87; refine HI.out.mono ?_; rintro e w' ⟨rfl, hb'⟩)
  go_ret
  refine ⟨?_, hb'⟩
  have h3 : decide (0 ≤ impl_Span_87.r p l) = l.any p := by
    unfold impl_Span_87.r
    by_cases h : l.any p = true
    · rw [if_pos h, h]; exact decide_eq_true (Int.natCast_nonneg _)
    · rw [if_neg h, Bool.eq_false_iff.2 h]; rfl
  rw [← h3]; rfl

/-! ### impl_inSpans: function 58 -/
def impl_inSpans.p (a : Int) (x : S60) : Bool := decide (x.f0 ≤ a ∧ a ≤ x.f1)
def impl_inSpans.f (l0 : List (S60)) (a1 : Int) : Option Bool := some (l0.any (impl_inSpans.p a1))
theorem impl_inSpans.in_p (a : Int) (x : S60) : impl_in.f a x.f0 x.f1 = some (impl_inSpans.p a x) := by
  unfold impl_in.f impl_inSpans.p; split <;> simp [*]
set_option maxHeartbeats 4000000 in
set_option maxRecDepth 100000 in
theorem impl_inSpans.closure (a : Int) (x : S60) (B : Nat) (w : World) (hc : w.cell? ⟨B, 0, none⟩ = some (.int .i64 a)) :
    Calls Try.prog 75 #[.agg #[.int .i64 x.f0, .int .i64 x.f1], .pointer (some ⟨B, 0, none⟩)] w fun e w' => e = .returned (.bool (impl_inSpans.p a x)) ∧ Below w.heap.size w w' := by
  have HB := Aside0.mk (Below.refl w.heap.size w); have HI := Aside0.mk (impl_inSpans.in_p a x); have hc2 := (World.cell?_alloc_lt w (.cells #[.int .i64 x.f0, .int .i64 x.f1] 60) ⟨B, 0, none⟩ (World.block_lt_of_cell? _ _ hc)).trans hc; clear hc; go_enter Try.func75, Try.ntmps75; go_wp2_with (go_at_call 60; (with_reducible refine (impl_in.calls a x.f0 x.f1 _ _ HI.out).mono ?_); rintro e w' ⟨rfl, ⟨nd, rfl⟩⟩)
  go_ret
  exact ⟨by first | rfl | simp, (a1_ HB.out)⟩
set_option maxHeartbeats 4000000 in
set_option maxRecDepth 100000 in
theorem impl_inSpans.calls (A0 : Option Addr) (c0 : Nat) (l0 : List (S60)) (a1 : Int) (r : Bool) (w : World) (hr0 : Kd.C k60 w A0 l0.length l0) (hc0 : l0.length ≤ c0) (h : impl_inSpans.f l0 a1 = some r) :
    Calls Try.prog 58 #[.slice A0 l0.length c0, .int .i64 a1] w fun e w' => e = .returned (.bool r) ∧ Below w.heap.size w w' := by
  obtain rfl := Option.some.inj h; have HB := Aside0.mk (Below.refl w.heap.size w)
  have HC := Aside0.mk (impl_Span_74.callsF 75 #[.pointer (some ⟨w.heap.size, 0, none⟩)] (impl_inSpans.p a1) A0 c0 l0 (w.alloc (.cells #[.int .i64 a1] 2)) (enters_of Try.func75 (by kernel_rfl) rfl)
    (Kd.C_below hr0 (below_alloc (Below.refl _ _) _))
    (fun W i x _ hb => (impl_inSpans.closure a1 x w.heap.size W ((hb.cell (p := ⟨w.heap.size, 0, none⟩) (by simp)).trans (by simp))).mono (fun _ _ h2 => ⟨h2.1, below_step hb h2.2⟩)))
  clear hr0; go_enter Try.func58, Try.ntmps58; go_wp2_with (go_at_call 74; (with_reducible refine HC.out.mono ?_); rintro e w' ⟨rfl, hb⟩)
  go_ret
  exact ⟨rfl, below_step (a1_ HB.out) hb⟩

/-! ### impl_InSpans: function 22 -/
def impl_InSpans.f (k : Nat) (l0 : List (S60)) (a1 : Int) : Option (Bool) := (impl_SpansRight.f k l0).bind fun t601 => (if t601 = true then ((impl_inSpans.f l0 a1).bind fun t602 => (some t602)) else (some false))
theorem impl_InSpans.mono : ∀ a0 a1 k, LeO (impl_InSpans.f k a0 a1) (impl_InSpans.f (k + 1) a0 a1) := by
  intro a0 a1 k
  unfold impl_InSpans.f
  repeat' first | (with_reducible exact impl_SpansRight.mono _ _) | (with_reducible exact LeO.refl _) | (with_reducible exact LeO.none _) | (with_reducible refine LeO.ite ?_ ?_) | (with_reducible refine LeO.bind ?_ (fun _ => ?_)) | exact impl_SpansRight.mono _ _ | exact LeO.none _ | refine LeO.ite ?_ ?_ | refine LeO.bind ?_ (fun _ => ?_)
theorem impl_InSpans.calls (k : Nat) (A0 : Option Addr) (c0 : Nat) (l0 : List (S60)) (a1 : Int) (r : Bool) (w : World) (hr0 : Kd.C k60 w A0 l0.length l0) (hc0 : l0.length ≤ c0) (h : impl_InSpans.f k l0 a1 = some r) :
    Calls Try.prog 22 #[.slice A0 l0.length c0, .int .i64 a1] w fun e w' => e = .returned (.bool r) ∧ Below w.heap.size w w' := by
 have HR0 := Aside0.mk hr0; have HC0 := Aside0.mk hc0; clear hr0 hc0; have HB := Aside0.mk (Below.refl w.heap.size w); have H : ((impl_SpansRight.f k l0).bind fun t601 => (if t601 = true then ((impl_inSpans.f l0 a1).bind fun t602 => (some t602)) else (some false))) = some r := h; clear h; replace H := Option.bind_eq_some_iff.mp H; obtain ⟨t601, A30, H⟩ := H; have A3 := Aside0.mk A30; clear A30; by_cases c4 : t601 = true
 ·
  subst c4; rw [if_pos rfl] at H; replace H := Option.bind_eq_some_iff.mp H; obtain ⟨t602, A50, H⟩ := H; have A5 := Aside0.mk A50; clear A50; obtain rfl := Option.some.inj H; go_enter Try.func22, Try.ntmps22; go_wp2_with (first | ((with_reducible refine gate_callee (f := 24) rfl ?_); refine gl_ (some 6) Try.func24 #[.slice A0 l0.length c0] ?_; (with_reducible refine (impl_SpansRight.calls k _ _ l0 true _ ?side1 HC0.out A3.out).mono ?_); (case side1 => repeat (first | exact HR0.out | (with_reducible refine Kd.C_alloc ?_ _) | (with_reducible refine Kd.C_drewN ?_ _) | (with_reducible refine Kd.C_drew ?_))); rintro e w6 ⟨rfl, hb⟩; refine ⟨_, rfl, ?_⟩; replace HB := Aside0.mk (below_step HB.out hb); (try clear hb); (try clear hb2); (try clear hk); (try clear hi)) | (go_at_call 58; (with_reducible refine (impl_inSpans.calls _ _ l0 a1 t602 _ ?side1 HC0.out A5.out).mono ?_); (case side1 => exact (cb_ HR0.out HB.out)); rintro e w7 ⟨rfl, hb⟩; replace HB := Aside0.mk (below_step HB.out hb); (try clear hb); (try clear hb2); (try clear hk); (try clear hi)))
  go_ret
  exact ⟨a3_, (a1_ HB.out)⟩
 ·
  replace c4 := Bool.eq_false_iff.mpr c4; subst c4; rw [if_neg (show ¬ (false = true) by decide)] at H; obtain rfl := Option.some.inj H; go_enter Try.func22, Try.ntmps22; go_wp2_with (first | ((with_reducible refine gate_callee (f := 24) rfl ?_); refine gl_ (some 6) Try.func24 #[.slice A0 l0.length c0] ?_; (with_reducible refine (impl_SpansRight.calls k _ _ l0 false _ ?side1 HC0.out A3.out).mono ?_); (case side1 => repeat (first | exact HR0.out | (with_reducible refine Kd.C_alloc ?_ _) | (with_reducible refine Kd.C_drewN ?_ _) | (with_reducible refine Kd.C_drew ?_))); rintro e w8 ⟨rfl, hb⟩; refine ⟨_, rfl, ?_⟩; replace HB := Aside0.mk (below_step HB.out hb); (try clear hb); (try clear hb2); (try clear hk); (try clear hi)))
  go_ret
  exact ⟨a3_, (a1_ HB.out)⟩

end Go.Proofs.Ytepbkhgffjinjaa.Print
