-- Printed by wip/myprint.py over the kit's print, in this session's own call.
import Derived.Test.YtepbkhgffjinjaaPrint9
import Derived.Test.YtepbkhgffjinjaaPrint17
namespace Go.Proofs.Ytepbkhgffjinjaa.Print
open Go.RowKit Go.Proofs.YtepbkhgffjinjaaW.PrintWords Go.Proofs.YtepbkhgffjinjaaW.PrintLast Go.Proofs.YtepbkhgffjinjaaW.PrintMore
attribute [local go_sem] max2_int min2_int max_two min_two max_three min_three max_four min_four   -- for this text's walks alone
set_option maxHeartbeats 8000000
set_option maxRecDepth 100000
set_option linter.unusedVariables false
set_option linter.unusedSimpArgs false

/-! ### spec_SpansJoin: function 19 -/
mutual
def spec_SpansJoin.j0 : Nat → List (S60) → List (S60) → List (S60) → Bool → Option ((List (S60)))
  | 0, _, _, _, _ => none
  | k + 1, x0, x1, x5, x16 => if x16 = true then (some x5) else (spec_SpansJoin.l0 k x0 x1 x5 0 0)
def spec_SpansJoin.l0 : Nat → List (S60) → List (S60) → List (S60) → Int → Int → Option ((List (S60)))
  | 0, _, _, _, _, _ => none
  | k + 1, x0, x1, x5, x6, x7 => if x6 < (x0.length : Int) then (spec_SpansJoin.j2 k x0 x1 x5 x6 x7 true) else (spec_SpansJoin.j2 k x0 x1 x5 x6 x7 (decide (x7 < (x1.length : Int))))
def spec_SpansJoin.j2 : Nat → List (S60) → List (S60) → List (S60) → Int → Int → Bool → Option ((List (S60)))
  | 0, _, _, _, _, _, _ => none
  | k + 1, x0, x1, x5, x6, x7, x27 => if x27 = true then (if x7 ≥ (x1.length : Int) then (spec_SpansJoin.j3 k x0 x1 x5 x6 x7 true) else (if x6 < (x0.length : Int) then (if 0 ≤ x6 then (if 0 ≤ x7 then (if x7 < (x1.length : Int) then (spec_SpansJoin.j3 k x0 x1 x5 x6 x7 (decide (((rd_T60 x0 x6).f0) ≤ ((rd_T60 x1 x7).f0)))) else (none)) else (none)) else (none)) else (spec_SpansJoin.j3 k x0 x1 x5 x6 x7 false))) else (if (x5.length : Int) > 400 then (some (([] : List (S60)))) else (some x5))
def spec_SpansJoin.j3 : Nat → List (S60) → List (S60) → List (S60) → Int → Int → Bool → Option ((List (S60)))
  | 0, _, _, _, _, _, _ => none
  | k + 1, x0, x1, x5, x6, x7, x50 => if x50 = true then (if 0 ≤ x6 then (if x6 < (x0.length : Int) then ((spec_l15Add.f k x5 ((rd_T60 x0 x6).f0) ((rd_T60 x0 x6).f1)).bind fun t570 => (spec_SpansJoin.l0 k x0 x1 t570 (wrap64 (x6 + 1)) x7)) else (none)) else (none)) else (if 0 ≤ x7 then (if x7 < (x1.length : Int) then ((spec_l15Add.f k x5 ((rd_T60 x1 x7).f0) ((rd_T60 x1 x7).f1)).bind fun t574 => (spec_SpansJoin.l0 k x0 x1 t574 x6 (wrap64 (x7 + 1)))) else (none)) else (none))
end
def spec_SpansJoin.f (k : Nat) (l0 : List (S60)) (l1 : List (S60)) : Option ((List (S60))) := (some (([] : List (S60)) : List (S60))).bind fun y559 => ((spec_SpansRight.f k l0).bind fun t562 => (if t562 = true then ((spec_SpansRight.f k l1).bind fun t563 => (spec_SpansJoin.j0 k l0 l1 y559 (!t563))) else (spec_SpansJoin.j0 k l0 l1 y559 true)))
theorem spec_SpansJoin.mono_l : ∀ k, (∀ y0 y1 y2 y3, LeO (spec_SpansJoin.j0 k y0 y1 y2 y3) (spec_SpansJoin.j0 (k + 1) y0 y1 y2 y3)) ∧ (∀ y0 y1 y2 y3 y4, LeO (spec_SpansJoin.l0 k y0 y1 y2 y3 y4) (spec_SpansJoin.l0 (k + 1) y0 y1 y2 y3 y4)) ∧ (∀ y0 y1 y2 y3 y4 y5, LeO (spec_SpansJoin.j2 k y0 y1 y2 y3 y4 y5) (spec_SpansJoin.j2 (k + 1) y0 y1 y2 y3 y4 y5)) ∧ (∀ y0 y1 y2 y3 y4 y5, LeO (spec_SpansJoin.j3 k y0 y1 y2 y3 y4 y5) (spec_SpansJoin.j3 (k + 1) y0 y1 y2 y3 y4 y5))
  | 0 => ⟨fun _ _ _ _ r h => by simp [spec_SpansJoin.j0] at h, fun _ _ _ _ _ r h => by simp [spec_SpansJoin.l0] at h, fun _ _ _ _ _ _ r h => by simp [spec_SpansJoin.j2] at h, fun _ _ _ _ _ _ r h => by simp [spec_SpansJoin.j3] at h⟩
  | k + 1 => by
    obtain ⟨ih0, ih1, ih2, ih3⟩ := spec_SpansJoin.mono_l k
    refine ⟨?_, ?_, ?_, ?_⟩
    (intro y0 y1 y2 y3; unfold spec_SpansJoin.j0); rotate_left
    (intro y0 y1 y2 y3 y4; unfold spec_SpansJoin.l0); rotate_left
    (intro y0 y1 y2 y3 y4 y5; unfold spec_SpansJoin.j2); rotate_left
    (intro y0 y1 y2 y3 y4 y5; unfold spec_SpansJoin.j3); rotate_left
    all_goals (repeat' first | (with_reducible exact ih0 _ _ _ _) | (with_reducible exact ih1 _ _ _ _ _) | (with_reducible exact ih2 _ _ _ _ _ _) | (with_reducible exact ih3 _ _ _ _ _ _) | (with_reducible exact spec_SpansRight.mono _ _) | (with_reducible exact spec_l15Add.mono _ _ _ _) | (with_reducible exact LeO.refl _) | (with_reducible exact LeO.none _) | (with_reducible refine LeO.ite ?_ ?_) | (with_reducible refine LeO.bind ?_ (fun _ => ?_)) | exact ih0 _ _ _ _ | exact ih1 _ _ _ _ _ | exact ih2 _ _ _ _ _ _ | exact ih3 _ _ _ _ _ _ | exact spec_SpansRight.mono _ _ | exact spec_l15Add.mono _ _ _ _ | exact LeO.none _ | refine LeO.ite ?_ ?_ | refine LeO.bind ?_ (fun _ => ?_))
theorem spec_SpansJoin.mono : ∀ a0 a1 k, LeO (spec_SpansJoin.f k a0 a1) (spec_SpansJoin.f (k + 1) a0 a1) := by
  intro a0 a1 k
  obtain ⟨ih0, ih1, ih2, ih3⟩ := spec_SpansJoin.mono_l k
  unfold spec_SpansJoin.f
  repeat' first | (with_reducible exact ih0 _ _ _ _) | (with_reducible exact ih1 _ _ _ _ _) | (with_reducible exact ih2 _ _ _ _ _ _) | (with_reducible exact ih3 _ _ _ _ _ _) | (with_reducible exact spec_SpansRight.mono _ _) | (with_reducible exact spec_l15Add.mono _ _ _ _) | (with_reducible exact LeO.refl _) | (with_reducible exact LeO.none _) | (with_reducible refine LeO.ite ?_ ?_) | (with_reducible refine LeO.bind ?_ (fun _ => ?_)) | exact ih0 _ _ _ _ | exact ih1 _ _ _ _ _ | exact ih2 _ _ _ _ _ _ | exact ih3 _ _ _ _ _ _ | exact spec_SpansRight.mono _ _ | exact spec_l15Add.mono _ _ _ _ | exact LeO.none _ | refine LeO.ite ?_ ?_ | refine LeO.bind ?_ (fun _ => ?_)
theorem spec_SpansJoin.calls (k : Nat) (A0 : Option Addr) (c0 : Nat) (l0 : List (S60)) (A1 : Option Addr) (c1 : Nat) (l1 : List (S60)) (r : List (S60)) (w : World) (hr0 : Kd.C k60 w A0 l0.length l0) (hc0 : l0.length ≤ c0) (hr1 : Kd.C k60 w A1 l1.length l1) (hc1 : l1.length ≤ c1) (h : spec_SpansJoin.f k l0 l1 = some r) :
    Calls Try.prog 19 #[.slice A0 l0.length c0, .slice A1 l1.length c1] w fun e w' => ∃ v0_ : Value, e = .returned (v0_) ∧ Kd.R k60 60 w' w.heap.size (fun _ => True) v0_ r ∧ Below w.heap.size w w' := by
 have hu60 := Try.underlying60; have HR0 := Aside0.mk hr0; have HC0 := Aside0.mk hc0; clear hr0 hc0; have HR1 := Aside0.mk hr1; have HC1 := Aside0.mk hc1; clear hr1 hc1; have HB := Aside0.mk (Below.refl w.heap.size w); have H : ((some (([] : List (S60)) : List (S60))).bind fun y559 => ((spec_SpansRight.f k l0).bind fun t562 => (if t562 = true then ((spec_SpansRight.f k l1).bind fun t563 => (spec_SpansJoin.j0 k l0 l1 y559 (!t563))) else (spec_SpansJoin.j0 k l0 l1 y559 true)))) = some r := h; clear h; obtain ⟨y559, hy559⟩ : ∃ y_ : List (S60), y_ = (([] : List (S60))) := ⟨_, rfl⟩; replace H := bs_ hy559 H
 have Ny559 := Aside0.mk hy559; clear hy559; have HC3 := Aside0.mk H; clear H; go_enter Try.func19, Try.ntmps19; go_upto_region 2 with (first | ((with_reducible refine gate_dst (N := 8) rfl ?_); (try (refine gate_guard (by rfl) ?_; dsimp only)); refine Kd.R_lit k60 _ 60 ?hg (N := 8) ?hd (xs := ([] : List (S60))) (inner := []) (ok := fun _ => True) (okp := fun _ => True) ?hr ?hp (fun _ hk => hk) trivial (Below.refl _ _) (Nat.le_refl _) (by simp) ?_; (case hd => rfl); (case hg => rfl); (case hr => first | (go_simp; done) | (go_simp; rfl)); (case hp => exact (Reps.none _ _)); intro v560 w4 ho5 hb hg_ hnew_; clear hg_ hnew_; (first | rw [← Ny559.out] at ho5 | (simp only [Int.reduceToNat] at ho5; rw [← Ny559.out] at ho5)); have HO561 := Aside0.mk (Kd.R_lower ho5 (below_size HB.out)); replace HB := Aside0.mk (below_step HB.out hb); clear hb ho5))
 repeat (go_quiet (first | ((with_reducible refine gate_dst (N := 8) rfl ?_); (try (refine gate_guard (by rfl) ?_; dsimp only)); refine Kd.R_lit k60 _ 60 ?hg (N := 8) ?hd (xs := ([] : List (S60))) (inner := []) (ok := fun _ => True) (okp := fun _ => True) ?hr ?hp (fun _ hk => hk) trivial (Below.refl _ _) (Nat.le_refl _) (by simp) ?_; (case hd => rfl); (case hg => rfl); (case hr => first | (go_simp; done) | (go_simp; rfl)); (case hp => exact (Reps.none _ _)); intro v560 w4 ho5 hb hg_ hnew_; clear hg_ hnew_; (first | rw [← Ny559.out] at ho5 | (simp only [Int.reduceToNat] at ho5; rw [← Ny559.out] at ho5)); have HO561 := Aside0.mk (Kd.R_lower ho5 (below_size HB.out)); replace HB := Aside0.mk (below_step HB.out hb); clear hb ho5)); go_upto_region 2 with (first | ((with_reducible refine gate_dst (N := 8) rfl ?_); (try (refine gate_guard (by rfl) ?_; dsimp only)); refine Kd.R_lit k60 _ 60 ?hg (N := 8) ?hd (xs := ([] : List (S60))) (inner := []) (ok := fun _ => True) (okp := fun _ => True) ?hr ?hp (fun _ hk => hk) trivial (Below.refl _ _) (Nat.le_refl _) (by simp) ?_; (case hd => rfl); (case hg => rfl); (case hr => first | (go_simp; done) | (go_simp; rfl)); (case hp => exact (Reps.none _ _)); intro v560 w4 ho5 hb hg_ hnew_; clear hg_ hnew_; (first | rw [← Ny559.out] at ho5 | (simp only [Int.reduceToNat] at ho5; rw [← Ny559.out] at ho5)); have HO561 := Aside0.mk (Kd.R_lower ho5 (below_size HB.out)); replace HB := Aside0.mk (below_step HB.out hb); clear hb ho5)))
 (try simp only [Act.put, lS, l0_, l1_])
 go_cut [16] (fun v16 wc => ∃ (kq : Nat) (x16_2 : Bool), v16 = .bool x16_2 ∧ Aside0 (spec_SpansJoin.j0 kq l0 l1 y559 x16_2 = some r) ∧ Aside0 (kq ≤ k) ∧ Aside0 (Kd.R k60 60 wc w.heap.size (fun _ => True) v560 y559) ∧ Aside0 (Below w.heap.size w wc))
 case first =>
  have H := HC3.out; clear HC3; replace H := Option.bind_eq_some_iff.mp H; obtain ⟨t562, A60, H⟩ := H; have A6 := Aside0.mk A60; clear A60; by_cases c7 : t562 = true
  ·
   subst c7; rw [if_pos rfl] at H; replace H := Option.bind_eq_some_iff.mp H; obtain ⟨t563, A80, H⟩ := H; have A8 := Aside0.mk A80; clear A80; have H' := Aside0.mk H; clear H; go_wp2_with (first | (go_at_call 25; (with_reducible refine (spec_SpansRight.calls k _ _ l0 true _ ?side1 HC0.out A6.out).mono ?_); (case side1 => exact (cb_ HR0.out HB.out)); rintro e w9 ⟨rfl, hb⟩; replace HO561 := Aside0.mk (Kd.R_below HO561.out hb); replace HB := Aside0.mk (below_step HB.out hb); (try clear hb); (try clear hb2); (try clear hk); (try clear hi)) | (go_at_call 25; (with_reducible refine (spec_SpansRight.calls k _ _ l1 t563 _ ?side1 HC1.out A8.out).mono ?_); (case side1 => exact (cb_ HR1.out HB.out)); rintro e w10 ⟨rfl, hb⟩; replace HO561 := Aside0.mk (Kd.R_below HO561.out hb); replace HB := Aside0.mk (below_step HB.out hb); (try clear hb); (try clear hb2); (try clear hk); (try clear hi)))
   repeat (go_quiet (first | (go_at_call 25; (with_reducible refine (spec_SpansRight.calls k _ _ l0 true _ ?side1 HC0.out A6.out).mono ?_); (case side1 => exact (cb_ HR0.out HB.out)); rintro e w9 ⟨rfl, hb⟩; replace HO561 := Aside0.mk (Kd.R_below HO561.out hb); replace HB := Aside0.mk (below_step HB.out hb); (try clear hb); (try clear hb2); (try clear hk); (try clear hi)) | (go_at_call 25; (with_reducible refine (spec_SpansRight.calls k _ _ l1 t563 _ ?side1 HC1.out A8.out).mono ?_); (case side1 => exact (cb_ HR1.out HB.out)); rintro e w10 ⟨rfl, hb⟩; replace HO561 := Aside0.mk (Kd.R_below HO561.out hb); replace HB := Aside0.mk (below_step HB.out hb); (try clear hb); (try clear hb2); (try clear hk); (try clear hi))); try go_wp2_with (first | (go_at_call 25; (with_reducible refine (spec_SpansRight.calls k _ _ l0 true _ ?side1 HC0.out A6.out).mono ?_); (case side1 => exact (cb_ HR0.out HB.out)); rintro e w9 ⟨rfl, hb⟩; replace HO561 := Aside0.mk (Kd.R_below HO561.out hb); replace HB := Aside0.mk (below_step HB.out hb); (try clear hb); (try clear hb2); (try clear hk); (try clear hi)) | (go_at_call 25; (with_reducible refine (spec_SpansRight.calls k _ _ l1 t563 _ ?side1 HC1.out A8.out).mono ?_); (case side1 => exact (cb_ HR1.out HB.out)); rintro e w10 ⟨rfl, hb⟩; replace HO561 := Aside0.mk (Kd.R_below HO561.out hb); replace HB := Aside0.mk (below_step HB.out hb); (try clear hb); (try clear hb2); (try clear hk); (try clear hi))))
   go_meet
   case rel => exact ⟨_, (!t563), (by first | rfl | (simp; done) | (simp [*]; done)), H', ⟨by first | omega | exact Nat.le_refl _⟩, ⟨(a2_ HO561.out)⟩, ⟨(a1_ HB.out)⟩⟩
  ·
   replace c7 := Bool.eq_false_iff.mpr c7; subst c7; rw [if_neg (show ¬ (false = true) by decide)] at H; have H' := Aside0.mk H; clear H; go_wp2_with (first | (go_at_call 25; (with_reducible refine (spec_SpansRight.calls k _ _ l0 false _ ?side1 HC0.out A6.out).mono ?_); (case side1 => exact (cb_ HR0.out HB.out)); rintro e w11 ⟨rfl, hb⟩; replace HO561 := Aside0.mk (Kd.R_below HO561.out hb); replace HB := Aside0.mk (below_step HB.out hb); (try clear hb); (try clear hb2); (try clear hk); (try clear hi)))
   repeat (go_quiet (first | (go_at_call 25; (with_reducible refine (spec_SpansRight.calls k _ _ l0 false _ ?side1 HC0.out A6.out).mono ?_); (case side1 => exact (cb_ HR0.out HB.out)); rintro e w11 ⟨rfl, hb⟩; replace HO561 := Aside0.mk (Kd.R_below HO561.out hb); replace HB := Aside0.mk (below_step HB.out hb); (try clear hb); (try clear hb2); (try clear hk); (try clear hi))); try go_wp2_with (first | (go_at_call 25; (with_reducible refine (spec_SpansRight.calls k _ _ l0 false _ ?side1 HC0.out A6.out).mono ?_); (case side1 => exact (cb_ HR0.out HB.out)); rintro e w11 ⟨rfl, hb⟩; replace HO561 := Aside0.mk (Kd.R_below HO561.out hb); replace HB := Aside0.mk (below_step HB.out hb); (try clear hb); (try clear hb2); (try clear hk); (try clear hi))))
   go_meet
   case rel => exact ⟨_, (true), (by first | rfl | (simp; done) | (simp [*]; done)), H', ⟨by first | omega | exact Nat.le_refl _⟩, ⟨(a2_ HO561.out)⟩, ⟨(a1_ HB.out)⟩⟩
 case rest =>
  clear HC3; (try clear c1); (try clear p2); (try clear c7); obtain ⟨kq, x16_2, rfl, HA, HJ2, HO_5, HB⟩ := hcut
  cases kq with
  | zero => exact absurd HA.out (by simp [spec_SpansJoin.j0])
  | succ kj2 =>
   have H := HA.out; clear HA; simp only [spec_SpansJoin.j0] at H; by_cases c12 : x16_2 = true
   ·
    subst c12; rw [if_pos rfl] at H; obtain rfl := Option.some.inj H; go_wp2
    repeat (go_quiet (fail); try go_wp2)
    go_ret
    exact ⟨_, a3_, (a2_ HO_5.out), (a1_ HB.out)⟩
   ·
    replace c12 := Bool.eq_false_iff.mpr c12; subst c12; rw [if_neg (show ¬ (false = true) by decide)] at H; have H' := Aside0.mk H; clear H; go_wp2
    repeat (go_quiet (fail); try go_wp2)
    go_loopg [5, 6, 7] kj2 (fun kq v5 v6 v7 w' => ∃ (x5_2 : List (S60)) (x6_2 : Int) (x7_2 : Int), v6 = .int .i64 x6_2 ∧ v7 = .int .i64 x7_2 ∧ Aside0 (spec_SpansJoin.l0 kq l0 l1 x5_2 x6_2 x7_2 = some r) ∧ Aside0 (kq ≤ kj2) ∧ Aside0 (Kd.R k60 60 w' w.heap.size (fun _ => True) v5 x5_2) ∧ Aside0 (Below w.heap.size w w'))
    case atStart => exact ⟨(y559), (0), (0), (by first | rfl | (simp; done) | (simp [*]; done)), (by first | rfl | (simp; done) | (simp [*]; done)), H', ⟨Nat.le_refl _⟩, ⟨(a2_ HO_5.out)⟩, ⟨(a1_ HB.out)⟩⟩
    case round =>
     clear H'; (try clear c1); (try clear p2); (try clear c7); (try clear c12); (try clear p2); obtain ⟨x5_2, x6_2, x7_2, rfl, rfl, HA, HK2, HO_5, HB⟩ := hrel
     cases gk with
     | zero => exact absurd HA.out (by simp [spec_SpansJoin.l0])
     | succ k2 =>
      have H := HA.out; clear HA; simp only [spec_SpansJoin.l0] at H; have HC13 := Aside0.mk H; clear H; go_upto_region 5 with (fail)
      repeat (go_quiet (fail); go_upto_region 5 with (fail))
      go_cut [27] (fun v27 wc => ∃ (kq : Nat) (x27_12 : Bool), v27 = .bool x27_12 ∧ Aside0 (spec_SpansJoin.j2 kq l0 l1 x5_2 x6_2 x7_2 x27_12 = some r) ∧ Aside0 (kq ≤ k2) ∧ Aside0 (Kd.R k60 60 wc w.heap.size (fun _ => True) u5 x5_2) ∧ Aside0 (Below w.heap.size w wc))
      case first =>
       have H := HC13.out; clear HC13; by_cases c14 : x6_2 < (l0.length : Int)
       ·
        rw [if_pos c14] at H; have c14b0 : decide (x6_2 < (l0.length : Int)) = true := decide_eq_true c14; clear c14; (first | rw [c14b0] | rw [c14b1] | (simp only [i64_w, i32_w]; rw [c14b0]) | skip)
        have H' := Aside0.mk H; clear H; go_wp2
        repeat (go_quiet (fail); try go_wp2)
        go_meet
        case rel => exact ⟨_, (true), (by first | rfl | (simp; done) | (simp [*]; done)), H', ⟨by have := HJ2.out; have := HK2.out; first | omega | exact Nat.le_refl _⟩, ⟨(a2_ HO_5.out)⟩, ⟨(a1_ HB.out)⟩⟩
       ·
        rw [if_neg c14] at H; have c14b0 : decide (x6_2 < (l0.length : Int)) = false := decide_eq_false c14; clear c14; (first | rw [c14b0] | rw [c14b1] | (simp only [i64_w, i32_w]; rw [c14b0]) | skip)
        have H' := Aside0.mk H; clear H; go_wp2
        repeat (go_quiet (fail); try go_wp2)
        go_meet
        case rel => exact ⟨_, (decide (x7_2 < (l1.length : Int))), (by first | rfl | (simp; done) | (simp [*]; done)), H', ⟨by have := HJ2.out; have := HK2.out; first | omega | exact Nat.le_refl _⟩, ⟨(a2_ HO_5.out)⟩, ⟨(a1_ HB.out)⟩⟩
      case rest =>
       clear HC13; (try clear c1); (try clear p2); (try clear c7); (try clear c12); (try clear c14); (try clear c14b0); (try clear p2); obtain ⟨kq, x27_12, rfl, HA, HJ12, HO_5, HB⟩ := hcut
       cases kq with
       | zero => exact absurd HA.out (by simp [spec_SpansJoin.j2])
       | succ kj12 =>
        have H := HA.out; clear HA; simp only [spec_SpansJoin.j2] at H; by_cases c15 : x27_12 = true
        ·
         subst c15; rw [if_pos rfl] at H; have HC16 := Aside0.mk H; clear H; go_upto_region 6 with (fail)
         repeat (go_quiet (fail); go_upto_region 6 with (fail))
         go_cut [50] (fun v50 wc => ∃ (kq : Nat) (x50_15 : Bool), v50 = .bool x50_15 ∧ Aside0 (spec_SpansJoin.j3 kq l0 l1 x5_2 x6_2 x7_2 x50_15 = some r) ∧ Aside0 (kq ≤ kj12) ∧ Aside0 (Kd.R k60 60 wc w.heap.size (fun _ => True) u5 x5_2) ∧ Aside0 (Below w.heap.size w wc))
         case first =>
          have H := HC16.out; clear HC16; by_cases c17 : x7_2 ≥ (l1.length : Int)
          ·
           rw [if_pos c17] at H; have c17b0 : decide ((l1.length : Int) ≤ x7_2) = true := decide_eq_true c17; clear c17; (first | rw [c17b0] | rw [c17b1] | (simp only [i64_w, i32_w]; rw [c17b0]) | skip)
           have H' := Aside0.mk H; clear H; go_wp2
           repeat (go_quiet (fail); try go_wp2)
           go_meet
           case rel => exact ⟨_, (true), (by first | rfl | (simp; done) | (simp [*]; done)), H', ⟨by have := HJ2.out; have := HK2.out; have := HJ12.out; first | omega | exact Nat.le_refl _⟩, ⟨(a2_ HO_5.out)⟩, ⟨(a1_ HB.out)⟩⟩
          ·
           rw [if_neg c17] at H; have c17b0 : decide ((l1.length : Int) ≤ x7_2) = false := decide_eq_false c17; clear c17; (first | rw [c17b0] | rw [c17b1] | (simp only [i64_w, i32_w]; rw [c17b0]) | skip)
           by_cases c18 : x6_2 < (l0.length : Int)
           ·
            rw [if_pos c18] at H; have c18b0 : decide (x6_2 < (l0.length : Int)) = true := decide_eq_true c18; clear c18; by_cases c19 : 0 ≤ x6_2
            ·
             rw [if_pos c19] at H; have c19b0 : decide (0 ≤ x6_2) = true := decide_eq_true c19; clear c19; by_cases c20 : 0 ≤ x7_2
             ·
              rw [if_pos c20] at H; have c20b0 : decide (0 ≤ x7_2) = true := decide_eq_true c20; clear c20; by_cases c21 : x7_2 < (l1.length : Int)
              ·
               rw [if_pos c21] at H; have c21b0 : decide (x7_2 < (l1.length : Int)) = true := decide_eq_true c21; clear c21; have H' := Aside0.mk H; clear H; have p567 : 0 ≤ (x6_2 : Int) := d_; have q567 : x6_2 < (l0.length : Int) := d_; obtain ⟨ad567, e567, hx567_0, hx567_1⟩ := at_T60 (Kd.C_below HR0.out HB.out) x6_2 p567 q567; cases e567; replace p567 := eq_true p567; replace q567 := eq_true q567; have p568 : 0 ≤ (x7_2 : Int) := d_; have q568 : x7_2 < (l1.length : Int) := d_; obtain ⟨ad568, e568, hx568_0, hx568_1⟩ := at_T60 (Kd.C_below HR1.out HB.out) x7_2 p568 q568; cases e568; replace p568 := eq_true p568; replace q568 := eq_true q568; go_wp2
               repeat (go_quiet (fail); try go_wp2)
               go_meet
               case rel => exact ⟨_, (decide (((rd_T60 l0 x6_2).f0) ≤ ((rd_T60 l1 x7_2).f0))), (by first | rfl | (simp; done) | (simp [*]; done)), H', ⟨by have := HJ2.out; have := HK2.out; have := HJ12.out; first | omega | exact Nat.le_refl _⟩, ⟨(a2_ HO_5.out)⟩, ⟨(a1_ HB.out)⟩⟩
              ·
               rw [if_neg c21] at H; exact absurd H (by simp)
             ·
              rw [if_neg c20] at H; exact absurd H (by simp)
            ·
             rw [if_neg c19] at H; exact absurd H (by simp)
           ·
            rw [if_neg c18] at H; have c18b0 : decide (x6_2 < (l0.length : Int)) = false := decide_eq_false c18; clear c18; have H' := Aside0.mk H; clear H; go_wp2
            repeat (go_quiet (fail); try go_wp2)
            go_meet
            case rel => exact ⟨_, (false), (by first | rfl | (simp; done) | (simp [*]; done)), H', ⟨by have := HJ2.out; have := HK2.out; have := HJ12.out; first | omega | exact Nat.le_refl _⟩, ⟨(a2_ HO_5.out)⟩, ⟨(a1_ HB.out)⟩⟩
         case rest =>
          clear HC16; (try clear c1); (try clear c2); (try clear p2); (try clear p5); (try clear q5); (try clear hx5); (try clear c7); (try clear c12); (try clear c14); (try clear c14b0); (try clear c15); (try clear c17); (try clear c17b0); (try clear c18); (try clear c18b0); (try clear c19); (try clear c19b0); (try clear c20); (try clear c20b0); (try clear c21); (try clear c21b0); (try clear hx567_0); (try clear hx567_1); (try clear hx568_0); (try clear hx568_1); (try clear p2); (try clear p567); (try clear p568); (try clear q567); (try clear q568); obtain ⟨kq, x50_15, rfl, HA, HJ15, HO_5, HB⟩ := hcut
          cases kq with
          | zero => exact absurd HA.out (by simp [spec_SpansJoin.j3])
          | succ kj15 =>
           have H := HA.out; clear HA; simp only [spec_SpansJoin.j3] at H; by_cases c22 : x50_15 = true
           ·
            subst c22; rw [if_pos rfl] at H; by_cases c23 : 0 ≤ x6_2
            ·
             rw [if_pos c23] at H; have c23b0 : decide (0 ≤ x6_2) = true := decide_eq_true c23; clear c23; by_cases c24 : x6_2 < (l0.length : Int)
             ·
              rw [if_pos c24] at H; have c24b0 : decide (x6_2 < (l0.length : Int)) = true := decide_eq_true c24; clear c24; replace H := Option.bind_eq_some_iff.mp H; obtain ⟨t570, A250, H⟩ := H; have A25 := Aside0.mk A250; clear A250; have H' := Aside0.mk H; clear H; have p569 : 0 ≤ (x6_2 : Int) := d_; have q569 : x6_2 < (l0.length : Int) := d_; obtain ⟨ad569, e569, hx569_0, hx569_1⟩ := at_T60 (Kd.C_below HR0.out HB.out) x6_2 p569 q569; cases e569; replace p569 := eq_true p569; replace q569 := eq_true q569; obtain ⟨Ao26, co26, eo26⟩ := Kd.R_slice HO_5.out; subst eo26; go_wp2_with (first | (go_at_call 56; (with_reducible refine (spec_l15Add.calls kj15 (fun k_ => some k_ = (.slice Ao26 x5_2.length co26 : Value).ownBlock) (.slice Ao26 x5_2.length co26) x5_2 ((rd_T60 l0 x6_2).f0) ((rd_T60 l0 x6_2).f1) t570 w _ ?side1 ?side2 A25.out).mono ?_); (case side1 => exact (a1_ HB.out)); (case side2 => exact Kd.R_tight rfl HO_5.out); rintro e w27 ⟨v571, rfl, ho0, hb, hkp⟩; have n0_ := Aside0.mk (Kd.R_mono (ok' := fun k_ => True) ho0 (fun k_ hk_ => trivial)); have n1_ := Aside0.mk (hb); clear HB; clear HO_5; have HO572 := n0_; have HB := n1_; clear n0_ n1_; (try clear hb); (try clear hkp); (try clear ho0)))
              repeat (go_quiet (first | (go_at_call 56; (with_reducible refine (spec_l15Add.calls kj15 (fun k_ => some k_ = (.slice Ao26 x5_2.length co26 : Value).ownBlock) (.slice Ao26 x5_2.length co26) x5_2 ((rd_T60 l0 x6_2).f0) ((rd_T60 l0 x6_2).f1) t570 w _ ?side1 ?side2 A25.out).mono ?_); (case side1 => exact (a1_ HB.out)); (case side2 => exact Kd.R_tight rfl HO_5.out); rintro e w27 ⟨v571, rfl, ho0, hb, hkp⟩; have n0_ := Aside0.mk (Kd.R_mono (ok' := fun k_ => True) ho0 (fun k_ hk_ => trivial)); have n1_ := Aside0.mk (hb); clear HB; clear HO_5; have HO572 := n0_; have HB := n1_; clear n0_ n1_; (try clear hb); (try clear hkp); (try clear ho0))); try go_wp2_with (first | (go_at_call 56; (with_reducible refine (spec_l15Add.calls kj15 (fun k_ => some k_ = (.slice Ao26 x5_2.length co26 : Value).ownBlock) (.slice Ao26 x5_2.length co26) x5_2 ((rd_T60 l0 x6_2).f0) ((rd_T60 l0 x6_2).f1) t570 w _ ?side1 ?side2 A25.out).mono ?_); (case side1 => exact (a1_ HB.out)); (case side2 => exact Kd.R_tight rfl HO_5.out); rintro e w27 ⟨v571, rfl, ho0, hb, hkp⟩; have n0_ := Aside0.mk (Kd.R_mono (ok' := fun k_ => True) ho0 (fun k_ hk_ => trivial)); have n1_ := Aside0.mk (hb); clear HB; clear HO_5; have HO572 := n0_; have HB := n1_; clear n0_ n1_; (try clear hb); (try clear hkp); (try clear ho0))))
              go_roundg kj15
              case measure => have := HJ2.out; have := HK2.out; have := HJ12.out; have := HJ15.out; omega
              case rel => exact ⟨(t570), (wrap64 (x6_2 + 1)), (x7_2), (by first | rfl | (simp; done) | (simp [*]; done)), (by first | rfl | (simp; done) | (simp [*]; done)), H', ⟨by have := HJ2.out; have := HK2.out; have := HJ12.out; have := HJ15.out; omega⟩, ⟨(a2_ HO572.out)⟩, ⟨(a1_ HB.out)⟩⟩
             ·
              rw [if_neg c24] at H; exact absurd H (by simp)
            ·
             rw [if_neg c23] at H; exact absurd H (by simp)
           ·
            replace c22 := Bool.eq_false_iff.mpr c22; subst c22; rw [if_neg (show ¬ (false = true) by decide)] at H; by_cases c28 : 0 ≤ x7_2
            ·
             rw [if_pos c28] at H; have c28b0 : decide (0 ≤ x7_2) = true := decide_eq_true c28; clear c28; by_cases c29 : x7_2 < (l1.length : Int)
             ·
              rw [if_pos c29] at H; have c29b0 : decide (x7_2 < (l1.length : Int)) = true := decide_eq_true c29; clear c29; replace H := Option.bind_eq_some_iff.mp H; obtain ⟨t574, A300, H⟩ := H; have A30 := Aside0.mk A300; clear A300; have H' := Aside0.mk H; clear H; have p573 : 0 ≤ (x7_2 : Int) := d_; have q573 : x7_2 < (l1.length : Int) := d_; obtain ⟨ad573, e573, hx573_0, hx573_1⟩ := at_T60 (Kd.C_below HR1.out HB.out) x7_2 p573 q573; cases e573; replace p573 := eq_true p573; replace q573 := eq_true q573; obtain ⟨Ao31, co31, eo31⟩ := Kd.R_slice HO_5.out; subst eo31; go_wp2_with (first | (go_at_call 56; (with_reducible refine (spec_l15Add.calls kj15 (fun k_ => some k_ = (.slice Ao31 x5_2.length co31 : Value).ownBlock) (.slice Ao31 x5_2.length co31) x5_2 ((rd_T60 l1 x7_2).f0) ((rd_T60 l1 x7_2).f1) t574 w _ ?side1 ?side2 A30.out).mono ?_); (case side1 => exact (a1_ HB.out)); (case side2 => exact Kd.R_tight rfl HO_5.out); rintro e w32 ⟨v575, rfl, ho0, hb, hkp⟩; have n0_ := Aside0.mk (Kd.R_mono (ok' := fun k_ => True) ho0 (fun k_ hk_ => trivial)); have n1_ := Aside0.mk (hb); clear HB; clear HO_5; have HO576 := n0_; have HB := n1_; clear n0_ n1_; (try clear hb); (try clear hkp); (try clear ho0)))
              repeat (go_quiet (first | (go_at_call 56; (with_reducible refine (spec_l15Add.calls kj15 (fun k_ => some k_ = (.slice Ao31 x5_2.length co31 : Value).ownBlock) (.slice Ao31 x5_2.length co31) x5_2 ((rd_T60 l1 x7_2).f0) ((rd_T60 l1 x7_2).f1) t574 w _ ?side1 ?side2 A30.out).mono ?_); (case side1 => exact (a1_ HB.out)); (case side2 => exact Kd.R_tight rfl HO_5.out); rintro e w32 ⟨v575, rfl, ho0, hb, hkp⟩; have n0_ := Aside0.mk (Kd.R_mono (ok' := fun k_ => True) ho0 (fun k_ hk_ => trivial)); have n1_ := Aside0.mk (hb); clear HB; clear HO_5; have HO576 := n0_; have HB := n1_; clear n0_ n1_; (try clear hb); (try clear hkp); (try clear ho0))); try go_wp2_with (first | (go_at_call 56; (with_reducible refine (spec_l15Add.calls kj15 (fun k_ => some k_ = (.slice Ao31 x5_2.length co31 : Value).ownBlock) (.slice Ao31 x5_2.length co31) x5_2 ((rd_T60 l1 x7_2).f0) ((rd_T60 l1 x7_2).f1) t574 w _ ?side1 ?side2 A30.out).mono ?_); (case side1 => exact (a1_ HB.out)); (case side2 => exact Kd.R_tight rfl HO_5.out); rintro e w32 ⟨v575, rfl, ho0, hb, hkp⟩; have n0_ := Aside0.mk (Kd.R_mono (ok' := fun k_ => True) ho0 (fun k_ hk_ => trivial)); have n1_ := Aside0.mk (hb); clear HB; clear HO_5; have HO576 := n0_; have HB := n1_; clear n0_ n1_; (try clear hb); (try clear hkp); (try clear ho0))))
              go_roundg kj15
              case measure => have := HJ2.out; have := HK2.out; have := HJ12.out; have := HJ15.out; omega
              case rel => exact ⟨(t574), (x6_2), (wrap64 (x7_2 + 1)), (by first | rfl | (simp; done) | (simp [*]; done)), (by first | rfl | (simp; done) | (simp [*]; done)), H', ⟨by have := HJ2.out; have := HK2.out; have := HJ12.out; have := HJ15.out; omega⟩, ⟨(a2_ HO576.out)⟩, ⟨(a1_ HB.out)⟩⟩
             ·
              rw [if_neg c29] at H; exact absurd H (by simp)
            ·
             rw [if_neg c28] at H; exact absurd H (by simp)
        ·
         replace c15 := Bool.eq_false_iff.mpr c15; subst c15; rw [if_neg (show ¬ (false = true) by decide)] at H; by_cases c33 : (x5_2.length : Int) > 400
         ·
          rw [if_pos c33] at H; have c33b0 : decide (400 < (x5_2.length : Int)) = true := decide_eq_true c33; have c33b1 : decide (400 < x5_2.length) = true := decide_eq_true (by omega); clear c33; obtain ⟨y564, hy564⟩ : ∃ y_ : List (S60), y_ = (([] : List (S60))) := ⟨_, rfl⟩; replace H : (some y564) = some r := by first | (rw [hy564]; exact H) | exact H
          have Ny564 := Aside0.mk hy564; clear hy564; obtain rfl := Option.some.inj H; obtain ⟨Ao34, co34, eo34⟩ := Kd.R_slice HO_5.out; subst eo34; go_wp2_with (first | ((with_reducible refine gate_dst (N := 70) rfl ?_); (try (refine gate_guard (by rfl) ?_; dsimp only)); refine Kd.R_lit k60 _ 60 ?hg (N := 70) ?hd (xs := ([] : List (S60))) (inner := []) (ok := fun _ => True) (okp := fun _ => True) ?hr ?hp (fun _ hk => hk) trivial (Below.refl _ _) (Nat.le_refl _) (by simp) ?_; (case hd => rfl); (case hg => rfl); (case hr => first | (go_simp; done) | (go_simp; rfl)); (case hp => exact (Reps.none _ _)); intro v565 w35 ho36 hb hg_ hnew_; clear hg_ hnew_; (first | rw [← Ny564.out] at ho36 | (simp only [Int.reduceToNat] at ho36; rw [← Ny564.out] at ho36)); have HO566 := Aside0.mk (Kd.R_lower (Kd.R_new' ho36 (Kd.R_lt HO_5.out)) (below_size HB.out)); replace HO_5 := Aside0.mk (Kd.R_elder' HO_5.out (Kd.R_base ho36) hb); replace HB := Aside0.mk (below_step HB.out hb); clear hb ho36))
          repeat (go_quiet (first | ((with_reducible refine gate_dst (N := 70) rfl ?_); (try (refine gate_guard (by rfl) ?_; dsimp only)); refine Kd.R_lit k60 _ 60 ?hg (N := 70) ?hd (xs := ([] : List (S60))) (inner := []) (ok := fun _ => True) (okp := fun _ => True) ?hr ?hp (fun _ hk => hk) trivial (Below.refl _ _) (Nat.le_refl _) (by simp) ?_; (case hd => rfl); (case hg => rfl); (case hr => first | (go_simp; done) | (go_simp; rfl)); (case hp => exact (Reps.none _ _)); intro v565 w35 ho36 hb hg_ hnew_; clear hg_ hnew_; (first | rw [← Ny564.out] at ho36 | (simp only [Int.reduceToNat] at ho36; rw [← Ny564.out] at ho36)); have HO566 := Aside0.mk (Kd.R_lower (Kd.R_new' ho36 (Kd.R_lt HO_5.out)) (below_size HB.out)); replace HO_5 := Aside0.mk (Kd.R_elder' HO_5.out (Kd.R_base ho36) hb); replace HB := Aside0.mk (below_step HB.out hb); clear hb ho36)); try go_wp2_with (first | ((with_reducible refine gate_dst (N := 70) rfl ?_); (try (refine gate_guard (by rfl) ?_; dsimp only)); refine Kd.R_lit k60 _ 60 ?hg (N := 70) ?hd (xs := ([] : List (S60))) (inner := []) (ok := fun _ => True) (okp := fun _ => True) ?hr ?hp (fun _ hk => hk) trivial (Below.refl _ _) (Nat.le_refl _) (by simp) ?_; (case hd => rfl); (case hg => rfl); (case hr => first | (go_simp; done) | (go_simp; rfl)); (case hp => exact (Reps.none _ _)); intro v565 w35 ho36 hb hg_ hnew_; clear hg_ hnew_; (first | rw [← Ny564.out] at ho36 | (simp only [Int.reduceToNat] at ho36; rw [← Ny564.out] at ho36)); have HO566 := Aside0.mk (Kd.R_lower (Kd.R_new' ho36 (Kd.R_lt HO_5.out)) (below_size HB.out)); replace HO_5 := Aside0.mk (Kd.R_elder' HO_5.out (Kd.R_base ho36) hb); replace HB := Aside0.mk (below_step HB.out hb); clear hb ho36)))
          go_ret
          exact ⟨_, a3_, by (with_reducible repeat (first | apply Kd.R_alloc | apply Kd.R_drewN | apply Kd.R_drew)); exact Kd.R_mono HO566.out (fun _ hk => trivial), (a1_ HB.out)⟩
         ·
          rw [if_neg c33] at H; have c33b0 : decide (400 < (x5_2.length : Int)) = false := decide_eq_false c33; have c33b1 : decide (400 < x5_2.length) = false := decide_eq_false (by omega); clear c33; obtain rfl := Option.some.inj H; obtain ⟨Ao37, co37, eo37⟩ := Kd.R_slice HO_5.out; subst eo37; go_wp2
          repeat (go_quiet (fail); try go_wp2)
          go_ret
          exact ⟨_, a3_, (a2_ HO_5.out), (a1_ HB.out)⟩

end Go.Proofs.Ytepbkhgffjinjaa.Print
