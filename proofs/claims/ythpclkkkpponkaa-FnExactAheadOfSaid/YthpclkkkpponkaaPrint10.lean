-- Printed by wip/myprint.py over the kit's print, in this session's own call.
import Derived.Test.YthpclkkkpponkaaPrint0
import Derived.Test.YthpclkkkpponkaaPrint9
namespace Go.Proofs.Ythpclkkkpponkaa.Print
open Go.RowKit Go.Proofs.YthpclkkkpponkaaW.PrintWords Go.Proofs.YthpclkkkpponkaaW.PrintLast Go.Proofs.YthpclkkkpponkaaW.PrintMore
attribute [local go_sem] max2_int min2_int max_two min_two max_three min_three max_four min_four   -- for this text's walks alone
set_option maxHeartbeats 8000000
set_option maxRecDepth 100000
set_option linter.unusedVariables false
set_option linter.unusedSimpArgs false

/-! ### impl_increasing: function 60 -/
def impl_increasing.l0 : Nat → List Int → Int → Int → List Int → Int → Int → Option (Bool)
  | 0, _, _, _, _, _, _ => none
  | k + 1, x0, x1, x2, x9, x10, x11 => if x11 < x10 then (if 0 ≤ x11 then (if x11 < (x9.length : Int) then ((impl_in.f (rd x9 x11) x1 x2).bind fun t278 => (if t278 = true then (if x11 > 0 then (if 0 ≤ (wrap64 (x11 - 1)) then (if (wrap64 (x11 - 1)) < (x0.length : Int) then (if (rd x0 (wrap64 (x11 - 1))) ≥ (rd x9 x11) then (some false) else (impl_increasing.l0 k x0 x1 x2 x9 x10 (wrap64 (x11 + 1)))) else (none)) else (none)) else (impl_increasing.l0 k x0 x1 x2 x9 x10 (wrap64 (x11 + 1)))) else (some false))) else (none)) else (none)) else (some true)
def impl_increasing.f (k : Nat) (l0 : List Int) (a1 : Int) (a2 : Int) : Option (Bool) := impl_increasing.l0 k l0 a1 a2 l0 (l0.length : Int) 0
theorem impl_increasing.mono_l : ∀ k, (∀ y0 y1 y2 y3 y4 y5, LeO (impl_increasing.l0 k y0 y1 y2 y3 y4 y5) (impl_increasing.l0 (k + 1) y0 y1 y2 y3 y4 y5))
  | 0 => fun _ _ _ _ _ _ r h => by simp [impl_increasing.l0] at h
  | k + 1 => by
    have ih0 := impl_increasing.mono_l k
    · intro y0 y1 y2 y3 y4 y5
      unfold impl_increasing.l0
      repeat' first | (with_reducible exact ih0 _ _ _ _ _ _) | (with_reducible exact LeO.refl _) | (with_reducible exact LeO.none _) | (with_reducible refine LeO.ite ?_ ?_) | (with_reducible refine LeO.bind ?_ (fun _ => ?_)) | exact ih0 _ _ _ _ _ _ | exact LeO.none _ | refine LeO.ite ?_ ?_ | refine LeO.bind ?_ (fun _ => ?_)
theorem impl_increasing.mono : ∀ a0 a1 a2 k, LeO (impl_increasing.f k a0 a1 a2) (impl_increasing.f (k + 1) a0 a1 a2) := by
  intro a0 a1 a2 k
  have ih0 := impl_increasing.mono_l k
  unfold impl_increasing.f
  repeat' first | (with_reducible exact ih0 _ _ _ _ _ _) | (with_reducible exact LeO.refl _) | (with_reducible exact LeO.none _) | (with_reducible refine LeO.ite ?_ ?_) | (with_reducible refine LeO.bind ?_ (fun _ => ?_)) | exact ih0 _ _ _ _ _ _ | exact LeO.none _ | refine LeO.ite ?_ ?_ | refine LeO.bind ?_ (fun _ => ?_)
theorem impl_increasing.calls (k : Nat) (A0 : Option Addr) (c0 : Nat) (l0 : List Int) (a1 : Int) (a2 : Int) (r : Bool) (w : World) (hr0 : Kd.C (Kd.int .i64) w A0 l0.length l0) (hc0 : l0.length ≤ c0) (h : impl_increasing.f k l0 a1 a2 = some r) :
    Calls Try.prog 60 #[.slice A0 l0.length c0, .int .i64 a1, .int .i64 a2] w fun e w' => e = .returned (.bool r) ∧ Drawn0 w w' := by
 have HR0 := Aside0.mk hr0; have HC0 := Aside0.mk hc0; clear hr0 hc0; have H : (impl_increasing.l0 k l0 a1 a2 l0 (l0.length : Int) 0) = some r := h; clear h; have H' := Aside0.mk H; clear H; go_enter Try.func60, Try.ntmps60; go_wp2
 go_loopg [11] k (fun kq v11 w' => ∃ (x11_1 : Int), v11 = .int .i64 x11_1 ∧ Aside0 (impl_increasing.l0 kq l0 a1 a2 l0 (l0.length : Int) x11_1 = some r) ∧ Aside0 (kq ≤ k) ∧ Drawn0 w w')
 case atStart => exact ⟨(0), (by first | rfl | (simp; done) | (simp [*]; done)), H', ⟨Nat.le_refl _⟩, by repeat (first | exact Drawn0.refl _ | apply Drawn0.step)⟩
 case round =>
  clear H'; (try clear p2); obtain ⟨x11_1, rfl, HA, HK1, ⟨m1, rfl⟩⟩ := hrel
  cases gk with
  | zero => exact absurd HA.out (by simp [impl_increasing.l0])
  | succ k1 =>
   have H := HA.out; clear HA; simp only [impl_increasing.l0] at H; by_cases c4 : x11_1 < (l0.length : Int)
   ·
    rw [if_pos c4] at H; have c4b0 : decide (x11_1 < (l0.length : Int)) = true := decide_eq_true c4; clear c4; by_cases c5 : 0 ≤ x11_1
    ·
     rw [if_pos c5] at H; have c5b0 : decide (0 ≤ x11_1) = true := decide_eq_true c5; clear c5; by_cases c6 : x11_1 < (l0.length : Int)
     ·
      rw [if_pos c6] at H; have c6b0 : decide (x11_1 < (l0.length : Int)) = true := decide_eq_true c6; clear c6; replace H := Option.bind_eq_some_iff.mp H; obtain ⟨t278, A70, H⟩ := H; have A7 := Aside0.mk A70; clear A70; by_cases c8 : t278 = true
      ·
       subst c8; rw [if_pos rfl] at H; by_cases c9 : x11_1 > 0
       ·
        rw [if_pos c9] at H; have c9b0 : decide (0 < x11_1) = true := decide_eq_true c9; clear c9; obtain ⟨ji10, hji10⟩ : ∃ j_ : Int, (wrap64 (x11_1 - 1)) = j_ := ⟨_, rfl⟩; replace H : (if 0 ≤ (ji10) then (if (ji10) < (l0.length : Int) then (if (rd l0 (ji10)) ≥ (rd l0 x11_1) then (some false) else (impl_increasing.l0 k1 l0 a1 a2 l0 (l0.length : Int) (wrap64 (x11_1 + 1)))) else (none)) else (none)) = some r := by first | (rw [hji10] at H; exact H) | (simp only [hji10] at H ⊢; exact H)
        (try rw [hji10] at A7)
        have hji10w : (IntKind.i64.wrap (x11_1 - 1)) = ji10 := (i64_w _).trans hji10; by_cases c11 : 0 ≤ (ji10)
        ·
         rw [if_pos c11] at H; have c11b0 : decide (0 ≤ (ji10)) = true := decide_eq_true c11; clear c11; by_cases c12 : (ji10) < (l0.length : Int)
         ·
          rw [if_pos c12] at H; have c12b0 : decide ((ji10) < (l0.length : Int)) = true := decide_eq_true c12; clear c12; by_cases c13 : (rd l0 (ji10)) ≥ (rd l0 x11_1)
          ·
           rw [if_pos c13] at H; have c13b0 : decide ((rd l0 x11_1) ≤ (rd l0 (ji10))) = true := decide_eq_true c13; clear c13; obtain rfl := Option.some.inj H; have p277 : 0 ≤ (x11_1 : Int) := d_; have q277 : x11_1 < (l0.length : Int) := d_; obtain ⟨ad277, e277, hx277_0⟩ := Kd.at_int HR0.out x11_1 p277 q277; cases e277; replace p277 := eq_true p277; replace q277 := eq_true q277; go_wp2_with (first | ((with_reducible refine gate_callee (f := 40) rfl ?_); refine gl_ (some 19) Try.func40 #[.int .i64 (rd l0 x11_1), .int .i64 a1, .int .i64 a2] ?_; (with_reducible refine (impl_in.calls (rd l0 x11_1) a1 a2 true _ A7.out).mono ?_); rintro e w' ⟨rfl, ⟨nd, rfl⟩⟩; refine ⟨_, rfl, ?_⟩; have p279 : 0 ≤ ((ji10) : Int) := d_; have q279 : (ji10) < (l0.length : Int) := d_; obtain ⟨ad279, e279, hx279_0⟩ := Kd.at_int HR0.out (ji10) p279 q279; obtain rfl : ad277 = ad279 := (by injection e279); replace p279 := eq_true p279; replace q279 := eq_true q279))
           go_ret
           exact ⟨by first | rfl | (simp; done) | (simp only [← hji10] <;> (first | rfl | simp)) | (simp [*]; done), by repeat (first | exact Drawn0.refl _ | apply Drawn0.step)⟩
          ·
           rw [if_neg c13] at H; have c13b0 : decide ((rd l0 x11_1) ≤ (rd l0 (ji10))) = false := decide_eq_false c13; clear c13; have H' := Aside0.mk H; clear H; have p277 : 0 ≤ (x11_1 : Int) := d_; have q277 : x11_1 < (l0.length : Int) := d_; obtain ⟨ad277, e277, hx277_0⟩ := Kd.at_int HR0.out x11_1 p277 q277; cases e277; replace p277 := eq_true p277; replace q277 := eq_true q277; go_wp2_with (first | ((with_reducible refine gate_callee (f := 40) rfl ?_); refine gl_ (some 19) Try.func40 #[.int .i64 (rd l0 x11_1), .int .i64 a1, .int .i64 a2] ?_; (with_reducible refine (impl_in.calls (rd l0 x11_1) a1 a2 true _ A7.out).mono ?_); rintro e w' ⟨rfl, ⟨nd, rfl⟩⟩; refine ⟨_, rfl, ?_⟩; have p279 : 0 ≤ ((ji10) : Int) := d_; have q279 : (ji10) < (l0.length : Int) := d_; obtain ⟨ad279, e279, hx279_0⟩ := Kd.at_int HR0.out (ji10) p279 q279; obtain rfl : ad277 = ad279 := (by injection e279); replace p279 := eq_true p279; replace q279 := eq_true q279))
           go_roundg k1
           case measure => have := HK1.out; omega
           case rel => exact ⟨(wrap64 (x11_1 + 1)), (by first | rfl | (simp; done) | (simp [*]; done)), H', ⟨by have := HK1.out; omega⟩, by repeat (first | exact Drawn0.refl _ | apply Drawn0.step)⟩
         ·
          rw [if_neg c12] at H; exact absurd H (by simp)
        ·
         rw [if_neg c11] at H; exact absurd H (by simp)
       ·
        rw [if_neg c9] at H; have c9b0 : decide (0 < x11_1) = false := decide_eq_false c9; clear c9; have H' := Aside0.mk H; clear H; have p277 : 0 ≤ (x11_1 : Int) := d_; have q277 : x11_1 < (l0.length : Int) := d_; obtain ⟨ad277, e277, hx277_0⟩ := Kd.at_int HR0.out x11_1 p277 q277; cases e277; replace p277 := eq_true p277; replace q277 := eq_true q277; go_wp2_with (first | ((with_reducible refine gate_callee (f := 40) rfl ?_); refine gl_ (some 19) Try.func40 #[.int .i64 (rd l0 x11_1), .int .i64 a1, .int .i64 a2] ?_; (with_reducible refine (impl_in.calls (rd l0 x11_1) a1 a2 true _ A7.out).mono ?_); rintro e w' ⟨rfl, ⟨nd, rfl⟩⟩; refine ⟨_, rfl, ?_⟩))
        go_roundg k1
        case measure => have := HK1.out; omega
        case rel => exact ⟨(wrap64 (x11_1 + 1)), (by first | rfl | (simp; done) | (simp [*]; done)), H', ⟨by have := HK1.out; omega⟩, by repeat (first | exact Drawn0.refl _ | apply Drawn0.step)⟩
      ·
       replace c8 := Bool.eq_false_iff.mpr c8; subst c8; rw [if_neg (show ¬ (false = true) by decide)] at H; obtain rfl := Option.some.inj H; have p277 : 0 ≤ (x11_1 : Int) := d_; have q277 : x11_1 < (l0.length : Int) := d_; obtain ⟨ad277, e277, hx277_0⟩ := Kd.at_int HR0.out x11_1 p277 q277; cases e277; replace p277 := eq_true p277; replace q277 := eq_true q277; go_wp2_with (first | ((with_reducible refine gate_callee (f := 40) rfl ?_); refine gl_ (some 19) Try.func40 #[.int .i64 (rd l0 x11_1), .int .i64 a1, .int .i64 a2] ?_; (with_reducible refine (impl_in.calls (rd l0 x11_1) a1 a2 false _ A7.out).mono ?_); rintro e w' ⟨rfl, ⟨nd, rfl⟩⟩; refine ⟨_, rfl, ?_⟩))
       go_ret
       exact ⟨by first | rfl | (simp; done) | (simp [*]; done), by repeat (first | exact Drawn0.refl _ | apply Drawn0.step)⟩
     ·
      rw [if_neg c6] at H; exact absurd H (by simp)
    ·
     rw [if_neg c5] at H; exact absurd H (by simp)
   ·
    rw [if_neg c4] at H; have c4b0 : decide (x11_1 < (l0.length : Int)) = false := decide_eq_false c4; clear c4; obtain rfl := Option.some.inj H; go_wp2
    go_ret
    exact ⟨by first | rfl | (simp; done) | (simp [*]; done), by repeat (first | exact Drawn0.refl _ | apply Drawn0.step)⟩

/-! ### slices_Index_int64_int64: function 63 -/
def slices_Index_int64_int64.l0 : Nat → List Int → Int → Int → Int → Option (Int)
  | 0, _, _, _, _ => none
  | k + 1, x0, x1, x7, x8 => if x8 < x7 then (if 0 ≤ x8 then (if x8 < (x0.length : Int) then (if x1 = (rd x0 x8) then (some x8) else (slices_Index_int64_int64.l0 k x0 x1 x7 (wrap64 (x8 + 1)))) else (none)) else (none)) else (some (-1))
def slices_Index_int64_int64.f (k : Nat) (l0 : List Int) (a1 : Int) : Option (Int) := slices_Index_int64_int64.l0 k l0 a1 (l0.length : Int) 0
theorem slices_Index_int64_int64.mono_l : ∀ k, (∀ y0 y1 y2 y3, LeO (slices_Index_int64_int64.l0 k y0 y1 y2 y3) (slices_Index_int64_int64.l0 (k + 1) y0 y1 y2 y3))
  | 0 => fun _ _ _ _ r h => by simp [slices_Index_int64_int64.l0] at h
  | k + 1 => by
    have ih0 := slices_Index_int64_int64.mono_l k
    · intro y0 y1 y2 y3
      unfold slices_Index_int64_int64.l0
      repeat' first | (with_reducible exact ih0 _ _ _ _) | (with_reducible exact LeO.refl _) | (with_reducible exact LeO.none _) | (with_reducible refine LeO.ite ?_ ?_) | (with_reducible refine LeO.bind ?_ (fun _ => ?_)) | exact ih0 _ _ _ _ | exact LeO.none _ | refine LeO.ite ?_ ?_ | refine LeO.bind ?_ (fun _ => ?_)
theorem slices_Index_int64_int64.mono : ∀ a0 a1 k, LeO (slices_Index_int64_int64.f k a0 a1) (slices_Index_int64_int64.f (k + 1) a0 a1) := by
  intro a0 a1 k
  have ih0 := slices_Index_int64_int64.mono_l k
  unfold slices_Index_int64_int64.f
  repeat' first | (with_reducible exact ih0 _ _ _ _) | (with_reducible exact LeO.refl _) | (with_reducible exact LeO.none _) | (with_reducible refine LeO.ite ?_ ?_) | (with_reducible refine LeO.bind ?_ (fun _ => ?_)) | exact ih0 _ _ _ _ | exact LeO.none _ | refine LeO.ite ?_ ?_ | refine LeO.bind ?_ (fun _ => ?_)
theorem slices_Index_int64_int64.calls (k : Nat) (A0 : Option Addr) (c0 : Nat) (l0 : List Int) (a1 : Int) (r : Int) (w : World) (hr0 : Kd.C (Kd.int .i64) w A0 l0.length l0) (hc0 : l0.length ≤ c0) (h : slices_Index_int64_int64.f k l0 a1 = some r) :
    Calls Try.prog 63 #[.slice A0 l0.length c0, .int .i64 a1] w fun e w' => e = .returned (.int .i64 r) ∧ Drawn0 w w' := by
 have HR0 := Aside0.mk hr0; have HC0 := Aside0.mk hc0; clear hr0 hc0; have H : (slices_Index_int64_int64.l0 k l0 a1 (l0.length : Int) 0) = some r := h; clear h; have H' := Aside0.mk H; clear H; go_enter Try.func63, Try.ntmps63; go_wp2
 go_loopg [8] k (fun kq v8 w' => ∃ (x8_1 : Int), v8 = .int .i64 x8_1 ∧ Aside0 (slices_Index_int64_int64.l0 kq l0 a1 (l0.length : Int) x8_1 = some r) ∧ Aside0 (kq ≤ k) ∧ Drawn0 w w')
 case atStart => exact ⟨(0), (by first | rfl | (simp; done) | (simp [*]; done)), H', ⟨Nat.le_refl _⟩, by repeat (first | exact Drawn0.refl _ | apply Drawn0.step)⟩
 case round =>
  clear H'; (try clear p2); obtain ⟨x8_1, rfl, HA, HK1, ⟨m1, rfl⟩⟩ := hrel
  cases gk with
  | zero => exact absurd HA.out (by simp [slices_Index_int64_int64.l0])
  | succ k1 =>
   have H := HA.out; clear HA; simp only [slices_Index_int64_int64.l0] at H; by_cases c3 : x8_1 < (l0.length : Int)
   ·
    rw [if_pos c3] at H; have c3b0 : decide (x8_1 < (l0.length : Int)) = true := decide_eq_true c3; clear c3; by_cases c4 : 0 ≤ x8_1
    ·
     rw [if_pos c4] at H; have c4b0 : decide (0 ≤ x8_1) = true := decide_eq_true c4; clear c4; by_cases c5 : x8_1 < (l0.length : Int)
     ·
      rw [if_pos c5] at H; have c5b0 : decide (x8_1 < (l0.length : Int)) = true := decide_eq_true c5; clear c5; by_cases c6 : a1 = (rd l0 x8_1)
      ·
       rw [if_pos c6] at H; have c6b0 : (a1 == (rd l0 x8_1)) = true := beq_iff_eq.mpr c6; have c6b1 : (a1 != (rd l0 x8_1)) = false := bne_eq_false_iff_eq.mpr c6; clear c6; obtain rfl := Option.some.inj H; have p280 : 0 ≤ (x8_1 : Int) := d_; have q280 : x8_1 < (l0.length : Int) := d_; obtain ⟨ad280, e280, hx280_0⟩ := Kd.at_int HR0.out x8_1 p280 q280; cases e280; replace p280 := eq_true p280; replace q280 := eq_true q280; go_wp2
       go_ret
       exact ⟨by first | rfl | (simp; done) | (simp [*]; done), by repeat (first | exact Drawn0.refl _ | apply Drawn0.step)⟩
      ·
       rw [if_neg c6] at H; have c6b0 : (a1 == (rd l0 x8_1)) = false := beq_eq_false_iff_ne.mpr c6; have c6b1 : (a1 != (rd l0 x8_1)) = true := bne_iff_ne.mpr c6; have H' := Aside0.mk H; clear H; have p280 : 0 ≤ (x8_1 : Int) := d_; have q280 : x8_1 < (l0.length : Int) := d_; obtain ⟨ad280, e280, hx280_0⟩ := Kd.at_int HR0.out x8_1 p280 q280; cases e280; replace p280 := eq_true p280; replace q280 := eq_true q280; go_wp2
       go_roundg k1
       case measure => have := HK1.out; omega
       case rel => exact ⟨(wrap64 (x8_1 + 1)), (by first | rfl | (simp; done) | (simp [*]; done)), H', ⟨by have := HK1.out; omega⟩, by repeat (first | exact Drawn0.refl _ | apply Drawn0.step)⟩
     ·
      rw [if_neg c5] at H; exact absurd H (by simp)
    ·
     rw [if_neg c4] at H; exact absurd H (by simp)
   ·
    rw [if_neg c3] at H; have c3b0 : decide (x8_1 < (l0.length : Int)) = false := decide_eq_false c3; clear c3; obtain rfl := Option.some.inj H; go_wp2
    go_ret
    exact ⟨by first | rfl | (simp; done) | (simp [*]; done), by repeat (first | exact Drawn0.refl _ | apply Drawn0.step)⟩

/-! ### slices_Contains_int64_int64: function 61 -/
def slices_Contains_int64_int64.f (k : Nat) (l0 : List Int) (a1 : Int) : Option (Bool) := (slices_Index_int64_int64.f k l0 a1).bind fun t281 => (some (decide (t281 ≥ 0)))
theorem slices_Contains_int64_int64.mono : ∀ a0 a1 k, LeO (slices_Contains_int64_int64.f k a0 a1) (slices_Contains_int64_int64.f (k + 1) a0 a1) := by
  intro a0 a1 k
  unfold slices_Contains_int64_int64.f
  repeat' first | (with_reducible exact slices_Index_int64_int64.mono _ _ _) | (with_reducible exact LeO.refl _) | (with_reducible exact LeO.none _) | (with_reducible refine LeO.ite ?_ ?_) | (with_reducible refine LeO.bind ?_ (fun _ => ?_)) | exact slices_Index_int64_int64.mono _ _ _ | exact LeO.none _ | refine LeO.ite ?_ ?_ | refine LeO.bind ?_ (fun _ => ?_)
theorem slices_Contains_int64_int64.calls (k : Nat) (A0 : Option Addr) (c0 : Nat) (l0 : List Int) (a1 : Int) (r : Bool) (w : World) (hr0 : Kd.C (Kd.int .i64) w A0 l0.length l0) (hc0 : l0.length ≤ c0) (h : slices_Contains_int64_int64.f k l0 a1 = some r) :
    Calls Try.prog 61 #[.slice A0 l0.length c0, .int .i64 a1] w fun e w' => e = .returned (.bool r) ∧ Drawn0 w w' := by
 have HR0 := Aside0.mk hr0; have HC0 := Aside0.mk hc0; clear hr0 hc0; have H : ((slices_Index_int64_int64.f k l0 a1).bind fun t281 => (some (decide (t281 ≥ 0)))) = some r := h; clear h; replace H := Option.bind_eq_some_iff.mp H; obtain ⟨t281, A30, H⟩ := H; have A3 := Aside0.mk A30; clear A30; obtain rfl := Option.some.inj H; go_enter Try.func61, Try.ntmps61; go_wp2_with (first | ((with_reducible refine gate_callee (f := 63) rfl ?_); refine gl_ (some 7) Try.func63 #[.slice A0 l0.length c0, .int .i64 a1] ?_; (with_reducible refine (slices_Index_int64_int64.calls k _ _ l0 a1 t281 _ ?side1 HC0.out A3.out).mono ?_); (case side1 => repeat (first | exact HR0.out | (with_reducible refine Kd.C_alloc ?_ _) | (with_reducible refine Kd.C_drewN ?_ _) | (with_reducible refine Kd.C_drew ?_))); rintro e w' ⟨rfl, ⟨nd, rfl⟩⟩; refine ⟨_, rfl, ?_⟩))
 go_ret
 exact ⟨by first | rfl | (simp; done) | (simp [*]; done), by repeat (first | exact Drawn0.refl _ | apply Drawn0.step)⟩

/-! ### impl_Event_fieldsRight: function 62 -/
def impl_Event_fieldsRight.f (a0_0 : Int) (a0_1 : Int) (a0_2 : Int) (a0_3 : Int) (a0_4 : Int) (a0_5 : Int) (a0_6 : ByteArray) (l0_7 : List Int) (a0_8 : Int) : Option (Bool) := if a0_3 = 1 then (if a0_4 = 0 then (if a0_5 = 0 then (some ((a0_6.size : Int) == 0)) else (some false)) else (some false)) else (if a0_3 = 2 then ((impl_isUser.f a0_4).bind fun t283 => (if t283 = true then ((impl_in.f a0_5 1 4).bind fun t284 => (if t284 = true then (some ((a0_6.size : Int) == 0)) else (some false))) else (some false))) else (if a0_3 = 3 then ((impl_isUser.f a0_4).bind fun t285 => (if t285 = true then ((impl_in.f a0_5 0 100).bind fun t286 => (if t286 = true then (some ((a0_6.size : Int) == 0)) else (some false))) else (some false))) else (if a0_3 = 4 then (if a0_4 = 0 then (if a0_5 = 0 then (some (decide ((a0_6.size : Int) ≤ 30))) else (some false)) else (some false)) else (if a0_3 = 5 then (if a0_4 = 0 then ((impl_in.f a0_5 1 2).bind fun t287 => (if t287 = true then (some ((a0_6.size : Int) == 0)) else (some false))) else (some false)) else (if a0_3 = 6 then (if a0_4 = 0 then ((impl_in.f a0_5 1 3).bind fun t288 => (if t288 = true then (some ((a0_6.size : Int) == 0)) else (some false))) else (some false)) else (if a0_3 = 7 then (if a0_4 = 0 then (if a0_5 = 0 then ((impl_in.f (a0_6.size : Int) 1 30).bind fun t289 => (some t289)) else (some false)) else (some false)) else (if a0_3 = 8 then ((impl_isId.f a0_4).bind fun t290 => (if t290 = true then (if a0_5 = 0 then (some ((a0_6.size : Int) == 0)) else (some false)) else (some false))) else (some false))))))))
theorem impl_Event_fieldsRight.calls (a0_0 : Int) (a0_1 : Int) (a0_2 : Int) (a0_3 : Int) (a0_4 : Int) (a0_5 : Int) (a0_6 : ByteArray) (A0_7 : Option Addr) (c0_7 : Nat) (l0_7 : List Int) (a0_8 : Int) (r : Bool) (w : World) (hr0_7 : Kd.C (Kd.int .i64) w A0_7 l0_7.length l0_7) (hc0_7 : l0_7.length ≤ c0_7) (h : impl_Event_fieldsRight.f a0_0 a0_1 a0_2 a0_3 a0_4 a0_5 a0_6 l0_7 a0_8 = some r) :
    Calls Try.prog 62 #[.agg #[.int .i64 a0_0, .int .i64 a0_1, .int .i64 a0_2, .int .i64 a0_3, .int .i64 a0_4, .int .i64 a0_5, .string a0_6, .slice A0_7 l0_7.length c0_7, .int .i64 a0_8]] w fun e w' => e = .returned (.bool r) ∧ Below w.heap.size w w' := by
 have hu39 := Try.underlying39; have HR0_7 := Aside0.mk hr0_7; have HC0_7 := Aside0.mk hc0_7; clear hr0_7 hc0_7; have HB := Aside0.mk (Below.refl w.heap.size w); have H : (if a0_3 = 1 then (if a0_4 = 0 then (if a0_5 = 0 then (some ((a0_6.size : Int) == 0)) else (some false)) else (some false)) else (if a0_3 = 2 then ((impl_isUser.f a0_4).bind fun t283 => (if t283 = true then ((impl_in.f a0_5 1 4).bind fun t284 => (if t284 = true then (some ((a0_6.size : Int) == 0)) else (some false))) else (some false))) else (if a0_3 = 3 then ((impl_isUser.f a0_4).bind fun t285 => (if t285 = true then ((impl_in.f a0_5 0 100).bind fun t286 => (if t286 = true then (some ((a0_6.size : Int) == 0)) else (some false))) else (some false))) else (if a0_3 = 4 then (if a0_4 = 0 then (if a0_5 = 0 then (some (decide ((a0_6.size : Int) ≤ 30))) else (some false)) else (some false)) else (if a0_3 = 5 then (if a0_4 = 0 then ((impl_in.f a0_5 1 2).bind fun t287 => (if t287 = true then (some ((a0_6.size : Int) == 0)) else (some false))) else (some false)) else (if a0_3 = 6 then (if a0_4 = 0 then ((impl_in.f a0_5 1 3).bind fun t288 => (if t288 = true then (some ((a0_6.size : Int) == 0)) else (some false))) else (some false)) else (if a0_3 = 7 then (if a0_4 = 0 then (if a0_5 = 0 then ((impl_in.f (a0_6.size : Int) 1 30).bind fun t289 => (some t289)) else (some false)) else (some false)) else (if a0_3 = 8 then ((impl_isId.f a0_4).bind fun t290 => (if t290 = true then (if a0_5 = 0 then (some ((a0_6.size : Int) == 0)) else (some false)) else (some false))) else (some false))))))))) = some r := h
 clear h; go_enter Try.func62, Try.ntmps62; go_upto_if 17 with (first | ((with_reducible refine gate_dst (N := 1) rfl ?_); refine be_ 1 #[.int .i64 a0_0, .int .i64 a0_1, .int .i64 a0_2, .int .i64 a0_3, .int .i64 a0_4, .int .i64 a0_5, .string a0_6, .slice A0_7 l0_7.length c0_7, .int .i64 a0_8] 39 ?_; intro gb282 hg w5 hbox hb; have BK282 := Aside0.mk (hbox); have GW282 := Aside0.mk ((by rw [hg]; exact (below_size (a1_ HB.out)) : w.heap.size ≤ gb282)); replace HB := Aside0.mk (below_step (a1_ HB.out) hb); have GE282 := GW282; clear hb hbox hg; obtain ⟨⟨hcz6_0, hcz6_1, hcz6_2, hcz6_3, hcz6_4, hcz6_5, hcz6_6, hcz6_7, hcz6_8⟩, hfz6_0, hfz6_1, hfz6_2, hfz6_3, hfz6_4, hfz6_5, hfz6_6, hfz6_7, hfz6_8⟩ := cells_9 BK282.out))
 by_cases c2 : a0_3 = 1
 ·
  rw [if_pos c2] at H; have c2b0 : (a0_3 == 1) = true := beq_iff_eq.mpr c2; have c2b1 : (a0_3 != 1) = false := bne_eq_false_iff_eq.mpr c2; clear c2; (try simp only [c2b0, Bool.not_true, Bool.not_false])
  (try simp only [c2b1, Bool.not_true, Bool.not_false])
  by_cases c3 : a0_4 = 0
  ·
   rw [if_pos c3] at H; have c3b0 : (a0_4 == 0) = true := beq_iff_eq.mpr c3; have c3b1 : (a0_4 != 0) = false := bne_eq_false_iff_eq.mpr c3; clear c3; by_cases c4 : a0_5 = 0
   ·
    rw [if_pos c4] at H; have c4b0 : (a0_5 == 0) = true := beq_iff_eq.mpr c4; have c4b1 : (a0_5 != 0) = false := bne_eq_false_iff_eq.mpr c4; clear c4; obtain rfl := Option.some.inj H; go_wp2
    repeat (go_quiet (fail); try go_wp2)
    go_ret
    exact ⟨a2_, (a3_ HB.out GE282.out)⟩
   ·
    rw [if_neg c4] at H; have c4b0 : (a0_5 == 0) = false := beq_eq_false_iff_ne.mpr c4; have c4b1 : (a0_5 != 0) = true := bne_iff_ne.mpr c4; obtain rfl := Option.some.inj H; go_wp2
    repeat (go_quiet (fail); try go_wp2)
    go_ret
    exact ⟨a2_, (a3_ HB.out GE282.out)⟩
  ·
   rw [if_neg c3] at H; have c3b0 : (a0_4 == 0) = false := beq_eq_false_iff_ne.mpr c3; have c3b1 : (a0_4 != 0) = true := bne_iff_ne.mpr c3; obtain rfl := Option.some.inj H; go_wp2
   repeat (go_quiet (fail); try go_wp2)
   go_ret
   exact ⟨a2_, (a3_ HB.out GE282.out)⟩
 ·
  rw [if_neg c2] at H; have c2b0 : (a0_3 == 1) = false := beq_eq_false_iff_ne.mpr c2; have c2b1 : (a0_3 != 1) = true := bne_iff_ne.mpr c2; (try simp only [c2b0, Bool.not_true, Bool.not_false])
  (try simp only [c2b1, Bool.not_true, Bool.not_false])
  by_cases c11 : a0_3 = 2
  ·
   rw [if_pos c11] at H; have c11b0 : (a0_3 == 2) = true := beq_iff_eq.mpr c11; have c11b1 : (a0_3 != 2) = false := bne_eq_false_iff_eq.mpr c11; clear c11; replace H := Option.bind_eq_some_iff.mp H; obtain ⟨t283, A120, H⟩ := H; have A12 := Aside0.mk A120; clear A120; by_cases c13 : t283 = true
   ·
    subst c13; rw [if_pos rfl] at H; replace H := Option.bind_eq_some_iff.mp H; obtain ⟨t284, A140, H⟩ := H; have A14 := Aside0.mk A140; clear A140; by_cases c15 : t284 = true
    ·
     subst c15; rw [if_pos rfl] at H; obtain rfl := Option.some.inj H; go_wp2_with (first | (go_at_call 58; (with_reducible refine (impl_isUser.calls a0_4 true _ A12.out).mono ?_); rintro e w' ⟨rfl, ⟨nd, rfl⟩⟩; (try exact dd_)) | (go_at_call 40; (with_reducible refine (impl_in.calls a0_5 1 4 true _ A14.out).mono ?_); rintro e w' ⟨rfl, ⟨nd, rfl⟩⟩; (try exact dd_)))
     repeat (go_quiet (first | (go_at_call 58; (with_reducible refine (impl_isUser.calls a0_4 true _ A12.out).mono ?_); rintro e w' ⟨rfl, ⟨nd, rfl⟩⟩; (try exact dd_)) | (go_at_call 40; (with_reducible refine (impl_in.calls a0_5 1 4 true _ A14.out).mono ?_); rintro e w' ⟨rfl, ⟨nd, rfl⟩⟩; (try exact dd_))); try go_wp2_with (first | (go_at_call 58; (with_reducible refine (impl_isUser.calls a0_4 true _ A12.out).mono ?_); rintro e w' ⟨rfl, ⟨nd, rfl⟩⟩; (try exact dd_)) | (go_at_call 40; (with_reducible refine (impl_in.calls a0_5 1 4 true _ A14.out).mono ?_); rintro e w' ⟨rfl, ⟨nd, rfl⟩⟩; (try exact dd_))))
     go_ret
     exact ⟨a2_, (a3_ HB.out GE282.out)⟩
    ·
     replace c15 := Bool.eq_false_iff.mpr c15; subst c15; rw [if_neg (show ¬ (false = true) by decide)] at H; obtain rfl := Option.some.inj H; go_wp2_with (first | (go_at_call 58; (with_reducible refine (impl_isUser.calls a0_4 true _ A12.out).mono ?_); rintro e w' ⟨rfl, ⟨nd, rfl⟩⟩; (try exact dd_)) | (go_at_call 40; (with_reducible refine (impl_in.calls a0_5 1 4 false _ A14.out).mono ?_); rintro e w' ⟨rfl, ⟨nd, rfl⟩⟩; (try exact dd_)))
     repeat (go_quiet (first | (go_at_call 58; (with_reducible refine (impl_isUser.calls a0_4 true _ A12.out).mono ?_); rintro e w' ⟨rfl, ⟨nd, rfl⟩⟩; (try exact dd_)) | (go_at_call 40; (with_reducible refine (impl_in.calls a0_5 1 4 false _ A14.out).mono ?_); rintro e w' ⟨rfl, ⟨nd, rfl⟩⟩; (try exact dd_))); try go_wp2_with (first | (go_at_call 58; (with_reducible refine (impl_isUser.calls a0_4 true _ A12.out).mono ?_); rintro e w' ⟨rfl, ⟨nd, rfl⟩⟩; (try exact dd_)) | (go_at_call 40; (with_reducible refine (impl_in.calls a0_5 1 4 false _ A14.out).mono ?_); rintro e w' ⟨rfl, ⟨nd, rfl⟩⟩; (try exact dd_))))
     go_ret
     exact ⟨a2_, (a3_ HB.out GE282.out)⟩
   ·
    replace c13 := Bool.eq_false_iff.mpr c13; subst c13; rw [if_neg (show ¬ (false = true) by decide)] at H; obtain rfl := Option.some.inj H; go_wp2_with (first | (go_at_call 58; (with_reducible refine (impl_isUser.calls a0_4 false _ A12.out).mono ?_); rintro e w' ⟨rfl, ⟨nd, rfl⟩⟩; (try exact dd_)))
    repeat (go_quiet (first | (go_at_call 58; (with_reducible refine (impl_isUser.calls a0_4 false _ A12.out).mono ?_); rintro e w' ⟨rfl, ⟨nd, rfl⟩⟩; (try exact dd_))); try go_wp2_with (first | (go_at_call 58; (with_reducible refine (impl_isUser.calls a0_4 false _ A12.out).mono ?_); rintro e w' ⟨rfl, ⟨nd, rfl⟩⟩; (try exact dd_))))
    go_ret
    exact ⟨a2_, (a3_ HB.out GE282.out)⟩
  ·
   rw [if_neg c11] at H; have c11b0 : (a0_3 == 2) = false := beq_eq_false_iff_ne.mpr c11; have c11b1 : (a0_3 != 2) = true := bne_iff_ne.mpr c11; by_cases c22 : a0_3 = 3
   ·
    rw [if_pos c22] at H; have c22b0 : (a0_3 == 3) = true := beq_iff_eq.mpr c22; have c22b1 : (a0_3 != 3) = false := bne_eq_false_iff_eq.mpr c22; clear c22; replace H := Option.bind_eq_some_iff.mp H; obtain ⟨t285, A230, H⟩ := H; have A23 := Aside0.mk A230; clear A230; by_cases c24 : t285 = true
    ·
     subst c24; rw [if_pos rfl] at H; replace H := Option.bind_eq_some_iff.mp H; obtain ⟨t286, A250, H⟩ := H; have A25 := Aside0.mk A250; clear A250; by_cases c26 : t286 = true
     ·
      subst c26; rw [if_pos rfl] at H; obtain rfl := Option.some.inj H; go_wp2_with (first | (go_at_call 58; (with_reducible refine (impl_isUser.calls a0_4 true _ A23.out).mono ?_); rintro e w' ⟨rfl, ⟨nd, rfl⟩⟩; (try exact dd_)) | (go_at_call 40; (with_reducible refine (impl_in.calls a0_5 0 100 true _ A25.out).mono ?_); rintro e w' ⟨rfl, ⟨nd, rfl⟩⟩; (try exact dd_)))
      repeat (go_quiet (first | (go_at_call 58; (with_reducible refine (impl_isUser.calls a0_4 true _ A23.out).mono ?_); rintro e w' ⟨rfl, ⟨nd, rfl⟩⟩; (try exact dd_)) | (go_at_call 40; (with_reducible refine (impl_in.calls a0_5 0 100 true _ A25.out).mono ?_); rintro e w' ⟨rfl, ⟨nd, rfl⟩⟩; (try exact dd_))); try go_wp2_with (first | (go_at_call 58; (with_reducible refine (impl_isUser.calls a0_4 true _ A23.out).mono ?_); rintro e w' ⟨rfl, ⟨nd, rfl⟩⟩; (try exact dd_)) | (go_at_call 40; (with_reducible refine (impl_in.calls a0_5 0 100 true _ A25.out).mono ?_); rintro e w' ⟨rfl, ⟨nd, rfl⟩⟩; (try exact dd_))))
      go_ret
      exact ⟨a2_, (a3_ HB.out GE282.out)⟩
     ·
      replace c26 := Bool.eq_false_iff.mpr c26; subst c26; rw [if_neg (show ¬ (false = true) by decide)] at H; obtain rfl := Option.some.inj H; go_wp2_with (first | (go_at_call 58; (with_reducible refine (impl_isUser.calls a0_4 true _ A23.out).mono ?_); rintro e w' ⟨rfl, ⟨nd, rfl⟩⟩; (try exact dd_)) | (go_at_call 40; (with_reducible refine (impl_in.calls a0_5 0 100 false _ A25.out).mono ?_); rintro e w' ⟨rfl, ⟨nd, rfl⟩⟩; (try exact dd_)))
      repeat (go_quiet (first | (go_at_call 58; (with_reducible refine (impl_isUser.calls a0_4 true _ A23.out).mono ?_); rintro e w' ⟨rfl, ⟨nd, rfl⟩⟩; (try exact dd_)) | (go_at_call 40; (with_reducible refine (impl_in.calls a0_5 0 100 false _ A25.out).mono ?_); rintro e w' ⟨rfl, ⟨nd, rfl⟩⟩; (try exact dd_))); try go_wp2_with (first | (go_at_call 58; (with_reducible refine (impl_isUser.calls a0_4 true _ A23.out).mono ?_); rintro e w' ⟨rfl, ⟨nd, rfl⟩⟩; (try exact dd_)) | (go_at_call 40; (with_reducible refine (impl_in.calls a0_5 0 100 false _ A25.out).mono ?_); rintro e w' ⟨rfl, ⟨nd, rfl⟩⟩; (try exact dd_))))
      go_ret
      exact ⟨a2_, (a3_ HB.out GE282.out)⟩
    ·
     replace c24 := Bool.eq_false_iff.mpr c24; subst c24; rw [if_neg (show ¬ (false = true) by decide)] at H; obtain rfl := Option.some.inj H; go_wp2_with (first | (go_at_call 58; (with_reducible refine (impl_isUser.calls a0_4 false _ A23.out).mono ?_); rintro e w' ⟨rfl, ⟨nd, rfl⟩⟩; (try exact dd_)))
     repeat (go_quiet (first | (go_at_call 58; (with_reducible refine (impl_isUser.calls a0_4 false _ A23.out).mono ?_); rintro e w' ⟨rfl, ⟨nd, rfl⟩⟩; (try exact dd_))); try go_wp2_with (first | (go_at_call 58; (with_reducible refine (impl_isUser.calls a0_4 false _ A23.out).mono ?_); rintro e w' ⟨rfl, ⟨nd, rfl⟩⟩; (try exact dd_))))
     go_ret
     exact ⟨a2_, (a3_ HB.out GE282.out)⟩
   ·
    rw [if_neg c22] at H; have c22b0 : (a0_3 == 3) = false := beq_eq_false_iff_ne.mpr c22; have c22b1 : (a0_3 != 3) = true := bne_iff_ne.mpr c22; by_cases c33 : a0_3 = 4
    ·
     rw [if_pos c33] at H; have c33b0 : (a0_3 == 4) = true := beq_iff_eq.mpr c33; have c33b1 : (a0_3 != 4) = false := bne_eq_false_iff_eq.mpr c33; clear c33; by_cases c34 : a0_4 = 0
     ·
      rw [if_pos c34] at H; have c34b0 : (a0_4 == 0) = true := beq_iff_eq.mpr c34; have c34b1 : (a0_4 != 0) = false := bne_eq_false_iff_eq.mpr c34; clear c34; by_cases c35 : a0_5 = 0
      ·
       rw [if_pos c35] at H; have c35b0 : (a0_5 == 0) = true := beq_iff_eq.mpr c35; have c35b1 : (a0_5 != 0) = false := bne_eq_false_iff_eq.mpr c35; clear c35; obtain rfl := Option.some.inj H; go_wp2
       repeat (go_quiet (fail); try go_wp2)
       go_ret
       exact ⟨a2_, (a3_ HB.out GE282.out)⟩
      ·
       rw [if_neg c35] at H; have c35b0 : (a0_5 == 0) = false := beq_eq_false_iff_ne.mpr c35; have c35b1 : (a0_5 != 0) = true := bne_iff_ne.mpr c35; obtain rfl := Option.some.inj H; go_wp2
       repeat (go_quiet (fail); try go_wp2)
       go_ret
       exact ⟨a2_, (a3_ HB.out GE282.out)⟩
     ·
      rw [if_neg c34] at H; have c34b0 : (a0_4 == 0) = false := beq_eq_false_iff_ne.mpr c34; have c34b1 : (a0_4 != 0) = true := bne_iff_ne.mpr c34; obtain rfl := Option.some.inj H; go_wp2
      repeat (go_quiet (fail); try go_wp2)
      go_ret
      exact ⟨a2_, (a3_ HB.out GE282.out)⟩
    ·
     rw [if_neg c33] at H; have c33b0 : (a0_3 == 4) = false := beq_eq_false_iff_ne.mpr c33; have c33b1 : (a0_3 != 4) = true := bne_iff_ne.mpr c33; by_cases c42 : a0_3 = 5
     ·
      rw [if_pos c42] at H; have c42b0 : (a0_3 == 5) = true := beq_iff_eq.mpr c42; have c42b1 : (a0_3 != 5) = false := bne_eq_false_iff_eq.mpr c42; clear c42; by_cases c43 : a0_4 = 0
      ·
       rw [if_pos c43] at H; have c43b0 : (a0_4 == 0) = true := beq_iff_eq.mpr c43; have c43b1 : (a0_4 != 0) = false := bne_eq_false_iff_eq.mpr c43; clear c43; replace H := Option.bind_eq_some_iff.mp H; obtain ⟨t287, A440, H⟩ := H; have A44 := Aside0.mk A440; clear A440; by_cases c45 : t287 = true
       ·
        subst c45; rw [if_pos rfl] at H; obtain rfl := Option.some.inj H; go_wp2_with (first | (go_at_call 40; (with_reducible refine (impl_in.calls a0_5 1 2 true _ A44.out).mono ?_); rintro e w' ⟨rfl, ⟨nd, rfl⟩⟩; (try exact dd_)))
        repeat (go_quiet (first | (go_at_call 40; (with_reducible refine (impl_in.calls a0_5 1 2 true _ A44.out).mono ?_); rintro e w' ⟨rfl, ⟨nd, rfl⟩⟩; (try exact dd_))); try go_wp2_with (first | (go_at_call 40; (with_reducible refine (impl_in.calls a0_5 1 2 true _ A44.out).mono ?_); rintro e w' ⟨rfl, ⟨nd, rfl⟩⟩; (try exact dd_))))
        go_ret
        exact ⟨a2_, (a3_ HB.out GE282.out)⟩
       ·
        replace c45 := Bool.eq_false_iff.mpr c45; subst c45; rw [if_neg (show ¬ (false = true) by decide)] at H; obtain rfl := Option.some.inj H; go_wp2_with (first | (go_at_call 40; (with_reducible refine (impl_in.calls a0_5 1 2 false _ A44.out).mono ?_); rintro e w' ⟨rfl, ⟨nd, rfl⟩⟩; (try exact dd_)))
        repeat (go_quiet (first | (go_at_call 40; (with_reducible refine (impl_in.calls a0_5 1 2 false _ A44.out).mono ?_); rintro e w' ⟨rfl, ⟨nd, rfl⟩⟩; (try exact dd_))); try go_wp2_with (first | (go_at_call 40; (with_reducible refine (impl_in.calls a0_5 1 2 false _ A44.out).mono ?_); rintro e w' ⟨rfl, ⟨nd, rfl⟩⟩; (try exact dd_))))
        go_ret
        exact ⟨a2_, (a3_ HB.out GE282.out)⟩
      ·
       rw [if_neg c43] at H; have c43b0 : (a0_4 == 0) = false := beq_eq_false_iff_ne.mpr c43; have c43b1 : (a0_4 != 0) = true := bne_iff_ne.mpr c43; obtain rfl := Option.some.inj H; go_wp2
       repeat (go_quiet (fail); try go_wp2)
       go_ret
       exact ⟨a2_, (a3_ HB.out GE282.out)⟩
     ·
      rw [if_neg c42] at H; have c42b0 : (a0_3 == 5) = false := beq_eq_false_iff_ne.mpr c42; have c42b1 : (a0_3 != 5) = true := bne_iff_ne.mpr c42; by_cases c52 : a0_3 = 6
      ·
       rw [if_pos c52] at H; have c52b0 : (a0_3 == 6) = true := beq_iff_eq.mpr c52; have c52b1 : (a0_3 != 6) = false := bne_eq_false_iff_eq.mpr c52; clear c52; by_cases c53 : a0_4 = 0
       ·
        rw [if_pos c53] at H; have c53b0 : (a0_4 == 0) = true := beq_iff_eq.mpr c53; have c53b1 : (a0_4 != 0) = false := bne_eq_false_iff_eq.mpr c53; clear c53; replace H := Option.bind_eq_some_iff.mp H; obtain ⟨t288, A540, H⟩ := H; have A54 := Aside0.mk A540; clear A540; by_cases c55 : t288 = true
        ·
         subst c55; rw [if_pos rfl] at H; obtain rfl := Option.some.inj H; go_wp2_with (first | (go_at_call 40; (with_reducible refine (impl_in.calls a0_5 1 3 true _ A54.out).mono ?_); rintro e w' ⟨rfl, ⟨nd, rfl⟩⟩; (try exact dd_)))
         repeat (go_quiet (first | (go_at_call 40; (with_reducible refine (impl_in.calls a0_5 1 3 true _ A54.out).mono ?_); rintro e w' ⟨rfl, ⟨nd, rfl⟩⟩; (try exact dd_))); try go_wp2_with (first | (go_at_call 40; (with_reducible refine (impl_in.calls a0_5 1 3 true _ A54.out).mono ?_); rintro e w' ⟨rfl, ⟨nd, rfl⟩⟩; (try exact dd_))))
         go_ret
         exact ⟨a2_, (a3_ HB.out GE282.out)⟩
        ·
         replace c55 := Bool.eq_false_iff.mpr c55; subst c55; rw [if_neg (show ¬ (false = true) by decide)] at H; obtain rfl := Option.some.inj H; go_wp2_with (first | (go_at_call 40; (with_reducible refine (impl_in.calls a0_5 1 3 false _ A54.out).mono ?_); rintro e w' ⟨rfl, ⟨nd, rfl⟩⟩; (try exact dd_)))
         repeat (go_quiet (first | (go_at_call 40; (with_reducible refine (impl_in.calls a0_5 1 3 false _ A54.out).mono ?_); rintro e w' ⟨rfl, ⟨nd, rfl⟩⟩; (try exact dd_))); try go_wp2_with (first | (go_at_call 40; (with_reducible refine (impl_in.calls a0_5 1 3 false _ A54.out).mono ?_); rintro e w' ⟨rfl, ⟨nd, rfl⟩⟩; (try exact dd_))))
         go_ret
         exact ⟨a2_, (a3_ HB.out GE282.out)⟩
       ·
        rw [if_neg c53] at H; have c53b0 : (a0_4 == 0) = false := beq_eq_false_iff_ne.mpr c53; have c53b1 : (a0_4 != 0) = true := bne_iff_ne.mpr c53; obtain rfl := Option.some.inj H; go_wp2
        repeat (go_quiet (fail); try go_wp2)
        go_ret
        exact ⟨a2_, (a3_ HB.out GE282.out)⟩
      ·
       rw [if_neg c52] at H; have c52b0 : (a0_3 == 6) = false := beq_eq_false_iff_ne.mpr c52; have c52b1 : (a0_3 != 6) = true := bne_iff_ne.mpr c52; by_cases c62 : a0_3 = 7
       ·
        rw [if_pos c62] at H; have c62b0 : (a0_3 == 7) = true := beq_iff_eq.mpr c62; have c62b1 : (a0_3 != 7) = false := bne_eq_false_iff_eq.mpr c62; clear c62; by_cases c63 : a0_4 = 0
        ·
         rw [if_pos c63] at H; have c63b0 : (a0_4 == 0) = true := beq_iff_eq.mpr c63; have c63b1 : (a0_4 != 0) = false := bne_eq_false_iff_eq.mpr c63; clear c63; by_cases c64 : a0_5 = 0
         ·
          rw [if_pos c64] at H; have c64b0 : (a0_5 == 0) = true := beq_iff_eq.mpr c64; have c64b1 : (a0_5 != 0) = false := bne_eq_false_iff_eq.mpr c64; clear c64; replace H := Option.bind_eq_some_iff.mp H; obtain ⟨t289, A650, H⟩ := H; have A65 := Aside0.mk A650; clear A650; obtain rfl := Option.some.inj H; go_wp2_with (first | (go_at_call 40; (with_reducible refine (impl_in.calls (a0_6.size : Int) 1 30 t289 _ A65.out).mono ?_); rintro e w' ⟨rfl, ⟨nd, rfl⟩⟩; (try exact dd_)))
          repeat (go_quiet (first | (go_at_call 40; (with_reducible refine (impl_in.calls (a0_6.size : Int) 1 30 t289 _ A65.out).mono ?_); rintro e w' ⟨rfl, ⟨nd, rfl⟩⟩; (try exact dd_))); try go_wp2_with (first | (go_at_call 40; (with_reducible refine (impl_in.calls (a0_6.size : Int) 1 30 t289 _ A65.out).mono ?_); rintro e w' ⟨rfl, ⟨nd, rfl⟩⟩; (try exact dd_))))
          go_ret
          exact ⟨a2_, (a3_ HB.out GE282.out)⟩
         ·
          rw [if_neg c64] at H; have c64b0 : (a0_5 == 0) = false := beq_eq_false_iff_ne.mpr c64; have c64b1 : (a0_5 != 0) = true := bne_iff_ne.mpr c64; obtain rfl := Option.some.inj H; go_wp2
          repeat (go_quiet (fail); try go_wp2)
          go_ret
          exact ⟨a2_, (a3_ HB.out GE282.out)⟩
        ·
         rw [if_neg c63] at H; have c63b0 : (a0_4 == 0) = false := beq_eq_false_iff_ne.mpr c63; have c63b1 : (a0_4 != 0) = true := bne_iff_ne.mpr c63; obtain rfl := Option.some.inj H; go_wp2
         repeat (go_quiet (fail); try go_wp2)
         go_ret
         exact ⟨a2_, (a3_ HB.out GE282.out)⟩
       ·
        rw [if_neg c62] at H; have c62b0 : (a0_3 == 7) = false := beq_eq_false_iff_ne.mpr c62; have c62b1 : (a0_3 != 7) = true := bne_iff_ne.mpr c62; by_cases c72 : a0_3 = 8
        ·
         rw [if_pos c72] at H; have c72b0 : (a0_3 == 8) = true := beq_iff_eq.mpr c72; have c72b1 : (a0_3 != 8) = false := bne_eq_false_iff_eq.mpr c72; clear c72; replace H := Option.bind_eq_some_iff.mp H; obtain ⟨t290, A730, H⟩ := H; have A73 := Aside0.mk A730; clear A730; by_cases c74 : t290 = true
         ·
          subst c74; rw [if_pos rfl] at H; by_cases c75 : a0_5 = 0
          ·
           rw [if_pos c75] at H; have c75b0 : (a0_5 == 0) = true := beq_iff_eq.mpr c75; have c75b1 : (a0_5 != 0) = false := bne_eq_false_iff_eq.mpr c75; clear c75; obtain rfl := Option.some.inj H; go_wp2_with (first | (go_at_call 57; (with_reducible refine (impl_isId.calls a0_4 true _ A73.out).mono ?_); rintro e w' ⟨rfl, ⟨nd, rfl⟩⟩; (try exact dd_)))
           repeat (go_quiet (first | (go_at_call 57; (with_reducible refine (impl_isId.calls a0_4 true _ A73.out).mono ?_); rintro e w' ⟨rfl, ⟨nd, rfl⟩⟩; (try exact dd_))); try go_wp2_with (first | (go_at_call 57; (with_reducible refine (impl_isId.calls a0_4 true _ A73.out).mono ?_); rintro e w' ⟨rfl, ⟨nd, rfl⟩⟩; (try exact dd_))))
           go_ret
           exact ⟨a2_, (a3_ HB.out GE282.out)⟩
          ·
           rw [if_neg c75] at H; have c75b0 : (a0_5 == 0) = false := beq_eq_false_iff_ne.mpr c75; have c75b1 : (a0_5 != 0) = true := bne_iff_ne.mpr c75; obtain rfl := Option.some.inj H; go_wp2_with (first | (go_at_call 57; (with_reducible refine (impl_isId.calls a0_4 true _ A73.out).mono ?_); rintro e w' ⟨rfl, ⟨nd, rfl⟩⟩; (try exact dd_)))
           repeat (go_quiet (first | (go_at_call 57; (with_reducible refine (impl_isId.calls a0_4 true _ A73.out).mono ?_); rintro e w' ⟨rfl, ⟨nd, rfl⟩⟩; (try exact dd_))); try go_wp2_with (first | (go_at_call 57; (with_reducible refine (impl_isId.calls a0_4 true _ A73.out).mono ?_); rintro e w' ⟨rfl, ⟨nd, rfl⟩⟩; (try exact dd_))))
           go_ret
           exact ⟨a2_, (a3_ HB.out GE282.out)⟩
         ·
          replace c74 := Bool.eq_false_iff.mpr c74; subst c74; rw [if_neg (show ¬ (false = true) by decide)] at H; obtain rfl := Option.some.inj H; go_wp2_with (first | (go_at_call 57; (with_reducible refine (impl_isId.calls a0_4 false _ A73.out).mono ?_); rintro e w' ⟨rfl, ⟨nd, rfl⟩⟩; (try exact dd_)))
          repeat (go_quiet (first | (go_at_call 57; (with_reducible refine (impl_isId.calls a0_4 false _ A73.out).mono ?_); rintro e w' ⟨rfl, ⟨nd, rfl⟩⟩; (try exact dd_))); try go_wp2_with (first | (go_at_call 57; (with_reducible refine (impl_isId.calls a0_4 false _ A73.out).mono ?_); rintro e w' ⟨rfl, ⟨nd, rfl⟩⟩; (try exact dd_))))
          go_ret
          exact ⟨a2_, (a3_ HB.out GE282.out)⟩
        ·
         rw [if_neg c72] at H; have c72b0 : (a0_3 == 8) = false := beq_eq_false_iff_ne.mpr c72; have c72b1 : (a0_3 != 8) = true := bne_iff_ne.mpr c72; obtain rfl := Option.some.inj H; go_wp2
         repeat (go_quiet (fail); try go_wp2)
         go_ret
         exact ⟨a2_, (a3_ HB.out GE282.out)⟩
end Go.Proofs.Ythpclkkkpponkaa.Print
