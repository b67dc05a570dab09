-- Printed by wip/myprint.py over the kit's print, in this session's own call.
import Derived.Test.YtepbkhgffjinjaaPrint9
namespace Go.Proofs.Ytepbkhgffjinjaa.Print
open Go.RowKit Go.Proofs.YtepbkhgffjinjaaW.PrintWords Go.Proofs.YtepbkhgffjinjaaW.PrintLast Go.Proofs.YtepbkhgffjinjaaW.PrintMore
attribute [local go_sem] max2_int min2_int max_two min_two max_three min_three max_four min_four   -- for this text's walks alone
set_option maxHeartbeats 8000000
set_option maxRecDepth 100000
set_option linter.unusedVariables false
set_option linter.unusedSimpArgs false

/-! ### spec_l15In: function 59 -/
def spec_l15In.l0 : Nat → List (S60) → Int → Int → Option (Bool)
  | 0, _, _, _ => none
  | k + 1, x0, x1, x5 => if x5 < (x0.length : Int) then (if 0 ≤ x5 then (if x1 ≥ ((rd_T60 x0 x5).f0) then (if x1 ≤ ((rd_T60 x0 x5).f1) then (some true) else (spec_l15In.l0 k x0 x1 (wrap64 (x5 + 1)))) else (spec_l15In.l0 k x0 x1 (wrap64 (x5 + 1)))) else (none)) else (some false)
def spec_l15In.f (k : Nat) (l0 : List (S60)) (a1 : Int) : Option (Bool) := spec_l15In.l0 k l0 a1 0
theorem spec_l15In.mono_l : ∀ k, (∀ y0 y1 y2, LeO (spec_l15In.l0 k y0 y1 y2) (spec_l15In.l0 (k + 1) y0 y1 y2))
  | 0 => fun _ _ _ r h => by simp [spec_l15In.l0] at h
  | k + 1 => by
    have ih0 := spec_l15In.mono_l k
    · intro y0 y1 y2
      unfold spec_l15In.l0
      repeat' first | (with_reducible exact ih0 _ _ _) | (with_reducible exact LeO.refl _) | (with_reducible exact LeO.none _) | (with_reducible refine LeO.ite ?_ ?_) | (with_reducible refine LeO.bind ?_ (fun _ => ?_)) | exact ih0 _ _ _ | exact LeO.none _ | refine LeO.ite ?_ ?_ | refine LeO.bind ?_ (fun _ => ?_)
theorem spec_l15In.mono : ∀ a0 a1 k, LeO (spec_l15In.f k a0 a1) (spec_l15In.f (k + 1) a0 a1) := by
  intro a0 a1 k
  have ih0 := spec_l15In.mono_l k
  unfold spec_l15In.f
  repeat' first | (with_reducible exact ih0 _ _ _) | (with_reducible exact LeO.refl _) | (with_reducible exact LeO.none _) | (with_reducible refine LeO.ite ?_ ?_) | (with_reducible refine LeO.bind ?_ (fun _ => ?_)) | exact ih0 _ _ _ | exact LeO.none _ | refine LeO.ite ?_ ?_ | refine LeO.bind ?_ (fun _ => ?_)
theorem spec_l15In.calls (k : Nat) (A0 : Option Addr) (c0 : Nat) (l0 : List (S60)) (a1 : Int) (r : Bool) (w : World) (hr0 : Kd.C k60 w A0 l0.length l0) (hc0 : l0.length ≤ c0) (h : spec_l15In.f k l0 a1 = some r) :
    Calls Try.prog 59 #[.slice A0 l0.length c0, .int .i64 a1] w fun e w' => e = .returned (.bool r) ∧ Drawn0 w w' := by
 have HR0 := Aside0.mk hr0; have HC0 := Aside0.mk hc0; clear hr0 hc0; have H : (spec_l15In.l0 k l0 a1 0) = some r := h; clear h; have H' := Aside0.mk H; clear H; go_enter Try.func59, Try.ntmps59; go_wp2
 go_loopg [5] k (fun kq v5 w' => ∃ (x5_1 : Int), v5 = .int .i64 x5_1 ∧ Aside0 (spec_l15In.l0 kq l0 a1 x5_1 = some r) ∧ Aside0 (kq ≤ k) ∧ Drawn0 w w')
 case atStart => exact ⟨(0), (by first | rfl | (simp; done) | (simp [*]; done)), H', ⟨Nat.le_refl _⟩, by repeat (first | exact Drawn0.refl _ | apply Drawn0.step)⟩
 case round =>
  clear H'; (try clear p2); obtain ⟨x5_1, rfl, HA, HK1, ⟨m1, rfl⟩⟩ := hrel
  cases gk with
  | zero => exact absurd HA.out (by simp [spec_l15In.l0])
  | succ k1 =>
   have H := HA.out; clear HA; simp only [spec_l15In.l0] at H; by_cases c3 : x5_1 < (l0.length : Int)
   ·
    rw [if_pos c3] at H; have c3b0 : decide (x5_1 < (l0.length : Int)) = true := decide_eq_true c3; clear c3; by_cases c4 : 0 ≤ x5_1
    ·
     rw [if_pos c4] at H; have c4b0 : decide (0 ≤ x5_1) = true := decide_eq_true c4; clear c4; by_cases c5 : a1 ≥ ((rd_T60 l0 x5_1).f0)
     ·
      rw [if_pos c5] at H; have c5b0 : decide (((rd_T60 l0 x5_1).f0) ≤ a1) = true := decide_eq_true c5; clear c5; by_cases c6 : a1 ≤ ((rd_T60 l0 x5_1).f1)
      ·
       rw [if_pos c6] at H; have c6b0 : decide (a1 ≤ ((rd_T60 l0 x5_1).f1)) = true := decide_eq_true c6; clear c6; obtain rfl := Option.some.inj H; have p603 : 0 ≤ (x5_1 : Int) := d_; have q603 : x5_1 < (l0.length : Int) := d_; obtain ⟨ad603, e603, hx603_0, hx603_1⟩ := at_T60 HR0.out x5_1 p603 q603; cases e603; replace p603 := eq_true p603; replace q603 := eq_true q603; have p604 : 0 ≤ (x5_1 : Int) := d_; have q604 : x5_1 < (l0.length : Int) := d_; obtain ⟨ad604, e604, hx604_0, hx604_1⟩ := at_T60 HR0.out x5_1 p604 q604; obtain rfl : ad603 = ad604 := (by injection e604); replace p604 := eq_true p604; replace q604 := eq_true q604; go_wp2
       go_ret
       exact ⟨by first | rfl | (simp; done) | (simp [*]; done), by repeat (first | exact Drawn0.refl _ | apply Drawn0.step)⟩
      ·
       rw [if_neg c6] at H; have c6b0 : decide (a1 ≤ ((rd_T60 l0 x5_1).f1)) = false := decide_eq_false c6; clear c6; have H' := Aside0.mk H; clear H; have p603 : 0 ≤ (x5_1 : Int) := d_; have q603 : x5_1 < (l0.length : Int) := d_; obtain ⟨ad603, e603, hx603_0, hx603_1⟩ := at_T60 HR0.out x5_1 p603 q603; cases e603; replace p603 := eq_true p603; replace q603 := eq_true q603; have p604 : 0 ≤ (x5_1 : Int) := d_; have q604 : x5_1 < (l0.length : Int) := d_; obtain ⟨ad604, e604, hx604_0, hx604_1⟩ := at_T60 HR0.out x5_1 p604 q604; obtain rfl : ad603 = ad604 := (by injection e604); replace p604 := eq_true p604; replace q604 := eq_true q604; go_wp2
       go_roundg k1
       case measure => have := HK1.out; omega
       case rel => exact ⟨(wrap64 (x5_1 + 1)), (by first | rfl | (simp; done) | (simp [*]; done)), H', ⟨by have := HK1.out; omega⟩, by repeat (first | exact Drawn0.refl _ | apply Drawn0.step)⟩
     ·
      rw [if_neg c5] at H; have c5b0 : decide (((rd_T60 l0 x5_1).f0) ≤ a1) = false := decide_eq_false c5; clear c5; have H' := Aside0.mk H; clear H; have p603 : 0 ≤ (x5_1 : Int) := d_; have q603 : x5_1 < (l0.length : Int) := d_; obtain ⟨ad603, e603, hx603_0, hx603_1⟩ := at_T60 HR0.out x5_1 p603 q603; cases e603; replace p603 := eq_true p603; replace q603 := eq_true q603; go_wp2
      go_roundg k1
      case measure => have := HK1.out; omega
      case rel => exact ⟨(wrap64 (x5_1 + 1)), (by first | rfl | (simp; done) | (simp [*]; done)), H', ⟨by have := HK1.out; omega⟩, by repeat (first | exact Drawn0.refl _ | apply Drawn0.step)⟩
    ·
     rw [if_neg c4] at H; exact absurd H (by simp)
   ·
    rw [if_neg c3] at H; have c3b0 : decide (x5_1 < (l0.length : Int)) = false := decide_eq_false c3; clear c3; obtain rfl := Option.some.inj H; go_wp2
    go_ret
    exact ⟨by first | rfl | (simp; done) | (simp [*]; done), by repeat (first | exact Drawn0.refl _ | apply Drawn0.step)⟩

/-! ### spec_InSpans: function 23 -/
def spec_InSpans.f (k : Nat) (l0 : List (S60)) (a1 : Int) : Option (Bool) := (spec_SpansRight.f k l0).bind fun t605 => (if t605 = true then ((spec_l15In.f k l0 a1).bind fun t606 => (some t606)) else (some false))
theorem spec_InSpans.mono : ∀ a0 a1 k, LeO (spec_InSpans.f k a0 a1) (spec_InSpans.f (k + 1) a0 a1) := by
  intro a0 a1 k
  unfold spec_InSpans.f
  repeat' first | (with_reducible exact spec_SpansRight.mono _ _) | (with_reducible exact spec_l15In.mono _ _ _) | (with_reducible exact LeO.refl _) | (with_reducible exact LeO.none _) | (with_reducible refine LeO.ite ?_ ?_) | (with_reducible refine LeO.bind ?_ (fun _ => ?_)) | exact spec_SpansRight.mono _ _ | exact spec_l15In.mono _ _ _ | exact LeO.none _ | refine LeO.ite ?_ ?_ | refine LeO.bind ?_ (fun _ => ?_)
theorem spec_InSpans.calls (k : Nat) (A0 : Option Addr) (c0 : Nat) (l0 : List (S60)) (a1 : Int) (r : Bool) (w : World) (hr0 : Kd.C k60 w A0 l0.length l0) (hc0 : l0.length ≤ c0) (h : spec_InSpans.f k l0 a1 = some r) :
    Calls Try.prog 23 #[.slice A0 l0.length c0, .int .i64 a1] w fun e w' => e = .returned (.bool r) ∧ Below w.heap.size w w' := by
 have HR0 := Aside0.mk hr0; have HC0 := Aside0.mk hc0; clear hr0 hc0; have HB := Aside0.mk (Below.refl w.heap.size w); have H : ((spec_SpansRight.f k l0).bind fun t605 => (if t605 = true then ((spec_l15In.f k l0 a1).bind fun t606 => (some t606)) else (some false))) = some r := h; clear h; replace H := Option.bind_eq_some_iff.mp H; obtain ⟨t605, A30, H⟩ := H; have A3 := Aside0.mk A30; clear A30; by_cases c4 : t605 = true
 ·
  subst c4; rw [if_pos rfl] at H; replace H := Option.bind_eq_some_iff.mp H; obtain ⟨t606, A50, H⟩ := H; have A5 := Aside0.mk A50; clear A50; obtain rfl := Option.some.inj H; go_enter Try.func23, Try.ntmps23; go_wp2_with (first | ((with_reducible refine gate_callee (f := 25) rfl ?_); refine gl_ (some 6) Try.func25 #[.slice A0 l0.length c0] ?_; (with_reducible refine (spec_SpansRight.calls k _ _ l0 true _ ?side1 HC0.out A3.out).mono ?_); (case side1 => repeat (first | exact HR0.out | (with_reducible refine Kd.C_alloc ?_ _) | (with_reducible refine Kd.C_drewN ?_ _) | (with_reducible refine Kd.C_drew ?_))); rintro e w6 ⟨rfl, hb⟩; refine ⟨_, rfl, ?_⟩; replace HB := Aside0.mk (below_step (a1_ HB.out) hb); (try clear hb); (try clear hb2); (try clear hk); (try clear hi)) | (go_at_call 59; (with_reducible refine (spec_l15In.calls k _ _ l0 a1 t606 _ ?side1 HC0.out A5.out).mono ?_); (case side1 => exact (cb_ HR0.out HB.out)); rintro e w' ⟨rfl, ⟨nd, rfl⟩⟩))
  go_ret
  exact ⟨a3_, (a1_ HB.out)⟩
 ·
  replace c4 := Bool.eq_false_iff.mpr c4; subst c4; rw [if_neg (show ¬ (false = true) by decide)] at H; obtain rfl := Option.some.inj H; go_enter Try.func23, Try.ntmps23; go_wp2_with (first | ((with_reducible refine gate_callee (f := 25) rfl ?_); refine gl_ (some 6) Try.func25 #[.slice A0 l0.length c0] ?_; (with_reducible refine (spec_SpansRight.calls k _ _ l0 false _ ?side1 HC0.out A3.out).mono ?_); (case side1 => repeat (first | exact HR0.out | (with_reducible refine Kd.C_alloc ?_ _) | (with_reducible refine Kd.C_drewN ?_ _) | (with_reducible refine Kd.C_drew ?_))); rintro e w7 ⟨rfl, hb⟩; refine ⟨_, rfl, ?_⟩; replace HB := Aside0.mk (below_step (a1_ HB.out) hb); (try clear hb); (try clear hb2); (try clear hk); (try clear hi)))
  go_ret
  exact ⟨a3_, (a1_ HB.out)⟩

end Go.Proofs.Ytepbkhgffjinjaa.Print
