-- Printed by wip/myprint.py over the kit's print, in this session's own call.
import Derived.Test.YthpclkkkpponkaaPrint0
namespace Go.Proofs.Ythpclkkkpponkaa.Print
open Go.RowKit Go.Proofs.YthpclkkkpponkaaW.PrintWords Go.Proofs.YthpclkkkpponkaaW.PrintLast Go.Proofs.YthpclkkkpponkaaW.PrintMore
attribute [local go_sem] max2_int min2_int max_two min_two max_three min_three max_four min_four   -- for this text's walks alone
set_option maxHeartbeats 8000000
set_option maxRecDepth 100000
set_option linter.unusedVariables false
set_option linter.unusedSimpArgs false

/-! ### spec_l03At: function 22 -/
def spec_l03At.l0 : Nat → List (S39) → Int → Int → Option (Int)
  | 0, _, _, _ => none
  | k + 1, x0, x1, x5 => if x5 < (x0.length : Int) then (if 0 ≤ x5 then (if ((rd_T39 x0 x5).f0) = x1 then (some x5) else (spec_l03At.l0 k x0 x1 (wrap64 (x5 + 1)))) else (none)) else (some (-1))
def spec_l03At.f (k : Nat) (l0 : List (S39)) (a1 : Int) : Option (Int) := spec_l03At.l0 k l0 a1 0
theorem spec_l03At.mono_l : ∀ k, (∀ y0 y1 y2, LeO (spec_l03At.l0 k y0 y1 y2) (spec_l03At.l0 (k + 1) y0 y1 y2))
  | 0 => fun _ _ _ r h => by simp [spec_l03At.l0] at h
  | k + 1 => by
    have ih0 := spec_l03At.mono_l k
    · intro y0 y1 y2
      unfold spec_l03At.l0
      repeat' first | (with_reducible exact ih0 _ _ _) | (with_reducible exact LeO.refl _) | (with_reducible exact LeO.none _) | (with_reducible refine LeO.ite ?_ ?_) | (with_reducible refine LeO.bind ?_ (fun _ => ?_)) | exact ih0 _ _ _ | exact LeO.none _ | refine LeO.ite ?_ ?_ | refine LeO.bind ?_ (fun _ => ?_)
theorem spec_l03At.mono : ∀ a0 a1 k, LeO (spec_l03At.f k a0 a1) (spec_l03At.f (k + 1) a0 a1) := by
  intro a0 a1 k
  have ih0 := spec_l03At.mono_l k
  unfold spec_l03At.f
  repeat' first | (with_reducible exact ih0 _ _ _) | (with_reducible exact LeO.refl _) | (with_reducible exact LeO.none _) | (with_reducible refine LeO.ite ?_ ?_) | (with_reducible refine LeO.bind ?_ (fun _ => ?_)) | exact ih0 _ _ _ | exact LeO.none _ | refine LeO.ite ?_ ?_ | refine LeO.bind ?_ (fun _ => ?_)
theorem spec_l03At.calls (k : Nat) (A0 : Option Addr) (c0 : Nat) (l0 : List (S39)) (a1 : Int) (r : Int) (w : World) (hr0 : Kd.C k39 w A0 l0.length l0) (hc0 : l0.length ≤ c0) (h : spec_l03At.f k l0 a1 = some r) :
    Calls Try.prog 22 #[.slice A0 l0.length c0, .int .i64 a1] w fun e w' => e = .returned (.int .i64 r) ∧ Drawn0 w w' := by
 have HR0 := Aside0.mk hr0; have HC0 := Aside0.mk hc0; clear hr0 hc0; have H : (spec_l03At.l0 k l0 a1 0) = some r := h; clear h; have H' := Aside0.mk H; clear H; go_enter Try.func22, Try.ntmps22; go_wp2
 go_loopg [5] k (fun kq v5 w' => ∃ (x5_1 : Int), v5 = .int .i64 x5_1 ∧ Aside0 (spec_l03At.l0 kq l0 a1 x5_1 = some r) ∧ Aside0 (kq ≤ k) ∧ Drawn0 w w')
 case atStart => exact ⟨(0), (by first | rfl | (simp; done) | (simp [*]; done)), H', ⟨Nat.le_refl _⟩, by repeat (first | exact Drawn0.refl _ | apply Drawn0.step)⟩
 case round =>
  clear H'; (try clear c2); (try clear p2); obtain ⟨x5_1, rfl, HA, HK1, ⟨m1, rfl⟩⟩ := hrel
  cases gk with
  | zero => exact absurd HA.out (by simp [spec_l03At.l0])
  | succ k1 =>
   have H := HA.out; clear HA; simp only [spec_l03At.l0] at H; by_cases c3 : x5_1 < (l0.length : Int)
   ·
    rw [if_pos c3] at H; have c3b0 : decide (x5_1 < (l0.length : Int)) = true := decide_eq_true c3; clear c3; by_cases c4 : 0 ≤ x5_1
    ·
     rw [if_pos c4] at H; have c4b0 : decide (0 ≤ x5_1) = true := decide_eq_true c4; clear c4; by_cases c5 : ((rd_T39 l0 x5_1).f0) = a1
     ·
      rw [if_pos c5] at H; have c5b0 : (((rd_T39 l0 x5_1).f0) == a1) = true := beq_iff_eq.mpr c5; have c5b1 : (((rd_T39 l0 x5_1).f0) != a1) = false := bne_eq_false_iff_eq.mpr c5; clear c5; obtain rfl := Option.some.inj H; have p136 : 0 ≤ (x5_1 : Int) := d_; have q136 : x5_1 < (l0.length : Int) := d_; obtain ⟨ad136, A136_7, c136_7, e136, hx136_0, hx136_1, hx136_2, hx136_3, hx136_4, hx136_5, hx136_6, hx136_7, hx136_8, hl136_7, hi136_7⟩ := at_T39 HR0.out x5_1 p136 q136; cases e136; have HR136_7 := Aside0.mk hi136_7; have HC136_7 := Aside0.mk hl136_7; clear hi136_7 hl136_7; replace p136 := eq_true p136; replace q136 := eq_true q136; go_wp2
      go_ret
      exact ⟨by first | rfl | (simp; done) | (simp [*]; done), by repeat (first | exact Drawn0.refl _ | apply Drawn0.step)⟩
     ·
      rw [if_neg c5] at H; have c5b0 : (((rd_T39 l0 x5_1).f0) == a1) = false := beq_eq_false_iff_ne.mpr c5; have c5b1 : (((rd_T39 l0 x5_1).f0) != a1) = true := bne_iff_ne.mpr c5; have H' := Aside0.mk H; clear H; have p136 : 0 ≤ (x5_1 : Int) := d_; have q136 : x5_1 < (l0.length : Int) := d_; obtain ⟨ad136, A136_7, c136_7, e136, hx136_0, hx136_1, hx136_2, hx136_3, hx136_4, hx136_5, hx136_6, hx136_7, hx136_8, hl136_7, hi136_7⟩ := at_T39 HR0.out x5_1 p136 q136; cases e136; have HR136_7 := Aside0.mk hi136_7; have HC136_7 := Aside0.mk hl136_7; clear hi136_7 hl136_7; replace p136 := eq_true p136; replace q136 := eq_true q136; go_wp2
      go_roundg k1
      case measure => have := HK1.out; omega
      case rel => exact ⟨(wrap64 (x5_1 + 1)), (by first | rfl | (simp; done) | (simp [*]; done)), H', ⟨by have := HK1.out; omega⟩, by repeat (first | exact Drawn0.refl _ | apply Drawn0.step)⟩
    ·
     rw [if_neg c4] at H; exact absurd H (by simp)
   ·
    rw [if_neg c3] at H; have c3b0 : decide (x5_1 < (l0.length : Int)) = false := decide_eq_false c3; clear c3; obtain rfl := Option.some.inj H; go_wp2
    go_ret
    exact ⟨by first | rfl | (simp; done) | (simp [*]; done), by repeat (first | exact Drawn0.refl _ | apply Drawn0.step)⟩

/-! ### spec_l03All: function 21 -/
def spec_l03All.l0 : Nat → List (S39) → Int → Int → Int → Int → Int → Int → Int → ByteArray → List Int → Int → Option (Bool)
  | 0, _, _, _, _, _, _, _, _, _, _, _ => none
  | k + 1, x0, x5, x138000, x138001, x138002, x138003, x138004, x138005, x138006, x138007, x138008 => if x5 < (x138007.length : Int) then (if 0 ≤ x5 then ((spec_l03At.f k x0 (rd x138007 x5)).bind fun t139 => (if t139 < 0 then (some false) else (spec_l03All.l0 k x0 (wrap64 (x5 + 1)) x138000 x138001 x138002 x138003 x138004 x138005 x138006 x138007 x138008))) else (none)) else (some true)
def spec_l03All.f (k : Nat) (l0 : List (S39)) (a1_0 : Int) (a1_1 : Int) (a1_2 : Int) (a1_3 : Int) (a1_4 : Int) (a1_5 : Int) (a1_6 : ByteArray) (l1_7 : List Int) (a1_8 : Int) : Option (Bool) := spec_l03All.l0 k l0 0 a1_0 a1_1 a1_2 a1_3 a1_4 a1_5 a1_6 l1_7 a1_8
theorem spec_l03All.mono_l : ∀ k, (∀ y0 y1 y2 y3 y4 y5 y6 y7 y8 y9 y10, LeO (spec_l03All.l0 k y0 y1 y2 y3 y4 y5 y6 y7 y8 y9 y10) (spec_l03All.l0 (k + 1) y0 y1 y2 y3 y4 y5 y6 y7 y8 y9 y10))
  | 0 => fun _ _ _ _ _ _ _ _ _ _ _ r h => by simp [spec_l03All.l0] at h
  | k + 1 => by
    have ih0 := spec_l03All.mono_l k
    · intro y0 y1 y2 y3 y4 y5 y6 y7 y8 y9 y10
      unfold spec_l03All.l0
      repeat' first | (with_reducible exact ih0 _ _ _ _ _ _ _ _ _ _ _) | (with_reducible exact spec_l03At.mono _ _ _) | (with_reducible exact LeO.refl _) | (with_reducible exact LeO.none _) | (with_reducible refine LeO.ite ?_ ?_) | (with_reducible refine LeO.bind ?_ (fun _ => ?_)) | exact ih0 _ _ _ _ _ _ _ _ _ _ _ | exact spec_l03At.mono _ _ _ | exact LeO.none _ | refine LeO.ite ?_ ?_ | refine LeO.bind ?_ (fun _ => ?_)
theorem spec_l03All.mono : ∀ a0 a1 a2 a3 a4 a5 a6 a7 a8 a9 k, LeO (spec_l03All.f k a0 a1 a2 a3 a4 a5 a6 a7 a8 a9) (spec_l03All.f (k + 1) a0 a1 a2 a3 a4 a5 a6 a7 a8 a9) := by
  intro a0 a1 a2 a3 a4 a5 a6 a7 a8 a9 k
  have ih0 := spec_l03All.mono_l k
  unfold spec_l03All.f
  repeat' first | (with_reducible exact ih0 _ _ _ _ _ _ _ _ _ _ _) | (with_reducible exact spec_l03At.mono _ _ _) | (with_reducible exact LeO.refl _) | (with_reducible exact LeO.none _) | (with_reducible refine LeO.ite ?_ ?_) | (with_reducible refine LeO.bind ?_ (fun _ => ?_)) | exact ih0 _ _ _ _ _ _ _ _ _ _ _ | exact spec_l03At.mono _ _ _ | exact LeO.none _ | refine LeO.ite ?_ ?_ | refine LeO.bind ?_ (fun _ => ?_)
theorem spec_l03All.calls (k : Nat) (A0 : Option Addr) (c0 : Nat) (l0 : List (S39)) (a1_0 : Int) (a1_1 : Int) (a1_2 : Int) (a1_3 : Int) (a1_4 : Int) (a1_5 : Int) (a1_6 : ByteArray) (A1_7 : Option Addr) (c1_7 : Nat) (l1_7 : List Int) (a1_8 : Int) (r : Bool) (w : World) (hr0 : Kd.C k39 w A0 l0.length l0) (hc0 : l0.length ≤ c0) (hr1_7 : Kd.C (Kd.int .i64) w A1_7 l1_7.length l1_7) (hc1_7 : l1_7.length ≤ c1_7) (h : spec_l03All.f k l0 a1_0 a1_1 a1_2 a1_3 a1_4 a1_5 a1_6 l1_7 a1_8 = some r) :
    Calls Try.prog 21 #[.slice A0 l0.length c0, .agg #[.int .i64 a1_0, .int .i64 a1_1, .int .i64 a1_2, .int .i64 a1_3, .int .i64 a1_4, .int .i64 a1_5, .string a1_6, .slice A1_7 l1_7.length c1_7, .int .i64 a1_8]] w fun e w' => e = .returned (.bool r) ∧ Below w.heap.size w w' := by
 have hu39 := Try.underlying39; have HR0 := Aside0.mk hr0; have HC0 := Aside0.mk hc0; clear hr0 hc0; have HR1_7 := Aside0.mk hr1_7; have HC1_7 := Aside0.mk hc1_7; clear hr1_7 hc1_7; have HB := Aside0.mk (Below.refl w.heap.size w); have H : (spec_l03All.l0 k l0 0 a1_0 a1_1 a1_2 a1_3 a1_4 a1_5 a1_6 l1_7 a1_8) = some r := h; clear h; have H' := Aside0.mk H; clear H; go_enter Try.func21, Try.ntmps21; go_wp2_with (first | ((with_reducible refine gate_dst (N := 3) rfl ?_); refine be_ 3 #[.int .i64 a1_0, .int .i64 a1_1, .int .i64 a1_2, .int .i64 a1_3, .int .i64 a1_4, .int .i64 a1_5, .string a1_6, .slice A1_7 l1_7.length c1_7, .int .i64 a1_8] 39 ?_; intro gb137 hg w3 hbox hb; have BK137 := Aside0.mk (hbox); have GW137 := Aside0.mk ((by rw [hg]; exact (below_size (a1_ HB.out)) : w.heap.size ≤ gb137)); replace HB := Aside0.mk (below_step (a1_ HB.out) hb); have GE137 := GW137; clear hb hbox hg))
 go_loopg [5] k (fun kq v5 w' => ∃ (x5_1 : Int), v5 = .int .i64 x5_1 ∧ Aside0 (spec_l03All.l0 kq l0 x5_1 a1_0 a1_1 a1_2 a1_3 a1_4 a1_5 a1_6 l1_7 a1_8 = some r) ∧ Aside0 (kq ≤ k) ∧ Aside0 (w'.heap[gb137]? = some (.cells #[.int .i64 a1_0, .int .i64 a1_1, .int .i64 a1_2, .int .i64 a1_3, .int .i64 a1_4, .int .i64 a1_5, .string a1_6, (.slice A1_7 l1_7.length c1_7), .int .i64 a1_8] 39 (0, 0))) ∧ Aside0 (Below w.heap.size w w'))
 case atStart => exact ⟨(0), (by first | rfl | (simp; done) | (simp [*]; done)), H', ⟨Nat.le_refl _⟩, ⟨(a4_ BK137.out)⟩, ⟨(a3_ HB.out GE137.out)⟩⟩
 case round =>
  clear H'; (try clear c1); (try clear c2); (try clear p2); obtain ⟨x5_1, rfl, HA, HK1, BK137, HB⟩ := hrel
  cases gk with
  | zero => exact absurd HA.out (by simp [spec_l03All.l0])
  | succ k1 =>
   have H := HA.out; clear HA; simp only [spec_l03All.l0] at H; by_cases c4 : x5_1 < (l1_7.length : Int)
   ·
    rw [if_pos c4] at H; have c4b0 : decide (x5_1 < (l1_7.length : Int)) = true := decide_eq_true c4; clear c4; by_cases c5 : 0 ≤ x5_1
    ·
     rw [if_pos c5] at H; have c5b0 : decide (0 ≤ x5_1) = true := decide_eq_true c5; clear c5; replace H := Option.bind_eq_some_iff.mp H; obtain ⟨t139, A60, H⟩ := H; have A6 := Aside0.mk A60; clear A60; by_cases c7 : t139 < 0
     ·
      rw [if_pos c7] at H; have c7b0 : decide (t139 < 0) = true := decide_eq_true c7; clear c7; obtain rfl := Option.some.inj H; obtain ⟨⟨hcz8_0, hcz8_1, hcz8_2, hcz8_3, hcz8_4, hcz8_5, hcz8_6, hcz8_7, hcz8_8⟩, hfz8_0, hfz8_1, hfz8_2, hfz8_3, hfz8_4, hfz8_5, hfz8_6, hfz8_7, hfz8_8⟩ := cells_9 BK137.out; have p138 : 0 ≤ (x5_1 : Int) := d_; have q138 : x5_1 < (l1_7.length : Int) := d_; obtain ⟨ad138, e138, hx138_0⟩ := Kd.at_int HR1_7.out x5_1 p138 q138; cases e138; replace hx138_0 := ce_ HB.out hx138_0; replace p138 := eq_true p138; replace q138 := eq_true q138; go_wp2_with (first | ((with_reducible refine gate_callee (f := 22) rfl ?_); refine gl_ (some 19) Try.func22 #[.slice A0 l0.length c0, .int .i64 (rd l1_7 x5_1)] ?_; (with_reducible refine (spec_l03At.calls k1 _ _ l0 (rd l1_7 x5_1) t139 _ ?side1 HC0.out A6.out).mono ?_); (case side1 => exact (cb_ HR0.out HB.out)); rintro e w' ⟨rfl, ⟨nd, rfl⟩⟩; refine ⟨_, rfl, ?_⟩))
      go_ret
      exact ⟨a2_, (a3_ HB.out GE137.out)⟩
     ·
      rw [if_neg c7] at H; have c7b0 : decide (t139 < 0) = false := decide_eq_false c7; clear c7; have H' := Aside0.mk H; clear H; obtain ⟨⟨hcz9_0, hcz9_1, hcz9_2, hcz9_3, hcz9_4, hcz9_5, hcz9_6, hcz9_7, hcz9_8⟩, hfz9_0, hfz9_1, hfz9_2, hfz9_3, hfz9_4, hfz9_5, hfz9_6, hfz9_7, hfz9_8⟩ := cells_9 BK137.out; have p138 : 0 ≤ (x5_1 : Int) := d_; have q138 : x5_1 < (l1_7.length : Int) := d_; obtain ⟨ad138, e138, hx138_0⟩ := Kd.at_int HR1_7.out x5_1 p138 q138; cases e138; replace hx138_0 := ce_ HB.out hx138_0; replace p138 := eq_true p138; replace q138 := eq_true q138; go_wp2_with (first | ((with_reducible refine gate_callee (f := 22) rfl ?_); refine gl_ (some 19) Try.func22 #[.slice A0 l0.length c0, .int .i64 (rd l1_7 x5_1)] ?_; (with_reducible refine (spec_l03At.calls k1 _ _ l0 (rd l1_7 x5_1) t139 _ ?side1 HC0.out A6.out).mono ?_); (case side1 => exact (cb_ HR0.out HB.out)); rintro e w' ⟨rfl, ⟨nd, rfl⟩⟩; refine ⟨_, rfl, ?_⟩))
      go_roundg k1
      case measure => have := HK1.out; omega
      case rel => exact ⟨(wrap64 (x5_1 + 1)), (by first | rfl | (simp; done) | (simp [*]; done)), H', ⟨by have := HK1.out; omega⟩, ⟨(a4_ BK137.out)⟩, ⟨(a3_ HB.out GE137.out)⟩⟩
    ·
     rw [if_neg c5] at H; exact absurd H (by simp)
   ·
    rw [if_neg c4] at H; have c4b0 : decide (x5_1 < (l1_7.length : Int)) = false := decide_eq_false c4; clear c4; obtain rfl := Option.some.inj H; obtain ⟨⟨hcz10_0, hcz10_1, hcz10_2, hcz10_3, hcz10_4, hcz10_5, hcz10_6, hcz10_7, hcz10_8⟩, hfz10_0, hfz10_1, hfz10_2, hfz10_3, hfz10_4, hfz10_5, hfz10_6, hfz10_7, hfz10_8⟩ := cells_9 BK137.out; go_wp2
    go_ret
    exact ⟨a2_, (a3_ HB.out GE137.out)⟩

end Go.Proofs.Ythpclkkkpponkaa.Print
