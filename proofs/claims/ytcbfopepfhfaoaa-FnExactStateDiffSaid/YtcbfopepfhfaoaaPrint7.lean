-- Printed by wip/myprint.py over the kit's print, in this session's own call.
import Derived.Test.YtcbfopepfhfaoaaPrint0
import Derived.Test.YtcbfopepfhfaoaaPrint1
import Derived.Test.YtcbfopepfhfaoaaPrint5
import Derived.Test.YtcbfopepfhfaoaaPrint6
namespace Go.Proofs.Ytcbfopepfhfaoaa.Print
open Go.RowKit Go.Proofs.YtcbfopepfhfaoaaW.PrintWords Go.Proofs.YtcbfopepfhfaoaaW.PrintLast Go.Proofs.YtcbfopepfhfaoaaW.PrintMore
attribute [local go_sem] max2_int min2_int max_two min_two max_three min_three max_four min_four   -- for this text's walks alone
set_option maxHeartbeats 8000000
set_option maxRecDepth 100000
set_option linter.unusedVariables false
set_option linter.unusedSimpArgs false

attribute [local go_sem high] eqA47
/-! ### impl_StateRight: function 24 -/
def impl_StateRight.f (k : Nat) (l0 : List (S47)) : Option (Bool) := (impl_entriesRight.f k l0 1).bind fun t236 => (some t236)
theorem impl_StateRight.mono : ∀ a0 k, LeO (impl_StateRight.f k a0) (impl_StateRight.f (k + 1) a0) := by
  intro a0 k
  unfold impl_StateRight.f
  repeat' first | (with_reducible exact impl_entriesRight.mono _ _ _) | (with_reducible exact LeO.refl _) | (with_reducible exact LeO.none _) | (with_reducible refine LeO.ite ?_ ?_) | (with_reducible refine LeO.bind ?_ (fun _ => ?_)) | exact impl_entriesRight.mono _ _ _ | exact LeO.none _ | refine LeO.ite ?_ ?_ | refine LeO.bind ?_ (fun _ => ?_)
theorem impl_StateRight.calls (k : Nat) (A0 : Option Addr) (c0 : Nat) (l0 : List (S47)) (r : Bool) (w : World) (hr0 : Kd.C k47 w A0 l0.length l0) (hc0 : l0.length ≤ c0) (h : impl_StateRight.f k l0 = some r) :
    Calls Try.prog 24 #[.slice A0 l0.length c0] w fun e w' => e = .returned (.bool r) ∧ Below w.heap.size w w' := by
 have HR0 := Aside0.mk hr0; have HC0 := Aside0.mk hc0; clear hr0 hc0; have HB := Aside0.mk (Below.refl w.heap.size w); have H : ((impl_entriesRight.f k l0 1).bind fun t236 => (some t236)) = some r := h; clear h; replace H := Option.bind_eq_some_iff.mp H; obtain ⟨t236, A20, H⟩ := H; replace H : (some t236) = some r := H; have A2 := Aside0.mk A20; clear A20; obtain rfl := Option.some.inj H; go_enter Try.func24, Try.ntmps24; go_wp2_with (first | ((with_reducible refine gate_callee (f := 37) rfl ?_); refine gl_ (some 4) Try.func37 #[.slice A0 l0.length c0, .int .i64 1] ?_; (with_reducible refine (impl_entriesRight.calls k _ _ l0 1 t236 _ ?side1 HC0.out A2.out).mono ?_); (case side1 => repeat (first | exact HR0.out | (with_reducible refine Kd.C_alloc ?_ _) | (with_reducible refine Kd.C_drewN ?_ _) | (with_reducible refine Kd.C_drew ?_))); rintro e w3 ⟨rfl, hb⟩; refine ⟨_, rfl, ?_⟩; replace HB := Aside0.mk (below_step HB.out hb); (try clear hb); (try clear hb2); (try clear hk); (try clear hi)))
 go_ret
 exact ⟨a1_, (a2_ HB.out)⟩

/-! ### impl_Entry_55: function 55 -/
def impl_Entry_55.l0 : Nat → List (S47) → Int → Int → Int → Int → Int → Option (Int)
  | 0, _, _, _, _, _, _ => none
  | k + 1, x0, x7, x8, x238000, x238001, x238002 => if x8 < x7 then (if 0 ≤ x8 then (if x8 < (x0.length : Int) then (if (x238000 == ((rd_T47 x0 x8).f0) && (x238001 == ((rd_T47 x0 x8).f1) && (x238002 == ((rd_T47 x0 x8).f2)))) = true then (some x8) else (impl_Entry_55.l0 k x0 x7 (wrap64 (x8 + 1)) x238000 x238001 x238002)) else (none)) else (none)) else (some (-1))
def impl_Entry_55.f (k : Nat) (l0 : List (S47)) (a1_0 : Int) (a1_1 : Int) (a1_2 : Int) : Option (Int) := impl_Entry_55.l0 k l0 (l0.length : Int) 0 a1_0 a1_1 a1_2
theorem impl_Entry_55.mono_l : ∀ k, (∀ y0 y1 y2 y3 y4 y5, LeO (impl_Entry_55.l0 k y0 y1 y2 y3 y4 y5) (impl_Entry_55.l0 (k + 1) y0 y1 y2 y3 y4 y5))
  | 0 => fun _ _ _ _ _ _ r h => by simp [impl_Entry_55.l0] at h
  | k + 1 => by
    have ih0 := impl_Entry_55.mono_l k
    · intro y0 y1 y2 y3 y4 y5
      unfold impl_Entry_55.l0
      repeat' first | (with_reducible exact ih0 _ _ _ _ _ _) | (with_reducible exact LeO.refl _) | (with_reducible exact LeO.none _) | (with_reducible refine LeO.ite ?_ ?_) | (with_reducible refine LeO.bind ?_ (fun _ => ?_)) | exact ih0 _ _ _ _ _ _ | exact LeO.none _ | refine LeO.ite ?_ ?_ | refine LeO.bind ?_ (fun _ => ?_)
theorem impl_Entry_55.mono : ∀ a0 a1 a2 a3 k, LeO (impl_Entry_55.f k a0 a1 a2 a3) (impl_Entry_55.f (k + 1) a0 a1 a2 a3) := by
  intro a0 a1 a2 a3 k
  have ih0 := impl_Entry_55.mono_l k
  unfold impl_Entry_55.f
  repeat' first | (with_reducible exact ih0 _ _ _ _ _ _) | (with_reducible exact LeO.refl _) | (with_reducible exact LeO.none _) | (with_reducible refine LeO.ite ?_ ?_) | (with_reducible refine LeO.bind ?_ (fun _ => ?_)) | exact ih0 _ _ _ _ _ _ | exact LeO.none _ | refine LeO.ite ?_ ?_ | refine LeO.bind ?_ (fun _ => ?_)
theorem impl_Entry_55.calls (k : Nat) (A0 : Option Addr) (c0 : Nat) (l0 : List (S47)) (a1_0 : Int) (a1_1 : Int) (a1_2 : Int) (r : Int) (w : World) (hr0 : Kd.C k47 w A0 l0.length l0) (hc0 : l0.length ≤ c0) (h : impl_Entry_55.f k l0 a1_0 a1_1 a1_2 = some r) :
    Calls Try.prog 55 #[.slice A0 l0.length c0, .agg #[.int .i64 a1_0, .int .i64 a1_1, .int .i64 a1_2]] w fun e w' => e = .returned (.int .i64 r) ∧ Below w.heap.size w w' := by
 have hu47 := Try.underlying47; have HR0 := Aside0.mk hr0; have HC0 := Aside0.mk hc0; clear hr0 hc0; have HB := Aside0.mk (Below.refl w.heap.size w); have H : (impl_Entry_55.l0 k l0 (l0.length : Int) 0 a1_0 a1_1 a1_2) = some r := h; clear h; have H' := Aside0.mk H; clear H; go_enter Try.func55, Try.ntmps55; go_wp2_with (first | ((with_reducible refine gate_dst (N := 3) rfl ?_); refine be_ 3 #[.int .i64 a1_0, .int .i64 a1_1, .int .i64 a1_2] 47 ?_; intro gb237 hg w3 hbox hb; have BK237 := Aside0.mk (hbox); have GW237 := Aside0.mk ((by rw [hg]; exact (below_size HB.out) : w.heap.size ≤ gb237)); replace HB := Aside0.mk (below_step HB.out hb); have GE237 := GW237; clear hb hbox hg))
 repeat (go_quiet (first | ((with_reducible refine gate_dst (N := 3) rfl ?_); refine be_ 3 #[.int .i64 a1_0, .int .i64 a1_1, .int .i64 a1_2] 47 ?_; intro gb237 hg w3 hbox hb; have BK237 := Aside0.mk (hbox); have GW237 := Aside0.mk ((by rw [hg]; exact (below_size HB.out) : w.heap.size ≤ gb237)); replace HB := Aside0.mk (below_step HB.out hb); have GE237 := GW237; clear hb hbox hg)); try go_wp2_with (first | ((with_reducible refine gate_dst (N := 3) rfl ?_); refine be_ 3 #[.int .i64 a1_0, .int .i64 a1_1, .int .i64 a1_2] 47 ?_; intro gb237 hg w3 hbox hb; have BK237 := Aside0.mk (hbox); have GW237 := Aside0.mk ((by rw [hg]; exact (below_size HB.out) : w.heap.size ≤ gb237)); replace HB := Aside0.mk (below_step HB.out hb); have GE237 := GW237; clear hb hbox hg)))
 go_loopg [8] k (fun kq v8 w' => ∃ (x8_1 : Int), v8 = .int .i64 x8_1 ∧ Aside0 (impl_Entry_55.l0 kq l0 (l0.length : Int) x8_1 a1_0 a1_1 a1_2 = some r) ∧ Aside0 (kq ≤ k) ∧ Aside0 (w'.heap[gb237]? = some (.cells #[.int .i64 a1_0, .int .i64 a1_1, .int .i64 a1_2] 47 (0, 0))) ∧ Aside0 (Below w.heap.size w w'))
 case atStart => exact ⟨(0), (by first | rfl | (simp; done) | (simp [*]; done)), H', ⟨Nat.le_refl _⟩, ⟨by exact BK237.out⟩, ⟨(a4_ HB.out GE237.out)⟩⟩
 case round =>
  clear H'; (try clear p2); obtain ⟨x8_1, rfl, HA, HK1, BK237, HB⟩ := hrel
  cases gk with
  | zero => exact absurd HA.out (by simp [impl_Entry_55.l0])
  | succ k1 =>
   have H := HA.out; clear HA; simp only [impl_Entry_55.l0] at H; by_cases c4 : x8_1 < (l0.length : Int)
   ·
    rw [if_pos c4] at H; have c4b0 : decide (x8_1 < (l0.length : Int)) = true := decide_eq_true c4; clear c4; by_cases c5 : 0 ≤ x8_1
    ·
     rw [if_pos c5] at H; have c5b0 : decide (0 ≤ x8_1) = true := decide_eq_true c5; clear c5; by_cases c6 : x8_1 < (l0.length : Int)
     ·
      rw [if_pos c6] at H; have c6b0 : decide (x8_1 < (l0.length : Int)) = true := decide_eq_true c6; clear c6; by_cases c7 : (a1_0 == ((rd_T47 l0 x8_1).f0) && (a1_1 == ((rd_T47 l0 x8_1).f1) && (a1_2 == ((rd_T47 l0 x8_1).f2)))) = true
      ·
       rw [if_pos c7] at H; have c7b0 : (a1_0 == ((rd_T47 l0 x8_1).f0) && (a1_1 == ((rd_T47 l0 x8_1).f1) && (a1_2 == ((rd_T47 l0 x8_1).f2)))) = true := c7; (try (have c7b1 : decide (a1_0 = ((rd_T47 l0 x8_1).f0) && (a1_1 == ((rd_T47 l0 x8_1).f1) && (a1_2 == ((rd_T47 l0 x8_1).f2)))) = true := by simpa using c7))
       (try (have c7b2 : (a1_0 == ((rd_T47 l0 x8_1).f0) && (a1_1 == ((rd_T47 l0 x8_1).f1) && (a1_2 == ((rd_T47 l0 x8_1).f2)))) = true := by simpa using c7))
       clear c7; obtain rfl := Option.some.inj H; obtain ⟨⟨hcz8_0, hcz8_1, hcz8_2⟩, hfz8_0, hfz8_1, hfz8_2⟩ := cells_3 BK237.out; have p238 : 0 ≤ (x8_1 : Int) := d_; have q238 : x8_1 < (l0.length : Int) := d_; obtain ⟨ad238, e238, hx238_0, hx238_1, hx238_2⟩ := at_T47 (Kd.C_below HR0.out HB.out) x8_1 p238 q238; cases e238; replace p238 := eq_true p238; replace q238 := eq_true q238; go_wp2
       repeat (go_quiet (fail); try go_wp2)
       go_ret
       exact ⟨a1_, (a4_ HB.out GE237.out)⟩
      ·
       rw [if_neg c7] at H; have c7b0 : (a1_0 == ((rd_T47 l0 x8_1).f0) && (a1_1 == ((rd_T47 l0 x8_1).f1) && (a1_2 == ((rd_T47 l0 x8_1).f2)))) = false := by simpa using c7
       (try (have c7b1 : decide (a1_0 = ((rd_T47 l0 x8_1).f0) && (a1_1 == ((rd_T47 l0 x8_1).f1) && (a1_2 == ((rd_T47 l0 x8_1).f2)))) = false := by simpa using c7))
       (try (have c7b2 : (a1_0 == ((rd_T47 l0 x8_1).f0) && (a1_1 == ((rd_T47 l0 x8_1).f1) && (a1_2 == ((rd_T47 l0 x8_1).f2)))) = false := by simpa using c7))
       (try (have c7b3 : ¬ (a1_0 = ((rd_T47 l0 x8_1).f0) && (a1_1 == ((rd_T47 l0 x8_1).f1) && (a1_2 == ((rd_T47 l0 x8_1).f2)))) := by simpa using c7))
       clear c7; have H' := Aside0.mk H; clear H; obtain ⟨⟨hcz9_0, hcz9_1, hcz9_2⟩, hfz9_0, hfz9_1, hfz9_2⟩ := cells_3 BK237.out; have p238 : 0 ≤ (x8_1 : Int) := d_; have q238 : x8_1 < (l0.length : Int) := d_; obtain ⟨ad238, e238, hx238_0, hx238_1, hx238_2⟩ := at_T47 (Kd.C_below HR0.out HB.out) x8_1 p238 q238; cases e238; replace p238 := eq_true p238; replace q238 := eq_true q238; go_wp2
       repeat (go_quiet (fail); try go_wp2)
       go_roundg k1
       case measure => have := HK1.out; omega
       case rel => exact ⟨(wrap64 (x8_1 + 1)), (by first | rfl | (simp; done) | (simp [*]; done)), H', ⟨by have := HK1.out; omega⟩, ⟨by exact BK237.out⟩, ⟨(a4_ HB.out GE237.out)⟩⟩
     ·
      rw [if_neg c6] at H; exact absurd H (by simp)
    ·
     rw [if_neg c5] at H; exact absurd H (by simp)
   ·
    rw [if_neg c4] at H; have c4b0 : decide (x8_1 < (l0.length : Int)) = false := decide_eq_false c4; clear c4; obtain rfl := Option.some.inj H; go_wp2
    repeat (go_quiet (fail); try go_wp2)
    go_ret
    exact ⟨a1_, (a4_ HB.out GE237.out)⟩

/-! ### impl_Entry_38: function 38 -/
def impl_Entry_38.f (k : Nat) (l0 : List (S47)) (a1_0 : Int) (a1_1 : Int) (a1_2 : Int) : Option (Bool) := (impl_Entry_55.f k l0 a1_0 a1_1 a1_2).bind fun t240 => (some (decide (t240 ≥ 0)))
theorem impl_Entry_38.mono : ∀ a0 a1 a2 a3 k, LeO (impl_Entry_38.f k a0 a1 a2 a3) (impl_Entry_38.f (k + 1) a0 a1 a2 a3) := by
  intro a0 a1 a2 a3 k
  unfold impl_Entry_38.f
  repeat' first | (with_reducible exact impl_Entry_55.mono _ _ _ _ _) | (with_reducible exact LeO.refl _) | (with_reducible exact LeO.none _) | (with_reducible refine LeO.ite ?_ ?_) | (with_reducible refine LeO.bind ?_ (fun _ => ?_)) | exact impl_Entry_55.mono _ _ _ _ _ | exact LeO.none _ | refine LeO.ite ?_ ?_ | refine LeO.bind ?_ (fun _ => ?_)
theorem impl_Entry_38.calls (k : Nat) (A0 : Option Addr) (c0 : Nat) (l0 : List (S47)) (a1_0 : Int) (a1_1 : Int) (a1_2 : Int) (r : Bool) (w : World) (hr0 : Kd.C k47 w A0 l0.length l0) (hc0 : l0.length ≤ c0) (h : impl_Entry_38.f k l0 a1_0 a1_1 a1_2 = some r) :
    Calls Try.prog 38 #[.slice A0 l0.length c0, .agg #[.int .i64 a1_0, .int .i64 a1_1, .int .i64 a1_2]] w fun e w' => e = .returned (.bool r) ∧ Below w.heap.size w w' := by
 have hu47 := Try.underlying47; have HR0 := Aside0.mk hr0; have HC0 := Aside0.mk hc0; clear hr0 hc0; have HB := Aside0.mk (Below.refl w.heap.size w); have H : ((impl_Entry_55.f k l0 a1_0 a1_1 a1_2).bind fun t240 => (some (decide (t240 ≥ 0)))) = some r := h; clear h; replace H := Option.bind_eq_some_iff.mp H; obtain ⟨t240, A30, H⟩ := H; replace H : (some (decide (t240 ≥ 0))) = some r := H; have A3 := Aside0.mk A30; clear A30; obtain rfl := Option.some.inj H; go_enter Try.func38, Try.ntmps38; go_wp2_with (first | ((with_reducible refine gate_dst (N := 3) rfl ?_); refine be_ 3 #[.int .i64 a1_0, .int .i64 a1_1, .int .i64 a1_2] 47 ?_; intro gb239 hg w4 hbox hb; have BK239 := Aside0.mk (hbox); have GW239 := Aside0.mk ((by rw [hg]; exact (below_size HB.out) : w.heap.size ≤ gb239)); replace HB := Aside0.mk (below_step HB.out hb); have GE239 := GW239; clear hb hbox hg; obtain ⟨⟨hcz5_0, hcz5_1, hcz5_2⟩, hfz5_0, hfz5_1, hfz5_2⟩ := cells_3 BK239.out) | ((with_reducible refine gate_callee (f := 55) rfl ?_); refine gl_ (some 7) Try.func55 #[.slice A0 l0.length c0, .agg #[.int .i64 a1_0, .int .i64 a1_1, .int .i64 a1_2]] ?_; (with_reducible refine (impl_Entry_55.calls k _ _ l0 a1_0 a1_1 a1_2 t240 _ ?side1 HC0.out A3.out).mono ?_); (case side1 => exact (cb_ HR0.out HB.out)); rintro e w6 ⟨rfl, hb⟩; refine ⟨_, rfl, ?_⟩; replace BK239 := Aside0.mk (blk_below BK239.out hb); replace HB := Aside0.mk (below_step HB.out hb); (try clear hb); (try clear hb2); (try clear hk); (try clear hi)))
 go_ret
 exact ⟨a1_, (a4_ HB.out GE239.out)⟩

/-! ### impl_isUser: function 48 -/
def impl_isUser.f (a0 : Int) : Option (Bool) := (impl_in.f a0 1 6).bind fun t241 => (some t241)
theorem impl_isUser.calls (a0 : Int) (r : Bool) (w : World) (h : impl_isUser.f a0 = some r) :
    Calls Try.prog 48 #[.int .i64 a0] w fun e w' => e = .returned (.bool r) ∧ Drawn0 w w' := by
 have H : ((impl_in.f a0 1 6).bind fun t241 => (some t241)) = some r := h; clear h; replace H := Option.bind_eq_some_iff.mp H; obtain ⟨t241, A20, H⟩ := H; replace H : (some t241) = some r := H; have A2 := Aside0.mk A20; clear A20; obtain rfl := Option.some.inj H; go_enter Try.func48, Try.ntmps48; go_wp2_with (first | ((with_reducible refine gate_callee (f := 54) rfl ?_); refine gl_ (some 4) Try.func54 #[.int .i64 a0, .int .i64 1, .int .i64 6] ?_; (with_reducible refine (impl_in.calls a0 1 6 t241 _ A2.out).mono ?_); rintro e w' ⟨rfl, ⟨nd, rfl⟩⟩; refine ⟨_, rfl, ?_⟩))
 go_ret
 exact ⟨by first | rfl | (simp; done) | (simp [*]; done), by repeat (first | exact Drawn0.refl _ | apply Drawn0.step)⟩

/-! ### impl_speakers_1: function 47 -/
def impl_speakers_1.f (a0 : Int) : Option (Bool) := (impl_isUser.f a0).bind fun t242 => (some (!t242))
theorem impl_speakers_1.calls (a0 : Int) (r : Bool) (w : World) (h : impl_speakers_1.f a0 = some r) :
    Calls Try.prog 47 #[.int .i64 a0] w fun e w' => e = .returned (.bool r) ∧ Drawn0 w w' := by
 have H : ((impl_isUser.f a0).bind fun t242 => (some (!t242))) = some r := h; clear h; replace H := Option.bind_eq_some_iff.mp H; obtain ⟨t242, A20, H⟩ := H; replace H : (some (!t242)) = some r := H; have A2 := Aside0.mk A20; clear A20; obtain rfl := Option.some.inj H; go_enter Try.func47, Try.ntmps47; go_wp2_with (first | ((with_reducible refine gate_callee (f := 48) rfl ?_); refine gl_ (some 4) Try.func48 #[.int .i64 a0] ?_; (with_reducible refine (impl_isUser.calls a0 t242 _ A2.out).mono ?_); rintro e w' ⟨rfl, ⟨nd, rfl⟩⟩; refine ⟨_, rfl, ?_⟩))
 go_ret
 exact ⟨by first | rfl | (simp; done) | (simp [*]; done), by repeat (first | exact Drawn0.refl _ | apply Drawn0.step)⟩

/-! ### impl_Entry_56: function 56 -/
def impl_Entry_56.l0 : Nat → List (S47) → Int → Int → Int → Int → Int → Int → Option (Int × Bool)
  | 0, _, _, _, _, _, _, _ => none
  | k + 1, x0, x8, x9, x10, x244000, x244001, x244002 => if x9 < x10 then (if 0 ≤ (wrap64 ((IntKind.u64.wrap (wrap64 (x9 + x10))) / 2)) then (if (wrap64 ((IntKind.u64.wrap (wrap64 (x9 + x10))) / 2)) < (x0.length : Int) then ((impl_Entry_order.f k ((rd_T47 x0 (wrap64 ((IntKind.u64.wrap (wrap64 (x9 + x10))) / 2))).f0) ((rd_T47 x0 (wrap64 ((IntKind.u64.wrap (wrap64 (x9 + x10))) / 2))).f1) ((rd_T47 x0 (wrap64 ((IntKind.u64.wrap (wrap64 (x9 + x10))) / 2))).f2) x244000 x244001 x244002).bind fun t245 => (if t245 < 0 then (impl_Entry_56.l0 k x0 x8 (wrap64 ((wrap64 ((IntKind.u64.wrap (wrap64 (x9 + x10))) / 2)) + 1)) x10 x244000 x244001 x244002) else (impl_Entry_56.l0 k x0 x8 x9 (wrap64 ((IntKind.u64.wrap (wrap64 (x9 + x10))) / 2)) x244000 x244001 x244002))) else (none)) else (none)) else (if x9 < x8 then (if 0 ≤ x9 then (if x9 < (x0.length : Int) then ((impl_Entry_order.f k ((rd_T47 x0 x9).f0) ((rd_T47 x0 x9).f1) ((rd_T47 x0 x9).f2) x244000 x244001 x244002).bind fun t247 => (some (x9, (t247 == 0)))) else (none)) else (none)) else (some (x9, false)))
def impl_Entry_56.f (k : Nat) (l0 : List (S47)) (a1_0 : Int) (a1_1 : Int) (a1_2 : Int)  : Option (Int × Bool) := impl_Entry_56.l0 k l0 (l0.length : Int) 0 (l0.length : Int) a1_0 a1_1 a1_2
theorem impl_Entry_56.mono_l : ∀ k, (∀ y0 y1 y2 y3 y4 y5 y6, LeO (impl_Entry_56.l0 k y0 y1 y2 y3 y4 y5 y6) (impl_Entry_56.l0 (k + 1) y0 y1 y2 y3 y4 y5 y6))
  | 0 => fun _ _ _ _ _ _ _ r h => by simp [impl_Entry_56.l0] at h
  | k + 1 => by
    have ih0 := impl_Entry_56.mono_l k
    · intro y0 y1 y2 y3 y4 y5 y6
      unfold impl_Entry_56.l0
      repeat' first | (with_reducible exact ih0 _ _ _ _ _ _ _) | (with_reducible exact impl_Entry_order.mono _ _ _ _ _ _ _) | (with_reducible exact LeO.refl _) | (with_reducible exact LeO.none _) | (with_reducible refine LeO.ite ?_ ?_) | (with_reducible refine LeO.bind ?_ (fun _ => ?_)) | exact ih0 _ _ _ _ _ _ _ | exact impl_Entry_order.mono _ _ _ _ _ _ _ | exact LeO.none _ | refine LeO.ite ?_ ?_ | refine LeO.bind ?_ (fun _ => ?_)
theorem impl_Entry_56.mono : ∀ a0 a1 a2 a3 k, LeO (impl_Entry_56.f k a0 a1 a2 a3) (impl_Entry_56.f (k + 1) a0 a1 a2 a3) := by
  intro a0 a1 a2 a3 k
  have ih0 := impl_Entry_56.mono_l k
  unfold impl_Entry_56.f
  repeat' first | (with_reducible exact ih0 _ _ _ _ _ _ _) | (with_reducible exact impl_Entry_order.mono _ _ _ _ _ _ _) | (with_reducible exact LeO.refl _) | (with_reducible exact LeO.none _) | (with_reducible refine LeO.ite ?_ ?_) | (with_reducible refine LeO.bind ?_ (fun _ => ?_)) | exact ih0 _ _ _ _ _ _ _ | exact impl_Entry_order.mono _ _ _ _ _ _ _ | exact LeO.none _ | refine LeO.ite ?_ ?_ | refine LeO.bind ?_ (fun _ => ?_)
def impl_Entry_56.T5 : Bool × List (List Nat × List Nat) := (true, [([], []), ([], []), ([], []), ([1, 2], [1, 2]), ([3], [3]), ([], []), ([0, 4, 5], [0, 4, 5]), ([6], [6])])
def impl_Entry_56.B5 : List Nat := [0, 0, 0, 6, 14, 0, 63, 127]
theorem impl_Entry_56.tab5 : rtab .any (opsOf Try.f56 5) = impl_Entry_56.T5 := by kernel_rfl
theorem impl_Entry_56.bits5 : waitsOk impl_Entry_56.T5.2 impl_Entry_56.B5 = true := by kernel_rfl
def impl_Entry_56.T8 : Bool × List (List Nat × List Nat) := (true, [([], []), ([], []), ([], []), ([1, 2], [1, 2]), ([3], [3]), ([4], [4]), ([4], [4]), ([4], [4]), ([6, 7, 4], [4, 6, 7]), ([8, 4], [4, 8]), ([4], [4]), ([5, 9, 10, 4, 4], [4, 5, 9, 10]), ([11, 4], [4, 11]), ([4, 12], [4, 12]), ([0, 11, 0], [0]), ([13, 14, 0, 1, 2, 3, 4, 5, 6, 7, 8, 9, 10, 11, 12, 13, 14], [13])])
def impl_Entry_56.B8 : List Nat := [0, 0, 0, 6, 14, 30, 30, 30, 222, 478, 30, 2046, 4094, 8190, 4095, 32767]
theorem impl_Entry_56.tab8 : rtab .any (opsOf Try.f56 8) = impl_Entry_56.T8 := by kernel_rfl
theorem impl_Entry_56.bits8 : waitsOk impl_Entry_56.T8.2 impl_Entry_56.B8 = true := by kernel_rfl
theorem impl_Entry_56.calls (k : Nat) (A0 : Option Addr) (c0 : Nat) (l0 : List (S47)) (a1_0 : Int) (a1_1 : Int) (a1_2 : Int)  (r1 : Int) (r2 : Bool) (w : World) (hr0 : Kd.C k47 w A0 l0.length l0) (hc0 : l0.length ≤ c0) (h : impl_Entry_56.f k l0 a1_0 a1_1 a1_2 = some (r1, r2)) :
    Calls Try.prog 56 #[.slice A0 l0.length c0, .agg #[.int .i64 a1_0, .int .i64 a1_1, .int .i64 a1_2], .func (.func 41) #[] #[]] w fun e w' => e = .returned (.tuple #[.int .i64 r1, .bool r2]) ∧ Below w.heap.size w w' := by
 have hu47 := Try.underlying47; have HR0 := Aside0.mk hr0; have HC0 := Aside0.mk hc0; clear hr0 hc0; have HB := Aside0.mk (Below.refl w.heap.size w); have H : (impl_Entry_56.l0 k l0 (l0.length : Int) 0 (l0.length : Int) a1_0 a1_1 a1_2) = some (r1, r2) := h; clear h; have H' := Aside0.mk H; clear H; go_enter Try.func56, Try.ntmps56; go_wp2_with (first | ((with_reducible refine gate_dst (N := 4) rfl ?_); refine be_ 4 #[.int .i64 a1_0, .int .i64 a1_1, .int .i64 a1_2] 47 ?_; intro gb243 hg w4 hbox hb; have BK243 := Aside0.mk (hbox); have GW243 := Aside0.mk ((by rw [hg]; exact (below_size HB.out) : w.heap.size ≤ gb243)); replace HB := Aside0.mk (below_step HB.out hb); have GE243 := GW243; clear hb hbox hg))
 go_loopg [9, 10] k (fun kq v9 v10 w' => ∃ (x9_1 : Int) (x10_1 : Int), v9 = .int .i64 x9_1 ∧ v10 = .int .i64 x10_1 ∧ Aside0 (impl_Entry_56.l0 kq l0 (l0.length : Int) x9_1 x10_1 a1_0 a1_1 a1_2 = some (r1, r2)) ∧ Aside0 (kq ≤ k) ∧ Aside0 (w'.heap[gb243]? = some (.cells #[.int .i64 a1_0, .int .i64 a1_1, .int .i64 a1_2] 47 (0, 0))) ∧ Aside0 (Below w.heap.size w w'))
 case atStart => exact ⟨(0), ((l0.length : Int)), (by first | rfl | (simp; done) | (simp [*]; done)), (by first | rfl | (simp; done) | (simp [*]; done)), H', ⟨Nat.le_refl _⟩, ⟨by exact BK243.out⟩, ⟨(a4_ HB.out GE243.out)⟩⟩
 case round =>
  clear H'; (try clear p2); obtain ⟨x9_1, x10_1, rfl, rfl, HA, HK1, BK243, HB⟩ := hrel
  cases gk with
  | zero => exact absurd HA.out (by simp [impl_Entry_56.l0])
  | succ k1 =>
   have H := HA.out; clear HA; simp only [impl_Entry_56.l0] at H; by_cases c5 : x9_1 < x10_1
   ·
    rw [if_pos c5] at H; have c5b0 : decide (x9_1 < x10_1) = true := decide_eq_true c5; clear c5; obtain ⟨ji6, hji6⟩ : ∃ j_ : Int, (wrap64 ((IntKind.u64.wrap (wrap64 (x9_1 + x10_1))) / 2)) = j_ := ⟨_, rfl⟩; replace H : (if 0 ≤ (ji6) then (if (ji6) < (l0.length : Int) then ((impl_Entry_order.f k1 ((rd_T47 l0 (ji6)).f0) ((rd_T47 l0 (ji6)).f1) ((rd_T47 l0 (ji6)).f2) a1_0 a1_1 a1_2).bind fun t245 => (if t245 < 0 then (impl_Entry_56.l0 k1 l0 (l0.length : Int) (wrap64 ((ji6) + 1)) x10_1 a1_0 a1_1 a1_2) else (impl_Entry_56.l0 k1 l0 (l0.length : Int) x9_1 ji6 a1_0 a1_1 a1_2))) else (none)) else (none)) = some (r1, r2) := by first | (rw [hji6] at H; exact H) | (simp only [hji6] at H ⊢; exact H)
    have hji6w : (IntKind.i64.wrap ((IntKind.u64.wrap (wrap64 (x9_1 + x10_1))) / 2)) = ji6 := (i64_w _).trans hji6; by_cases c7 : 0 ≤ (ji6)
    ·
     rw [if_pos c7] at H; have c7b0 : decide (0 ≤ (ji6)) = true := decide_eq_true c7; clear c7; by_cases c8 : (ji6) < (l0.length : Int)
     ·
      rw [if_pos c8] at H; have c8b0 : decide ((ji6) < (l0.length : Int)) = true := decide_eq_true c8; clear c8; replace H := Option.bind_eq_some_iff.mp H; obtain ⟨t245, A90, H⟩ := H; replace H : (if t245 < 0 then (impl_Entry_56.l0 k1 l0 (l0.length : Int) (wrap64 ((ji6) + 1)) x10_1 a1_0 a1_1 a1_2) else (impl_Entry_56.l0 k1 l0 (l0.length : Int) x9_1 ji6 a1_0 a1_1 a1_2)) = some (r1, r2) := H; have A9 := Aside0.mk A90; clear A90; by_cases c10 : t245 < 0
      ·
       rw [if_pos c10] at H; have c10b0 : decide (t245 < 0) = true := decide_eq_true c10; clear c10; have H' := Aside0.mk H; clear H; try go_wp2
       replace BK243 := Aside0.mk (blk_drew BK243.out); replace HB := Aside0.mk (below_drew1 HB.out); have p244 : 0 ≤ ((ji6) : Int) := d_; have q244 : (ji6) < (l0.length : Int) := d_; obtain ⟨ad244, e244, hx244_0, hx244_1, hx244_2⟩ := at_T47 HR0.out (ji6) p244 q244; have hw244_2 := hx244_2; have hw244_1 := hx244_1; have hw244_0 := hx244_0; cases e244; replace hx244_0 := ce_ HB.out hx244_0; replace hx244_1 := ce_ HB.out hx244_1; replace hx244_2 := ce_ HB.out hx244_2; replace p244 := eq_true p244; replace q244 := eq_true q244; refine start_ (n := 8) (S := fun w' => w'.cell? ⟨gb243, 0, none⟩ = some (.int .i64 a1_0) ∧ w'.cell? ⟨gb243, 1, none⟩ = some (.int .i64 a1_1) ∧ w'.cell? ⟨gb243, 2, none⟩ = some (.int .i64 a1_2) ∧ w'.cell? (ad244.add (((ji6)).toNat * 3)) = some (.int .i64 ((rd_T47 l0 (ji6)).f0)) ∧ w'.cell? ⟨(ad244.add (((ji6)).toNat * 3)).block, (ad244.add (((ji6)).toNat * 3)).off + 1, none⟩ = some (.int .i64 ((rd_T47 l0 (ji6)).f1)) ∧ w'.cell? ⟨(ad244.add (((ji6)).toNat * 3)).block, (ad244.add (((ji6)).toNat * 3)).off + 2, none⟩ = some (.int .i64 ((rd_T47 l0 (ji6)).f2))) (ds := []) #[false, false, false, false, false, false, false, false] (by kernel_rfl) rfl rfl ⟨bc_ BK243.out 0, bc_ BK243.out 1, bc_ BK243.out 2, (ce_ HB.out hw244_0 :), (ce_ HB.out hw244_1 :), (ce_ HB.out hw244_2 :)⟩ (fun hHeld => ?_); refine with_tabW impl_Entry_56.tab5 impl_Entry_56.bits5 (fun HT_ HW_ => ?_); generalize wr.drew = w11 at BK243 HB hx244_0 hx244_1 hx244_2 hHeld ⊢
       refine p_ 0 (some 24) HT_.out (bm 8 1) ?_; refine p_ 1 (some 25) HT_.out (bm 8 3) ?_; refine p_ 2 (some 26) HT_.out (bm 8 7) ?_; refine p_ 3 (some 27) HT_.out (bm 8 15) ?_; refine t_ 4 (some 28) (bm 8 31) (take_ofW HT_.out HW_.out (by kernel_rfl)) hHeld ?_; refine t_ 5 (some 29) (bm 8 63) (take_ofW HT_.out HW_.out (by kernel_rfl)) hHeld ?_; refine one_ (i := 6) (N := some 30) (bm 8 127) rfl rfl (one_of HT_.out (by kernel_rfl)) (by decide) (fun K hK => ?_); refine goes_t Try.func41 (by kernel_rfl) rfl #[.agg #[.int .i64 ((rd_T47 l0 (ji6)).f0), .int .i64 ((rd_T47 l0 (ji6)).f1), .int .i64 ((rd_T47 l0 (ji6)).f2)], .agg #[.int .i64 a1_0, .int .i64 a1_1, .int .i64 a1_2]] (by rfl) rfl rfl rfl (by (try simp only [List.map_toArray, List.map_cons, List.map_nil]); first | done | (simp only [hji6]; rfl) | rfl | (simp only [List.length_drop, List.length_take]; rfl)) ?_; with_reducible refine (impl_Entry_order.calls k1 ((rd_T47 l0 (ji6)).f0) ((rd_T47 l0 (ji6)).f1) ((rd_T47 l0 (ji6)).f2) a1_0 a1_1 a1_2 t245 _ A9.out).mono ?_
       rintro e w12 ⟨rfl, hb⟩; refine ⟨_, rfl, ?_⟩; replace BK243 := Aside0.mk (blk_below BK243.out hb); replace HB := Aside0.mk (below_step HB.out hb); (try clear hb); (try clear hb2); (try clear hk); (try clear hi); refine hK.out _ _ ⟨bc_ BK243.out 0, bc_ BK243.out 1, bc_ BK243.out 2, (ce_ HB.out hw244_0 :), (ce_ HB.out hw244_1 :), (ce_ HB.out hw244_2 :)⟩ (fun hHeld => ?_); clear hK K; refine n_ (some 30) ?_; refine p_ 7 (some 31) HT_.out (bm 8 255) ?_; refine done_ (done_of HT_.out (by kernel_rfl)) ?_; try go_wp2
       go_roundg k1
       case measure => have := HK1.out; omega
       case rel => exact ⟨(wrap64 ((ji6) + 1)), (x10_1), (by first | rfl | (simp; done) | (simp only [← hji6] <;> (first | rfl | simp)) | (simp [*]; done)), (by first | rfl | (simp; done) | (simp [*]; done)), H', ⟨by have := HK1.out; omega⟩, ⟨by exact BK243.out⟩, ⟨(a4_ HB.out GE243.out)⟩⟩
      ·
       rw [if_neg c10] at H; have c10b0 : decide (t245 < 0) = false := decide_eq_false c10; clear c10; have H' := Aside0.mk H; clear H; try go_wp2
       replace BK243 := Aside0.mk (blk_drew BK243.out); replace HB := Aside0.mk (below_drew1 HB.out); have p244 : 0 ≤ ((ji6) : Int) := d_; have q244 : (ji6) < (l0.length : Int) := d_; obtain ⟨ad244, e244, hx244_0, hx244_1, hx244_2⟩ := at_T47 HR0.out (ji6) p244 q244; have hw244_2 := hx244_2; have hw244_1 := hx244_1; have hw244_0 := hx244_0; cases e244; replace hx244_0 := ce_ HB.out hx244_0; replace hx244_1 := ce_ HB.out hx244_1; replace hx244_2 := ce_ HB.out hx244_2; replace p244 := eq_true p244; replace q244 := eq_true q244; refine start_ (n := 8) (S := fun w' => w'.cell? ⟨gb243, 0, none⟩ = some (.int .i64 a1_0) ∧ w'.cell? ⟨gb243, 1, none⟩ = some (.int .i64 a1_1) ∧ w'.cell? ⟨gb243, 2, none⟩ = some (.int .i64 a1_2) ∧ w'.cell? (ad244.add (((ji6)).toNat * 3)) = some (.int .i64 ((rd_T47 l0 (ji6)).f0)) ∧ w'.cell? ⟨(ad244.add (((ji6)).toNat * 3)).block, (ad244.add (((ji6)).toNat * 3)).off + 1, none⟩ = some (.int .i64 ((rd_T47 l0 (ji6)).f1)) ∧ w'.cell? ⟨(ad244.add (((ji6)).toNat * 3)).block, (ad244.add (((ji6)).toNat * 3)).off + 2, none⟩ = some (.int .i64 ((rd_T47 l0 (ji6)).f2))) (ds := []) #[false, false, false, false, false, false, false, false] (by kernel_rfl) rfl rfl ⟨bc_ BK243.out 0, bc_ BK243.out 1, bc_ BK243.out 2, (ce_ HB.out hw244_0 :), (ce_ HB.out hw244_1 :), (ce_ HB.out hw244_2 :)⟩ (fun hHeld => ?_); refine with_tabW impl_Entry_56.tab5 impl_Entry_56.bits5 (fun HT_ HW_ => ?_); generalize wr.drew = w13 at BK243 HB hx244_0 hx244_1 hx244_2 hHeld ⊢
       refine p_ 0 (some 24) HT_.out (bm 8 1) ?_; refine p_ 1 (some 25) HT_.out (bm 8 3) ?_; refine p_ 2 (some 26) HT_.out (bm 8 7) ?_; refine p_ 3 (some 27) HT_.out (bm 8 15) ?_; refine t_ 4 (some 28) (bm 8 31) (take_ofW HT_.out HW_.out (by kernel_rfl)) hHeld ?_; refine t_ 5 (some 29) (bm 8 63) (take_ofW HT_.out HW_.out (by kernel_rfl)) hHeld ?_; refine one_ (i := 6) (N := some 30) (bm 8 127) rfl rfl (one_of HT_.out (by kernel_rfl)) (by decide) (fun K hK => ?_); refine goes_t Try.func41 (by kernel_rfl) rfl #[.agg #[.int .i64 ((rd_T47 l0 (ji6)).f0), .int .i64 ((rd_T47 l0 (ji6)).f1), .int .i64 ((rd_T47 l0 (ji6)).f2)], .agg #[.int .i64 a1_0, .int .i64 a1_1, .int .i64 a1_2]] (by rfl) rfl rfl rfl (by (try simp only [List.map_toArray, List.map_cons, List.map_nil]); first | done | (simp only [hji6]; rfl) | rfl | (simp only [List.length_drop, List.length_take]; rfl)) ?_; with_reducible refine (impl_Entry_order.calls k1 ((rd_T47 l0 (ji6)).f0) ((rd_T47 l0 (ji6)).f1) ((rd_T47 l0 (ji6)).f2) a1_0 a1_1 a1_2 t245 _ A9.out).mono ?_
       rintro e w14 ⟨rfl, hb⟩; refine ⟨_, rfl, ?_⟩; replace BK243 := Aside0.mk (blk_below BK243.out hb); replace HB := Aside0.mk (below_step HB.out hb); (try clear hb); (try clear hb2); (try clear hk); (try clear hi); refine hK.out _ _ ⟨bc_ BK243.out 0, bc_ BK243.out 1, bc_ BK243.out 2, (ce_ HB.out hw244_0 :), (ce_ HB.out hw244_1 :), (ce_ HB.out hw244_2 :)⟩ (fun hHeld => ?_); clear hK K; refine n_ (some 30) ?_; refine p_ 7 (some 31) HT_.out (bm 8 255) ?_; refine done_ (done_of HT_.out (by kernel_rfl)) ?_; try go_wp2
       go_roundg k1
       case measure => have := HK1.out; omega
       case rel => exact ⟨(x9_1), (ji6), (by first | rfl | (simp; done) | (simp [*]; done)), (by first | rfl | (simp; done) | (simp only [← hji6] <;> (first | rfl | simp)) | (simp [*]; done)), H', ⟨by have := HK1.out; omega⟩, ⟨by exact BK243.out⟩, ⟨(a4_ HB.out GE243.out)⟩⟩
     ·
      rw [if_neg c8] at H; exact absurd H (by simp)
    ·
     rw [if_neg c7] at H; exact absurd H (by simp)
   ·
    rw [if_neg c5] at H; have c5b0 : decide (x9_1 < x10_1) = false := decide_eq_false c5; clear c5; by_cases c15 : x9_1 < (l0.length : Int)
    ·
     rw [if_pos c15] at H; have c15b0 : decide (x9_1 < (l0.length : Int)) = true := decide_eq_true c15; clear c15; by_cases c16 : 0 ≤ x9_1
     ·
      rw [if_pos c16] at H; have c16b0 : decide (0 ≤ x9_1) = true := decide_eq_true c16; clear c16; by_cases c17 : x9_1 < (l0.length : Int)
      ·
       rw [if_pos c17] at H; have c17b0 : decide (x9_1 < (l0.length : Int)) = true := decide_eq_true c17; clear c17; replace H := Option.bind_eq_some_iff.mp H; obtain ⟨t247, A180, H⟩ := H; replace H : (some (x9_1, (t247 == 0))) = some (r1, r2) := H; have A18 := Aside0.mk A180; clear A180; simp only [Option.some.injEq, Prod.mk.injEq] at H; obtain ⟨rfl, rfl⟩ := H; try go_wp2
       replace BK243 := Aside0.mk (blk_drew BK243.out); replace HB := Aside0.mk (below_drew1 HB.out); have p246 : 0 ≤ (x9_1 : Int) := d_; have q246 : x9_1 < (l0.length : Int) := d_; obtain ⟨ad246, e246, hx246_0, hx246_1, hx246_2⟩ := at_T47 HR0.out x9_1 p246 q246; have hw246_2 := hx246_2; have hw246_1 := hx246_1; have hw246_0 := hx246_0; cases e246; replace hx246_0 := ce_ HB.out hx246_0; replace hx246_1 := ce_ HB.out hx246_1; replace hx246_2 := ce_ HB.out hx246_2; replace p246 := eq_true p246; replace q246 := eq_true q246; refine start_ (n := 16) (S := fun w' => w'.cell? ⟨gb243, 0, none⟩ = some (.int .i64 a1_0) ∧ w'.cell? ⟨gb243, 1, none⟩ = some (.int .i64 a1_1) ∧ w'.cell? ⟨gb243, 2, none⟩ = some (.int .i64 a1_2) ∧ w'.cell? (ad246.add ((x9_1).toNat * 3)) = some (.int .i64 ((rd_T47 l0 x9_1).f0)) ∧ w'.cell? ⟨(ad246.add ((x9_1).toNat * 3)).block, (ad246.add ((x9_1).toNat * 3)).off + 1, none⟩ = some (.int .i64 ((rd_T47 l0 x9_1).f1)) ∧ w'.cell? ⟨(ad246.add ((x9_1).toNat * 3)).block, (ad246.add ((x9_1).toNat * 3)).off + 2, none⟩ = some (.int .i64 ((rd_T47 l0 x9_1).f2))) (ds := []) #[false, false, false, false, false, false, false, false, false, false, false, false, false, false, false, false] (by kernel_rfl) rfl rfl ⟨bc_ BK243.out 0, bc_ BK243.out 1, bc_ BK243.out 2, (ce_ HB.out hw246_0 :), (ce_ HB.out hw246_1 :), (ce_ HB.out hw246_2 :)⟩ (fun hHeld => ?_); refine with_tabW impl_Entry_56.tab8 impl_Entry_56.bits8 (fun HT_ HW_ => ?_)
       generalize wr.drew = w19 at BK243 HB hx246_0 hx246_1 hx246_2 hHeld ⊢; refine p_ 0 (some 35) HT_.out (bm 16 1) ?_; refine p_ 1 (some 36) HT_.out (bm 16 3) ?_; refine p_ 2 (some 37) HT_.out (bm 16 7) ?_; refine p_ 3 (some 38) HT_.out (bm 16 15) ?_; refine p_ 4 (some 39) HT_.out (bm 16 31) ?_; refine p_ 5 (some 40) HT_.out (bm 16 63) ?_; refine p_ 6 (some 41) HT_.out (bm 16 127) ?_; refine p_ 7 (some 42) HT_.out (bm 16 255) ?_; refine p_ 8 (some 43) HT_.out (bm 16 511) ?_; refine t_ 9 (some 44) (bm 16 1023) (take_ofW HT_.out HW_.out (by kernel_rfl)) hHeld ?_; refine t_ 10 (some 45) (bm 16 2047) (take_ofW HT_.out HW_.out (by kernel_rfl)) hHeld ?_; refine one_ (i := 11) (N := some 46) (bm 16 4095) rfl rfl (one_of HT_.out (by kernel_rfl)) (by decide) (fun K hK => ?_); refine goes_t Try.func41 (by kernel_rfl) rfl #[.agg #[.int .i64 ((rd_T47 l0 x9_1).f0), .int .i64 ((rd_T47 l0 x9_1).f1), .int .i64 ((rd_T47 l0 x9_1).f2)], .agg #[.int .i64 a1_0, .int .i64 a1_1, .int .i64 a1_2]] (by rfl) rfl rfl rfl (by (try simp only [List.map_toArray, List.map_cons, List.map_nil]); first | done | rfl | (simp only [List.length_drop, List.length_take]; rfl)) ?_; with_reducible refine (impl_Entry_order.calls k1 ((rd_T47 l0 x9_1).f0) ((rd_T47 l0 x9_1).f1) ((rd_T47 l0 x9_1).f2) a1_0 a1_1 a1_2 t247 _ A18.out).mono ?_
       rintro e w20 ⟨rfl, hb⟩; refine ⟨_, rfl, ?_⟩; replace BK243 := Aside0.mk (blk_below BK243.out hb); replace HB := Aside0.mk (below_step HB.out hb); (try clear hb); (try clear hb2); (try clear hk); (try clear hi); refine hK.out _ _ ⟨bc_ BK243.out 0, bc_ BK243.out 1, bc_ BK243.out 2, (ce_ HB.out hw246_0 :), (ce_ HB.out hw246_1 :), (ce_ HB.out hw246_2 :)⟩ (fun hHeld => ?_); clear hK K; refine n_ (some 46) ?_; refine p_ 12 (some 47) HT_.out (bm 16 8191) ?_; refine p_ 13 (some 48) HT_.out (bm 16 16383) ?_; refine p_ 14 (some 6) HT_.out (bm 16 32767) ?_; refine p_ 15 (some 7) HT_.out (bm 16 65535) ?_; refine done_ (done_of HT_.out (by kernel_rfl)) ?_; try go_wp2
       go_ret2
       exact ⟨a1_, (a4_ HB.out GE243.out)⟩
      ·
       rw [if_neg c17] at H; exact absurd H (by simp)
     ·
      rw [if_neg c16] at H; exact absurd H (by simp)
    ·
     rw [if_neg c15] at H; have c15b0 : decide (x9_1 < (l0.length : Int)) = false := decide_eq_false c15; clear c15; simp only [Option.some.injEq, Prod.mk.injEq] at H; obtain ⟨rfl, rfl⟩ := H; try go_wp2
     replace BK243 := Aside0.mk (blk_drew BK243.out); replace HB := Aside0.mk (below_drew1 HB.out); refine start_ (n := 16) (S := fun w' => True) (ds := []) #[false, false, false, false, false, false, false, false, false, false, false, false, false, false, false, false] (by kernel_rfl) rfl rfl trivial (fun hHeld => ?_); refine with_tabW impl_Entry_56.tab8 impl_Entry_56.bits8 (fun HT_ HW_ => ?_); generalize wr.drew = w21 at BK243 HB hHeld ⊢; refine p_ 0 (some 35) HT_.out (bm 16 1) ?_; refine p_ 1 (some 36) HT_.out (bm 16 3) ?_; refine p_ 2 (some 37) HT_.out (bm 16 7) ?_; refine p_ 3 (some 38) HT_.out (bm 16 15) ?_; refine p_ 4 (some 39) HT_.out (bm 16 31) ?_; refine u_ 5 (some 40) HT_.out (bm 16 63) ?_; refine u_ 6 (some 41) HT_.out (bm 16 127) ?_; refine u_ 7 (some 42) HT_.out (bm 16 255) ?_; refine u_ 8 (some 43) HT_.out (bm 16 511) ?_; refine u_ 9 (some 44) HT_.out (bm 16 1023) ?_; refine u_ 10 (some 45) HT_.out (bm 16 2047) ?_; refine u_ 11 (some 46) HT_.out (bm 16 4095) ?_; refine u_ 12 (some 47) HT_.out (bm 16 8191) ?_; refine p_ 13 (some 48) HT_.out (bm 16 16383) ?_; refine p_ 14 (some 6) HT_.out (bm 16 32767) ?_; refine p_ 15 (some 7) HT_.out (bm 16 65535) ?_; refine done_ (done_of HT_.out (by kernel_rfl)) ?_; try go_wp2
     go_ret2
     exact ⟨a1_, (a4_ HB.out GE243.out)⟩

/-! ### impl_place: function 39 -/
def impl_place.f (k : Nat) (l0 : List (S47)) (a1_0 : Int) (a1_1 : Int) (a1_2 : Int) : Option (Int × Bool) := (impl_Entry_56.f k l0 a1_0 a1_1 a1_2).bind fun bt249 => (some (bt249.1, bt249.2))
theorem impl_place.mono : ∀ a0 a1 a2 a3 k, LeO (impl_place.f k a0 a1 a2 a3) (impl_place.f (k + 1) a0 a1 a2 a3) := by
  intro a0 a1 a2 a3 k
  unfold impl_place.f
  repeat' first | (with_reducible exact impl_Entry_56.mono _ _ _ _ _) | (with_reducible exact LeO.refl _) | (with_reducible exact LeO.none _) | (with_reducible refine LeO.ite ?_ ?_) | (with_reducible refine LeO.bind ?_ (fun _ => ?_)) | exact impl_Entry_56.mono _ _ _ _ _ | exact LeO.none _ | refine LeO.ite ?_ ?_ | refine LeO.bind ?_ (fun _ => ?_)
theorem impl_place.calls (k : Nat) (A0 : Option Addr) (c0 : Nat) (l0 : List (S47)) (a1_0 : Int) (a1_1 : Int) (a1_2 : Int) (r1 : Int) (r2 : Bool) (w : World) (hr0 : Kd.C k47 w A0 l0.length l0) (hc0 : l0.length ≤ c0) (h : impl_place.f k l0 a1_0 a1_1 a1_2 = some (r1, r2)) :
    Calls Try.prog 39 #[.slice A0 l0.length c0, .agg #[.int .i64 a1_0, .int .i64 a1_1, .int .i64 a1_2]] w fun e w' => e = .returned (.tuple #[.int .i64 r1, .bool r2]) ∧ Below w.heap.size w w' := by
 have hu47 := Try.underlying47; have HR0 := Aside0.mk hr0; have HC0 := Aside0.mk hc0; clear hr0 hc0; have HB := Aside0.mk (Below.refl w.heap.size w); have H : ((impl_Entry_56.f k l0 a1_0 a1_1 a1_2).bind fun bt249 => (some (bt249.1, bt249.2))) = some (r1, r2) := h; clear h; replace H := Option.bind_eq_some_iff.mp H; obtain ⟨⟨t249, t250⟩, A30, H⟩ := H; replace H : (some (t249, t250)) = some (r1, r2) := H; have A3 := Aside0.mk A30; clear A30; simp only [Option.some.injEq, Prod.mk.injEq] at H; obtain ⟨rfl, rfl⟩ := H; go_enter Try.func39, Try.ntmps39; go_wp2_with (first | ((with_reducible refine gate_dst (N := 3) rfl ?_); refine be_ 3 #[.int .i64 a1_0, .int .i64 a1_1, .int .i64 a1_2] 47 ?_; intro gb248 hg w4 hbox hb; have BK248 := Aside0.mk (hbox); have GW248 := Aside0.mk ((by rw [hg]; exact (below_size HB.out) : w.heap.size ≤ gb248)); replace HB := Aside0.mk (below_step HB.out hb); have GE248 := GW248; clear hb hbox hg; obtain ⟨⟨hcz5_0, hcz5_1, hcz5_2⟩, hfz5_0, hfz5_1, hfz5_2⟩ := cells_3 BK248.out) | ((with_reducible refine gate_callee (f := 56) rfl ?_); refine gl_ (some 8) Try.func56 #[.slice A0 l0.length c0, .agg #[.int .i64 a1_0, .int .i64 a1_1, .int .i64 a1_2], .func (.func 41) #[] #[]] ?_; (with_reducible refine (impl_Entry_56.calls k _ _ l0 a1_0 a1_1 a1_2 t249 t250 _ ?side1 HC0.out A3.out).mono ?_); (case side1 => exact (cb_ HR0.out HB.out)); rintro e w6 ⟨rfl, hb⟩; refine ⟨_, rfl, ?_⟩; replace BK248 := Aside0.mk (blk_below BK248.out hb); replace HB := Aside0.mk (below_step HB.out hb); (try clear hb); (try clear hb2); (try clear hk); (try clear hi)))
 go_ret2
 exact ⟨a1_, (a4_ HB.out GE248.out)⟩

end Go.Proofs.Ytcbfopepfhfaoaa.Print
