-- Printed by wip/myprint.py over the kit's print, in this session's own call.
import Derived.Test.YtepbkhgffjinjaaPrint0
namespace Go.Proofs.Ytepbkhgffjinjaa.Print
open Go.RowKit Go.Proofs.YtepbkhgffjinjaaW.PrintWords Go.Proofs.YtepbkhgffjinjaaW.PrintLast Go.Proofs.YtepbkhgffjinjaaW.PrintMore
attribute [local go_sem] max2_int min2_int max_two min_two max_three min_three max_four min_four   -- for this text's walks alone
set_option maxHeartbeats 8000000
set_option maxRecDepth 100000
set_option linter.unusedVariables false
set_option linter.unusedSimpArgs false

/-! ### impl_in: function 60 -/
def impl_in.f (a0 : Int) (a1 : Int) (a2 : Int) : Option (Bool) := if a1 ≤ a0 then (some (decide (a0 ≤ a2))) else (some false)
theorem impl_in.calls (a0 : Int) (a1 : Int) (a2 : Int) (r : Bool) (w : World) (h : impl_in.f a0 a1 a2 = some r) :
    Calls Try.prog 60 #[.int .i64 a0, .int .i64 a1, .int .i64 a2] w fun e w' => e = .returned (.bool r) ∧ Drawn0 w w' := by
 have H : (if a1 ≤ a0 then (some (decide (a0 ≤ a2))) else (some false)) = some r := h; clear h; by_cases c4 : a1 ≤ a0
 ·
  rw [if_pos c4] at H; have c4b0 : decide (a1 ≤ a0) = true := decide_eq_true c4; clear c4; obtain rfl := Option.some.inj H; go_enter Try.func60, Try.ntmps60; go_wp2
  go_ret
  exact ⟨by first | rfl | (simp; done) | (simp [*]; done), by repeat (first | exact Drawn0.refl _ | apply Drawn0.step)⟩
 ·
  rw [if_neg c4] at H; have c4b0 : decide (a1 ≤ a0) = false := decide_eq_false c4; clear c4; obtain rfl := Option.some.inj H; go_enter Try.func60, Try.ntmps60; go_wp2
  go_ret
  exact ⟨by first | rfl | (simp; done) | (simp [*]; done), by repeat (first | exact Drawn0.refl _ | apply Drawn0.step)⟩

/-! ### impl_isId: function 40 -/
def impl_isId.f (a0 : Int) : Option (Bool) := (impl_in.f a0 1 1000000).bind fun t101 => (some t101)
theorem impl_isId.calls (a0 : Int) (r : Bool) (w : World) (h : impl_isId.f a0 = some r) :
    Calls Try.prog 40 #[.int .i64 a0] w fun e w' => e = .returned (.bool r) ∧ Drawn0 w w' := by
 have H : ((impl_in.f a0 1 1000000).bind fun t101 => (some t101)) = some r := h; clear h; replace H := Option.bind_eq_some_iff.mp H; obtain ⟨t101, A20, H⟩ := H; replace H : (some t101) = some r := H; have A2 := Aside0.mk A20; clear A20; obtain rfl := Option.some.inj H; go_enter Try.func40, Try.ntmps40; go_wp2_with (first | ((with_reducible refine gate_callee (f := 60) rfl ?_); refine gl_ (some 4) Try.func60 #[.int .i64 a0, .int .i64 1, .int .i64 1000000] ?_; (with_reducible refine (impl_in.calls a0 1 1000000 t101 _ A2.out).mono ?_); rintro e w' ⟨rfl, ⟨nd, rfl⟩⟩; refine ⟨_, rfl, ?_⟩))
 go_ret
 exact ⟨by first | rfl | (simp; done) | (simp [*]; done), by repeat (first | exact Drawn0.refl _ | apply Drawn0.step)⟩

/-! ### impl_SpansOf_1: function 39 -/
def impl_SpansOf_1.f (a0 : Int) : Option (Bool) := (impl_isId.f a0).bind fun t102 => (some (!t102))
theorem impl_SpansOf_1.calls (a0 : Int) (r : Bool) (w : World) (h : impl_SpansOf_1.f a0 = some r) :
    Calls Try.prog 39 #[.int .i64 a0] w fun e w' => e = .returned (.bool r) ∧ Drawn0 w w' := by
 have H : ((impl_isId.f a0).bind fun t102 => (some (!t102))) = some r := h; clear h; replace H := Option.bind_eq_some_iff.mp H; obtain ⟨t102, A20, H⟩ := H; replace H : (some (!t102)) = some r := H; have A2 := Aside0.mk A20; clear A20; obtain rfl := Option.some.inj H; go_enter Try.func39, Try.ntmps39; go_wp2_with (first | ((with_reducible refine gate_callee (f := 40) rfl ?_); refine gl_ (some 4) Try.func40 #[.int .i64 a0] ?_; (with_reducible refine (impl_isId.calls a0 t102 _ A2.out).mono ?_); rintro e w' ⟨rfl, ⟨nd, rfl⟩⟩; refine ⟨_, rfl, ?_⟩))
 go_ret
 exact ⟨by first | rfl | (simp; done) | (simp [*]; done), by repeat (first | exact Drawn0.refl _ | apply Drawn0.step)⟩

/-! ### impl_SpansJoin_1: function 47 -/
def impl_SpansJoin_1.f (a0_0 : Int) (a0_1 : Int) (a1_0 : Int) (a1_1 : Int) : Option (Int) := some (wrap64 (a0_0 - a1_0))
theorem impl_SpansJoin_1.calls (a0_0 : Int) (a0_1 : Int) (a1_0 : Int) (a1_1 : Int) (r : Int) (w : World) (h : impl_SpansJoin_1.f a0_0 a0_1 a1_0 a1_1 = some r) :
    Calls Try.prog 47 #[.agg #[.int .i64 a0_0, .int .i64 a0_1], .agg #[.int .i64 a1_0, .int .i64 a1_1]] w fun e w' => e = .returned (.int .i64 r) ∧ Below w.heap.size w w' := by
 have hu60 := Try.underlying60; have HB := Aside0.mk (Below.refl w.heap.size w); have H : (some (wrap64 (a0_0 - a1_0))) = some r := h; clear h; obtain rfl := Option.some.inj H; go_enter Try.func47, Try.ntmps47; go_wp2_with (first | ((with_reducible refine gate_dst (N := 2) rfl ?_); refine be_ 2 #[.int .i64 a0_0, .int .i64 a0_1] 60 ?_; intro gb103 hg w3 hbox hb; have BK103 := Aside0.mk (hbox); have GW103 := Aside0.mk ((by rw [hg]; exact (below_size HB.out) : w.heap.size ≤ gb103)); replace HB := Aside0.mk (below_step HB.out hb); have GE103 := GW103; clear hb hbox hg) | ((with_reducible refine gate_dst (N := 3) rfl ?_); refine be_ 3 #[.int .i64 a1_0, .int .i64 a1_1] 60 ?_; intro gb104 hg w4 hbox hb; have BK104 := Aside0.mk (hbox); have GW104 := Aside0.mk ((by rw [hg]; exact (below_size HB.out) : w.heap.size ≤ gb104)); replace HB := Aside0.mk (below_step HB.out hb); have GE104 := GW104; have NB103_104 := Aside0.mk ((by rw [hg]; exact Nat.ne_of_lt (blk_lt BK103.out) : gb103 ≠ gb104)); replace BK103 := Aside0.mk (blk_below BK103.out hb); have NB104_103 := Aside0.mk (Ne.symm NB103_104.out); clear hb hbox hg; have hnb5 := NB103_104.out; have hnc5 := NB104_103.out; obtain ⟨⟨hcz6_0, hcz6_1⟩, hfz6_0, hfz6_1⟩ := cells_2 BK103.out; obtain ⟨⟨hcz7_0, hcz7_1⟩, hfz7_0, hfz7_1⟩ := cells_2 BK104.out))
 go_ret
 exact ⟨a1_, (a2_ HB.out GE103.out GE104.out)⟩

/-! ### slices_IndexFunc_int64_int64: function 65 -/
def slices_IndexFunc_int64_int64.l0 : Nat → List Int → Int → Int → Option (Int)
  | 0, _, _, _ => none
  | k + 1, x0, x7, x8 => if x8 < x7 then (if 0 ≤ x8 then (if x8 < (x0.length : Int) then ((impl_SpansOf_1.f (rd x0 x8)).bind fun t106 => (if t106 = true then (some x8) else (slices_IndexFunc_int64_int64.l0 k x0 x7 (wrap64 (x8 + 1))))) else (none)) else (none)) else (some (-1))
def slices_IndexFunc_int64_int64.f (k : Nat) (l0 : List Int)  : Option (Int) := slices_IndexFunc_int64_int64.l0 k l0 (l0.length : Int) 0
theorem slices_IndexFunc_int64_int64.mono_l : ∀ k, (∀ y0 y1 y2, LeO (slices_IndexFunc_int64_int64.l0 k y0 y1 y2) (slices_IndexFunc_int64_int64.l0 (k + 1) y0 y1 y2))
  | 0 => fun _ _ _ r h => by simp [slices_IndexFunc_int64_int64.l0] at h
  | k + 1 => by
    have ih0 := slices_IndexFunc_int64_int64.mono_l k
    · intro y0 y1 y2
      unfold slices_IndexFunc_int64_int64.l0
      repeat' first | (with_reducible exact ih0 _ _ _) | (with_reducible exact LeO.refl _) | (with_reducible exact LeO.none _) | (with_reducible refine LeO.ite ?_ ?_) | (with_reducible refine LeO.bind ?_ (fun _ => ?_)) | exact ih0 _ _ _ | exact LeO.none _ | refine LeO.ite ?_ ?_ | refine LeO.bind ?_ (fun _ => ?_)
theorem slices_IndexFunc_int64_int64.mono : ∀ a0 k, LeO (slices_IndexFunc_int64_int64.f k a0) (slices_IndexFunc_int64_int64.f (k + 1) a0) := by
  intro a0 k
  have ih0 := slices_IndexFunc_int64_int64.mono_l k
  unfold slices_IndexFunc_int64_int64.f
  repeat' first | (with_reducible exact ih0 _ _ _) | (with_reducible exact LeO.refl _) | (with_reducible exact LeO.none _) | (with_reducible refine LeO.ite ?_ ?_) | (with_reducible refine LeO.bind ?_ (fun _ => ?_)) | exact ih0 _ _ _ | exact LeO.none _ | refine LeO.ite ?_ ?_ | refine LeO.bind ?_ (fun _ => ?_)
theorem slices_IndexFunc_int64_int64.calls (k : Nat) (A0 : Option Addr) (c0 : Nat) (l0 : List Int)  (r : Int) (w : World) (hr0 : Kd.C (Kd.int .i64) w A0 l0.length l0) (hc0 : l0.length ≤ c0) (h : slices_IndexFunc_int64_int64.f k l0 = some r) :
    Calls Try.prog 65 #[.slice A0 l0.length c0, .func (.func 39) #[] #[]] w fun e w' => e = .returned (.int .i64 r) ∧ Drawn0 w w' := by
 have HR0 := Aside0.mk hr0; have HC0 := Aside0.mk hc0; clear hr0 hc0; have H : (slices_IndexFunc_int64_int64.l0 k l0 (l0.length : Int) 0) = some r := h; clear h; have H' := Aside0.mk H; clear H; go_enter Try.func65, Try.ntmps65; go_wp2
 go_loopg [8] k (fun kq v8 w' => ∃ (x8_1 : Int), v8 = .int .i64 x8_1 ∧ Aside0 (slices_IndexFunc_int64_int64.l0 kq l0 (l0.length : Int) x8_1 = some r) ∧ Aside0 (kq ≤ k) ∧ Drawn0 w w')
 case atStart => exact ⟨(0), (by first | rfl | (simp; done) | (simp [*]; done)), H', ⟨Nat.le_refl _⟩, by repeat (first | exact Drawn0.refl _ | apply Drawn0.step)⟩
 case round =>
  clear H'; (try clear p2); obtain ⟨x8_1, rfl, HA, HK1, ⟨m1, rfl⟩⟩ := hrel
  cases gk with
  | zero => exact absurd HA.out (by simp [slices_IndexFunc_int64_int64.l0])
  | succ k1 =>
   have H := HA.out; clear HA; simp only [slices_IndexFunc_int64_int64.l0] at H; by_cases c3 : x8_1 < (l0.length : Int)
   ·
    rw [if_pos c3] at H; have c3b0 : decide (x8_1 < (l0.length : Int)) = true := decide_eq_true c3; clear c3; by_cases c4 : 0 ≤ x8_1
    ·
     rw [if_pos c4] at H; have c4b0 : decide (0 ≤ x8_1) = true := decide_eq_true c4; clear c4; by_cases c5 : x8_1 < (l0.length : Int)
     ·
      rw [if_pos c5] at H; have c5b0 : decide (x8_1 < (l0.length : Int)) = true := decide_eq_true c5; clear c5; replace H := Option.bind_eq_some_iff.mp H; obtain ⟨t106, A60, H⟩ := H; replace H : (if t106 = true then (some x8_1) else (slices_IndexFunc_int64_int64.l0 k1 l0 (l0.length : Int) (wrap64 (x8_1 + 1)))) = some r := H; have A6 := Aside0.mk A60; clear A60; by_cases c7 : t106 = true
      ·
       subst c7; have H1 : (some x8_1) = some r := by rw [if_pos rfl] at H; exact H
       clear H; have H := H1; clear H1; obtain rfl := Option.some.inj H; have p105 : 0 ≤ (x8_1 : Int) := d_; have q105 : x8_1 < (l0.length : Int) := d_; obtain ⟨ad105, e105, hx105_0⟩ := Kd.at_int HR0.out x8_1 p105 q105; cases e105; replace p105 := eq_true p105; replace q105 := eq_true q105; go_wp2_with (first | (go_at_call 39; (with_reducible refine (impl_SpansOf_1.calls (rd l0 x8_1) true _ A6.out).mono ?_); rintro e w' ⟨rfl, ⟨nd, rfl⟩⟩))
       go_ret
       exact ⟨by first | rfl | (simp; done) | (simp [*]; done), by repeat (first | exact Drawn0.refl _ | apply Drawn0.step)⟩
      ·
       replace c7 := Bool.eq_false_iff.mpr c7; subst c7; have H1 : (slices_IndexFunc_int64_int64.l0 k1 l0 (l0.length : Int) (wrap64 (x8_1 + 1))) = some r := by rw [if_neg (show ¬ (false = true) by decide)] at H; exact H
       clear H; have H := H1; clear H1; have H' := Aside0.mk H; clear H; have p105 : 0 ≤ (x8_1 : Int) := d_; have q105 : x8_1 < (l0.length : Int) := d_; obtain ⟨ad105, e105, hx105_0⟩ := Kd.at_int HR0.out x8_1 p105 q105; cases e105; replace p105 := eq_true p105; replace q105 := eq_true q105; go_wp2_with (first | (go_at_call 39; (with_reducible refine (impl_SpansOf_1.calls (rd l0 x8_1) false _ A6.out).mono ?_); rintro e w' ⟨rfl, ⟨nd, rfl⟩⟩))
       go_roundg k1
       case measure => have := HK1.out; omega
       case rel => exact ⟨(wrap64 (x8_1 + 1)), (by first | rfl | (simp; done) | (simp [*]; done)), H', ⟨by have := HK1.out; omega⟩, by repeat (first | exact Drawn0.refl _ | apply Drawn0.step)⟩
     ·
      rw [if_neg c5] at H; exact absurd H (by simp)
    ·
     rw [if_neg c4] at H; exact absurd H (by simp)
   ·
    rw [if_neg c3] at H; have c3b0 : decide (x8_1 < (l0.length : Int)) = false := decide_eq_false c3; clear c3; obtain rfl := Option.some.inj H; go_wp2
    go_ret
    exact ⟨by first | rfl | (simp; done) | (simp [*]; done), by repeat (first | exact Drawn0.refl _ | apply Drawn0.step)⟩

/-! ### slices_ContainsFunc_int64_int64: function 38 -/
def slices_ContainsFunc_int64_int64.f (k : Nat) (l0 : List Int)  : Option (Bool) := (slices_IndexFunc_int64_int64.f k l0).bind fun t107 => (some (decide (t107 ≥ 0)))
theorem slices_ContainsFunc_int64_int64.mono : ∀ a0 k, LeO (slices_ContainsFunc_int64_int64.f k a0) (slices_ContainsFunc_int64_int64.f (k + 1) a0) := by
  intro a0 k
  unfold slices_ContainsFunc_int64_int64.f
  repeat' first | (with_reducible exact slices_IndexFunc_int64_int64.mono _ _) | (with_reducible exact LeO.refl _) | (with_reducible exact LeO.none _) | (with_reducible refine LeO.ite ?_ ?_) | (with_reducible refine LeO.bind ?_ (fun _ => ?_)) | exact slices_IndexFunc_int64_int64.mono _ _ | exact LeO.none _ | refine LeO.ite ?_ ?_ | refine LeO.bind ?_ (fun _ => ?_)
theorem slices_ContainsFunc_int64_int64.calls (k : Nat) (A0 : Option Addr) (c0 : Nat) (l0 : List Int)  (r : Bool) (w : World) (hr0 : Kd.C (Kd.int .i64) w A0 l0.length l0) (hc0 : l0.length ≤ c0) (h : slices_ContainsFunc_int64_int64.f k l0 = some r) :
    Calls Try.prog 38 #[.slice A0 l0.length c0, .func (.func 39) #[] #[]] w fun e w' => e = .returned (.bool r) ∧ Drawn0 w w' := by
 have HR0 := Aside0.mk hr0; have HC0 := Aside0.mk hc0; clear hr0 hc0; have H : ((slices_IndexFunc_int64_int64.f k l0).bind fun t107 => (some (decide (t107 ≥ 0)))) = some r := h; clear h; replace H := Option.bind_eq_some_iff.mp H; obtain ⟨t107, A30, H⟩ := H; replace H : (some (decide (t107 ≥ 0))) = some r := H; have A3 := Aside0.mk A30; clear A30; obtain rfl := Option.some.inj H; go_enter Try.func38, Try.ntmps38; go_wp2_with (first | ((with_reducible refine gate_callee (f := 65) rfl ?_); refine gl_ (some 7) Try.func65 #[.slice A0 l0.length c0, .func (.func 39) #[] #[]] ?_; (with_reducible refine (slices_IndexFunc_int64_int64.calls k _ _ l0 t107 _ ?side1 HC0.out A3.out).mono ?_); (case side1 => repeat (first | exact HR0.out | (with_reducible refine Kd.C_alloc ?_ _) | (with_reducible refine Kd.C_drewN ?_ _) | (with_reducible refine Kd.C_drew ?_))); rintro e w' ⟨rfl, ⟨nd, rfl⟩⟩; refine ⟨_, rfl, ?_⟩))
 go_ret
 exact ⟨by first | rfl | (simp; done) | (simp [*]; done), by repeat (first | exact Drawn0.refl _ | apply Drawn0.step)⟩

/-! ### impl_spans: function 41 -/
def impl_spans.l0 : Nat → List (S60) → List Int → Int → Int → Option ((List (S60)))
  | 0, _, _, _, _ => none
  | k + 1, x3, x8, x9, x10 => if x10 < x9 then (if 0 ≤ x10 then (if x10 < (x8.length : Int) then (if (wrap64 ((x3.length : Int) - 1)) ≥ 0 then (if 0 ≤ (wrap64 ((x3.length : Int) - 1)) then (if (wrap64 ((x3.length : Int) - 1)) < (x3.length : Int) then (if (wrap64 (((rd_T60 x3 (wrap64 ((x3.length : Int) - 1))).f1) + 1)) = (rd x8 x10) then (impl_spans.l0 k (x3.set ((wrap64 ((x3.length : Int) - 1)) : Int).toNat (⟨(rd_T60 x3 (wrap64 ((x3.length : Int) - 1))).f0, rd x8 x10⟩ : S60)) x8 x9 (wrap64 (x10 + 1))) else (if x3.length < 8796093022208 then (impl_spans.l0 k (x3 ++ [(⟨rd x8 x10, rd x8 x10⟩ : S60)]) x8 x9 (wrap64 (x10 + 1))) else (none))) else (none)) else (none)) else (if x3.length < 8796093022208 then (impl_spans.l0 k (x3 ++ [(⟨rd x8 x10, rd x8 x10⟩ : S60)]) x8 x9 (wrap64 (x10 + 1))) else (none))) else (none)) else (none)) else (some x3)
def impl_spans.f (k : Nat) (l0 : List Int) : Option ((List (S60))) := impl_spans.l0 k (([] : List (S60))) l0 (l0.length : Int) 0
theorem impl_spans.mono_l : ∀ k, (∀ y0 y1 y2 y3, LeO (impl_spans.l0 k y0 y1 y2 y3) (impl_spans.l0 (k + 1) y0 y1 y2 y3))
  | 0 => fun _ _ _ _ r h => by simp [impl_spans.l0] at h
  | k + 1 => by
    have ih0 := impl_spans.mono_l k
    · intro y0 y1 y2 y3
      unfold impl_spans.l0
      repeat' first | (with_reducible exact ih0 _ _ _ _) | (with_reducible exact LeO.refl _) | (with_reducible exact LeO.none _) | (with_reducible refine LeO.ite ?_ ?_) | (with_reducible refine LeO.bind ?_ (fun _ => ?_)) | exact ih0 _ _ _ _ | exact LeO.none _ | refine LeO.ite ?_ ?_ | refine LeO.bind ?_ (fun _ => ?_)
theorem impl_spans.mono : ∀ a0 k, LeO (impl_spans.f k a0) (impl_spans.f (k + 1) a0) := by
  intro a0 k
  have ih0 := impl_spans.mono_l k
  unfold impl_spans.f
  repeat' first | (with_reducible exact ih0 _ _ _ _) | (with_reducible exact LeO.refl _) | (with_reducible exact LeO.none _) | (with_reducible refine LeO.ite ?_ ?_) | (with_reducible refine LeO.bind ?_ (fun _ => ?_)) | exact ih0 _ _ _ _ | exact LeO.none _ | refine LeO.ite ?_ ?_ | refine LeO.bind ?_ (fun _ => ?_)
theorem impl_spans.calls (k : Nat) (A0 : Option Addr) (c0 : Nat) (l0 : List Int) (r : List (S60)) (w : World) (hr0 : Kd.C (Kd.int .i64) w A0 l0.length l0) (hc0 : l0.length ≤ c0) (h : impl_spans.f k l0 = some r) :
    Calls Try.prog 41 #[.slice A0 l0.length c0] w fun e w' => ∃ v0_ : Value, e = .returned (v0_) ∧ Kd.R k60 60 w' w.heap.size (fun _ => True) v0_ r ∧ Below w.heap.size w w' := by
 have hu60 := Try.underlying60; have HR0 := Aside0.mk hr0; have HC0 := Aside0.mk hc0; clear hr0 hc0; have HB := Aside0.mk (Below.refl w.heap.size w); have H : (impl_spans.l0 k (([] : List (S60))) l0 (l0.length : Int) 0) = some r := h; clear h; obtain ⟨y108, hy108⟩ : ∃ y_ : List (S60), y_ = (([] : List (S60))) := ⟨_, rfl⟩; replace H : (impl_spans.l0 k y108 l0 (l0.length : Int) 0) = some r := by first | (rw [hy108]; with_reducible exact H) | (have H2_ := (Option.bind_some _ _).symm.trans H; rw [hy108]; with_reducible exact H2_) | (have H2_ := (Option.bind_some _ _).symm.trans H; with_reducible exact H2_) | with_reducible exact H | (rw [hy108]; exact H) | exact H
 have Ny108 := Aside0.mk hy108; clear hy108; have H' := Aside0.mk H; clear H; go_enter Try.func41, Try.ntmps41; go_wp2_with (first | ((with_reducible refine gate_dst (N := 7) rfl ?_); refine Kd.R_lit k60 _ 60 ?hg (N := 7) ?hd (xs := ([] : List (S60))) (inner := []) (ok := fun _ => True) (okp := fun _ => True) ?hr ?hp (fun _ hk => hk) trivial (Below.refl _ _) (Nat.le_refl _) (by simp) ?_; (case hd => rfl); (case hg => rfl); (case hr => first | (go_simp; done) | (go_simp; rfl)); (case hp => exact (Reps.none _ _)); intro v109 w2 ho3 hb hg_ hnew_; clear hg_ hnew_; (first | rw [← Ny108.out] at ho3 | (simp only [Int.reduceToNat] at ho3; rw [← Ny108.out] at ho3)); have HO110 := Aside0.mk (Kd.R_lower ho3 (below_size HB.out)); replace HB := Aside0.mk (below_step HB.out hb); clear hb ho3))
 go_loopg [3, 10] k (fun kq v3 v10 w' => ∃ (x3_1 : List (S60)) (x10_1 : Int), v10 = .int .i64 x10_1 ∧ Aside0 (impl_spans.l0 kq x3_1 l0 (l0.length : Int) x10_1 = some r) ∧ Aside0 (kq ≤ k) ∧ Aside0 (Kd.R k60 60 w' w.heap.size (fun _ => True) v3 x3_1) ∧ Aside0 (Below w.heap.size w w'))
 case atStart => exact ⟨(y108), (0), (by first | rfl | (simp; done) | (simp [*]; done)), H', ⟨Nat.le_refl _⟩, ⟨(a3_ HO110.out)⟩, ⟨(a4_ HB.out)⟩⟩
 case round =>
  clear H'; (try clear p2); obtain ⟨x3_1, x10_1, rfl, HA, HK1, HO_3, HB⟩ := hrel
  cases gk with
  | zero => exact absurd HA.out (by simp [impl_spans.l0])
  | succ k1 =>
   have H := HA.out; clear HA; simp only [impl_spans.l0] at H; by_cases c4 : x10_1 < (l0.length : Int)
   ·
    rw [if_pos c4] at H; have c4b0 : decide (x10_1 < (l0.length : Int)) = true := decide_eq_true c4; clear c4; by_cases c5 : 0 ≤ x10_1
    ·
     rw [if_pos c5] at H; have c5b0 : decide (0 ≤ x10_1) = true := decide_eq_true c5; clear c5; by_cases c6 : x10_1 < (l0.length : Int)
     ·
      rw [if_pos c6] at H; have c6b0 : decide (x10_1 < (l0.length : Int)) = true := decide_eq_true c6; clear c6; by_cases c7 : (wrap64 ((x3_1.length : Int) - 1)) ≥ 0
      ·
       rw [if_pos c7] at H; have c7b0 : decide (0 ≤ (wrap64 ((x3_1.length : Int) - 1))) = true := decide_eq_true c7; have c7b0w : decide (0 ≤ (IntKind.i64.wrap ((x3_1.length : Int) - 1))) = true := by simp only [i64_w]; exact c7b0
       clear c7; obtain ⟨ji8, hji8⟩ : ∃ j_ : Int, (wrap64 ((x3_1.length : Int) - 1)) = j_ := ⟨_, rfl⟩; replace H : (if 0 ≤ (ji8) then (if (ji8) < (x3_1.length : Int) then (if (wrap64 (((rd_T60 x3_1 (ji8)).f1) + 1)) = (rd l0 x10_1) then (impl_spans.l0 k1 (x3_1.set ((ji8) : Int).toNat (⟨(rd_T60 x3_1 (ji8)).f0, rd l0 x10_1⟩ : S60)) l0 (l0.length : Int) (wrap64 (x10_1 + 1))) else (if x3_1.length < 8796093022208 then (impl_spans.l0 k1 (x3_1 ++ [(⟨rd l0 x10_1, rd l0 x10_1⟩ : S60)]) l0 (l0.length : Int) (wrap64 (x10_1 + 1))) else (none))) else (none)) else (none)) = some r := by first | (rw [hji8] at H; exact H) | (simp only [hji8] at H ⊢; exact H)
       (try rw [hji8] at c7b0)
       have hji8w : (IntKind.i64.wrap ((x3_1.length : Int) - 1)) = ji8 := (i64_w _).trans hji8; by_cases c9 : 0 ≤ (ji8)
       ·
        rw [if_pos c9] at H; have c9b0 : decide (0 ≤ (ji8)) = true := decide_eq_true c9; clear c9; by_cases c10 : (ji8) < (x3_1.length : Int)
        ·
         rw [if_pos c10] at H; have c10b0 : decide ((ji8) < (x3_1.length : Int)) = true := decide_eq_true c10; clear c10; by_cases c11 : (wrap64 (((rd_T60 x3_1 (ji8)).f1) + 1)) = (rd l0 x10_1)
         ·
          rw [if_pos c11] at H; have c11b0 : ((wrap64 (((rd_T60 x3_1 (ji8)).f1) + 1)) == (rd l0 x10_1)) = true := beq_iff_eq.mpr c11; have c11b0w : ((IntKind.i64.wrap (((rd_T60 x3_1 (ji8)).f1) + 1)) == (rd l0 x10_1)) = true := by simp only [i64_w]; exact c11b0
          have c11b1 : ((wrap64 (((rd_T60 x3_1 (ji8)).f1) + 1)) != (rd l0 x10_1)) = false := bne_eq_false_iff_eq.mpr c11; have c11b1w : ((IntKind.i64.wrap (((rd_T60 x3_1 (ji8)).f1) + 1)) != (rd l0 x10_1)) = false := by simp only [i64_w]; exact c11b1
          clear c11; obtain ⟨y113, hy113⟩ : ∃ y_ : List (S60), y_ = (x3_1.set ((ji8) : Int).toNat (⟨(rd_T60 x3_1 (ji8)).f0, rd l0 x10_1⟩ : S60)) := ⟨_, rfl⟩; replace H : (impl_spans.l0 k1 y113 l0 (l0.length : Int) (wrap64 (x10_1 + 1))) = some r := by first | (rw [hy113]; with_reducible exact H) | (have H2_ := (Option.bind_some _ _).symm.trans H; rw [hy113]; with_reducible exact H2_) | (have H2_ := (Option.bind_some _ _).symm.trans H; with_reducible exact H2_) | with_reducible exact H | (rw [hy113]; exact H) | exact H
          have Ny113 := Aside0.mk hy113; clear hy113; have H' := Aside0.mk H; clear H; have p111 : 0 ≤ (x10_1 : Int) := d_; have q111 : x10_1 < (l0.length : Int) := d_; obtain ⟨ad111, e111, hx111_0⟩ := Kd.at_int HR0.out x10_1 p111 q111; cases e111; replace hx111_0 := ce_ HB.out hx111_0; replace p111 := eq_true p111; replace q111 := eq_true q111; obtain ⟨Ao13, co13, eo13⟩ := Kd.R_slice HO_3.out; subst eo13; have p112 : 0 ≤ ((ji8) : Int) := d_; have q112 : (ji8) < (x3_1.length : Int) := d_; obtain ⟨ad112, e112, hx112_0, hx112_1⟩ := at_T60 (Kd.R_reads' HO_3.out).2.2 (ji8) p112 q112; cases e112; replace p112 := eq_true p112; replace q112 := eq_true q112; have p12 : 0 ≤ ((ji8) : Int) := d_; have q12 : ((ji8) : Int) < ((x3_1.length : Int) : Int) := d_; obtain ⟨go12, co12, eo12, gb12, gl12, cl12, HG12⟩ := Kd.R_form HO_3.out (by omega); (first | cases eo12 | (injection eo12 with ea_ en_ ec_; (first | subst ea_ | (injection ea_ with ea_; subst ea_)); subst ec_; clear en_))
          have GB12 := Aside0.mk gb12; have GG12 := Aside0.mk HG12; clear gb12 gl12 HG12; (first | simp only [add_plain] at hx112_0 | skip)
          (first | simp only [add_plain] at hx112_1 | skip)
          obtain ⟨ce12, hcl12, hM12, hcc12, hfr12⟩ := Kd.R_elem HO_3.out z60 ((ji8) : Int) p12 q12; obtain rfl := k60_openM hM12; have hx12_0 : wr.cell? ⟨go12, ((ji8) : Int).toNat * 2, none⟩ = some (.int .i64 ((rd_T60 x3_1 (ji8)).f0)) := hcc12 0 _ rfl; have hx12_1 : wr.cell? ⟨go12, ((ji8) : Int).toNat * 2 + 1, none⟩ = some (.int .i64 ((rd_T60 x3_1 (ji8)).f1)) := hcc12 1 _ rfl; have hf12_0 : wr.frozen? ⟨go12, ((ji8) : Int).toNat * 2, none⟩ = false := hfr12 0; have hf12_1 : wr.frozen? ⟨go12, ((ji8) : Int).toNat * 2 + 1, none⟩ = false := hfr12 1; clear hcl12 hcc12 hfr12 hM12; replace p12 := eq_true p12; replace q12 := eq_true q12; have HX14 := Aside0.mk (show Kd.R k60 60 wr w.heap.size (fun _ => True) (.slice (some ⟨go12, 0, none⟩) x3_1.length co13) x3_1 from HO_3.out); obtain ⟨ce14, hcl14, hM14, hcc14, hfr14⟩ := Kd.R_elem HX14.out z60 ((ji8) : Int) (d_) (by have h_ : ((ji8) : Int) < ((x3_1.length : Int) : Int) := d_; first | exact h_ | (have e_ := (Kd.R_reads' HO_3.out).1; omega) | simpa using h_); obtain rfl := k60_openM hM14; have HP14 := Kd.R_seg HX14.out ((ji8) : Int) (d_) (by have h_ : ((ji8) : Int) < ((x3_1.length : Int) : Int) := d_; first | exact h_ | (have e_ := (Kd.R_reads' HO_3.out).1; omega) | simpa using h_) (seg := [.int .i64 (rd l0 x10_1)]) (j := 1) hcl14 hcc14 (show 2 ≤ 2 from by decide) (x' := (⟨(rd_T60 x3_1 (ji8)).f0, rd l0 x10_1⟩ : S60)) (k60_mkM _ _ _ (⟨(rd_T60 x3_1 (ji8)).f0, rd l0 x10_1⟩ : S60) ) (fun _ hk => hk); have hx14_1 := hcc14 1 _ rfl; (try simp only [show (k60).sz = 2 from rfl, Nat.mul_one, Nat.add_zero] at hx14_1)
          have hf14_1 := hfr14 1; (try simp only [show (k60).sz = 2 from rfl, Nat.mul_one, Nat.add_zero] at hf14_1)
          clear hcl14 hcc14 hfr14 hM14; go_wp2_with (first | ((with_reducible refine gate_store (t := 2) (p := 33) rfl ?_); refine store_event (t := 2) (p := 33) (v := ?vo_w15) (w1 := (wr.setCell ⟨go12, ((ji8) : Int).toNat * 2 + 1, none⟩ (.int .i64 (rd l0 x10_1)))) ?hg ?ho ?hn ?hr ?_; (case ho => rfl); (case hg => rfl); (case hn => rfl); (case hr => first | (go_simp; done) | (go_simp; rfl)); intro w15 hw; have hg : wr.grownBy w15 (some go12) := (by rw [hw]; exact HP14.2); have hp_ : Kd.R k60 60 w15 w.heap.size (fun _ => True) (.slice (some ⟨go12, 0, none⟩) x3_1.length co13) y113 := (by rw [hw, Ny113.out]; exact HP14.1); clear HP14; replace HO_3 := Aside0.mk (hp_); replace HB := Aside0.mk ((by rw [hw]; exact below_set (HB.out) GB12.out : Below w.heap.size w w15)); clear hg hw hp_))
          go_roundg k1
          case measure => have := HK1.out; omega
          case rel => exact ⟨(y113), (wrap64 (x10_1 + 1)), (by first | rfl | (simp; done) | (simp [*]; done)), H', ⟨by have := HK1.out; omega⟩, ⟨(a3_ HO_3.out)⟩, ⟨(a4_ HB.out)⟩⟩
         ·
          rw [if_neg c11] at H; have c11b0 : ((wrap64 (((rd_T60 x3_1 (ji8)).f1) + 1)) == (rd l0 x10_1)) = false := beq_eq_false_iff_ne.mpr c11; have c11b0w : ((IntKind.i64.wrap (((rd_T60 x3_1 (ji8)).f1) + 1)) == (rd l0 x10_1)) = false := by simp only [i64_w]; exact c11b0
          have c11b1 : ((wrap64 (((rd_T60 x3_1 (ji8)).f1) + 1)) != (rd l0 x10_1)) = true := bne_iff_ne.mpr c11; have c11b1w : ((IntKind.i64.wrap (((rd_T60 x3_1 (ji8)).f1) + 1)) != (rd l0 x10_1)) = true := by simp only [i64_w]; exact c11b1
          by_cases c16 : x3_1.length < 8796093022208
          ·
           rw [if_pos c16] at H; have LMc16 := Aside0.mk c16; clear c16; obtain ⟨y114, hy114⟩ : ∃ y_ : List (S60), y_ = (x3_1 ++ [(⟨rd l0 x10_1, rd l0 x10_1⟩ : S60)]) := ⟨_, rfl⟩; replace H : (impl_spans.l0 k1 y114 l0 (l0.length : Int) (wrap64 (x10_1 + 1))) = some r := by first | (rw [hy114]; with_reducible exact H) | (have H2_ := (Option.bind_some _ _).symm.trans H; rw [hy114]; with_reducible exact H2_) | (have H2_ := (Option.bind_some _ _).symm.trans H; with_reducible exact H2_) | with_reducible exact H | (rw [hy114]; exact H) | exact H
           have Ny114 := Aside0.mk hy114; clear hy114; have H' := Aside0.mk H; clear H; have p111 : 0 ≤ (x10_1 : Int) := d_; have q111 : x10_1 < (l0.length : Int) := d_; obtain ⟨ad111, e111, hx111_0⟩ := Kd.at_int HR0.out x10_1 p111 q111; cases e111; replace hx111_0 := ce_ HB.out hx111_0; replace p111 := eq_true p111; replace q111 := eq_true q111; obtain ⟨Ao17, co17, eo17⟩ := Kd.R_slice HO_3.out; subst eo17; have p112 : 0 ≤ ((ji8) : Int) := d_; have q112 : (ji8) < (x3_1.length : Int) := d_; obtain ⟨ad112, e112, hx112_0, hx112_1⟩ := at_T60 (Kd.R_reads' HO_3.out).2.2 (ji8) p112 q112; cases e112; replace p112 := eq_true p112; replace q112 := eq_true q112; go_wp2_with (first | ((with_reducible refine gate_builtin (b := .append) (xs := #[.tmp 34, .tmp 38]) rfl ?_); at_builtin; refine Kd.R_append k60 (w0 := w) w.heap.size rfl (.tmp 34) (.tmp 38) 25 60 (.agg #[(.int .i64 0), (.int .i64 0)]) 16 rfl Try.underlying25 info60 rfl (by decide) (by omega) (.slice (some ad112) x3_1.length co17) x3_1 (⟨rd l0 x10_1, rd l0 x10_1⟩ : S60) [.int .i64 (rd l0 x10_1), .int .i64 (rd l0 x10_1)] (fun _ => True) (fun _ => False) rfl rfl ?aP (fun _ hk => hk.elim) ?aF ?aO ?aB ?aS ?aL ?_; (case aP => exact k60_mkM _ _ _ (⟨rd l0 x10_1, rd l0 x10_1⟩ : S60)); (case aB => exact HB.out); (case aF => exact (fun _ _ => trivial)); (case aO => exact HO_3.out); (case aS => exact (below_size HB.out)); (case aL => have := LMc16.out; omega); intro v115 w18 ho hb hg hat; rw [← Ny114.out] at ho; have n0_ := Aside0.mk (hb); have n1_ := Aside0.mk (ho); clear HB; clear HO_3; have HB := n0_; have HO116 := n1_; clear n0_ n1_; clear ho hb hg hat))
           go_roundg k1
           case measure => have := HK1.out; omega
           case rel => exact ⟨(y114), (wrap64 (x10_1 + 1)), (by first | rfl | (simp; done) | (simp [*]; done)), H', ⟨by have := HK1.out; omega⟩, ⟨(a3_ HO116.out)⟩, ⟨(a4_ HB.out)⟩⟩
          ·
           rw [if_neg c16] at H; exact absurd H (by simp)
        ·
         rw [if_neg c10] at H; exact absurd H (by simp)
       ·
        rw [if_neg c9] at H; exact absurd H (by simp)
      ·
       rw [if_neg c7] at H; have c7b0 : decide (0 ≤ (wrap64 ((x3_1.length : Int) - 1))) = false := decide_eq_false c7; have c7b0w : decide (0 ≤ (IntKind.i64.wrap ((x3_1.length : Int) - 1))) = false := by simp only [i64_w]; exact c7b0
       clear c7; by_cases c19 : x3_1.length < 8796093022208
       ·
        rw [if_pos c19] at H; have LMc19 := Aside0.mk c19; clear c19; obtain ⟨y117, hy117⟩ : ∃ y_ : List (S60), y_ = (x3_1 ++ [(⟨rd l0 x10_1, rd l0 x10_1⟩ : S60)]) := ⟨_, rfl⟩; replace H : (impl_spans.l0 k1 y117 l0 (l0.length : Int) (wrap64 (x10_1 + 1))) = some r := by first | (rw [hy117]; with_reducible exact H) | (have H2_ := (Option.bind_some _ _).symm.trans H; rw [hy117]; with_reducible exact H2_) | (have H2_ := (Option.bind_some _ _).symm.trans H; with_reducible exact H2_) | with_reducible exact H | (rw [hy117]; exact H) | exact H
        have Ny117 := Aside0.mk hy117; clear hy117; have H' := Aside0.mk H; clear H; have p111 : 0 ≤ (x10_1 : Int) := d_; have q111 : x10_1 < (l0.length : Int) := d_; obtain ⟨ad111, e111, hx111_0⟩ := Kd.at_int HR0.out x10_1 p111 q111; cases e111; replace hx111_0 := ce_ HB.out hx111_0; replace p111 := eq_true p111; replace q111 := eq_true q111; obtain ⟨Ao20, co20, eo20⟩ := Kd.R_slice HO_3.out; subst eo20; go_wp2_with (first | ((with_reducible refine gate_builtin (b := .append) (xs := #[.tmp 34, .tmp 38]) rfl ?_); at_builtin; refine Kd.R_append k60 (w0 := w) w.heap.size rfl (.tmp 34) (.tmp 38) 25 60 (.agg #[(.int .i64 0), (.int .i64 0)]) 16 rfl Try.underlying25 info60 rfl (by decide) (by omega) (.slice Ao20 x3_1.length co20) x3_1 (⟨rd l0 x10_1, rd l0 x10_1⟩ : S60) [.int .i64 (rd l0 x10_1), .int .i64 (rd l0 x10_1)] (fun _ => True) (fun _ => False) rfl rfl ?aP (fun _ hk => hk.elim) ?aF ?aO ?aB ?aS ?aL ?_; (case aP => exact k60_mkM _ _ _ (⟨rd l0 x10_1, rd l0 x10_1⟩ : S60)); (case aB => exact HB.out); (case aF => exact (fun _ _ => trivial)); (case aO => exact HO_3.out); (case aS => exact (below_size HB.out)); (case aL => have := LMc19.out; omega); intro v118 w21 ho hb hg hat; rw [← Ny117.out] at ho; have n0_ := Aside0.mk (hb); have n1_ := Aside0.mk (ho); clear HB; clear HO_3; have HB := n0_; have HO119 := n1_; clear n0_ n1_; clear ho hb hg hat))
        go_roundg k1
        case measure => have := HK1.out; omega
        case rel => exact ⟨(y117), (wrap64 (x10_1 + 1)), (by first | rfl | (simp; done) | (simp [*]; done)), H', ⟨by have := HK1.out; omega⟩, ⟨(a3_ HO119.out)⟩, ⟨(a4_ HB.out)⟩⟩
       ·
        rw [if_neg c19] at H; exact absurd H (by simp)
     ·
      rw [if_neg c6] at H; exact absurd H (by simp)
    ·
     rw [if_neg c5] at H; exact absurd H (by simp)
   ·
    rw [if_neg c4] at H; have c4b0 : decide (x10_1 < (l0.length : Int)) = false := decide_eq_false c4; clear c4; obtain rfl := Option.some.inj H; go_wp2
    go_ret
    exact ⟨_, a1_, (a3_ HO_3.out), (a4_ HB.out)⟩

/-! ### slices_Sort_int64_int64: function 66 -/
def slices_Sort_int64_int64.f (l : List Int) : Option (List Int) := if l.length ≤ 1000000000000 then some (l.mergeSort fun x y => decide (x ≤ y)) else none
set_option maxHeartbeats 4000000 in
theorem slices_Sort_int64_int64.calls (P0_ : Nat → Prop) (u9000_ : Value) (l0 : List Int) (r1 : List Int) (w0 w : World) (hB : Below w0.heap.size w0 w) (ho0 : Kd.R (Kd.int .i64) 2 w w0.heap.size P0_ u9000_ l0) (h : slices_Sort_int64_int64.f l0 = some r1) :
    Calls Try.prog 66 #[u9000_] w fun e w' => e = .returned (.tuple #[]) ∧ Kd.R (Kd.int .i64) 2 w' w0.heap.size (fun k_ => (P0_ k_ ∨ w.heap.size ≤ k_)) u9000_ r1 ∧ Below w0.heap.size w0 w' ∧ Kept w w' (fun k_ => P0_ k_) := by
  have F : Flat (Kd.int .i64) (fun x => [Value.int .i64 x]) := Flat.one (Value.int .i64) (fun _ => rfl); unfold slices_Sort_int64_int64.f at h
  by_cases c : l0.length ≤ 1000000000000
  rotate_left
  · rw [if_neg c] at h; cases h
  rw [if_pos c] at h; obtain rfl := Option.some.inj h; rcases F.open_ ho0 with ⟨rfl, rfl⟩ | ⟨g, cap, cur, rfl, hok, hg, hb, h1, h2, h3, h4⟩
  · refine (AnyM.slices_Sort_int_none Try.laysSortI none 0 w).mono ?_
    rintro e w' ⟨rfl, rfl⟩; exact ⟨rfl, by rw [List.mergeSort_nil]; exact Kd.R_nil _ _ _ _ _, hB, Kept.refl _ _⟩
  · have e1 : ∀ l : List Int, l.flatMap (fun x => [Value.int .i64 x]) = l.map (Value.int .i64) := fun l => by induction l <;> simp_all
    have hH : Go.Sort.Holds (Value.int .i64) w g 0 l0.toArray := sw_holds _ hb (by rw [e1] at h4; simpa [Kd.int, Kd.scalar] using h4); have hlt : g < w.heap.size := (Array.getElem?_eq_some_iff.1 hb).1; refine (AnyM.slices_Sort_int Try.laysSortI g 0 cap l0 w hH hlt (by omega)).mono ?_; rintro e w' ⟨rfl, n, os, rfl⟩; have hgr := sw_grown (Value.int .i64) (w := w) (g := g) (n := n) (os := os) (l0.mergeSort fun x y => decide (x ≤ y)).toArray; have hlen : (l0.mergeSort fun x y => decide (x ≤ y)).length = l0.length := List.length_mergeSort ..; refine ⟨rfl, ?_, hB.grown hgr hB.size (fun j hj => by cases hj; exact hg), sw_kept hgr hok⟩
    have hR := F.close_ (ok := fun k_ => (P0_ k_ ∨ w.heap.size ≤ k_)) (base := w0.heap.size) (ys := l0.mergeSort fun x y => decide (x ≤ y)) (.inl hok) hg (sw_heap (Value.int .i64) (n := n) (os := os) (l0.mergeSort fun x y => decide (x ≤ y)).toArray hb) (by omega) h2 (by rw [sw_size]; exact h3)
      (by rw [e1]; have := sw_take (Value.int .i64) cur (l0.mergeSort fun x y => decide (x ≤ y)).toArray (by simp only [List.size_toArray]; rw [h3, hlen]; simp [Kd.int, Kd.scalar]; exact h1); simpa [Kd.int, Kd.scalar] using this)
    rw [hlen] at hR; exact hR

/-! ### slices_Compact_int64_int64: function 67 -/
def slices_Compact_int64_int64.f (l : List Int) : Option (List Int) := if l.length ≤ 1000000000000 then some (Go.Lib.compactUpTo l.toArray l.length) else none
set_option maxHeartbeats 4000000 in
theorem slices_Compact_int64_int64.calls (P0_ : Nat → Prop) (u9000_ : Value) (l0 : List Int) (r : List Int) (w0 w : World) (hB : Below w0.heap.size w0 w) (ho0 : Kd.R (Kd.int .i64) 2 w w0.heap.size P0_ u9000_ l0) (h : slices_Compact_int64_int64.f l0 = some r) :
    Calls Try.prog 67 #[u9000_] w fun e w' => ∃ v0_ : Value, e = .returned (v0_) ∧ Kd.R (Kd.int .i64) 2 w' w0.heap.size (fun k_ => (P0_ k_ ∨ w.heap.size ≤ k_)) v0_ r ∧ Below w0.heap.size w0 w' ∧ Kept w w' (fun k_ => P0_ k_) := by
  have F : Flat (Kd.int .i64) (fun x => [Value.int .i64 x]) := Flat.one (Value.int .i64) (fun _ => rfl); unfold slices_Compact_int64_int64.f at h
  by_cases c : l0.length ≤ 1000000000000
  rotate_left
  · rw [if_neg c] at h; cases h
  rw [if_pos c] at h; obtain rfl := Option.some.inj h; rcases F.open_ ho0 with ⟨rfl, rfl⟩ | ⟨g, cap, cur, rfl, hok, hg, hb, h1, h2, h3, h4⟩
  · go_enter Try.func67, Try.ntmps67
    go_wp2
    go_ret
    exact ⟨_, rfl, Kd.R_nil _ _ _ _ _, hB, Kept.refl _ _⟩
  · have e1 : ∀ l : List Int, l.flatMap (fun x => [Value.int .i64 x]) = l.map (Value.int .i64) := fun l => by induction l <;> simp_all
    have hH : Go.Sort.Holds (Value.int .i64) w g 0 l0.toArray := sw_holds _ hb (by rw [e1] at h4; simpa [Kd.int, Kd.scalar] using h4); have hlt : g < w.heap.size := (Array.getElem?_eq_some_iff.1 hb).1
    have hcl : (Go.Lib.compactUpTo l0.toArray l0.length).length ≤ l0.length := by
      unfold Go.Lib.compactUpTo
      rw [List.length_map]; exact Nat.le_trans (List.length_filter_le _ _) (by simp)
    have hq := AnyE.slices_Compact Try.laysCompactI (Value.int .i64) (fun _ => rfl) (EqlAt.intD _ _ _) (NeqAt.intD _ _ _) (0 : Int) (fun w => by kernel_rfl) g 0 cap l0.toArray w hH (by simp only [List.size_toArray]; omega) (by simpa using h1); simp only [List.size_toArray] at hq; refine hq.mono ?_; rintro e w' ⟨rfl, q, rfl⟩; generalize hc : Go.Lib.compactUpTo l0.toArray l0.length = ys at hcl ⊢
    have hgr : w.grownBy (Go.Sort.putRow (Value.int .i64) (Go.Sort.ahead w q) g 0 (ys ++ List.replicate (l0.length - ys.length) 0).toArray) (some g) := by
      have := sw_grown (Value.int .i64) (w := w) (g := g) (n := q) (os := #[]) (ys ++ List.replicate (l0.length - ys.length) 0).toArray; rwa [Go.Sort.grow_empty] at this
    have hhp := sw_heap (Value.int .i64) (n := q) (os := #[]) (ys ++ List.replicate (l0.length - ys.length) 0).toArray hb; rw [Go.Sort.grow_empty] at hhp; refine ⟨_, rfl, ?_, hB.grown hgr hB.size (fun j hj => by cases hj; exact hg), sw_kept hgr hok⟩; refine F.close_ (ok := fun k_ => (P0_ k_ ∨ w.heap.size ≤ k_)) (base := w0.heap.size) (ys := ys) (.inl hok) hg hhp (by omega) h2 (by rw [sw_size]; exact h3) ?_; rw [e1]; have ht := sw_take (Value.int .i64) cur (ys ++ List.replicate (l0.length - ys.length) 0).toArray (by simp only [List.size_toArray, List.length_append, List.length_replicate]; rw [h3]; simp [Kd.int, Kd.scalar]; omega); simp only [List.size_toArray, List.length_append, List.length_replicate] at ht; have hs : (Kd.int .i64).sz = 1 := rfl; rw [hs, Nat.mul_one]; have := congrArg (List.take ys.length) ht; rw [List.take_take, Nat.min_eq_left (by omega), List.map_append, List.take_left' (by simp)] at this; exact this

/-! ### impl_sorted: function 42 -/
def impl_sorted.f (l0 : List Int) : Option (List Int) := (slices_Sort_int64_int64.f l0).bind fun t120 => ((slices_Compact_int64_int64.f t120).bind fun t121 => (some t121))
theorem impl_sorted.calls (P0_ : Nat → Prop) (u9000_ : Value) (l0 : List Int) (r : List Int) (w0 w : World) (hB : Below w0.heap.size w0 w) (ho0 : Kd.R (Kd.int .i64) 2 w w0.heap.size P0_ u9000_ l0) (h : impl_sorted.f l0 = some r) :
    Calls Try.prog 42 #[u9000_] w fun e w' => ∃ v0_ : Value, e = .returned (v0_) ∧ Kd.R (Kd.int .i64) 2 w' w0.heap.size (fun k_ => (P0_ k_ ∨ w.heap.size ≤ k_)) v0_ r ∧ Below w0.heap.size w0 w' ∧ Kept w w' (fun k_ => P0_ k_) := by
 have HO0 := Aside0.mk (show Kd.R (Kd.int .i64) 2 w w0.heap.size (fun k_ => (P0_ k_ ∨ w.heap.size ≤ k_)) u9000_ l0 from Kd.R_mono ho0 (fun k_ hk => (.inl hk))); have HK := Aside0.mk (Kept.refl w (fun k_ => P0_ k_)); have HW0 := Aside0.mk hB.size; have HB := Aside0.mk hB; clear hB; have H : ((slices_Sort_int64_int64.f l0).bind fun t120 => ((slices_Compact_int64_int64.f t120).bind fun t121 => (some t121))) = some r := h; clear h; replace H := Option.bind_eq_some_iff.mp H; obtain ⟨t120, A20, H⟩ := H; replace H : ((slices_Compact_int64_int64.f t120).bind fun t121 => (some t121)) = some r := H; have A2 := Aside0.mk A20; clear A20; replace H := Option.bind_eq_some_iff.mp H; obtain ⟨t121, A30, H⟩ := H; replace H : (some t121) = some r := H; have A3 := Aside0.mk A30; clear A30; obtain rfl := Option.some.inj H; obtain ⟨Ao4, co4, eo4⟩ := Kd.R_slice HO0.out; subst eo4; go_enter Try.func42, Try.ntmps42; go_wp2_with (first | ((with_reducible refine gate_callee (f := 66) rfl ?_); refine gl_ (some 4) Try.func66 #[.slice Ao4 l0.length co4] ?_; (with_reducible refine (slices_Sort_int64_int64.calls (fun k_ => some k_ = (.slice Ao4 l0.length co4 : Value).ownBlock) (.slice Ao4 l0.length co4) l0 t120 w0 _ ?side1 ?side2 A2.out).mono ?_); (case side1 => exact (a4_ HB.out)); (case side2 => exact Kd.R_tight rfl HO0.out); rintro e w5 ⟨rfl, hy0, hb, hkp⟩; refine ⟨_, rfl, ?_⟩; replace HK := Aside0.mk (Kept.then_ (S := (fun k_ => P0_ k_)) HK.out hkp (fun k_ hs_ => (fun e_ => (HO0.out.1 k_ e_.symm)) hs_)); replace HO0 := Aside0.mk (Kd.R_reok rfl hy0 (fun k_ e_ => HO0.out.1 k_ e_)); replace HB := Aside0.mk (hb); (try clear hb); (try clear hkp); (try clear hy0)) | ((with_reducible refine gate_callee (f := 67) rfl ?_); refine gl_ (some 6) Try.func67 #[.slice Ao4 l0.length co4] ?_; (with_reducible refine (slices_Compact_int64_int64.calls (fun k_ => some k_ = (.slice Ao4 l0.length co4 : Value).ownBlock) (.slice Ao4 l0.length co4) t120 t121 w0 _ ?side1 ?side2 A3.out).mono ?_); (case side1 => exact (a4_ HB.out)); (case side2 => exact Kd.R_tight rfl HO0.out); rintro e w6 ⟨v122, rfl, ho0, hb, hkp⟩; refine ⟨_, rfl, ?_⟩; have n0_ := Aside0.mk (Kd.R_mono (ok' := fun k_ => (P0_ k_ ∨ w.heap.size ≤ k_)) ho0 (fun k_ hk_ => Or.elim hk_ (fun hs_ => (HO0.out.1 k_ (hs_).symm)) (fun hn_ => (.inr (Nat.le_trans (by first | exact HK.out.1 | exact (show Kept w _ (fun k_ => P0_ k_) from (a5_ HK.out)).1) hn_))))); have n1_ := Aside0.mk (Kept.then_ (S := (fun k_ => P0_ k_)) HK.out hkp (fun k_ hs_ => (fun e_ => (HO0.out.1 k_ e_.symm)) hs_)); have n2_ := Aside0.mk (hb); clear HK; clear HB; clear HO0; have HO123 := n0_; have HK := n1_; have HB := n2_; clear n0_ n1_ n2_; (try clear hb); (try clear hkp); (try clear ho0)))
 go_ret
 exact ⟨_, a1_, (a3_ HO123.out), (a4_ HB.out), (a5_ HK.out)⟩

/-! ### slices_Clone_int64_int64: function 43 -/
def slices_Clone_int64_int64.f (l : List Int) : Option (List Int) := if l.length ≤ 1000000000000 then some l else none
set_option maxHeartbeats 4000000 in
set_option maxRecDepth 100000 in
theorem slices_Clone_int64_int64.calls (A0 : Option Addr) (c0 : Nat) (l0 : List Int) (r : List Int) (w : World) (hr0 : Kd.C (Kd.int .i64) w A0 l0.length l0) (hc0 : l0.length ≤ c0) (h : slices_Clone_int64_int64.f l0 = some r) :
    Calls Try.prog 43 #[.slice A0 l0.length c0] w fun e w' => ∃ v0_ : Value, e = .returned (v0_) ∧ Kd.R (Kd.int .i64) 2 w' w.heap.size (fun _ => True) v0_ r ∧ Below w.heap.size w w' := by
  unfold slices_Clone_int64_int64.f at h
  by_cases c : l0.length ≤ 1000000000000
  rotate_left
  · rw [if_neg c] at h; cases h
  rw [if_pos c] at h; obtain rfl := Option.some.inj h; have HN := Aside0.mk c; have HR := Aside0.mk hr0; clear c h hc0; have qn : ∀ (w : World) (a : Option Addr) (n c n' c' : Nat), (binOp .eql 23 (.slice a n c) (.slice none n' c')).run Try.prog w = .ok (.bool a.isNone) w := fun w a n c n' c' => Lib.run_eql_slice_nil w _ _ a n c n' c' Try.underlying23
  cases A0 with
  | none =>
    have e0 : l0 = [] := by
      rcases Nat.eq_zero_or_pos l0.length with h0 | h0
      · exact List.eq_nil_of_length_eq_zero h0
      · obtain ⟨ad, h1, _⟩ := hr0.2.2 h0
        cases h1
    subst e0; clear hr0; go_enter Try.func43, Try.ntmps43; go_wp2
    go_ret
    exact ⟨_, rfl, Kd.R_nil _ _ _ _ _, Below.refl _ _⟩
  | some ad =>
    clear hr0; go_enter Try.func43, Try.ntmps43; go_wp2_with (at_builtin; refine Kd.R_append_row (w0 := w) (Value.int .i64) (0 : Int) (h1 := fun _ => rfl) w.heap.size rfl _ _ 23 2 _ 8 rfl Try.underlying23 info2 rfl (by decide) _ [] l0 (some ad) l0.length c0 (fun _ => True) rfl rfl (fun _ _ => trivial) ⟨fun _ _ => trivial, [], World.ownsRow_made w #[] 0 (Nat.le_refl _) (Nat.zero_le _) (by simp), Reps.none _ _⟩ (Kd.C_below HR.out (below_alloc (Below.refl _ _) _)) (below_alloc (Below.refl _ _) _) (by simp) (by have := HN.out; simp; omega) ?_; intro v1 w1 hR hb hg hat; have HR1 := Aside0.mk hR; have HB1 := Aside0.mk hb; clear hR hb hg hat)
    go_ret
    exact ⟨_, rfl, by (have h_ := HR1.out); (try simp at h_); exact h_, HB1.out⟩

/-! ### impl_SpansOf: function 7 -/
def impl_SpansOf.j0 : Nat → List Int → Bool → Option ((List (S60)))
  | 0, _, _ => none
  | k + 1, x0, x9 => if x9 = true then (some ([] : List (S60))) else ((slices_Clone_int64_int64.f x0).bind fun t125 => ((impl_sorted.f t125).bind fun t128 => ((impl_spans.f k t128).bind fun t131 => (some t131))))
def impl_SpansOf.f (k : Nat) (l0 : List Int) : Option ((List (S60))) := if (l0.length : Int) > 400 then (impl_SpansOf.j0 k l0 true) else ((slices_ContainsFunc_int64_int64.f k l0).bind fun t124 => (impl_SpansOf.j0 k l0 t124))
theorem impl_SpansOf.mono_l : ∀ k, (∀ y0 y1, LeO (impl_SpansOf.j0 k y0 y1) (impl_SpansOf.j0 (k + 1) y0 y1))
  | 0 => fun _ _ r h => by simp [impl_SpansOf.j0] at h
  | k + 1 => by
    have ih0 := impl_SpansOf.mono_l k
    · intro y0 y1
      unfold impl_SpansOf.j0
      repeat' first | (with_reducible exact ih0 _ _) | (with_reducible exact impl_spans.mono _ _) | (with_reducible exact slices_ContainsFunc_int64_int64.mono _ _) | (with_reducible exact LeO.refl _) | (with_reducible exact LeO.none _) | (with_reducible refine LeO.ite ?_ ?_) | (with_reducible refine LeO.bind ?_ (fun _ => ?_)) | exact ih0 _ _ | exact impl_spans.mono _ _ | exact slices_ContainsFunc_int64_int64.mono _ _ | exact LeO.none _ | refine LeO.ite ?_ ?_ | refine LeO.bind ?_ (fun _ => ?_)
theorem impl_SpansOf.mono : ∀ a0 k, LeO (impl_SpansOf.f k a0) (impl_SpansOf.f (k + 1) a0) := by
  intro a0 k
  have ih0 := impl_SpansOf.mono_l k
  unfold impl_SpansOf.f
  repeat' first | (with_reducible exact ih0 _ _) | (with_reducible exact impl_spans.mono _ _) | (with_reducible exact slices_ContainsFunc_int64_int64.mono _ _) | (with_reducible exact LeO.refl _) | (with_reducible exact LeO.none _) | (with_reducible refine LeO.ite ?_ ?_) | (with_reducible refine LeO.bind ?_ (fun _ => ?_)) | exact ih0 _ _ | exact impl_spans.mono _ _ | exact slices_ContainsFunc_int64_int64.mono _ _ | exact LeO.none _ | refine LeO.ite ?_ ?_ | refine LeO.bind ?_ (fun _ => ?_)
theorem impl_SpansOf.calls (k : Nat) (A0 : Option Addr) (c0 : Nat) (l0 : List Int) (r : List (S60)) (w : World) (hr0 : Kd.C (Kd.int .i64) w A0 l0.length l0) (hc0 : l0.length ≤ c0) (h : impl_SpansOf.f k l0 = some r) :
    Calls Try.prog 7 #[.slice A0 l0.length c0] w fun e w' => ∃ v0_ : Value, e = .returned (v0_) ∧ Kd.R k60 60 w' w.heap.size (fun _ => True) v0_ r ∧ Below w.heap.size w w' := by
 have HR0 := Aside0.mk hr0; have HC0 := Aside0.mk hc0; clear hr0 hc0; have HB := Aside0.mk (Below.refl w.heap.size w); have H : (if (l0.length : Int) > 400 then (impl_SpansOf.j0 k l0 true) else ((slices_ContainsFunc_int64_int64.f k l0).bind fun t124 => (impl_SpansOf.j0 k l0 t124))) = some r := h; clear h; have HC2 := Aside0.mk H; clear H; go_enter Try.func7, Try.ntmps7; go_upto_region 1 with (fail)
 go_cut [9] (fun v9 wc => ∃ (kq : Nat) (x9_1 : Bool), v9 = .bool x9_1 ∧ Aside0 (impl_SpansOf.j0 kq l0 x9_1 = some r) ∧ Aside0 (kq ≤ k) ∧ Aside0 (Below w.heap.size w wc))
 case first =>
  have H := HC2.out; clear HC2; by_cases c3 : (l0.length : Int) > 400
  ·
   rw [if_pos c3] at H; have c3b0 : decide (400 < (l0.length : Int)) = true := decide_eq_true c3; have c3b1 : decide (400 < l0.length) = true := decide_eq_true (by omega); clear c3; (first | rw [c3b0] | (simp only [i64_w, i32_w]; rw [c3b0]) | skip)
   have H' := Aside0.mk H; clear H; go_wp2
   go_meet
   case rel => exact ⟨_, (true), (by first | rfl | (simp; done) | (simp [*]; done)), H', ⟨by first | omega | exact Nat.le_refl _⟩, ⟨(a4_ HB.out)⟩⟩
  ·
   rw [if_neg c3] at H; have c3b0 : decide (400 < (l0.length : Int)) = false := decide_eq_false c3; have c3b1 : decide (400 < l0.length) = false := decide_eq_false (by omega); clear c3; (first | rw [c3b0] | (simp only [i64_w, i32_w]; rw [c3b0]) | skip)
   replace H := Option.bind_eq_some_iff.mp H; obtain ⟨t124, A40, H⟩ := H; replace H : (impl_SpansOf.j0 k l0 t124) = some r := H; have A4 := Aside0.mk A40; clear A40; have H' := Aside0.mk H; clear H; go_wp2_with (first | (go_at_call 38; (with_reducible refine (slices_ContainsFunc_int64_int64.calls k _ _ l0 t124 _ ?side1 HC0.out A4.out).mono ?_); (case side1 => exact (cb_ HR0.out HB.out)); rintro e w' ⟨rfl, ⟨nd, rfl⟩⟩))
   go_meet
   case rel => exact ⟨_, (t124), (by first | rfl | (simp; done) | (simp [*]; done)), H', ⟨by first | omega | exact Nat.le_refl _⟩, ⟨(a4_ HB.out)⟩⟩
 case rest =>
  clear HC2; (try clear p2); (try clear c3); (try clear c3b0); (try clear c3b1); obtain ⟨kq, x9_1, rfl, HA, HJ1, HB⟩ := hcut
  cases kq with
  | zero => exact absurd HA.out (by simp [impl_SpansOf.j0])
  | succ kj1 =>
   have H := HA.out; clear HA; simp only [impl_SpansOf.j0] at H; by_cases c5 : x9_1 = true
   ·
    subst c5; have H1 : (some ([] : List (S60))) = some r := by rw [if_pos rfl] at H; exact H
    clear H; have H := H1; clear H1; obtain rfl := Option.some.inj H; go_wp2
    go_ret
    exact ⟨_, a1_, by first | exact Kd.R_nil _ _ _ _ _ | exact Kd.N_nil _ _ _ _ _ | exact Kd.V_nil _ _ _ _ _ | exact Kd.Q_nil _ _ _ _ _ | exact Kd.S_nil _ _ _ _ _, (a4_ HB.out)⟩
   ·
    replace c5 := Bool.eq_false_iff.mpr c5; subst c5; have H1 : ((slices_Clone_int64_int64.f l0).bind fun t125 => ((impl_sorted.f t125).bind fun t128 => ((impl_spans.f kj1 t128).bind fun t131 => (some t131)))) = some r := by rw [if_neg (show ¬ (false = true) by decide)] at H; exact H
    clear H; have H := H1; clear H1; replace H := Option.bind_eq_some_iff.mp H; obtain ⟨t125, A60, H⟩ := H; replace H : ((impl_sorted.f t125).bind fun t128 => ((impl_spans.f kj1 t128).bind fun t131 => (some t131))) = some r := H; have A6 := Aside0.mk A60; clear A60; replace H := Option.bind_eq_some_iff.mp H; obtain ⟨t128, A70, H⟩ := H; replace H : ((impl_spans.f kj1 t128).bind fun t131 => (some t131)) = some r := H; have A7 := Aside0.mk A70; clear A70; replace H := Option.bind_eq_some_iff.mp H; obtain ⟨t131, A80, H⟩ := H; replace H : (some t131) = some r := H; have A8 := Aside0.mk A80; clear A80; obtain rfl := Option.some.inj H; go_wp2_with (first | ((with_reducible refine gate_callee (f := 43) rfl ?_); refine gl_ (some 11) Try.func43 #[.slice A0 l0.length c0] ?_; (with_reducible refine (slices_Clone_int64_int64.calls _ _ l0 t125 _ ?side1 HC0.out A6.out).mono ?_); (case side1 => exact (cb_ HR0.out HB.out)); rintro e w9 ⟨v126, rfl, ho0, hb⟩; refine ⟨_, rfl, ?_⟩; have HO127 := Aside0.mk (Kd.R_lower ho0 (below_size (a4_ HB.out))); replace HB := Aside0.mk (below_step (a4_ HB.out) hb); (try clear hb); (try clear hb2); (try clear hk); (try clear hi); (try clear ho0); obtain ⟨Ao10, co10, eo10⟩ := Kd.R_slice HO127.out; subst eo10) | ((with_reducible refine gate_callee (f := 42) rfl ?_); refine gl_ (some 12) Try.func42 #[.slice Ao10 t125.length co10] ?_; (with_reducible refine (impl_sorted.calls (fun k_ => some k_ = (.slice Ao10 t125.length co10 : Value).ownBlock) (.slice Ao10 t125.length co10) t125 t128 w _ ?side1 ?side2 A7.out).mono ?_); (case side1 => exact (a4_ HB.out)); (case side2 => exact Kd.R_tight rfl HO127.out); rintro e w11 ⟨v129, rfl, ho0, hb, hkp⟩; refine ⟨_, rfl, ?_⟩; have n0_ := Aside0.mk (Kd.R_mono (ok' := fun k_ => True) ho0 (fun k_ hk_ => trivial)); have n1_ := Aside0.mk (hb); clear HB; clear HO127; have HO130 := n0_; have HB := n1_; clear n0_ n1_; (try clear hb); (try clear hkp); (try clear ho0); obtain ⟨Ao12, co12, eo12⟩ := Kd.R_slice HO130.out; subst eo12) | ((with_reducible refine gate_callee (f := 41) rfl ?_); refine gl_ (some 13) Try.func41 #[.slice Ao12 t128.length co12] ?_; (with_reducible refine (impl_spans.calls kj1 _ _ t128 t131 _ ?side1 ?side2 A8.out).mono ?_); (case side1 => repeat (first | exact (Kd.R_reads' HO130.out).2.2 | (with_reducible refine Kd.C_alloc ?_ _) | (with_reducible refine Kd.C_drewN ?_ _) | (with_reducible refine Kd.C_drew ?_))); (case side2 => exact (Kd.R_reads' HO130.out).2.1); rintro e w13 ⟨v132, rfl, ho0, hb⟩; refine ⟨_, rfl, ?_⟩; replace HO130 := Aside0.mk (Kd.R_below (a3_ HO130.out) hb); have HO133 := Aside0.mk (Kd.R_lower ho0 (below_size (a4_ HB.out))); replace HB := Aside0.mk (below_step (a4_ HB.out) hb); (try clear hb); (try clear hb2); (try clear hk); (try clear hi); (try clear ho0)))
    go_ret
    exact ⟨_, a1_, (a3_ HO133.out), (a4_ HB.out)⟩

/-! ### spec_l02Is: function 61 -/
def spec_l02Is.f (a0 : Int) (a1 : Int) (a2 : Int) : Option (Bool) := if a0 ≥ a1 then (some (decide (a0 ≤ a2))) else (some false)
theorem spec_l02Is.calls (a0 : Int) (a1 : Int) (a2 : Int) (r : Bool) (w : World) (h : spec_l02Is.f a0 a1 a2 = some r) :
    Calls Try.prog 61 #[.int .i64 a0, .int .i64 a1, .int .i64 a2] w fun e w' => e = .returned (.bool r) ∧ Drawn0 w w' := by
 have H : (if a0 ≥ a1 then (some (decide (a0 ≤ a2))) else (some false)) = some r := h; clear h; by_cases c4 : a0 ≥ a1
 ·
  rw [if_pos c4] at H; have c4b0 : decide (a1 ≤ a0) = true := decide_eq_true c4; clear c4; obtain rfl := Option.some.inj H; go_enter Try.func61, Try.ntmps61; go_wp2
  go_ret
  exact ⟨by first | rfl | (simp; done) | (simp [*]; done), by repeat (first | exact Drawn0.refl _ | apply Drawn0.step)⟩
 ·
  rw [if_neg c4] at H; have c4b0 : decide (a1 ≤ a0) = false := decide_eq_false c4; clear c4; obtain rfl := Option.some.inj H; go_enter Try.func61, Try.ntmps61; go_wp2
  go_ret
  exact ⟨by first | rfl | (simp; done) | (simp [*]; done), by repeat (first | exact Drawn0.refl _ | apply Drawn0.step)⟩

/-! ### spec_l02Id: function 53 -/
def spec_l02Id.f (a0 : Int) : Option (Bool) := (spec_l02Is.f a0 1 1000000).bind fun t134 => (some t134)
theorem spec_l02Id.calls (a0 : Int) (r : Bool) (w : World) (h : spec_l02Id.f a0 = some r) :
    Calls Try.prog 53 #[.int .i64 a0] w fun e w' => e = .returned (.bool r) ∧ Drawn0 w w' := by
 have H : ((spec_l02Is.f a0 1 1000000).bind fun t134 => (some t134)) = some r := h; clear h; replace H := Option.bind_eq_some_iff.mp H; obtain ⟨t134, A20, H⟩ := H; replace H : (some t134) = some r := H; have A2 := Aside0.mk A20; clear A20; obtain rfl := Option.some.inj H; go_enter Try.func53, Try.ntmps53; go_wp2_with (first | ((with_reducible refine gate_callee (f := 61) rfl ?_); refine gl_ (some 4) Try.func61 #[.int .i64 a0, .int .i64 1, .int .i64 1000000] ?_; (with_reducible refine (spec_l02Is.calls a0 1 1000000 t134 _ A2.out).mono ?_); rintro e w' ⟨rfl, ⟨nd, rfl⟩⟩; refine ⟨_, rfl, ?_⟩))
 go_ret
 exact ⟨by first | rfl | (simp; done) | (simp [*]; done), by repeat (first | exact Drawn0.refl _ | apply Drawn0.step)⟩

end Go.Proofs.Ytepbkhgffjinjaa.Print
