-- Printed by wip/myprint.py over the kit's print, in this session's own call.
import Derived.Test.YtpkeddplfnannaaPrint0
import Derived.Test.YtpkeddplfnannaaPrint1
import Derived.Test.YtpkeddplfnannaaPrint4
import Derived.Test.YtpkeddplfnannaaPrint5
import Derived.Test.YtpkeddplfnannaaPrint6
namespace Go.Proofs.Ytpkeddplfnannaa.Print
open Go.RowKit Go.Proofs.YtpkeddplfnannaaW.PrintWords Go.Proofs.YtpkeddplfnannaaW.PrintLast Go.Proofs.YtpkeddplfnannaaW.PrintMore
attribute [local go_sem] max2_int min2_int max_two min_two max_three min_three max_four min_four   -- for this text's walks alone
set_option linter.unusedVariables false
set_option linter.unusedSimpArgs false

/-! ### spec_GraphRight: function 19 -/
mutual
def spec_GraphRight.j0 : Nat → Bool → Int → List (S61) → List (S61) → Option (Bool)
  | 0, _, _, _, _ => none
  | k + 1, x26, x151000, x151001, x151002 => if x26 = true then (some false) else (spec_GraphRight.l0 k 0 x151000 x151001 x151002)
def spec_GraphRight.l0 : Nat → Int → Int → List (S61) → List (S61) → Option (Bool)
  | 0, _, _, _, _ => none
  | k + 1, x3, x151000, x151001, x151002 => if x3 < (x151001.length : Int) then (if 0 ≤ x3 then ((spec_l03All.f k x151001 ((rd_T61 x151001 x3).f0) ((rd_T61 x151001 x3).f1) ((rd_T61 x151001 x3).f2) ((rd_T61 x151001 x3).f3) ((rd_T61 x151001 x3).f4) ((rd_T61 x151001 x3).f5) ((rd_T61 x151001 x3).f6) ((rd_T61 x151001 x3).f7) ((rd_T61 x151001 x3).f8)).bind fun t155 => (if t155 = true then ((spec_l03At.f k x151002 ((rd_T61 x151001 x3).f0)).bind fun t157 => (if t157 ≥ 0 then (some false) else (spec_GraphRight.l0 k (wrap64 (x3 + 1)) x151000 x151001 x151002))) else (some false))) else (none)) else (spec_GraphRight.l1 k 0 x151000 x151001 x151002)
def spec_GraphRight.l1 : Nat → Int → Int → List (S61) → List (S61) → Option (Bool)
  | 0, _, _, _, _ => none
  | k + 1, x4, x151000, x151001, x151002 => if x4 < (x151002.length : Int) then (if 0 ≤ x4 then ((spec_l03All.f k x151001 ((rd_T61 x151002 x4).f0) ((rd_T61 x151002 x4).f1) ((rd_T61 x151002 x4).f2) ((rd_T61 x151002 x4).f3) ((rd_T61 x151002 x4).f4) ((rd_T61 x151002 x4).f5) ((rd_T61 x151002 x4).f6) ((rd_T61 x151002 x4).f7) ((rd_T61 x151002 x4).f8)).bind fun t159 => (if t159 = true then (some false) else (spec_GraphRight.l1 k (wrap64 (x4 + 1)) x151000 x151001 x151002))) else (none)) else ((spec_l03Depths.f k x151001).bind fun t160 => (spec_GraphRight.l2 k t160 0))
def spec_GraphRight.l2 : Nat → List Int → Int → Option (Bool)
  | 0, _, _ => none
  | k + 1, x5, x6 => if x6 < (x5.length : Int) then (if 0 ≤ x6 then (if (rd x5 x6) = 0 then (some false) else (spec_GraphRight.l2 k x5 (wrap64 (x6 + 1)))) else (none)) else (some true)
end
def spec_GraphRight.f (k : Nat) (a0_0 : Int) (l0_1 : List (S61)) (l0_2 : List (S61)) : Option (Bool) := (spec_l02Is.f a0_0 1 3).bind fun t151 => (if t151 = true then ((spec_l03Row.f k l0_1 a0_0 60).bind fun t152 => (if t152 = true then ((spec_l03Row.f k l0_2 a0_0 20).bind fun t153 => (spec_GraphRight.j0 k (!t153) a0_0 l0_1 l0_2)) else (spec_GraphRight.j0 k true a0_0 l0_1 l0_2))) else (spec_GraphRight.j0 k true a0_0 l0_1 l0_2))
theorem spec_GraphRight.mono_l : ∀ k, (∀ y0 y1 y2 y3, LeO (spec_GraphRight.j0 k y0 y1 y2 y3) (spec_GraphRight.j0 (k + 1) y0 y1 y2 y3)) ∧ (∀ y0 y1 y2 y3, LeO (spec_GraphRight.l0 k y0 y1 y2 y3) (spec_GraphRight.l0 (k + 1) y0 y1 y2 y3)) ∧ (∀ y0 y1 y2 y3, LeO (spec_GraphRight.l1 k y0 y1 y2 y3) (spec_GraphRight.l1 (k + 1) y0 y1 y2 y3)) ∧ (∀ y0 y1, LeO (spec_GraphRight.l2 k y0 y1) (spec_GraphRight.l2 (k + 1) y0 y1))
  | 0 => ⟨fun _ _ _ _ r h => by simp [spec_GraphRight.j0] at h, fun _ _ _ _ r h => by simp [spec_GraphRight.l0] at h, fun _ _ _ _ r h => by simp [spec_GraphRight.l1] at h, fun _ _ r h => by simp [spec_GraphRight.l2] at h⟩
  | k + 1 => by
    obtain ⟨ih0, ih1, ih2, ih3⟩ := spec_GraphRight.mono_l k
    refine ⟨?_, ?_, ?_, ?_⟩
    · intro y0 y1 y2 y3
      unfold spec_GraphRight.j0
      repeat' first | (with_reducible exact ih0 _ _ _ _) | (with_reducible exact ih1 _ _ _ _) | (with_reducible exact ih2 _ _ _ _) | (with_reducible exact ih3 _ _) | (with_reducible exact spec_l03All.mono _ _ _ _ _ _ _ _ _ _ _) | (with_reducible exact spec_l03At.mono _ _ _) | (with_reducible exact spec_l03Depths.mono _ _) | (with_reducible exact spec_l03Row.mono _ _ _ _) | (with_reducible exact LeO.refl _) | (with_reducible exact LeO.none _) | (with_reducible refine LeO.ite ?_ ?_) | (with_reducible refine LeO.bind ?_ (fun _ => ?_)) | exact ih0 _ _ _ _ | exact ih1 _ _ _ _ | exact ih2 _ _ _ _ | exact ih3 _ _ | exact spec_l03All.mono _ _ _ _ _ _ _ _ _ _ _ | exact spec_l03At.mono _ _ _ | exact spec_l03Depths.mono _ _ | exact spec_l03Row.mono _ _ _ _ | exact LeO.none _ | refine LeO.ite ?_ ?_ | refine LeO.bind ?_ (fun _ => ?_)
    · intro y0 y1 y2 y3
      unfold spec_GraphRight.l0
      repeat' first | (with_reducible exact ih0 _ _ _ _) | (with_reducible exact ih1 _ _ _ _) | (with_reducible exact ih2 _ _ _ _) | (with_reducible exact ih3 _ _) | (with_reducible exact spec_l03All.mono _ _ _ _ _ _ _ _ _ _ _) | (with_reducible exact spec_l03At.mono _ _ _) | (with_reducible exact spec_l03Depths.mono _ _) | (with_reducible exact spec_l03Row.mono _ _ _ _) | (with_reducible exact LeO.refl _) | (with_reducible exact LeO.none _) | (with_reducible refine LeO.ite ?_ ?_) | (with_reducible refine LeO.bind ?_ (fun _ => ?_)) | exact ih0 _ _ _ _ | exact ih1 _ _ _ _ | exact ih2 _ _ _ _ | exact ih3 _ _ | exact spec_l03All.mono _ _ _ _ _ _ _ _ _ _ _ | exact spec_l03At.mono _ _ _ | exact spec_l03Depths.mono _ _ | exact spec_l03Row.mono _ _ _ _ | exact LeO.none _ | refine LeO.ite ?_ ?_ | refine LeO.bind ?_ (fun _ => ?_)
    · intro y0 y1 y2 y3
      unfold spec_GraphRight.l1
      repeat' first | (with_reducible exact ih0 _ _ _ _) | (with_reducible exact ih1 _ _ _ _) | (with_reducible exact ih2 _ _ _ _) | (with_reducible exact ih3 _ _) | (with_reducible exact spec_l03All.mono _ _ _ _ _ _ _ _ _ _ _) | (with_reducible exact spec_l03At.mono _ _ _) | (with_reducible exact spec_l03Depths.mono _ _) | (with_reducible exact spec_l03Row.mono _ _ _ _) | (with_reducible exact LeO.refl _) | (with_reducible exact LeO.none _) | (with_reducible refine LeO.ite ?_ ?_) | (with_reducible refine LeO.bind ?_ (fun _ => ?_)) | exact ih0 _ _ _ _ | exact ih1 _ _ _ _ | exact ih2 _ _ _ _ | exact ih3 _ _ | exact spec_l03All.mono _ _ _ _ _ _ _ _ _ _ _ | exact spec_l03At.mono _ _ _ | exact spec_l03Depths.mono _ _ | exact spec_l03Row.mono _ _ _ _ | exact LeO.none _ | refine LeO.ite ?_ ?_ | refine LeO.bind ?_ (fun _ => ?_)
    · intro y0 y1
      unfold spec_GraphRight.l2
      repeat' first | (with_reducible exact ih0 _ _ _ _) | (with_reducible exact ih1 _ _ _ _) | (with_reducible exact ih2 _ _ _ _) | (with_reducible exact ih3 _ _) | (with_reducible exact spec_l03All.mono _ _ _ _ _ _ _ _ _ _ _) | (with_reducible exact spec_l03At.mono _ _ _) | (with_reducible exact spec_l03Depths.mono _ _) | (with_reducible exact spec_l03Row.mono _ _ _ _) | (with_reducible exact LeO.refl _) | (with_reducible exact LeO.none _) | (with_reducible refine LeO.ite ?_ ?_) | (with_reducible refine LeO.bind ?_ (fun _ => ?_)) | exact ih0 _ _ _ _ | exact ih1 _ _ _ _ | exact ih2 _ _ _ _ | exact ih3 _ _ | exact spec_l03All.mono _ _ _ _ _ _ _ _ _ _ _ | exact spec_l03At.mono _ _ _ | exact spec_l03Depths.mono _ _ | exact spec_l03Row.mono _ _ _ _ | exact LeO.none _ | refine LeO.ite ?_ ?_ | refine LeO.bind ?_ (fun _ => ?_)
theorem spec_GraphRight.mono : ∀ a0 a1 a2 k, LeO (spec_GraphRight.f k a0 a1 a2) (spec_GraphRight.f (k + 1) a0 a1 a2) := by
  intro a0 a1 a2 k
  obtain ⟨ih0, ih1, ih2, ih3⟩ := spec_GraphRight.mono_l k
  unfold spec_GraphRight.f
  repeat' first | (with_reducible exact ih0 _ _ _ _) | (with_reducible exact ih1 _ _ _ _) | (with_reducible exact ih2 _ _ _ _) | (with_reducible exact ih3 _ _) | (with_reducible exact spec_l03All.mono _ _ _ _ _ _ _ _ _ _ _) | (with_reducible exact spec_l03At.mono _ _ _) | (with_reducible exact spec_l03Depths.mono _ _) | (with_reducible exact spec_l03Row.mono _ _ _ _) | (with_reducible exact LeO.refl _) | (with_reducible exact LeO.none _) | (with_reducible refine LeO.ite ?_ ?_) | (with_reducible refine LeO.bind ?_ (fun _ => ?_)) | exact ih0 _ _ _ _ | exact ih1 _ _ _ _ | exact ih2 _ _ _ _ | exact ih3 _ _ | exact spec_l03All.mono _ _ _ _ _ _ _ _ _ _ _ | exact spec_l03At.mono _ _ _ | exact spec_l03Depths.mono _ _ | exact spec_l03Row.mono _ _ _ _ | exact LeO.none _ | refine LeO.ite ?_ ?_ | refine LeO.bind ?_ (fun _ => ?_)
def spec_GraphRight.T6 : Bool × List (List Nat × List Nat) := (true, [([], []), ([0], [0]), ([], []), ([2], [2]), ([], []), ([3, 4], [3, 4]), ([5], [5]), ([1, 6], [1, 6]), ([7], [7]), ([8, 7], [8]), ([9], [9]), ([10, 9], [9, 10]), ([9], [9]), ([12, 9], [9, 12]), ([9], [9]), ([13, 14, 9], [9, 13, 14]), ([15, 9], [9, 15]), ([16, 9], [9, 16]), ([11, 17, 9, 9], [9, 11, 17]), ([18, 9], [9, 18]), ([9, 19], [9, 19])])
def spec_GraphRight.B6 : List Nat := [0, 1, 0, 4, 0, 28, 60, 127, 255, 511, 1023, 2047, 1023, 5119, 1023, 29695, 62463, 127999, 262143, 524287, 1048575]
theorem spec_GraphRight.tab6 : rtab .any (opsOf Try.f19 6) = spec_GraphRight.T6 := by kernel_rfl
theorem spec_GraphRight.bits6 : waitsOk spec_GraphRight.T6.2 spec_GraphRight.B6 = true := by kernel_rfl
def spec_GraphRight.T11 : Bool × List (List Nat × List Nat) := (true, [([], []), ([0], [0]), ([], []), ([2], [2]), ([], []), ([3, 4], [3, 4]), ([5], [5]), ([1, 6], [1, 6])])
def spec_GraphRight.B11 : List Nat := [0, 1, 0, 4, 0, 28, 60, 127]
theorem spec_GraphRight.tab11 : rtab .any (opsOf Try.f19 11) = spec_GraphRight.T11 := by kernel_rfl
theorem spec_GraphRight.bits11 : waitsOk spec_GraphRight.T11.2 spec_GraphRight.B11 = true := by kernel_rfl
set_option maxHeartbeats 8000000 in
set_option maxRecDepth 100000 in
theorem spec_GraphRight.calls (k : Nat) (a0_0 : Int) (A0_1 : Option Addr) (c0_1 : Nat) (l0_1 : List (S61)) (A0_2 : Option Addr) (c0_2 : Nat) (l0_2 : List (S61)) (r : Bool) (w : World) (hr0_1 : Kd.C k61 w A0_1 l0_1.length l0_1) (hc0_1 : l0_1.length ≤ c0_1) (hr0_2 : Kd.C k61 w A0_2 l0_2.length l0_2) (hc0_2 : l0_2.length ≤ c0_2) (h : spec_GraphRight.f k a0_0 l0_1 l0_2 = some r) :
    Calls Try.prog 19 #[.agg #[.int .i64 a0_0, .slice A0_1 l0_1.length c0_1, .slice A0_2 l0_2.length c0_2]] w fun e w' => e = .returned (.bool r) ∧ Below w.heap.size w w' := by
 have hu31 := Try.underlying31; have hu61 := Try.underlying61; have HR0_1 := Aside0.mk hr0_1; have HC0_1 := Aside0.mk hc0_1; clear hr0_1 hc0_1; have HR0_2 := Aside0.mk hr0_2; have HC0_2 := Aside0.mk hc0_2; clear hr0_2 hc0_2; have HB := Aside0.mk (Below.refl w.heap.size w); have H : ((spec_l02Is.f a0_0 1 3).bind fun t151 => (if t151 = true then ((spec_l03Row.f k l0_1 a0_0 60).bind fun t152 => (if t152 = true then ((spec_l03Row.f k l0_2 a0_0 20).bind fun t153 => (spec_GraphRight.j0 k (!t153) a0_0 l0_1 l0_2)) else (spec_GraphRight.j0 k true a0_0 l0_1 l0_2))) else (spec_GraphRight.j0 k true a0_0 l0_1 l0_2))) = some r := h; clear h; have HC2 := Aside0.mk H; clear H; go_enter Try.func19, Try.ntmps19; go_upto_region 1 with (first | ((with_reducible refine gate_dst (N := 1) rfl ?_); refine be_ 1 #[.int .i64 a0_0, .slice A0_1 l0_1.length c0_1, .slice A0_2 l0_2.length c0_2] 31 ?_; intro gb150 hg w3 hbox hb; have n0_ := Aside0.mk (below_step (a1_ HB.out) hb); have n1_ := Aside0.mk (hbox); have n2_ := Aside0.mk ((by rw [hg]; exact (below_size (a1_ HB.out)) : w.heap.size ≤ gb150)); have n3_ := n2_; clear HB; have HB := n0_; have BK150 := n1_; have GW150 := n2_; have GE150 := n3_; clear n0_ n1_ n2_ n3_; clear hb hbox hg))
 (try simp only [Act.put, lS, l0_, l1_])
 go_cut [26] (fun v26 wc => ∃ (kq : Nat) (x26_1 : Bool), v26 = .bool x26_1 ∧ Aside0 (spec_GraphRight.j0 kq x26_1 a0_0 l0_1 l0_2 = some r) ∧ Aside0 (kq ≤ k) ∧ Aside0 (wc.heap[gb150]? = some (.cells #[.int .i64 a0_0, (.slice A0_1 l0_1.length c0_1), (.slice A0_2 l0_2.length c0_2)] 31 (0, 0))) ∧ Aside0 (Below w.heap.size w wc))
 case first =>
  have H := HC2.out; clear HC2; replace H := Option.bind_eq_some_iff.mp H; obtain ⟨t151, A40, H⟩ := H; replace H : (if t151 = true then ((spec_l03Row.f k l0_1 a0_0 60).bind fun t152 => (if t152 = true then ((spec_l03Row.f k l0_2 a0_0 20).bind fun t153 => (spec_GraphRight.j0 k (!t153) a0_0 l0_1 l0_2)) else (spec_GraphRight.j0 k true a0_0 l0_1 l0_2))) else (spec_GraphRight.j0 k true a0_0 l0_1 l0_2)) = some r := H; have A4 := Aside0.mk A40; clear A40; by_cases c5 : t151 = true
  ·
   subst c5; have H1 : ((spec_l03Row.f k l0_1 a0_0 60).bind fun t152 => (if t152 = true then ((spec_l03Row.f k l0_2 a0_0 20).bind fun t153 => (spec_GraphRight.j0 k (!t153) a0_0 l0_1 l0_2)) else (spec_GraphRight.j0 k true a0_0 l0_1 l0_2))) = some r := by rw [if_pos rfl] at H; exact H
   clear H; have H := H1; clear H1; replace H := Option.bind_eq_some_iff.mp H; obtain ⟨t152, A60, H⟩ := H; replace H : (if t152 = true then ((spec_l03Row.f k l0_2 a0_0 20).bind fun t153 => (spec_GraphRight.j0 k (!t153) a0_0 l0_1 l0_2)) else (spec_GraphRight.j0 k true a0_0 l0_1 l0_2)) = some r := H; have A6 := Aside0.mk A60; clear A60; by_cases c7 : t152 = true
   ·
    subst c7; have H1 : ((spec_l03Row.f k l0_2 a0_0 20).bind fun t153 => (spec_GraphRight.j0 k (!t153) a0_0 l0_1 l0_2)) = some r := by rw [if_pos rfl] at H; exact H
    clear H; have H := H1; clear H1; replace H := Option.bind_eq_some_iff.mp H; obtain ⟨t153, A80, H⟩ := H; replace H : (spec_GraphRight.j0 k (!t153) a0_0 l0_1 l0_2) = some r := H; have A8 := Aside0.mk A80; clear A80; have H' := Aside0.mk H; clear H; obtain ⟨⟨hcz9_0, hcz9_1, hcz9_2⟩, hfz9_0, hfz9_1, hfz9_2⟩ := cells_3 BK150.out; go_wp2_with (first | ((with_reducible refine gate_callee (f := 36) rfl ?_); refine gl_ (some 9) Try.func36 #[.int .i64 a0_0, .int .i64 1, .int .i64 3] ?_; (with_reducible refine (spec_l02Is.calls a0_0 1 3 true _ A4.out).mono ?_); rintro e w' ⟨rfl, ⟨nd, rfl⟩⟩; refine ⟨_, rfl, ?_⟩) | (go_at_call 37; (with_reducible refine (spec_l03Row.calls k _ _ l0_1 a0_0 60 true _ ?side1 ?side2 A6.out).mono ?_); (case side1 => exact (cb_ HR0_1.out (a3_ HB.out GE150.out))); (case side2 => exact HC0_1.out); rintro e w10 ⟨rfl, hb⟩; have n0_ := Aside0.mk (blk_below (g := gb150) (o := .cells #[.int .i64 a0_0, .slice A0_1 l0_1.length c0_1, .slice A0_2 l0_2.length c0_2] 31 (0, 0)) (a4_ BK150.out) hb); have n1_ := Aside0.mk (below_step (a3_ HB.out GE150.out) hb); clear BK150; clear HB; have BK150 := n0_; have HB := n1_; clear n0_ n1_; (try clear hb); (try clear hb2); (try clear hk); (try clear hi); obtain ⟨⟨hcz11_0, hcz11_1, hcz11_2⟩, hfz11_0, hfz11_1, hfz11_2⟩ := cells_3 BK150.out) | (go_at_call 37; (with_reducible refine (spec_l03Row.calls k _ _ l0_2 a0_0 20 t153 _ ?side1 ?side2 A8.out).mono ?_); (case side1 => exact (cb_ HR0_2.out HB.out)); (case side2 => exact HC0_2.out); rintro e w12 ⟨rfl, hb⟩; have n0_ := Aside0.mk (blk_below (g := gb150) (o := .cells #[.int .i64 a0_0, .slice A0_1 l0_1.length c0_1, .slice A0_2 l0_2.length c0_2] 31 (0, 0)) (a4_ BK150.out) hb); have n1_ := Aside0.mk (below_step (a3_ HB.out GE150.out) hb); clear BK150; clear HB; have BK150 := n0_; have HB := n1_; clear n0_ n1_; (try clear hb); (try clear hb2); (try clear hk); (try clear hi)))
    go_meet
    case rel => exact ⟨_, (!t153), (by first | rfl | (simp; done) | (simp [*]; done)), H', ⟨by first | omega | exact Nat.le_refl _⟩, ⟨(a4_ BK150.out)⟩, ⟨(a3_ HB.out GE150.out)⟩⟩
   ·
    replace c7 := Bool.eq_false_iff.mpr c7; subst c7; have H1 : (spec_GraphRight.j0 k true a0_0 l0_1 l0_2) = some r := by rw [if_neg (show ¬ (false = true) by decide)] at H; exact H
    clear H; have H := H1; clear H1; have H' := Aside0.mk H; clear H; obtain ⟨⟨hcz13_0, hcz13_1, hcz13_2⟩, hfz13_0, hfz13_1, hfz13_2⟩ := cells_3 BK150.out; go_wp2_with (first | ((with_reducible refine gate_callee (f := 36) rfl ?_); refine gl_ (some 9) Try.func36 #[.int .i64 a0_0, .int .i64 1, .int .i64 3] ?_; (with_reducible refine (spec_l02Is.calls a0_0 1 3 true _ A4.out).mono ?_); rintro e w' ⟨rfl, ⟨nd, rfl⟩⟩; refine ⟨_, rfl, ?_⟩) | (go_at_call 37; (with_reducible refine (spec_l03Row.calls k _ _ l0_1 a0_0 60 false _ ?side1 ?side2 A6.out).mono ?_); (case side1 => exact (cb_ HR0_1.out (a3_ HB.out GE150.out))); (case side2 => exact HC0_1.out); rintro e w14 ⟨rfl, hb⟩; have n0_ := Aside0.mk (blk_below (g := gb150) (o := .cells #[.int .i64 a0_0, .slice A0_1 l0_1.length c0_1, .slice A0_2 l0_2.length c0_2] 31 (0, 0)) (a4_ BK150.out) hb); have n1_ := Aside0.mk (below_step (a3_ HB.out GE150.out) hb); clear BK150; clear HB; have BK150 := n0_; have HB := n1_; clear n0_ n1_; (try clear hb); (try clear hb2); (try clear hk); (try clear hi)))
    go_meet
    case rel => exact ⟨_, (true), (by first | rfl | (simp; done) | (simp [*]; done)), H', ⟨by first | omega | exact Nat.le_refl _⟩, ⟨(a4_ BK150.out)⟩, ⟨(a3_ HB.out GE150.out)⟩⟩
  ·
   replace c5 := Bool.eq_false_iff.mpr c5; subst c5; have H1 : (spec_GraphRight.j0 k true a0_0 l0_1 l0_2) = some r := by rw [if_neg (show ¬ (false = true) by decide)] at H; exact H
   clear H; have H := H1; clear H1; have H' := Aside0.mk H; clear H; obtain ⟨⟨hcz15_0, hcz15_1, hcz15_2⟩, hfz15_0, hfz15_1, hfz15_2⟩ := cells_3 BK150.out; go_wp2_with (first | ((with_reducible refine gate_callee (f := 36) rfl ?_); refine gl_ (some 9) Try.func36 #[.int .i64 a0_0, .int .i64 1, .int .i64 3] ?_; (with_reducible refine (spec_l02Is.calls a0_0 1 3 false _ A4.out).mono ?_); rintro e w' ⟨rfl, ⟨nd, rfl⟩⟩; refine ⟨_, rfl, ?_⟩))
   go_meet
   case rel => exact ⟨_, (true), (by first | rfl | (simp; done) | (simp [*]; done)), H', ⟨by first | omega | exact Nat.le_refl _⟩, ⟨(a4_ BK150.out)⟩, ⟨(a3_ HB.out GE150.out)⟩⟩
 case rest =>
  clear HC2; try clear c1
  try clear p2
  try clear c3
  try clear c5
  try clear c7
  try clear hcz11_0
  try clear hcz11_1
  try clear hcz11_2
  try clear hcz13_0
  try clear hcz13_1
  try clear hcz13_2
  try clear hcz15_0
  try clear hcz15_1
  try clear hcz15_2
  try clear hcz9_0
  try clear hcz9_1
  try clear hcz9_2
  try clear hfz11_0
  try clear hfz11_1
  try clear hfz11_2
  try clear hfz13_0
  try clear hfz13_1
  try clear hfz13_2
  try clear hfz15_0
  try clear hfz15_1
  try clear hfz15_2
  try clear hfz9_0
  try clear hfz9_1
  try clear hfz9_2
  obtain ⟨kq, x26_1, rfl, HA, HJ1, BK150, HB⟩ := hcut
  cases kq with
  | zero => exact absurd HA.out (by simp [spec_GraphRight.j0])
  | succ kj1 =>
   have H := HA.out; clear HA; simp only [spec_GraphRight.j0] at H; by_cases c16 : x26_1 = true
   ·
    subst c16; have H1 : (some false) = some r := by rw [if_pos rfl] at H; exact H
    clear H; have H := H1; clear H1; obtain rfl := Option.some.inj H; go_wp2
    go_ret
    exact ⟨a2_, (a3_ HB.out GE150.out)⟩
   ·
    replace c16 := Bool.eq_false_iff.mpr c16; subst c16; have H1 : (spec_GraphRight.l0 kj1 0 a0_0 l0_1 l0_2) = some r := by rw [if_neg (show ¬ (false = true) by decide)] at H; exact H
    clear H; have H := H1; clear H1; have H' := Aside0.mk H; clear H; go_wp2
    go_loopg [3] kj1 (fun kq v3 w' => ∃ (x3_2 : Int), v3 = .int .i64 x3_2 ∧ Aside0 (spec_GraphRight.l0 kq x3_2 a0_0 l0_1 l0_2 = some r) ∧ Aside0 (kq ≤ kj1) ∧ Aside0 (w'.heap[gb150]? = some (.cells #[.int .i64 a0_0, (.slice A0_1 l0_1.length c0_1), (.slice A0_2 l0_2.length c0_2)] 31 (0, 0))) ∧ Aside0 (Below w.heap.size w w'))
    case atStart => exact ⟨(0), (by first | rfl | (simp; done) | (simp [*]; done)), H', ⟨Nat.le_refl _⟩, ⟨(a4_ BK150.out)⟩, ⟨(a3_ HB.out GE150.out)⟩⟩
    case round =>
     clear H'; try clear c1
     try clear p2
     try clear c3
     try clear c5
     try clear c7
     try clear c16
     try clear hcz11_0
     try clear hcz11_1
     try clear hcz11_2
     try clear hcz13_0
     try clear hcz13_1
     try clear hcz13_2
     try clear hcz15_0
     try clear hcz15_1
     try clear hcz15_2
     try clear hcz9_0
     try clear hcz9_1
     try clear hcz9_2
     try clear hfz11_0
     try clear hfz11_1
     try clear hfz11_2
     try clear hfz13_0
     try clear hfz13_1
     try clear hfz13_2
     try clear hfz15_0
     try clear hfz15_1
     try clear hfz15_2
     try clear hfz9_0
     try clear hfz9_1
     try clear hfz9_2
     try clear p2
     obtain ⟨x3_2, rfl, HA, HK2, BK150, HB⟩ := hrel
     cases gk with
     | zero => exact absurd HA.out (by simp [spec_GraphRight.l0])
     | succ k2 =>
      have H := HA.out; clear HA; simp only [spec_GraphRight.l0] at H; by_cases c17 : x3_2 < (l0_1.length : Int)
      ·
       rw [if_pos c17] at H; have c17b0 : decide (x3_2 < (l0_1.length : Int)) = true := decide_eq_true c17; clear c17; by_cases c18 : 0 ≤ x3_2
       ·
        rw [if_pos c18] at H; have c18b0 : decide (0 ≤ x3_2) = true := decide_eq_true c18; clear c18; replace H := Option.bind_eq_some_iff.mp H; obtain ⟨t155, A190, H⟩ := H; replace H : (if t155 = true then ((spec_l03At.f k2 l0_2 ((rd_T61 l0_1 x3_2).f0)).bind fun t157 => (if t157 ≥ 0 then (some false) else (spec_GraphRight.l0 k2 (wrap64 (x3_2 + 1)) a0_0 l0_1 l0_2))) else (some false)) = some r := H; have A19 := Aside0.mk A190; clear A190; by_cases c20 : t155 = true
        ·
         subst c20; have H1 : ((spec_l03At.f k2 l0_2 ((rd_T61 l0_1 x3_2).f0)).bind fun t157 => (if t157 ≥ 0 then (some false) else (spec_GraphRight.l0 k2 (wrap64 (x3_2 + 1)) a0_0 l0_1 l0_2))) = some r := by rw [if_pos rfl] at H; exact H
         clear H; have H := H1; clear H1; replace H := Option.bind_eq_some_iff.mp H; obtain ⟨t157, A210, H⟩ := H; replace H : (if t157 ≥ 0 then (some false) else (spec_GraphRight.l0 k2 (wrap64 (x3_2 + 1)) a0_0 l0_1 l0_2)) = some r := H; have A21 := Aside0.mk A210; clear A210; by_cases c22 : t157 ≥ 0
         ·
          rw [if_pos c22] at H; have c22b0 : decide (0 ≤ t157) = true := decide_eq_true c22; clear c22; obtain rfl := Option.some.inj H; obtain ⟨⟨hcz23_0, hcz23_1, hcz23_2⟩, hfz23_0, hfz23_1, hfz23_2⟩ := cells_3 BK150.out; try go_wp2
          have n0_ := Aside0.mk (blk_drew BK150.out); have n1_ := Aside0.mk (below_drew1 HB.out); clear BK150; clear HB; have BK150 := n0_; have HB := n1_; clear n0_ n1_; have p154 : 0 ≤ (x3_2 : Int) := d_; have q154 : x3_2 < (l0_1.length : Int) := d_; obtain ⟨ad154, A154_7, c154_7, e154, hx154_0, hx154_1, hx154_2, hx154_3, hx154_4, hx154_5, hx154_6, hx154_7, hx154_8, hl154_7, hi154_7⟩ := at_T61 HR0_1.out x3_2 p154 q154; have hw154_8 := hx154_8; have hw154_7 := hx154_7; have hw154_6 := hx154_6; have hw154_5 := hx154_5; have hw154_4 := hx154_4; have hw154_3 := hx154_3; have hw154_2 := hx154_2; have hw154_1 := hx154_1; have hw154_0 := hx154_0; cases e154; replace hx154_0 := ce_ HB.out hx154_0; replace hx154_1 := ce_ HB.out hx154_1; replace hx154_2 := ce_ HB.out hx154_2; replace hx154_3 := ce_ HB.out hx154_3; replace hx154_4 := ce_ HB.out hx154_4; replace hx154_5 := ce_ HB.out hx154_5; replace hx154_6 := ce_ HB.out hx154_6; replace hx154_7 := ce_ HB.out hx154_7; replace hx154_8 := ce_ HB.out hx154_8; have HR154_7 := Aside0.mk hi154_7; have HC154_7 := Aside0.mk hl154_7; clear hi154_7 hl154_7; replace p154 := eq_true p154; replace q154 := eq_true q154; have p156 : 0 ≤ (x3_2 : Int) := d_; have q156 : x3_2 < (l0_1.length : Int) := d_; obtain ⟨ad156, A156_7, c156_7, e156, hx156_0, hx156_1, hx156_2, hx156_3, hx156_4, hx156_5, hx156_6, hx156_7, hx156_8, hl156_7, hi156_7⟩ := at_T61 HR0_1.out x3_2 p156 q156; have hw156_8 := hx156_8; have hw156_7 := hx156_7; have hw156_6 := hx156_6; have hw156_5 := hx156_5
          have hw156_4 := hx156_4; have hw156_3 := hx156_3; have hw156_2 := hx156_2; have hw156_1 := hx156_1; have hw156_0 := hx156_0; obtain rfl : ad154 = ad156 := (by injection e156); replace hx156_0 := ce_ HB.out hx156_0; replace hx156_1 := ce_ HB.out hx156_1; replace hx156_2 := ce_ HB.out hx156_2; replace hx156_3 := ce_ HB.out hx156_3; replace hx156_4 := ce_ HB.out hx156_4; replace hx156_5 := ce_ HB.out hx156_5; replace hx156_6 := ce_ HB.out hx156_6; replace hx156_7 := ce_ HB.out hx156_7; replace hx156_8 := ce_ HB.out hx156_8; have HR156_7 := Aside0.mk hi156_7; have HC156_7 := Aside0.mk hl156_7; clear hi156_7 hl156_7; replace p156 := eq_true p156; replace q156 := eq_true q156; refine start_ (n := 21) (S := fun w' => w'.cell? ⟨gb150, 0, none⟩ = some (.int .i64 a0_0) ∧ w'.cell? ⟨gb150, 1, none⟩ = some (.slice (some ad154) l0_1.length c0_1) ∧ w'.cell? ⟨gb150, 2, none⟩ = some (.slice A0_2 l0_2.length c0_2) ∧ w'.cell? (ad154.add ((x3_2).toNat * 9)) = some (.int .i64 ((rd_T61 l0_1 x3_2).f0)) ∧ w'.cell? ⟨(ad154.add ((x3_2).toNat * 9)).block, (ad154.add ((x3_2).toNat * 9)).off + 1, none⟩ = some (.int .i64 ((rd_T61 l0_1 x3_2).f1)) ∧ w'.cell? ⟨(ad154.add ((x3_2).toNat * 9)).block, (ad154.add ((x3_2).toNat * 9)).off + 2, none⟩ = some (.int .i64 ((rd_T61 l0_1 x3_2).f2)) ∧ w'.cell? ⟨(ad154.add ((x3_2).toNat * 9)).block, (ad154.add ((x3_2).toNat * 9)).off + 3, none⟩ = some (.int .i64 ((rd_T61 l0_1 x3_2).f3)) ∧ w'.cell? ⟨(ad154.add ((x3_2).toNat * 9)).block, (ad154.add ((x3_2).toNat * 9)).off + 4, none⟩ = some (.int .i64 ((rd_T61 l0_1 x3_2).f4)) ∧ w'.cell? ⟨(ad154.add ((x3_2).toNat * 9)).block, (ad154.add ((x3_2).toNat * 9)).off + 5, none⟩ = some (.int .i64 ((rd_T61 l0_1 x3_2).f5)) ∧ w'.cell? ⟨(ad154.add ((x3_2).toNat * 9)).block, (ad154.add ((x3_2).toNat * 9)).off + 6, none⟩ = some (.string ((rd_T61 l0_1 x3_2).f6)) ∧ w'.cell? ⟨(ad154.add ((x3_2).toNat * 9)).block, (ad154.add ((x3_2).toNat * 9)).off + 7, none⟩ = some (.slice A154_7 ((rd_T61 l0_1 x3_2).f7).length c154_7) ∧ w'.cell? ⟨(ad154.add ((x3_2).toNat * 9)).block, (ad154.add ((x3_2).toNat * 9)).off + 8, none⟩ = some (.int .i64 ((rd_T61 l0_1 x3_2).f8)) ∧ w'.cell? (ad154.add ((x3_2).toNat * 9)) = some (.int .i64 ((rd_T61 l0_1 x3_2).f0)) ∧ w'.cell? ⟨(ad154.add ((x3_2).toNat * 9)).block, (ad154.add ((x3_2).toNat * 9)).off + 1, none⟩ = some (.int .i64 ((rd_T61 l0_1 x3_2).f1)) ∧ w'.cell? ⟨(ad154.add ((x3_2).toNat * 9)).block, (ad154.add ((x3_2).toNat * 9)).off + 2, none⟩ = some (.int .i64 ((rd_T61 l0_1 x3_2).f2)) ∧ w'.cell? ⟨(ad154.add ((x3_2).toNat * 9)).block, (ad154.add ((x3_2).toNat * 9)).off + 3, none⟩ = some (.int .i64 ((rd_T61 l0_1 x3_2).f3)) ∧ w'.cell? ⟨(ad154.add ((x3_2).toNat * 9)).block, (ad154.add ((x3_2).toNat * 9)).off + 4, none⟩ = some (.int .i64 ((rd_T61 l0_1 x3_2).f4)) ∧ w'.cell? ⟨(ad154.add ((x3_2).toNat * 9)).block, (ad154.add ((x3_2).toNat * 9)).off + 5, none⟩ = some (.int .i64 ((rd_T61 l0_1 x3_2).f5)) ∧ w'.cell? ⟨(ad154.add ((x3_2).toNat * 9)).block, (ad154.add ((x3_2).toNat * 9)).off + 6, none⟩ = some (.string ((rd_T61 l0_1 x3_2).f6)) ∧ w'.cell? ⟨(ad154.add ((x3_2).toNat * 9)).block, (ad154.add ((x3_2).toNat * 9)).off + 7, none⟩ = some (.slice A156_7 ((rd_T61 l0_1 x3_2).f7).length c156_7) ∧ w'.cell? ⟨(ad154.add ((x3_2).toNat * 9)).block, (ad154.add ((x3_2).toNat * 9)).off + 8, none⟩ = some (.int .i64 ((rd_T61 l0_1 x3_2).f8))) (ds := []) #[false, false, false, false, false, false, false, false, false, false, false, false, false, false, false, false, false, false, false, false, false] (by kernel_rfl) rfl rfl ⟨(blk_cell BK150.out 0).trans rfl, (blk_cell BK150.out 1).trans rfl, (blk_cell BK150.out 2).trans rfl, (ce_ HB.out hw154_0 :), (ce_ HB.out hw154_1 :), (ce_ HB.out hw154_2 :), (ce_ HB.out hw154_3 :), (ce_ HB.out hw154_4 :), (ce_ HB.out hw154_5 :), (ce_ HB.out hw154_6 :), (ce_ HB.out hw154_7 :), (ce_ HB.out hw154_8 :), (ce_ HB.out hw156_0 :), (ce_ HB.out hw156_1 :), (ce_ HB.out hw156_2 :), (ce_ HB.out hw156_3 :), (ce_ HB.out hw156_4 :), (ce_ HB.out hw156_5 :), (ce_ HB.out hw156_6 :), (ce_ HB.out hw156_7 :), (ce_ HB.out hw156_8 :)⟩ (fun hHeld => ?_); refine with_tabW spec_GraphRight.tab6 spec_GraphRight.bits6 (fun HT_ HW_ => ?_)
          generalize wr.drew = w24 at BK150 HB HR154_7 HR156_7 hx154_0 hx154_1 hx154_2 hx154_3 hx154_4 hx154_5 hx154_6 hx154_7 hx154_8 hx156_0 hx156_1 hx156_2 hx156_3 hx156_4 hx156_5 hx156_6 hx156_7 hx156_8 hHeld ⊢; refine p_ 0 (some 34) HT_.out (bm 21 1) ?_; refine p_ 2 (some 36) HT_.out (bm 21 5) ?_; refine p_ 4 (some 38) HT_.out (bm 21 21) ?_; refine t_ 1 (some 35) (bm 21 23) (take_ofW HT_.out HW_.out (by kernel_rfl)) hHeld ?_; refine t_ 3 (some 37) (bm 21 31) (take_ofW HT_.out HW_.out (by kernel_rfl)) hHeld ?_; refine p_ 5 (some 39) HT_.out (bm 21 63) ?_; refine t_ 6 (some 40) (bm 21 127) (take_ofW HT_.out HW_.out (by kernel_rfl)) hHeld ?_; refine one_ (i := 7) (N := some 41) (bm 21 255) rfl rfl (one_of HT_.out (by kernel_rfl)) (by decide) (fun K hK => ?_); refine gs_ Try.func38 #[.slice (some ad154) l0_1.length c0_1, .agg #[.int .i64 ((rd_T61 l0_1 x3_2).f0), .int .i64 ((rd_T61 l0_1 x3_2).f1), .int .i64 ((rd_T61 l0_1 x3_2).f2), .int .i64 ((rd_T61 l0_1 x3_2).f3), .int .i64 ((rd_T61 l0_1 x3_2).f4), .int .i64 ((rd_T61 l0_1 x3_2).f5), .string ((rd_T61 l0_1 x3_2).f6), .slice A154_7 ((rd_T61 l0_1 x3_2).f7).length c154_7, .int .i64 ((rd_T61 l0_1 x3_2).f8)]] ?_; with_reducible refine (spec_l03All.calls k2 _ _ l0_1 ((rd_T61 l0_1 x3_2).f0) ((rd_T61 l0_1 x3_2).f1) ((rd_T61 l0_1 x3_2).f2) ((rd_T61 l0_1 x3_2).f3) ((rd_T61 l0_1 x3_2).f4) ((rd_T61 l0_1 x3_2).f5) ((rd_T61 l0_1 x3_2).f6) _ _ ((rd_T61 l0_1 x3_2).f7) ((rd_T61 l0_1 x3_2).f8) true _ ?side1 ?side2 ?side3 ?side4 A19.out).mono ?_
          (case side1 => exact (cb_ HR0_1.out HB.out))
          (case side2 => exact HC0_1.out)
          (case side3 => exact (cb_ HR154_7.out HB.out))
          (case side4 => exact HC154_7.out)
          rintro e w25 ⟨rfl, hb⟩; refine ⟨_, rfl, ?_⟩; have n0_ := Aside0.mk (blk_below (g := gb150) (o := .cells #[.int .i64 a0_0, .slice (some ad154) l0_1.length c0_1, .slice A0_2 l0_2.length c0_2] 31 (0, 0)) (a4_ BK150.out) hb); have n1_ := Aside0.mk (below_step (a3_ HB.out GE150.out) hb); clear BK150; clear HB; have BK150 := n0_; have HB := n1_; clear n0_ n1_; (try clear hb)
          (try clear hb2)
          (try clear hk)
          (try clear hi)
          refine hK.out _ _ ⟨(blk_cell BK150.out 0).trans rfl, (blk_cell BK150.out 1).trans rfl, (blk_cell BK150.out 2).trans rfl, (ce_ HB.out hw154_0 :), (ce_ HB.out hw154_1 :), (ce_ HB.out hw154_2 :), (ce_ HB.out hw154_3 :), (ce_ HB.out hw154_4 :), (ce_ HB.out hw154_5 :), (ce_ HB.out hw154_6 :), (ce_ HB.out hw154_7 :), (ce_ HB.out hw154_8 :), (ce_ HB.out hw156_0 :), (ce_ HB.out hw156_1 :), (ce_ HB.out hw156_2 :), (ce_ HB.out hw156_3 :), (ce_ HB.out hw156_4 :), (ce_ HB.out hw156_5 :), (ce_ HB.out hw156_6 :), (ce_ HB.out hw156_7 :), (ce_ HB.out hw156_8 :)⟩ (fun hHeld => ?_); clear hK K; refine n_ (some 41) ?_; refine p_ 8 (some 42) HT_.out (bm 21 511) ?_; refine p_ 9 (some 43) HT_.out (bm 21 1023) ?_; refine p_ 10 (some 44) HT_.out (bm 21 2047) ?_; refine p_ 12 (some 46) HT_.out (bm 21 6143) ?_; refine p_ 14 (some 48) HT_.out (bm 21 22527) ?_; refine t_ 11 (some 45) (bm 21 24575) (take_ofW HT_.out HW_.out (by kernel_rfl)) hHeld ?_; refine t_ 13 (some 47) (bm 21 32767) (take_ofW HT_.out HW_.out (by kernel_rfl)) hHeld ?_; refine p_ 15 (some 49) HT_.out (bm 21 65535) ?_; refine p_ 16 (some 50) HT_.out (bm 21 131071) ?_; refine t_ 17 (some 51) (bm 21 262143) (take_ofW HT_.out HW_.out (by kernel_rfl)) hHeld ?_; refine one_ (i := 18) (N := some 52) (bm 21 524287) rfl rfl (one_of HT_.out (by kernel_rfl)) (by decide) (fun K hK => ?_); refine gs_ Try.func39 #[.slice A0_2 l0_2.length c0_2, .int .i64 ((rd_T61 l0_1 x3_2).f0)] ?_; with_reducible refine (spec_l03At.calls k2 _ _ l0_2 ((rd_T61 l0_1 x3_2).f0) t157 _ ?side1 ?side2 A21.out).mono ?_
          (case side1 => exact (cb_ HR0_2.out HB.out))
          (case side2 => exact HC0_2.out)
          rintro e w' ⟨rfl, ⟨nd, rfl⟩⟩; refine ⟨_, rfl, ?_⟩; refine hK.out _ _ ⟨(blk_cell BK150.out 0).trans rfl, (blk_cell BK150.out 1).trans rfl, (blk_cell BK150.out 2).trans rfl, (ce_ HB.out hw154_0 :), (ce_ HB.out hw154_1 :), (ce_ HB.out hw154_2 :), (ce_ HB.out hw154_3 :), (ce_ HB.out hw154_4 :), (ce_ HB.out hw154_5 :), (ce_ HB.out hw154_6 :), (ce_ HB.out hw154_7 :), (ce_ HB.out hw154_8 :), (ce_ HB.out hw156_0 :), (ce_ HB.out hw156_1 :), (ce_ HB.out hw156_2 :), (ce_ HB.out hw156_3 :), (ce_ HB.out hw156_4 :), (ce_ HB.out hw156_5 :), (ce_ HB.out hw156_6 :), (ce_ HB.out hw156_7 :), (ce_ HB.out hw156_8 :)⟩ (fun hHeld => ?_); clear hK K; refine n_ (some 52) ?_; refine p_ 19 (some 53) HT_.out (bm 21 1048575) ?_; refine p_ 20 (some 54) HT_.out (bm 21 2097151) ?_; refine done_ (done_of HT_.out (by kernel_rfl)) ?_; try go_wp2
          go_ret
          exact ⟨a2_, (a3_ HB.out GE150.out)⟩
         ·
          rw [if_neg c22] at H; have c22b0 : decide (0 ≤ t157) = false := decide_eq_false c22; clear c22; have H' := Aside0.mk H; clear H; obtain ⟨⟨hcz26_0, hcz26_1, hcz26_2⟩, hfz26_0, hfz26_1, hfz26_2⟩ := cells_3 BK150.out; try go_wp2
          have n0_ := Aside0.mk (blk_drew BK150.out); have n1_ := Aside0.mk (below_drew1 HB.out); clear BK150; clear HB; have BK150 := n0_; have HB := n1_; clear n0_ n1_; have p154 : 0 ≤ (x3_2 : Int) := d_; have q154 : x3_2 < (l0_1.length : Int) := d_; obtain ⟨ad154, A154_7, c154_7, e154, hx154_0, hx154_1, hx154_2, hx154_3, hx154_4, hx154_5, hx154_6, hx154_7, hx154_8, hl154_7, hi154_7⟩ := at_T61 HR0_1.out x3_2 p154 q154; have hw154_8 := hx154_8; have hw154_7 := hx154_7; have hw154_6 := hx154_6; have hw154_5 := hx154_5; have hw154_4 := hx154_4; have hw154_3 := hx154_3; have hw154_2 := hx154_2; have hw154_1 := hx154_1; have hw154_0 := hx154_0; cases e154; replace hx154_0 := ce_ HB.out hx154_0; replace hx154_1 := ce_ HB.out hx154_1; replace hx154_2 := ce_ HB.out hx154_2; replace hx154_3 := ce_ HB.out hx154_3; replace hx154_4 := ce_ HB.out hx154_4; replace hx154_5 := ce_ HB.out hx154_5; replace hx154_6 := ce_ HB.out hx154_6; replace hx154_7 := ce_ HB.out hx154_7; replace hx154_8 := ce_ HB.out hx154_8; have HR154_7 := Aside0.mk hi154_7; have HC154_7 := Aside0.mk hl154_7; clear hi154_7 hl154_7; replace p154 := eq_true p154; replace q154 := eq_true q154; have p156 : 0 ≤ (x3_2 : Int) := d_; have q156 : x3_2 < (l0_1.length : Int) := d_; obtain ⟨ad156, A156_7, c156_7, e156, hx156_0, hx156_1, hx156_2, hx156_3, hx156_4, hx156_5, hx156_6, hx156_7, hx156_8, hl156_7, hi156_7⟩ := at_T61 HR0_1.out x3_2 p156 q156; have hw156_8 := hx156_8; have hw156_7 := hx156_7; have hw156_6 := hx156_6; have hw156_5 := hx156_5
          have hw156_4 := hx156_4; have hw156_3 := hx156_3; have hw156_2 := hx156_2; have hw156_1 := hx156_1; have hw156_0 := hx156_0; obtain rfl : ad154 = ad156 := (by injection e156); replace hx156_0 := ce_ HB.out hx156_0; replace hx156_1 := ce_ HB.out hx156_1; replace hx156_2 := ce_ HB.out hx156_2; replace hx156_3 := ce_ HB.out hx156_3; replace hx156_4 := ce_ HB.out hx156_4; replace hx156_5 := ce_ HB.out hx156_5; replace hx156_6 := ce_ HB.out hx156_6; replace hx156_7 := ce_ HB.out hx156_7; replace hx156_8 := ce_ HB.out hx156_8; have HR156_7 := Aside0.mk hi156_7; have HC156_7 := Aside0.mk hl156_7; clear hi156_7 hl156_7; replace p156 := eq_true p156; replace q156 := eq_true q156; refine start_ (n := 21) (S := fun w' => w'.cell? ⟨gb150, 0, none⟩ = some (.int .i64 a0_0) ∧ w'.cell? ⟨gb150, 1, none⟩ = some (.slice (some ad154) l0_1.length c0_1) ∧ w'.cell? ⟨gb150, 2, none⟩ = some (.slice A0_2 l0_2.length c0_2) ∧ w'.cell? (ad154.add ((x3_2).toNat * 9)) = some (.int .i64 ((rd_T61 l0_1 x3_2).f0)) ∧ w'.cell? ⟨(ad154.add ((x3_2).toNat * 9)).block, (ad154.add ((x3_2).toNat * 9)).off + 1, none⟩ = some (.int .i64 ((rd_T61 l0_1 x3_2).f1)) ∧ w'.cell? ⟨(ad154.add ((x3_2).toNat * 9)).block, (ad154.add ((x3_2).toNat * 9)).off + 2, none⟩ = some (.int .i64 ((rd_T61 l0_1 x3_2).f2)) ∧ w'.cell? ⟨(ad154.add ((x3_2).toNat * 9)).block, (ad154.add ((x3_2).toNat * 9)).off + 3, none⟩ = some (.int .i64 ((rd_T61 l0_1 x3_2).f3)) ∧ w'.cell? ⟨(ad154.add ((x3_2).toNat * 9)).block, (ad154.add ((x3_2).toNat * 9)).off + 4, none⟩ = some (.int .i64 ((rd_T61 l0_1 x3_2).f4)) ∧ w'.cell? ⟨(ad154.add ((x3_2).toNat * 9)).block, (ad154.add ((x3_2).toNat * 9)).off + 5, none⟩ = some (.int .i64 ((rd_T61 l0_1 x3_2).f5)) ∧ w'.cell? ⟨(ad154.add ((x3_2).toNat * 9)).block, (ad154.add ((x3_2).toNat * 9)).off + 6, none⟩ = some (.string ((rd_T61 l0_1 x3_2).f6)) ∧ w'.cell? ⟨(ad154.add ((x3_2).toNat * 9)).block, (ad154.add ((x3_2).toNat * 9)).off + 7, none⟩ = some (.slice A154_7 ((rd_T61 l0_1 x3_2).f7).length c154_7) ∧ w'.cell? ⟨(ad154.add ((x3_2).toNat * 9)).block, (ad154.add ((x3_2).toNat * 9)).off + 8, none⟩ = some (.int .i64 ((rd_T61 l0_1 x3_2).f8)) ∧ w'.cell? (ad154.add ((x3_2).toNat * 9)) = some (.int .i64 ((rd_T61 l0_1 x3_2).f0)) ∧ w'.cell? ⟨(ad154.add ((x3_2).toNat * 9)).block, (ad154.add ((x3_2).toNat * 9)).off + 1, none⟩ = some (.int .i64 ((rd_T61 l0_1 x3_2).f1)) ∧ w'.cell? ⟨(ad154.add ((x3_2).toNat * 9)).block, (ad154.add ((x3_2).toNat * 9)).off + 2, none⟩ = some (.int .i64 ((rd_T61 l0_1 x3_2).f2)) ∧ w'.cell? ⟨(ad154.add ((x3_2).toNat * 9)).block, (ad154.add ((x3_2).toNat * 9)).off + 3, none⟩ = some (.int .i64 ((rd_T61 l0_1 x3_2).f3)) ∧ w'.cell? ⟨(ad154.add ((x3_2).toNat * 9)).block, (ad154.add ((x3_2).toNat * 9)).off + 4, none⟩ = some (.int .i64 ((rd_T61 l0_1 x3_2).f4)) ∧ w'.cell? ⟨(ad154.add ((x3_2).toNat * 9)).block, (ad154.add ((x3_2).toNat * 9)).off + 5, none⟩ = some (.int .i64 ((rd_T61 l0_1 x3_2).f5)) ∧ w'.cell? ⟨(ad154.add ((x3_2).toNat * 9)).block, (ad154.add ((x3_2).toNat * 9)).off + 6, none⟩ = some (.string ((rd_T61 l0_1 x3_2).f6)) ∧ w'.cell? ⟨(ad154.add ((x3_2).toNat * 9)).block, (ad154.add ((x3_2).toNat * 9)).off + 7, none⟩ = some (.slice A156_7 ((rd_T61 l0_1 x3_2).f7).length c156_7) ∧ w'.cell? ⟨(ad154.add ((x3_2).toNat * 9)).block, (ad154.add ((x3_2).toNat * 9)).off + 8, none⟩ = some (.int .i64 ((rd_T61 l0_1 x3_2).f8))) (ds := []) #[false, false, false, false, false, false, false, false, false, false, false, false, false, false, false, false, false, false, false, false, false] (by kernel_rfl) rfl rfl ⟨(blk_cell BK150.out 0).trans rfl, (blk_cell BK150.out 1).trans rfl, (blk_cell BK150.out 2).trans rfl, (ce_ HB.out hw154_0 :), (ce_ HB.out hw154_1 :), (ce_ HB.out hw154_2 :), (ce_ HB.out hw154_3 :), (ce_ HB.out hw154_4 :), (ce_ HB.out hw154_5 :), (ce_ HB.out hw154_6 :), (ce_ HB.out hw154_7 :), (ce_ HB.out hw154_8 :), (ce_ HB.out hw156_0 :), (ce_ HB.out hw156_1 :), (ce_ HB.out hw156_2 :), (ce_ HB.out hw156_3 :), (ce_ HB.out hw156_4 :), (ce_ HB.out hw156_5 :), (ce_ HB.out hw156_6 :), (ce_ HB.out hw156_7 :), (ce_ HB.out hw156_8 :)⟩ (fun hHeld => ?_); refine with_tabW spec_GraphRight.tab6 spec_GraphRight.bits6 (fun HT_ HW_ => ?_)
          generalize wr.drew = w27 at BK150 HB HR154_7 HR156_7 hx154_0 hx154_1 hx154_2 hx154_3 hx154_4 hx154_5 hx154_6 hx154_7 hx154_8 hx156_0 hx156_1 hx156_2 hx156_3 hx156_4 hx156_5 hx156_6 hx156_7 hx156_8 hHeld ⊢; refine p_ 0 (some 34) HT_.out (bm 21 1) ?_; refine p_ 2 (some 36) HT_.out (bm 21 5) ?_; refine p_ 4 (some 38) HT_.out (bm 21 21) ?_; refine t_ 1 (some 35) (bm 21 23) (take_ofW HT_.out HW_.out (by kernel_rfl)) hHeld ?_; refine t_ 3 (some 37) (bm 21 31) (take_ofW HT_.out HW_.out (by kernel_rfl)) hHeld ?_; refine p_ 5 (some 39) HT_.out (bm 21 63) ?_; refine t_ 6 (some 40) (bm 21 127) (take_ofW HT_.out HW_.out (by kernel_rfl)) hHeld ?_; refine one_ (i := 7) (N := some 41) (bm 21 255) rfl rfl (one_of HT_.out (by kernel_rfl)) (by decide) (fun K hK => ?_); refine gs_ Try.func38 #[.slice (some ad154) l0_1.length c0_1, .agg #[.int .i64 ((rd_T61 l0_1 x3_2).f0), .int .i64 ((rd_T61 l0_1 x3_2).f1), .int .i64 ((rd_T61 l0_1 x3_2).f2), .int .i64 ((rd_T61 l0_1 x3_2).f3), .int .i64 ((rd_T61 l0_1 x3_2).f4), .int .i64 ((rd_T61 l0_1 x3_2).f5), .string ((rd_T61 l0_1 x3_2).f6), .slice A154_7 ((rd_T61 l0_1 x3_2).f7).length c154_7, .int .i64 ((rd_T61 l0_1 x3_2).f8)]] ?_; with_reducible refine (spec_l03All.calls k2 _ _ l0_1 ((rd_T61 l0_1 x3_2).f0) ((rd_T61 l0_1 x3_2).f1) ((rd_T61 l0_1 x3_2).f2) ((rd_T61 l0_1 x3_2).f3) ((rd_T61 l0_1 x3_2).f4) ((rd_T61 l0_1 x3_2).f5) ((rd_T61 l0_1 x3_2).f6) _ _ ((rd_T61 l0_1 x3_2).f7) ((rd_T61 l0_1 x3_2).f8) true _ ?side1 ?side2 ?side3 ?side4 A19.out).mono ?_
          (case side1 => exact (cb_ HR0_1.out HB.out))
          (case side2 => exact HC0_1.out)
          (case side3 => exact (cb_ HR154_7.out HB.out))
          (case side4 => exact HC154_7.out)
          rintro e w28 ⟨rfl, hb⟩; refine ⟨_, rfl, ?_⟩; have n0_ := Aside0.mk (blk_below (g := gb150) (o := .cells #[.int .i64 a0_0, .slice (some ad154) l0_1.length c0_1, .slice A0_2 l0_2.length c0_2] 31 (0, 0)) (a4_ BK150.out) hb); have n1_ := Aside0.mk (below_step (a3_ HB.out GE150.out) hb); clear BK150; clear HB; have BK150 := n0_; have HB := n1_; clear n0_ n1_; (try clear hb)
          (try clear hb2)
          (try clear hk)
          (try clear hi)
          refine hK.out _ _ ⟨(blk_cell BK150.out 0).trans rfl, (blk_cell BK150.out 1).trans rfl, (blk_cell BK150.out 2).trans rfl, (ce_ HB.out hw154_0 :), (ce_ HB.out hw154_1 :), (ce_ HB.out hw154_2 :), (ce_ HB.out hw154_3 :), (ce_ HB.out hw154_4 :), (ce_ HB.out hw154_5 :), (ce_ HB.out hw154_6 :), (ce_ HB.out hw154_7 :), (ce_ HB.out hw154_8 :), (ce_ HB.out hw156_0 :), (ce_ HB.out hw156_1 :), (ce_ HB.out hw156_2 :), (ce_ HB.out hw156_3 :), (ce_ HB.out hw156_4 :), (ce_ HB.out hw156_5 :), (ce_ HB.out hw156_6 :), (ce_ HB.out hw156_7 :), (ce_ HB.out hw156_8 :)⟩ (fun hHeld => ?_); clear hK K; refine n_ (some 41) ?_; refine p_ 8 (some 42) HT_.out (bm 21 511) ?_; refine p_ 9 (some 43) HT_.out (bm 21 1023) ?_; refine p_ 10 (some 44) HT_.out (bm 21 2047) ?_; refine p_ 12 (some 46) HT_.out (bm 21 6143) ?_; refine p_ 14 (some 48) HT_.out (bm 21 22527) ?_; refine t_ 11 (some 45) (bm 21 24575) (take_ofW HT_.out HW_.out (by kernel_rfl)) hHeld ?_; refine t_ 13 (some 47) (bm 21 32767) (take_ofW HT_.out HW_.out (by kernel_rfl)) hHeld ?_; refine p_ 15 (some 49) HT_.out (bm 21 65535) ?_; refine p_ 16 (some 50) HT_.out (bm 21 131071) ?_; refine t_ 17 (some 51) (bm 21 262143) (take_ofW HT_.out HW_.out (by kernel_rfl)) hHeld ?_; refine one_ (i := 18) (N := some 52) (bm 21 524287) rfl rfl (one_of HT_.out (by kernel_rfl)) (by decide) (fun K hK => ?_); refine gs_ Try.func39 #[.slice A0_2 l0_2.length c0_2, .int .i64 ((rd_T61 l0_1 x3_2).f0)] ?_; with_reducible refine (spec_l03At.calls k2 _ _ l0_2 ((rd_T61 l0_1 x3_2).f0) t157 _ ?side1 ?side2 A21.out).mono ?_
          (case side1 => exact (cb_ HR0_2.out HB.out))
          (case side2 => exact HC0_2.out)
          rintro e w' ⟨rfl, ⟨nd, rfl⟩⟩; refine ⟨_, rfl, ?_⟩; refine hK.out _ _ ⟨(blk_cell BK150.out 0).trans rfl, (blk_cell BK150.out 1).trans rfl, (blk_cell BK150.out 2).trans rfl, (ce_ HB.out hw154_0 :), (ce_ HB.out hw154_1 :), (ce_ HB.out hw154_2 :), (ce_ HB.out hw154_3 :), (ce_ HB.out hw154_4 :), (ce_ HB.out hw154_5 :), (ce_ HB.out hw154_6 :), (ce_ HB.out hw154_7 :), (ce_ HB.out hw154_8 :), (ce_ HB.out hw156_0 :), (ce_ HB.out hw156_1 :), (ce_ HB.out hw156_2 :), (ce_ HB.out hw156_3 :), (ce_ HB.out hw156_4 :), (ce_ HB.out hw156_5 :), (ce_ HB.out hw156_6 :), (ce_ HB.out hw156_7 :), (ce_ HB.out hw156_8 :)⟩ (fun hHeld => ?_); clear hK K; refine n_ (some 52) ?_; refine p_ 19 (some 53) HT_.out (bm 21 1048575) ?_; refine p_ 20 (some 54) HT_.out (bm 21 2097151) ?_; refine done_ (done_of HT_.out (by kernel_rfl)) ?_; try go_wp2
          go_roundg k2
          case measure => have := HJ1.out; have := HK2.out; omega
          case rel => exact ⟨(wrap64 (x3_2 + 1)), (by first | rfl | (simp; done) | (simp [*]; done)), H', ⟨by have := HJ1.out; have := HK2.out; omega⟩, ⟨(a4_ BK150.out)⟩, ⟨(a3_ HB.out GE150.out)⟩⟩
        ·
         replace c20 := Bool.eq_false_iff.mpr c20; subst c20; have H1 : (some false) = some r := by rw [if_neg (show ¬ (false = true) by decide)] at H; exact H
         clear H; have H := H1; clear H1; obtain rfl := Option.some.inj H; obtain ⟨⟨hcz29_0, hcz29_1, hcz29_2⟩, hfz29_0, hfz29_1, hfz29_2⟩ := cells_3 BK150.out; try go_wp2
         have n0_ := Aside0.mk (blk_drew BK150.out); have n1_ := Aside0.mk (below_drew1 HB.out); clear BK150; clear HB; have BK150 := n0_; have HB := n1_; clear n0_ n1_; have p154 : 0 ≤ (x3_2 : Int) := d_; have q154 : x3_2 < (l0_1.length : Int) := d_; obtain ⟨ad154, A154_7, c154_7, e154, hx154_0, hx154_1, hx154_2, hx154_3, hx154_4, hx154_5, hx154_6, hx154_7, hx154_8, hl154_7, hi154_7⟩ := at_T61 HR0_1.out x3_2 p154 q154; have hw154_8 := hx154_8; have hw154_7 := hx154_7; have hw154_6 := hx154_6; have hw154_5 := hx154_5; have hw154_4 := hx154_4; have hw154_3 := hx154_3; have hw154_2 := hx154_2; have hw154_1 := hx154_1; have hw154_0 := hx154_0; cases e154; replace hx154_0 := ce_ HB.out hx154_0; replace hx154_1 := ce_ HB.out hx154_1; replace hx154_2 := ce_ HB.out hx154_2; replace hx154_3 := ce_ HB.out hx154_3; replace hx154_4 := ce_ HB.out hx154_4; replace hx154_5 := ce_ HB.out hx154_5; replace hx154_6 := ce_ HB.out hx154_6; replace hx154_7 := ce_ HB.out hx154_7; replace hx154_8 := ce_ HB.out hx154_8; have HR154_7 := Aside0.mk hi154_7; have HC154_7 := Aside0.mk hl154_7; clear hi154_7 hl154_7; replace p154 := eq_true p154; replace q154 := eq_true q154; refine start_ (n := 21) (S := fun w' => w'.cell? ⟨gb150, 0, none⟩ = some (.int .i64 a0_0) ∧ w'.cell? ⟨gb150, 1, none⟩ = some (.slice (some ad154) l0_1.length c0_1) ∧ w'.cell? ⟨gb150, 2, none⟩ = some (.slice A0_2 l0_2.length c0_2) ∧ w'.cell? (ad154.add ((x3_2).toNat * 9)) = some (.int .i64 ((rd_T61 l0_1 x3_2).f0)) ∧ w'.cell? ⟨(ad154.add ((x3_2).toNat * 9)).block, (ad154.add ((x3_2).toNat * 9)).off + 1, none⟩ = some (.int .i64 ((rd_T61 l0_1 x3_2).f1)) ∧ w'.cell? ⟨(ad154.add ((x3_2).toNat * 9)).block, (ad154.add ((x3_2).toNat * 9)).off + 2, none⟩ = some (.int .i64 ((rd_T61 l0_1 x3_2).f2)) ∧ w'.cell? ⟨(ad154.add ((x3_2).toNat * 9)).block, (ad154.add ((x3_2).toNat * 9)).off + 3, none⟩ = some (.int .i64 ((rd_T61 l0_1 x3_2).f3)) ∧ w'.cell? ⟨(ad154.add ((x3_2).toNat * 9)).block, (ad154.add ((x3_2).toNat * 9)).off + 4, none⟩ = some (.int .i64 ((rd_T61 l0_1 x3_2).f4)) ∧ w'.cell? ⟨(ad154.add ((x3_2).toNat * 9)).block, (ad154.add ((x3_2).toNat * 9)).off + 5, none⟩ = some (.int .i64 ((rd_T61 l0_1 x3_2).f5)) ∧ w'.cell? ⟨(ad154.add ((x3_2).toNat * 9)).block, (ad154.add ((x3_2).toNat * 9)).off + 6, none⟩ = some (.string ((rd_T61 l0_1 x3_2).f6)) ∧ w'.cell? ⟨(ad154.add ((x3_2).toNat * 9)).block, (ad154.add ((x3_2).toNat * 9)).off + 7, none⟩ = some (.slice A154_7 ((rd_T61 l0_1 x3_2).f7).length c154_7) ∧ w'.cell? ⟨(ad154.add ((x3_2).toNat * 9)).block, (ad154.add ((x3_2).toNat * 9)).off + 8, none⟩ = some (.int .i64 ((rd_T61 l0_1 x3_2).f8))) (ds := []) #[false, false, false, false, false, false, false, false, false, false, false, false, false, false, false, false, false, false, false, false, false] (by kernel_rfl) rfl rfl ⟨(blk_cell BK150.out 0).trans rfl, (blk_cell BK150.out 1).trans rfl, (blk_cell BK150.out 2).trans rfl, (ce_ HB.out hw154_0 :), (ce_ HB.out hw154_1 :), (ce_ HB.out hw154_2 :), (ce_ HB.out hw154_3 :), (ce_ HB.out hw154_4 :), (ce_ HB.out hw154_5 :), (ce_ HB.out hw154_6 :), (ce_ HB.out hw154_7 :), (ce_ HB.out hw154_8 :)⟩ (fun hHeld => ?_); refine with_tabW spec_GraphRight.tab6 spec_GraphRight.bits6 (fun HT_ HW_ => ?_)
         generalize wr.drew = w30 at BK150 HB HR154_7 hx154_0 hx154_1 hx154_2 hx154_3 hx154_4 hx154_5 hx154_6 hx154_7 hx154_8 hHeld ⊢; refine p_ 0 (some 34) HT_.out (bm 21 1) ?_; refine p_ 2 (some 36) HT_.out (bm 21 5) ?_; refine p_ 4 (some 38) HT_.out (bm 21 21) ?_; refine t_ 1 (some 35) (bm 21 23) (take_ofW HT_.out HW_.out (by kernel_rfl)) hHeld ?_; refine t_ 3 (some 37) (bm 21 31) (take_ofW HT_.out HW_.out (by kernel_rfl)) hHeld ?_; refine p_ 5 (some 39) HT_.out (bm 21 63) ?_; refine t_ 6 (some 40) (bm 21 127) (take_ofW HT_.out HW_.out (by kernel_rfl)) hHeld ?_; refine one_ (i := 7) (N := some 41) (bm 21 255) rfl rfl (one_of HT_.out (by kernel_rfl)) (by decide) (fun K hK => ?_); refine gs_ Try.func38 #[.slice (some ad154) l0_1.length c0_1, .agg #[.int .i64 ((rd_T61 l0_1 x3_2).f0), .int .i64 ((rd_T61 l0_1 x3_2).f1), .int .i64 ((rd_T61 l0_1 x3_2).f2), .int .i64 ((rd_T61 l0_1 x3_2).f3), .int .i64 ((rd_T61 l0_1 x3_2).f4), .int .i64 ((rd_T61 l0_1 x3_2).f5), .string ((rd_T61 l0_1 x3_2).f6), .slice A154_7 ((rd_T61 l0_1 x3_2).f7).length c154_7, .int .i64 ((rd_T61 l0_1 x3_2).f8)]] ?_; with_reducible refine (spec_l03All.calls k2 _ _ l0_1 ((rd_T61 l0_1 x3_2).f0) ((rd_T61 l0_1 x3_2).f1) ((rd_T61 l0_1 x3_2).f2) ((rd_T61 l0_1 x3_2).f3) ((rd_T61 l0_1 x3_2).f4) ((rd_T61 l0_1 x3_2).f5) ((rd_T61 l0_1 x3_2).f6) _ _ ((rd_T61 l0_1 x3_2).f7) ((rd_T61 l0_1 x3_2).f8) false _ ?side1 ?side2 ?side3 ?side4 A19.out).mono ?_
         (case side1 => exact (cb_ HR0_1.out HB.out))
         (case side2 => exact HC0_1.out)
         (case side3 => exact (cb_ HR154_7.out HB.out))
         (case side4 => exact HC154_7.out)
         rintro e w31 ⟨rfl, hb⟩; refine ⟨_, rfl, ?_⟩; have n0_ := Aside0.mk (blk_below (g := gb150) (o := .cells #[.int .i64 a0_0, .slice (some ad154) l0_1.length c0_1, .slice A0_2 l0_2.length c0_2] 31 (0, 0)) (a4_ BK150.out) hb); have n1_ := Aside0.mk (below_step (a3_ HB.out GE150.out) hb); clear BK150; clear HB; have BK150 := n0_; have HB := n1_; clear n0_ n1_; (try clear hb)
         (try clear hb2)
         (try clear hk)
         (try clear hi)
         refine hK.out _ _ ⟨(blk_cell BK150.out 0).trans rfl, (blk_cell BK150.out 1).trans rfl, (blk_cell BK150.out 2).trans rfl, (ce_ HB.out hw154_0 :), (ce_ HB.out hw154_1 :), (ce_ HB.out hw154_2 :), (ce_ HB.out hw154_3 :), (ce_ HB.out hw154_4 :), (ce_ HB.out hw154_5 :), (ce_ HB.out hw154_6 :), (ce_ HB.out hw154_7 :), (ce_ HB.out hw154_8 :)⟩ (fun hHeld => ?_); clear hK K; refine n_ (some 41) ?_; refine p_ 8 (some 42) HT_.out (bm 21 511) ?_; refine p_ 9 (some 43) HT_.out (bm 21 1023) ?_; refine u_ 10 (some 44) HT_.out (bm 21 2047) ?_; refine u_ 11 (some 45) HT_.out (bm 21 4095) ?_; refine u_ 12 (some 46) HT_.out (bm 21 8191) ?_; refine u_ 13 (some 47) HT_.out (bm 21 16383) ?_; refine u_ 14 (some 48) HT_.out (bm 21 32767) ?_; refine u_ 15 (some 49) HT_.out (bm 21 65535) ?_; refine u_ 16 (some 50) HT_.out (bm 21 131071) ?_; refine u_ 17 (some 51) HT_.out (bm 21 262143) ?_; refine u_ 18 (some 52) HT_.out (bm 21 524287) ?_; refine u_ 19 (some 53) HT_.out (bm 21 1048575) ?_; refine p_ 20 (some 54) HT_.out (bm 21 2097151) ?_; refine done_ (done_of HT_.out (by kernel_rfl)) ?_; try go_wp2
         go_ret
         exact ⟨a2_, (a3_ HB.out GE150.out)⟩
       ·
        rw [if_neg c18] at H; exact absurd H (by simp)
      ·
       rw [if_neg c17] at H; have c17b0 : decide (x3_2 < (l0_1.length : Int)) = false := decide_eq_false c17; clear c17; have H' := Aside0.mk H; clear H; obtain ⟨⟨hcz32_0, hcz32_1, hcz32_2⟩, hfz32_0, hfz32_1, hfz32_2⟩ := cells_3 BK150.out; go_wp2
       go_loopg [4] k2 (fun kq v4 w' => ∃ (x4_3 : Int), v4 = .int .i64 x4_3 ∧ Aside0 (spec_GraphRight.l1 kq x4_3 a0_0 l0_1 l0_2 = some r) ∧ Aside0 (kq ≤ k2) ∧ Aside0 (w'.heap[gb150]? = some (.cells #[.int .i64 a0_0, (.slice A0_1 l0_1.length c0_1), (.slice A0_2 l0_2.length c0_2)] 31 (0, 0))) ∧ Aside0 (Below w.heap.size w w'))
       case atStart => exact ⟨(0), (by first | rfl | (simp; done) | (simp [*]; done)), H', ⟨Nat.le_refl _⟩, ⟨(a4_ BK150.out)⟩, ⟨(a3_ HB.out GE150.out)⟩⟩
       case round =>
        clear H'; try clear c1
        try clear p1
        try clear q1
        try clear hx1
        try clear c2
        try clear p2
        try clear c3
        try clear p6
        try clear c15
        try clear p15
        try clear q15
        try clear hx15
        try clear c17
        try clear c17b0
        try clear c18
        try clear c20
        try clear c22
        try clear c22b0
        try clear hcz26_0
        try clear hcz26_1
        try clear hcz26_2
        try clear hcz29_0
        try clear hcz29_1
        try clear hcz29_2
        try clear hcz32_0
        try clear hcz32_1
        try clear hcz32_2
        try clear hfz26_0
        try clear hfz26_1
        try clear hfz26_2
        try clear hfz29_0
        try clear hfz29_1
        try clear hfz29_2
        try clear hfz32_0
        try clear hfz32_1
        try clear hfz32_2
        try clear hx154_0
        try clear hx154_1
        try clear hx154_2
        try clear hx154_3
        try clear hx154_4
        try clear hx154_5
        try clear hx154_6
        try clear hx154_7
        try clear hx154_8
        try clear hx156_0
        try clear hx156_1
        try clear hx156_2
        try clear hx156_3
        try clear hx156_4
        try clear hx156_5
        try clear hx156_6
        try clear hx156_7
        try clear hx156_8
        try clear p154
        try clear p156
        try clear q154
        try clear q156
        obtain ⟨x4_3, rfl, HA, HK3, BK150, HB⟩ := hrel
        cases gk with
        | zero => exact absurd HA.out (by simp [spec_GraphRight.l1])
        | succ k3 =>
         have H := HA.out; clear HA; simp only [spec_GraphRight.l1] at H; by_cases c33 : x4_3 < (l0_2.length : Int)
         ·
          rw [if_pos c33] at H; have c33b0 : decide (x4_3 < (l0_2.length : Int)) = true := decide_eq_true c33; clear c33; by_cases c34 : 0 ≤ x4_3
          ·
           rw [if_pos c34] at H; have c34b0 : decide (0 ≤ x4_3) = true := decide_eq_true c34; clear c34; replace H := Option.bind_eq_some_iff.mp H; obtain ⟨t159, A350, H⟩ := H; replace H : (if t159 = true then (some false) else (spec_GraphRight.l1 k3 (wrap64 (x4_3 + 1)) a0_0 l0_1 l0_2)) = some r := H; have A35 := Aside0.mk A350; clear A350; by_cases c36 : t159 = true
           ·
            subst c36; have H1 : (some false) = some r := by rw [if_pos rfl] at H; exact H
            clear H; have H := H1; clear H1; obtain rfl := Option.some.inj H; obtain ⟨⟨hcz37_0, hcz37_1, hcz37_2⟩, hfz37_0, hfz37_1, hfz37_2⟩ := cells_3 BK150.out; try go_wp2
            have n0_ := Aside0.mk (blk_drew BK150.out); have n1_ := Aside0.mk (below_drew1 HB.out); clear BK150; clear HB; have BK150 := n0_; have HB := n1_; clear n0_ n1_; have p158 : 0 ≤ (x4_3 : Int) := d_; have q158 : x4_3 < (l0_2.length : Int) := d_; obtain ⟨ad158, A158_7, c158_7, e158, hx158_0, hx158_1, hx158_2, hx158_3, hx158_4, hx158_5, hx158_6, hx158_7, hx158_8, hl158_7, hi158_7⟩ := at_T61 HR0_2.out x4_3 p158 q158; have hw158_8 := hx158_8; have hw158_7 := hx158_7; have hw158_6 := hx158_6; have hw158_5 := hx158_5; have hw158_4 := hx158_4; have hw158_3 := hx158_3; have hw158_2 := hx158_2; have hw158_1 := hx158_1; have hw158_0 := hx158_0; cases e158; replace hx158_0 := ce_ HB.out hx158_0; replace hx158_1 := ce_ HB.out hx158_1; replace hx158_2 := ce_ HB.out hx158_2; replace hx158_3 := ce_ HB.out hx158_3; replace hx158_4 := ce_ HB.out hx158_4; replace hx158_5 := ce_ HB.out hx158_5; replace hx158_6 := ce_ HB.out hx158_6; replace hx158_7 := ce_ HB.out hx158_7; replace hx158_8 := ce_ HB.out hx158_8; have HR158_7 := Aside0.mk hi158_7; have HC158_7 := Aside0.mk hl158_7; clear hi158_7 hl158_7; replace p158 := eq_true p158; replace q158 := eq_true q158; refine start_ (n := 8) (S := fun w' => w'.cell? ⟨gb150, 0, none⟩ = some (.int .i64 a0_0) ∧ w'.cell? ⟨gb150, 1, none⟩ = some (.slice A0_1 l0_1.length c0_1) ∧ w'.cell? ⟨gb150, 2, none⟩ = some (.slice (some ad158) l0_2.length c0_2) ∧ w'.cell? (ad158.add ((x4_3).toNat * 9)) = some (.int .i64 ((rd_T61 l0_2 x4_3).f0)) ∧ w'.cell? ⟨(ad158.add ((x4_3).toNat * 9)).block, (ad158.add ((x4_3).toNat * 9)).off + 1, none⟩ = some (.int .i64 ((rd_T61 l0_2 x4_3).f1)) ∧ w'.cell? ⟨(ad158.add ((x4_3).toNat * 9)).block, (ad158.add ((x4_3).toNat * 9)).off + 2, none⟩ = some (.int .i64 ((rd_T61 l0_2 x4_3).f2)) ∧ w'.cell? ⟨(ad158.add ((x4_3).toNat * 9)).block, (ad158.add ((x4_3).toNat * 9)).off + 3, none⟩ = some (.int .i64 ((rd_T61 l0_2 x4_3).f3)) ∧ w'.cell? ⟨(ad158.add ((x4_3).toNat * 9)).block, (ad158.add ((x4_3).toNat * 9)).off + 4, none⟩ = some (.int .i64 ((rd_T61 l0_2 x4_3).f4)) ∧ w'.cell? ⟨(ad158.add ((x4_3).toNat * 9)).block, (ad158.add ((x4_3).toNat * 9)).off + 5, none⟩ = some (.int .i64 ((rd_T61 l0_2 x4_3).f5)) ∧ w'.cell? ⟨(ad158.add ((x4_3).toNat * 9)).block, (ad158.add ((x4_3).toNat * 9)).off + 6, none⟩ = some (.string ((rd_T61 l0_2 x4_3).f6)) ∧ w'.cell? ⟨(ad158.add ((x4_3).toNat * 9)).block, (ad158.add ((x4_3).toNat * 9)).off + 7, none⟩ = some (.slice A158_7 ((rd_T61 l0_2 x4_3).f7).length c158_7) ∧ w'.cell? ⟨(ad158.add ((x4_3).toNat * 9)).block, (ad158.add ((x4_3).toNat * 9)).off + 8, none⟩ = some (.int .i64 ((rd_T61 l0_2 x4_3).f8))) (ds := []) #[false, false, false, false, false, false, false, false] (by kernel_rfl) rfl rfl ⟨(blk_cell BK150.out 0).trans rfl, (blk_cell BK150.out 1).trans rfl, (blk_cell BK150.out 2).trans rfl, (ce_ HB.out hw158_0 :), (ce_ HB.out hw158_1 :), (ce_ HB.out hw158_2 :), (ce_ HB.out hw158_3 :), (ce_ HB.out hw158_4 :), (ce_ HB.out hw158_5 :), (ce_ HB.out hw158_6 :), (ce_ HB.out hw158_7 :), (ce_ HB.out hw158_8 :)⟩ (fun hHeld => ?_); refine with_tabW spec_GraphRight.tab11 spec_GraphRight.bits11 (fun HT_ HW_ => ?_)
            generalize wr.drew = w38 at BK150 HB HR158_7 hx158_0 hx158_1 hx158_2 hx158_3 hx158_4 hx158_5 hx158_6 hx158_7 hx158_8 hHeld ⊢; refine p_ 0 (some 62) HT_.out (bm 8 1) ?_; refine p_ 2 (some 64) HT_.out (bm 8 5) ?_; refine p_ 4 (some 66) HT_.out (bm 8 21) ?_; refine t_ 1 (some 63) (bm 8 23) (take_ofW HT_.out HW_.out (by kernel_rfl)) hHeld ?_; refine t_ 3 (some 65) (bm 8 31) (take_ofW HT_.out HW_.out (by kernel_rfl)) hHeld ?_; refine p_ 5 (some 67) HT_.out (bm 8 63) ?_; refine t_ 6 (some 68) (bm 8 127) (take_ofW HT_.out HW_.out (by kernel_rfl)) hHeld ?_; refine one_ (i := 7) (N := some 69) (bm 8 255) rfl rfl (one_of HT_.out (by kernel_rfl)) (by decide) (fun K hK => ?_); refine gs_ Try.func38 #[.slice A0_1 l0_1.length c0_1, .agg #[.int .i64 ((rd_T61 l0_2 x4_3).f0), .int .i64 ((rd_T61 l0_2 x4_3).f1), .int .i64 ((rd_T61 l0_2 x4_3).f2), .int .i64 ((rd_T61 l0_2 x4_3).f3), .int .i64 ((rd_T61 l0_2 x4_3).f4), .int .i64 ((rd_T61 l0_2 x4_3).f5), .string ((rd_T61 l0_2 x4_3).f6), .slice A158_7 ((rd_T61 l0_2 x4_3).f7).length c158_7, .int .i64 ((rd_T61 l0_2 x4_3).f8)]] ?_; with_reducible refine (spec_l03All.calls k3 _ _ l0_1 ((rd_T61 l0_2 x4_3).f0) ((rd_T61 l0_2 x4_3).f1) ((rd_T61 l0_2 x4_3).f2) ((rd_T61 l0_2 x4_3).f3) ((rd_T61 l0_2 x4_3).f4) ((rd_T61 l0_2 x4_3).f5) ((rd_T61 l0_2 x4_3).f6) _ _ ((rd_T61 l0_2 x4_3).f7) ((rd_T61 l0_2 x4_3).f8) true _ ?side1 ?side2 ?side3 ?side4 A35.out).mono ?_
            (case side1 => exact (cb_ HR0_1.out HB.out))
            (case side2 => exact HC0_1.out)
            (case side3 => exact (cb_ HR158_7.out HB.out))
            (case side4 => exact HC158_7.out)
            rintro e w39 ⟨rfl, hb⟩; refine ⟨_, rfl, ?_⟩; have n0_ := Aside0.mk (blk_below (g := gb150) (o := .cells #[.int .i64 a0_0, .slice A0_1 l0_1.length c0_1, .slice (some ad158) l0_2.length c0_2] 31 (0, 0)) (a4_ BK150.out) hb); have n1_ := Aside0.mk (below_step (a3_ HB.out GE150.out) hb); clear BK150; clear HB; have BK150 := n0_; have HB := n1_; clear n0_ n1_; (try clear hb)
            (try clear hb2)
            (try clear hk)
            (try clear hi)
            refine hK.out _ _ ⟨(blk_cell BK150.out 0).trans rfl, (blk_cell BK150.out 1).trans rfl, (blk_cell BK150.out 2).trans rfl, (ce_ HB.out hw158_0 :), (ce_ HB.out hw158_1 :), (ce_ HB.out hw158_2 :), (ce_ HB.out hw158_3 :), (ce_ HB.out hw158_4 :), (ce_ HB.out hw158_5 :), (ce_ HB.out hw158_6 :), (ce_ HB.out hw158_7 :), (ce_ HB.out hw158_8 :)⟩ (fun hHeld => ?_); clear hK K; refine n_ (some 69) ?_; refine done_ (done_of HT_.out (by kernel_rfl)) ?_; try go_wp2
            go_ret
            exact ⟨a2_, (a3_ HB.out GE150.out)⟩
           ·
            replace c36 := Bool.eq_false_iff.mpr c36; subst c36; have H1 : (spec_GraphRight.l1 k3 (wrap64 (x4_3 + 1)) a0_0 l0_1 l0_2) = some r := by rw [if_neg (show ¬ (false = true) by decide)] at H; exact H
            clear H; have H := H1; clear H1; have H' := Aside0.mk H; clear H; obtain ⟨⟨hcz40_0, hcz40_1, hcz40_2⟩, hfz40_0, hfz40_1, hfz40_2⟩ := cells_3 BK150.out; try go_wp2
            have n0_ := Aside0.mk (blk_drew BK150.out); have n1_ := Aside0.mk (below_drew1 HB.out); clear BK150; clear HB; have BK150 := n0_; have HB := n1_; clear n0_ n1_; have p158 : 0 ≤ (x4_3 : Int) := d_; have q158 : x4_3 < (l0_2.length : Int) := d_; obtain ⟨ad158, A158_7, c158_7, e158, hx158_0, hx158_1, hx158_2, hx158_3, hx158_4, hx158_5, hx158_6, hx158_7, hx158_8, hl158_7, hi158_7⟩ := at_T61 HR0_2.out x4_3 p158 q158; have hw158_8 := hx158_8; have hw158_7 := hx158_7; have hw158_6 := hx158_6; have hw158_5 := hx158_5; have hw158_4 := hx158_4; have hw158_3 := hx158_3; have hw158_2 := hx158_2; have hw158_1 := hx158_1; have hw158_0 := hx158_0; cases e158; replace hx158_0 := ce_ HB.out hx158_0; replace hx158_1 := ce_ HB.out hx158_1; replace hx158_2 := ce_ HB.out hx158_2; replace hx158_3 := ce_ HB.out hx158_3; replace hx158_4 := ce_ HB.out hx158_4; replace hx158_5 := ce_ HB.out hx158_5; replace hx158_6 := ce_ HB.out hx158_6; replace hx158_7 := ce_ HB.out hx158_7; replace hx158_8 := ce_ HB.out hx158_8; have HR158_7 := Aside0.mk hi158_7; have HC158_7 := Aside0.mk hl158_7; clear hi158_7 hl158_7; replace p158 := eq_true p158; replace q158 := eq_true q158; refine start_ (n := 8) (S := fun w' => w'.cell? ⟨gb150, 0, none⟩ = some (.int .i64 a0_0) ∧ w'.cell? ⟨gb150, 1, none⟩ = some (.slice A0_1 l0_1.length c0_1) ∧ w'.cell? ⟨gb150, 2, none⟩ = some (.slice (some ad158) l0_2.length c0_2) ∧ w'.cell? (ad158.add ((x4_3).toNat * 9)) = some (.int .i64 ((rd_T61 l0_2 x4_3).f0)) ∧ w'.cell? ⟨(ad158.add ((x4_3).toNat * 9)).block, (ad158.add ((x4_3).toNat * 9)).off + 1, none⟩ = some (.int .i64 ((rd_T61 l0_2 x4_3).f1)) ∧ w'.cell? ⟨(ad158.add ((x4_3).toNat * 9)).block, (ad158.add ((x4_3).toNat * 9)).off + 2, none⟩ = some (.int .i64 ((rd_T61 l0_2 x4_3).f2)) ∧ w'.cell? ⟨(ad158.add ((x4_3).toNat * 9)).block, (ad158.add ((x4_3).toNat * 9)).off + 3, none⟩ = some (.int .i64 ((rd_T61 l0_2 x4_3).f3)) ∧ w'.cell? ⟨(ad158.add ((x4_3).toNat * 9)).block, (ad158.add ((x4_3).toNat * 9)).off + 4, none⟩ = some (.int .i64 ((rd_T61 l0_2 x4_3).f4)) ∧ w'.cell? ⟨(ad158.add ((x4_3).toNat * 9)).block, (ad158.add ((x4_3).toNat * 9)).off + 5, none⟩ = some (.int .i64 ((rd_T61 l0_2 x4_3).f5)) ∧ w'.cell? ⟨(ad158.add ((x4_3).toNat * 9)).block, (ad158.add ((x4_3).toNat * 9)).off + 6, none⟩ = some (.string ((rd_T61 l0_2 x4_3).f6)) ∧ w'.cell? ⟨(ad158.add ((x4_3).toNat * 9)).block, (ad158.add ((x4_3).toNat * 9)).off + 7, none⟩ = some (.slice A158_7 ((rd_T61 l0_2 x4_3).f7).length c158_7) ∧ w'.cell? ⟨(ad158.add ((x4_3).toNat * 9)).block, (ad158.add ((x4_3).toNat * 9)).off + 8, none⟩ = some (.int .i64 ((rd_T61 l0_2 x4_3).f8))) (ds := []) #[false, false, false, false, false, false, false, false] (by kernel_rfl) rfl rfl ⟨(blk_cell BK150.out 0).trans rfl, (blk_cell BK150.out 1).trans rfl, (blk_cell BK150.out 2).trans rfl, (ce_ HB.out hw158_0 :), (ce_ HB.out hw158_1 :), (ce_ HB.out hw158_2 :), (ce_ HB.out hw158_3 :), (ce_ HB.out hw158_4 :), (ce_ HB.out hw158_5 :), (ce_ HB.out hw158_6 :), (ce_ HB.out hw158_7 :), (ce_ HB.out hw158_8 :)⟩ (fun hHeld => ?_); refine with_tabW spec_GraphRight.tab11 spec_GraphRight.bits11 (fun HT_ HW_ => ?_)
            generalize wr.drew = w41 at BK150 HB HR158_7 hx158_0 hx158_1 hx158_2 hx158_3 hx158_4 hx158_5 hx158_6 hx158_7 hx158_8 hHeld ⊢; refine p_ 0 (some 62) HT_.out (bm 8 1) ?_; refine p_ 2 (some 64) HT_.out (bm 8 5) ?_; refine p_ 4 (some 66) HT_.out (bm 8 21) ?_; refine t_ 1 (some 63) (bm 8 23) (take_ofW HT_.out HW_.out (by kernel_rfl)) hHeld ?_; refine t_ 3 (some 65) (bm 8 31) (take_ofW HT_.out HW_.out (by kernel_rfl)) hHeld ?_; refine p_ 5 (some 67) HT_.out (bm 8 63) ?_; refine t_ 6 (some 68) (bm 8 127) (take_ofW HT_.out HW_.out (by kernel_rfl)) hHeld ?_; refine one_ (i := 7) (N := some 69) (bm 8 255) rfl rfl (one_of HT_.out (by kernel_rfl)) (by decide) (fun K hK => ?_); refine gs_ Try.func38 #[.slice A0_1 l0_1.length c0_1, .agg #[.int .i64 ((rd_T61 l0_2 x4_3).f0), .int .i64 ((rd_T61 l0_2 x4_3).f1), .int .i64 ((rd_T61 l0_2 x4_3).f2), .int .i64 ((rd_T61 l0_2 x4_3).f3), .int .i64 ((rd_T61 l0_2 x4_3).f4), .int .i64 ((rd_T61 l0_2 x4_3).f5), .string ((rd_T61 l0_2 x4_3).f6), .slice A158_7 ((rd_T61 l0_2 x4_3).f7).length c158_7, .int .i64 ((rd_T61 l0_2 x4_3).f8)]] ?_; with_reducible refine (spec_l03All.calls k3 _ _ l0_1 ((rd_T61 l0_2 x4_3).f0) ((rd_T61 l0_2 x4_3).f1) ((rd_T61 l0_2 x4_3).f2) ((rd_T61 l0_2 x4_3).f3) ((rd_T61 l0_2 x4_3).f4) ((rd_T61 l0_2 x4_3).f5) ((rd_T61 l0_2 x4_3).f6) _ _ ((rd_T61 l0_2 x4_3).f7) ((rd_T61 l0_2 x4_3).f8) false _ ?side1 ?side2 ?side3 ?side4 A35.out).mono ?_
            (case side1 => exact (cb_ HR0_1.out HB.out))
            (case side2 => exact HC0_1.out)
            (case side3 => exact (cb_ HR158_7.out HB.out))
            (case side4 => exact HC158_7.out)
            rintro e w42 ⟨rfl, hb⟩; refine ⟨_, rfl, ?_⟩; have n0_ := Aside0.mk (blk_below (g := gb150) (o := .cells #[.int .i64 a0_0, .slice A0_1 l0_1.length c0_1, .slice (some ad158) l0_2.length c0_2] 31 (0, 0)) (a4_ BK150.out) hb); have n1_ := Aside0.mk (below_step (a3_ HB.out GE150.out) hb); clear BK150; clear HB; have BK150 := n0_; have HB := n1_; clear n0_ n1_; (try clear hb)
            (try clear hb2)
            (try clear hk)
            (try clear hi)
            refine hK.out _ _ ⟨(blk_cell BK150.out 0).trans rfl, (blk_cell BK150.out 1).trans rfl, (blk_cell BK150.out 2).trans rfl, (ce_ HB.out hw158_0 :), (ce_ HB.out hw158_1 :), (ce_ HB.out hw158_2 :), (ce_ HB.out hw158_3 :), (ce_ HB.out hw158_4 :), (ce_ HB.out hw158_5 :), (ce_ HB.out hw158_6 :), (ce_ HB.out hw158_7 :), (ce_ HB.out hw158_8 :)⟩ (fun hHeld => ?_); clear hK K; refine n_ (some 69) ?_; refine done_ (done_of HT_.out (by kernel_rfl)) ?_; try go_wp2
            go_roundg k3
            case measure => have := HJ1.out; have := HK2.out; have := HK3.out; omega
            case rel => exact ⟨(wrap64 (x4_3 + 1)), (by first | rfl | (simp; done) | (simp [*]; done)), H', ⟨by have := HJ1.out; have := HK2.out; have := HK3.out; omega⟩, ⟨(a4_ BK150.out)⟩, ⟨(a3_ HB.out GE150.out)⟩⟩
          ·
           rw [if_neg c34] at H; exact absurd H (by simp)
         ·
          rw [if_neg c33] at H; have c33b0 : decide (x4_3 < (l0_2.length : Int)) = false := decide_eq_false c33; clear c33; replace H := Option.bind_eq_some_iff.mp H; obtain ⟨t160, A430, H⟩ := H; replace H : (spec_GraphRight.l2 k3 t160 0) = some r := H; have A43 := Aside0.mk A430; clear A430; have H' := Aside0.mk H; clear H; obtain ⟨⟨hcz44_0, hcz44_1, hcz44_2⟩, hfz44_0, hfz44_1, hfz44_2⟩ := cells_3 BK150.out; go_wp2_with (first | ((with_reducible refine gate_callee (f := 40) rfl ?_); refine gl_ (some 72) Try.func40 #[.slice A0_1 l0_1.length c0_1] ?_; (with_reducible refine (spec_l03Depths.calls k3 _ _ l0_1 t160 _ ?side1 ?side2 A43.out).mono ?_); (case side1 => exact (cb_ HR0_1.out HB.out)); (case side2 => exact HC0_1.out); rintro e w45 ⟨v161, rfl, ho0, hb⟩; refine ⟨_, rfl, ?_⟩; have n0_ := Aside0.mk (Kd.R_lower ho0 (below_size (a3_ HB.out GE150.out))); have n1_ := Aside0.mk (blk_below (g := gb150) (o := .cells #[.int .i64 a0_0, .slice A0_1 l0_1.length c0_1, .slice A0_2 l0_2.length c0_2] 31 (0, 0)) (a4_ BK150.out) hb); have n2_ := Aside0.mk (below_step (a3_ HB.out GE150.out) hb); clear BK150; clear HB; have HO162 := n0_; have BK150 := n1_; have HB := n2_; clear n0_ n1_ n2_; (try clear hb); (try clear hb2); (try clear hk); (try clear hi); (try clear ho0)))
          go_loopg [6] k3 (fun kq v6 w' => ∃ (x6_4 : Int), v6 = .int .i64 x6_4 ∧ Aside0 (spec_GraphRight.l2 kq t160 x6_4 = some r) ∧ Aside0 (kq ≤ k3) ∧ Aside0 (Kd.R (Kd.int .i64) 2 w' w.heap.size (fun _ => True) v161 t160) ∧ Aside0 (w'.heap[gb150]? = some (.cells #[.int .i64 a0_0, (.slice A0_1 l0_1.length c0_1), (.slice A0_2 l0_2.length c0_2)] 31 (0, 0))) ∧ Aside0 (Below w.heap.size w w'))
          case atStart => exact ⟨(0), (by first | rfl | (simp; done) | (simp [*]; done)), H', ⟨Nat.le_refl _⟩, ⟨(a7_ HO162.out)⟩, ⟨(a4_ BK150.out)⟩, ⟨(a3_ HB.out GE150.out)⟩⟩
          case round =>
           clear H'; try clear c1
           try clear p1
           try clear q1
           try clear hx1
           try clear c2
           try clear p2
           try clear c3
           try clear c4
           try clear p6
           try clear c15
           try clear p15
           try clear q15
           try clear hx15
           try clear c17
           try clear c17b0
           try clear c18
           try clear c20
           try clear c22
           try clear c22b0
           try clear c33
           try clear c33b0
           try clear c34
           try clear c34b0
           try clear c36
           try clear c38
           try clear c40
           try clear hcz26_0
           try clear hcz26_1
           try clear hcz26_2
           try clear hcz29_0
           try clear hcz29_1
           try clear hcz29_2
           try clear hcz32_0
           try clear hcz32_1
           try clear hcz32_2
           try clear hcz37_0
           try clear hcz37_1
           try clear hcz37_2
           try clear hcz40_0
           try clear hcz40_1
           try clear hcz40_2
           try clear hcz44_0
           try clear hcz44_1
           try clear hcz44_2
           try clear hfz26_0
           try clear hfz26_1
           try clear hfz26_2
           try clear hfz29_0
           try clear hfz29_1
           try clear hfz29_2
           try clear hfz32_0
           try clear hfz32_1
           try clear hfz32_2
           try clear hfz37_0
           try clear hfz37_1
           try clear hfz37_2
           try clear hfz40_0
           try clear hfz40_1
           try clear hfz40_2
           try clear hfz44_0
           try clear hfz44_1
           try clear hfz44_2
           try clear hx154_0
           try clear hx154_1
           try clear hx154_2
           try clear hx154_3
           try clear hx154_4
           try clear hx154_5
           try clear hx154_6
           try clear hx154_7
           try clear hx154_8
           try clear hx156_0
           try clear hx156_1
           try clear hx156_2
           try clear hx156_3
           try clear hx156_4
           try clear hx156_5
           try clear hx156_6
           try clear hx156_7
           try clear hx156_8
           try clear hx158_0
           try clear hx158_1
           try clear hx158_2
           try clear hx158_3
           try clear hx158_4
           try clear hx158_5
           try clear hx158_6
           try clear hx158_7
           try clear hx158_8
           try clear p1
           try clear p15
           try clear p154
           try clear p156
           try clear p158
           try clear p2
           try clear p6
           try clear q1
           try clear q15
           try clear q154
           try clear q156
           try clear q158
           obtain ⟨x6_4, rfl, HA, HK4, HO_5, BK150, HB⟩ := hrel
           cases gk with
           | zero => exact absurd HA.out (by simp [spec_GraphRight.l2])
           | succ k4 =>
            have H := HA.out; clear HA; simp only [spec_GraphRight.l2] at H; by_cases c46 : x6_4 < (t160.length : Int)
            ·
             rw [if_pos c46] at H; have c46b0 : decide (x6_4 < (t160.length : Int)) = true := decide_eq_true c46; clear c46; by_cases c47 : 0 ≤ x6_4
             ·
              rw [if_pos c47] at H; have c47b0 : decide (0 ≤ x6_4) = true := decide_eq_true c47; clear c47; by_cases c48 : (rd t160 x6_4) = 0
              ·
               rw [if_pos c48] at H; have c48b0 : ((rd t160 x6_4) == 0) = true := beq_iff_eq.mpr c48; have c48b1 : ((rd t160 x6_4) != 0) = false := bne_eq_false_iff_eq.mpr c48; clear c48; obtain rfl := Option.some.inj H; obtain ⟨Ao49, co49, eo49⟩ := Kd.R_slice HO_5.out; subst eo49; have p163 : 0 ≤ (x6_4 : Int) := d_; have q163 : x6_4 < (t160.length : Int) := d_; obtain ⟨ad163, e163, hx163_0⟩ := Kd.at_int (Kd.R_reads' HO_5.out).2.2 x6_4 p163 q163; cases e163; replace p163 := eq_true p163; replace q163 := eq_true q163; go_wp2
               go_ret
               exact ⟨a2_, (a3_ HB.out GE150.out)⟩
              ·
               rw [if_neg c48] at H; have c48b0 : ((rd t160 x6_4) == 0) = false := beq_eq_false_iff_ne.mpr c48; have c48b1 : ((rd t160 x6_4) != 0) = true := bne_iff_ne.mpr c48; have H' := Aside0.mk H; clear H; obtain ⟨Ao50, co50, eo50⟩ := Kd.R_slice HO_5.out; subst eo50; have p163 : 0 ≤ (x6_4 : Int) := d_; have q163 : x6_4 < (t160.length : Int) := d_; obtain ⟨ad163, e163, hx163_0⟩ := Kd.at_int (Kd.R_reads' HO_5.out).2.2 x6_4 p163 q163; cases e163; replace p163 := eq_true p163; replace q163 := eq_true q163; go_wp2
               go_roundg k4
               case measure => have := HJ1.out; have := HK2.out; have := HK3.out; have := HK4.out; omega
               case rel => exact ⟨(wrap64 (x6_4 + 1)), (by first | rfl | (simp; done) | (simp [*]; done)), H', ⟨by have := HJ1.out; have := HK2.out; have := HK3.out; have := HK4.out; omega⟩, ⟨(a7_ HO_5.out)⟩, ⟨(a4_ BK150.out)⟩, ⟨(a3_ HB.out GE150.out)⟩⟩
             ·
              rw [if_neg c47] at H; exact absurd H (by simp)
            ·
             rw [if_neg c46] at H; have c46b0 : decide (x6_4 < (t160.length : Int)) = false := decide_eq_false c46; clear c46; obtain rfl := Option.some.inj H; obtain ⟨Ao51, co51, eo51⟩ := Kd.R_slice HO_5.out; subst eo51; go_wp2
             go_ret
             exact ⟨a2_, (a3_ HB.out GE150.out)⟩

end Go.Proofs.Ytpkeddplfnannaa.Print
