-- Printed by wip/myprint.py over the kit's print, in this session's own call.
import Derived.Test.YtkhidbahbcfkbaaPrint0
import Derived.Test.YtkhidbahbcfkbaaPrint2
import Derived.Test.YtkhidbahbcfkbaaPrint5
import Derived.Test.YtkhidbahbcfkbaaPrint6
import Derived.Test.YtkhidbahbcfkbaaPrint7
namespace Go.Proofs.Ytkhidbahbcfkbaa.Print
open Go.RowKit Go.Proofs.YtkhidbahbcfkbaaW.PrintWords Go.Proofs.YtkhidbahbcfkbaaW.PrintLast Go.Proofs.YtkhidbahbcfkbaaW.PrintMore
attribute [local go_sem] max2_int min2_int max_two min_two max_three min_three max_four min_four   -- for this text's walks alone
set_option linter.unusedVariables false
set_option linter.unusedSimpArgs false

/-! ### spec_GraphRight: function 7 -/
mutual
def spec_GraphRight.j0 : Nat → Bool → Int → List (S43) → List (S43) → Option (Bool)
  | 0, _, _, _, _ => none
  | k + 1, x26, x199000, x199001, x199002 => if x26 = true then (some false) else (spec_GraphRight.l0 k 0 x199000 x199001 x199002)
def spec_GraphRight.l0 : Nat → Int → Int → List (S43) → List (S43) → Option (Bool)
  | 0, _, _, _, _ => none
  | k + 1, x3, x199000, x199001, x199002 => if x3 < (x199001.length : Int) then (if 0 ≤ x3 then ((spec_l03All.f k x199001 ((rd_T43 x199001 x3).f0) ((rd_T43 x199001 x3).f1) ((rd_T43 x199001 x3).f2) ((rd_T43 x199001 x3).f3) ((rd_T43 x199001 x3).f4) ((rd_T43 x199001 x3).f5) ((rd_T43 x199001 x3).f6) ((rd_T43 x199001 x3).f7) ((rd_T43 x199001 x3).f8)).bind fun t203 => (if t203 = true then ((spec_l03At.f k x199002 ((rd_T43 x199001 x3).f0)).bind fun t205 => (if t205 ≥ 0 then (some false) else (spec_GraphRight.l0 k (wrap64 (x3 + 1)) x199000 x199001 x199002))) else (some false))) else (none)) else (spec_GraphRight.l1 k 0 x199000 x199001 x199002)
def spec_GraphRight.l1 : Nat → Int → Int → List (S43) → List (S43) → Option (Bool)
  | 0, _, _, _, _ => none
  | k + 1, x4, x199000, x199001, x199002 => if x4 < (x199002.length : Int) then (if 0 ≤ x4 then ((spec_l03All.f k x199001 ((rd_T43 x199002 x4).f0) ((rd_T43 x199002 x4).f1) ((rd_T43 x199002 x4).f2) ((rd_T43 x199002 x4).f3) ((rd_T43 x199002 x4).f4) ((rd_T43 x199002 x4).f5) ((rd_T43 x199002 x4).f6) ((rd_T43 x199002 x4).f7) ((rd_T43 x199002 x4).f8)).bind fun t207 => (if t207 = true then (some false) else (spec_GraphRight.l1 k (wrap64 (x4 + 1)) x199000 x199001 x199002))) else (none)) else ((spec_l03Depths.f k x199001).bind fun t208 => (spec_GraphRight.l2 k t208 0))
def spec_GraphRight.l2 : Nat → List Int → Int → Option (Bool)
  | 0, _, _ => none
  | k + 1, x5, x6 => if x6 < (x5.length : Int) then (if 0 ≤ x6 then (if (rd x5 x6) = 0 then (some false) else (spec_GraphRight.l2 k x5 (wrap64 (x6 + 1)))) else (none)) else (some true)
end
def spec_GraphRight.f (k : Nat) (a0_0 : Int) (l0_1 : List (S43)) (l0_2 : List (S43)) : Option (Bool) := (spec_l02Is.f a0_0 1 3).bind fun t199 => (if t199 = true then ((spec_l03Row.f k l0_1 a0_0 60).bind fun t200 => (if t200 = true then ((spec_l03Row.f k l0_2 a0_0 20).bind fun t201 => (spec_GraphRight.j0 k (!t201) a0_0 l0_1 l0_2)) else (spec_GraphRight.j0 k true a0_0 l0_1 l0_2))) else (spec_GraphRight.j0 k true a0_0 l0_1 l0_2))
theorem spec_GraphRight.mono_l : ∀ k, (∀ y0 y1 y2 y3, LeO (spec_GraphRight.j0 k y0 y1 y2 y3) (spec_GraphRight.j0 (k + 1) y0 y1 y2 y3)) ∧ (∀ y0 y1 y2 y3, LeO (spec_GraphRight.l0 k y0 y1 y2 y3) (spec_GraphRight.l0 (k + 1) y0 y1 y2 y3)) ∧ (∀ y0 y1 y2 y3, LeO (spec_GraphRight.l1 k y0 y1 y2 y3) (spec_GraphRight.l1 (k + 1) y0 y1 y2 y3)) ∧ (∀ y0 y1, LeO (spec_GraphRight.l2 k y0 y1) (spec_GraphRight.l2 (k + 1) y0 y1))
  | 0 => ⟨fun _ _ _ _ r h => by simp [spec_GraphRight.j0] at h, fun _ _ _ _ r h => by simp [spec_GraphRight.l0] at h, fun _ _ _ _ r h => by simp [spec_GraphRight.l1] at h, fun _ _ r h => by simp [spec_GraphRight.l2] at h⟩
  | k + 1 => by
    obtain ⟨ih0, ih1, ih2, ih3⟩ := spec_GraphRight.mono_l k
    refine ⟨?_, ?_, ?_, ?_⟩
    · intro y0 y1 y2 y3
      unfold spec_GraphRight.j0
      repeat' first
      | (with_reducible exact ih0 _ _ _ _)
      | (with_reducible exact ih1 _ _ _ _)
      | (with_reducible exact ih2 _ _ _ _)
      | (with_reducible exact ih3 _ _)
      | (with_reducible exact spec_l03All.mono _ _ _ _ _ _ _ _ _ _ _)
      | (with_reducible exact spec_l03At.mono _ _ _)
      | (with_reducible exact spec_l03Depths.mono _ _)
      | (with_reducible exact spec_l03Row.mono _ _ _ _)
      | (with_reducible exact LeO.refl _)
      | (with_reducible exact LeO.none _)
      | (with_reducible refine LeO.ite ?_ ?_)
      | (with_reducible refine LeO.bind ?_ (fun _ => ?_))
      | exact ih0 _ _ _ _
      | exact ih1 _ _ _ _
      | exact ih2 _ _ _ _
      | exact ih3 _ _
      | exact spec_l03All.mono _ _ _ _ _ _ _ _ _ _ _
      | exact spec_l03At.mono _ _ _
      | exact spec_l03Depths.mono _ _
      | exact spec_l03Row.mono _ _ _ _
      | exact LeO.none _
      | refine LeO.ite ?_ ?_
      | refine LeO.bind ?_ (fun _ => ?_)
    · intro y0 y1 y2 y3
      unfold spec_GraphRight.l0
      repeat' first
      | (with_reducible exact ih0 _ _ _ _)
      | (with_reducible exact ih1 _ _ _ _)
      | (with_reducible exact ih2 _ _ _ _)
      | (with_reducible exact ih3 _ _)
      | (with_reducible exact spec_l03All.mono _ _ _ _ _ _ _ _ _ _ _)
      | (with_reducible exact spec_l03At.mono _ _ _)
      | (with_reducible exact spec_l03Depths.mono _ _)
      | (with_reducible exact spec_l03Row.mono _ _ _ _)
      | (with_reducible exact LeO.refl _)
      | (with_reducible exact LeO.none _)
      | (with_reducible refine LeO.ite ?_ ?_)
      | (with_reducible refine LeO.bind ?_ (fun _ => ?_))
      | exact ih0 _ _ _ _
      | exact ih1 _ _ _ _
      | exact ih2 _ _ _ _
      | exact ih3 _ _
      | exact spec_l03All.mono _ _ _ _ _ _ _ _ _ _ _
      | exact spec_l03At.mono _ _ _
      | exact spec_l03Depths.mono _ _
      | exact spec_l03Row.mono _ _ _ _
      | exact LeO.none _
      | refine LeO.ite ?_ ?_
      | refine LeO.bind ?_ (fun _ => ?_)
    · intro y0 y1 y2 y3
      unfold spec_GraphRight.l1
      repeat' first
      | (with_reducible exact ih0 _ _ _ _)
      | (with_reducible exact ih1 _ _ _ _)
      | (with_reducible exact ih2 _ _ _ _)
      | (with_reducible exact ih3 _ _)
      | (with_reducible exact spec_l03All.mono _ _ _ _ _ _ _ _ _ _ _)
      | (with_reducible exact spec_l03At.mono _ _ _)
      | (with_reducible exact spec_l03Depths.mono _ _)
      | (with_reducible exact spec_l03Row.mono _ _ _ _)
      | (with_reducible exact LeO.refl _)
      | (with_reducible exact LeO.none _)
      | (with_reducible refine LeO.ite ?_ ?_)
      | (with_reducible refine LeO.bind ?_ (fun _ => ?_))
      | exact ih0 _ _ _ _
      | exact ih1 _ _ _ _
      | exact ih2 _ _ _ _
      | exact ih3 _ _
      | exact spec_l03All.mono _ _ _ _ _ _ _ _ _ _ _
      | exact spec_l03At.mono _ _ _
      | exact spec_l03Depths.mono _ _
      | exact spec_l03Row.mono _ _ _ _
      | exact LeO.none _
      | refine LeO.ite ?_ ?_
      | refine LeO.bind ?_ (fun _ => ?_)
    · intro y0 y1
      unfold spec_GraphRight.l2
      repeat' first
      | (with_reducible exact ih0 _ _ _ _)
      | (with_reducible exact ih1 _ _ _ _)
      | (with_reducible exact ih2 _ _ _ _)
      | (with_reducible exact ih3 _ _)
      | (with_reducible exact spec_l03All.mono _ _ _ _ _ _ _ _ _ _ _)
      | (with_reducible exact spec_l03At.mono _ _ _)
      | (with_reducible exact spec_l03Depths.mono _ _)
      | (with_reducible exact spec_l03Row.mono _ _ _ _)
      | (with_reducible exact LeO.refl _)
      | (with_reducible exact LeO.none _)
      | (with_reducible refine LeO.ite ?_ ?_)
      | (with_reducible refine LeO.bind ?_ (fun _ => ?_))
      | exact ih0 _ _ _ _
      | exact ih1 _ _ _ _
      | exact ih2 _ _ _ _
      | exact ih3 _ _
      | exact spec_l03All.mono _ _ _ _ _ _ _ _ _ _ _
      | exact spec_l03At.mono _ _ _
      | exact spec_l03Depths.mono _ _
      | exact spec_l03Row.mono _ _ _ _
      | exact LeO.none _
      | refine LeO.ite ?_ ?_
      | refine LeO.bind ?_ (fun _ => ?_)
theorem spec_GraphRight.mono : ∀ a0 a1 a2 k, LeO (spec_GraphRight.f k a0 a1 a2) (spec_GraphRight.f (k + 1) a0 a1 a2) := by
  intro a0 a1 a2 k
  obtain ⟨ih0, ih1, ih2, ih3⟩ := spec_GraphRight.mono_l k
  unfold spec_GraphRight.f
  repeat' first
      | (with_reducible exact ih0 _ _ _ _)
      | (with_reducible exact ih1 _ _ _ _)
      | (with_reducible exact ih2 _ _ _ _)
      | (with_reducible exact ih3 _ _)
      | (with_reducible exact spec_l03All.mono _ _ _ _ _ _ _ _ _ _ _)
      | (with_reducible exact spec_l03At.mono _ _ _)
      | (with_reducible exact spec_l03Depths.mono _ _)
      | (with_reducible exact spec_l03Row.mono _ _ _ _)
      | (with_reducible exact LeO.refl _)
      | (with_reducible exact LeO.none _)
      | (with_reducible refine LeO.ite ?_ ?_)
      | (with_reducible refine LeO.bind ?_ (fun _ => ?_))
      | exact ih0 _ _ _ _
      | exact ih1 _ _ _ _
      | exact ih2 _ _ _ _
      | exact ih3 _ _
      | exact spec_l03All.mono _ _ _ _ _ _ _ _ _ _ _
      | exact spec_l03At.mono _ _ _
      | exact spec_l03Depths.mono _ _
      | exact spec_l03Row.mono _ _ _ _
      | exact LeO.none _
      | refine LeO.ite ?_ ?_
      | refine LeO.bind ?_ (fun _ => ?_)
def spec_GraphRight.T6 : Bool × List (List Nat × List Nat) := (true, [([], []), ([0], [0]), ([], []), ([2], [2]), ([], []), ([3, 4], [3, 4]), ([5], [5]), ([1, 6], [1, 6]), ([7], [7]), ([8, 7], [8]), ([9], [9]), ([10, 9], [9, 10]), ([9], [9]), ([12, 9], [9, 12]), ([9], [9]), ([13, 14, 9], [9, 13, 14]), ([15, 9], [9, 15]), ([16, 9], [9, 16]), ([11, 17, 9, 9], [9, 11, 17]), ([18, 9], [9, 18]), ([9, 19], [9, 19])])
def spec_GraphRight.B6 : List Nat := [0, 1, 0, 4, 0, 28, 60, 127, 255, 511, 1023, 2047, 1023, 5119, 1023, 29695, 62463, 127999, 262143, 524287, 1048575]
theorem spec_GraphRight.tab6 : rtab .any (opsOf Try.f7 6) = spec_GraphRight.T6 := by kernel_rfl
theorem spec_GraphRight.bits6 : waitsOk spec_GraphRight.T6.2 spec_GraphRight.B6 = true := by kernel_rfl
def spec_GraphRight.T11 : Bool × List (List Nat × List Nat) := (true, [([], []), ([0], [0]), ([], []), ([2], [2]), ([], []), ([3, 4], [3, 4]), ([5], [5]), ([1, 6], [1, 6])])
def spec_GraphRight.B11 : List Nat := [0, 1, 0, 4, 0, 28, 60, 127]
theorem spec_GraphRight.tab11 : rtab .any (opsOf Try.f7 11) = spec_GraphRight.T11 := by kernel_rfl
theorem spec_GraphRight.bits11 : waitsOk spec_GraphRight.T11.2 spec_GraphRight.B11 = true := by kernel_rfl
set_option maxHeartbeats 8000000 in
set_option maxRecDepth 100000 in
theorem spec_GraphRight.calls (k : Nat) (a0_0 : Int) (A0_1 : Option Addr) (c0_1 : Nat) (l0_1 : List (S43)) (A0_2 : Option Addr) (c0_2 : Nat) (l0_2 : List (S43)) (r : Bool) (w : World) (hr0_1 : Kd.C k43 w A0_1 l0_1.length l0_1) (hc0_1 : l0_1.length ≤ c0_1) (hr0_2 : Kd.C k43 w A0_2 l0_2.length l0_2) (hc0_2 : l0_2.length ≤ c0_2) (h : spec_GraphRight.f k a0_0 l0_1 l0_2 = some r) :
    Calls Try.prog 7 #[.agg #[.int .i64 a0_0, .slice A0_1 l0_1.length c0_1, .slice A0_2 l0_2.length c0_2]] w fun e w' => e = .returned (.bool r) ∧ Below w.heap.size w w' := by
 have hu29 := Try.underlying29
 have hu43 := Try.underlying43
 have HR0_1 := Aside0.mk hr0_1
 have HC0_1 := Aside0.mk hc0_1
 clear hr0_1 hc0_1
 have HR0_2 := Aside0.mk hr0_2
 have HC0_2 := Aside0.mk hc0_2
 clear hr0_2 hc0_2
 have HB := Aside0.mk (Below.refl w.heap.size w)
 have H : ((spec_l02Is.f a0_0 1 3).bind fun t199 => (if t199 = true then ((spec_l03Row.f k l0_1 a0_0 60).bind fun t200 => (if t200 = true then ((spec_l03Row.f k l0_2 a0_0 20).bind fun t201 => (spec_GraphRight.j0 k (!t201) a0_0 l0_1 l0_2)) else (spec_GraphRight.j0 k true a0_0 l0_1 l0_2))) else (spec_GraphRight.j0 k true a0_0 l0_1 l0_2))) = some r := h
 clear h
 have HC2 := Aside0.mk H
 clear H
 go_enter Try.func7, Try.ntmps7
 go_upto_region 1 with (first | ((with_reducible refine gate_dst (N := 1) rfl ?_); refine box_event ?hg (N := 1) ?hd (cs := #[.int .i64 a0_0, .slice A0_1 l0_1.length c0_1, .slice A0_2 l0_2.length c0_2]) (t := 29) ?hr ?_; (case hd => rfl); (case hg => rfl); (case hr => first | (go_simp; done) | (go_simp; rfl)); intro gb198 hg w3 hbox hb; have n0_ := Aside0.mk (below_step (a1_ HB.out) hb); have n1_ := Aside0.mk (hbox); have n2_ := Aside0.mk ((by rw [hg]; exact (below_size (a1_ HB.out)) : w.heap.size ≤ gb198)); have n3_ := Aside0.mk ((by rw [hg]; exact (below_size (a1_ HB.out)) : w.heap.size ≤ gb198)); clear HB; have HB := n0_; have BK198 := n1_; have GW198 := n2_; have GE198 := n3_; clear n0_ n1_ n2_ n3_; clear hb hbox hg))
 (try simp only [Act.put, lS, l0_, l1_])
 go_cut [26] (fun v26 wc => ∃ (kq : Nat) (x26_1 : Bool), v26 = .bool x26_1 ∧ Aside0 (spec_GraphRight.j0 kq x26_1 a0_0 l0_1 l0_2 = some r) ∧ Aside0 (kq ≤ k) ∧ Aside0 (wc.heap[gb198]? = some (.cells #[.int .i64 a0_0, (.slice A0_1 l0_1.length c0_1), (.slice A0_2 l0_2.length c0_2)] 29 (0, 0))) ∧ Aside0 (Below w.heap.size w wc))
 case first =>
  have H := HC2.out
  clear HC2
  replace H := Option.bind_eq_some_iff.mp H
  obtain ⟨t199, A40, H⟩ := H
  replace H : (if t199 = true then ((spec_l03Row.f k l0_1 a0_0 60).bind fun t200 => (if t200 = true then ((spec_l03Row.f k l0_2 a0_0 20).bind fun t201 => (spec_GraphRight.j0 k (!t201) a0_0 l0_1 l0_2)) else (spec_GraphRight.j0 k true a0_0 l0_1 l0_2))) else (spec_GraphRight.j0 k true a0_0 l0_1 l0_2)) = some r := H
  have A4 := Aside0.mk A40
  clear A40
  by_cases c5 : t199 = true
  ·
   subst c5
   have H1 : ((spec_l03Row.f k l0_1 a0_0 60).bind fun t200 => (if t200 = true then ((spec_l03Row.f k l0_2 a0_0 20).bind fun t201 => (spec_GraphRight.j0 k (!t201) a0_0 l0_1 l0_2)) else (spec_GraphRight.j0 k true a0_0 l0_1 l0_2))) = some r := by rw [if_pos rfl] at H; exact H
   clear H
   have H := H1
   clear H1
   replace H := Option.bind_eq_some_iff.mp H
   obtain ⟨t200, A60, H⟩ := H
   replace H : (if t200 = true then ((spec_l03Row.f k l0_2 a0_0 20).bind fun t201 => (spec_GraphRight.j0 k (!t201) a0_0 l0_1 l0_2)) else (spec_GraphRight.j0 k true a0_0 l0_1 l0_2)) = some r := H
   have A6 := Aside0.mk A60
   clear A60
   by_cases c7 : t200 = true
   ·
    subst c7
    have H1 : ((spec_l03Row.f k l0_2 a0_0 20).bind fun t201 => (spec_GraphRight.j0 k (!t201) a0_0 l0_1 l0_2)) = some r := by rw [if_pos rfl] at H; exact H
    clear H
    have H := H1
    clear H1
    replace H := Option.bind_eq_some_iff.mp H
    obtain ⟨t201, A80, H⟩ := H
    replace H : (spec_GraphRight.j0 k (!t201) a0_0 l0_1 l0_2) = some r := H
    have A8 := Aside0.mk A80
    clear A80
    have H' := Aside0.mk H
    clear H
    obtain ⟨⟨hcz9_0, hcz9_1, hcz9_2⟩, hfz9_0, hfz9_1, hfz9_2⟩ := cells_3 BK198.out
    go_wp2_with (first | ((with_reducible refine gate_callee (f := 16) rfl ?_); refine goesL_ (some 9) rfl rfl Try.func16 (by kernel_rfl) rfl #[.int .i64 a0_0, .int .i64 1, .int .i64 3] rfl (by (try simp only [List.map_toArray, List.map_cons, List.map_nil]); first | done | rfl | (simp only [List.length_drop, List.length_take]; rfl)) ?_; (with_reducible refine (spec_l02Is.calls a0_0 1 3 true _ A4.out).mono ?_); rintro e w' ⟨rfl, ⟨nd, rfl⟩⟩; refine ⟨_, rfl, ?_⟩) | (go_at_call 17; (with_reducible refine (spec_l03Row.calls k _ _ l0_1 a0_0 60 true _ ?side1 ?side2 A6.out).mono ?_); (case side1 => repeat (first | exact (Kd.C_below HR0_1.out (a3_ HB.out GE198.out)) | (with_reducible refine Kd.C_alloc ?_ _) | (with_reducible refine Kd.C_drewN ?_ _) | (with_reducible refine Kd.C_drew ?_))); (case side2 => exact HC0_1.out); rintro e w10 ⟨rfl, hb⟩; have n0_ := Aside0.mk (blk_below (g := gb198) (o := .cells #[.int .i64 a0_0, .slice A0_1 l0_1.length c0_1, .slice A0_2 l0_2.length c0_2] 29 (0, 0)) (a5_ BK198.out) hb); have n1_ := Aside0.mk (below_step (a3_ HB.out GE198.out) hb); clear BK198; clear HB; have BK198 := n0_; have HB := n1_; clear n0_ n1_; (try clear hb); (try clear hb2); (try clear hk); (try clear hi); obtain ⟨⟨hcz11_0, hcz11_1, hcz11_2⟩, hfz11_0, hfz11_1, hfz11_2⟩ := cells_3 BK198.out) | (go_at_call 17; (with_reducible refine (spec_l03Row.calls k _ _ l0_2 a0_0 20 t201 _ ?side1 ?side2 A8.out).mono ?_); (case side1 => repeat (first | exact (Kd.C_below HR0_2.out HB.out) | (with_reducible refine Kd.C_alloc ?_ _) | (with_reducible refine Kd.C_drewN ?_ _) | (with_reducible refine Kd.C_drew ?_))); (case side2 => exact HC0_2.out); rintro e w12 ⟨rfl, hb⟩; have n0_ := Aside0.mk (blk_below (g := gb198) (o := .cells #[.int .i64 a0_0, .slice A0_1 l0_1.length c0_1, .slice A0_2 l0_2.length c0_2] 29 (0, 0)) (a5_ BK198.out) hb); have n1_ := Aside0.mk (below_step (a3_ HB.out GE198.out) hb); clear BK198; clear HB; have BK198 := n0_; have HB := n1_; clear n0_ n1_; (try clear hb); (try clear hb2); (try clear hk); (try clear hi)))
    go_meet
    case rel => exact ⟨_, (!t201), (by first | rfl | (simp; done) | (simp [*]; done)), H', ⟨by first | omega | exact Nat.le_refl _⟩, ⟨(a5_ BK198.out)⟩, ⟨(a3_ HB.out GE198.out)⟩⟩
   ·
    replace c7 := Bool.eq_false_iff.mpr c7
    subst c7
    have H1 : (spec_GraphRight.j0 k true a0_0 l0_1 l0_2) = some r := by rw [if_neg (show ¬ (false = true) by decide)] at H; exact H
    clear H
    have H := H1
    clear H1
    have H' := Aside0.mk H
    clear H
    obtain ⟨⟨hcz13_0, hcz13_1, hcz13_2⟩, hfz13_0, hfz13_1, hfz13_2⟩ := cells_3 BK198.out
    go_wp2_with (first | ((with_reducible refine gate_callee (f := 16) rfl ?_); refine goesL_ (some 9) rfl rfl Try.func16 (by kernel_rfl) rfl #[.int .i64 a0_0, .int .i64 1, .int .i64 3] rfl (by (try simp only [List.map_toArray, List.map_cons, List.map_nil]); first | done | rfl | (simp only [List.length_drop, List.length_take]; rfl)) ?_; (with_reducible refine (spec_l02Is.calls a0_0 1 3 true _ A4.out).mono ?_); rintro e w' ⟨rfl, ⟨nd, rfl⟩⟩; refine ⟨_, rfl, ?_⟩) | (go_at_call 17; (with_reducible refine (spec_l03Row.calls k _ _ l0_1 a0_0 60 false _ ?side1 ?side2 A6.out).mono ?_); (case side1 => repeat (first | exact (Kd.C_below HR0_1.out (a3_ HB.out GE198.out)) | (with_reducible refine Kd.C_alloc ?_ _) | (with_reducible refine Kd.C_drewN ?_ _) | (with_reducible refine Kd.C_drew ?_))); (case side2 => exact HC0_1.out); rintro e w14 ⟨rfl, hb⟩; have n0_ := Aside0.mk (blk_below (g := gb198) (o := .cells #[.int .i64 a0_0, .slice A0_1 l0_1.length c0_1, .slice A0_2 l0_2.length c0_2] 29 (0, 0)) (a5_ BK198.out) hb); have n1_ := Aside0.mk (below_step (a3_ HB.out GE198.out) hb); clear BK198; clear HB; have BK198 := n0_; have HB := n1_; clear n0_ n1_; (try clear hb); (try clear hb2); (try clear hk); (try clear hi)))
    go_meet
    case rel => exact ⟨_, (true), (by first | rfl | (simp; done) | (simp [*]; done)), H', ⟨by first | omega | exact Nat.le_refl _⟩, ⟨(a5_ BK198.out)⟩, ⟨(a3_ HB.out GE198.out)⟩⟩
  ·
   replace c5 := Bool.eq_false_iff.mpr c5
   subst c5
   have H1 : (spec_GraphRight.j0 k true a0_0 l0_1 l0_2) = some r := by rw [if_neg (show ¬ (false = true) by decide)] at H; exact H
   clear H
   have H := H1
   clear H1
   have H' := Aside0.mk H
   clear H
   obtain ⟨⟨hcz15_0, hcz15_1, hcz15_2⟩, hfz15_0, hfz15_1, hfz15_2⟩ := cells_3 BK198.out
   go_wp2_with (first | ((with_reducible refine gate_callee (f := 16) rfl ?_); refine goesL_ (some 9) rfl rfl Try.func16 (by kernel_rfl) rfl #[.int .i64 a0_0, .int .i64 1, .int .i64 3] rfl (by (try simp only [List.map_toArray, List.map_cons, List.map_nil]); first | done | rfl | (simp only [List.length_drop, List.length_take]; rfl)) ?_; (with_reducible refine (spec_l02Is.calls a0_0 1 3 false _ A4.out).mono ?_); rintro e w' ⟨rfl, ⟨nd, rfl⟩⟩; refine ⟨_, rfl, ?_⟩))
   go_meet
   case rel => exact ⟨_, (true), (by first | rfl | (simp; done) | (simp [*]; done)), H', ⟨by first | omega | exact Nat.le_refl _⟩, ⟨(a5_ BK198.out)⟩, ⟨(a3_ HB.out GE198.out)⟩⟩
 case rest =>
  clear HC2
  try clear c1
  try clear p2
  try clear c5
  try clear c7
  try clear hcz11_0
  try clear hcz11_1
  try clear hcz11_2
  try clear hcz13_0
  try clear hcz13_1
  try clear hcz13_2
  try clear hcz15_0
  try clear hcz15_1
  try clear hcz15_2
  try clear hcz9_0
  try clear hcz9_1
  try clear hcz9_2
  try clear hfz11_0
  try clear hfz11_1
  try clear hfz11_2
  try clear hfz13_0
  try clear hfz13_1
  try clear hfz13_2
  try clear hfz15_0
  try clear hfz15_1
  try clear hfz15_2
  try clear hfz9_0
  try clear hfz9_1
  try clear hfz9_2
  obtain ⟨kq, x26_1, rfl, HA, HJ1, BK198, HB⟩ := hcut
  cases kq with
  | zero => exact absurd HA.out (by simp [spec_GraphRight.j0])
  | succ kj1 =>
   have H := HA.out
   clear HA
   simp only [spec_GraphRight.j0] at H
   by_cases c16 : x26_1 = true
   ·
    subst c16
    have H1 : (some false) = some r := by rw [if_pos rfl] at H; exact H
    clear H
    have H := H1
    clear H1
    obtain rfl := Option.some.inj H
    go_wp2
    go_ret
    exact ⟨a2_, (a3_ HB.out GE198.out)⟩
   ·
    replace c16 := Bool.eq_false_iff.mpr c16
    subst c16
    have H1 : (spec_GraphRight.l0 kj1 0 a0_0 l0_1 l0_2) = some r := by rw [if_neg (show ¬ (false = true) by decide)] at H; exact H
    clear H
    have H := H1
    clear H1
    have H' := Aside0.mk H
    clear H
    go_wp2
    go_loopg [3] kj1 (fun kq v3 w' => ∃ (x3_2 : Int), v3 = .int .i64 x3_2 ∧ Aside0 (spec_GraphRight.l0 kq x3_2 a0_0 l0_1 l0_2 = some r) ∧ Aside0 (kq ≤ kj1) ∧ Aside0 (w'.heap[gb198]? = some (.cells #[.int .i64 a0_0, (.slice A0_1 l0_1.length c0_1), (.slice A0_2 l0_2.length c0_2)] 29 (0, 0))) ∧ Aside0 (Below w.heap.size w w'))
    case atStart => exact ⟨(0), (by first | rfl | (simp; done) | (simp [*]; done)), H', ⟨Nat.le_refl _⟩, ⟨(a5_ BK198.out)⟩, ⟨(a3_ HB.out GE198.out)⟩⟩
    case round =>
     clear H'
     try clear c1
     try clear p2
     try clear c5
     try clear c7
     try clear c16
     try clear hcz11_0
     try clear hcz11_1
     try clear hcz11_2
     try clear hcz13_0
     try clear hcz13_1
     try clear hcz13_2
     try clear hcz15_0
     try clear hcz15_1
     try clear hcz15_2
     try clear hcz9_0
     try clear hcz9_1
     try clear hcz9_2
     try clear hfz11_0
     try clear hfz11_1
     try clear hfz11_2
     try clear hfz13_0
     try clear hfz13_1
     try clear hfz13_2
     try clear hfz15_0
     try clear hfz15_1
     try clear hfz15_2
     try clear hfz9_0
     try clear hfz9_1
     try clear hfz9_2
     try clear p2
     obtain ⟨x3_2, rfl, HA, HK2, BK198, HB⟩ := hrel
     cases gk with
     | zero => exact absurd HA.out (by simp [spec_GraphRight.l0])
     | succ k2 =>
      have H := HA.out
      clear HA
      simp only [spec_GraphRight.l0] at H
      by_cases c17 : x3_2 < (l0_1.length : Int)
      ·
       rw [if_pos c17] at H
       have c17b0 : decide (x3_2 < (l0_1.length : Int)) = true := decide_eq_true c17
       clear c17
       by_cases c18 : 0 ≤ x3_2
       ·
        rw [if_pos c18] at H
        have c18b0 : decide (0 ≤ x3_2) = true := decide_eq_true c18
        clear c18
        replace H := Option.bind_eq_some_iff.mp H
        obtain ⟨t203, A190, H⟩ := H
        replace H : (if t203 = true then ((spec_l03At.f k2 l0_2 ((rd_T43 l0_1 x3_2).f0)).bind fun t205 => (if t205 ≥ 0 then (some false) else (spec_GraphRight.l0 k2 (wrap64 (x3_2 + 1)) a0_0 l0_1 l0_2))) else (some false)) = some r := H
        have A19 := Aside0.mk A190
        clear A190
        by_cases c20 : t203 = true
        ·
         subst c20
         have H1 : ((spec_l03At.f k2 l0_2 ((rd_T43 l0_1 x3_2).f0)).bind fun t205 => (if t205 ≥ 0 then (some false) else (spec_GraphRight.l0 k2 (wrap64 (x3_2 + 1)) a0_0 l0_1 l0_2))) = some r := by rw [if_pos rfl] at H; exact H
         clear H
         have H := H1
         clear H1
         replace H := Option.bind_eq_some_iff.mp H
         obtain ⟨t205, A210, H⟩ := H
         replace H : (if t205 ≥ 0 then (some false) else (spec_GraphRight.l0 k2 (wrap64 (x3_2 + 1)) a0_0 l0_1 l0_2)) = some r := H
         have A21 := Aside0.mk A210
         clear A210
         by_cases c22 : t205 ≥ 0
         ·
          rw [if_pos c22] at H
          have c22b0 : decide (0 ≤ t205) = true := decide_eq_true c22
          clear c22
          obtain rfl := Option.some.inj H
          obtain ⟨⟨hcz23_0, hcz23_1, hcz23_2⟩, hfz23_0, hfz23_1, hfz23_2⟩ := cells_3 BK198.out
          try go_wp2
          have n0_ := Aside0.mk (blk_drew BK198.out)
          have n1_ := Aside0.mk (below_drew1 HB.out)
          clear BK198
          clear HB
          have BK198 := n0_
          have HB := n1_
          clear n0_ n1_
          have p202 : 0 ≤ (x3_2 : Int) := of_decide_eq_true (by first | (with_reducible assumption) | assumption)
          have q202 : x3_2 < (l0_1.length : Int) := of_decide_eq_true (by first | (with_reducible assumption) | assumption)
          obtain ⟨ad202, A202_7, c202_7, e202, hx202_0, hx202_1, hx202_2, hx202_3, hx202_4, hx202_5, hx202_6, hx202_7, hx202_8, hl202_7, hi202_7⟩ := at_T43 HR0_1.out x3_2 p202 q202
          have hw202_8 := hx202_8
          have hw202_7 := hx202_7
          have hw202_6 := hx202_6
          have hw202_5 := hx202_5
          have hw202_4 := hx202_4
          have hw202_3 := hx202_3
          have hw202_2 := hx202_2
          have hw202_1 := hx202_1
          have hw202_0 := hx202_0
          cases e202
          replace hx202_0 := ce_ HB.out hx202_0
          replace hx202_1 := ce_ HB.out hx202_1
          replace hx202_2 := ce_ HB.out hx202_2
          replace hx202_3 := ce_ HB.out hx202_3
          replace hx202_4 := ce_ HB.out hx202_4
          replace hx202_5 := ce_ HB.out hx202_5
          replace hx202_6 := ce_ HB.out hx202_6
          replace hx202_7 := ce_ HB.out hx202_7
          replace hx202_8 := ce_ HB.out hx202_8
          have HR202_7 := Aside0.mk hi202_7
          have HC202_7 := Aside0.mk hl202_7
          clear hi202_7 hl202_7
          replace p202 := eq_true p202
          replace q202 := eq_true q202
          have p204 : 0 ≤ (x3_2 : Int) := of_decide_eq_true (by first | (with_reducible assumption) | assumption)
          have q204 : x3_2 < (l0_1.length : Int) := of_decide_eq_true (by first | (with_reducible assumption) | assumption)
          obtain ⟨ad204, A204_7, c204_7, e204, hx204_0, hx204_1, hx204_2, hx204_3, hx204_4, hx204_5, hx204_6, hx204_7, hx204_8, hl204_7, hi204_7⟩ := at_T43 HR0_1.out x3_2 p204 q204
          have hw204_8 := hx204_8
          have hw204_7 := hx204_7
          have hw204_6 := hx204_6
          have hw204_5 := hx204_5
          have hw204_4 := hx204_4
          have hw204_3 := hx204_3
          have hw204_2 := hx204_2
          have hw204_1 := hx204_1
          have hw204_0 := hx204_0
          obtain rfl : ad202 = ad204 := (by injection e204)
          replace hx204_0 := ce_ HB.out hx204_0
          replace hx204_1 := ce_ HB.out hx204_1
          replace hx204_2 := ce_ HB.out hx204_2
          replace hx204_3 := ce_ HB.out hx204_3
          replace hx204_4 := ce_ HB.out hx204_4
          replace hx204_5 := ce_ HB.out hx204_5
          replace hx204_6 := ce_ HB.out hx204_6
          replace hx204_7 := ce_ HB.out hx204_7
          replace hx204_8 := ce_ HB.out hx204_8
          have HR204_7 := Aside0.mk hi204_7
          have HC204_7 := Aside0.mk hl204_7
          clear hi204_7 hl204_7
          replace p204 := eq_true p204
          replace q204 := eq_true q204
          refine start_ (n := 21) (S := fun w' => w'.cell? ⟨gb198, 0, none⟩ = some (.int .i64 a0_0) ∧ w'.cell? ⟨gb198, 1, none⟩ = some (.slice (some ad202) l0_1.length c0_1) ∧ w'.cell? ⟨gb198, 2, none⟩ = some (.slice A0_2 l0_2.length c0_2) ∧ w'.cell? (ad202.add ((x3_2).toNat * 9)) = some (.int .i64 ((rd_T43 l0_1 x3_2).f0)) ∧ w'.cell? ⟨(ad202.add ((x3_2).toNat * 9)).block, (ad202.add ((x3_2).toNat * 9)).off + 1, none⟩ = some (.int .i64 ((rd_T43 l0_1 x3_2).f1)) ∧ w'.cell? ⟨(ad202.add ((x3_2).toNat * 9)).block, (ad202.add ((x3_2).toNat * 9)).off + 2, none⟩ = some (.int .i64 ((rd_T43 l0_1 x3_2).f2)) ∧ w'.cell? ⟨(ad202.add ((x3_2).toNat * 9)).block, (ad202.add ((x3_2).toNat * 9)).off + 3, none⟩ = some (.int .i64 ((rd_T43 l0_1 x3_2).f3)) ∧ w'.cell? ⟨(ad202.add ((x3_2).toNat * 9)).block, (ad202.add ((x3_2).toNat * 9)).off + 4, none⟩ = some (.int .i64 ((rd_T43 l0_1 x3_2).f4)) ∧ w'.cell? ⟨(ad202.add ((x3_2).toNat * 9)).block, (ad202.add ((x3_2).toNat * 9)).off + 5, none⟩ = some (.int .i64 ((rd_T43 l0_1 x3_2).f5)) ∧ w'.cell? ⟨(ad202.add ((x3_2).toNat * 9)).block, (ad202.add ((x3_2).toNat * 9)).off + 6, none⟩ = some (.string ((rd_T43 l0_1 x3_2).f6)) ∧ w'.cell? ⟨(ad202.add ((x3_2).toNat * 9)).block, (ad202.add ((x3_2).toNat * 9)).off + 7, none⟩ = some (.slice A202_7 ((rd_T43 l0_1 x3_2).f7).length c202_7) ∧ w'.cell? ⟨(ad202.add ((x3_2).toNat * 9)).block, (ad202.add ((x3_2).toNat * 9)).off + 8, none⟩ = some (.int .i64 ((rd_T43 l0_1 x3_2).f8)) ∧ w'.cell? (ad202.add ((x3_2).toNat * 9)) = some (.int .i64 ((rd_T43 l0_1 x3_2).f0)) ∧ w'.cell? ⟨(ad202.add ((x3_2).toNat * 9)).block, (ad202.add ((x3_2).toNat * 9)).off + 1, none⟩ = some (.int .i64 ((rd_T43 l0_1 x3_2).f1)) ∧ w'.cell? ⟨(ad202.add ((x3_2).toNat * 9)).block, (ad202.add ((x3_2).toNat * 9)).off + 2, none⟩ = some (.int .i64 ((rd_T43 l0_1 x3_2).f2)) ∧ w'.cell? ⟨(ad202.add ((x3_2).toNat * 9)).block, (ad202.add ((x3_2).toNat * 9)).off + 3, none⟩ = some (.int .i64 ((rd_T43 l0_1 x3_2).f3)) ∧ w'.cell? ⟨(ad202.add ((x3_2).toNat * 9)).block, (ad202.add ((x3_2).toNat * 9)).off + 4, none⟩ = some (.int .i64 ((rd_T43 l0_1 x3_2).f4)) ∧ w'.cell? ⟨(ad202.add ((x3_2).toNat * 9)).block, (ad202.add ((x3_2).toNat * 9)).off + 5, none⟩ = some (.int .i64 ((rd_T43 l0_1 x3_2).f5)) ∧ w'.cell? ⟨(ad202.add ((x3_2).toNat * 9)).block, (ad202.add ((x3_2).toNat * 9)).off + 6, none⟩ = some (.string ((rd_T43 l0_1 x3_2).f6)) ∧ w'.cell? ⟨(ad202.add ((x3_2).toNat * 9)).block, (ad202.add ((x3_2).toNat * 9)).off + 7, none⟩ = some (.slice A204_7 ((rd_T43 l0_1 x3_2).f7).length c204_7) ∧ w'.cell? ⟨(ad202.add ((x3_2).toNat * 9)).block, (ad202.add ((x3_2).toNat * 9)).off + 8, none⟩ = some (.int .i64 ((rd_T43 l0_1 x3_2).f8))) (ds := []) #[false, false, false, false, false, false, false, false, false, false, false, false, false, false, false, false, false, false, false, false, false] (by kernel_rfl) rfl rfl ⟨(blk_cell BK198.out 0).trans rfl, (blk_cell BK198.out 1).trans rfl, (blk_cell BK198.out 2).trans rfl, (ce_ HB.out hw202_0 :), (ce_ HB.out hw202_1 :), (ce_ HB.out hw202_2 :), (ce_ HB.out hw202_3 :), (ce_ HB.out hw202_4 :), (ce_ HB.out hw202_5 :), (ce_ HB.out hw202_6 :), (ce_ HB.out hw202_7 :), (ce_ HB.out hw202_8 :), (ce_ HB.out hw204_0 :), (ce_ HB.out hw204_1 :), (ce_ HB.out hw204_2 :), (ce_ HB.out hw204_3 :), (ce_ HB.out hw204_4 :), (ce_ HB.out hw204_5 :), (ce_ HB.out hw204_6 :), (ce_ HB.out hw204_7 :), (ce_ HB.out hw204_8 :)⟩ (fun hHeld => ?_); refine with_tabW spec_GraphRight.tab6 spec_GraphRight.bits6 (fun HT_ HW_ => ?_)
          generalize wr.drew = w24 at BK198 HB HR202_7 HR204_7 hx202_0 hx202_1 hx202_2 hx202_3 hx202_4 hx202_5 hx202_6 hx202_7 hx202_8 hx204_0 hx204_1 hx204_2 hx204_3 hx204_4 hx204_5 hx204_6 hx204_7 hx204_8 hHeld ⊢
          refine pure_ (i := 0) (N := some 34) (v := ?_) (a' := ?_) #[true, false, false, false, false, false, false, false, false, false, false, false, false, false, false, false, false, false, false, false, false] rfl rfl (any_of HT_.out (by kernel_rfl)) (fun _ _ _ h => h) (Or.inl ⟨by rfl, ?_⟩) ?_ ?_
          rotate_left
          ·
           intro w'
           go_simp
           with_reducible rfl
          rotate_left
          ·
           simp only [Act.put, lS, l0_, l1_, i64_w, i32_w]
           rfl
          refine pure_ (i := 2) (N := some 36) (v := ?_) (a' := ?_) #[true, false, true, false, false, false, false, false, false, false, false, false, false, false, false, false, false, false, false, false, false] rfl rfl (any_of HT_.out (by kernel_rfl)) (fun _ _ _ h => h) (Or.inl ⟨by rfl, ?_⟩) ?_ ?_
          rotate_left
          ·
           intro w'
           go_simp
           with_reducible rfl
          rotate_left
          ·
           simp only [Act.put, lS, l0_, l1_, i64_w, i32_w]
           rfl
          refine pure_ (i := 4) (N := some 38) (v := ?_) (a' := ?_) #[true, false, true, false, true, false, false, false, false, false, false, false, false, false, false, false, false, false, false, false, false] rfl rfl (any_of HT_.out (by kernel_rfl)) (fun _ _ _ h => h) (Or.inl ⟨by rfl, ?_⟩) ?_ ?_
          rotate_left
          ·
           intro w'
           go_simp
           with_reducible rfl
          rotate_left
          ·
           simp only [Act.put, lS, l0_, l1_, i64_w, i32_w]
           rfl
          refine take_ (i := 1) (N := some 35) (v := ?_) (a' := ?_) #[true, true, true, false, true, false, false, false, false, false, false, false, false, false, false, false, false, false, false, false, false] rfl rfl (take_ofW HT_.out HW_.out (by kernel_rfl)) (fun _ _ _ h => h) (Or.inl ⟨by rfl, ?_⟩) hHeld ?_ ?_
          rotate_left
          ·
           rintro w' ⟨s0, s1, s2, s3, s4, s5, s6, s7, s8, s9, s10, s11, s12, s13, s14, s15, s16, s17, s18, s19, s20⟩
           go_simp
           with_reducible rfl
          rotate_left
          ·
           simp only [Act.put, lS, l0_, l1_, i64_w, i32_w]
           rfl
          refine take_ (i := 3) (N := some 37) (v := ?_) (a' := ?_) #[true, true, true, true, true, false, false, false, false, false, false, false, false, false, false, false, false, false, false, false, false] rfl rfl (take_ofW HT_.out HW_.out (by kernel_rfl)) (fun _ _ _ h => h) (Or.inl ⟨by rfl, ?_⟩) hHeld ?_ ?_
          rotate_left
          ·
           rintro w' ⟨s0, s1, s2, s3, s4, s5, s6, s7, s8, s9, s10, s11, s12, s13, s14, s15, s16, s17, s18, s19, s20⟩
           go_simp
           with_reducible rfl
          rotate_left
          ·
           simp only [Act.put, lS, l0_, l1_, i64_w, i32_w]
           rfl
          refine pure_ (i := 5) (N := some 39) (v := ?_) (a' := ?_) #[true, true, true, true, true, true, false, false, false, false, false, false, false, false, false, false, false, false, false, false, false] rfl rfl (any_of HT_.out (by kernel_rfl)) (fun _ _ _ h => h) (Or.inl ⟨by rfl, ?_⟩) ?_ ?_
          rotate_left
          ·
           intro w'
           go_simp
           with_reducible rfl
          rotate_left
          ·
           simp only [Act.put, lS, l0_, l1_, i64_w, i32_w]
           rfl
          refine take_ (i := 6) (N := some 40) (v := ?_) (a' := ?_) #[true, true, true, true, true, true, true, false, false, false, false, false, false, false, false, false, false, false, false, false, false] rfl rfl (take_ofW HT_.out HW_.out (by kernel_rfl)) (fun _ _ _ h => h) (Or.inl ⟨by rfl, ?_⟩) hHeld ?_ ?_
          rotate_left
          ·
           rintro w' ⟨s0, s1, s2, s3, s4, s5, s6, s7, s8, s9, s10, s11, s12, s13, s14, s15, s16, s17, s18, s19, s20⟩
           go_simp
           with_reducible rfl
          rotate_left
          ·
           simp only [Act.put, lS, l0_, l1_, i64_w, i32_w]
           rfl
          refine one_ (i := 7) (N := some 41) #[true, true, true, true, true, true, true, true, false, false, false, false, false, false, false, false, false, false, false, false, false] rfl rfl (one_of HT_.out (by kernel_rfl)) (by decide) (fun K hK => ?_)
          refine goes_ Try.func18 (by kernel_rfl) rfl #[.slice (some ad202) l0_1.length c0_1, .agg #[.int .i64 ((rd_T43 l0_1 x3_2).f0), .int .i64 ((rd_T43 l0_1 x3_2).f1), .int .i64 ((rd_T43 l0_1 x3_2).f2), .int .i64 ((rd_T43 l0_1 x3_2).f3), .int .i64 ((rd_T43 l0_1 x3_2).f4), .int .i64 ((rd_T43 l0_1 x3_2).f5), .string ((rd_T43 l0_1 x3_2).f6), .slice A202_7 ((rd_T43 l0_1 x3_2).f7).length c202_7, .int .i64 ((rd_T43 l0_1 x3_2).f8)]] (by rfl) rfl rfl (by (try simp only [List.map_toArray, List.map_cons, List.map_nil]); first | done | rfl | (simp only [List.length_drop, List.length_take]; rfl)) ?_
          with_reducible refine (spec_l03All.calls k2 _ _ l0_1 ((rd_T43 l0_1 x3_2).f0) ((rd_T43 l0_1 x3_2).f1) ((rd_T43 l0_1 x3_2).f2) ((rd_T43 l0_1 x3_2).f3) ((rd_T43 l0_1 x3_2).f4) ((rd_T43 l0_1 x3_2).f5) ((rd_T43 l0_1 x3_2).f6) _ _ ((rd_T43 l0_1 x3_2).f7) ((rd_T43 l0_1 x3_2).f8) true _ ?side1 ?side2 ?side3 ?side4 A19.out).mono ?_
          (case side1 => repeat (first | exact (Kd.C_below HR0_1.out HB.out) | (with_reducible refine Kd.C_alloc ?_ _) | (with_reducible refine Kd.C_drewN ?_ _) | (with_reducible refine Kd.C_drew ?_)))
          (case side2 => exact HC0_1.out)
          (case side3 => repeat (first | exact (Kd.C_below HR202_7.out HB.out) | (with_reducible refine Kd.C_alloc ?_ _) | (with_reducible refine Kd.C_drewN ?_ _) | (with_reducible refine Kd.C_drew ?_)))
          (case side4 => exact HC202_7.out)
          rintro e w25 ⟨rfl, hb⟩
          refine ⟨_, rfl, ?_⟩
          have n0_ := Aside0.mk (blk_below (g := gb198) (o := .cells #[.int .i64 a0_0, .slice (some ad202) l0_1.length c0_1, .slice A0_2 l0_2.length c0_2] 29 (0, 0)) (a5_ BK198.out) hb)
          have n1_ := Aside0.mk (below_step (a3_ HB.out GE198.out) hb)
          clear BK198
          clear HB
          have BK198 := n0_
          have HB := n1_
          clear n0_ n1_
          (try clear hb)
          (try clear hb2)
          (try clear hk)
          (try clear hi)
          refine hK.out _ _ ⟨(blk_cell BK198.out 0).trans rfl, (blk_cell BK198.out 1).trans rfl, (blk_cell BK198.out 2).trans rfl, (ce_ HB.out hw202_0 :), (ce_ HB.out hw202_1 :), (ce_ HB.out hw202_2 :), (ce_ HB.out hw202_3 :), (ce_ HB.out hw202_4 :), (ce_ HB.out hw202_5 :), (ce_ HB.out hw202_6 :), (ce_ HB.out hw202_7 :), (ce_ HB.out hw202_8 :), (ce_ HB.out hw204_0 :), (ce_ HB.out hw204_1 :), (ce_ HB.out hw204_2 :), (ce_ HB.out hw204_3 :), (ce_ HB.out hw204_4 :), (ce_ HB.out hw204_5 :), (ce_ HB.out hw204_6 :), (ce_ HB.out hw204_7 :), (ce_ HB.out hw204_8 :)⟩ (fun hHeld => ?_)
          clear hK K
          refine norm_ (a' := ?_) ?_ ?_
          rotate_left
          ·
           show Act.put _ (some 41) _ = _
           simp only [Act.put, lS, l0_, l1_, i64_w, i32_w]
           rfl
          refine pure_ (i := 8) (N := some 42) (v := ?_) (a' := ?_) #[true, true, true, true, true, true, true, true, true, false, false, false, false, false, false, false, false, false, false, false, false] rfl rfl (any_of HT_.out (by kernel_rfl)) (fun _ _ _ h => h) (Or.inl ⟨by rfl, ?_⟩) ?_ ?_
          rotate_left
          ·
           intro w'
           go_simp
           with_reducible rfl
          rotate_left
          ·
           simp only [Act.put, lS, l0_, l1_, i64_w, i32_w]
           rfl
          refine pure_ (i := 9) (N := some 43) (v := ?_) (a' := ?_) #[true, true, true, true, true, true, true, true, true, true, false, false, false, false, false, false, false, false, false, false, false] rfl rfl (any_of HT_.out (by kernel_rfl)) (fun _ _ _ h => h) (Or.inl ⟨by rfl, ?_⟩) ?_ ?_
          rotate_left
          ·
           intro w'
           go_simp
           with_reducible rfl
          rotate_left
          ·
           simp only [Act.put, lS, l0_, l1_, i64_w, i32_w]
           rfl
          refine pure_ (i := 10) (N := some 44) (v := ?_) (a' := ?_) #[true, true, true, true, true, true, true, true, true, true, true, false, false, false, false, false, false, false, false, false, false] rfl rfl (any_of HT_.out (by kernel_rfl)) (fun _ _ _ h => h) (Or.inl ⟨by rfl, ?_⟩) ?_ ?_
          rotate_left
          ·
           intro w'
           go_simp
           with_reducible rfl
          rotate_left
          ·
           simp only [Act.put, lS, l0_, l1_, i64_w, i32_w]
           rfl
          refine pure_ (i := 12) (N := some 46) (v := ?_) (a' := ?_) #[true, true, true, true, true, true, true, true, true, true, true, false, true, false, false, false, false, false, false, false, false] rfl rfl (any_of HT_.out (by kernel_rfl)) (fun _ _ _ h => h) (Or.inl ⟨by rfl, ?_⟩) ?_ ?_
          rotate_left
          ·
           intro w'
           go_simp
           with_reducible rfl
          rotate_left
          ·
           simp only [Act.put, lS, l0_, l1_, i64_w, i32_w]
           rfl
          refine pure_ (i := 14) (N := some 48) (v := ?_) (a' := ?_) #[true, true, true, true, true, true, true, true, true, true, true, false, true, false, true, false, false, false, false, false, false] rfl rfl (any_of HT_.out (by kernel_rfl)) (fun _ _ _ h => h) (Or.inl ⟨by rfl, ?_⟩) ?_ ?_
          rotate_left
          ·
           intro w'
           go_simp
           with_reducible rfl
          rotate_left
          ·
           simp only [Act.put, lS, l0_, l1_, i64_w, i32_w]
           rfl
          refine take_ (i := 11) (N := some 45) (v := ?_) (a' := ?_) #[true, true, true, true, true, true, true, true, true, true, true, true, true, false, true, false, false, false, false, false, false] rfl rfl (take_ofW HT_.out HW_.out (by kernel_rfl)) (fun _ _ _ h => h) (Or.inl ⟨by rfl, ?_⟩) hHeld ?_ ?_
          rotate_left
          ·
           rintro w' ⟨s0, s1, s2, s3, s4, s5, s6, s7, s8, s9, s10, s11, s12, s13, s14, s15, s16, s17, s18, s19, s20⟩
           go_simp
           with_reducible rfl
          rotate_left
          ·
           simp only [Act.put, lS, l0_, l1_, i64_w, i32_w]
           rfl
          refine take_ (i := 13) (N := some 47) (v := ?_) (a' := ?_) #[true, true, true, true, true, true, true, true, true, true, true, true, true, true, true, false, false, false, false, false, false] rfl rfl (take_ofW HT_.out HW_.out (by kernel_rfl)) (fun _ _ _ h => h) (Or.inl ⟨by rfl, ?_⟩) hHeld ?_ ?_
          rotate_left
          ·
           rintro w' ⟨s0, s1, s2, s3, s4, s5, s6, s7, s8, s9, s10, s11, s12, s13, s14, s15, s16, s17, s18, s19, s20⟩
           go_simp
           with_reducible rfl
          rotate_left
          ·
           simp only [Act.put, lS, l0_, l1_, i64_w, i32_w]
           rfl
          refine pure_ (i := 15) (N := some 49) (v := ?_) (a' := ?_) #[true, true, true, true, true, true, true, true, true, true, true, true, true, true, true, true, false, false, false, false, false] rfl rfl (any_of HT_.out (by kernel_rfl)) (fun _ _ _ h => h) (Or.inl ⟨by rfl, ?_⟩) ?_ ?_
          rotate_left
          ·
           intro w'
           go_simp
           with_reducible rfl
          rotate_left
          ·
           simp only [Act.put, lS, l0_, l1_, i64_w, i32_w]
           rfl
          refine pure_ (i := 16) (N := some 50) (v := ?_) (a' := ?_) #[true, true, true, true, true, true, true, true, true, true, true, true, true, true, true, true, true, false, false, false, false] rfl rfl (any_of HT_.out (by kernel_rfl)) (fun _ _ _ h => h) (Or.inl ⟨by rfl, ?_⟩) ?_ ?_
          rotate_left
          ·
           intro w'
           go_simp
           with_reducible rfl
          rotate_left
          ·
           simp only [Act.put, lS, l0_, l1_, i64_w, i32_w]
           rfl
          refine take_ (i := 17) (N := some 51) (v := ?_) (a' := ?_) #[true, true, true, true, true, true, true, true, true, true, true, true, true, true, true, true, true, true, false, false, false] rfl rfl (take_ofW HT_.out HW_.out (by kernel_rfl)) (fun _ _ _ h => h) (Or.inl ⟨by rfl, ?_⟩) hHeld ?_ ?_
          rotate_left
          ·
           rintro w' ⟨s0, s1, s2, s3, s4, s5, s6, s7, s8, s9, s10, s11, s12, s13, s14, s15, s16, s17, s18, s19, s20⟩
           go_simp
           with_reducible rfl
          rotate_left
          ·
           simp only [Act.put, lS, l0_, l1_, i64_w, i32_w]
           rfl
          refine one_ (i := 18) (N := some 52) #[true, true, true, true, true, true, true, true, true, true, true, true, true, true, true, true, true, true, true, false, false] rfl rfl (one_of HT_.out (by kernel_rfl)) (by decide) (fun K hK => ?_)
          refine goes_ Try.func19 (by kernel_rfl) rfl #[.slice A0_2 l0_2.length c0_2, .int .i64 ((rd_T43 l0_1 x3_2).f0)] (by rfl) rfl rfl (by (try simp only [List.map_toArray, List.map_cons, List.map_nil]); first | done | rfl | (simp only [List.length_drop, List.length_take]; rfl)) ?_
          with_reducible refine (spec_l03At.calls k2 _ _ l0_2 ((rd_T43 l0_1 x3_2).f0) t205 _ ?side1 ?side2 A21.out).mono ?_
          (case side1 => repeat (first | exact (Kd.C_below HR0_2.out HB.out) | (with_reducible refine Kd.C_alloc ?_ _) | (with_reducible refine Kd.C_drewN ?_ _) | (with_reducible refine Kd.C_drew ?_)))
          (case side2 => exact HC0_2.out)
          rintro e w' ⟨rfl, ⟨nd, rfl⟩⟩
          refine ⟨_, rfl, ?_⟩
          refine hK.out _ _ ⟨(blk_cell BK198.out 0).trans rfl, (blk_cell BK198.out 1).trans rfl, (blk_cell BK198.out 2).trans rfl, (ce_ HB.out hw202_0 :), (ce_ HB.out hw202_1 :), (ce_ HB.out hw202_2 :), (ce_ HB.out hw202_3 :), (ce_ HB.out hw202_4 :), (ce_ HB.out hw202_5 :), (ce_ HB.out hw202_6 :), (ce_ HB.out hw202_7 :), (ce_ HB.out hw202_8 :), (ce_ HB.out hw204_0 :), (ce_ HB.out hw204_1 :), (ce_ HB.out hw204_2 :), (ce_ HB.out hw204_3 :), (ce_ HB.out hw204_4 :), (ce_ HB.out hw204_5 :), (ce_ HB.out hw204_6 :), (ce_ HB.out hw204_7 :), (ce_ HB.out hw204_8 :)⟩ (fun hHeld => ?_)
          clear hK K
          refine norm_ (a' := ?_) ?_ ?_
          rotate_left
          ·
           show Act.put _ (some 52) _ = _
           simp only [Act.put, lS, l0_, l1_, i64_w, i32_w]
           rfl
          refine pure_ (i := 19) (N := some 53) (v := ?_) (a' := ?_) #[true, true, true, true, true, true, true, true, true, true, true, true, true, true, true, true, true, true, true, true, false] rfl rfl (any_of HT_.out (by kernel_rfl)) (fun _ _ _ h => h) (Or.inl ⟨by rfl, ?_⟩) ?_ ?_
          rotate_left
          ·
           intro w'
           go_simp
           with_reducible rfl
          rotate_left
          ·
           simp only [Act.put, lS, l0_, l1_, i64_w, i32_w]
           rfl
          refine pure_ (i := 20) (N := some 54) (v := ?_) (a' := ?_) #[true, true, true, true, true, true, true, true, true, true, true, true, true, true, true, true, true, true, true, true, true] rfl rfl (any_of HT_.out (by kernel_rfl)) (fun _ _ _ h => h) (Or.inl ⟨by rfl, ?_⟩) ?_ ?_
          rotate_left
          ·
           intro w'
           go_simp
           with_reducible rfl
          rotate_left
          ·
           simp only [Act.put, lS, l0_, l1_, i64_w, i32_w]
           rfl
          refine done_ (done_of HT_.out (by kernel_rfl)) ?_
          try go_wp2
          go_ret
          exact ⟨a2_, (a3_ HB.out GE198.out)⟩
         ·
          rw [if_neg c22] at H
          have c22b0 : decide (0 ≤ t205) = false := decide_eq_false c22
          clear c22
          have H' := Aside0.mk H
          clear H
          obtain ⟨⟨hcz26_0, hcz26_1, hcz26_2⟩, hfz26_0, hfz26_1, hfz26_2⟩ := cells_3 BK198.out
          try go_wp2
          have n0_ := Aside0.mk (blk_drew BK198.out)
          have n1_ := Aside0.mk (below_drew1 HB.out)
          clear BK198
          clear HB
          have BK198 := n0_
          have HB := n1_
          clear n0_ n1_
          have p202 : 0 ≤ (x3_2 : Int) := of_decide_eq_true (by first | (with_reducible assumption) | assumption)
          have q202 : x3_2 < (l0_1.length : Int) := of_decide_eq_true (by first | (with_reducible assumption) | assumption)
          obtain ⟨ad202, A202_7, c202_7, e202, hx202_0, hx202_1, hx202_2, hx202_3, hx202_4, hx202_5, hx202_6, hx202_7, hx202_8, hl202_7, hi202_7⟩ := at_T43 HR0_1.out x3_2 p202 q202
          have hw202_8 := hx202_8
          have hw202_7 := hx202_7
          have hw202_6 := hx202_6
          have hw202_5 := hx202_5
          have hw202_4 := hx202_4
          have hw202_3 := hx202_3
          have hw202_2 := hx202_2
          have hw202_1 := hx202_1
          have hw202_0 := hx202_0
          cases e202
          replace hx202_0 := ce_ HB.out hx202_0
          replace hx202_1 := ce_ HB.out hx202_1
          replace hx202_2 := ce_ HB.out hx202_2
          replace hx202_3 := ce_ HB.out hx202_3
          replace hx202_4 := ce_ HB.out hx202_4
          replace hx202_5 := ce_ HB.out hx202_5
          replace hx202_6 := ce_ HB.out hx202_6
          replace hx202_7 := ce_ HB.out hx202_7
          replace hx202_8 := ce_ HB.out hx202_8
          have HR202_7 := Aside0.mk hi202_7
          have HC202_7 := Aside0.mk hl202_7
          clear hi202_7 hl202_7
          replace p202 := eq_true p202
          replace q202 := eq_true q202
          have p204 : 0 ≤ (x3_2 : Int) := of_decide_eq_true (by first | (with_reducible assumption) | assumption)
          have q204 : x3_2 < (l0_1.length : Int) := of_decide_eq_true (by first | (with_reducible assumption) | assumption)
          obtain ⟨ad204, A204_7, c204_7, e204, hx204_0, hx204_1, hx204_2, hx204_3, hx204_4, hx204_5, hx204_6, hx204_7, hx204_8, hl204_7, hi204_7⟩ := at_T43 HR0_1.out x3_2 p204 q204
          have hw204_8 := hx204_8
          have hw204_7 := hx204_7
          have hw204_6 := hx204_6
          have hw204_5 := hx204_5
          have hw204_4 := hx204_4
          have hw204_3 := hx204_3
          have hw204_2 := hx204_2
          have hw204_1 := hx204_1
          have hw204_0 := hx204_0
          obtain rfl : ad202 = ad204 := (by injection e204)
          replace hx204_0 := ce_ HB.out hx204_0
          replace hx204_1 := ce_ HB.out hx204_1
          replace hx204_2 := ce_ HB.out hx204_2
          replace hx204_3 := ce_ HB.out hx204_3
          replace hx204_4 := ce_ HB.out hx204_4
          replace hx204_5 := ce_ HB.out hx204_5
          replace hx204_6 := ce_ HB.out hx204_6
          replace hx204_7 := ce_ HB.out hx204_7
          replace hx204_8 := ce_ HB.out hx204_8
          have HR204_7 := Aside0.mk hi204_7
          have HC204_7 := Aside0.mk hl204_7
          clear hi204_7 hl204_7
          replace p204 := eq_true p204
          replace q204 := eq_true q204
          refine start_ (n := 21) (S := fun w' => w'.cell? ⟨gb198, 0, none⟩ = some (.int .i64 a0_0) ∧ w'.cell? ⟨gb198, 1, none⟩ = some (.slice (some ad202) l0_1.length c0_1) ∧ w'.cell? ⟨gb198, 2, none⟩ = some (.slice A0_2 l0_2.length c0_2) ∧ w'.cell? (ad202.add ((x3_2).toNat * 9)) = some (.int .i64 ((rd_T43 l0_1 x3_2).f0)) ∧ w'.cell? ⟨(ad202.add ((x3_2).toNat * 9)).block, (ad202.add ((x3_2).toNat * 9)).off + 1, none⟩ = some (.int .i64 ((rd_T43 l0_1 x3_2).f1)) ∧ w'.cell? ⟨(ad202.add ((x3_2).toNat * 9)).block, (ad202.add ((x3_2).toNat * 9)).off + 2, none⟩ = some (.int .i64 ((rd_T43 l0_1 x3_2).f2)) ∧ w'.cell? ⟨(ad202.add ((x3_2).toNat * 9)).block, (ad202.add ((x3_2).toNat * 9)).off + 3, none⟩ = some (.int .i64 ((rd_T43 l0_1 x3_2).f3)) ∧ w'.cell? ⟨(ad202.add ((x3_2).toNat * 9)).block, (ad202.add ((x3_2).toNat * 9)).off + 4, none⟩ = some (.int .i64 ((rd_T43 l0_1 x3_2).f4)) ∧ w'.cell? ⟨(ad202.add ((x3_2).toNat * 9)).block, (ad202.add ((x3_2).toNat * 9)).off + 5, none⟩ = some (.int .i64 ((rd_T43 l0_1 x3_2).f5)) ∧ w'.cell? ⟨(ad202.add ((x3_2).toNat * 9)).block, (ad202.add ((x3_2).toNat * 9)).off + 6, none⟩ = some (.string ((rd_T43 l0_1 x3_2).f6)) ∧ w'.cell? ⟨(ad202.add ((x3_2).toNat * 9)).block, (ad202.add ((x3_2).toNat * 9)).off + 7, none⟩ = some (.slice A202_7 ((rd_T43 l0_1 x3_2).f7).length c202_7) ∧ w'.cell? ⟨(ad202.add ((x3_2).toNat * 9)).block, (ad202.add ((x3_2).toNat * 9)).off + 8, none⟩ = some (.int .i64 ((rd_T43 l0_1 x3_2).f8)) ∧ w'.cell? (ad202.add ((x3_2).toNat * 9)) = some (.int .i64 ((rd_T43 l0_1 x3_2).f0)) ∧ w'.cell? ⟨(ad202.add ((x3_2).toNat * 9)).block, (ad202.add ((x3_2).toNat * 9)).off + 1, none⟩ = some (.int .i64 ((rd_T43 l0_1 x3_2).f1)) ∧ w'.cell? ⟨(ad202.add ((x3_2).toNat * 9)).block, (ad202.add ((x3_2).toNat * 9)).off + 2, none⟩ = some (.int .i64 ((rd_T43 l0_1 x3_2).f2)) ∧ w'.cell? ⟨(ad202.add ((x3_2).toNat * 9)).block, (ad202.add ((x3_2).toNat * 9)).off + 3, none⟩ = some (.int .i64 ((rd_T43 l0_1 x3_2).f3)) ∧ w'.cell? ⟨(ad202.add ((x3_2).toNat * 9)).block, (ad202.add ((x3_2).toNat * 9)).off + 4, none⟩ = some (.int .i64 ((rd_T43 l0_1 x3_2).f4)) ∧ w'.cell? ⟨(ad202.add ((x3_2).toNat * 9)).block, (ad202.add ((x3_2).toNat * 9)).off + 5, none⟩ = some (.int .i64 ((rd_T43 l0_1 x3_2).f5)) ∧ w'.cell? ⟨(ad202.add ((x3_2).toNat * 9)).block, (ad202.add ((x3_2).toNat * 9)).off + 6, none⟩ = some (.string ((rd_T43 l0_1 x3_2).f6)) ∧ w'.cell? ⟨(ad202.add ((x3_2).toNat * 9)).block, (ad202.add ((x3_2).toNat * 9)).off + 7, none⟩ = some (.slice A204_7 ((rd_T43 l0_1 x3_2).f7).length c204_7) ∧ w'.cell? ⟨(ad202.add ((x3_2).toNat * 9)).block, (ad202.add ((x3_2).toNat * 9)).off + 8, none⟩ = some (.int .i64 ((rd_T43 l0_1 x3_2).f8))) (ds := []) #[false, false, false, false, false, false, false, false, false, false, false, false, false, false, false, false, false, false, false, false, false] (by kernel_rfl) rfl rfl ⟨(blk_cell BK198.out 0).trans rfl, (blk_cell BK198.out 1).trans rfl, (blk_cell BK198.out 2).trans rfl, (ce_ HB.out hw202_0 :), (ce_ HB.out hw202_1 :), (ce_ HB.out hw202_2 :), (ce_ HB.out hw202_3 :), (ce_ HB.out hw202_4 :), (ce_ HB.out hw202_5 :), (ce_ HB.out hw202_6 :), (ce_ HB.out hw202_7 :), (ce_ HB.out hw202_8 :), (ce_ HB.out hw204_0 :), (ce_ HB.out hw204_1 :), (ce_ HB.out hw204_2 :), (ce_ HB.out hw204_3 :), (ce_ HB.out hw204_4 :), (ce_ HB.out hw204_5 :), (ce_ HB.out hw204_6 :), (ce_ HB.out hw204_7 :), (ce_ HB.out hw204_8 :)⟩ (fun hHeld => ?_); refine with_tabW spec_GraphRight.tab6 spec_GraphRight.bits6 (fun HT_ HW_ => ?_)
          generalize wr.drew = w27 at BK198 HB HR202_7 HR204_7 hx202_0 hx202_1 hx202_2 hx202_3 hx202_4 hx202_5 hx202_6 hx202_7 hx202_8 hx204_0 hx204_1 hx204_2 hx204_3 hx204_4 hx204_5 hx204_6 hx204_7 hx204_8 hHeld ⊢
          refine pure_ (i := 0) (N := some 34) (v := ?_) (a' := ?_) #[true, false, false, false, false, false, false, false, false, false, false, false, false, false, false, false, false, false, false, false, false] rfl rfl (any_of HT_.out (by kernel_rfl)) (fun _ _ _ h => h) (Or.inl ⟨by rfl, ?_⟩) ?_ ?_
          rotate_left
          ·
           intro w'
           go_simp
           with_reducible rfl
          rotate_left
          ·
           simp only [Act.put, lS, l0_, l1_, i64_w, i32_w]
           rfl
          refine pure_ (i := 2) (N := some 36) (v := ?_) (a' := ?_) #[true, false, true, false, false, false, false, false, false, false, false, false, false, false, false, false, false, false, false, false, false] rfl rfl (any_of HT_.out (by kernel_rfl)) (fun _ _ _ h => h) (Or.inl ⟨by rfl, ?_⟩) ?_ ?_
          rotate_left
          ·
           intro w'
           go_simp
           with_reducible rfl
          rotate_left
          ·
           simp only [Act.put, lS, l0_, l1_, i64_w, i32_w]
           rfl
          refine pure_ (i := 4) (N := some 38) (v := ?_) (a' := ?_) #[true, false, true, false, true, false, false, false, false, false, false, false, false, false, false, false, false, false, false, false, false] rfl rfl (any_of HT_.out (by kernel_rfl)) (fun _ _ _ h => h) (Or.inl ⟨by rfl, ?_⟩) ?_ ?_
          rotate_left
          ·
           intro w'
           go_simp
           with_reducible rfl
          rotate_left
          ·
           simp only [Act.put, lS, l0_, l1_, i64_w, i32_w]
           rfl
          refine take_ (i := 1) (N := some 35) (v := ?_) (a' := ?_) #[true, true, true, false, true, false, false, false, false, false, false, false, false, false, false, false, false, false, false, false, false] rfl rfl (take_ofW HT_.out HW_.out (by kernel_rfl)) (fun _ _ _ h => h) (Or.inl ⟨by rfl, ?_⟩) hHeld ?_ ?_
          rotate_left
          ·
           rintro w' ⟨s0, s1, s2, s3, s4, s5, s6, s7, s8, s9, s10, s11, s12, s13, s14, s15, s16, s17, s18, s19, s20⟩
           go_simp
           with_reducible rfl
          rotate_left
          ·
           simp only [Act.put, lS, l0_, l1_, i64_w, i32_w]
           rfl
          refine take_ (i := 3) (N := some 37) (v := ?_) (a' := ?_) #[true, true, true, true, true, false, false, false, false, false, false, false, false, false, false, false, false, false, false, false, false] rfl rfl (take_ofW HT_.out HW_.out (by kernel_rfl)) (fun _ _ _ h => h) (Or.inl ⟨by rfl, ?_⟩) hHeld ?_ ?_
          rotate_left
          ·
           rintro w' ⟨s0, s1, s2, s3, s4, s5, s6, s7, s8, s9, s10, s11, s12, s13, s14, s15, s16, s17, s18, s19, s20⟩
           go_simp
           with_reducible rfl
          rotate_left
          ·
           simp only [Act.put, lS, l0_, l1_, i64_w, i32_w]
           rfl
          refine pure_ (i := 5) (N := some 39) (v := ?_) (a' := ?_) #[true, true, true, true, true, true, false, false, false, false, false, false, false, false, false, false, false, false, false, false, false] rfl rfl (any_of HT_.out (by kernel_rfl)) (fun _ _ _ h => h) (Or.inl ⟨by rfl, ?_⟩) ?_ ?_
          rotate_left
          ·
           intro w'
           go_simp
           with_reducible rfl
          rotate_left
          ·
           simp only [Act.put, lS, l0_, l1_, i64_w, i32_w]
           rfl
          refine take_ (i := 6) (N := some 40) (v := ?_) (a' := ?_) #[true, true, true, true, true, true, true, false, false, false, false, false, false, false, false, false, false, false, false, false, false] rfl rfl (take_ofW HT_.out HW_.out (by kernel_rfl)) (fun _ _ _ h => h) (Or.inl ⟨by rfl, ?_⟩) hHeld ?_ ?_
          rotate_left
          ·
           rintro w' ⟨s0, s1, s2, s3, s4, s5, s6, s7, s8, s9, s10, s11, s12, s13, s14, s15, s16, s17, s18, s19, s20⟩
           go_simp
           with_reducible rfl
          rotate_left
          ·
           simp only [Act.put, lS, l0_, l1_, i64_w, i32_w]
           rfl
          refine one_ (i := 7) (N := some 41) #[true, true, true, true, true, true, true, true, false, false, false, false, false, false, false, false, false, false, false, false, false] rfl rfl (one_of HT_.out (by kernel_rfl)) (by decide) (fun K hK => ?_)
          refine goes_ Try.func18 (by kernel_rfl) rfl #[.slice (some ad202) l0_1.length c0_1, .agg #[.int .i64 ((rd_T43 l0_1 x3_2).f0), .int .i64 ((rd_T43 l0_1 x3_2).f1), .int .i64 ((rd_T43 l0_1 x3_2).f2), .int .i64 ((rd_T43 l0_1 x3_2).f3), .int .i64 ((rd_T43 l0_1 x3_2).f4), .int .i64 ((rd_T43 l0_1 x3_2).f5), .string ((rd_T43 l0_1 x3_2).f6), .slice A202_7 ((rd_T43 l0_1 x3_2).f7).length c202_7, .int .i64 ((rd_T43 l0_1 x3_2).f8)]] (by rfl) rfl rfl (by (try simp only [List.map_toArray, List.map_cons, List.map_nil]); first | done | rfl | (simp only [List.length_drop, List.length_take]; rfl)) ?_
          with_reducible refine (spec_l03All.calls k2 _ _ l0_1 ((rd_T43 l0_1 x3_2).f0) ((rd_T43 l0_1 x3_2).f1) ((rd_T43 l0_1 x3_2).f2) ((rd_T43 l0_1 x3_2).f3) ((rd_T43 l0_1 x3_2).f4) ((rd_T43 l0_1 x3_2).f5) ((rd_T43 l0_1 x3_2).f6) _ _ ((rd_T43 l0_1 x3_2).f7) ((rd_T43 l0_1 x3_2).f8) true _ ?side1 ?side2 ?side3 ?side4 A19.out).mono ?_
          (case side1 => repeat (first | exact (Kd.C_below HR0_1.out HB.out) | (with_reducible refine Kd.C_alloc ?_ _) | (with_reducible refine Kd.C_drewN ?_ _) | (with_reducible refine Kd.C_drew ?_)))
          (case side2 => exact HC0_1.out)
          (case side3 => repeat (first | exact (Kd.C_below HR202_7.out HB.out) | (with_reducible refine Kd.C_alloc ?_ _) | (with_reducible refine Kd.C_drewN ?_ _) | (with_reducible refine Kd.C_drew ?_)))
          (case side4 => exact HC202_7.out)
          rintro e w28 ⟨rfl, hb⟩
          refine ⟨_, rfl, ?_⟩
          have n0_ := Aside0.mk (blk_below (g := gb198) (o := .cells #[.int .i64 a0_0, .slice (some ad202) l0_1.length c0_1, .slice A0_2 l0_2.length c0_2] 29 (0, 0)) (a5_ BK198.out) hb)
          have n1_ := Aside0.mk (below_step (a3_ HB.out GE198.out) hb)
          clear BK198
          clear HB
          have BK198 := n0_
          have HB := n1_
          clear n0_ n1_
          (try clear hb)
          (try clear hb2)
          (try clear hk)
          (try clear hi)
          refine hK.out _ _ ⟨(blk_cell BK198.out 0).trans rfl, (blk_cell BK198.out 1).trans rfl, (blk_cell BK198.out 2).trans rfl, (ce_ HB.out hw202_0 :), (ce_ HB.out hw202_1 :), (ce_ HB.out hw202_2 :), (ce_ HB.out hw202_3 :), (ce_ HB.out hw202_4 :), (ce_ HB.out hw202_5 :), (ce_ HB.out hw202_6 :), (ce_ HB.out hw202_7 :), (ce_ HB.out hw202_8 :), (ce_ HB.out hw204_0 :), (ce_ HB.out hw204_1 :), (ce_ HB.out hw204_2 :), (ce_ HB.out hw204_3 :), (ce_ HB.out hw204_4 :), (ce_ HB.out hw204_5 :), (ce_ HB.out hw204_6 :), (ce_ HB.out hw204_7 :), (ce_ HB.out hw204_8 :)⟩ (fun hHeld => ?_)
          clear hK K
          refine norm_ (a' := ?_) ?_ ?_
          rotate_left
          ·
           show Act.put _ (some 41) _ = _
           simp only [Act.put, lS, l0_, l1_, i64_w, i32_w]
           rfl
          refine pure_ (i := 8) (N := some 42) (v := ?_) (a' := ?_) #[true, true, true, true, true, true, true, true, true, false, false, false, false, false, false, false, false, false, false, false, false] rfl rfl (any_of HT_.out (by kernel_rfl)) (fun _ _ _ h => h) (Or.inl ⟨by rfl, ?_⟩) ?_ ?_
          rotate_left
          ·
           intro w'
           go_simp
           with_reducible rfl
          rotate_left
          ·
           simp only [Act.put, lS, l0_, l1_, i64_w, i32_w]
           rfl
          refine pure_ (i := 9) (N := some 43) (v := ?_) (a' := ?_) #[true, true, true, true, true, true, true, true, true, true, false, false, false, false, false, false, false, false, false, false, false] rfl rfl (any_of HT_.out (by kernel_rfl)) (fun _ _ _ h => h) (Or.inl ⟨by rfl, ?_⟩) ?_ ?_
          rotate_left
          ·
           intro w'
           go_simp
           with_reducible rfl
          rotate_left
          ·
           simp only [Act.put, lS, l0_, l1_, i64_w, i32_w]
           rfl
          refine pure_ (i := 10) (N := some 44) (v := ?_) (a' := ?_) #[true, true, true, true, true, true, true, true, true, true, true, false, false, false, false, false, false, false, false, false, false] rfl rfl (any_of HT_.out (by kernel_rfl)) (fun _ _ _ h => h) (Or.inl ⟨by rfl, ?_⟩) ?_ ?_
          rotate_left
          ·
           intro w'
           go_simp
           with_reducible rfl
          rotate_left
          ·
           simp only [Act.put, lS, l0_, l1_, i64_w, i32_w]
           rfl
          refine pure_ (i := 12) (N := some 46) (v := ?_) (a' := ?_) #[true, true, true, true, true, true, true, true, true, true, true, false, true, false, false, false, false, false, false, false, false] rfl rfl (any_of HT_.out (by kernel_rfl)) (fun _ _ _ h => h) (Or.inl ⟨by rfl, ?_⟩) ?_ ?_
          rotate_left
          ·
           intro w'
           go_simp
           with_reducible rfl
          rotate_left
          ·
           simp only [Act.put, lS, l0_, l1_, i64_w, i32_w]
           rfl
          refine pure_ (i := 14) (N := some 48) (v := ?_) (a' := ?_) #[true, true, true, true, true, true, true, true, true, true, true, false, true, false, true, false, false, false, false, false, false] rfl rfl (any_of HT_.out (by kernel_rfl)) (fun _ _ _ h => h) (Or.inl ⟨by rfl, ?_⟩) ?_ ?_
          rotate_left
          ·
           intro w'
           go_simp
           with_reducible rfl
          rotate_left
          ·
           simp only [Act.put, lS, l0_, l1_, i64_w, i32_w]
           rfl
          refine take_ (i := 11) (N := some 45) (v := ?_) (a' := ?_) #[true, true, true, true, true, true, true, true, true, true, true, true, true, false, true, false, false, false, false, false, false] rfl rfl (take_ofW HT_.out HW_.out (by kernel_rfl)) (fun _ _ _ h => h) (Or.inl ⟨by rfl, ?_⟩) hHeld ?_ ?_
          rotate_left
          ·
           rintro w' ⟨s0, s1, s2, s3, s4, s5, s6, s7, s8, s9, s10, s11, s12, s13, s14, s15, s16, s17, s18, s19, s20⟩
           go_simp
           with_reducible rfl
          rotate_left
          ·
           simp only [Act.put, lS, l0_, l1_, i64_w, i32_w]
           rfl
          refine take_ (i := 13) (N := some 47) (v := ?_) (a' := ?_) #[true, true, true, true, true, true, true, true, true, true, true, true, true, true, true, false, false, false, false, false, false] rfl rfl (take_ofW HT_.out HW_.out (by kernel_rfl)) (fun _ _ _ h => h) (Or.inl ⟨by rfl, ?_⟩) hHeld ?_ ?_
          rotate_left
          ·
           rintro w' ⟨s0, s1, s2, s3, s4, s5, s6, s7, s8, s9, s10, s11, s12, s13, s14, s15, s16, s17, s18, s19, s20⟩
           go_simp
           with_reducible rfl
          rotate_left
          ·
           simp only [Act.put, lS, l0_, l1_, i64_w, i32_w]
           rfl
          refine pure_ (i := 15) (N := some 49) (v := ?_) (a' := ?_) #[true, true, true, true, true, true, true, true, true, true, true, true, true, true, true, true, false, false, false, false, false] rfl rfl (any_of HT_.out (by kernel_rfl)) (fun _ _ _ h => h) (Or.inl ⟨by rfl, ?_⟩) ?_ ?_
          rotate_left
          ·
           intro w'
           go_simp
           with_reducible rfl
          rotate_left
          ·
           simp only [Act.put, lS, l0_, l1_, i64_w, i32_w]
           rfl
          refine pure_ (i := 16) (N := some 50) (v := ?_) (a' := ?_) #[true, true, true, true, true, true, true, true, true, true, true, true, true, true, true, true, true, false, false, false, false] rfl rfl (any_of HT_.out (by kernel_rfl)) (fun _ _ _ h => h) (Or.inl ⟨by rfl, ?_⟩) ?_ ?_
          rotate_left
          ·
           intro w'
           go_simp
           with_reducible rfl
          rotate_left
          ·
           simp only [Act.put, lS, l0_, l1_, i64_w, i32_w]
           rfl
          refine take_ (i := 17) (N := some 51) (v := ?_) (a' := ?_) #[true, true, true, true, true, true, true, true, true, true, true, true, true, true, true, true, true, true, false, false, false] rfl rfl (take_ofW HT_.out HW_.out (by kernel_rfl)) (fun _ _ _ h => h) (Or.inl ⟨by rfl, ?_⟩) hHeld ?_ ?_
          rotate_left
          ·
           rintro w' ⟨s0, s1, s2, s3, s4, s5, s6, s7, s8, s9, s10, s11, s12, s13, s14, s15, s16, s17, s18, s19, s20⟩
           go_simp
           with_reducible rfl
          rotate_left
          ·
           simp only [Act.put, lS, l0_, l1_, i64_w, i32_w]
           rfl
          refine one_ (i := 18) (N := some 52) #[true, true, true, true, true, true, true, true, true, true, true, true, true, true, true, true, true, true, true, false, false] rfl rfl (one_of HT_.out (by kernel_rfl)) (by decide) (fun K hK => ?_)
          refine goes_ Try.func19 (by kernel_rfl) rfl #[.slice A0_2 l0_2.length c0_2, .int .i64 ((rd_T43 l0_1 x3_2).f0)] (by rfl) rfl rfl (by (try simp only [List.map_toArray, List.map_cons, List.map_nil]); first | done | rfl | (simp only [List.length_drop, List.length_take]; rfl)) ?_
          with_reducible refine (spec_l03At.calls k2 _ _ l0_2 ((rd_T43 l0_1 x3_2).f0) t205 _ ?side1 ?side2 A21.out).mono ?_
          (case side1 => repeat (first | exact (Kd.C_below HR0_2.out HB.out) | (with_reducible refine Kd.C_alloc ?_ _) | (with_reducible refine Kd.C_drewN ?_ _) | (with_reducible refine Kd.C_drew ?_)))
          (case side2 => exact HC0_2.out)
          rintro e w' ⟨rfl, ⟨nd, rfl⟩⟩
          refine ⟨_, rfl, ?_⟩
          refine hK.out _ _ ⟨(blk_cell BK198.out 0).trans rfl, (blk_cell BK198.out 1).trans rfl, (blk_cell BK198.out 2).trans rfl, (ce_ HB.out hw202_0 :), (ce_ HB.out hw202_1 :), (ce_ HB.out hw202_2 :), (ce_ HB.out hw202_3 :), (ce_ HB.out hw202_4 :), (ce_ HB.out hw202_5 :), (ce_ HB.out hw202_6 :), (ce_ HB.out hw202_7 :), (ce_ HB.out hw202_8 :), (ce_ HB.out hw204_0 :), (ce_ HB.out hw204_1 :), (ce_ HB.out hw204_2 :), (ce_ HB.out hw204_3 :), (ce_ HB.out hw204_4 :), (ce_ HB.out hw204_5 :), (ce_ HB.out hw204_6 :), (ce_ HB.out hw204_7 :), (ce_ HB.out hw204_8 :)⟩ (fun hHeld => ?_)
          clear hK K
          refine norm_ (a' := ?_) ?_ ?_
          rotate_left
          ·
           show Act.put _ (some 52) _ = _
           simp only [Act.put, lS, l0_, l1_, i64_w, i32_w]
           rfl
          refine pure_ (i := 19) (N := some 53) (v := ?_) (a' := ?_) #[true, true, true, true, true, true, true, true, true, true, true, true, true, true, true, true, true, true, true, true, false] rfl rfl (any_of HT_.out (by kernel_rfl)) (fun _ _ _ h => h) (Or.inl ⟨by rfl, ?_⟩) ?_ ?_
          rotate_left
          ·
           intro w'
           go_simp
           with_reducible rfl
          rotate_left
          ·
           simp only [Act.put, lS, l0_, l1_, i64_w, i32_w]
           rfl
          refine pure_ (i := 20) (N := some 54) (v := ?_) (a' := ?_) #[true, true, true, true, true, true, true, true, true, true, true, true, true, true, true, true, true, true, true, true, true] rfl rfl (any_of HT_.out (by kernel_rfl)) (fun _ _ _ h => h) (Or.inl ⟨by rfl, ?_⟩) ?_ ?_
          rotate_left
          ·
           intro w'
           go_simp
           with_reducible rfl
          rotate_left
          ·
           simp only [Act.put, lS, l0_, l1_, i64_w, i32_w]
           rfl
          refine done_ (done_of HT_.out (by kernel_rfl)) ?_
          try go_wp2
          go_roundg k2
          case measure => have := HJ1.out; have := HK2.out; omega
          case rel => exact ⟨(wrap64 (x3_2 + 1)), (by first | rfl | (simp; done) | (simp [*]; done)), H', ⟨by have := HJ1.out; have := HK2.out; omega⟩, ⟨(a5_ BK198.out)⟩, ⟨(a3_ HB.out GE198.out)⟩⟩
        ·
         replace c20 := Bool.eq_false_iff.mpr c20
         subst c20
         have H1 : (some false) = some r := by rw [if_neg (show ¬ (false = true) by decide)] at H; exact H
         clear H
         have H := H1
         clear H1
         obtain rfl := Option.some.inj H
         obtain ⟨⟨hcz29_0, hcz29_1, hcz29_2⟩, hfz29_0, hfz29_1, hfz29_2⟩ := cells_3 BK198.out
         try go_wp2
         have n0_ := Aside0.mk (blk_drew BK198.out)
         have n1_ := Aside0.mk (below_drew1 HB.out)
         clear BK198
         clear HB
         have BK198 := n0_
         have HB := n1_
         clear n0_ n1_
         have p202 : 0 ≤ (x3_2 : Int) := of_decide_eq_true (by first | (with_reducible assumption) | assumption)
         have q202 : x3_2 < (l0_1.length : Int) := of_decide_eq_true (by first | (with_reducible assumption) | assumption)
         obtain ⟨ad202, A202_7, c202_7, e202, hx202_0, hx202_1, hx202_2, hx202_3, hx202_4, hx202_5, hx202_6, hx202_7, hx202_8, hl202_7, hi202_7⟩ := at_T43 HR0_1.out x3_2 p202 q202
         have hw202_8 := hx202_8
         have hw202_7 := hx202_7
         have hw202_6 := hx202_6
         have hw202_5 := hx202_5
         have hw202_4 := hx202_4
         have hw202_3 := hx202_3
         have hw202_2 := hx202_2
         have hw202_1 := hx202_1
         have hw202_0 := hx202_0
         cases e202
         replace hx202_0 := ce_ HB.out hx202_0
         replace hx202_1 := ce_ HB.out hx202_1
         replace hx202_2 := ce_ HB.out hx202_2
         replace hx202_3 := ce_ HB.out hx202_3
         replace hx202_4 := ce_ HB.out hx202_4
         replace hx202_5 := ce_ HB.out hx202_5
         replace hx202_6 := ce_ HB.out hx202_6
         replace hx202_7 := ce_ HB.out hx202_7
         replace hx202_8 := ce_ HB.out hx202_8
         have HR202_7 := Aside0.mk hi202_7
         have HC202_7 := Aside0.mk hl202_7
         clear hi202_7 hl202_7
         replace p202 := eq_true p202
         replace q202 := eq_true q202
         refine start_ (n := 21) (S := fun w' => w'.cell? ⟨gb198, 0, none⟩ = some (.int .i64 a0_0) ∧ w'.cell? ⟨gb198, 1, none⟩ = some (.slice (some ad202) l0_1.length c0_1) ∧ w'.cell? ⟨gb198, 2, none⟩ = some (.slice A0_2 l0_2.length c0_2) ∧ w'.cell? (ad202.add ((x3_2).toNat * 9)) = some (.int .i64 ((rd_T43 l0_1 x3_2).f0)) ∧ w'.cell? ⟨(ad202.add ((x3_2).toNat * 9)).block, (ad202.add ((x3_2).toNat * 9)).off + 1, none⟩ = some (.int .i64 ((rd_T43 l0_1 x3_2).f1)) ∧ w'.cell? ⟨(ad202.add ((x3_2).toNat * 9)).block, (ad202.add ((x3_2).toNat * 9)).off + 2, none⟩ = some (.int .i64 ((rd_T43 l0_1 x3_2).f2)) ∧ w'.cell? ⟨(ad202.add ((x3_2).toNat * 9)).block, (ad202.add ((x3_2).toNat * 9)).off + 3, none⟩ = some (.int .i64 ((rd_T43 l0_1 x3_2).f3)) ∧ w'.cell? ⟨(ad202.add ((x3_2).toNat * 9)).block, (ad202.add ((x3_2).toNat * 9)).off + 4, none⟩ = some (.int .i64 ((rd_T43 l0_1 x3_2).f4)) ∧ w'.cell? ⟨(ad202.add ((x3_2).toNat * 9)).block, (ad202.add ((x3_2).toNat * 9)).off + 5, none⟩ = some (.int .i64 ((rd_T43 l0_1 x3_2).f5)) ∧ w'.cell? ⟨(ad202.add ((x3_2).toNat * 9)).block, (ad202.add ((x3_2).toNat * 9)).off + 6, none⟩ = some (.string ((rd_T43 l0_1 x3_2).f6)) ∧ w'.cell? ⟨(ad202.add ((x3_2).toNat * 9)).block, (ad202.add ((x3_2).toNat * 9)).off + 7, none⟩ = some (.slice A202_7 ((rd_T43 l0_1 x3_2).f7).length c202_7) ∧ w'.cell? ⟨(ad202.add ((x3_2).toNat * 9)).block, (ad202.add ((x3_2).toNat * 9)).off + 8, none⟩ = some (.int .i64 ((rd_T43 l0_1 x3_2).f8))) (ds := []) #[false, false, false, false, false, false, false, false, false, false, false, false, false, false, false, false, false, false, false, false, false] (by kernel_rfl) rfl rfl ⟨(blk_cell BK198.out 0).trans rfl, (blk_cell BK198.out 1).trans rfl, (blk_cell BK198.out 2).trans rfl, (ce_ HB.out hw202_0 :), (ce_ HB.out hw202_1 :), (ce_ HB.out hw202_2 :), (ce_ HB.out hw202_3 :), (ce_ HB.out hw202_4 :), (ce_ HB.out hw202_5 :), (ce_ HB.out hw202_6 :), (ce_ HB.out hw202_7 :), (ce_ HB.out hw202_8 :)⟩ (fun hHeld => ?_); refine with_tabW spec_GraphRight.tab6 spec_GraphRight.bits6 (fun HT_ HW_ => ?_)
         generalize wr.drew = w30 at BK198 HB HR202_7 hx202_0 hx202_1 hx202_2 hx202_3 hx202_4 hx202_5 hx202_6 hx202_7 hx202_8 hHeld ⊢
         refine pure_ (i := 0) (N := some 34) (v := ?_) (a' := ?_) #[true, false, false, false, false, false, false, false, false, false, false, false, false, false, false, false, false, false, false, false, false] rfl rfl (any_of HT_.out (by kernel_rfl)) (fun _ _ _ h => h) (Or.inl ⟨by rfl, ?_⟩) ?_ ?_
         rotate_left
         ·
          intro w'
          go_simp
          with_reducible rfl
         rotate_left
         ·
          simp only [Act.put, lS, l0_, l1_, i64_w, i32_w]
          rfl
         refine pure_ (i := 2) (N := some 36) (v := ?_) (a' := ?_) #[true, false, true, false, false, false, false, false, false, false, false, false, false, false, false, false, false, false, false, false, false] rfl rfl (any_of HT_.out (by kernel_rfl)) (fun _ _ _ h => h) (Or.inl ⟨by rfl, ?_⟩) ?_ ?_
         rotate_left
         ·
          intro w'
          go_simp
          with_reducible rfl
         rotate_left
         ·
          simp only [Act.put, lS, l0_, l1_, i64_w, i32_w]
          rfl
         refine pure_ (i := 4) (N := some 38) (v := ?_) (a' := ?_) #[true, false, true, false, true, false, false, false, false, false, false, false, false, false, false, false, false, false, false, false, false] rfl rfl (any_of HT_.out (by kernel_rfl)) (fun _ _ _ h => h) (Or.inl ⟨by rfl, ?_⟩) ?_ ?_
         rotate_left
         ·
          intro w'
          go_simp
          with_reducible rfl
         rotate_left
         ·
          simp only [Act.put, lS, l0_, l1_, i64_w, i32_w]
          rfl
         refine take_ (i := 1) (N := some 35) (v := ?_) (a' := ?_) #[true, true, true, false, true, false, false, false, false, false, false, false, false, false, false, false, false, false, false, false, false] rfl rfl (take_ofW HT_.out HW_.out (by kernel_rfl)) (fun _ _ _ h => h) (Or.inl ⟨by rfl, ?_⟩) hHeld ?_ ?_
         rotate_left
         ·
          rintro w' ⟨s0, s1, s2, s3, s4, s5, s6, s7, s8, s9, s10, s11⟩
          go_simp
          with_reducible rfl
         rotate_left
         ·
          simp only [Act.put, lS, l0_, l1_, i64_w, i32_w]
          rfl
         refine take_ (i := 3) (N := some 37) (v := ?_) (a' := ?_) #[true, true, true, true, true, false, false, false, false, false, false, false, false, false, false, false, false, false, false, false, false] rfl rfl (take_ofW HT_.out HW_.out (by kernel_rfl)) (fun _ _ _ h => h) (Or.inl ⟨by rfl, ?_⟩) hHeld ?_ ?_
         rotate_left
         ·
          rintro w' ⟨s0, s1, s2, s3, s4, s5, s6, s7, s8, s9, s10, s11⟩
          go_simp
          with_reducible rfl
         rotate_left
         ·
          simp only [Act.put, lS, l0_, l1_, i64_w, i32_w]
          rfl
         refine pure_ (i := 5) (N := some 39) (v := ?_) (a' := ?_) #[true, true, true, true, true, true, false, false, false, false, false, false, false, false, false, false, false, false, false, false, false] rfl rfl (any_of HT_.out (by kernel_rfl)) (fun _ _ _ h => h) (Or.inl ⟨by rfl, ?_⟩) ?_ ?_
         rotate_left
         ·
          intro w'
          go_simp
          with_reducible rfl
         rotate_left
         ·
          simp only [Act.put, lS, l0_, l1_, i64_w, i32_w]
          rfl
         refine take_ (i := 6) (N := some 40) (v := ?_) (a' := ?_) #[true, true, true, true, true, true, true, false, false, false, false, false, false, false, false, false, false, false, false, false, false] rfl rfl (take_ofW HT_.out HW_.out (by kernel_rfl)) (fun _ _ _ h => h) (Or.inl ⟨by rfl, ?_⟩) hHeld ?_ ?_
         rotate_left
         ·
          rintro w' ⟨s0, s1, s2, s3, s4, s5, s6, s7, s8, s9, s10, s11⟩
          go_simp
          with_reducible rfl
         rotate_left
         ·
          simp only [Act.put, lS, l0_, l1_, i64_w, i32_w]
          rfl
         refine one_ (i := 7) (N := some 41) #[true, true, true, true, true, true, true, true, false, false, false, false, false, false, false, false, false, false, false, false, false] rfl rfl (one_of HT_.out (by kernel_rfl)) (by decide) (fun K hK => ?_)
         refine goes_ Try.func18 (by kernel_rfl) rfl #[.slice (some ad202) l0_1.length c0_1, .agg #[.int .i64 ((rd_T43 l0_1 x3_2).f0), .int .i64 ((rd_T43 l0_1 x3_2).f1), .int .i64 ((rd_T43 l0_1 x3_2).f2), .int .i64 ((rd_T43 l0_1 x3_2).f3), .int .i64 ((rd_T43 l0_1 x3_2).f4), .int .i64 ((rd_T43 l0_1 x3_2).f5), .string ((rd_T43 l0_1 x3_2).f6), .slice A202_7 ((rd_T43 l0_1 x3_2).f7).length c202_7, .int .i64 ((rd_T43 l0_1 x3_2).f8)]] (by rfl) rfl rfl (by (try simp only [List.map_toArray, List.map_cons, List.map_nil]); first | done | rfl | (simp only [List.length_drop, List.length_take]; rfl)) ?_
         with_reducible refine (spec_l03All.calls k2 _ _ l0_1 ((rd_T43 l0_1 x3_2).f0) ((rd_T43 l0_1 x3_2).f1) ((rd_T43 l0_1 x3_2).f2) ((rd_T43 l0_1 x3_2).f3) ((rd_T43 l0_1 x3_2).f4) ((rd_T43 l0_1 x3_2).f5) ((rd_T43 l0_1 x3_2).f6) _ _ ((rd_T43 l0_1 x3_2).f7) ((rd_T43 l0_1 x3_2).f8) false _ ?side1 ?side2 ?side3 ?side4 A19.out).mono ?_
         (case side1 => repeat (first | exact (Kd.C_below HR0_1.out HB.out) | (with_reducible refine Kd.C_alloc ?_ _) | (with_reducible refine Kd.C_drewN ?_ _) | (with_reducible refine Kd.C_drew ?_)))
         (case side2 => exact HC0_1.out)
         (case side3 => repeat (first | exact (Kd.C_below HR202_7.out HB.out) | (with_reducible refine Kd.C_alloc ?_ _) | (with_reducible refine Kd.C_drewN ?_ _) | (with_reducible refine Kd.C_drew ?_)))
         (case side4 => exact HC202_7.out)
         rintro e w31 ⟨rfl, hb⟩
         refine ⟨_, rfl, ?_⟩
         have n0_ := Aside0.mk (blk_below (g := gb198) (o := .cells #[.int .i64 a0_0, .slice (some ad202) l0_1.length c0_1, .slice A0_2 l0_2.length c0_2] 29 (0, 0)) (a5_ BK198.out) hb)
         have n1_ := Aside0.mk (below_step (a3_ HB.out GE198.out) hb)
         clear BK198
         clear HB
         have BK198 := n0_
         have HB := n1_
         clear n0_ n1_
         (try clear hb)
         (try clear hb2)
         (try clear hk)
         (try clear hi)
         refine hK.out _ _ ⟨(blk_cell BK198.out 0).trans rfl, (blk_cell BK198.out 1).trans rfl, (blk_cell BK198.out 2).trans rfl, (ce_ HB.out hw202_0 :), (ce_ HB.out hw202_1 :), (ce_ HB.out hw202_2 :), (ce_ HB.out hw202_3 :), (ce_ HB.out hw202_4 :), (ce_ HB.out hw202_5 :), (ce_ HB.out hw202_6 :), (ce_ HB.out hw202_7 :), (ce_ HB.out hw202_8 :)⟩ (fun hHeld => ?_)
         clear hK K
         refine norm_ (a' := ?_) ?_ ?_
         rotate_left
         ·
          show Act.put _ (some 41) _ = _
          simp only [Act.put, lS, l0_, l1_, i64_w, i32_w]
          rfl
         refine pure_ (i := 8) (N := some 42) (v := ?_) (a' := ?_) #[true, true, true, true, true, true, true, true, true, false, false, false, false, false, false, false, false, false, false, false, false] rfl rfl (any_of HT_.out (by kernel_rfl)) (fun _ _ _ h => h) (Or.inl ⟨by rfl, ?_⟩) ?_ ?_
         rotate_left
         ·
          intro w'
          go_simp
          with_reducible rfl
         rotate_left
         ·
          simp only [Act.put, lS, l0_, l1_, i64_w, i32_w]
          rfl
         refine pure_ (i := 9) (N := some 43) (v := ?_) (a' := ?_) #[true, true, true, true, true, true, true, true, true, true, false, false, false, false, false, false, false, false, false, false, false] rfl rfl (any_of HT_.out (by kernel_rfl)) (fun _ _ _ h => h) (Or.inl ⟨by rfl, ?_⟩) ?_ ?_
         rotate_left
         ·
          intro w'
          go_simp
          with_reducible rfl
         rotate_left
         ·
          simp only [Act.put, lS, l0_, l1_, i64_w, i32_w]
          rfl
         refine pure_ (i := 10) (N := some 44) (v := undef) (a' := ?_) #[true, true, true, true, true, true, true, true, true, true, true, false, false, false, false, false, false, false, false, false, false] rfl rfl (any_of HT_.out (by kernel_rfl)) (fun _ _ _ h => h) (Or.inr ⟨by rfl, rfl⟩) ?_ ?_
         rotate_left
         ·
          simp only [Act.put, lS, l0_, l1_, i64_w, i32_w]
          rfl
         refine pure_ (i := 11) (N := some 45) (v := undef) (a' := ?_) #[true, true, true, true, true, true, true, true, true, true, true, true, false, false, false, false, false, false, false, false, false] rfl rfl (any_of HT_.out (by kernel_rfl)) (fun _ _ _ h => h) (Or.inr ⟨by rfl, rfl⟩) ?_ ?_
         rotate_left
         ·
          simp only [Act.put, lS, l0_, l1_, i64_w, i32_w]
          rfl
         refine pure_ (i := 12) (N := some 46) (v := undef) (a' := ?_) #[true, true, true, true, true, true, true, true, true, true, true, true, true, false, false, false, false, false, false, false, false] rfl rfl (any_of HT_.out (by kernel_rfl)) (fun _ _ _ h => h) (Or.inr ⟨by rfl, rfl⟩) ?_ ?_
         rotate_left
         ·
          simp only [Act.put, lS, l0_, l1_, i64_w, i32_w]
          rfl
         refine pure_ (i := 13) (N := some 47) (v := undef) (a' := ?_) #[true, true, true, true, true, true, true, true, true, true, true, true, true, true, false, false, false, false, false, false, false] rfl rfl (any_of HT_.out (by kernel_rfl)) (fun _ _ _ h => h) (Or.inr ⟨by rfl, rfl⟩) ?_ ?_
         rotate_left
         ·
          simp only [Act.put, lS, l0_, l1_, i64_w, i32_w]
          rfl
         refine pure_ (i := 14) (N := some 48) (v := undef) (a' := ?_) #[true, true, true, true, true, true, true, true, true, true, true, true, true, true, true, false, false, false, false, false, false] rfl rfl (any_of HT_.out (by kernel_rfl)) (fun _ _ _ h => h) (Or.inr ⟨by rfl, rfl⟩) ?_ ?_
         rotate_left
         ·
          simp only [Act.put, lS, l0_, l1_, i64_w, i32_w]
          rfl
         refine pure_ (i := 15) (N := some 49) (v := undef) (a' := ?_) #[true, true, true, true, true, true, true, true, true, true, true, true, true, true, true, true, false, false, false, false, false] rfl rfl (any_of HT_.out (by kernel_rfl)) (fun _ _ _ h => h) (Or.inr ⟨by rfl, rfl⟩) ?_ ?_
         rotate_left
         ·
          simp only [Act.put, lS, l0_, l1_, i64_w, i32_w]
          rfl
         refine pure_ (i := 16) (N := some 50) (v := undef) (a' := ?_) #[true, true, true, true, true, true, true, true, true, true, true, true, true, true, true, true, true, false, false, false, false] rfl rfl (any_of HT_.out (by kernel_rfl)) (fun _ _ _ h => h) (Or.inr ⟨by rfl, rfl⟩) ?_ ?_
         rotate_left
         ·
          simp only [Act.put, lS, l0_, l1_, i64_w, i32_w]
          rfl
         refine pure_ (i := 17) (N := some 51) (v := undef) (a' := ?_) #[true, true, true, true, true, true, true, true, true, true, true, true, true, true, true, true, true, true, false, false, false] rfl rfl (any_of HT_.out (by kernel_rfl)) (fun _ _ _ h => h) (Or.inr ⟨by rfl, rfl⟩) ?_ ?_
         rotate_left
         ·
          simp only [Act.put, lS, l0_, l1_, i64_w, i32_w]
          rfl
         refine pure_ (i := 18) (N := some 52) (v := undef) (a' := ?_) #[true, true, true, true, true, true, true, true, true, true, true, true, true, true, true, true, true, true, true, false, false] rfl rfl (any_of HT_.out (by kernel_rfl)) (fun _ _ _ h => h) (Or.inr ⟨by rfl, rfl⟩) ?_ ?_
         rotate_left
         ·
          simp only [Act.put, lS, l0_, l1_, i64_w, i32_w]
          rfl
         refine pure_ (i := 19) (N := some 53) (v := undef) (a' := ?_) #[true, true, true, true, true, true, true, true, true, true, true, true, true, true, true, true, true, true, true, true, false] rfl rfl (any_of HT_.out (by kernel_rfl)) (fun _ _ _ h => h) (Or.inr ⟨by rfl, rfl⟩) ?_ ?_
         rotate_left
         ·
          simp only [Act.put, lS, l0_, l1_, i64_w, i32_w]
          rfl
         refine pure_ (i := 20) (N := some 54) (v := ?_) (a' := ?_) #[true, true, true, true, true, true, true, true, true, true, true, true, true, true, true, true, true, true, true, true, true] rfl rfl (any_of HT_.out (by kernel_rfl)) (fun _ _ _ h => h) (Or.inl ⟨by rfl, ?_⟩) ?_ ?_
         rotate_left
         ·
          intro w'
          go_simp
          with_reducible rfl
         rotate_left
         ·
          simp only [Act.put, lS, l0_, l1_, i64_w, i32_w]
          rfl
         refine done_ (done_of HT_.out (by kernel_rfl)) ?_
         try go_wp2
         go_ret
         exact ⟨a2_, (a3_ HB.out GE198.out)⟩
       ·
        rw [if_neg c18] at H
        exact absurd H (by simp)
      ·
       rw [if_neg c17] at H
       have c17b0 : decide (x3_2 < (l0_1.length : Int)) = false := decide_eq_false c17
       clear c17
       have H' := Aside0.mk H
       clear H
       obtain ⟨⟨hcz32_0, hcz32_1, hcz32_2⟩, hfz32_0, hfz32_1, hfz32_2⟩ := cells_3 BK198.out
       go_wp2
       go_loopg [4] k2 (fun kq v4 w' => ∃ (x4_3 : Int), v4 = .int .i64 x4_3 ∧ Aside0 (spec_GraphRight.l1 kq x4_3 a0_0 l0_1 l0_2 = some r) ∧ Aside0 (kq ≤ k2) ∧ Aside0 (w'.heap[gb198]? = some (.cells #[.int .i64 a0_0, (.slice A0_1 l0_1.length c0_1), (.slice A0_2 l0_2.length c0_2)] 29 (0, 0))) ∧ Aside0 (Below w.heap.size w w'))
       case atStart => exact ⟨(0), (by first | rfl | (simp; done) | (simp [*]; done)), H', ⟨Nat.le_refl _⟩, ⟨(a5_ BK198.out)⟩, ⟨(a3_ HB.out GE198.out)⟩⟩
       case round =>
        clear H'
        try clear c1
        try clear c2
        try clear p2
        try clear q2
        try clear hx2
        try clear p6
        try clear c17
        try clear c17b0
        try clear c18
        try clear c19
        try clear c20
        try clear p20
        try clear q20
        try clear hx20
        try clear c22
        try clear c22b0
        try clear hcz26_0
        try clear hcz26_1
        try clear hcz26_2
        try clear hcz29_0
        try clear hcz29_1
        try clear hcz29_2
        try clear hcz32_0
        try clear hcz32_1
        try clear hcz32_2
        try clear hfz26_0
        try clear hfz26_1
        try clear hfz26_2
        try clear hfz29_0
        try clear hfz29_1
        try clear hfz29_2
        try clear hfz32_0
        try clear hfz32_1
        try clear hfz32_2
        try clear hx202_0
        try clear hx202_1
        try clear hx202_2
        try clear hx202_3
        try clear hx202_4
        try clear hx202_5
        try clear hx202_6
        try clear hx202_7
        try clear hx202_8
        try clear hx204_0
        try clear hx204_1
        try clear hx204_2
        try clear hx204_3
        try clear hx204_4
        try clear hx204_5
        try clear hx204_6
        try clear hx204_7
        try clear hx204_8
        try clear p202
        try clear p204
        try clear q202
        try clear q204
        obtain ⟨x4_3, rfl, HA, HK3, BK198, HB⟩ := hrel
        cases gk with
        | zero => exact absurd HA.out (by simp [spec_GraphRight.l1])
        | succ k3 =>
         have H := HA.out
         clear HA
         simp only [spec_GraphRight.l1] at H
         by_cases c33 : x4_3 < (l0_2.length : Int)
         ·
          rw [if_pos c33] at H
          have c33b0 : decide (x4_3 < (l0_2.length : Int)) = true := decide_eq_true c33
          clear c33
          by_cases c34 : 0 ≤ x4_3
          ·
           rw [if_pos c34] at H
           have c34b0 : decide (0 ≤ x4_3) = true := decide_eq_true c34
           clear c34
           replace H := Option.bind_eq_some_iff.mp H
           obtain ⟨t207, A350, H⟩ := H
           replace H : (if t207 = true then (some false) else (spec_GraphRight.l1 k3 (wrap64 (x4_3 + 1)) a0_0 l0_1 l0_2)) = some r := H
           have A35 := Aside0.mk A350
           clear A350
           by_cases c36 : t207 = true
           ·
            subst c36
            have H1 : (some false) = some r := by rw [if_pos rfl] at H; exact H
            clear H
            have H := H1
            clear H1
            obtain rfl := Option.some.inj H
            obtain ⟨⟨hcz37_0, hcz37_1, hcz37_2⟩, hfz37_0, hfz37_1, hfz37_2⟩ := cells_3 BK198.out
            try go_wp2
            have n0_ := Aside0.mk (blk_drew BK198.out)
            have n1_ := Aside0.mk (below_drew1 HB.out)
            clear BK198
            clear HB
            have BK198 := n0_
            have HB := n1_
            clear n0_ n1_
            have p206 : 0 ≤ (x4_3 : Int) := of_decide_eq_true (by first | (with_reducible assumption) | assumption)
            have q206 : x4_3 < (l0_2.length : Int) := of_decide_eq_true (by first | (with_reducible assumption) | assumption)
            obtain ⟨ad206, A206_7, c206_7, e206, hx206_0, hx206_1, hx206_2, hx206_3, hx206_4, hx206_5, hx206_6, hx206_7, hx206_8, hl206_7, hi206_7⟩ := at_T43 HR0_2.out x4_3 p206 q206
            have hw206_8 := hx206_8
            have hw206_7 := hx206_7
            have hw206_6 := hx206_6
            have hw206_5 := hx206_5
            have hw206_4 := hx206_4
            have hw206_3 := hx206_3
            have hw206_2 := hx206_2
            have hw206_1 := hx206_1
            have hw206_0 := hx206_0
            cases e206
            replace hx206_0 := ce_ HB.out hx206_0
            replace hx206_1 := ce_ HB.out hx206_1
            replace hx206_2 := ce_ HB.out hx206_2
            replace hx206_3 := ce_ HB.out hx206_3
            replace hx206_4 := ce_ HB.out hx206_4
            replace hx206_5 := ce_ HB.out hx206_5
            replace hx206_6 := ce_ HB.out hx206_6
            replace hx206_7 := ce_ HB.out hx206_7
            replace hx206_8 := ce_ HB.out hx206_8
            have HR206_7 := Aside0.mk hi206_7
            have HC206_7 := Aside0.mk hl206_7
            clear hi206_7 hl206_7
            replace p206 := eq_true p206
            replace q206 := eq_true q206
            refine start_ (n := 8) (S := fun w' => w'.cell? ⟨gb198, 0, none⟩ = some (.int .i64 a0_0) ∧ w'.cell? ⟨gb198, 1, none⟩ = some (.slice A0_1 l0_1.length c0_1) ∧ w'.cell? ⟨gb198, 2, none⟩ = some (.slice (some ad206) l0_2.length c0_2) ∧ w'.cell? (ad206.add ((x4_3).toNat * 9)) = some (.int .i64 ((rd_T43 l0_2 x4_3).f0)) ∧ w'.cell? ⟨(ad206.add ((x4_3).toNat * 9)).block, (ad206.add ((x4_3).toNat * 9)).off + 1, none⟩ = some (.int .i64 ((rd_T43 l0_2 x4_3).f1)) ∧ w'.cell? ⟨(ad206.add ((x4_3).toNat * 9)).block, (ad206.add ((x4_3).toNat * 9)).off + 2, none⟩ = some (.int .i64 ((rd_T43 l0_2 x4_3).f2)) ∧ w'.cell? ⟨(ad206.add ((x4_3).toNat * 9)).block, (ad206.add ((x4_3).toNat * 9)).off + 3, none⟩ = some (.int .i64 ((rd_T43 l0_2 x4_3).f3)) ∧ w'.cell? ⟨(ad206.add ((x4_3).toNat * 9)).block, (ad206.add ((x4_3).toNat * 9)).off + 4, none⟩ = some (.int .i64 ((rd_T43 l0_2 x4_3).f4)) ∧ w'.cell? ⟨(ad206.add ((x4_3).toNat * 9)).block, (ad206.add ((x4_3).toNat * 9)).off + 5, none⟩ = some (.int .i64 ((rd_T43 l0_2 x4_3).f5)) ∧ w'.cell? ⟨(ad206.add ((x4_3).toNat * 9)).block, (ad206.add ((x4_3).toNat * 9)).off + 6, none⟩ = some (.string ((rd_T43 l0_2 x4_3).f6)) ∧ w'.cell? ⟨(ad206.add ((x4_3).toNat * 9)).block, (ad206.add ((x4_3).toNat * 9)).off + 7, none⟩ = some (.slice A206_7 ((rd_T43 l0_2 x4_3).f7).length c206_7) ∧ w'.cell? ⟨(ad206.add ((x4_3).toNat * 9)).block, (ad206.add ((x4_3).toNat * 9)).off + 8, none⟩ = some (.int .i64 ((rd_T43 l0_2 x4_3).f8))) (ds := []) #[false, false, false, false, false, false, false, false] (by kernel_rfl) rfl rfl ⟨(blk_cell BK198.out 0).trans rfl, (blk_cell BK198.out 1).trans rfl, (blk_cell BK198.out 2).trans rfl, (ce_ HB.out hw206_0 :), (ce_ HB.out hw206_1 :), (ce_ HB.out hw206_2 :), (ce_ HB.out hw206_3 :), (ce_ HB.out hw206_4 :), (ce_ HB.out hw206_5 :), (ce_ HB.out hw206_6 :), (ce_ HB.out hw206_7 :), (ce_ HB.out hw206_8 :)⟩ (fun hHeld => ?_); refine with_tabW spec_GraphRight.tab11 spec_GraphRight.bits11 (fun HT_ HW_ => ?_)
            generalize wr.drew = w38 at BK198 HB HR206_7 hx206_0 hx206_1 hx206_2 hx206_3 hx206_4 hx206_5 hx206_6 hx206_7 hx206_8 hHeld ⊢
            refine pure_ (i := 0) (N := some 62) (v := ?_) (a' := ?_) #[true, false, false, false, false, false, false, false] rfl rfl (any_of HT_.out (by kernel_rfl)) (fun _ _ _ h => h) (Or.inl ⟨by rfl, ?_⟩) ?_ ?_
            rotate_left
            ·
             intro w'
             go_simp
             with_reducible rfl
            rotate_left
            ·
             simp only [Act.put, lS, l0_, l1_, i64_w, i32_w]
             rfl
            refine pure_ (i := 2) (N := some 64) (v := ?_) (a' := ?_) #[true, false, true, false, false, false, false, false] rfl rfl (any_of HT_.out (by kernel_rfl)) (fun _ _ _ h => h) (Or.inl ⟨by rfl, ?_⟩) ?_ ?_
            rotate_left
            ·
             intro w'
             go_simp
             with_reducible rfl
            rotate_left
            ·
             simp only [Act.put, lS, l0_, l1_, i64_w, i32_w]
             rfl
            refine pure_ (i := 4) (N := some 66) (v := ?_) (a' := ?_) #[true, false, true, false, true, false, false, false] rfl rfl (any_of HT_.out (by kernel_rfl)) (fun _ _ _ h => h) (Or.inl ⟨by rfl, ?_⟩) ?_ ?_
            rotate_left
            ·
             intro w'
             go_simp
             with_reducible rfl
            rotate_left
            ·
             simp only [Act.put, lS, l0_, l1_, i64_w, i32_w]
             rfl
            refine take_ (i := 1) (N := some 63) (v := ?_) (a' := ?_) #[true, true, true, false, true, false, false, false] rfl rfl (take_ofW HT_.out HW_.out (by kernel_rfl)) (fun _ _ _ h => h) (Or.inl ⟨by rfl, ?_⟩) hHeld ?_ ?_
            rotate_left
            ·
             rintro w' ⟨s0, s1, s2, s3, s4, s5, s6, s7, s8, s9, s10, s11⟩
             go_simp
             with_reducible rfl
            rotate_left
            ·
             simp only [Act.put, lS, l0_, l1_, i64_w, i32_w]
             rfl
            refine take_ (i := 3) (N := some 65) (v := ?_) (a' := ?_) #[true, true, true, true, true, false, false, false] rfl rfl (take_ofW HT_.out HW_.out (by kernel_rfl)) (fun _ _ _ h => h) (Or.inl ⟨by rfl, ?_⟩) hHeld ?_ ?_
            rotate_left
            ·
             rintro w' ⟨s0, s1, s2, s3, s4, s5, s6, s7, s8, s9, s10, s11⟩
             go_simp
             with_reducible rfl
            rotate_left
            ·
             simp only [Act.put, lS, l0_, l1_, i64_w, i32_w]
             rfl
            refine pure_ (i := 5) (N := some 67) (v := ?_) (a' := ?_) #[true, true, true, true, true, true, false, false] rfl rfl (any_of HT_.out (by kernel_rfl)) (fun _ _ _ h => h) (Or.inl ⟨by rfl, ?_⟩) ?_ ?_
            rotate_left
            ·
             intro w'
             go_simp
             with_reducible rfl
            rotate_left
            ·
             simp only [Act.put, lS, l0_, l1_, i64_w, i32_w]
             rfl
            refine take_ (i := 6) (N := some 68) (v := ?_) (a' := ?_) #[true, true, true, true, true, true, true, false] rfl rfl (take_ofW HT_.out HW_.out (by kernel_rfl)) (fun _ _ _ h => h) (Or.inl ⟨by rfl, ?_⟩) hHeld ?_ ?_
            rotate_left
            ·
             rintro w' ⟨s0, s1, s2, s3, s4, s5, s6, s7, s8, s9, s10, s11⟩
             go_simp
             with_reducible rfl
            rotate_left
            ·
             simp only [Act.put, lS, l0_, l1_, i64_w, i32_w]
             rfl
            refine one_ (i := 7) (N := some 69) #[true, true, true, true, true, true, true, true] rfl rfl (one_of HT_.out (by kernel_rfl)) (by decide) (fun K hK => ?_)
            refine goes_ Try.func18 (by kernel_rfl) rfl #[.slice A0_1 l0_1.length c0_1, .agg #[.int .i64 ((rd_T43 l0_2 x4_3).f0), .int .i64 ((rd_T43 l0_2 x4_3).f1), .int .i64 ((rd_T43 l0_2 x4_3).f2), .int .i64 ((rd_T43 l0_2 x4_3).f3), .int .i64 ((rd_T43 l0_2 x4_3).f4), .int .i64 ((rd_T43 l0_2 x4_3).f5), .string ((rd_T43 l0_2 x4_3).f6), .slice A206_7 ((rd_T43 l0_2 x4_3).f7).length c206_7, .int .i64 ((rd_T43 l0_2 x4_3).f8)]] (by rfl) rfl rfl (by (try simp only [List.map_toArray, List.map_cons, List.map_nil]); first | done | rfl | (simp only [List.length_drop, List.length_take]; rfl)) ?_
            with_reducible refine (spec_l03All.calls k3 _ _ l0_1 ((rd_T43 l0_2 x4_3).f0) ((rd_T43 l0_2 x4_3).f1) ((rd_T43 l0_2 x4_3).f2) ((rd_T43 l0_2 x4_3).f3) ((rd_T43 l0_2 x4_3).f4) ((rd_T43 l0_2 x4_3).f5) ((rd_T43 l0_2 x4_3).f6) _ _ ((rd_T43 l0_2 x4_3).f7) ((rd_T43 l0_2 x4_3).f8) true _ ?side1 ?side2 ?side3 ?side4 A35.out).mono ?_
            (case side1 => repeat (first | exact (Kd.C_below HR0_1.out HB.out) | (with_reducible refine Kd.C_alloc ?_ _) | (with_reducible refine Kd.C_drewN ?_ _) | (with_reducible refine Kd.C_drew ?_)))
            (case side2 => exact HC0_1.out)
            (case side3 => repeat (first | exact (Kd.C_below HR206_7.out HB.out) | (with_reducible refine Kd.C_alloc ?_ _) | (with_reducible refine Kd.C_drewN ?_ _) | (with_reducible refine Kd.C_drew ?_)))
            (case side4 => exact HC206_7.out)
            rintro e w39 ⟨rfl, hb⟩
            refine ⟨_, rfl, ?_⟩
            have n0_ := Aside0.mk (blk_below (g := gb198) (o := .cells #[.int .i64 a0_0, .slice A0_1 l0_1.length c0_1, .slice (some ad206) l0_2.length c0_2] 29 (0, 0)) (a5_ BK198.out) hb)
            have n1_ := Aside0.mk (below_step (a3_ HB.out GE198.out) hb)
            clear BK198
            clear HB
            have BK198 := n0_
            have HB := n1_
            clear n0_ n1_
            (try clear hb)
            (try clear hb2)
            (try clear hk)
            (try clear hi)
            refine hK.out _ _ ⟨(blk_cell BK198.out 0).trans rfl, (blk_cell BK198.out 1).trans rfl, (blk_cell BK198.out 2).trans rfl, (ce_ HB.out hw206_0 :), (ce_ HB.out hw206_1 :), (ce_ HB.out hw206_2 :), (ce_ HB.out hw206_3 :), (ce_ HB.out hw206_4 :), (ce_ HB.out hw206_5 :), (ce_ HB.out hw206_6 :), (ce_ HB.out hw206_7 :), (ce_ HB.out hw206_8 :)⟩ (fun hHeld => ?_)
            clear hK K
            refine norm_ (a' := ?_) ?_ ?_
            rotate_left
            ·
             show Act.put _ (some 69) _ = _
             simp only [Act.put, lS, l0_, l1_, i64_w, i32_w]
             rfl
            refine done_ (done_of HT_.out (by kernel_rfl)) ?_
            try go_wp2
            go_ret
            exact ⟨a2_, (a3_ HB.out GE198.out)⟩
           ·
            replace c36 := Bool.eq_false_iff.mpr c36
            subst c36
            have H1 : (spec_GraphRight.l1 k3 (wrap64 (x4_3 + 1)) a0_0 l0_1 l0_2) = some r := by rw [if_neg (show ¬ (false = true) by decide)] at H; exact H
            clear H
            have H := H1
            clear H1
            have H' := Aside0.mk H
            clear H
            obtain ⟨⟨hcz40_0, hcz40_1, hcz40_2⟩, hfz40_0, hfz40_1, hfz40_2⟩ := cells_3 BK198.out
            try go_wp2
            have n0_ := Aside0.mk (blk_drew BK198.out)
            have n1_ := Aside0.mk (below_drew1 HB.out)
            clear BK198
            clear HB
            have BK198 := n0_
            have HB := n1_
            clear n0_ n1_
            have p206 : 0 ≤ (x4_3 : Int) := of_decide_eq_true (by first | (with_reducible assumption) | assumption)
            have q206 : x4_3 < (l0_2.length : Int) := of_decide_eq_true (by first | (with_reducible assumption) | assumption)
            obtain ⟨ad206, A206_7, c206_7, e206, hx206_0, hx206_1, hx206_2, hx206_3, hx206_4, hx206_5, hx206_6, hx206_7, hx206_8, hl206_7, hi206_7⟩ := at_T43 HR0_2.out x4_3 p206 q206
            have hw206_8 := hx206_8
            have hw206_7 := hx206_7
            have hw206_6 := hx206_6
            have hw206_5 := hx206_5
            have hw206_4 := hx206_4
            have hw206_3 := hx206_3
            have hw206_2 := hx206_2
            have hw206_1 := hx206_1
            have hw206_0 := hx206_0
            cases e206
            replace hx206_0 := ce_ HB.out hx206_0
            replace hx206_1 := ce_ HB.out hx206_1
            replace hx206_2 := ce_ HB.out hx206_2
            replace hx206_3 := ce_ HB.out hx206_3
            replace hx206_4 := ce_ HB.out hx206_4
            replace hx206_5 := ce_ HB.out hx206_5
            replace hx206_6 := ce_ HB.out hx206_6
            replace hx206_7 := ce_ HB.out hx206_7
            replace hx206_8 := ce_ HB.out hx206_8
            have HR206_7 := Aside0.mk hi206_7
            have HC206_7 := Aside0.mk hl206_7
            clear hi206_7 hl206_7
            replace p206 := eq_true p206
            replace q206 := eq_true q206
            refine start_ (n := 8) (S := fun w' => w'.cell? ⟨gb198, 0, none⟩ = some (.int .i64 a0_0) ∧ w'.cell? ⟨gb198, 1, none⟩ = some (.slice A0_1 l0_1.length c0_1) ∧ w'.cell? ⟨gb198, 2, none⟩ = some (.slice (some ad206) l0_2.length c0_2) ∧ w'.cell? (ad206.add ((x4_3).toNat * 9)) = some (.int .i64 ((rd_T43 l0_2 x4_3).f0)) ∧ w'.cell? ⟨(ad206.add ((x4_3).toNat * 9)).block, (ad206.add ((x4_3).toNat * 9)).off + 1, none⟩ = some (.int .i64 ((rd_T43 l0_2 x4_3).f1)) ∧ w'.cell? ⟨(ad206.add ((x4_3).toNat * 9)).block, (ad206.add ((x4_3).toNat * 9)).off + 2, none⟩ = some (.int .i64 ((rd_T43 l0_2 x4_3).f2)) ∧ w'.cell? ⟨(ad206.add ((x4_3).toNat * 9)).block, (ad206.add ((x4_3).toNat * 9)).off + 3, none⟩ = some (.int .i64 ((rd_T43 l0_2 x4_3).f3)) ∧ w'.cell? ⟨(ad206.add ((x4_3).toNat * 9)).block, (ad206.add ((x4_3).toNat * 9)).off + 4, none⟩ = some (.int .i64 ((rd_T43 l0_2 x4_3).f4)) ∧ w'.cell? ⟨(ad206.add ((x4_3).toNat * 9)).block, (ad206.add ((x4_3).toNat * 9)).off + 5, none⟩ = some (.int .i64 ((rd_T43 l0_2 x4_3).f5)) ∧ w'.cell? ⟨(ad206.add ((x4_3).toNat * 9)).block, (ad206.add ((x4_3).toNat * 9)).off + 6, none⟩ = some (.string ((rd_T43 l0_2 x4_3).f6)) ∧ w'.cell? ⟨(ad206.add ((x4_3).toNat * 9)).block, (ad206.add ((x4_3).toNat * 9)).off + 7, none⟩ = some (.slice A206_7 ((rd_T43 l0_2 x4_3).f7).length c206_7) ∧ w'.cell? ⟨(ad206.add ((x4_3).toNat * 9)).block, (ad206.add ((x4_3).toNat * 9)).off + 8, none⟩ = some (.int .i64 ((rd_T43 l0_2 x4_3).f8))) (ds := []) #[false, false, false, false, false, false, false, false] (by kernel_rfl) rfl rfl ⟨(blk_cell BK198.out 0).trans rfl, (blk_cell BK198.out 1).trans rfl, (blk_cell BK198.out 2).trans rfl, (ce_ HB.out hw206_0 :), (ce_ HB.out hw206_1 :), (ce_ HB.out hw206_2 :), (ce_ HB.out hw206_3 :), (ce_ HB.out hw206_4 :), (ce_ HB.out hw206_5 :), (ce_ HB.out hw206_6 :), (ce_ HB.out hw206_7 :), (ce_ HB.out hw206_8 :)⟩ (fun hHeld => ?_); refine with_tabW spec_GraphRight.tab11 spec_GraphRight.bits11 (fun HT_ HW_ => ?_)
            generalize wr.drew = w41 at BK198 HB HR206_7 hx206_0 hx206_1 hx206_2 hx206_3 hx206_4 hx206_5 hx206_6 hx206_7 hx206_8 hHeld ⊢
            refine pure_ (i := 0) (N := some 62) (v := ?_) (a' := ?_) #[true, false, false, false, false, false, false, false] rfl rfl (any_of HT_.out (by kernel_rfl)) (fun _ _ _ h => h) (Or.inl ⟨by rfl, ?_⟩) ?_ ?_
            rotate_left
            ·
             intro w'
             go_simp
             with_reducible rfl
            rotate_left
            ·
             simp only [Act.put, lS, l0_, l1_, i64_w, i32_w]
             rfl
            refine pure_ (i := 2) (N := some 64) (v := ?_) (a' := ?_) #[true, false, true, false, false, false, false, false] rfl rfl (any_of HT_.out (by kernel_rfl)) (fun _ _ _ h => h) (Or.inl ⟨by rfl, ?_⟩) ?_ ?_
            rotate_left
            ·
             intro w'
             go_simp
             with_reducible rfl
            rotate_left
            ·
             simp only [Act.put, lS, l0_, l1_, i64_w, i32_w]
             rfl
            refine pure_ (i := 4) (N := some 66) (v := ?_) (a' := ?_) #[true, false, true, false, true, false, false, false] rfl rfl (any_of HT_.out (by kernel_rfl)) (fun _ _ _ h => h) (Or.inl ⟨by rfl, ?_⟩) ?_ ?_
            rotate_left
            ·
             intro w'
             go_simp
             with_reducible rfl
            rotate_left
            ·
             simp only [Act.put, lS, l0_, l1_, i64_w, i32_w]
             rfl
            refine take_ (i := 1) (N := some 63) (v := ?_) (a' := ?_) #[true, true, true, false, true, false, false, false] rfl rfl (take_ofW HT_.out HW_.out (by kernel_rfl)) (fun _ _ _ h => h) (Or.inl ⟨by rfl, ?_⟩) hHeld ?_ ?_
            rotate_left
            ·
             rintro w' ⟨s0, s1, s2, s3, s4, s5, s6, s7, s8, s9, s10, s11⟩
             go_simp
             with_reducible rfl
            rotate_left
            ·
             simp only [Act.put, lS, l0_, l1_, i64_w, i32_w]
             rfl
            refine take_ (i := 3) (N := some 65) (v := ?_) (a' := ?_) #[true, true, true, true, true, false, false, false] rfl rfl (take_ofW HT_.out HW_.out (by kernel_rfl)) (fun _ _ _ h => h) (Or.inl ⟨by rfl, ?_⟩) hHeld ?_ ?_
            rotate_left
            ·
             rintro w' ⟨s0, s1, s2, s3, s4, s5, s6, s7, s8, s9, s10, s11⟩
             go_simp
             with_reducible rfl
            rotate_left
            ·
             simp only [Act.put, lS, l0_, l1_, i64_w, i32_w]
             rfl
            refine pure_ (i := 5) (N := some 67) (v := ?_) (a' := ?_) #[true, true, true, true, true, true, false, false] rfl rfl (any_of HT_.out (by kernel_rfl)) (fun _ _ _ h => h) (Or.inl ⟨by rfl, ?_⟩) ?_ ?_
            rotate_left
            ·
             intro w'
             go_simp
             with_reducible rfl
            rotate_left
            ·
             simp only [Act.put, lS, l0_, l1_, i64_w, i32_w]
             rfl
            refine take_ (i := 6) (N := some 68) (v := ?_) (a' := ?_) #[true, true, true, true, true, true, true, false] rfl rfl (take_ofW HT_.out HW_.out (by kernel_rfl)) (fun _ _ _ h => h) (Or.inl ⟨by rfl, ?_⟩) hHeld ?_ ?_
            rotate_left
            ·
             rintro w' ⟨s0, s1, s2, s3, s4, s5, s6, s7, s8, s9, s10, s11⟩
             go_simp
             with_reducible rfl
            rotate_left
            ·
             simp only [Act.put, lS, l0_, l1_, i64_w, i32_w]
             rfl
            refine one_ (i := 7) (N := some 69) #[true, true, true, true, true, true, true, true] rfl rfl (one_of HT_.out (by kernel_rfl)) (by decide) (fun K hK => ?_)
            refine goes_ Try.func18 (by kernel_rfl) rfl #[.slice A0_1 l0_1.length c0_1, .agg #[.int .i64 ((rd_T43 l0_2 x4_3).f0), .int .i64 ((rd_T43 l0_2 x4_3).f1), .int .i64 ((rd_T43 l0_2 x4_3).f2), .int .i64 ((rd_T43 l0_2 x4_3).f3), .int .i64 ((rd_T43 l0_2 x4_3).f4), .int .i64 ((rd_T43 l0_2 x4_3).f5), .string ((rd_T43 l0_2 x4_3).f6), .slice A206_7 ((rd_T43 l0_2 x4_3).f7).length c206_7, .int .i64 ((rd_T43 l0_2 x4_3).f8)]] (by rfl) rfl rfl (by (try simp only [List.map_toArray, List.map_cons, List.map_nil]); first | done | rfl | (simp only [List.length_drop, List.length_take]; rfl)) ?_
            with_reducible refine (spec_l03All.calls k3 _ _ l0_1 ((rd_T43 l0_2 x4_3).f0) ((rd_T43 l0_2 x4_3).f1) ((rd_T43 l0_2 x4_3).f2) ((rd_T43 l0_2 x4_3).f3) ((rd_T43 l0_2 x4_3).f4) ((rd_T43 l0_2 x4_3).f5) ((rd_T43 l0_2 x4_3).f6) _ _ ((rd_T43 l0_2 x4_3).f7) ((rd_T43 l0_2 x4_3).f8) false _ ?side1 ?side2 ?side3 ?side4 A35.out).mono ?_
            (case side1 => repeat (first | exact (Kd.C_below HR0_1.out HB.out) | (with_reducible refine Kd.C_alloc ?_ _) | (with_reducible refine Kd.C_drewN ?_ _) | (with_reducible refine Kd.C_drew ?_)))
            (case side2 => exact HC0_1.out)
            (case side3 => repeat (first | exact (Kd.C_below HR206_7.out HB.out) | (with_reducible refine Kd.C_alloc ?_ _) | (with_reducible refine Kd.C_drewN ?_ _) | (with_reducible refine Kd.C_drew ?_)))
            (case side4 => exact HC206_7.out)
            rintro e w42 ⟨rfl, hb⟩
            refine ⟨_, rfl, ?_⟩
            have n0_ := Aside0.mk (blk_below (g := gb198) (o := .cells #[.int .i64 a0_0, .slice A0_1 l0_1.length c0_1, .slice (some ad206) l0_2.length c0_2] 29 (0, 0)) (a5_ BK198.out) hb)
            have n1_ := Aside0.mk (below_step (a3_ HB.out GE198.out) hb)
            clear BK198
            clear HB
            have BK198 := n0_
            have HB := n1_
            clear n0_ n1_
            (try clear hb)
            (try clear hb2)
            (try clear hk)
            (try clear hi)
            refine hK.out _ _ ⟨(blk_cell BK198.out 0).trans rfl, (blk_cell BK198.out 1).trans rfl, (blk_cell BK198.out 2).trans rfl, (ce_ HB.out hw206_0 :), (ce_ HB.out hw206_1 :), (ce_ HB.out hw206_2 :), (ce_ HB.out hw206_3 :), (ce_ HB.out hw206_4 :), (ce_ HB.out hw206_5 :), (ce_ HB.out hw206_6 :), (ce_ HB.out hw206_7 :), (ce_ HB.out hw206_8 :)⟩ (fun hHeld => ?_)
            clear hK K
            refine norm_ (a' := ?_) ?_ ?_
            rotate_left
            ·
             show Act.put _ (some 69) _ = _
             simp only [Act.put, lS, l0_, l1_, i64_w, i32_w]
             rfl
            refine done_ (done_of HT_.out (by kernel_rfl)) ?_
            try go_wp2
            go_roundg k3
            case measure => have := HJ1.out; have := HK2.out; have := HK3.out; omega
            case rel => exact ⟨(wrap64 (x4_3 + 1)), (by first | rfl | (simp; done) | (simp [*]; done)), H', ⟨by have := HJ1.out; have := HK2.out; have := HK3.out; omega⟩, ⟨(a5_ BK198.out)⟩, ⟨(a3_ HB.out GE198.out)⟩⟩
          ·
           rw [if_neg c34] at H
           exact absurd H (by simp)
         ·
          rw [if_neg c33] at H
          have c33b0 : decide (x4_3 < (l0_2.length : Int)) = false := decide_eq_false c33
          clear c33
          replace H := Option.bind_eq_some_iff.mp H
          obtain ⟨t208, A430, H⟩ := H
          replace H : (spec_GraphRight.l2 k3 t208 0) = some r := H
          have A43 := Aside0.mk A430
          clear A430
          have H' := Aside0.mk H
          clear H
          obtain ⟨⟨hcz44_0, hcz44_1, hcz44_2⟩, hfz44_0, hfz44_1, hfz44_2⟩ := cells_3 BK198.out
          go_wp2_with (first | ((with_reducible refine gate_callee (f := 20) rfl ?_); refine goesL_ (some 72) rfl rfl Try.func20 (by kernel_rfl) rfl #[.slice A0_1 l0_1.length c0_1] rfl (by (try simp only [List.map_toArray, List.map_cons, List.map_nil]); first | done | rfl | (simp only [List.length_drop, List.length_take]; rfl)) ?_; (with_reducible refine (spec_l03Depths.calls k3 _ _ l0_1 t208 _ ?side1 ?side2 A43.out).mono ?_); (case side1 => repeat (first | exact (Kd.C_below HR0_1.out HB.out) | (with_reducible refine Kd.C_alloc ?_ _) | (with_reducible refine Kd.C_drewN ?_ _) | (with_reducible refine Kd.C_drew ?_))); (case side2 => exact HC0_1.out); rintro e w45 ⟨v209, rfl, ho0, hb⟩; refine ⟨_, rfl, ?_⟩; have n0_ := Aside0.mk (Kd.R_lower ho0 (below_size (a3_ HB.out GE198.out))); have n1_ := Aside0.mk (blk_below (g := gb198) (o := .cells #[.int .i64 a0_0, .slice A0_1 l0_1.length c0_1, .slice A0_2 l0_2.length c0_2] 29 (0, 0)) (a5_ BK198.out) hb); have n2_ := Aside0.mk (below_step (a3_ HB.out GE198.out) hb); clear BK198; clear HB; have HO210 := n0_; have BK198 := n1_; have HB := n2_; clear n0_ n1_ n2_; (try clear hb); (try clear hb2); (try clear hk); (try clear hi); (try clear ho0)))
          go_loopg [6] k3 (fun kq v6 w' => ∃ (x6_4 : Int), v6 = .int .i64 x6_4 ∧ Aside0 (spec_GraphRight.l2 kq t208 x6_4 = some r) ∧ Aside0 (kq ≤ k3) ∧ Aside0 (Kd.R (Kd.int .i64) 2 w' w.heap.size (fun _ => True) v209 t208) ∧ Aside0 (w'.heap[gb198]? = some (.cells #[.int .i64 a0_0, (.slice A0_1 l0_1.length c0_1), (.slice A0_2 l0_2.length c0_2)] 29 (0, 0))) ∧ Aside0 (Below w.heap.size w w'))
          case atStart => exact ⟨(0), (by first | rfl | (simp; done) | (simp [*]; done)), H', ⟨Nat.le_refl _⟩, ⟨(a4_ HO210.out)⟩, ⟨(a5_ BK198.out)⟩, ⟨(a3_ HB.out GE198.out)⟩⟩
          case round =>
           clear H'
           try clear c1
           try clear c2
           try clear p2
           try clear q2
           try clear hx2
           try clear c3
           try clear p6
           try clear c17
           try clear c17b0
           try clear c18
           try clear c19
           try clear c20
           try clear p20
           try clear q20
           try clear hx20
           try clear c22
           try clear c22b0
           try clear c33
           try clear c33b0
           try clear c34
           try clear c34b0
           try clear c36
           try clear hcz26_0
           try clear hcz26_1
           try clear hcz26_2
           try clear hcz29_0
           try clear hcz29_1
           try clear hcz29_2
           try clear hcz32_0
           try clear hcz32_1
           try clear hcz32_2
           try clear hcz37_0
           try clear hcz37_1
           try clear hcz37_2
           try clear hcz40_0
           try clear hcz40_1
           try clear hcz40_2
           try clear hcz44_0
           try clear hcz44_1
           try clear hcz44_2
           try clear hfz26_0
           try clear hfz26_1
           try clear hfz26_2
           try clear hfz29_0
           try clear hfz29_1
           try clear hfz29_2
           try clear hfz32_0
           try clear hfz32_1
           try clear hfz32_2
           try clear hfz37_0
           try clear hfz37_1
           try clear hfz37_2
           try clear hfz40_0
           try clear hfz40_1
           try clear hfz40_2
           try clear hfz44_0
           try clear hfz44_1
           try clear hfz44_2
           try clear hx202_0
           try clear hx202_1
           try clear hx202_2
           try clear hx202_3
           try clear hx202_4
           try clear hx202_5
           try clear hx202_6
           try clear hx202_7
           try clear hx202_8
           try clear hx204_0
           try clear hx204_1
           try clear hx204_2
           try clear hx204_3
           try clear hx204_4
           try clear hx204_5
           try clear hx204_6
           try clear hx204_7
           try clear hx204_8
           try clear hx206_0
           try clear hx206_1
           try clear hx206_2
           try clear hx206_3
           try clear hx206_4
           try clear hx206_5
           try clear hx206_6
           try clear hx206_7
           try clear hx206_8
           try clear p2
           try clear p20
           try clear p202
           try clear p204
           try clear p206
           try clear p6
           try clear q2
           try clear q20
           try clear q202
           try clear q204
           try clear q206
           obtain ⟨x6_4, rfl, HA, HK4, HO_5, BK198, HB⟩ := hrel
           cases gk with
           | zero => exact absurd HA.out (by simp [spec_GraphRight.l2])
           | succ k4 =>
            have H := HA.out
            clear HA
            simp only [spec_GraphRight.l2] at H
            by_cases c46 : x6_4 < (t208.length : Int)
            ·
             rw [if_pos c46] at H
             have c46b0 : decide (x6_4 < (t208.length : Int)) = true := decide_eq_true c46
             clear c46
             by_cases c47 : 0 ≤ x6_4
             ·
              rw [if_pos c47] at H
              have c47b0 : decide (0 ≤ x6_4) = true := decide_eq_true c47
              clear c47
              by_cases c48 : (rd t208 x6_4) = 0
              ·
               rw [if_pos c48] at H
               have c48b0 : ((rd t208 x6_4) == 0) = true := beq_iff_eq.mpr c48
               have c48b1 : ((rd t208 x6_4) != 0) = false := bne_eq_false_iff_eq.mpr c48
               clear c48
               obtain rfl := Option.some.inj H
               obtain ⟨Ao49, co49, eo49⟩ := Kd.R_slice HO_5.out
               subst eo49
               have p211 : 0 ≤ (x6_4 : Int) := of_decide_eq_true (by first | (with_reducible assumption) | assumption)
               have q211 : x6_4 < (t208.length : Int) := of_decide_eq_true (by first | (with_reducible assumption) | assumption)
               obtain ⟨ad211, e211, hx211_0⟩ := Kd.at_int (Kd.R_reads' HO_5.out).2.2 x6_4 p211 q211
               cases e211
               replace p211 := eq_true p211
               replace q211 := eq_true q211
               go_wp2
               go_ret
               exact ⟨a2_, (a3_ HB.out GE198.out)⟩
              ·
               rw [if_neg c48] at H
               have c48b0 : ((rd t208 x6_4) == 0) = false := beq_eq_false_iff_ne.mpr c48
               have c48b1 : ((rd t208 x6_4) != 0) = true := bne_iff_ne.mpr c48
               have H' := Aside0.mk H
               clear H
               obtain ⟨Ao50, co50, eo50⟩ := Kd.R_slice HO_5.out
               subst eo50
               have p211 : 0 ≤ (x6_4 : Int) := of_decide_eq_true (by first | (with_reducible assumption) | assumption)
               have q211 : x6_4 < (t208.length : Int) := of_decide_eq_true (by first | (with_reducible assumption) | assumption)
               obtain ⟨ad211, e211, hx211_0⟩ := Kd.at_int (Kd.R_reads' HO_5.out).2.2 x6_4 p211 q211
               cases e211
               replace p211 := eq_true p211
               replace q211 := eq_true q211
               go_wp2
               go_roundg k4
               case measure => have := HJ1.out; have := HK2.out; have := HK3.out; have := HK4.out; omega
               case rel => exact ⟨(wrap64 (x6_4 + 1)), (by first | rfl | (simp; done) | (simp [*]; done)), H', ⟨by have := HJ1.out; have := HK2.out; have := HK3.out; have := HK4.out; omega⟩, ⟨(a4_ HO_5.out)⟩, ⟨(a5_ BK198.out)⟩, ⟨(a3_ HB.out GE198.out)⟩⟩
             ·
              rw [if_neg c47] at H
              exact absurd H (by simp)
            ·
             rw [if_neg c46] at H
             have c46b0 : decide (x6_4 < (t208.length : Int)) = false := decide_eq_false c46
             clear c46
             obtain rfl := Option.some.inj H
             obtain ⟨Ao51, co51, eo51⟩ := Kd.R_slice HO_5.out
             subst eo51
             go_wp2
             go_ret
             exact ⟨a2_, (a3_ HB.out GE198.out)⟩

end Go.Proofs.Ytkhidbahbcfkbaa.Print
