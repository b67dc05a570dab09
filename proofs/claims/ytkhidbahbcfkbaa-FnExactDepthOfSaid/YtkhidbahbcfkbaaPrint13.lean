-- Printed by wip/myprint.py over the kit's print, in this session's own call.
import Derived.Test.YtkhidbahbcfkbaaPrint0
import Derived.Test.YtkhidbahbcfkbaaPrint12
namespace Go.Proofs.Ytkhidbahbcfkbaa.Print
open Go.RowKit Go.Proofs.YtkhidbahbcfkbaaW.PrintWords Go.Proofs.YtkhidbahbcfkbaaW.PrintLast Go.Proofs.YtkhidbahbcfkbaaW.PrintMore
attribute [local go_sem] max2_int min2_int max_two min_two max_three min_three max_four min_four   -- for this text's walks alone
set_option linter.unusedVariables false
set_option linter.unusedSimpArgs false

/-! ### impl_Graph_depths: function 29 -/
mutual
def impl_Graph_depths.l0 : Nat → List Int → Int → Bool → Int → List (S43) → List (S43) → Option (List Int × Bool)
  | 0, _, _, _, _, _, _ => none
  | k + 1, x4, x5, x6, x267000, x267001, x267002 => if x6 = true then (impl_Graph_depths.j1 k x4 x5 (decide (x5 > 0)) x267000 x267001 x267002) else (impl_Graph_depths.j1 k x4 x5 false x267000 x267001 x267002)
def impl_Graph_depths.j1 : Nat → List Int → Int → Bool → Int → List (S43) → List (S43) → Option (List Int × Bool)
  | 0, _, _, _, _, _, _ => none
  | k + 1, x4, x5, x25, x267000, x267001, x267002 => if x25 = true then (impl_Graph_depths.l1 k x4 x5 false x267001 (x267001.length : Int) 0 x267000 x267001 x267002) else (some (x4, (x5 == 0)))
def impl_Graph_depths.l1 : Nat → List Int → Int → Bool → List (S43) → Int → Int → Int → List (S43) → List (S43) → Option (List Int × Bool)
  | 0, _, _, _, _, _, _, _, _, _ => none
  | k + 1, x4, x5, x6, x27, x28, x29, x267000, x267001, x267002 => if x29 < x28 then (if 0 ≤ x29 then (if x29 < (x27.length : Int) then (if x29 < (x4.length : Int) then (if (rd x4 x29) > 0 then (impl_Graph_depths.l1 k x4 x5 x6 x27 x28 (wrap64 (x29 + 1)) x267000 x267001 x267002) else (impl_Graph_depths.l2 k x4 x5 x6 x29 1 x27 x28 x29 ((rd_T43 x27 x29).f7) (((rd_T43 x27 x29).f7).length : Int) 0 x267000 x267001 x267002)) else (none)) else (none)) else (none)) else (impl_Graph_depths.l0 k x4 x5 x6 x267000 x267001 x267002)
def impl_Graph_depths.l2 : Nat → List Int → Int → Bool → Int → Int → List (S43) → Int → Int → List Int → Int → Int → Int → List (S43) → List (S43) → Option (List Int × Bool)
  | 0, _, _, _, _, _, _, _, _, _, _, _, _, _, _ => none
  | k + 1, x4, x5, x6, x7, x9, x27, x28, x29, x40, x41, x42, x267000, x267001, x267002 => if x42 < x41 then (if 0 ≤ x42 then (if x42 < (x40.length : Int) then ((impl_find.f k x267001 (rd x40 x42)).bind fun bt274 => (if 0 ≤ bt274.1 then (if bt274.1 < (x4.length : Int) then (if (rd x4 bt274.1) = 0 then (if 0 > 0 then (if 0 ≤ x7 then (if x7 < (x4.length : Int) then (impl_Graph_depths.l1 k (x4.set (x7 : Int).toNat 0) (wrap64 (x5 - 1)) true x27 x28 (wrap64 (x29 + 1)) x267000 x267001 x267002) else (none)) else (none)) else (impl_Graph_depths.l1 k x4 x5 x6 x27 x28 (wrap64 (x29 + 1)) x267000 x267001 x267002)) else (impl_Graph_depths.l2 k x4 x5 x6 x7 (mx x9 (wrap64 ((rd x4 bt274.1) + 1))) x27 x28 x29 x40 x41 (wrap64 (x42 + 1)) x267000 x267001 x267002)) else (none)) else (none))) else (none)) else (none)) else (if x9 > 0 then (if 0 ≤ x7 then (if x7 < (x4.length : Int) then (impl_Graph_depths.l1 k (x4.set (x7 : Int).toNat x9) (wrap64 (x5 - 1)) true x27 x28 (wrap64 (x29 + 1)) x267000 x267001 x267002) else (none)) else (none)) else (impl_Graph_depths.l1 k x4 x5 x6 x27 x28 (wrap64 (x29 + 1)) x267000 x267001 x267002))
end
def impl_Graph_depths.f (k : Nat) (a0_0 : Int) (l0_1 : List (S43)) (l0_2 : List (S43)) : Option (List Int × Bool) := if 0 ≤ (l0_1.length : Int) then (if ((l0_1.length : Int) : Int).toNat ≤ 35184372088832 then (impl_Graph_depths.l0 k (List.replicate ((l0_1.length : Int) : Int).toNat 0) (l0_1.length : Int) true a0_0 l0_1 l0_2) else (none)) else (none)
theorem impl_Graph_depths.mono_l : ∀ k, (∀ y0 y1 y2 y3 y4 y5, LeO (impl_Graph_depths.l0 k y0 y1 y2 y3 y4 y5) (impl_Graph_depths.l0 (k + 1) y0 y1 y2 y3 y4 y5)) ∧ (∀ y0 y1 y2 y3 y4 y5, LeO (impl_Graph_depths.j1 k y0 y1 y2 y3 y4 y5) (impl_Graph_depths.j1 (k + 1) y0 y1 y2 y3 y4 y5)) ∧ (∀ y0 y1 y2 y3 y4 y5 y6 y7 y8, LeO (impl_Graph_depths.l1 k y0 y1 y2 y3 y4 y5 y6 y7 y8) (impl_Graph_depths.l1 (k + 1) y0 y1 y2 y3 y4 y5 y6 y7 y8)) ∧ (∀ y0 y1 y2 y3 y4 y5 y6 y7 y8 y9 y10 y11 y12 y13, LeO (impl_Graph_depths.l2 k y0 y1 y2 y3 y4 y5 y6 y7 y8 y9 y10 y11 y12 y13) (impl_Graph_depths.l2 (k + 1) y0 y1 y2 y3 y4 y5 y6 y7 y8 y9 y10 y11 y12 y13))
  | 0 => ⟨fun _ _ _ _ _ _ r h => by simp [impl_Graph_depths.l0] at h, fun _ _ _ _ _ _ r h => by simp [impl_Graph_depths.j1] at h, fun _ _ _ _ _ _ _ _ _ r h => by simp [impl_Graph_depths.l1] at h, fun _ _ _ _ _ _ _ _ _ _ _ _ _ _ r h => by simp [impl_Graph_depths.l2] at h⟩
  | k + 1 => by
    obtain ⟨ih0, ih1, ih2, ih3⟩ := impl_Graph_depths.mono_l k
    refine ⟨?_, ?_, ?_, ?_⟩
    · intro y0 y1 y2 y3 y4 y5
      unfold impl_Graph_depths.l0
      repeat' first
      | (with_reducible exact ih0 _ _ _ _ _ _)
      | (with_reducible exact ih1 _ _ _ _ _ _)
      | (with_reducible exact ih2 _ _ _ _ _ _ _ _ _)
      | (with_reducible exact ih3 _ _ _ _ _ _ _ _ _ _ _ _ _ _)
      | (with_reducible exact impl_find.mono _ _ _)
      | (with_reducible exact LeO.refl _)
      | (with_reducible exact LeO.none _)
      | (with_reducible refine LeO.ite ?_ ?_)
      | (with_reducible refine LeO.bind ?_ (fun _ => ?_))
      | exact ih0 _ _ _ _ _ _
      | exact ih1 _ _ _ _ _ _
      | exact ih2 _ _ _ _ _ _ _ _ _
      | exact ih3 _ _ _ _ _ _ _ _ _ _ _ _ _ _
      | exact impl_find.mono _ _ _
      | exact LeO.none _
      | refine LeO.ite ?_ ?_
      | refine LeO.bind ?_ (fun _ => ?_)
    · intro y0 y1 y2 y3 y4 y5
      unfold impl_Graph_depths.j1
      repeat' first
      | (with_reducible exact ih0 _ _ _ _ _ _)
      | (with_reducible exact ih1 _ _ _ _ _ _)
      | (with_reducible exact ih2 _ _ _ _ _ _ _ _ _)
      | (with_reducible exact ih3 _ _ _ _ _ _ _ _ _ _ _ _ _ _)
      | (with_reducible exact impl_find.mono _ _ _)
      | (with_reducible exact LeO.refl _)
      | (with_reducible exact LeO.none _)
      | (with_reducible refine LeO.ite ?_ ?_)
      | (with_reducible refine LeO.bind ?_ (fun _ => ?_))
      | exact ih0 _ _ _ _ _ _
      | exact ih1 _ _ _ _ _ _
      | exact ih2 _ _ _ _ _ _ _ _ _
      | exact ih3 _ _ _ _ _ _ _ _ _ _ _ _ _ _
      | exact impl_find.mono _ _ _
      | exact LeO.none _
      | refine LeO.ite ?_ ?_
      | refine LeO.bind ?_ (fun _ => ?_)
    · intro y0 y1 y2 y3 y4 y5 y6 y7 y8
      unfold impl_Graph_depths.l1
      repeat' first
      | (with_reducible exact ih0 _ _ _ _ _ _)
      | (with_reducible exact ih1 _ _ _ _ _ _)
      | (with_reducible exact ih2 _ _ _ _ _ _ _ _ _)
      | (with_reducible exact ih3 _ _ _ _ _ _ _ _ _ _ _ _ _ _)
      | (with_reducible exact impl_find.mono _ _ _)
      | (with_reducible exact LeO.refl _)
      | (with_reducible exact LeO.none _)
      | (with_reducible refine LeO.ite ?_ ?_)
      | (with_reducible refine LeO.bind ?_ (fun _ => ?_))
      | exact ih0 _ _ _ _ _ _
      | exact ih1 _ _ _ _ _ _
      | exact ih2 _ _ _ _ _ _ _ _ _
      | exact ih3 _ _ _ _ _ _ _ _ _ _ _ _ _ _
      | exact impl_find.mono _ _ _
      | exact LeO.none _
      | refine LeO.ite ?_ ?_
      | refine LeO.bind ?_ (fun _ => ?_)
    · intro y0 y1 y2 y3 y4 y5 y6 y7 y8 y9 y10 y11 y12 y13
      unfold impl_Graph_depths.l2
      repeat' first
      | (with_reducible exact ih0 _ _ _ _ _ _)
      | (with_reducible exact ih1 _ _ _ _ _ _)
      | (with_reducible exact ih2 _ _ _ _ _ _ _ _ _)
      | (with_reducible exact ih3 _ _ _ _ _ _ _ _ _ _ _ _ _ _)
      | (with_reducible exact impl_find.mono _ _ _)
      | (with_reducible exact LeO.refl _)
      | (with_reducible exact LeO.none _)
      | (with_reducible refine LeO.ite ?_ ?_)
      | (with_reducible refine LeO.bind ?_ (fun _ => ?_))
      | exact ih0 _ _ _ _ _ _
      | exact ih1 _ _ _ _ _ _
      | exact ih2 _ _ _ _ _ _ _ _ _
      | exact ih3 _ _ _ _ _ _ _ _ _ _ _ _ _ _
      | exact impl_find.mono _ _ _
      | exact LeO.none _
      | refine LeO.ite ?_ ?_
      | refine LeO.bind ?_ (fun _ => ?_)
theorem impl_Graph_depths.mono : ∀ a0 a1 a2 k, LeO (impl_Graph_depths.f k a0 a1 a2) (impl_Graph_depths.f (k + 1) a0 a1 a2) := by
  intro a0 a1 a2 k
  obtain ⟨ih0, ih1, ih2, ih3⟩ := impl_Graph_depths.mono_l k
  unfold impl_Graph_depths.f
  repeat' first
      | (with_reducible exact ih0 _ _ _ _ _ _)
      | (with_reducible exact ih1 _ _ _ _ _ _)
      | (with_reducible exact ih2 _ _ _ _ _ _ _ _ _)
      | (with_reducible exact ih3 _ _ _ _ _ _ _ _ _ _ _ _ _ _)
      | (with_reducible exact impl_find.mono _ _ _)
      | (with_reducible exact LeO.refl _)
      | (with_reducible exact LeO.none _)
      | (with_reducible refine LeO.ite ?_ ?_)
      | (with_reducible refine LeO.bind ?_ (fun _ => ?_))
      | exact ih0 _ _ _ _ _ _
      | exact ih1 _ _ _ _ _ _
      | exact ih2 _ _ _ _ _ _ _ _ _
      | exact ih3 _ _ _ _ _ _ _ _ _ _ _ _ _ _
      | exact impl_find.mono _ _ _
      | exact LeO.none _
      | refine LeO.ite ?_ ?_
      | refine LeO.bind ?_ (fun _ => ?_)
def impl_Graph_depths.T1 : Bool × List (List Nat × List Nat) := (true, [([], []), ([0], [0]), ([1], [1]), ([2, 2], [2]), ([], []), ([4], [4]), ([5], [5]), ([3, 0, 1, 2, 3], [3]), ([6, 7, 0, 1, 2, 3, 4, 5, 6, 7], [6])])
def impl_Graph_depths.B1 : List Nat := [0, 1, 3, 7, 0, 16, 48, 15, 255]
theorem impl_Graph_depths.tab1 : rtab .any (opsOf Try.f29 1) = impl_Graph_depths.T1 := by kernel_rfl
theorem impl_Graph_depths.bits1 : waitsOk impl_Graph_depths.T1.2 impl_Graph_depths.B1 = true := by kernel_rfl
set_option maxHeartbeats 8000000 in
set_option maxRecDepth 100000 in
theorem impl_Graph_depths.calls (k : Nat) (a0_0 : Int) (A0_1 : Option Addr) (c0_1 : Nat) (l0_1 : List (S43)) (A0_2 : Option Addr) (c0_2 : Nat) (l0_2 : List (S43)) (r1 : List Int) (r2 : Bool) (w : World) (hr0_1 : Kd.C k43 w A0_1 l0_1.length l0_1) (hc0_1 : l0_1.length ≤ c0_1) (hr0_2 : Kd.C k43 w A0_2 l0_2.length l0_2) (hc0_2 : l0_2.length ≤ c0_2) (h : impl_Graph_depths.f k a0_0 l0_1 l0_2 = some (r1, r2)) :
    Calls Try.prog 29 #[.agg #[.int .i64 a0_0, .slice A0_1 l0_1.length c0_1, .slice A0_2 l0_2.length c0_2]] w fun e w' => ∃ v0_ : Value, e = .returned (.tuple #[v0_, .bool r2]) ∧ Kd.R (Kd.int .i64) 2 w' w.heap.size (fun _ => True) v0_ r1 ∧ Below w.heap.size w w' := by
 have hu29 := Try.underlying29
 have hu43 := Try.underlying43
 have HR0_1 := Aside0.mk hr0_1
 have HC0_1 := Aside0.mk hc0_1
 clear hr0_1 hc0_1
 have HR0_2 := Aside0.mk hr0_2
 have HC0_2 := Aside0.mk hc0_2
 clear hr0_2 hc0_2
 have HB := Aside0.mk (Below.refl w.heap.size w)
 have H : (if 0 ≤ (l0_1.length : Int) then (if ((l0_1.length : Int) : Int).toNat ≤ 35184372088832 then (impl_Graph_depths.l0 k (List.replicate ((l0_1.length : Int) : Int).toNat 0) (l0_1.length : Int) true a0_0 l0_1 l0_2) else (none)) else (none)) = some (r1, r2) := h
 clear h
 by_cases c2 : 0 ≤ (l0_1.length : Int)
 ·
  rw [if_pos c2] at H
  have c2b0 := eq_true c2
  have c2b1 : decide (0 ≤ (l0_1.length : Int)) = true := decide_eq_true c2
  clear c2
  by_cases c3 : ((l0_1.length : Int) : Int).toNat ≤ 35184372088832
  ·
   rw [if_pos c3] at H
   have c3b0 := eq_true c3
   have c3b1 : decide (((l0_1.length : Int) : Int).toNat ≤ 35184372088832) = true := decide_eq_true c3
   clear c3
   obtain ⟨y267, hy267⟩ : ∃ y_ : List Int, y_ = (List.replicate ((l0_1.length : Int) : Int).toNat 0) := ⟨_, rfl⟩
   replace H : (impl_Graph_depths.l0 k y267 (l0_1.length : Int) true a0_0 l0_1 l0_2) = some (r1, r2) := by first | (rw [hy267]; with_reducible exact H) | (have H2_ := (Option.bind_some _ _).symm.trans H; rw [hy267]; with_reducible exact H2_) | (have H2_ := (Option.bind_some _ _).symm.trans H; with_reducible exact H2_) | with_reducible exact H | (rw [hy267]; exact H) | exact H
   have Ny267 := Aside0.mk hy267
   clear hy267
   have H' := Aside0.mk H
   clear H
   go_enter Try.func29, Try.ntmps29
   try go_wp2_with (first | ((with_reducible refine gate_dst (N := 1) rfl ?_); refine box_event ?hg (N := 1) ?hd (cs := #[.int .i64 a0_0, .slice A0_1 l0_1.length c0_1, .slice A0_2 l0_2.length c0_2]) (t := 29) ?hr ?_; (case hd => rfl); (case hg => rfl); (case hr => first | (go_simp; done) | (go_simp; rfl)); intro gb266 hg w4 hbox hb; have n0_ := Aside0.mk (below_step HB.out hb); have n1_ := Aside0.mk (hbox); have n2_ := Aside0.mk ((by rw [hg]; exact (below_size HB.out) : w.heap.size ≤ gb266)); have n3_ := Aside0.mk ((by rw [hg]; exact (below_size HB.out) : w.heap.size ≤ gb266)); clear HB; have HB := n0_; have BK266 := n1_; have GW266 := n2_; have GE266 := n3_; clear n0_ n1_ n2_ n3_; clear hb hbox hg))
   have n0_ := Aside0.mk (blk_drew BK266.out)
   have n1_ := Aside0.mk (below_drew1 HB.out)
   clear BK266
   clear HB
   have BK266 := n0_
   have HB := n1_
   clear n0_ n1_
   refine start_ (n := 9) (S := fun w' => w'.cell? ⟨gb266, 0, none⟩ = some (.int .i64 a0_0) ∧ w'.cell? ⟨gb266, 1, none⟩ = some (.slice A0_1 l0_1.length c0_1) ∧ w'.cell? ⟨gb266, 2, none⟩ = some (.slice A0_2 l0_2.length c0_2)) (ds := []) #[false, false, false, false, false, false, false, false, false] (by kernel_rfl) rfl rfl ⟨(blk_cell BK266.out 0).trans rfl, (blk_cell BK266.out 1).trans rfl, (blk_cell BK266.out 2).trans rfl⟩ (fun hHeld => ?_); refine with_tabW impl_Graph_depths.tab1 impl_Graph_depths.bits1 (fun HT_ HW_ => ?_)
   generalize w4.drew = w5 at BK266 HB hHeld ⊢
   refine pure_ (i := 0) (N := some 14) (v := ?_) (a' := ?_) #[true, false, false, false, false, false, false, false, false] rfl rfl (any_of HT_.out (by kernel_rfl)) (fun _ _ _ h => h) (Or.inl ⟨by rfl, ?_⟩) ?_ ?_
   rotate_left
   ·
    intro w'
    go_simp
    with_reducible rfl
   rotate_left
   ·
    simp only [Act.put, lS, l0_, l1_, i64_w, i32_w]
    rfl
   refine pure_ (i := 4) (N := some 18) (v := ?_) (a' := ?_) #[true, false, false, false, true, false, false, false, false] rfl rfl (any_of HT_.out (by kernel_rfl)) (fun _ _ _ h => h) (Or.inl ⟨by rfl, ?_⟩) ?_ ?_
   rotate_left
   ·
    intro w'
    go_simp
    with_reducible rfl
   rotate_left
   ·
    simp only [Act.put, lS, l0_, l1_, i64_w, i32_w]
    rfl
   refine take_ (i := 1) (N := some 15) (v := ?_) (a' := ?_) #[true, true, false, false, true, false, false, false, false] rfl rfl (take_ofW HT_.out HW_.out (by kernel_rfl)) (fun _ _ _ h => h) (Or.inl ⟨by rfl, ?_⟩) hHeld ?_ ?_
   rotate_left
   ·
    rintro w' ⟨s0, s1, s2⟩
    go_simp
    with_reducible rfl
   rotate_left
   ·
    simp only [Act.put, lS, l0_, l1_, i64_w, i32_w]
    rfl
   refine pure_ (i := 2) (N := some 16) (v := ?_) (a' := ?_) #[true, true, true, false, true, false, false, false, false] rfl rfl (any_of HT_.out (by kernel_rfl)) (fun _ _ _ h => h) (Or.inl ⟨by rfl, ?_⟩) ?_ ?_
   rotate_left
   ·
    intro w'
    go_simp
    with_reducible rfl
   rotate_left
   ·
    simp only [Act.put, lS, l0_, l1_, i64_w, i32_w]
    rfl
   refine take_ (i := 5) (N := some 19) (v := ?_) (a' := ?_) #[true, true, true, false, true, true, false, false, false] rfl rfl (take_ofW HT_.out HW_.out (by kernel_rfl)) (fun _ _ _ h => h) (Or.inl ⟨by rfl, ?_⟩) hHeld ?_ ?_
   rotate_left
   ·
    rintro w' ⟨s0, s1, s2⟩
    go_simp
    with_reducible rfl
   rotate_left
   ·
    simp only [Act.put, lS, l0_, l1_, i64_w, i32_w]
    rfl
   refine pure_ (i := 6) (N := some 20) (v := ?_) (a' := ?_) #[true, true, true, false, true, true, true, false, false] rfl rfl (any_of HT_.out (by kernel_rfl)) (fun _ _ _ h => h) (Or.inl ⟨by rfl, ?_⟩) ?_ ?_
   rotate_left
   ·
    intro w'
    go_simp
    with_reducible rfl
   rotate_left
   ·
    simp only [Act.put, lS, l0_, l1_, i64_w, i32_w]
    rfl
   refine one_ (i := 3) (N := some 17) #[true, true, true, true, true, true, true, false, false] rfl rfl (one_of HT_.out (by kernel_rfl)) (by decide) (fun K hK => ?_)
   refine Kd.R_make_step (Kd.int .i64) _ 2 (by rfl) (N := 17) rfl 41 _ _ rfl (l0_1.length : Int) rfl rfl Try.underlying41 (.int .i64 0) 8 info2 rfl (by decide) (by omega) 0 (ok := fun _ => True) (okp := fun _ => True) rfl (fun _ hk => hk) trivial (of_decide_eq_true (by first | (with_reducible assumption) | assumption)) (Nat.le_trans (Nat.mul_le_mul_right _ (of_decide_eq_true (by first | (with_reducible assumption) | assumption) : (l0_1.length : Int).toNat ≤ 35184372088832)) (by omega)) (Below.refl _ _) (Nat.le_refl _) ?_
   intro v268 w6 ho7 hb hg_ hnew_
   clear hg_ hnew_
   (first | rw [← Ny267.out] at ho7 | (simp only [Int.reduceToNat] at ho7; rw [← Ny267.out] at ho7))
   have n0_ := Aside0.mk (Kd.R_lower ho7 (below_size HB.out))
   have n1_ := Aside0.mk (blk_below BK266.out hb)
   have n2_ := Aside0.mk (below_step HB.out hb)
   clear BK266
   clear HB
   have HO269 := n0_
   have BK266 := n1_
   have HB := n2_
   clear n0_ n1_ n2_
   clear hb ho7
   refine hK.out _ _ ⟨(blk_cell BK266.out 0).trans rfl, (blk_cell BK266.out 1).trans rfl, (blk_cell BK266.out 2).trans rfl⟩ (fun hHeld => ?_)
   clear hK K
   refine norm_ (a' := ?_) ?_ ?_
   rotate_left
   ·
    show Act.put _ (some 17) _ = _
    simp only [Act.put, lS, l0_, l1_, i64_w, i32_w]
    rfl
   refine pure_ (i := 7) (N := some 4) (v := ?_) (a' := ?_) #[true, true, true, true, true, true, true, true, false] rfl rfl (any_of HT_.out (by kernel_rfl)) (fun _ _ _ h => h) (Or.inl ⟨by rfl, ?_⟩) ?_ ?_
   rotate_left
   ·
    intro w'
    go_simp
    with_reducible rfl
   rotate_left
   ·
    simp only [Act.put, lS, l0_, l1_, i64_w, i32_w]
    rfl
   refine pure_ (i := 8) (N := some 5) (v := ?_) (a' := ?_) #[true, true, true, true, true, true, true, true, true] rfl rfl (any_of HT_.out (by kernel_rfl)) (fun _ _ _ h => h) (Or.inl ⟨by rfl, ?_⟩) ?_ ?_
   rotate_left
   ·
    intro w'
    go_simp
    with_reducible rfl
   rotate_left
   ·
    simp only [Act.put, lS, l0_, l1_, i64_w, i32_w]
    rfl
   refine done_ (done_of HT_.out (by kernel_rfl)) ?_
   try go_wp2
   go_loopg [5, 6] k (fun kq v5 v6 w' => ∃ (x4_1 : List Int) (x5_1 : Int) (x6_1 : Bool), v5 = .int .i64 x5_1 ∧ v6 = .bool x6_1 ∧ Aside0 (impl_Graph_depths.l0 kq x4_1 x5_1 x6_1 a0_0 l0_1 l0_2 = some (r1, r2)) ∧ Aside0 (kq ≤ k) ∧ Aside0 (Kd.R (Kd.int .i64) 2 w' w.heap.size (fun _ => True) v268 x4_1) ∧ Aside0 (w'.heap[gb266]? = some (.cells #[.int .i64 a0_0, (.slice A0_1 l0_1.length c0_1), (.slice A0_2 l0_2.length c0_2)] 29 (0, 0))) ∧ Aside0 (Below w.heap.size w w'))
   case atStart => exact ⟨(y267), ((l0_1.length : Int)), (true), (by first | rfl | (simp; done) | (simp [*]; done)), (by first | rfl | (simp; done) | (simp [*]; done)), H', ⟨Nat.le_refl _⟩, ⟨(a4_ HO269.out)⟩, ⟨by exact BK266.out⟩, ⟨(a3_ HB.out GE266.out)⟩⟩
   case round =>
    clear H'
    try clear c2
    try clear c2b0
    try clear c2b1
    try clear p2
    try clear c3
    try clear c3b0
    try clear c3b1
    obtain ⟨x4_1, x5_1, x6_1, rfl, rfl, HA, HK1, HO_4, BK266, HB⟩ := hrel
    cases gk with
    | zero => exact absurd HA.out (by simp [impl_Graph_depths.l0])
    | succ k1 =>
     have H := HA.out
     clear HA
     simp only [impl_Graph_depths.l0] at H
     have HC8 := Aside0.mk H
     clear H
     go_upto_region 3 with (fail)
     go_cut [25] (fun v25 wc => ∃ (kq : Nat) (x25_7 : Bool), v25 = .bool x25_7 ∧ Aside0 (impl_Graph_depths.j1 kq x4_1 x5_1 x25_7 a0_0 l0_1 l0_2 = some (r1, r2)) ∧ Aside0 (kq ≤ k1) ∧ Aside0 (Kd.R (Kd.int .i64) 2 wc w.heap.size (fun _ => True) v268 x4_1) ∧ Aside0 (wc.heap[gb266]? = some (.cells #[.int .i64 a0_0, (.slice A0_1 l0_1.length c0_1), (.slice A0_2 l0_2.length c0_2)] 29 (0, 0))) ∧ Aside0 (Below w.heap.size w wc))
     case first =>
      have H := HC8.out
      clear HC8
      by_cases c9 : x6_1 = true
      ·
       subst c9
       have H1 : (impl_Graph_depths.j1 k1 x4_1 x5_1 (decide (x5_1 > 0)) a0_0 l0_1 l0_2) = some (r1, r2) := by rw [if_pos rfl] at H; exact H
       clear H
       have H := H1
       clear H1
       have H' := Aside0.mk H
       clear H
       go_wp2
       go_meet
       case rel => exact ⟨_, (decide (x5_1 > 0)), (by first | rfl | (simp; done) | (simp [*]; done)), H', ⟨by have := HK1.out; first | omega | exact Nat.le_refl _⟩, ⟨(a4_ HO_4.out)⟩, ⟨by exact BK266.out⟩, ⟨(a3_ HB.out GE266.out)⟩⟩
      ·
       replace c9 := Bool.eq_false_iff.mpr c9
       subst c9
       have H1 : (impl_Graph_depths.j1 k1 x4_1 x5_1 false a0_0 l0_1 l0_2) = some (r1, r2) := by rw [if_neg (show ¬ (false = true) by decide)] at H; exact H
       clear H
       have H := H1
       clear H1
       have H' := Aside0.mk H
       clear H
       go_wp2
       go_meet
       case rel => exact ⟨_, (false), (by first | rfl | (simp; done) | (simp [*]; done)), H', ⟨by have := HK1.out; first | omega | exact Nat.le_refl _⟩, ⟨(a4_ HO_4.out)⟩, ⟨by exact BK266.out⟩, ⟨(a3_ HB.out GE266.out)⟩⟩
     case rest =>
      clear HC8
      try clear c2
      try clear c2b0
      try clear c2b1
      try clear p2
      try clear c3
      try clear c3b0
      try clear c3b1
      try clear c9
      try clear p2
      obtain ⟨kq, x25_7, rfl, HA, HJ7, HO_4, BK266, HB⟩ := hcut
      cases kq with
      | zero => exact absurd HA.out (by simp [impl_Graph_depths.j1])
      | succ kj7 =>
       have H := HA.out
       clear HA
       simp only [impl_Graph_depths.j1] at H
       by_cases c10 : x25_7 = true
       ·
        subst c10
        have H1 : (impl_Graph_depths.l1 kj7 x4_1 x5_1 false l0_1 (l0_1.length : Int) 0 a0_0 l0_1 l0_2) = some (r1, r2) := by rw [if_pos rfl] at H; exact H
        clear H
        have H := H1
        clear H1
        have H' := Aside0.mk H
        clear H
        have hcz11_0 : wc.cell? ⟨gb266, 0, none⟩ = some (.int .i64 a0_0) := (blk_cell BK266.out 0).trans rfl
        have hcz11_1 : wc.cell? ⟨gb266, 1, none⟩ = some (.slice A0_1 l0_1.length c0_1) := (blk_cell BK266.out 1).trans rfl
        have hcz11_2 : wc.cell? ⟨gb266, 2, none⟩ = some (.slice A0_2 l0_2.length c0_2) := (blk_cell BK266.out 2).trans rfl
        have hfz11_0 := blk_frozen BK266.out 0
        have hfz11_1 := blk_frozen BK266.out 1
        have hfz11_2 := blk_frozen BK266.out 2
        go_wp2
        go_loopg [5, 6, 29] kj7 (fun kq v5 v6 v29 w' => ∃ (x4_3 : List Int) (x5_3 : Int) (x6_3 : Bool) (x29_3 : Int), v5 = .int .i64 x5_3 ∧ v6 = .bool x6_3 ∧ v29 = .int .i64 x29_3 ∧ Aside0 (impl_Graph_depths.l1 kq x4_3 x5_3 x6_3 l0_1 (l0_1.length : Int) x29_3 a0_0 l0_1 l0_2 = some (r1, r2)) ∧ Aside0 (kq ≤ kj7) ∧ Aside0 (Kd.R (Kd.int .i64) 2 w' w.heap.size (fun _ => True) v268 x4_3) ∧ Aside0 (w'.heap[gb266]? = some (.cells #[.int .i64 a0_0, (.slice A0_1 l0_1.length c0_1), (.slice A0_2 l0_2.length c0_2)] 29 (0, 0))) ∧ Aside0 (Below w.heap.size w w'))
        case atStart => exact ⟨(x4_1), (x5_1), (false), (0), (by first | rfl | (simp; done) | (simp [*]; done)), (by first | rfl | (simp; done) | (simp [*]; done)), (by first | rfl | (simp; done) | (simp [*]; done)), H', ⟨Nat.le_refl _⟩, ⟨(a4_ HO_4.out)⟩, ⟨by exact BK266.out⟩, ⟨(a3_ HB.out GE266.out)⟩⟩
        case round =>
         clear H'
         try clear c1
         try clear c2
         try clear c2b0
         try clear c2b1
         try clear p2
         try clear c3
         try clear c3b0
         try clear c3b1
         try clear c9
         try clear c10
         try clear hcz11_0
         try clear hcz11_1
         try clear hcz11_2
         try clear hfz11_0
         try clear hfz11_1
         try clear hfz11_2
         try clear p2
         obtain ⟨x4_3, x5_3, x6_3, x29_3, rfl, rfl, rfl, HA, HK3, HO_4, BK266, HB⟩ := hrel
         cases gk with
         | zero => exact absurd HA.out (by simp [impl_Graph_depths.l1])
         | succ k3 =>
          have H := HA.out
          clear HA
          simp only [impl_Graph_depths.l1] at H
          by_cases c12 : x29_3 < (l0_1.length : Int)
          ·
           rw [if_pos c12] at H
           have c12b0 : decide (x29_3 < (l0_1.length : Int)) = true := decide_eq_true c12
           clear c12
           by_cases c13 : 0 ≤ x29_3
           ·
            rw [if_pos c13] at H
            have c13b0 : decide (0 ≤ x29_3) = true := decide_eq_true c13
            clear c13
            by_cases c14 : x29_3 < (l0_1.length : Int)
            ·
             rw [if_pos c14] at H
             have c14b0 : decide (x29_3 < (l0_1.length : Int)) = true := decide_eq_true c14
             clear c14
             by_cases c15 : x29_3 < (x4_3.length : Int)
             ·
              rw [if_pos c15] at H
              have c15b0 : decide (x29_3 < (x4_3.length : Int)) = true := decide_eq_true c15
              clear c15
              by_cases c16 : (rd x4_3 x29_3) > 0
              ·
               rw [if_pos c16] at H
               have c16b0 : decide (0 < (rd x4_3 x29_3)) = true := decide_eq_true c16
               clear c16
               have H' := Aside0.mk H
               clear H
               have p270 : 0 ≤ (x29_3 : Int) := of_decide_eq_true (by first | (with_reducible assumption) | assumption)
               have q270 : x29_3 < (l0_1.length : Int) := of_decide_eq_true (by first | (with_reducible assumption) | assumption)
               obtain ⟨ad270, A270_7, c270_7, e270, hx270_0, hx270_1, hx270_2, hx270_3, hx270_4, hx270_5, hx270_6, hx270_7, hx270_8, hl270_7, hi270_7⟩ := at_T43 HR0_1.out x29_3 p270 q270
               cases e270
               replace hx270_0 := ce_ HB.out hx270_0
               replace hx270_1 := ce_ HB.out hx270_1
               replace hx270_2 := ce_ HB.out hx270_2
               replace hx270_3 := ce_ HB.out hx270_3
               replace hx270_4 := ce_ HB.out hx270_4
               replace hx270_5 := ce_ HB.out hx270_5
               replace hx270_6 := ce_ HB.out hx270_6
               replace hx270_7 := ce_ HB.out hx270_7
               replace hx270_8 := ce_ HB.out hx270_8
               have HR270_7 := Aside0.mk hi270_7
               have HC270_7 := Aside0.mk hl270_7
               clear hi270_7 hl270_7
               replace p270 := eq_true p270
               replace q270 := eq_true q270
               go_wp2_with (first | ((with_reducible refine gate_dst (N := 8) rfl ?_); refine box_event ?hg (N := 8) ?hd (cs := #[.int .i64 0, .int .i64 0, .int .i64 0, .int .i64 0, .int .i64 0, .int .i64 0, .string (⟨#[]⟩ : ByteArray), .slice none 0 0, .int .i64 0]) (t := 43) ?hr ?_; (case hd => rfl); (case hg => rfl); (case hr => first | (go_simp; done) | (go_simp; rfl)); intro gb271 hg w17 hbox hb; have n0_ := Aside0.mk (Kd.R_below HO_4.out hb); have n1_ := Aside0.mk (blk_below BK266.out hb); have n2_ := Aside0.mk (below_step HB.out hb); have n3_ := Aside0.mk (hbox); have n4_ := Aside0.mk ((by rw [hg]; exact (below_size HB.out) : w.heap.size ≤ gb271)); have n5_ := Aside0.mk ((by rw [hg]; exact (below_size HB.out) : w.heap.size ≤ gb271)); have n6_ := Aside0.mk ((by rw [hg]; exact Nat.ne_of_lt (blk_lt BK266.out) : gb266 ≠ gb271)); have n7_ := Aside0.mk ((by rw [hg]; exact Nat.ne_of_gt (blk_lt BK266.out) : gb271 ≠ gb266)); clear HO_4; clear BK266; clear HB; have HO_4 := n0_; have BK266 := n1_; have HB := n2_; have BK271 := n3_; have GW271 := n4_; have GE271 := n5_; have NB266_271 := n6_; have NB271_266 := n7_; clear n0_ n1_ n2_ n3_ n4_ n5_ n6_ n7_; clear hb hbox hg; have hnb18 := NB271_266.out; have hnc18 := NB266_271.out; have hcz19_0 : w17.cell? ⟨gb271, 0, none⟩ = some (.int .i64 0) := (blk_cell BK271.out 0).trans rfl; have hcz19_1 : w17.cell? ⟨gb271, 1, none⟩ = some (.int .i64 0) := (blk_cell BK271.out 1).trans rfl; have hcz19_2 : w17.cell? ⟨gb271, 2, none⟩ = some (.int .i64 0) := (blk_cell BK271.out 2).trans rfl; have hcz19_3 : w17.cell? ⟨gb271, 3, none⟩ = some (.int .i64 0) := (blk_cell BK271.out 3).trans rfl; have hcz19_4 : w17.cell? ⟨gb271, 4, none⟩ = some (.int .i64 0) := (blk_cell BK271.out 4).trans rfl; have hcz19_5 : w17.cell? ⟨gb271, 5, none⟩ = some (.int .i64 0) := (blk_cell BK271.out 5).trans rfl; have hcz19_6 : w17.cell? ⟨gb271, 6, none⟩ = some (.string (⟨#[]⟩ : ByteArray)) := (blk_cell BK271.out 6).trans rfl; have hcz19_7 : w17.cell? ⟨gb271, 7, none⟩ = some (.slice none 0 0) := (blk_cell BK271.out 7).trans rfl; have hcz19_8 : w17.cell? ⟨gb271, 8, none⟩ = some (.int .i64 0) := (blk_cell BK271.out 8).trans rfl; have hfz19_0 := blk_frozen BK271.out 0; have hfz19_1 := blk_frozen BK271.out 1; have hfz19_2 := blk_frozen BK271.out 2; have hfz19_3 := blk_frozen BK271.out 3; have hfz19_4 := blk_frozen BK271.out 4; have hfz19_5 := blk_frozen BK271.out 5; have hfz19_6 := blk_frozen BK271.out 6; have hfz19_7 := blk_frozen BK271.out 7; have hfz19_8 := blk_frozen BK271.out 8; obtain ⟨Ao20, co20, eo20⟩ := Kd.R_slice HO_4.out; subst eo20; have p272 : 0 ≤ (x29_3 : Int) := of_decide_eq_true (by first | (with_reducible assumption) | assumption); have q272 : x29_3 < (x4_3.length : Int) := of_decide_eq_true (by first | (with_reducible assumption) | assumption); obtain ⟨ad272, e272, hx272_0⟩ := Kd.at_int (Kd.R_reads' HO_4.out).2.2 x29_3 p272 q272; cases e272; have hn272_0 : ad272.block ≠ gb271 := Kd.own_blk (Kd.R_ne HO_4.out BK271.out (by decide)); have hn272_1 : ad272.block ≠ gb271 := Kd.own_blk (Kd.R_ne HO_4.out BK271.out (by decide)); have hn272_2 : ad272.block ≠ gb271 := Kd.own_blk (Kd.R_ne HO_4.out BK271.out (by decide)); have hn272_3 : ad272.block ≠ gb271 := Kd.own_blk (Kd.R_ne HO_4.out BK271.out (by decide)); have hn272_4 : ad272.block ≠ gb271 := Kd.own_blk (Kd.R_ne HO_4.out BK271.out (by decide)); have hn272_5 : ad272.block ≠ gb271 := Kd.own_blk (Kd.R_ne HO_4.out BK271.out (by decide)); have hn272_6 : ad272.block ≠ gb271 := Kd.own_blk (Kd.R_ne HO_4.out BK271.out (by decide)); have hn272_7 : ad272.block ≠ gb271 := Kd.own_blk (Kd.R_ne HO_4.out BK271.out (by decide)); have hn272_8 : ad272.block ≠ gb271 := Kd.own_blk (Kd.R_ne HO_4.out BK271.out (by decide)); replace hx272_0 := (cell_far (p := ⟨gb271, 0, none⟩) (by first | (rw [add_block]; exact hn272_0) | (show (Addr.add _ _).block ≠ _; rw [add_block]; exact hn272_0) | exact hn272_0) (.int .i64 ((rd_T43 l0_1 x29_3).f0))).trans hx272_0; replace hx272_0 := (cell_far (p := ⟨gb271, 1, none⟩) (by first | (rw [add_block]; exact hn272_1) | (show (Addr.add _ _).block ≠ _; rw [add_block]; exact hn272_1) | exact hn272_1) (.int .i64 ((rd_T43 l0_1 x29_3).f1))).trans hx272_0; replace hx272_0 := (cell_far (p := ⟨gb271, 2, none⟩) (by first | (rw [add_block]; exact hn272_2) | (show (Addr.add _ _).block ≠ _; rw [add_block]; exact hn272_2) | exact hn272_2) (.int .i64 ((rd_T43 l0_1 x29_3).f2))).trans hx272_0; replace hx272_0 := (cell_far (p := ⟨gb271, 3, none⟩) (by first | (rw [add_block]; exact hn272_3) | (show (Addr.add _ _).block ≠ _; rw [add_block]; exact hn272_3) | exact hn272_3) (.int .i64 ((rd_T43 l0_1 x29_3).f3))).trans hx272_0; replace hx272_0 := (cell_far (p := ⟨gb271, 4, none⟩) (by first | (rw [add_block]; exact hn272_4) | (show (Addr.add _ _).block ≠ _; rw [add_block]; exact hn272_4) | exact hn272_4) (.int .i64 ((rd_T43 l0_1 x29_3).f4))).trans hx272_0; replace hx272_0 := (cell_far (p := ⟨gb271, 5, none⟩) (by first | (rw [add_block]; exact hn272_5) | (show (Addr.add _ _).block ≠ _; rw [add_block]; exact hn272_5) | exact hn272_5) (.int .i64 ((rd_T43 l0_1 x29_3).f5))).trans hx272_0; replace hx272_0 := (cell_far (p := ⟨gb271, 6, none⟩) (by first | (rw [add_block]; exact hn272_6) | (show (Addr.add _ _).block ≠ _; rw [add_block]; exact hn272_6) | exact hn272_6) (.string ((rd_T43 l0_1 x29_3).f6))).trans hx272_0; replace hx272_0 := (cell_far (p := ⟨gb271, 7, none⟩) (by first | (rw [add_block]; exact hn272_7) | (show (Addr.add _ _).block ≠ _; rw [add_block]; exact hn272_7) | exact hn272_7) (.slice A270_7 ((rd_T43 l0_1 x29_3).f7).length c270_7)).trans hx272_0; replace hx272_0 := (cell_far (p := ⟨gb271, 8, none⟩) (by first | (rw [add_block]; exact hn272_8) | (show (Addr.add _ _).block ≠ _; rw [add_block]; exact hn272_8) | exact hn272_8) (.int .i64 ((rd_T43 l0_1 x29_3).f8))).trans hx272_0; clear hn272_0; clear hn272_1; clear hn272_2; clear hn272_3; clear hn272_4; clear hn272_5; clear hn272_6; clear hn272_7; clear hn272_8; replace p272 := eq_true p272; replace q272 := eq_true q272))
               go_roundg k3
               case measure => have := HK1.out; have := HJ7.out; have := HK3.out; omega
               case rel => exact ⟨(x4_3), (x5_3), (x6_3), (wrap64 (x29_3 + 1)), (by first | rfl | (simp; done) | (simp [*]; done)), (by first | rfl | (simp; done) | (simp [*]; done)), (by first | rfl | (simp; done) | (simp [*]; done)), H', ⟨by have := HK1.out; have := HJ7.out; have := HK3.out; omega⟩, ⟨by (with_reducible repeat (first | apply Kd.R_alloc | apply Kd.R_drewN | apply Kd.R_drew)); exact Kd.R_mono (Kd.R_far (p := ⟨gb271, 8, none⟩) (Kd.R_far (p := ⟨gb271, 7, none⟩) (Kd.R_far (p := ⟨gb271, 6, none⟩) (Kd.R_far (p := ⟨gb271, 5, none⟩) (Kd.R_far (p := ⟨gb271, 4, none⟩) (Kd.R_far (p := ⟨gb271, 3, none⟩) (Kd.R_far (p := ⟨gb271, 2, none⟩) (Kd.R_far (p := ⟨gb271, 1, none⟩) (Kd.R_far (p := ⟨gb271, 0, none⟩) (Kd.R_types HO_4.out BK271.out (by decide)) (fun _ hk => hk.2) (.int .i64 ((rd_T43 l0_1 x29_3).f0))) (fun _ hk => hk.2) (.int .i64 ((rd_T43 l0_1 x29_3).f1))) (fun _ hk => hk.2) (.int .i64 ((rd_T43 l0_1 x29_3).f2))) (fun _ hk => hk.2) (.int .i64 ((rd_T43 l0_1 x29_3).f3))) (fun _ hk => hk.2) (.int .i64 ((rd_T43 l0_1 x29_3).f4))) (fun _ hk => hk.2) (.int .i64 ((rd_T43 l0_1 x29_3).f5))) (fun _ hk => hk.2) (.string ((rd_T43 l0_1 x29_3).f6))) (fun _ hk => hk.2) (.slice A270_7 ((rd_T43 l0_1 x29_3).f7).length c270_7)) (fun _ hk => hk.2) (.int .i64 ((rd_T43 l0_1 x29_3).f8))) (fun _ hk => trivial)⟩, ⟨by refine blk_far ?_ NB266_271.out _; refine blk_far ?_ NB266_271.out _; refine blk_far ?_ NB266_271.out _; refine blk_far ?_ NB266_271.out _; refine blk_far ?_ NB266_271.out _; refine blk_far ?_ NB266_271.out _; refine blk_far ?_ NB266_271.out _; refine blk_far ?_ NB266_271.out _; refine blk_far ?_ NB266_271.out _; exact BK266.out⟩, ⟨(a6_ HB.out GE266.out GE271.out)⟩⟩
              ·
               rw [if_neg c16] at H
               have c16b0 : decide (0 < (rd x4_3 x29_3)) = false := decide_eq_false c16
               clear c16
               have H' := Aside0.mk H
               clear H
               have p270 : 0 ≤ (x29_3 : Int) := of_decide_eq_true (by first | (with_reducible assumption) | assumption)
               have q270 : x29_3 < (l0_1.length : Int) := of_decide_eq_true (by first | (with_reducible assumption) | assumption)
               obtain ⟨ad270, A270_7, c270_7, e270, hx270_0, hx270_1, hx270_2, hx270_3, hx270_4, hx270_5, hx270_6, hx270_7, hx270_8, hl270_7, hi270_7⟩ := at_T43 HR0_1.out x29_3 p270 q270
               cases e270
               replace hx270_0 := ce_ HB.out hx270_0
               replace hx270_1 := ce_ HB.out hx270_1
               replace hx270_2 := ce_ HB.out hx270_2
               replace hx270_3 := ce_ HB.out hx270_3
               replace hx270_4 := ce_ HB.out hx270_4
               replace hx270_5 := ce_ HB.out hx270_5
               replace hx270_6 := ce_ HB.out hx270_6
               replace hx270_7 := ce_ HB.out hx270_7
               replace hx270_8 := ce_ HB.out hx270_8
               have HR270_7 := Aside0.mk hi270_7
               have HC270_7 := Aside0.mk hl270_7
               clear hi270_7 hl270_7
               replace p270 := eq_true p270
               replace q270 := eq_true q270
               go_wp2_with (first | ((with_reducible refine gate_dst (N := 8) rfl ?_); refine box_event ?hg (N := 8) ?hd (cs := #[.int .i64 0, .int .i64 0, .int .i64 0, .int .i64 0, .int .i64 0, .int .i64 0, .string (⟨#[]⟩ : ByteArray), .slice none 0 0, .int .i64 0]) (t := 43) ?hr ?_; (case hd => rfl); (case hg => rfl); (case hr => first | (go_simp; done) | (go_simp; rfl)); intro gb271 hg w21 hbox hb; have n0_ := Aside0.mk (Kd.R_below HO_4.out hb); have n1_ := Aside0.mk (blk_below BK266.out hb); have n2_ := Aside0.mk (below_step HB.out hb); have n3_ := Aside0.mk (hbox); have n4_ := Aside0.mk ((by rw [hg]; exact (below_size HB.out) : w.heap.size ≤ gb271)); have n5_ := Aside0.mk ((by rw [hg]; exact (below_size HB.out) : w.heap.size ≤ gb271)); have n6_ := Aside0.mk ((by rw [hg]; exact Nat.ne_of_lt (blk_lt BK266.out) : gb266 ≠ gb271)); have n7_ := Aside0.mk ((by rw [hg]; exact Nat.ne_of_gt (blk_lt BK266.out) : gb271 ≠ gb266)); clear HO_4; clear BK266; clear HB; have HO_4 := n0_; have BK266 := n1_; have HB := n2_; have BK271 := n3_; have GW271 := n4_; have GE271 := n5_; have NB266_271 := n6_; have NB271_266 := n7_; clear n0_ n1_ n2_ n3_ n4_ n5_ n6_ n7_; clear hb hbox hg; have hnb22 := NB271_266.out; have hnc22 := NB266_271.out; have hcz23_0 : w21.cell? ⟨gb271, 0, none⟩ = some (.int .i64 0) := (blk_cell BK271.out 0).trans rfl; have hcz23_1 : w21.cell? ⟨gb271, 1, none⟩ = some (.int .i64 0) := (blk_cell BK271.out 1).trans rfl; have hcz23_2 : w21.cell? ⟨gb271, 2, none⟩ = some (.int .i64 0) := (blk_cell BK271.out 2).trans rfl; have hcz23_3 : w21.cell? ⟨gb271, 3, none⟩ = some (.int .i64 0) := (blk_cell BK271.out 3).trans rfl; have hcz23_4 : w21.cell? ⟨gb271, 4, none⟩ = some (.int .i64 0) := (blk_cell BK271.out 4).trans rfl; have hcz23_5 : w21.cell? ⟨gb271, 5, none⟩ = some (.int .i64 0) := (blk_cell BK271.out 5).trans rfl; have hcz23_6 : w21.cell? ⟨gb271, 6, none⟩ = some (.string (⟨#[]⟩ : ByteArray)) := (blk_cell BK271.out 6).trans rfl; have hcz23_7 : w21.cell? ⟨gb271, 7, none⟩ = some (.slice none 0 0) := (blk_cell BK271.out 7).trans rfl; have hcz23_8 : w21.cell? ⟨gb271, 8, none⟩ = some (.int .i64 0) := (blk_cell BK271.out 8).trans rfl; have hfz23_0 := blk_frozen BK271.out 0; have hfz23_1 := blk_frozen BK271.out 1; have hfz23_2 := blk_frozen BK271.out 2; have hfz23_3 := blk_frozen BK271.out 3; have hfz23_4 := blk_frozen BK271.out 4; have hfz23_5 := blk_frozen BK271.out 5; have hfz23_6 := blk_frozen BK271.out 6; have hfz23_7 := blk_frozen BK271.out 7; have hfz23_8 := blk_frozen BK271.out 8; obtain ⟨Ao24, co24, eo24⟩ := Kd.R_slice HO_4.out; subst eo24; have p272 : 0 ≤ (x29_3 : Int) := of_decide_eq_true (by first | (with_reducible assumption) | assumption); have q272 : x29_3 < (x4_3.length : Int) := of_decide_eq_true (by first | (with_reducible assumption) | assumption); obtain ⟨ad272, e272, hx272_0⟩ := Kd.at_int (Kd.R_reads' HO_4.out).2.2 x29_3 p272 q272; cases e272; have hn272_0 : ad272.block ≠ gb271 := Kd.own_blk (Kd.R_ne HO_4.out BK271.out (by decide)); have hn272_1 : ad272.block ≠ gb271 := Kd.own_blk (Kd.R_ne HO_4.out BK271.out (by decide)); have hn272_2 : ad272.block ≠ gb271 := Kd.own_blk (Kd.R_ne HO_4.out BK271.out (by decide)); have hn272_3 : ad272.block ≠ gb271 := Kd.own_blk (Kd.R_ne HO_4.out BK271.out (by decide)); have hn272_4 : ad272.block ≠ gb271 := Kd.own_blk (Kd.R_ne HO_4.out BK271.out (by decide)); have hn272_5 : ad272.block ≠ gb271 := Kd.own_blk (Kd.R_ne HO_4.out BK271.out (by decide)); have hn272_6 : ad272.block ≠ gb271 := Kd.own_blk (Kd.R_ne HO_4.out BK271.out (by decide)); have hn272_7 : ad272.block ≠ gb271 := Kd.own_blk (Kd.R_ne HO_4.out BK271.out (by decide)); have hn272_8 : ad272.block ≠ gb271 := Kd.own_blk (Kd.R_ne HO_4.out BK271.out (by decide)); replace hx272_0 := (cell_far (p := ⟨gb271, 0, none⟩) (by first | (rw [add_block]; exact hn272_0) | (show (Addr.add _ _).block ≠ _; rw [add_block]; exact hn272_0) | exact hn272_0) (.int .i64 ((rd_T43 l0_1 x29_3).f0))).trans hx272_0; replace hx272_0 := (cell_far (p := ⟨gb271, 1, none⟩) (by first | (rw [add_block]; exact hn272_1) | (show (Addr.add _ _).block ≠ _; rw [add_block]; exact hn272_1) | exact hn272_1) (.int .i64 ((rd_T43 l0_1 x29_3).f1))).trans hx272_0; replace hx272_0 := (cell_far (p := ⟨gb271, 2, none⟩) (by first | (rw [add_block]; exact hn272_2) | (show (Addr.add _ _).block ≠ _; rw [add_block]; exact hn272_2) | exact hn272_2) (.int .i64 ((rd_T43 l0_1 x29_3).f2))).trans hx272_0; replace hx272_0 := (cell_far (p := ⟨gb271, 3, none⟩) (by first | (rw [add_block]; exact hn272_3) | (show (Addr.add _ _).block ≠ _; rw [add_block]; exact hn272_3) | exact hn272_3) (.int .i64 ((rd_T43 l0_1 x29_3).f3))).trans hx272_0; replace hx272_0 := (cell_far (p := ⟨gb271, 4, none⟩) (by first | (rw [add_block]; exact hn272_4) | (show (Addr.add _ _).block ≠ _; rw [add_block]; exact hn272_4) | exact hn272_4) (.int .i64 ((rd_T43 l0_1 x29_3).f4))).trans hx272_0; replace hx272_0 := (cell_far (p := ⟨gb271, 5, none⟩) (by first | (rw [add_block]; exact hn272_5) | (show (Addr.add _ _).block ≠ _; rw [add_block]; exact hn272_5) | exact hn272_5) (.int .i64 ((rd_T43 l0_1 x29_3).f5))).trans hx272_0; replace hx272_0 := (cell_far (p := ⟨gb271, 6, none⟩) (by first | (rw [add_block]; exact hn272_6) | (show (Addr.add _ _).block ≠ _; rw [add_block]; exact hn272_6) | exact hn272_6) (.string ((rd_T43 l0_1 x29_3).f6))).trans hx272_0; replace hx272_0 := (cell_far (p := ⟨gb271, 7, none⟩) (by first | (rw [add_block]; exact hn272_7) | (show (Addr.add _ _).block ≠ _; rw [add_block]; exact hn272_7) | exact hn272_7) (.slice A270_7 ((rd_T43 l0_1 x29_3).f7).length c270_7)).trans hx272_0; replace hx272_0 := (cell_far (p := ⟨gb271, 8, none⟩) (by first | (rw [add_block]; exact hn272_8) | (show (Addr.add _ _).block ≠ _; rw [add_block]; exact hn272_8) | exact hn272_8) (.int .i64 ((rd_T43 l0_1 x29_3).f8))).trans hx272_0; clear hn272_0; clear hn272_1; clear hn272_2; clear hn272_3; clear hn272_4; clear hn272_5; clear hn272_6; clear hn272_7; clear hn272_8; replace p272 := eq_true p272; replace q272 := eq_true q272))
               go_loopg [9, 42] k3 (fun kq v9 v42 w' => ∃ (x9_4 : Int) (x42_4 : Int), v9 = .int .i64 x9_4 ∧ v42 = .int .i64 x42_4 ∧ Aside0 (impl_Graph_depths.l2 kq x4_3 x5_3 x6_3 x29_3 x9_4 l0_1 (l0_1.length : Int) x29_3 ((rd_T43 l0_1 x29_3).f7) (((rd_T43 l0_1 x29_3).f7).length : Int) x42_4 a0_0 l0_1 l0_2 = some (r1, r2)) ∧ Aside0 (kq ≤ k3) ∧ Aside0 (Kd.R (Kd.int .i64) 2 w' w.heap.size (fun _ => True) (.slice (some ad272) x4_3.length co24) x4_3) ∧ Aside0 (w'.heap[gb266]? = some (.cells #[.int .i64 a0_0, (.slice (some ad270) l0_1.length c0_1), (.slice A0_2 l0_2.length c0_2)] 29 (0, 0))) ∧ Aside0 (w'.heap[gb271]? = some (.cells #[.int .i64 ((rd_T43 l0_1 x29_3).f0), .int .i64 ((rd_T43 l0_1 x29_3).f1), .int .i64 ((rd_T43 l0_1 x29_3).f2), .int .i64 ((rd_T43 l0_1 x29_3).f3), .int .i64 ((rd_T43 l0_1 x29_3).f4), .int .i64 ((rd_T43 l0_1 x29_3).f5), .string ((rd_T43 l0_1 x29_3).f6), (.slice A270_7 ((rd_T43 l0_1 x29_3).f7).length c270_7), .int .i64 ((rd_T43 l0_1 x29_3).f8)] 43 (0, 0))) ∧ Aside0 (Below w.heap.size w w'))
               case atStart => exact ⟨(1), (0), (by first | rfl | (simp; done) | (simp [*]; done)), (by first | rfl | (simp; done) | (simp [*]; done)), H', ⟨Nat.le_refl _⟩, ⟨by (with_reducible repeat (first | apply Kd.R_alloc | apply Kd.R_drewN | apply Kd.R_drew)); exact Kd.R_mono (Kd.R_far (p := ⟨gb271, 8, none⟩) (Kd.R_far (p := ⟨gb271, 7, none⟩) (Kd.R_far (p := ⟨gb271, 6, none⟩) (Kd.R_far (p := ⟨gb271, 5, none⟩) (Kd.R_far (p := ⟨gb271, 4, none⟩) (Kd.R_far (p := ⟨gb271, 3, none⟩) (Kd.R_far (p := ⟨gb271, 2, none⟩) (Kd.R_far (p := ⟨gb271, 1, none⟩) (Kd.R_far (p := ⟨gb271, 0, none⟩) (Kd.R_types HO_4.out BK271.out (by decide)) (fun _ hk => hk.2) (.int .i64 ((rd_T43 l0_1 x29_3).f0))) (fun _ hk => hk.2) (.int .i64 ((rd_T43 l0_1 x29_3).f1))) (fun _ hk => hk.2) (.int .i64 ((rd_T43 l0_1 x29_3).f2))) (fun _ hk => hk.2) (.int .i64 ((rd_T43 l0_1 x29_3).f3))) (fun _ hk => hk.2) (.int .i64 ((rd_T43 l0_1 x29_3).f4))) (fun _ hk => hk.2) (.int .i64 ((rd_T43 l0_1 x29_3).f5))) (fun _ hk => hk.2) (.string ((rd_T43 l0_1 x29_3).f6))) (fun _ hk => hk.2) (.slice A270_7 ((rd_T43 l0_1 x29_3).f7).length c270_7)) (fun _ hk => hk.2) (.int .i64 ((rd_T43 l0_1 x29_3).f8))) (fun _ hk => trivial)⟩, ⟨by refine blk_far ?_ NB266_271.out _; refine blk_far ?_ NB266_271.out _; refine blk_far ?_ NB266_271.out _; refine blk_far ?_ NB266_271.out _; refine blk_far ?_ NB266_271.out _; refine blk_far ?_ NB266_271.out _; refine blk_far ?_ NB266_271.out _; refine blk_far ?_ NB266_271.out _; refine blk_far ?_ NB266_271.out _; exact BK266.out⟩, ⟨by refine blk_put (cs := #[.int .i64 ((rd_T43 l0_1 x29_3).f0), .int .i64 ((rd_T43 l0_1 x29_3).f1), .int .i64 ((rd_T43 l0_1 x29_3).f2), .int .i64 ((rd_T43 l0_1 x29_3).f3), .int .i64 ((rd_T43 l0_1 x29_3).f4), .int .i64 ((rd_T43 l0_1 x29_3).f5), .string ((rd_T43 l0_1 x29_3).f6), .slice A270_7 ((rd_T43 l0_1 x29_3).f7).length c270_7, .int .i64 0]) ?_ 8 _ rfl; refine blk_put (cs := #[.int .i64 ((rd_T43 l0_1 x29_3).f0), .int .i64 ((rd_T43 l0_1 x29_3).f1), .int .i64 ((rd_T43 l0_1 x29_3).f2), .int .i64 ((rd_T43 l0_1 x29_3).f3), .int .i64 ((rd_T43 l0_1 x29_3).f4), .int .i64 ((rd_T43 l0_1 x29_3).f5), .string ((rd_T43 l0_1 x29_3).f6), .slice none 0 0, .int .i64 0]) ?_ 7 _ rfl; refine blk_put (cs := #[.int .i64 ((rd_T43 l0_1 x29_3).f0), .int .i64 ((rd_T43 l0_1 x29_3).f1), .int .i64 ((rd_T43 l0_1 x29_3).f2), .int .i64 ((rd_T43 l0_1 x29_3).f3), .int .i64 ((rd_T43 l0_1 x29_3).f4), .int .i64 ((rd_T43 l0_1 x29_3).f5), .string (⟨#[]⟩ : ByteArray), .slice none 0 0, .int .i64 0]) ?_ 6 _ rfl; refine blk_put (cs := #[.int .i64 ((rd_T43 l0_1 x29_3).f0), .int .i64 ((rd_T43 l0_1 x29_3).f1), .int .i64 ((rd_T43 l0_1 x29_3).f2), .int .i64 ((rd_T43 l0_1 x29_3).f3), .int .i64 ((rd_T43 l0_1 x29_3).f4), .int .i64 0, .string (⟨#[]⟩ : ByteArray), .slice none 0 0, .int .i64 0]) ?_ 5 _ rfl; refine blk_put (cs := #[.int .i64 ((rd_T43 l0_1 x29_3).f0), .int .i64 ((rd_T43 l0_1 x29_3).f1), .int .i64 ((rd_T43 l0_1 x29_3).f2), .int .i64 ((rd_T43 l0_1 x29_3).f3), .int .i64 0, .int .i64 0, .string (⟨#[]⟩ : ByteArray), .slice none 0 0, .int .i64 0]) ?_ 4 _ rfl; refine blk_put (cs := #[.int .i64 ((rd_T43 l0_1 x29_3).f0), .int .i64 ((rd_T43 l0_1 x29_3).f1), .int .i64 ((rd_T43 l0_1 x29_3).f2), .int .i64 0, .int .i64 0, .int .i64 0, .string (⟨#[]⟩ : ByteArray), .slice none 0 0, .int .i64 0]) ?_ 3 _ rfl; refine blk_put (cs := #[.int .i64 ((rd_T43 l0_1 x29_3).f0), .int .i64 ((rd_T43 l0_1 x29_3).f1), .int .i64 0, .int .i64 0, .int .i64 0, .int .i64 0, .string (⟨#[]⟩ : ByteArray), .slice none 0 0, .int .i64 0]) ?_ 2 _ rfl; refine blk_put (cs := #[.int .i64 ((rd_T43 l0_1 x29_3).f0), .int .i64 0, .int .i64 0, .int .i64 0, .int .i64 0, .int .i64 0, .string (⟨#[]⟩ : ByteArray), .slice none 0 0, .int .i64 0]) ?_ 1 _ rfl; refine blk_put (cs := #[.int .i64 0, .int .i64 0, .int .i64 0, .int .i64 0, .int .i64 0, .int .i64 0, .string (⟨#[]⟩ : ByteArray), .slice none 0 0, .int .i64 0]) ?_ 0 _ rfl; exact BK271.out⟩, ⟨(a6_ HB.out GE266.out GE271.out)⟩⟩
               case round =>
                clear H'
                try clear c1
                try clear c2
                try clear c2b0
                try clear c2b1
                try clear p2
                try clear q2
                try clear hx2
                try clear c3
                try clear c3b0
                try clear c3b1
                try clear p6
                try clear c9
                try clear c10
                try clear c12
                try clear c12b0
                try clear c13
                try clear c13b0
                try clear c14
                try clear c14b0
                try clear c15
                try clear c15b0
                try clear c16
                try clear c16b0
                try clear c18
                try clear c22
                try clear hcz11_0
                try clear hcz11_1
                try clear hcz11_2
                try clear hcz19_0
                try clear hcz19_1
                try clear hcz19_2
                try clear hcz19_3
                try clear hcz19_4
                try clear hcz19_5
                try clear hcz19_6
                try clear hcz19_7
                try clear hcz19_8
                try clear hcz23_0
                try clear hcz23_1
                try clear hcz23_2
                try clear hcz23_3
                try clear hcz23_4
                try clear hcz23_5
                try clear hcz23_6
                try clear hcz23_7
                try clear hcz23_8
                try clear hfz11_0
                try clear hfz11_1
                try clear hfz11_2
                try clear hfz19_0
                try clear hfz19_1
                try clear hfz19_2
                try clear hfz19_3
                try clear hfz19_4
                try clear hfz19_5
                try clear hfz19_6
                try clear hfz19_7
                try clear hfz19_8
                try clear hfz23_0
                try clear hfz23_1
                try clear hfz23_2
                try clear hfz23_3
                try clear hfz23_4
                try clear hfz23_5
                try clear hfz23_6
                try clear hfz23_7
                try clear hfz23_8
                try clear hx270_0
                try clear hx270_1
                try clear hx270_2
                try clear hx270_3
                try clear hx270_4
                try clear hx270_5
                try clear hx270_6
                try clear hx270_7
                try clear hx270_8
                try clear hx272_0
                try clear p2
                try clear p270
                try clear p272
                try clear q270
                try clear q272
                obtain ⟨x9_4, x42_4, rfl, rfl, HA, HK4, HO_4, BK266, BK271, HB⟩ := hrel
                cases gk with
                | zero => exact absurd HA.out (by simp [impl_Graph_depths.l2])
                | succ k4 =>
                 have H := HA.out
                 clear HA
                 simp only [impl_Graph_depths.l2] at H
                 by_cases c25 : x42_4 < (((rd_T43 l0_1 x29_3).f7).length : Int)
                 ·
                  rw [if_pos c25] at H
                  have c25b0 : decide (x42_4 < (((rd_T43 l0_1 x29_3).f7).length : Int)) = true := decide_eq_true c25
                  clear c25
                  by_cases c26 : 0 ≤ x42_4
                  ·
                   rw [if_pos c26] at H
                   have c26b0 : decide (0 ≤ x42_4) = true := decide_eq_true c26
                   clear c26
                   by_cases c27 : x42_4 < (((rd_T43 l0_1 x29_3).f7).length : Int)
                   ·
                    rw [if_pos c27] at H
                    have c27b0 : decide (x42_4 < (((rd_T43 l0_1 x29_3).f7).length : Int)) = true := decide_eq_true c27
                    clear c27
                    replace H := Option.bind_eq_some_iff.mp H
                    obtain ⟨⟨t274, t275⟩, A280, H⟩ := H
                    replace H : (if 0 ≤ t274 then (if t274 < (x4_3.length : Int) then (if (rd x4_3 t274) = 0 then (if 0 > 0 then (if 0 ≤ x29_3 then (if x29_3 < (x4_3.length : Int) then (impl_Graph_depths.l1 k4 (x4_3.set (x29_3 : Int).toNat 0) (wrap64 (x5_3 - 1)) true l0_1 (l0_1.length : Int) (wrap64 (x29_3 + 1)) a0_0 l0_1 l0_2) else (none)) else (none)) else (impl_Graph_depths.l1 k4 x4_3 x5_3 x6_3 l0_1 (l0_1.length : Int) (wrap64 (x29_3 + 1)) a0_0 l0_1 l0_2)) else (impl_Graph_depths.l2 k4 x4_3 x5_3 x6_3 x29_3 (mx x9_4 (wrap64 ((rd x4_3 t274) + 1))) l0_1 (l0_1.length : Int) x29_3 ((rd_T43 l0_1 x29_3).f7) (((rd_T43 l0_1 x29_3).f7).length : Int) (wrap64 (x42_4 + 1)) a0_0 l0_1 l0_2)) else (none)) else (none)) = some (r1, r2) := H
                    have A28 := Aside0.mk A280
                    clear A280
                    by_cases c29 : 0 ≤ t274
                    ·
                     rw [if_pos c29] at H
                     have c29b0 : decide (0 ≤ t274) = true := decide_eq_true c29
                     clear c29
                     by_cases c30 : t274 < (x4_3.length : Int)
                     ·
                      rw [if_pos c30] at H
                      have c30b0 : decide (t274 < (x4_3.length : Int)) = true := decide_eq_true c30
                      clear c30
                      by_cases c31 : (rd x4_3 t274) = 0
                      ·
                       rw [if_pos c31] at H
                       have c31b0 : ((rd x4_3 t274) == 0) = true := beq_iff_eq.mpr c31
                       have c31b1 : ((rd x4_3 t274) != 0) = false := bne_eq_false_iff_eq.mpr c31
                       clear c31
                       by_cases c32 : 0 > 0
                       · exact absurd c32 (by decide)
                       ·
                        rw [if_neg c32] at H
                        have c32b0 : decide (0 < 0) = false := decide_eq_false c32
                        clear c32
                        have H' := Aside0.mk H
                        clear H
                        have p273 : 0 ≤ (x42_4 : Int) := of_decide_eq_true (by first | (with_reducible assumption) | assumption)
                        have q273 : x42_4 < (((rd_T43 l0_1 x29_3).f7).length : Int) := of_decide_eq_true (by first | (with_reducible assumption) | assumption)
                        obtain ⟨ad273, e273, hx273_0⟩ := Kd.at_int HR270_7.out x42_4 p273 q273
                        cases e273
                        replace hx273_0 := ce_ HB.out hx273_0
                        replace p273 := eq_true p273
                        replace q273 := eq_true q273
                        have hnb41 := NB266_271.out
                        have hnc41 := NB271_266.out
                        have hcz42_0 : wr.cell? ⟨gb266, 0, none⟩ = some (.int .i64 a0_0) := (blk_cell BK266.out 0).trans rfl
                        have hcz42_1 : wr.cell? ⟨gb266, 1, none⟩ = some (.slice (some ad270) l0_1.length c0_1) := (blk_cell BK266.out 1).trans rfl
                        have hcz42_2 : wr.cell? ⟨gb266, 2, none⟩ = some (.slice A0_2 l0_2.length c0_2) := (blk_cell BK266.out 2).trans rfl
                        have hfz42_0 := blk_frozen BK266.out 0
                        have hfz42_1 := blk_frozen BK266.out 1
                        have hfz42_2 := blk_frozen BK266.out 2
                        go_wp2_with (first | ((with_reducible refine gate_callee (f := 31) rfl ?_); refine goesL_ (some 50) rfl rfl Try.func31 (by kernel_rfl) rfl #[.slice (some ad270) l0_1.length c0_1, .int .i64 (rd ((rd_T43 l0_1 x29_3).f7) x42_4)] rfl (by (try simp only [List.map_toArray, List.map_cons, List.map_nil]); first | done | rfl | (simp only [List.length_drop, List.length_take]; rfl)) ?_; (with_reducible refine (impl_find.calls k4 _ _ l0_1 (rd ((rd_T43 l0_1 x29_3).f7) x42_4) t274 t275 _ ?side1 ?side2 A28.out).mono ?_); (case side1 => repeat (first | exact (Kd.C_below HR0_1.out HB.out) | (with_reducible refine Kd.C_alloc ?_ _) | (with_reducible refine Kd.C_drewN ?_ _) | (with_reducible refine Kd.C_drew ?_))); (case side2 => exact HC0_1.out); rintro e w43 ⟨rfl, hb⟩; refine ⟨_, rfl, ?_⟩; have n0_ := Aside0.mk (Kd.R_below HO_4.out hb); have n1_ := Aside0.mk (blk_below BK266.out hb); have n2_ := Aside0.mk (blk_below BK271.out hb); have n3_ := Aside0.mk (below_step HB.out hb); clear HO_4; clear BK266; clear BK271; clear HB; have HO_4 := n0_; have BK266 := n1_; have BK271 := n2_; have HB := n3_; clear n0_ n1_ n2_ n3_; (try clear hb); (try clear hb2); (try clear hk); (try clear hi); have p276 : 0 ≤ (t274 : Int) := of_decide_eq_true (by first | (with_reducible assumption) | assumption); have q276 : t274 < (x4_3.length : Int) := of_decide_eq_true (by first | (with_reducible assumption) | assumption); obtain ⟨ad276, e276, hx276_0⟩ := Kd.at_int (Kd.R_reads' HO_4.out).2.2 t274 p276 q276; obtain rfl : ad272 = ad276 := (by injection e276); replace p276 := eq_true p276; replace q276 := eq_true q276))
                        go_roundg k4
                        case measure => have := HK1.out; have := HJ7.out; have := HK3.out; have := HK4.out; omega
                        case rel => exact ⟨(x4_3), (x5_3), (x6_3), (wrap64 (x29_3 + 1)), (by first | rfl | (simp; done) | (simp [*]; done)), (by first | rfl | (simp; done) | (simp [*]; done)), (by first | rfl | (simp; done) | (simp [*]; done)), H', ⟨by have := HK1.out; have := HJ7.out; have := HK3.out; have := HK4.out; omega⟩, ⟨(a4_ HO_4.out)⟩, ⟨by exact BK266.out⟩, ⟨(a6_ HB.out GE266.out GE271.out)⟩⟩
                      ·
                       rw [if_neg c31] at H
                       have c31b0 : ((rd x4_3 t274) == 0) = false := beq_eq_false_iff_ne.mpr c31
                       have c31b1 : ((rd x4_3 t274) != 0) = true := bne_iff_ne.mpr c31
                       obtain ⟨ji44, hji44⟩ : ∃ j_ : Int, (mx x9_4 (wrap64 ((rd x4_3 t274) + 1))) = j_ := ⟨_, rfl⟩
                       replace H : (impl_Graph_depths.l2 k4 x4_3 x5_3 x6_3 x29_3 ji44 l0_1 (l0_1.length : Int) x29_3 ((rd_T43 l0_1 x29_3).f7) (((rd_T43 l0_1 x29_3).f7).length : Int) (wrap64 (x42_4 + 1)) a0_0 l0_1 l0_2) = some (r1, r2) := by first | (rw [hji44] at H; exact H) | (simp only [hji44] at H ⊢; exact H)
                       (try rw [hji44] at A28)
                       have hji44_ : (if x9_4 < (wrap64 ((rd x4_3 t274) + 1)) then (wrap64 ((rd x4_3 t274) + 1)) else x9_4) = ji44 := hji44
                       have H' := Aside0.mk H
                       clear H
                       have p273 : 0 ≤ (x42_4 : Int) := of_decide_eq_true (by first | (with_reducible assumption) | assumption)
                       have q273 : x42_4 < (((rd_T43 l0_1 x29_3).f7).length : Int) := of_decide_eq_true (by first | (with_reducible assumption) | assumption)
                       obtain ⟨ad273, e273, hx273_0⟩ := Kd.at_int HR270_7.out x42_4 p273 q273
                       cases e273
                       replace hx273_0 := ce_ HB.out hx273_0
                       replace p273 := eq_true p273
                       replace q273 := eq_true q273
                       have hnb45 := NB266_271.out
                       have hnc45 := NB271_266.out
                       have hcz46_0 : wr.cell? ⟨gb266, 0, none⟩ = some (.int .i64 a0_0) := (blk_cell BK266.out 0).trans rfl
                       have hcz46_1 : wr.cell? ⟨gb266, 1, none⟩ = some (.slice (some ad270) l0_1.length c0_1) := (blk_cell BK266.out 1).trans rfl
                       have hcz46_2 : wr.cell? ⟨gb266, 2, none⟩ = some (.slice A0_2 l0_2.length c0_2) := (blk_cell BK266.out 2).trans rfl
                       have hfz46_0 := blk_frozen BK266.out 0
                       have hfz46_1 := blk_frozen BK266.out 1
                       have hfz46_2 := blk_frozen BK266.out 2
                       go_wp2_with (first | ((with_reducible refine gate_callee (f := 31) rfl ?_); refine goesL_ (some 50) rfl rfl Try.func31 (by kernel_rfl) rfl #[.slice (some ad270) l0_1.length c0_1, .int .i64 (rd ((rd_T43 l0_1 x29_3).f7) x42_4)] rfl (by (try simp only [List.map_toArray, List.map_cons, List.map_nil]); first | done | rfl | (simp only [List.length_drop, List.length_take]; rfl)) ?_; (with_reducible refine (impl_find.calls k4 _ _ l0_1 (rd ((rd_T43 l0_1 x29_3).f7) x42_4) t274 t275 _ ?side1 ?side2 A28.out).mono ?_); (case side1 => repeat (first | exact (Kd.C_below HR0_1.out HB.out) | (with_reducible refine Kd.C_alloc ?_ _) | (with_reducible refine Kd.C_drewN ?_ _) | (with_reducible refine Kd.C_drew ?_))); (case side2 => exact HC0_1.out); rintro e w47 ⟨rfl, hb⟩; refine ⟨_, rfl, ?_⟩; have n0_ := Aside0.mk (Kd.R_below HO_4.out hb); have n1_ := Aside0.mk (blk_below BK266.out hb); have n2_ := Aside0.mk (blk_below BK271.out hb); have n3_ := Aside0.mk (below_step HB.out hb); clear HO_4; clear BK266; clear BK271; clear HB; have HO_4 := n0_; have BK266 := n1_; have BK271 := n2_; have HB := n3_; clear n0_ n1_ n2_ n3_; (try clear hb); (try clear hb2); (try clear hk); (try clear hi); have p276 : 0 ≤ (t274 : Int) := of_decide_eq_true (by first | (with_reducible assumption) | assumption); have q276 : t274 < (x4_3.length : Int) := of_decide_eq_true (by first | (with_reducible assumption) | assumption); obtain ⟨ad276, e276, hx276_0⟩ := Kd.at_int (Kd.R_reads' HO_4.out).2.2 t274 p276 q276; obtain rfl : ad272 = ad276 := (by injection e276); replace p276 := eq_true p276; replace q276 := eq_true q276; have p278 : 0 ≤ (t274 : Int) := of_decide_eq_true (by first | (with_reducible assumption) | assumption); have q278 : t274 < (x4_3.length : Int) := of_decide_eq_true (by first | (with_reducible assumption) | assumption); obtain ⟨ad278, e278, hx278_0⟩ := Kd.at_int (Kd.R_reads' HO_4.out).2.2 t274 p278 q278; obtain rfl : ad272 = ad278 := (by injection e278); replace p278 := eq_true p278; replace q278 := eq_true q278))
                       go_roundg k4
                       case measure => have := HK1.out; have := HJ7.out; have := HK3.out; have := HK4.out; omega
                       case rel => exact ⟨(ji44), (wrap64 (x42_4 + 1)), (by first | rfl | (simp; done) | (simp only [← hji44] <;> (first | rfl | simp)) | (simp [*]; done)), (by first | rfl | (simp; done) | (simp [*]; done)), H', ⟨by have := HK1.out; have := HJ7.out; have := HK3.out; have := HK4.out; omega⟩, ⟨(a4_ HO_4.out)⟩, ⟨by exact BK266.out⟩, ⟨by exact BK271.out⟩, ⟨(a6_ HB.out GE266.out GE271.out)⟩⟩
                     ·
                      rw [if_neg c30] at H
                      exact absurd H (by simp)
                    ·
                     rw [if_neg c29] at H
                     exact absurd H (by simp)
                   ·
                    rw [if_neg c27] at H
                    exact absurd H (by simp)
                  ·
                   rw [if_neg c26] at H
                   exact absurd H (by simp)
                 ·
                  rw [if_neg c25] at H
                  have c25b0 : decide (x42_4 < (((rd_T43 l0_1 x29_3).f7).length : Int)) = false := decide_eq_false c25
                  clear c25
                  by_cases c48 : x9_4 > 0
                  ·
                   rw [if_pos c48] at H
                   have c48b0 : decide (0 < x9_4) = true := decide_eq_true c48
                   clear c48
                   by_cases c49 : 0 ≤ x29_3
                   ·
                    rw [if_pos c49] at H
                    have c49b0 : decide (0 ≤ x29_3) = true := decide_eq_true c49
                    clear c49
                    by_cases c50 : x29_3 < (x4_3.length : Int)
                    ·
                     rw [if_pos c50] at H
                     have c50b0 : decide (x29_3 < (x4_3.length : Int)) = true := decide_eq_true c50
                     clear c50
                     obtain ⟨y279, hy279⟩ : ∃ y_ : List Int, y_ = (x4_3.set (x29_3 : Int).toNat x9_4) := ⟨_, rfl⟩
                     replace H : (impl_Graph_depths.l1 k4 y279 (wrap64 (x5_3 - 1)) true l0_1 (l0_1.length : Int) (wrap64 (x29_3 + 1)) a0_0 l0_1 l0_2) = some (r1, r2) := by first | (rw [hy279]; with_reducible exact H) | (have H2_ := (Option.bind_some _ _).symm.trans H; rw [hy279]; with_reducible exact H2_) | (have H2_ := (Option.bind_some _ _).symm.trans H; with_reducible exact H2_) | with_reducible exact H | (rw [hy279]; exact H) | exact H
                     have Ny279 := Aside0.mk hy279
                     clear hy279
                     have H' := Aside0.mk H
                     clear H
                     have p51 : 0 ≤ (x29_3 : Int) := of_decide_eq_true (by first | (with_reducible assumption) | assumption)
                     have q51 : (x29_3 : Int) < ((x4_3.length : Int) : Int) := of_decide_eq_true (by first | (with_reducible assumption) | assumption)
                     obtain ⟨go51, co51, eo51, gb51, gl51, cl51, HG51⟩ := Kd.R_form HO_4.out (by omega)
                     (first | cases eo51 | (injection eo51 with ea_ en_ ec_; (first | subst ea_ | (injection ea_ with ea_; subst ea_)); subst ec_; clear en_))
                     have GB51 := Aside0.mk gb51
                     have GG51 := Aside0.mk HG51
                     clear gb51 gl51 HG51
                     (first | simp only [add_plain] at hx276_0 | skip)
                     (first | simp only [add_plain] at hx278_0 | skip)
                     obtain ⟨hx51_0, hf51_0⟩ := Kd.R_celln 0 HO_4.out (x29_3 : Int) p51 q51
                     replace p51 := eq_true p51
                     replace q51 := eq_true q51
                     have HP52 := Kd.R_putg HO_4.out (x29_3 : Int) x9_4
                     go_wp2_with (first | ((with_reducible refine gate_store (t := 2) (p := 73) rfl ?_); refine store_event (t := 2) (p := 73) (v := ?vo_w53) (w1 := (wr.setCell ⟨go51, (x29_3 : Int).toNat, none⟩ (.int .i64 x9_4))) ?hg ?ho ?hn ?hr ?_; (case ho => rfl); (case hg => rfl); (case hn => rfl); (case hr => first | (go_simp; done) | (go_simp; rfl)); intro w53 hw; have hg : wr.grownBy w53 (some go51) := (by rw [hw]; exact HP52.2); have hp_ : Kd.R (Kd.int .i64) 2 w53 w.heap.size (fun _ => True) (.slice (some ⟨go51, 0, none⟩) x4_3.length co24) y279 := (by rw [hw, Ny279.out]; exact HP52.1); clear HP52; have n0_ := Aside0.mk (hp_); have n1_ := Aside0.mk (blk_grown BK266.out hg (Kd.R_ne HO_4.out BK266.out (by decide))); have n2_ := Aside0.mk (blk_grown BK271.out hg (Kd.R_ne HO_4.out BK271.out (by decide))); have n3_ := Aside0.mk ((by rw [hw]; exact below_set (HB.out) GB51.out : Below w.heap.size w w53)); clear HO_4; clear BK266; clear BK271; clear HB; have HO_4 := n0_; have BK266 := n1_; have BK271 := n2_; have HB := n3_; clear n0_ n1_ n2_ n3_; clear hg hw hp_))
                     go_roundg k4
                     case measure => have := HK1.out; have := HJ7.out; have := HK3.out; have := HK4.out; omega
                     case rel => exact ⟨(y279), (wrap64 (x5_3 - 1)), (true), (wrap64 (x29_3 + 1)), (by first | rfl | (simp; done) | (simp [*]; done)), (by first | rfl | (simp; done) | (simp [*]; done)), (by first | rfl | (simp; done) | (simp [*]; done)), H', ⟨by have := HK1.out; have := HJ7.out; have := HK3.out; have := HK4.out; omega⟩, ⟨(a4_ HO_4.out)⟩, ⟨by exact BK266.out⟩, ⟨(a6_ HB.out GE266.out GE271.out)⟩⟩
                    ·
                     rw [if_neg c50] at H
                     exact absurd H (by simp)
                   ·
                    rw [if_neg c49] at H
                    exact absurd H (by simp)
                  ·
                   rw [if_neg c48] at H
                   have c48b0 : decide (0 < x9_4) = false := decide_eq_false c48
                   clear c48
                   have H' := Aside0.mk H
                   clear H
                   go_wp2
                   go_roundg k4
                   case measure => have := HK1.out; have := HJ7.out; have := HK3.out; have := HK4.out; omega
                   case rel => exact ⟨(x4_3), (x5_3), (x6_3), (wrap64 (x29_3 + 1)), (by first | rfl | (simp; done) | (simp [*]; done)), (by first | rfl | (simp; done) | (simp [*]; done)), (by first | rfl | (simp; done) | (simp [*]; done)), H', ⟨by have := HK1.out; have := HJ7.out; have := HK3.out; have := HK4.out; omega⟩, ⟨(a4_ HO_4.out)⟩, ⟨by exact BK266.out⟩, ⟨(a6_ HB.out GE266.out GE271.out)⟩⟩
             ·
              rw [if_neg c15] at H
              exact absurd H (by simp)
            ·
             rw [if_neg c14] at H
             exact absurd H (by simp)
           ·
            rw [if_neg c13] at H
            exact absurd H (by simp)
          ·
           rw [if_neg c12] at H
           have c12b0 : decide (x29_3 < (l0_1.length : Int)) = false := decide_eq_false c12
           clear c12
           have H' := Aside0.mk H
           clear H
           go_wp2
           go_roundg k3
           case measure => have := HK1.out; have := HJ7.out; have := HK3.out; omega
           case rel => exact ⟨(x4_3), (x5_3), (x6_3), (by first | rfl | (simp; done) | (simp [*]; done)), (by first | rfl | (simp; done) | (simp [*]; done)), H', ⟨by have := HK1.out; have := HJ7.out; have := HK3.out; omega⟩, ⟨(a4_ HO_4.out)⟩, ⟨by exact BK266.out⟩, ⟨(a3_ HB.out GE266.out)⟩⟩
       ·
        replace c10 := Bool.eq_false_iff.mpr c10
        subst c10
        have H1 : (some (x4_1, (x5_1 == 0))) = some (r1, r2) := by rw [if_neg (show ¬ (false = true) by decide)] at H; exact H
        clear H
        have H := H1
        clear H1
        simp only [Option.some.injEq, Prod.mk.injEq] at H
        obtain ⟨rfl, rfl⟩ := H
        go_wp2
        go_ret2
        exact ⟨_, a2_, (a4_ HO_4.out), (a3_ HB.out GE266.out)⟩
  ·
   rw [if_neg c3] at H
   exact absurd H (by simp)
 ·
  rw [if_neg c2] at H
  exact absurd H (by simp)

end Go.Proofs.Ytkhidbahbcfkbaa.Print
