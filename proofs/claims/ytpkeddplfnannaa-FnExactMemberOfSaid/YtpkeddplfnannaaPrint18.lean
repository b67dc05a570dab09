-- Printed by wip/myprint.py over the kit's print, in this session's own call.
import Derived.Test.YtpkeddplfnannaaPrint0
import Derived.Test.YtpkeddplfnannaaPrint10
import Derived.Test.YtpkeddplfnannaaPrint15
import Derived.Test.YtpkeddplfnannaaPrint17
namespace Go.Proofs.Ytpkeddplfnannaa.Print
open Go.RowKit Go.Proofs.YtpkeddplfnannaaW.PrintWords Go.Proofs.YtpkeddplfnannaaW.PrintLast Go.Proofs.YtpkeddplfnannaaW.PrintMore
attribute [local go_sem] max2_int min2_int max_two min_two max_three min_three max_four min_four   -- for this text's walks alone
set_option linter.unusedVariables false
set_option linter.unusedSimpArgs false

/-! ### impl_Graph_current: function 57 -/
def impl_Graph_current.f (k : Nat) (a0_0 : Int) (l0_1 : List (S61)) (l0_2 : List (S61)) (l1 : List (S46)) (a2 : Int) (a3 : Int) : Option (Int × Int × Int × Int × Int × Int × ByteArray × List Int × Int × Bool) := (impl_idAt.f k l1 a2 a3).bind fun t351 => ((impl_Graph_at.f k a0_0 l0_1 l0_2 t351).bind fun bt352 => (some (bt352.1, bt352.2.1, bt352.2.2.1, bt352.2.2.2.1, bt352.2.2.2.2.1, bt352.2.2.2.2.2.1, bt352.2.2.2.2.2.2.1, bt352.2.2.2.2.2.2.2.1, bt352.2.2.2.2.2.2.2.2.1, bt352.2.2.2.2.2.2.2.2.2)))
theorem impl_Graph_current.mono : ∀ a0 a1 a2 a3 a4 a5 k, LeO (impl_Graph_current.f k a0 a1 a2 a3 a4 a5) (impl_Graph_current.f (k + 1) a0 a1 a2 a3 a4 a5) := by
  intro a0 a1 a2 a3 a4 a5 k
  unfold impl_Graph_current.f
  repeat' first | (with_reducible exact impl_Graph_at.mono _ _ _ _ _) | (with_reducible exact impl_idAt.mono _ _ _ _) | (with_reducible exact LeO.refl _) | (with_reducible exact LeO.none _) | (with_reducible refine LeO.ite ?_ ?_) | (with_reducible refine LeO.bind ?_ (fun _ => ?_)) | exact impl_Graph_at.mono _ _ _ _ _ | exact impl_idAt.mono _ _ _ _ | exact LeO.none _ | refine LeO.ite ?_ ?_ | refine LeO.bind ?_ (fun _ => ?_)
def impl_Graph_current.T1 : Bool × List (List Nat × List Nat) := (true, [([], []), ([], []), ([], []), ([], []), ([1, 2, 3], [1, 2, 3]), ([0, 4, 4], [0, 4]), ([5], [5]), ([5], [5]), ([6, 5, 0, 1, 2, 3, 4, 5, 6, 7], [6]), ([7, 8, 0, 1, 2, 3, 4, 5, 6, 7, 8], [7])])
def impl_Graph_current.B1 : List Nat := [0, 0, 0, 0, 14, 31, 63, 63, 255, 511]
theorem impl_Graph_current.tab1 : rtab .any (opsOf Try.f57 1) = impl_Graph_current.T1 := by kernel_rfl
theorem impl_Graph_current.bits1 : waitsOk impl_Graph_current.T1.2 impl_Graph_current.B1 = true := by kernel_rfl
set_option maxHeartbeats 8000000 in
set_option maxRecDepth 100000 in
theorem impl_Graph_current.calls (k : Nat) (a0_0 : Int) (P0_1_ : Nat → Prop) (A0_1 : Option Addr) (c0_1 : Nat) (l0_1 : List (S61)) (A0_2 : Option Addr) (c0_2 : Nat) (l0_2 : List (S61)) (A1 : Option Addr) (c1 : Nat) (l1 : List (S46)) (a2 : Int) (a3 : Int) (r1 : Int) (r2 : Int) (r3 : Int) (r4 : Int) (r5 : Int) (r6 : Int) (r7 : ByteArray) (r8 : List Int) (r9 : Int) (r10 : Bool) (w : World) (hs0_1 : Kd.V k61 61 w w.heap.size (fun k_ => P0_1_ k_) (.slice A0_1 l0_1.length c0_1) l0_1) (hr0_2 : Kd.C k61 w A0_2 l0_2.length l0_2) (hc0_2 : l0_2.length ≤ c0_2) (hr1 : Kd.C k46 w A1 l1.length l1) (hc1 : l1.length ≤ c1) (h : impl_Graph_current.f k a0_0 l0_1 l0_2 l1 a2 a3 = some (r1, r2, r3, r4, r5, r6, r7, r8, r9, r10)) :
    Calls Try.prog 57 #[.agg #[.int .i64 a0_0, .slice A0_1 l0_1.length c0_1, .slice A0_2 l0_2.length c0_2], .slice A1 l1.length c1, .int .i64 a2, .int .i64 a3] w fun e w' => ∃ v7_ : Value, e = .returned (.tuple #[.agg #[.int .i64 r1, .int .i64 r2, .int .i64 r3, .int .i64 r4, .int .i64 r5, .int .i64 r6, .string r7, v7_, .int .i64 r9], .bool r10]) ∧ Kd.V (Kd.int .i64) 2 w' w.heap.size (fun k_ => (P0_1_ k_ ∨ w.heap.size ≤ k_)) v7_ r8 ∧ Below w.heap.size w w' := by
 have hu31 := Try.underlying31; have hu61 := Try.underlying61; have HO0_1 := Aside0.mk (show Kd.V k61 61 w w.heap.size (fun k_ => (P0_1_ k_ ∨ w.heap.size ≤ k_)) (.slice A0_1 l0_1.length c0_1) l0_1 from Kd.V_mono hs0_1 (fun k_ hk => .inl hk)); have HR0_2 := Aside0.mk hr0_2; have HC0_2 := Aside0.mk hc0_2; clear hr0_2 hc0_2; have HR1 := Aside0.mk hr1; have HC1 := Aside0.mk hc1; clear hr1 hc1; have HB := Aside0.mk (Below.refl w.heap.size w); have H : ((impl_idAt.f k l1 a2 a3).bind fun t351 => ((impl_Graph_at.f k a0_0 l0_1 l0_2 t351).bind fun bt352 => (some (bt352.1, bt352.2.1, bt352.2.2.1, bt352.2.2.2.1, bt352.2.2.2.2.1, bt352.2.2.2.2.2.1, bt352.2.2.2.2.2.2.1, bt352.2.2.2.2.2.2.2.1, bt352.2.2.2.2.2.2.2.2.1, bt352.2.2.2.2.2.2.2.2.2)))) = some (r1, r2, r3, r4, r5, r6, r7, r8, r9, r10) := h; clear h; replace H := Option.bind_eq_some_iff.mp H; obtain ⟨t351, A50, H⟩ := H; replace H : ((impl_Graph_at.f k a0_0 l0_1 l0_2 t351).bind fun bt352 => (some (bt352.1, bt352.2.1, bt352.2.2.1, bt352.2.2.2.1, bt352.2.2.2.2.1, bt352.2.2.2.2.2.1, bt352.2.2.2.2.2.2.1, bt352.2.2.2.2.2.2.2.1, bt352.2.2.2.2.2.2.2.2.1, bt352.2.2.2.2.2.2.2.2.2))) = some (r1, r2, r3, r4, r5, r6, r7, r8, r9, r10) := H; have A5 := Aside0.mk A50; clear A50; replace H := Option.bind_eq_some_iff.mp H; obtain ⟨⟨t352, t353, t354, t355, t356, t357, t358, t359, t362, t363⟩, A60, H⟩ := H; replace H : (some (t352, t353, t354, t355, t356, t357, t358, t359, t362, t363)) = some (r1, r2, r3, r4, r5, r6, r7, r8, r9, r10) := H; have A6 := Aside0.mk A60
 clear A60; simp only [Option.some.injEq, Prod.mk.injEq] at H; obtain ⟨rfl, rfl, rfl, rfl, rfl, rfl, rfl, rfl, rfl, rfl⟩ := H; go_enter Try.func57, Try.ntmps57; try go_wp2_with (first | ((with_reducible refine gate_dst (N := 4) rfl ?_); refine be_ 4 #[.int .i64 a0_0, .slice A0_1 l0_1.length c0_1, .slice A0_2 l0_2.length c0_2] 31 ?_; intro gb349 hg w7 hbox hb; have n0_ := Aside0.mk (Kd.V_below (Kd.V_elderB (by (with_reducible repeat (first | apply Kd.V_alloc | apply Kd.V_drewN | apply Kd.V_drew)); exact HO0_1.out) gb349 (Nat.le_of_eq hg.symm)) hb); have n1_ := Aside0.mk (below_step HB.out hb); have n2_ := Aside0.mk (hbox); have n3_ := Aside0.mk ((by rw [hg]; exact (below_size HB.out) : w.heap.size ≤ gb349)); have n4_ := n3_; clear HO0_1; clear HB; have HO0_1 := n0_; have HB := n1_; have BK349 := n2_; have GW349 := n3_; have GE349 := n4_; clear n0_ n1_ n2_ n3_ n4_; clear hb hbox hg) | ((with_reducible refine gate_dst (N := 8) rfl ?_); refine be_ 8 #[.int .i64 0, .int .i64 0, .int .i64 0, .int .i64 0, .int .i64 0, .int .i64 0, .string (⟨#[]⟩ : ByteArray), .slice none 0 0, .int .i64 0] 61 ?_; intro gb350 hg w8 hbox hb; have n0_ := Aside0.mk (Kd.V_below (Kd.V_elderB (by (with_reducible repeat (first | apply Kd.V_alloc | apply Kd.V_drewN | apply Kd.V_drew)); exact HO0_1.out) gb350 (Nat.le_of_eq hg.symm)) hb); have n1_ := Aside0.mk (blk_below BK349.out hb); have n2_ := Aside0.mk (below_step HB.out hb); have n3_ := Aside0.mk (hbox); have n4_ := Aside0.mk ((by rw [hg]; exact (below_size HB.out) : w.heap.size ≤ gb350)); have n5_ := n4_; have n6_ := Aside0.mk ((by rw [hg]; exact Nat.ne_of_lt (blk_lt BK349.out) : gb349 ≠ gb350)); have n7_ := Aside0.mk (Ne.symm n6_.out); clear HO0_1; clear BK349; clear HB; have HO0_1 := n0_; have BK349 := n1_; have HB := n2_; have BK350 := n3_; have GW350 := n4_; have GE350 := n5_; have NB349_350 := n6_; have NB350_349 := n7_; clear n0_ n1_ n2_ n3_ n4_ n5_ n6_ n7_; clear hb hbox hg))
 have n0_ := Aside0.mk (Kd.V_drew HO0_1.out); have n1_ := Aside0.mk (blk_drew BK349.out); have n2_ := Aside0.mk (blk_drew BK350.out); have n3_ := Aside0.mk (below_drew1 HB.out); clear HO0_1; clear BK349; clear BK350; clear HB; have HO0_1 := n0_; have BK349 := n1_; have BK350 := n2_; have HB := n3_; clear n0_ n1_ n2_ n3_; refine start_ (n := 10) (S := fun w' => w'.cell? ⟨gb349, 0, none⟩ = some (.int .i64 a0_0) ∧ w'.cell? ⟨gb349, 1, none⟩ = some (.slice A0_1 l0_1.length c0_1) ∧ w'.cell? ⟨gb349, 2, none⟩ = some (.slice A0_2 l0_2.length c0_2)) (ds := []) #[false, false, false, false, false, false, false, false, false, false] (by kernel_rfl) rfl rfl ⟨(blk_cell BK349.out 0).trans rfl, (blk_cell BK349.out 1).trans rfl, (blk_cell BK349.out 2).trans rfl⟩ (fun hHeld => ?_); refine with_tabW impl_Graph_current.tab1 impl_Graph_current.bits1 (fun HT_ HW_ => ?_); generalize w8.drew = w9 at HO0_1 BK349 BK350 HB hHeld ⊢; refine p_ 1 (some 11) HT_.out (bm 10 2) ?_; refine p_ 2 (some 12) HT_.out (bm 10 6) ?_; refine p_ 3 (some 13) HT_.out (bm 10 14) ?_; refine t_ 0 (some 10) (bm 10 15) (take_ofW HT_.out HW_.out (by kernel_rfl)) hHeld ?_; refine one_ (i := 4) (N := some 14) (bm 10 31) rfl rfl (one_of HT_.out (by kernel_rfl)) (by decide) (fun K hK => ?_); refine gs_ Try.func71 #[.slice A1 l1.length c1, .int .i64 a2, .int .i64 a3] ?_; with_reducible refine (impl_idAt.calls k _ _ l1 a2 a3 t351 _ ?side1 ?side2 A5.out).mono ?_
 (case side1 => exact (cb_ HR1.out HB.out))
 (case side2 => exact HC1.out)
 rintro e w10 ⟨rfl, hb⟩; refine ⟨_, rfl, ?_⟩; have n0_ := Aside0.mk (Kd.V_below (by (with_reducible repeat (first | apply Kd.V_alloc | apply Kd.V_drewN | apply Kd.V_drew)); exact HO0_1.out) hb); have n1_ := Aside0.mk (blk_below BK349.out hb); have n2_ := Aside0.mk (blk_below BK350.out hb); have n3_ := Aside0.mk (below_step HB.out hb); clear HO0_1; clear BK349; clear BK350; clear HB; have HO0_1 := n0_; have BK349 := n1_; have BK350 := n2_; have HB := n3_; clear n0_ n1_ n2_ n3_; (try clear hb)
 (try clear hb2)
 (try clear hk)
 (try clear hi)
 refine hK.out _ _ ⟨(blk_cell BK349.out 0).trans rfl, (blk_cell BK349.out 1).trans rfl, (blk_cell BK349.out 2).trans rfl⟩ (fun hHeld => ?_); clear hK K; refine n_ (some 14) ?_; refine one_ (i := 5) (N := some 15) (bm 10 63) rfl rfl (one_of HT_.out (by kernel_rfl)) (by decide) (fun K hK => ?_); refine gs_ Try.func56 #[.agg #[.int .i64 a0_0, .slice A0_1 l0_1.length c0_1, .slice A0_2 l0_2.length c0_2], .int .i64 t351] ?_; with_reducible refine (impl_Graph_at.calls k a0_0 (fun k_ => (((P0_1_ k_ ∨ w.heap.size ≤ k_) ∧ k_ ≠ gb349) ∧ k_ ≠ gb350)) _ _ l0_1 _ _ l0_2 t351 t352 t353 t354 t355 t356 t357 t358 t359 t362 t363 _ ?side1 ?side2 ?side3 A6.out).mono ?_
 (case side1 => exact HO0_1.out)
 (case side2 => exact (cb_ HR0_2.out HB.out))
 (case side3 => exact HC0_2.out)
 rintro e w11 ⟨v360, rfl, ho0, hb⟩; refine ⟨_, rfl, ?_⟩; have n0_ := Aside0.mk (Kd.V_below (by (with_reducible repeat (first | apply Kd.V_alloc | apply Kd.V_drewN | apply Kd.V_drew)); exact HO0_1.out) hb); have n1_ := Aside0.mk (Kd.V_lower (Kd.V_mono (ok' := fun k_ => (P0_1_ k_ ∨ w.heap.size ≤ k_) ∧ k_ ≠ gb349 ∧ k_ ≠ gb350) ho0 (fun k_ hk_ => ⟨Or.elim hk_ (fun hs_ => hs_.1.1) (fun hn_ => (.inr (Nat.le_trans (below_size HB.out) hn_))), Or.elim hk_ (fun hs_ => hs_.1.2) (fun hn_ => (Kd.freshB (g := gb349) (o := .cells #[.int .i64 a0_0, .slice A0_1 l0_1.length c0_1, .slice A0_2 l0_2.length c0_2] 31 (0, 0)) BK349.out k_ hn_)), Or.elim hk_ (fun hs_ => hs_.2) (fun hn_ => (Kd.freshB (g := gb350) (o := .cells #[.int .i64 0, .int .i64 0, .int .i64 0, .int .i64 0, .int .i64 0, .int .i64 0, .string (⟨#[]⟩ : ByteArray), .slice none 0 0, .int .i64 0] 61 (0, 0)) BK350.out k_ hn_))⟩)) (below_size HB.out)); have n2_ := Aside0.mk (blk_below BK349.out hb); have n3_ := Aside0.mk (blk_below BK350.out hb); have n4_ := Aside0.mk (below_step HB.out hb); clear HO0_1; clear BK349; clear BK350; clear HB; have HO0_1 := n0_; have HO361 := n1_; have BK349 := n2_; have BK350 := n3_; have HB := n4_; clear n0_ n1_ n2_ n3_ n4_; (try clear hb)
 (try clear hb2)
 (try clear hk)
 (try clear hi)
 (try clear ho0)
 obtain ⟨Ao19, co19, eo19⟩ := Kd.V_slice HO361.out; (first | subst eo19 | (injection eo19 with f1_ f2_ f3_; have f4_ := f1_.symm; have f5_ := f3_.symm; clear f1_ f2_ f3_; subst f4_; subst f5_))
 refine hK.out _ _ ⟨(blk_cell BK349.out 0).trans rfl, (blk_cell BK349.out 1).trans rfl, (blk_cell BK349.out 2).trans rfl⟩ (fun hHeld => ?_); clear hK K; refine n_ (some 15) ?_; refine p_ 6 (some 16) HT_.out (bm 10 127) ?_; refine p_ 7 (some 17) HT_.out (bm 10 255) ?_; refine one_ (i := 8) (N := none) (bm 10 511) rfl rfl (one_of HT_.out (by kernel_rfl)) (by decide) (fun K hK => ?_); have hs12 : w11.cell? ⟨gb350, 0, none⟩ = some (.int .i64 0) := (blk_cell BK350.out 0).trans rfl; have hfs12 := blk_frozen BK350.out 0; have hns12_0 := NB349_350.out; have hms12_0 := NB350_349.out; have hs13 : w11.cell? ⟨gb350, 1, none⟩ = some (.int .i64 0) := (blk_cell BK350.out 1).trans rfl; have hfs13 := blk_frozen BK350.out 1; have hns13_0 := NB349_350.out; have hms13_0 := NB350_349.out; have hs14 : w11.cell? ⟨gb350, 2, none⟩ = some (.int .i64 0) := (blk_cell BK350.out 2).trans rfl; have hfs14 := blk_frozen BK350.out 2; have hns14_0 := NB349_350.out; have hms14_0 := NB350_349.out; have hs15 : w11.cell? ⟨gb350, 3, none⟩ = some (.int .i64 0) := (blk_cell BK350.out 3).trans rfl; have hfs15 := blk_frozen BK350.out 3; have hns15_0 := NB349_350.out; have hms15_0 := NB350_349.out; have hs16 : w11.cell? ⟨gb350, 4, none⟩ = some (.int .i64 0) := (blk_cell BK350.out 4).trans rfl; have hfs16 := blk_frozen BK350.out 4; have hns16_0 := NB349_350.out; have hms16_0 := NB350_349.out; have hs17 : w11.cell? ⟨gb350, 5, none⟩ = some (.int .i64 0) := (blk_cell BK350.out 5).trans rfl; have hfs17 := blk_frozen BK350.out 5
 have hns17_0 := NB349_350.out; have hms17_0 := NB350_349.out; have hs18 : w11.cell? ⟨gb350, 6, none⟩ = some (.string (⟨#[]⟩ : ByteArray)) := (blk_cell BK350.out 6).trans rfl; have hfs18 := blk_frozen BK350.out 6; have hns18_0 := NB349_350.out; have hms18_0 := NB350_349.out; have hs20 : w11.cell? ⟨gb350, 7, none⟩ = some (.slice none 0 0) := (blk_cell BK350.out 7).trans rfl; have hfs20 := blk_frozen BK350.out 7; have hns20_0 := NB349_350.out; have hms20_0 := NB350_349.out; have hs21 : w11.cell? ⟨gb350, 8, none⟩ = some (.int .i64 0) := (blk_cell BK350.out 8).trans rfl; have hfs21 := blk_frozen BK350.out 8; have hns21_0 := NB349_350.out; have hms21_0 := NB350_349.out; refine skip_ (w1 := ?_) (by rfl) rfl ?_ ?_; rotate_left
 ·
  go_simp; rfl
 refine hK.out _ _ ⟨(f9_ NB349_350.out hHeld.1), (f9_ NB349_350.out hHeld.2.1), (f9_ NB349_350.out hHeld.2.2)⟩ (fun hHeld => ?_); clear hK K; refine p_ 9 (some 9) HT_.out (bm 10 1023) ?_; refine done_ (done_of HT_.out (by kernel_rfl)) ?_; try go_wp2
 refine bodyPost_ret (results_ct rfl _ _ gb350 61 #[.int .i64 t352, .int .i64 t353, .int .i64 t354, .int .i64 t355, .int .i64 t356, .int .i64 t357, .string t358, .slice Ao19 t359.length co19, .int .i64 t362] (0, 0) _ rfl (by refine bp9_ (c0 := .int .i64 0) (c1 := .int .i64 0) (c2 := .int .i64 0) (c3 := .int .i64 0) (c4 := .int .i64 0) (c5 := .int .i64 0) (c6 := .string (⟨#[]⟩ : ByteArray)) (c7 := .slice none 0 0) (c8 := .int .i64 0) ?_; exact BK350.out) Try.underlying61 rfl (by kernel_rfl)) rfl ?_; exact ⟨_, a2_, by (with_reducible repeat (first | apply Kd.V_alloc | apply Kd.V_drewN | apply Kd.V_drew)); exact Kd.V_mono (Kd.V_far (p := ⟨gb350, 8, none⟩) (Kd.V_far (p := ⟨gb350, 7, none⟩) (Kd.V_far (p := ⟨gb350, 6, none⟩) (Kd.V_far (p := ⟨gb350, 5, none⟩) (Kd.V_far (p := ⟨gb350, 4, none⟩) (Kd.V_far (p := ⟨gb350, 3, none⟩) (Kd.V_far (p := ⟨gb350, 2, none⟩) (Kd.V_far (p := ⟨gb350, 1, none⟩) (Kd.V_far (p := ⟨gb350, 0, none⟩) (Kd.V_mono HO361.out (fun k_ hk => (⟨hk, hk.2.2⟩ : _ ∧ k_ ≠ gb350))) (fun _ hk => hk.2) (.int .i64 t352)) (fun _ hk => hk.2) (.int .i64 t353)) (fun _ hk => hk.2) (.int .i64 t354)) (fun _ hk => hk.2) (.int .i64 t355)) (fun _ hk => hk.2) (.int .i64 t356)) (fun _ hk => hk.2) (.int .i64 t357)) (fun _ hk => hk.2) (.string t358)) (fun _ hk => hk.2) (.slice Ao19 t359.length co19)) (fun _ hk => hk.2) (.int .i64 t362)) (fun _ hk => hk.1.1), (a5_ HB.out GE349.out GE350.out)⟩

/-! ### impl_Graph_member: function 28 -/
def impl_Graph_member.f (k : Nat) (a0_0 : Int) (l0_1 : List (S61)) (l0_2 : List (S61)) (l1 : List (S46)) (a2 : Int) : Option (Int) := (impl_Graph_current.f k a0_0 l0_1 l0_2 l1 2 a2).bind fun bt365 => (some bt365.2.2.2.2.2.1)
theorem impl_Graph_member.mono : ∀ a0 a1 a2 a3 a4 k, LeO (impl_Graph_member.f k a0 a1 a2 a3 a4) (impl_Graph_member.f (k + 1) a0 a1 a2 a3 a4) := by
  intro a0 a1 a2 a3 a4 k
  unfold impl_Graph_member.f
  repeat' first | (with_reducible exact impl_Graph_current.mono _ _ _ _ _ _ _) | (with_reducible exact LeO.refl _) | (with_reducible exact LeO.none _) | (with_reducible refine LeO.ite ?_ ?_) | (with_reducible refine LeO.bind ?_ (fun _ => ?_)) | exact impl_Graph_current.mono _ _ _ _ _ _ _ | exact LeO.none _ | refine LeO.ite ?_ ?_ | refine LeO.bind ?_ (fun _ => ?_)
set_option maxHeartbeats 8000000 in
set_option maxRecDepth 100000 in
theorem impl_Graph_member.calls (k : Nat) (a0_0 : Int) (A0_1 : Option Addr) (c0_1 : Nat) (l0_1 : List (S61)) (A0_2 : Option Addr) (c0_2 : Nat) (l0_2 : List (S61)) (A1 : Option Addr) (c1 : Nat) (l1 : List (S46)) (a2 : Int) (r : Int) (w : World) (hr0_1 : Kd.C k61 w A0_1 l0_1.length l0_1) (hc0_1 : l0_1.length ≤ c0_1) (hr0_2 : Kd.C k61 w A0_2 l0_2.length l0_2) (hc0_2 : l0_2.length ≤ c0_2) (hr1 : Kd.C k46 w A1 l1.length l1) (hc1 : l1.length ≤ c1) (h : impl_Graph_member.f k a0_0 l0_1 l0_2 l1 a2 = some r) :
    Calls Try.prog 28 #[.agg #[.int .i64 a0_0, .slice A0_1 l0_1.length c0_1, .slice A0_2 l0_2.length c0_2], .slice A1 l1.length c1, .int .i64 a2] w fun e w' => e = .returned (.int .i64 r) ∧ Below w.heap.size w w' := by
 have hu31 := Try.underlying31; have hu61 := Try.underlying61; have HR0_1 := Aside0.mk hr0_1; have HC0_1 := Aside0.mk hc0_1; clear hr0_1 hc0_1; have HR0_2 := Aside0.mk hr0_2; have HC0_2 := Aside0.mk hc0_2; clear hr0_2 hc0_2; have HR1 := Aside0.mk hr1; have HC1 := Aside0.mk hc1; clear hr1 hc1; have HB := Aside0.mk (Below.refl w.heap.size w); have H : ((impl_Graph_current.f k a0_0 l0_1 l0_2 l1 2 a2).bind fun bt365 => (some bt365.2.2.2.2.2.1)) = some r := h; clear h; replace H := Option.bind_eq_some_iff.mp H; obtain ⟨⟨t365, t366, t367, t368, t369, t370, t371, t372, t375, t376⟩, A40, H⟩ := H; replace H : (some t370) = some r := H; have A4 := Aside0.mk A40; clear A40; obtain rfl := Option.some.inj H; go_enter Try.func28, Try.ntmps28; go_wp2_with (first | ((with_reducible refine gate_dst (N := 3) rfl ?_); refine be_ 3 #[.int .i64 a0_0, .slice A0_1 l0_1.length c0_1, .slice A0_2 l0_2.length c0_2] 31 ?_; intro gb364 hg w5 hbox hb; have n0_ := Aside0.mk (below_step HB.out hb); have n1_ := Aside0.mk (hbox); have n2_ := Aside0.mk ((by rw [hg]; exact (below_size HB.out) : w.heap.size ≤ gb364)); have n3_ := n2_; clear HB; have HB := n0_; have BK364 := n1_; have GW364 := n2_; have GE364 := n3_; clear n0_ n1_ n2_ n3_; clear hb hbox hg; obtain ⟨⟨hcz6_0, hcz6_1, hcz6_2⟩, hfz6_0, hfz6_1, hfz6_2⟩ := cells_3 BK364.out) | ((with_reducible refine gate_callee (f := 57) rfl ?_); refine gl_ (some 13) Try.func57 #[.agg #[.int .i64 a0_0, .slice A0_1 l0_1.length c0_1, .slice A0_2 l0_2.length c0_2], .slice A1 l1.length c1, .int .i64 2, .int .i64 a2] ?_; (with_reducible refine (impl_Graph_current.calls k a0_0 (fun k_ => k_ < w.heap.size) _ _ l0_1 _ _ l0_2 _ _ l1 2 a2 t365 t366 t367 t368 t369 t370 t371 t372 t375 t376 _ ?side1 ?side2 ?side3 ?side4 ?side5 A4.out).mono ?_); (case side1 => exact Kd.V_mk HC0_1.out (Kd.F_below (Kd.C_F k61_heap HR0_1.out) HB.out)); (case side2 => exact (cb_ HR0_2.out HB.out)); (case side3 => exact HC0_2.out); (case side4 => exact (cb_ HR1.out HB.out)); (case side5 => exact HC1.out); rintro e w7 ⟨v373, rfl, ho0, hb⟩; refine ⟨_, rfl, ?_⟩; have n0_ := Aside0.mk (Kd.V_lower (Kd.V_mono (ok' := fun k_ => k_ ≠ gb364) ho0 (fun k_ hk_ => Or.elim hk_ (fun hs_ => fun e_ => Nat.not_le.2 hs_ (by rw [e_]; exact GW364.out)) (fun hn_ => (Kd.freshB (g := gb364) (o := .cells #[.int .i64 a0_0, .slice A0_1 l0_1.length c0_1, .slice A0_2 l0_2.length c0_2] 31 (0, 0)) BK364.out k_ hn_)))) (below_size HB.out)); have n1_ := Aside0.mk (blk_below BK364.out hb); have n2_ := Aside0.mk (below_step HB.out hb); clear BK364; clear HB; have HO374 := n0_; have BK364 := n1_; have HB := n2_; clear n0_ n1_ n2_; (try clear hb); (try clear hb2); (try clear hk); (try clear hi); (try clear ho0)) | ((with_reducible refine gate_dst (N := 7) rfl ?_); refine be_ 7 #[.int .i64 0, .int .i64 0, .int .i64 0, .int .i64 0, .int .i64 0, .int .i64 0, .string (⟨#[]⟩ : ByteArray), .slice none 0 0, .int .i64 0] 61 ?_; intro gb377 hg w8 hbox hb; have n0_ := Aside0.mk (Kd.V_below (Kd.V_elderB (by (with_reducible repeat (first | apply Kd.V_alloc | apply Kd.V_drewN | apply Kd.V_drew)); exact HO374.out) gb377 (Nat.le_of_eq hg.symm)) hb); have n1_ := Aside0.mk (blk_below BK364.out hb); have n2_ := Aside0.mk (below_step HB.out hb); have n3_ := Aside0.mk (hbox); have n4_ := Aside0.mk ((by rw [hg]; exact (below_size HB.out) : w.heap.size ≤ gb377)); have n5_ := n4_; have n6_ := Aside0.mk ((by rw [hg]; exact Nat.ne_of_lt (blk_lt BK364.out) : gb364 ≠ gb377)); have n7_ := Aside0.mk (Ne.symm n6_.out); clear HO374; clear BK364; clear HB; have HO374 := n0_; have BK364 := n1_; have HB := n2_; have BK377 := n3_; have GW377 := n4_; have GE377 := n5_; have NB364_377 := n6_; have NB377_364 := n7_; clear n0_ n1_ n2_ n3_ n4_ n5_ n6_ n7_; clear hb hbox hg; have hnb9 := NB377_364.out; have hnc9 := NB364_377.out; obtain ⟨⟨hcz10_0, hcz10_1, hcz10_2, hcz10_3, hcz10_4, hcz10_5, hcz10_6, hcz10_7, hcz10_8⟩, hfz10_0, hfz10_1, hfz10_2, hfz10_3, hfz10_4, hfz10_5, hfz10_6, hfz10_7, hfz10_8⟩ := cells_9 BK377.out; obtain ⟨Ao11, co11, eo11⟩ := Kd.V_slice HO374.out; subst eo11))
 go_ret
 exact ⟨a2_, (a5_ HB.out GE364.out GE377.out)⟩

/-! ### impl_MemberOf: function 11 -/
def impl_MemberOf.f (k : Nat) (a0_0 : Int) (l0_1 : List (S61)) (l0_2 : List (S61)) (l1 : List (S46)) (a2 : Int) : Option (Int) := (impl_isUser.f a2).bind fun t379 => (if t379 = true then ((impl_GraphRight.f k a0_0 l0_1 l0_2).bind fun t380 => (if t380 = true then ((impl_Graph_isStateOf.f k a0_0 l0_1 l0_2 l1).bind fun t381 => (if t381 = true then ((impl_Graph_member.f k a0_0 l0_1 l0_2 l1 a2).bind fun t382 => (some t382)) else (some 0))) else (some 0))) else (some 0))
theorem impl_MemberOf.mono : ∀ a0 a1 a2 a3 a4 k, LeO (impl_MemberOf.f k a0 a1 a2 a3 a4) (impl_MemberOf.f (k + 1) a0 a1 a2 a3 a4) := by
  intro a0 a1 a2 a3 a4 k
  unfold impl_MemberOf.f
  repeat' first | (with_reducible exact impl_GraphRight.mono _ _ _ _) | (with_reducible exact impl_Graph_isStateOf.mono _ _ _ _ _) | (with_reducible exact impl_Graph_member.mono _ _ _ _ _ _) | (with_reducible exact LeO.refl _) | (with_reducible exact LeO.none _) | (with_reducible refine LeO.ite ?_ ?_) | (with_reducible refine LeO.bind ?_ (fun _ => ?_)) | exact impl_GraphRight.mono _ _ _ _ | exact impl_Graph_isStateOf.mono _ _ _ _ _ | exact impl_Graph_member.mono _ _ _ _ _ _ | exact LeO.none _ | refine LeO.ite ?_ ?_ | refine LeO.bind ?_ (fun _ => ?_)
set_option maxHeartbeats 8000000 in
set_option maxRecDepth 100000 in
theorem impl_MemberOf.calls (k : Nat) (a0_0 : Int) (A0_1 : Option Addr) (c0_1 : Nat) (l0_1 : List (S61)) (A0_2 : Option Addr) (c0_2 : Nat) (l0_2 : List (S61)) (A1 : Option Addr) (c1 : Nat) (l1 : List (S46)) (a2 : Int) (r : Int) (w : World) (hr0_1 : Kd.C k61 w A0_1 l0_1.length l0_1) (hc0_1 : l0_1.length ≤ c0_1) (hr0_2 : Kd.C k61 w A0_2 l0_2.length l0_2) (hc0_2 : l0_2.length ≤ c0_2) (hr1 : Kd.C k46 w A1 l1.length l1) (hc1 : l1.length ≤ c1) (h : impl_MemberOf.f k a0_0 l0_1 l0_2 l1 a2 = some r) :
    Calls Try.prog 11 #[.agg #[.int .i64 a0_0, .slice A0_1 l0_1.length c0_1, .slice A0_2 l0_2.length c0_2], .slice A1 l1.length c1, .int .i64 a2] w fun e w' => e = .returned (.int .i64 r) ∧ Below w.heap.size w w' := by
 have hu31 := Try.underlying31; have HR0_1 := Aside0.mk hr0_1; have HC0_1 := Aside0.mk hc0_1; clear hr0_1 hc0_1; have HR0_2 := Aside0.mk hr0_2; have HC0_2 := Aside0.mk hc0_2; clear hr0_2 hc0_2; have HR1 := Aside0.mk hr1; have HC1 := Aside0.mk hc1; clear hr1 hc1; have HB := Aside0.mk (Below.refl w.heap.size w); have H : ((impl_isUser.f a2).bind fun t379 => (if t379 = true then ((impl_GraphRight.f k a0_0 l0_1 l0_2).bind fun t380 => (if t380 = true then ((impl_Graph_isStateOf.f k a0_0 l0_1 l0_2 l1).bind fun t381 => (if t381 = true then ((impl_Graph_member.f k a0_0 l0_1 l0_2 l1 a2).bind fun t382 => (some t382)) else (some 0))) else (some 0))) else (some 0))) = some r := h; clear h; replace H := Option.bind_eq_some_iff.mp H; obtain ⟨t379, A40, H⟩ := H; replace H : (if t379 = true then ((impl_GraphRight.f k a0_0 l0_1 l0_2).bind fun t380 => (if t380 = true then ((impl_Graph_isStateOf.f k a0_0 l0_1 l0_2 l1).bind fun t381 => (if t381 = true then ((impl_Graph_member.f k a0_0 l0_1 l0_2 l1 a2).bind fun t382 => (some t382)) else (some 0))) else (some 0))) else (some 0)) = some r := H; have A4 := Aside0.mk A40; clear A40; by_cases c5 : t379 = true
 ·
  subst c5; have H1 : ((impl_GraphRight.f k a0_0 l0_1 l0_2).bind fun t380 => (if t380 = true then ((impl_Graph_isStateOf.f k a0_0 l0_1 l0_2 l1).bind fun t381 => (if t381 = true then ((impl_Graph_member.f k a0_0 l0_1 l0_2 l1 a2).bind fun t382 => (some t382)) else (some 0))) else (some 0))) = some r := by rw [if_pos rfl] at H; exact H
  clear H; have H := H1; clear H1; replace H := Option.bind_eq_some_iff.mp H; obtain ⟨t380, A60, H⟩ := H; replace H : (if t380 = true then ((impl_Graph_isStateOf.f k a0_0 l0_1 l0_2 l1).bind fun t381 => (if t381 = true then ((impl_Graph_member.f k a0_0 l0_1 l0_2 l1 a2).bind fun t382 => (some t382)) else (some 0))) else (some 0)) = some r := H; have A6 := Aside0.mk A60; clear A60; by_cases c7 : t380 = true
  ·
   subst c7; have H1 : ((impl_Graph_isStateOf.f k a0_0 l0_1 l0_2 l1).bind fun t381 => (if t381 = true then ((impl_Graph_member.f k a0_0 l0_1 l0_2 l1 a2).bind fun t382 => (some t382)) else (some 0))) = some r := by rw [if_pos rfl] at H; exact H
   clear H; have H := H1; clear H1; replace H := Option.bind_eq_some_iff.mp H; obtain ⟨t381, A80, H⟩ := H; replace H : (if t381 = true then ((impl_Graph_member.f k a0_0 l0_1 l0_2 l1 a2).bind fun t382 => (some t382)) else (some 0)) = some r := H; have A8 := Aside0.mk A80; clear A80; by_cases c9 : t381 = true
   ·
    subst c9; have H1 : ((impl_Graph_member.f k a0_0 l0_1 l0_2 l1 a2).bind fun t382 => (some t382)) = some r := by rw [if_pos rfl] at H; exact H
    clear H; have H := H1; clear H1; replace H := Option.bind_eq_some_iff.mp H; obtain ⟨t382, A100, H⟩ := H; replace H : (some t382) = some r := H; have A10 := Aside0.mk A100; clear A100; obtain rfl := Option.some.inj H; go_enter Try.func11, Try.ntmps11; go_wp2_with (first | ((with_reducible refine gate_dst (N := 3) rfl ?_); refine be_ 3 #[.int .i64 a0_0, .slice A0_1 l0_1.length c0_1, .slice A0_2 l0_2.length c0_2] 31 ?_; intro gb378 hg w11 hbox hb; have n0_ := Aside0.mk (below_step (a1_ HB.out) hb); have n1_ := Aside0.mk (hbox); have n2_ := Aside0.mk ((by rw [hg]; exact (below_size (a1_ HB.out)) : w.heap.size ≤ gb378)); have n3_ := n2_; clear HB; have HB := n0_; have BK378 := n1_; have GW378 := n2_; have GE378 := n3_; clear n0_ n1_ n2_ n3_; clear hb hbox hg) | ((with_reducible refine gate_callee (f := 25) rfl ?_); refine gl_ (some 8) Try.func25 #[.int .i64 a2] ?_; (with_reducible refine (impl_isUser.calls a2 true _ A4.out).mono ?_); rintro e w' ⟨rfl, ⟨nd, rfl⟩⟩; refine ⟨_, rfl, ?_⟩; obtain ⟨⟨hcz12_0, hcz12_1, hcz12_2⟩, hfz12_0, hfz12_1, hfz12_2⟩ := cells_3 BK378.out) | (go_at_call 26; (with_reducible refine (impl_GraphRight.calls k a0_0 _ _ l0_1 _ _ l0_2 true _ ?side1 ?side2 ?side3 ?side4 A6.out).mono ?_); (case side1 => exact (cb_ HR0_1.out (a3_ HB.out GE378.out))); (case side2 => exact HC0_1.out); (case side3 => exact (cb_ HR0_2.out (a3_ HB.out GE378.out))); (case side4 => exact HC0_2.out); rintro e w13 ⟨rfl, hb⟩; have n0_ := Aside0.mk (blk_below (g := gb378) (o := .cells #[.int .i64 a0_0, .slice A0_1 l0_1.length c0_1, .slice A0_2 l0_2.length c0_2] 31 (0, 0)) (a4_ BK378.out) hb); have n1_ := Aside0.mk (below_step (a3_ HB.out GE378.out) hb); clear BK378; clear HB; have BK378 := n0_; have HB := n1_; clear n0_ n1_; (try clear hb); (try clear hb2); (try clear hk); (try clear hi); obtain ⟨⟨hcz14_0, hcz14_1, hcz14_2⟩, hfz14_0, hfz14_1, hfz14_2⟩ := cells_3 BK378.out) | (go_at_call 27; (with_reducible refine (impl_Graph_isStateOf.calls k a0_0 _ _ l0_1 _ _ l0_2 _ _ l1 true _ ?side1 ?side2 ?side3 ?side4 ?side5 ?side6 A8.out).mono ?_); (case side1 => exact (cb_ HR0_1.out HB.out)); (case side2 => exact HC0_1.out); (case side3 => exact (cb_ HR0_2.out HB.out)); (case side4 => exact HC0_2.out); (case side5 => exact (cb_ HR1.out HB.out)); (case side6 => exact HC1.out); rintro e w15 ⟨rfl, hb⟩; have n0_ := Aside0.mk (blk_below (g := gb378) (o := .cells #[.int .i64 a0_0, .slice A0_1 l0_1.length c0_1, .slice A0_2 l0_2.length c0_2] 31 (0, 0)) (a4_ BK378.out) hb); have n1_ := Aside0.mk (below_step (a3_ HB.out GE378.out) hb); clear BK378; clear HB; have BK378 := n0_; have HB := n1_; clear n0_ n1_; (try clear hb); (try clear hb2); (try clear hk); (try clear hi); obtain ⟨⟨hcz16_0, hcz16_1, hcz16_2⟩, hfz16_0, hfz16_1, hfz16_2⟩ := cells_3 BK378.out) | ((with_reducible refine gate_callee (f := 28) rfl ?_); refine gl_ (some 24) Try.func28 #[.agg #[.int .i64 a0_0, .slice A0_1 l0_1.length c0_1, .slice A0_2 l0_2.length c0_2], .slice A1 l1.length c1, .int .i64 a2] ?_; (with_reducible refine (impl_Graph_member.calls k a0_0 _ _ l0_1 _ _ l0_2 _ _ l1 a2 t382 _ ?side1 ?side2 ?side3 ?side4 ?side5 ?side6 A10.out).mono ?_); (case side1 => exact (cb_ HR0_1.out HB.out)); (case side2 => exact HC0_1.out); (case side3 => exact (cb_ HR0_2.out HB.out)); (case side4 => exact HC0_2.out); (case side5 => exact (cb_ HR1.out HB.out)); (case side6 => exact HC1.out); rintro e w17 ⟨rfl, hb⟩; refine ⟨_, rfl, ?_⟩; have n0_ := Aside0.mk (blk_below (g := gb378) (o := .cells #[.int .i64 a0_0, .slice A0_1 l0_1.length c0_1, .slice A0_2 l0_2.length c0_2] 31 (0, 0)) (a4_ BK378.out) hb); have n1_ := Aside0.mk (below_step (a3_ HB.out GE378.out) hb); clear BK378; clear HB; have BK378 := n0_; have HB := n1_; clear n0_ n1_; (try clear hb); (try clear hb2); (try clear hk); (try clear hi)))
    go_ret
    exact ⟨a2_, (a3_ HB.out GE378.out)⟩
   ·
    replace c9 := Bool.eq_false_iff.mpr c9; subst c9; have H1 : (some 0) = some r := by rw [if_neg (show ¬ (false = true) by decide)] at H; exact H
    clear H; have H := H1; clear H1; obtain rfl := Option.some.inj H; go_enter Try.func11, Try.ntmps11; go_wp2_with (first | ((with_reducible refine gate_dst (N := 3) rfl ?_); refine be_ 3 #[.int .i64 a0_0, .slice A0_1 l0_1.length c0_1, .slice A0_2 l0_2.length c0_2] 31 ?_; intro gb378 hg w18 hbox hb; have n0_ := Aside0.mk (below_step (a1_ HB.out) hb); have n1_ := Aside0.mk (hbox); have n2_ := Aside0.mk ((by rw [hg]; exact (below_size (a1_ HB.out)) : w.heap.size ≤ gb378)); have n3_ := n2_; clear HB; have HB := n0_; have BK378 := n1_; have GW378 := n2_; have GE378 := n3_; clear n0_ n1_ n2_ n3_; clear hb hbox hg) | ((with_reducible refine gate_callee (f := 25) rfl ?_); refine gl_ (some 8) Try.func25 #[.int .i64 a2] ?_; (with_reducible refine (impl_isUser.calls a2 true _ A4.out).mono ?_); rintro e w' ⟨rfl, ⟨nd, rfl⟩⟩; refine ⟨_, rfl, ?_⟩; obtain ⟨⟨hcz19_0, hcz19_1, hcz19_2⟩, hfz19_0, hfz19_1, hfz19_2⟩ := cells_3 BK378.out) | (go_at_call 26; (with_reducible refine (impl_GraphRight.calls k a0_0 _ _ l0_1 _ _ l0_2 true _ ?side1 ?side2 ?side3 ?side4 A6.out).mono ?_); (case side1 => exact (cb_ HR0_1.out (a3_ HB.out GE378.out))); (case side2 => exact HC0_1.out); (case side3 => exact (cb_ HR0_2.out (a3_ HB.out GE378.out))); (case side4 => exact HC0_2.out); rintro e w20 ⟨rfl, hb⟩; have n0_ := Aside0.mk (blk_below (g := gb378) (o := .cells #[.int .i64 a0_0, .slice A0_1 l0_1.length c0_1, .slice A0_2 l0_2.length c0_2] 31 (0, 0)) (a4_ BK378.out) hb); have n1_ := Aside0.mk (below_step (a3_ HB.out GE378.out) hb); clear BK378; clear HB; have BK378 := n0_; have HB := n1_; clear n0_ n1_; (try clear hb); (try clear hb2); (try clear hk); (try clear hi); obtain ⟨⟨hcz21_0, hcz21_1, hcz21_2⟩, hfz21_0, hfz21_1, hfz21_2⟩ := cells_3 BK378.out) | (go_at_call 27; (with_reducible refine (impl_Graph_isStateOf.calls k a0_0 _ _ l0_1 _ _ l0_2 _ _ l1 false _ ?side1 ?side2 ?side3 ?side4 ?side5 ?side6 A8.out).mono ?_); (case side1 => exact (cb_ HR0_1.out HB.out)); (case side2 => exact HC0_1.out); (case side3 => exact (cb_ HR0_2.out HB.out)); (case side4 => exact HC0_2.out); (case side5 => exact (cb_ HR1.out HB.out)); (case side6 => exact HC1.out); rintro e w22 ⟨rfl, hb⟩; have n0_ := Aside0.mk (blk_below (g := gb378) (o := .cells #[.int .i64 a0_0, .slice A0_1 l0_1.length c0_1, .slice A0_2 l0_2.length c0_2] 31 (0, 0)) (a4_ BK378.out) hb); have n1_ := Aside0.mk (below_step (a3_ HB.out GE378.out) hb); clear BK378; clear HB; have BK378 := n0_; have HB := n1_; clear n0_ n1_; (try clear hb); (try clear hb2); (try clear hk); (try clear hi)))
    go_ret
    exact ⟨a2_, (a3_ HB.out GE378.out)⟩
  ·
   replace c7 := Bool.eq_false_iff.mpr c7; subst c7; have H1 : (some 0) = some r := by rw [if_neg (show ¬ (false = true) by decide)] at H; exact H
   clear H; have H := H1; clear H1; obtain rfl := Option.some.inj H; go_enter Try.func11, Try.ntmps11; go_wp2_with (first | ((with_reducible refine gate_dst (N := 3) rfl ?_); refine be_ 3 #[.int .i64 a0_0, .slice A0_1 l0_1.length c0_1, .slice A0_2 l0_2.length c0_2] 31 ?_; intro gb378 hg w23 hbox hb; have n0_ := Aside0.mk (below_step (a1_ HB.out) hb); have n1_ := Aside0.mk (hbox); have n2_ := Aside0.mk ((by rw [hg]; exact (below_size (a1_ HB.out)) : w.heap.size ≤ gb378)); have n3_ := n2_; clear HB; have HB := n0_; have BK378 := n1_; have GW378 := n2_; have GE378 := n3_; clear n0_ n1_ n2_ n3_; clear hb hbox hg) | ((with_reducible refine gate_callee (f := 25) rfl ?_); refine gl_ (some 8) Try.func25 #[.int .i64 a2] ?_; (with_reducible refine (impl_isUser.calls a2 true _ A4.out).mono ?_); rintro e w' ⟨rfl, ⟨nd, rfl⟩⟩; refine ⟨_, rfl, ?_⟩; obtain ⟨⟨hcz24_0, hcz24_1, hcz24_2⟩, hfz24_0, hfz24_1, hfz24_2⟩ := cells_3 BK378.out) | (go_at_call 26; (with_reducible refine (impl_GraphRight.calls k a0_0 _ _ l0_1 _ _ l0_2 false _ ?side1 ?side2 ?side3 ?side4 A6.out).mono ?_); (case side1 => exact (cb_ HR0_1.out (a3_ HB.out GE378.out))); (case side2 => exact HC0_1.out); (case side3 => exact (cb_ HR0_2.out (a3_ HB.out GE378.out))); (case side4 => exact HC0_2.out); rintro e w25 ⟨rfl, hb⟩; have n0_ := Aside0.mk (blk_below (g := gb378) (o := .cells #[.int .i64 a0_0, .slice A0_1 l0_1.length c0_1, .slice A0_2 l0_2.length c0_2] 31 (0, 0)) (a4_ BK378.out) hb); have n1_ := Aside0.mk (below_step (a3_ HB.out GE378.out) hb); clear BK378; clear HB; have BK378 := n0_; have HB := n1_; clear n0_ n1_; (try clear hb); (try clear hb2); (try clear hk); (try clear hi)))
   go_ret
   exact ⟨a2_, (a3_ HB.out GE378.out)⟩
 ·
  replace c5 := Bool.eq_false_iff.mpr c5; subst c5; have H1 : (some 0) = some r := by rw [if_neg (show ¬ (false = true) by decide)] at H; exact H
  clear H; have H := H1; clear H1; obtain rfl := Option.some.inj H; go_enter Try.func11, Try.ntmps11; go_wp2_with (first | ((with_reducible refine gate_dst (N := 3) rfl ?_); refine be_ 3 #[.int .i64 a0_0, .slice A0_1 l0_1.length c0_1, .slice A0_2 l0_2.length c0_2] 31 ?_; intro gb378 hg w26 hbox hb; have n0_ := Aside0.mk (below_step (a1_ HB.out) hb); have n1_ := Aside0.mk (hbox); have n2_ := Aside0.mk ((by rw [hg]; exact (below_size (a1_ HB.out)) : w.heap.size ≤ gb378)); have n3_ := n2_; clear HB; have HB := n0_; have BK378 := n1_; have GW378 := n2_; have GE378 := n3_; clear n0_ n1_ n2_ n3_; clear hb hbox hg) | ((with_reducible refine gate_callee (f := 25) rfl ?_); refine gl_ (some 8) Try.func25 #[.int .i64 a2] ?_; (with_reducible refine (impl_isUser.calls a2 false _ A4.out).mono ?_); rintro e w' ⟨rfl, ⟨nd, rfl⟩⟩; refine ⟨_, rfl, ?_⟩))
  go_ret
  exact ⟨a2_, (a3_ HB.out GE378.out)⟩

/-! ### laws_eqInt64S: function 72 -/
def laws_eqInt64S.l0 : Nat → List Int → List Int → Int → Option (Bool)
  | 0, _, _, _ => none
  | k + 1, x0, x1, x5 => if x5 < (x0.length : Int) then (if 0 ≤ x5 then (if x5 < (x1.length : Int) then (if (rd x0 x5) = (rd x1 x5) then (laws_eqInt64S.l0 k x0 x1 (wrap64 (x5 + 1))) else (some false)) else (none)) else (none)) else (some true)
def laws_eqInt64S.f (k : Nat) (l0 : List Int) (l1 : List Int) : Option (Bool) := if (l0.length : Int) = (l1.length : Int) then (laws_eqInt64S.l0 k l0 l1 0) else (some false)
theorem laws_eqInt64S.mono_l : ∀ k, (∀ y0 y1 y2, LeO (laws_eqInt64S.l0 k y0 y1 y2) (laws_eqInt64S.l0 (k + 1) y0 y1 y2))
  | 0 => fun _ _ _ r h => by simp [laws_eqInt64S.l0] at h
  | k + 1 => by
    have ih0 := laws_eqInt64S.mono_l k
    · intro y0 y1 y2
      unfold laws_eqInt64S.l0
      repeat' first | (with_reducible exact ih0 _ _ _) | (with_reducible exact LeO.refl _) | (with_reducible exact LeO.none _) | (with_reducible refine LeO.ite ?_ ?_) | (with_reducible refine LeO.bind ?_ (fun _ => ?_)) | exact ih0 _ _ _ | exact LeO.none _ | refine LeO.ite ?_ ?_ | refine LeO.bind ?_ (fun _ => ?_)
theorem laws_eqInt64S.mono : ∀ a0 a1 k, LeO (laws_eqInt64S.f k a0 a1) (laws_eqInt64S.f (k + 1) a0 a1) := by
  intro a0 a1 k
  have ih0 := laws_eqInt64S.mono_l k
  unfold laws_eqInt64S.f
  repeat' first | (with_reducible exact ih0 _ _ _) | (with_reducible exact LeO.refl _) | (with_reducible exact LeO.none _) | (with_reducible refine LeO.ite ?_ ?_) | (with_reducible refine LeO.bind ?_ (fun _ => ?_)) | exact ih0 _ _ _ | exact LeO.none _ | refine LeO.ite ?_ ?_ | refine LeO.bind ?_ (fun _ => ?_)
set_option maxHeartbeats 8000000 in
set_option maxRecDepth 100000 in
theorem laws_eqInt64S.calls (k : Nat) (A0 : Option Addr) (c0 : Nat) (l0 : List Int) (A1 : Option Addr) (c1 : Nat) (l1 : List Int) (r : Bool) (w : World) (hr0 : Kd.C (Kd.int .i64) w A0 l0.length l0) (hc0 : l0.length ≤ c0) (hr1 : Kd.C (Kd.int .i64) w A1 l1.length l1) (hc1 : l1.length ≤ c1) (h : laws_eqInt64S.f k l0 l1 = some r) :
    Calls Try.prog 72 #[.slice A0 l0.length c0, .slice A1 l1.length c1] w fun e w' => e = .returned (.bool r) ∧ Drawn0 w w' := by
 have HR0 := Aside0.mk hr0; have HC0 := Aside0.mk hc0; clear hr0 hc0; have HR1 := Aside0.mk hr1; have HC1 := Aside0.mk hc1; clear hr1 hc1; have H : (if (l0.length : Int) = (l1.length : Int) then (laws_eqInt64S.l0 k l0 l1 0) else (some false)) = some r := h; clear h; by_cases c3 : (l0.length : Int) = (l1.length : Int)
 ·
  rw [if_pos c3] at H; have c3b0 : ((l0.length : Int) == (l1.length : Int)) = true := beq_iff_eq.mpr c3; have c3b1 : ((l0.length : Int) != (l1.length : Int)) = false := bne_eq_false_iff_eq.mpr c3; have c3b2 : (l0.length == l1.length) = true := by first | simpa using c3 | (simp at c3 ⊢; omega)
  clear c3; have H' := Aside0.mk H; clear H; go_enter Try.func72, Try.ntmps72; go_wp2
  repeat (go_quiet (fail); try go_wp2)
  go_loopg [5] k (fun kq v5 w' => ∃ (x5_1 : Int), v5 = .int .i64 x5_1 ∧ Aside0 (laws_eqInt64S.l0 kq l0 l1 x5_1 = some r) ∧ Aside0 (kq ≤ k) ∧ Drawn0 w w')
  case atStart => exact ⟨(0), (by first | rfl | (simp; done) | (simp [*]; done)), H', ⟨Nat.le_refl _⟩, by repeat (first | exact Drawn0.refl _ | apply Drawn0.step)⟩
  case round =>
   clear H'; try clear c1
   try clear p2
   try clear c3
   try clear c3b0
   try clear c3b1
   try clear c3b2
   obtain ⟨x5_1, rfl, HA, HK1, ⟨m1, rfl⟩⟩ := hrel
   cases gk with
   | zero => exact absurd HA.out (by simp [laws_eqInt64S.l0])
   | succ k1 =>
    have H := HA.out; clear HA; simp only [laws_eqInt64S.l0] at H; by_cases c4 : x5_1 < (l0.length : Int)
    ·
     rw [if_pos c4] at H; have c4b0 : decide (x5_1 < (l0.length : Int)) = true := decide_eq_true c4; clear c4; by_cases c5 : 0 ≤ x5_1
     ·
      rw [if_pos c5] at H; have c5b0 : decide (0 ≤ x5_1) = true := decide_eq_true c5; clear c5; by_cases c6 : x5_1 < (l1.length : Int)
      ·
       rw [if_pos c6] at H; have c6b0 : decide (x5_1 < (l1.length : Int)) = true := decide_eq_true c6; clear c6; by_cases c7 : (rd l0 x5_1) = (rd l1 x5_1)
       ·
        rw [if_pos c7] at H; have c7b0 : ((rd l0 x5_1) == (rd l1 x5_1)) = true := beq_iff_eq.mpr c7; have c7b1 : ((rd l0 x5_1) != (rd l1 x5_1)) = false := bne_eq_false_iff_eq.mpr c7; clear c7; have H' := Aside0.mk H; clear H; have p383 : 0 ≤ (x5_1 : Int) := d_; have q383 : x5_1 < (l0.length : Int) := d_; obtain ⟨ad383, e383, hx383_0⟩ := Kd.at_int HR0.out x5_1 p383 q383; cases e383; replace p383 := eq_true p383; replace q383 := eq_true q383; have p384 : 0 ≤ (x5_1 : Int) := d_; have q384 : x5_1 < (l1.length : Int) := d_; obtain ⟨ad384, e384, hx384_0⟩ := Kd.at_int HR1.out x5_1 p384 q384; cases e384; replace p384 := eq_true p384; replace q384 := eq_true q384; go_wp2
        repeat (go_quiet (fail); try go_wp2)
        go_roundg k1
        case measure => have := HK1.out; omega
        case rel => exact ⟨(wrap64 (x5_1 + 1)), (by first | rfl | (simp; done) | (simp [*]; done)), H', ⟨by have := HK1.out; omega⟩, by repeat (first | exact Drawn0.refl _ | apply Drawn0.step)⟩
       ·
        rw [if_neg c7] at H; have c7b0 : ((rd l0 x5_1) == (rd l1 x5_1)) = false := beq_eq_false_iff_ne.mpr c7; have c7b1 : ((rd l0 x5_1) != (rd l1 x5_1)) = true := bne_iff_ne.mpr c7; obtain rfl := Option.some.inj H; have p383 : 0 ≤ (x5_1 : Int) := d_; have q383 : x5_1 < (l0.length : Int) := d_; obtain ⟨ad383, e383, hx383_0⟩ := Kd.at_int HR0.out x5_1 p383 q383; cases e383; replace p383 := eq_true p383; replace q383 := eq_true q383; have p384 : 0 ≤ (x5_1 : Int) := d_; have q384 : x5_1 < (l1.length : Int) := d_; obtain ⟨ad384, e384, hx384_0⟩ := Kd.at_int HR1.out x5_1 p384 q384; cases e384; replace p384 := eq_true p384; replace q384 := eq_true q384; go_wp2
        repeat (go_quiet (fail); try go_wp2)
        go_ret
        exact ⟨by first | rfl | (simp; done) | (simp [*]; done), by repeat (first | exact Drawn0.refl _ | apply Drawn0.step)⟩
      ·
       rw [if_neg c6] at H; exact absurd H (by simp)
     ·
      rw [if_neg c5] at H; exact absurd H (by simp)
    ·
     rw [if_neg c4] at H; have c4b0 : decide (x5_1 < (l0.length : Int)) = false := decide_eq_false c4; clear c4; obtain rfl := Option.some.inj H; go_wp2
     repeat (go_quiet (fail); try go_wp2)
     go_ret
     exact ⟨by first | rfl | (simp; done) | (simp [*]; done), by repeat (first | exact Drawn0.refl _ | apply Drawn0.step)⟩
 ·
  rw [if_neg c3] at H; have c3b0 : ((l0.length : Int) == (l1.length : Int)) = false := beq_eq_false_iff_ne.mpr c3; have c3b1 : ((l0.length : Int) != (l1.length : Int)) = true := bne_iff_ne.mpr c3; have c3b2 : (l0.length == l1.length) = false := by first | simpa using c3 | (simp at c3 ⊢; omega)
  obtain rfl := Option.some.inj H; go_enter Try.func72, Try.ntmps72; go_wp2
  repeat (go_quiet (fail); try go_wp2)
  go_ret
  exact ⟨by first | rfl | (simp; done) | (simp [*]; done), by repeat (first | exact Drawn0.refl _ | apply Drawn0.step)⟩

/-! ### laws_eqEvent: function 58 -/
def laws_eqEvent.f (k : Nat) (a0_0 : Int) (a0_1 : Int) (a0_2 : Int) (a0_3 : Int) (a0_4 : Int) (a0_5 : Int) (a0_6 : ByteArray) (l0_7 : List Int) (a0_8 : Int) (a1_0 : Int) (a1_1 : Int) (a1_2 : Int) (a1_3 : Int) (a1_4 : Int) (a1_5 : Int) (a1_6 : ByteArray) (l1_7 : List Int) (a1_8 : Int) : Option (Bool) := if a0_0 = a1_0 then (if a0_1 = a1_1 then (if a0_2 = a1_2 then (if a0_3 = a1_3 then (if a0_4 = a1_4 then (if a0_5 = a1_5 then (if a0_6.toList = a1_6.toList then ((laws_eqInt64S.f k l0_7 l1_7).bind fun t387 => (if t387 = true then (if a0_8 = a1_8 then (some true) else (some false)) else (some false))) else (some false)) else (some false)) else (some false)) else (some false)) else (some false)) else (some false)) else (some false)
theorem laws_eqEvent.mono : ∀ a0 a1 a2 a3 a4 a5 a6 a7 a8 a9 a10 a11 a12 a13 a14 a15 a16 a17 k, LeO (laws_eqEvent.f k a0 a1 a2 a3 a4 a5 a6 a7 a8 a9 a10 a11 a12 a13 a14 a15 a16 a17) (laws_eqEvent.f (k + 1) a0 a1 a2 a3 a4 a5 a6 a7 a8 a9 a10 a11 a12 a13 a14 a15 a16 a17) := by
  intro a0 a1 a2 a3 a4 a5 a6 a7 a8 a9 a10 a11 a12 a13 a14 a15 a16 a17 k
  unfold laws_eqEvent.f
  repeat' first | (with_reducible exact laws_eqInt64S.mono _ _ _) | (with_reducible exact LeO.refl _) | (with_reducible exact LeO.none _) | (with_reducible refine LeO.ite ?_ ?_) | (with_reducible refine LeO.bind ?_ (fun _ => ?_)) | exact laws_eqInt64S.mono _ _ _ | exact LeO.none _ | refine LeO.ite ?_ ?_ | refine LeO.bind ?_ (fun _ => ?_)
set_option maxHeartbeats 8000000 in
set_option maxRecDepth 100000 in
theorem laws_eqEvent.calls (k : Nat) (a0_0 : Int) (a0_1 : Int) (a0_2 : Int) (a0_3 : Int) (a0_4 : Int) (a0_5 : Int) (a0_6 : ByteArray) (A0_7 : Option Addr) (c0_7 : Nat) (l0_7 : List Int) (a0_8 : Int) (a1_0 : Int) (a1_1 : Int) (a1_2 : Int) (a1_3 : Int) (a1_4 : Int) (a1_5 : Int) (a1_6 : ByteArray) (A1_7 : Option Addr) (c1_7 : Nat) (l1_7 : List Int) (a1_8 : Int) (r : Bool) (w : World) (hr0_7 : Kd.C (Kd.int .i64) w A0_7 l0_7.length l0_7) (hc0_7 : l0_7.length ≤ c0_7) (hr1_7 : Kd.C (Kd.int .i64) w A1_7 l1_7.length l1_7) (hc1_7 : l1_7.length ≤ c1_7) (h : laws_eqEvent.f k a0_0 a0_1 a0_2 a0_3 a0_4 a0_5 a0_6 l0_7 a0_8 a1_0 a1_1 a1_2 a1_3 a1_4 a1_5 a1_6 l1_7 a1_8 = some r) :
    Calls Try.prog 58 #[.agg #[.int .i64 a0_0, .int .i64 a0_1, .int .i64 a0_2, .int .i64 a0_3, .int .i64 a0_4, .int .i64 a0_5, .string a0_6, .slice A0_7 l0_7.length c0_7, .int .i64 a0_8], .agg #[.int .i64 a1_0, .int .i64 a1_1, .int .i64 a1_2, .int .i64 a1_3, .int .i64 a1_4, .int .i64 a1_5, .string a1_6, .slice A1_7 l1_7.length c1_7, .int .i64 a1_8]] w fun e w' => e = .returned (.bool r) ∧ Below w.heap.size w w' := by
 have hu61 := Try.underlying61; have HR0_7 := Aside0.mk hr0_7; have HC0_7 := Aside0.mk hc0_7; clear hr0_7 hc0_7; have HR1_7 := Aside0.mk hr1_7; have HC1_7 := Aside0.mk hc1_7; clear hr1_7 hc1_7; have HB := Aside0.mk (Below.refl w.heap.size w); have H : (if a0_0 = a1_0 then (if a0_1 = a1_1 then (if a0_2 = a1_2 then (if a0_3 = a1_3 then (if a0_4 = a1_4 then (if a0_5 = a1_5 then (if a0_6.toList = a1_6.toList then ((laws_eqInt64S.f k l0_7 l1_7).bind fun t387 => (if t387 = true then (if a0_8 = a1_8 then (some true) else (some false)) else (some false))) else (some false)) else (some false)) else (some false)) else (some false)) else (some false)) else (some false)) else (some false)) = some r := h; clear h; go_enter Try.func58, Try.ntmps58; go_upto_if 9 with (first | ((with_reducible refine gate_dst (N := 2) rfl ?_); refine be_ 2 #[.int .i64 a0_0, .int .i64 a0_1, .int .i64 a0_2, .int .i64 a0_3, .int .i64 a0_4, .int .i64 a0_5, .string a0_6, .slice A0_7 l0_7.length c0_7, .int .i64 a0_8] 61 ?_; intro gb385 hg w13 hbox hb; have n0_ := Aside0.mk (below_step (a1_ HB.out) hb); have n1_ := Aside0.mk (hbox); have n2_ := Aside0.mk ((by rw [hg]; exact (below_size (a1_ HB.out)) : w.heap.size ≤ gb385)); have n3_ := n2_; clear HB; have HB := n0_; have BK385 := n1_; have GW385 := n2_; have GE385 := n3_; clear n0_ n1_ n2_ n3_; clear hb hbox hg) | ((with_reducible refine gate_dst (N := 3) rfl ?_); refine be_ 3 #[.int .i64 a1_0, .int .i64 a1_1, .int .i64 a1_2, .int .i64 a1_3, .int .i64 a1_4, .int .i64 a1_5, .string a1_6, .slice A1_7 l1_7.length c1_7, .int .i64 a1_8] 61 ?_; intro gb386 hg w14 hbox hb; have n0_ := Aside0.mk (blk_below (g := gb385) (o := .cells #[.int .i64 a0_0, .int .i64 a0_1, .int .i64 a0_2, .int .i64 a0_3, .int .i64 a0_4, .int .i64 a0_5, .string a0_6, .slice A0_7 l0_7.length c0_7, .int .i64 a0_8] 61 (0, 0)) (a4_ BK385.out) hb); have n1_ := Aside0.mk (below_step (a3_ HB.out GE385.out) hb); have n2_ := Aside0.mk (hbox); have n3_ := Aside0.mk ((by rw [hg]; exact (below_size (a3_ HB.out GE385.out)) : w.heap.size ≤ gb386)); have n4_ := n3_; have n5_ := Aside0.mk ((by rw [hg]; exact Nat.ne_of_lt (blk_lt (g := gb385) (o := .cells #[.int .i64 a0_0, .int .i64 a0_1, .int .i64 a0_2, .int .i64 a0_3, .int .i64 a0_4, .int .i64 a0_5, .string a0_6, .slice A0_7 l0_7.length c0_7, .int .i64 a0_8] 61 (0, 0)) (a4_ BK385.out)) : gb385 ≠ gb386)); have n6_ := Aside0.mk (Ne.symm n5_.out); clear BK385; clear HB; have BK385 := n0_; have HB := n1_; have BK386 := n2_; have GW386 := n3_; have GE386 := n4_; have NB385_386 := n5_; have NB386_385 := n6_; clear n0_ n1_ n2_ n3_ n4_ n5_ n6_; clear hb hbox hg; have hnb15 := NB385_386.out; have hnc15 := NB386_385.out; obtain ⟨⟨hcz16_0, hcz16_1, hcz16_2, hcz16_3, hcz16_4, hcz16_5, hcz16_6, hcz16_7, hcz16_8⟩, hfz16_0, hfz16_1, hfz16_2, hfz16_3, hfz16_4, hfz16_5, hfz16_6, hfz16_7, hfz16_8⟩ := cells_9 BK385.out; obtain ⟨⟨hcz17_0, hcz17_1, hcz17_2, hcz17_3, hcz17_4, hcz17_5, hcz17_6, hcz17_7, hcz17_8⟩, hfz17_0, hfz17_1, hfz17_2, hfz17_3, hfz17_4, hfz17_5, hfz17_6, hfz17_7, hfz17_8⟩ := cells_9 BK386.out))
 by_cases c3 : a0_0 = a1_0
 ·
  rw [if_pos c3] at H; have c3b0 : (a0_0 == a1_0) = true := beq_iff_eq.mpr c3; have c3b1 : (a0_0 != a1_0) = false := bne_eq_false_iff_eq.mpr c3; clear c3; (try simp only [c3b0, Bool.not_true, Bool.not_false])
  (try simp only [c3b1, Bool.not_true, Bool.not_false])
  by_cases c4 : a0_1 = a1_1
  ·
   rw [if_pos c4] at H; have c4b0 : (a0_1 == a1_1) = true := beq_iff_eq.mpr c4; have c4b1 : (a0_1 != a1_1) = false := bne_eq_false_iff_eq.mpr c4; clear c4; (try simp only [c4b0, Bool.not_true, Bool.not_false])
   (try simp only [c4b1, Bool.not_true, Bool.not_false])
   by_cases c5 : a0_2 = a1_2
   ·
    rw [if_pos c5] at H; have c5b0 : (a0_2 == a1_2) = true := beq_iff_eq.mpr c5; have c5b1 : (a0_2 != a1_2) = false := bne_eq_false_iff_eq.mpr c5; clear c5; (try simp only [c5b0, Bool.not_true, Bool.not_false])
    (try simp only [c5b1, Bool.not_true, Bool.not_false])
    by_cases c6 : a0_3 = a1_3
    ·
     rw [if_pos c6] at H; have c6b0 : (a0_3 == a1_3) = true := beq_iff_eq.mpr c6; have c6b1 : (a0_3 != a1_3) = false := bne_eq_false_iff_eq.mpr c6; clear c6; (try simp only [c6b0, Bool.not_true, Bool.not_false])
     (try simp only [c6b1, Bool.not_true, Bool.not_false])
     by_cases c7 : a0_4 = a1_4
     ·
      rw [if_pos c7] at H; have c7b0 : (a0_4 == a1_4) = true := beq_iff_eq.mpr c7; have c7b1 : (a0_4 != a1_4) = false := bne_eq_false_iff_eq.mpr c7; clear c7; (try simp only [c7b0, Bool.not_true, Bool.not_false])
      (try simp only [c7b1, Bool.not_true, Bool.not_false])
      by_cases c8 : a0_5 = a1_5
      ·
       rw [if_pos c8] at H; have c8b0 : (a0_5 == a1_5) = true := beq_iff_eq.mpr c8; have c8b1 : (a0_5 != a1_5) = false := bne_eq_false_iff_eq.mpr c8; clear c8; (try simp only [c8b0, Bool.not_true, Bool.not_false])
       (try simp only [c8b1, Bool.not_true, Bool.not_false])
       by_cases c9 : a0_6.toList = a1_6.toList
       ·
        rw [if_pos c9] at H; have c9b0 : (a0_6.toList == a1_6.toList) = true := beq_iff_eq.mpr c9; have c9b1 : (a0_6.toList != a1_6.toList) = false := bne_eq_false_iff_eq.mpr c9; clear c9; replace H := Option.bind_eq_some_iff.mp H; obtain ⟨t387, A100, H⟩ := H; replace H : (if t387 = true then (if a0_8 = a1_8 then (some true) else (some false)) else (some false)) = some r := H; have A10 := Aside0.mk A100; clear A100; (try simp only [c9b0, Bool.not_true, Bool.not_false])
        (try simp only [c9b1, Bool.not_true, Bool.not_false])
        go_upto_if 45 with (first | ((with_reducible refine gate_callee (f := 72) rfl ?_); refine gl_ (some 44) Try.func72 #[.slice A0_7 l0_7.length c0_7, .slice A1_7 l1_7.length c1_7] ?_; (with_reducible refine (laws_eqInt64S.calls k _ _ l0_7 _ _ l1_7 t387 _ ?side1 ?side2 ?side3 ?side4 A10.out).mono ?_); (case side1 => exact (cb_ HR0_7.out HB.out)); (case side2 => exact HC0_7.out); (case side3 => exact (cb_ HR1_7.out HB.out)); (case side4 => exact HC1_7.out); rintro e w' ⟨rfl, ⟨nd, rfl⟩⟩; refine ⟨_, rfl, ?_⟩))
        by_cases c11 : t387 = true
        ·
         subst c11; have H1 : (if a0_8 = a1_8 then (some true) else (some false)) = some r := by rw [if_pos rfl] at H; exact H
         clear H; have H := H1; clear H1; by_cases c12 : a0_8 = a1_8
         ·
          rw [if_pos c12] at H; have c12b0 : (a0_8 == a1_8) = true := beq_iff_eq.mpr c12; have c12b1 : (a0_8 != a1_8) = false := bne_eq_false_iff_eq.mpr c12; clear c12; obtain rfl := Option.some.inj H; (try simp only [c12b0, Bool.not_true, Bool.not_false])
          (try simp only [c12b1, Bool.not_true, Bool.not_false])
          go_wp2
          go_ret
          exact ⟨a2_, (a5_ HB.out GE385.out GE386.out)⟩
         ·
          rw [if_neg c12] at H; have c12b0 : (a0_8 == a1_8) = false := beq_eq_false_iff_ne.mpr c12; have c12b1 : (a0_8 != a1_8) = true := bne_iff_ne.mpr c12; obtain rfl := Option.some.inj H; (try simp only [c12b0, Bool.not_true, Bool.not_false])
          (try simp only [c12b1, Bool.not_true, Bool.not_false])
          go_wp2
          go_ret
          exact ⟨a2_, (a5_ HB.out GE385.out GE386.out)⟩
        ·
         replace c11 := Bool.eq_false_iff.mpr c11; subst c11; have H1 : (some false) = some r := by rw [if_neg (show ¬ (false = true) by decide)] at H; exact H
         clear H; have H := H1; clear H1; obtain rfl := Option.some.inj H; go_wp2
         go_ret
         exact ⟨a2_, (a5_ HB.out GE385.out GE386.out)⟩
       ·
        rw [if_neg c9] at H; have c9b0 : (a0_6.toList == a1_6.toList) = false := beq_eq_false_iff_ne.mpr c9; have c9b1 : (a0_6.toList != a1_6.toList) = true := bne_iff_ne.mpr c9; obtain rfl := Option.some.inj H; (try simp only [c9b0, Bool.not_true, Bool.not_false])
        (try simp only [c9b1, Bool.not_true, Bool.not_false])
        go_wp2
        go_ret
        exact ⟨a2_, (a5_ HB.out GE385.out GE386.out)⟩
      ·
       rw [if_neg c8] at H; have c8b0 : (a0_5 == a1_5) = false := beq_eq_false_iff_ne.mpr c8; have c8b1 : (a0_5 != a1_5) = true := bne_iff_ne.mpr c8; obtain rfl := Option.some.inj H; (try simp only [c8b0, Bool.not_true, Bool.not_false])
       (try simp only [c8b1, Bool.not_true, Bool.not_false])
       go_wp2
       go_ret
       exact ⟨a2_, (a5_ HB.out GE385.out GE386.out)⟩
     ·
      rw [if_neg c7] at H; have c7b0 : (a0_4 == a1_4) = false := beq_eq_false_iff_ne.mpr c7; have c7b1 : (a0_4 != a1_4) = true := bne_iff_ne.mpr c7; obtain rfl := Option.some.inj H; (try simp only [c7b0, Bool.not_true, Bool.not_false])
      (try simp only [c7b1, Bool.not_true, Bool.not_false])
      go_wp2
      go_ret
      exact ⟨a2_, (a5_ HB.out GE385.out GE386.out)⟩
    ·
     rw [if_neg c6] at H; have c6b0 : (a0_3 == a1_3) = false := beq_eq_false_iff_ne.mpr c6; have c6b1 : (a0_3 != a1_3) = true := bne_iff_ne.mpr c6; obtain rfl := Option.some.inj H; (try simp only [c6b0, Bool.not_true, Bool.not_false])
     (try simp only [c6b1, Bool.not_true, Bool.not_false])
     go_wp2
     go_ret
     exact ⟨a2_, (a5_ HB.out GE385.out GE386.out)⟩
   ·
    rw [if_neg c5] at H; have c5b0 : (a0_2 == a1_2) = false := beq_eq_false_iff_ne.mpr c5; have c5b1 : (a0_2 != a1_2) = true := bne_iff_ne.mpr c5; obtain rfl := Option.some.inj H; (try simp only [c5b0, Bool.not_true, Bool.not_false])
    (try simp only [c5b1, Bool.not_true, Bool.not_false])
    go_wp2
    go_ret
    exact ⟨a2_, (a5_ HB.out GE385.out GE386.out)⟩
  ·
   rw [if_neg c4] at H; have c4b0 : (a0_1 == a1_1) = false := beq_eq_false_iff_ne.mpr c4; have c4b1 : (a0_1 != a1_1) = true := bne_iff_ne.mpr c4; obtain rfl := Option.some.inj H; (try simp only [c4b0, Bool.not_true, Bool.not_false])
   (try simp only [c4b1, Bool.not_true, Bool.not_false])
   go_wp2
   go_ret
   exact ⟨a2_, (a5_ HB.out GE385.out GE386.out)⟩
 ·
  rw [if_neg c3] at H; have c3b0 : (a0_0 == a1_0) = false := beq_eq_false_iff_ne.mpr c3; have c3b1 : (a0_0 != a1_0) = true := bne_iff_ne.mpr c3; obtain rfl := Option.some.inj H; (try simp only [c3b0, Bool.not_true, Bool.not_false])
  (try simp only [c3b1, Bool.not_true, Bool.not_false])
  go_wp2
  go_ret
  exact ⟨a2_, (a5_ HB.out GE385.out GE386.out)⟩
end Go.Proofs.Ytpkeddplfnannaa.Print
