-- Printed by wip/myprint.py over the kit's print, in this session's own call.
import Derived.Test.YtepbkhgffjinjaaPrint7
namespace Go.Proofs.Ytepbkhgffjinjaa.Print
open Go.RowKit Go.Proofs.YtepbkhgffjinjaaW.PrintWords Go.Proofs.YtepbkhgffjinjaaW.PrintLast Go.Proofs.YtepbkhgffjinjaaW.PrintMore
attribute [local go_sem] max2_int min2_int max_two min_two max_three min_three max_four min_four   -- for this text's walks alone
set_option maxHeartbeats 8000000
set_option maxRecDepth 100000
set_option linter.unusedVariables false
set_option linter.unusedSimpArgs false

/-! ### impl_SpansBytes: function 12 -/
def impl_SpansBytes.l0 : Nat → List Int → Int → List (S60) → Int → Int → Option (ByteArray)
  | 0, _, _, _, _, _ => none
  | k + 1, x3, x4, x13, x14, x15 => if x15 < x14 then (if 0 ≤ x15 then (if x15 < (x13.length : Int) then ((impl_numBytes.f k (wrap64 (((rd_T60 x13 x15).f0) - x4))).bind fun t324 => (if x3.length + t324.length < 140737488355328 then ((some (x3 ++ t324 : List Int)).bind fun y327 => ((impl_numBytes.f k (wrap64 (((rd_T60 x13 x15).f1) - ((rd_T60 x13 x15).f0)))).bind fun t330 => (if y327.length + t330.length < 140737488355328 then (impl_SpansBytes.l0 k (y327 ++ t330) ((rd_T60 x13 x15).f1) x13 x14 (wrap64 (x15 + 1))) else (none)))) else (none))) else (none)) else (none)) else (if (x3.length : Int) > 8000 then (some (⟨#[]⟩ : ByteArray)) else (some (strOfNums x3)))
def impl_SpansBytes.f (k : Nat) (l0 : List (S60)) : Option (ByteArray) := (impl_SpansRight.f k l0).bind fun t318 => (if t318 = true then ((impl_numBytes.f k (l0.length : Int)).bind fun t319 => (impl_SpansBytes.l0 k t319 0 l0 (l0.length : Int) 0)) else (some (⟨#[]⟩ : ByteArray)))
theorem impl_SpansBytes.mono_l : ∀ k, (∀ y0 y1 y2 y3 y4, LeO (impl_SpansBytes.l0 k y0 y1 y2 y3 y4) (impl_SpansBytes.l0 (k + 1) y0 y1 y2 y3 y4))
  | 0 => fun _ _ _ _ _ r h => by simp [impl_SpansBytes.l0] at h
  | k + 1 => by
    have ih0 := impl_SpansBytes.mono_l k
    · intro y0 y1 y2 y3 y4
      unfold impl_SpansBytes.l0
      repeat' first | (with_reducible exact ih0 _ _ _ _ _) | (with_reducible exact impl_SpansRight.mono _ _) | (with_reducible exact impl_numBytes.mono _ _) | (with_reducible exact LeO.refl _) | (with_reducible exact LeO.none _) | (with_reducible refine LeO.ite ?_ ?_) | (with_reducible refine LeO.bind ?_ (fun _ => ?_)) | exact ih0 _ _ _ _ _ | exact impl_SpansRight.mono _ _ | exact impl_numBytes.mono _ _ | exact LeO.none _ | refine LeO.ite ?_ ?_ | refine LeO.bind ?_ (fun _ => ?_)
theorem impl_SpansBytes.mono : ∀ a0 k, LeO (impl_SpansBytes.f k a0) (impl_SpansBytes.f (k + 1) a0) := by
  intro a0 k
  have ih0 := impl_SpansBytes.mono_l k
  unfold impl_SpansBytes.f
  repeat' first | (with_reducible exact ih0 _ _ _ _ _) | (with_reducible exact impl_SpansRight.mono _ _) | (with_reducible exact impl_numBytes.mono _ _) | (with_reducible exact LeO.refl _) | (with_reducible exact LeO.none _) | (with_reducible refine LeO.ite ?_ ?_) | (with_reducible refine LeO.bind ?_ (fun _ => ?_)) | exact ih0 _ _ _ _ _ | exact impl_SpansRight.mono _ _ | exact impl_numBytes.mono _ _ | exact LeO.none _ | refine LeO.ite ?_ ?_ | refine LeO.bind ?_ (fun _ => ?_)
def impl_SpansBytes.T7 : Bool × List (List Nat × List Nat) := (true, [([], []), ([], []), ([1], [1]), ([], []), ([2, 3], [2, 3]), ([4], [4]), ([0, 5, 5], [0, 5]), ([], []), ([7], [7]), ([], []), ([9], [9]), ([8, 10], [8, 10]), ([11, 6], [11]), ([6, 12, 12], [6, 12]), ([13, 13, 0, 1, 2, 3, 4, 5, 6, 7, 8, 9, 10, 11, 12, 13], [0, 13])])
def impl_SpansBytes.B7 : List Nat := [0, 0, 2, 0, 14, 30, 63, 0, 128, 0, 512, 1920, 4095, 8191, 16383]
theorem impl_SpansBytes.tab7 : rtab .any (opsOf Try.f12 7) = impl_SpansBytes.T7 := by kernel_rfl
theorem impl_SpansBytes.bits7 : waitsOk impl_SpansBytes.T7.2 impl_SpansBytes.B7 = true := by kernel_rfl
theorem impl_SpansBytes.calls (k : Nat) (A0 : Option Addr) (c0 : Nat) (l0 : List (S60)) (r : ByteArray) (w : World) (hr0 : Kd.C k60 w A0 l0.length l0) (hc0 : l0.length ≤ c0) (h : impl_SpansBytes.f k l0 = some r) :
    Calls Try.prog 12 #[.slice A0 l0.length c0] w fun e w' => e = .returned (.string r) ∧ Below w.heap.size w w' := by
 have hu60 := Try.underlying60; have HR0 := Aside0.mk hr0; have HC0 := Aside0.mk hc0; clear hr0 hc0; have HB := Aside0.mk (Below.refl w.heap.size w); have H : ((impl_SpansRight.f k l0).bind fun t318 => (if t318 = true then ((impl_numBytes.f k (l0.length : Int)).bind fun t319 => (impl_SpansBytes.l0 k t319 0 l0 (l0.length : Int) 0)) else (some (⟨#[]⟩ : ByteArray)))) = some r := h; clear h; replace H := Option.bind_eq_some_iff.mp H; obtain ⟨t318, A20, H⟩ := H; have A2 := Aside0.mk A20; clear A20; by_cases c3 : t318 = true
 ·
  subst c3; rw [if_pos rfl] at H; replace H := Option.bind_eq_some_iff.mp H; obtain ⟨t319, A40, H⟩ := H; have A4 := Aside0.mk A40; clear A40; have H' := Aside0.mk H; clear H; go_enter Try.func12, Try.ntmps12; go_wp2_with (first | ((with_reducible refine gate_callee (f := 24) rfl ?_); refine gl_ (some 8) Try.func24 #[.slice A0 l0.length c0] ?_; (with_reducible refine (impl_SpansRight.calls k _ _ l0 true _ ?side1 HC0.out A2.out).mono ?_); (case side1 => repeat (first | exact HR0.out | (with_reducible refine Kd.C_alloc ?_ _) | (with_reducible refine Kd.C_drewN ?_ _) | (with_reducible refine Kd.C_drew ?_))); rintro e w5 ⟨rfl, hb⟩; refine ⟨_, rfl, ?_⟩; replace HB := Aside0.mk (below_step HB.out hb); (try clear hb); (try clear hb2); (try clear hk); (try clear hi)) | ((with_reducible refine gate_callee (f := 49) rfl ?_); refine gl_ (some 12) Try.func49 #[.int .i64 (l0.length : Int)] ?_; (with_reducible refine (impl_numBytes.calls k (l0.length : Int) t319 _ A4.out).mono ?_); rintro e w6 ⟨v320, rfl, ho0, hb⟩; refine ⟨_, rfl, ?_⟩; have HO321 := Aside0.mk (Kd.R_lower ho0 (below_size HB.out)); replace HB := Aside0.mk (below_step HB.out hb); (try clear hb); (try clear hb2); (try clear hk); (try clear hi); (try clear ho0)))
  go_loopg [3, 4, 15] k (fun kq v3 v4 v15 w' => ∃ (x3_1 : List Int) (x4_1 : Int) (x15_1 : Int), v4 = .int .i64 x4_1 ∧ v15 = .int .i64 x15_1 ∧ Aside0 (impl_SpansBytes.l0 kq x3_1 x4_1 l0 (l0.length : Int) x15_1 = some r) ∧ Aside0 (kq ≤ k) ∧ Aside0 (Kd.R (Kd.int .u8) 5 w' w.heap.size (fun _ => True) v3 x3_1) ∧ Aside0 (Below w.heap.size w w'))
  case atStart => exact ⟨(t319), (0), (0), (by first | rfl | (simp; done) | (simp [*]; done)), (by first | rfl | (simp; done) | (simp [*]; done)), H', ⟨Nat.le_refl _⟩, ⟨(a2_ HO321.out)⟩, ⟨(a1_ HB.out)⟩⟩
  case round =>
   clear H'; (try clear c1); (try clear c2); (try clear p2); (try clear c3); (try clear c4); obtain ⟨x3_1, x4_1, x15_1, rfl, rfl, HA, HK1, HO_3, HB⟩ := hrel
   cases gk with
   | zero => exact absurd HA.out (by simp [impl_SpansBytes.l0])
   | succ k1 =>
    have H := HA.out; clear HA; simp only [impl_SpansBytes.l0] at H; by_cases c7 : x15_1 < (l0.length : Int)
    ·
     rw [if_pos c7] at H; have c7b0 : decide (x15_1 < (l0.length : Int)) = true := decide_eq_true c7; clear c7; by_cases c8 : 0 ≤ x15_1
     ·
      rw [if_pos c8] at H; have c8b0 : decide (0 ≤ x15_1) = true := decide_eq_true c8; clear c8; by_cases c9 : x15_1 < (l0.length : Int)
      ·
       rw [if_pos c9] at H; have c9b0 : decide (x15_1 < (l0.length : Int)) = true := decide_eq_true c9; clear c9; replace H := Option.bind_eq_some_iff.mp H; obtain ⟨t324, A100, H⟩ := H; have A10 := Aside0.mk A100; clear A100; by_cases c11 : x3_1.length + t324.length < 140737488355328
       ·
        rw [if_pos c11] at H; have LMc11 := Aside0.mk c11; clear c11; obtain ⟨y327, hy327⟩ : ∃ y_ : List Int, y_ = (x3_1 ++ t324) := ⟨_, rfl⟩; replace H : ((impl_numBytes.f k1 (wrap64 (((rd_T60 l0 x15_1).f1) - ((rd_T60 l0 x15_1).f0)))).bind fun t330 => (if y327.length + t330.length < 140737488355328 then (impl_SpansBytes.l0 k1 (y327 ++ t330) ((rd_T60 l0 x15_1).f1) l0 (l0.length : Int) (wrap64 (x15_1 + 1))) else (none))) = some r := by first | (rw [hy327]; exact H) | exact H
        have Ny327 := Aside0.mk hy327; clear hy327; replace H := Option.bind_eq_some_iff.mp H; obtain ⟨t330, A120, H⟩ := H; have A12 := Aside0.mk A120; clear A120; by_cases c13 : y327.length + t330.length < 140737488355328
        ·
         rw [if_pos c13] at H; have LMc13 := Aside0.mk c13; clear c13; obtain ⟨y333, hy333⟩ : ∃ y_ : List Int, y_ = (y327 ++ t330) := ⟨_, rfl⟩; replace H : (impl_SpansBytes.l0 k1 y333 ((rd_T60 l0 x15_1).f1) l0 (l0.length : Int) (wrap64 (x15_1 + 1))) = some r := by first | (rw [hy333]; exact H) | exact H
         have Ny333 := Aside0.mk hy333; clear hy333; have H' := Aside0.mk H; clear H; have p322 : 0 ≤ (x15_1 : Int) := d_; have q322 : x15_1 < (l0.length : Int) := d_; obtain ⟨ad322, e322, hx322_0, hx322_1⟩ := at_T60 (Kd.C_below HR0.out HB.out) x15_1 p322 q322; cases e322; replace p322 := eq_true p322; replace q322 := eq_true q322; try go_wp2_with (first | ((with_reducible refine gate_dst (N := 6) rfl ?_); refine be_ 6 #[.int .i64 0, .int .i64 0] 60 ?_; intro gb323 hg w14 hbox hb; replace HO_3 := Aside0.mk (Kd.R_below HO_3.out hb); have BK323 := Aside0.mk (hbox); have GW323 := Aside0.mk ((by rw [hg]; exact (below_size HB.out) : w.heap.size ≤ gb323)); replace HB := Aside0.mk (below_step HB.out hb); have GE323 := GW323; clear hb hbox hg; obtain ⟨⟨hcz15_0, hcz15_1⟩, hfz15_0, hfz15_1⟩ := cells_2 BK323.out))
         have n0_ : Aside0 (Kd.R (Kd.int .u8) 5 ((w14.setCell ⟨gb323, 0, none⟩ (.int .i64 ((rd_T60 l0 x15_1).f0))).setCell ⟨gb323, 1, none⟩ (.int .i64 ((rd_T60 l0 x15_1).f1))) w.heap.size (fun _ => True) u3 x3_1) := ⟨by (with_reducible repeat (first | apply Kd.R_alloc | apply Kd.R_drewN | apply Kd.R_drew)); exact Kd.R_mono (Kd.R_far (p := ⟨gb323, 1, none⟩) (Kd.R_far (p := ⟨gb323, 0, none⟩) (Kd.R_types HO_3.out BK323.out (by decide)) (fun _ hk => hk.2) (.int .i64 ((rd_T60 l0 x15_1).f0))) (fun _ hk => hk.2) (.int .i64 ((rd_T60 l0 x15_1).f1))) (fun _ hk => trivial)⟩; have n1_ : Aside0 (((w14.setCell ⟨gb323, 0, none⟩ (.int .i64 ((rd_T60 l0 x15_1).f0))).setCell ⟨gb323, 1, none⟩ (.int .i64 ((rd_T60 l0 x15_1).f1))).heap[gb323]? = some (.cells #[.int .i64 ((rd_T60 l0 x15_1).f0), .int .i64 ((rd_T60 l0 x15_1).f1)] 60 (0, 0))) := ⟨by refine bp2_ (c0 := .int .i64 0) (c1 := .int .i64 0) ?_; exact BK323.out⟩; have n2_ : Aside0 (Below w.heap.size w ((w14.setCell ⟨gb323, 0, none⟩ (.int .i64 ((rd_T60 l0 x15_1).f0))).setCell ⟨gb323, 1, none⟩ (.int .i64 ((rd_T60 l0 x15_1).f1)))) := ⟨(a7_ HB.out GE323.out)⟩; (try clear HO_3); (try clear BK323); (try clear HB); generalize ((w14.setCell ⟨gb323, 0, none⟩ (.int .i64 ((rd_T60 l0 x15_1).f0))).setCell ⟨gb323, 1, none⟩ (.int .i64 ((rd_T60 l0 x15_1).f1))) = w16 at n0_ n1_ n2_ ⊢; have HO_3 := n0_; have BK323 := n1_; have HB := n2_; clear n0_ n1_ n2_; have n0_ := Aside0.mk (Kd.R_drew HO_3.out); have n1_ := Aside0.mk (blk_drew BK323.out); have n2_ := Aside0.mk (below_drew1 HB.out)
         clear HO_3; clear BK323; clear HB; have HO_3 := n0_; have BK323 := n1_; have HB := n2_; clear n0_ n1_ n2_; refine start_ (n := 15) (S := fun w' => w'.cell? ⟨gb323, 0, none⟩ = some (.int .i64 ((rd_T60 l0 x15_1).f0)) ∧ w'.cell? ⟨gb323, 1, none⟩ = some (.int .i64 ((rd_T60 l0 x15_1).f1))) (ds := []) #[false, false, false, false, false, false, false, false, false, false, false, false, false, false, false] (by kernel_rfl) rfl rfl ⟨bc_ BK323.out 0, bc_ BK323.out 1⟩ (fun hHeld => ?_); refine with_tabW impl_SpansBytes.tab7 impl_SpansBytes.bits7 (fun HT_ HW_ => ?_); generalize w16.drew = w17 at HO_3 BK323 HB hHeld ⊢; refine p_ 0 (some 19) HT_.out (bm 15 1) ?_; refine p_ 1 (some 20) HT_.out (bm 15 3) ?_; refine p_ 3 (some 22) HT_.out (bm 15 11) ?_; refine p_ 7 (some 26) HT_.out (bm 15 139) ?_; refine p_ 9 (some 28) HT_.out (bm 15 651) ?_; refine t_ 2 (some 21) (bm 15 655) (take_ofW HT_.out HW_.out (by kernel_rfl)) hHeld ?_; refine p_ 4 (some 23) HT_.out (bm 15 671) ?_; refine t_ 8 (some 27) (bm 15 927) (take_ofW HT_.out HW_.out (by kernel_rfl)) hHeld ?_; refine t_ 10 (some 29) (bm 15 1951) (take_ofW HT_.out HW_.out (by kernel_rfl)) hHeld ?_; refine p_ 11 (some 30) HT_.out (bm 15 3999) ?_; refine one_ (i := 5) (N := some 24) (bm 15 4031) rfl rfl (one_of HT_.out (by kernel_rfl)) (by decide) (fun K hK => ?_); refine gs_ Try.func49 #[.int .i64 (wrap64 (((rd_T60 l0 x15_1).f0) - x4_1))] ?_; with_reducible refine (impl_numBytes.calls k1 (wrap64 (((rd_T60 l0 x15_1).f0) - x4_1)) t324 _ A10.out).mono ?_
         rintro e w18 ⟨v325, rfl, ho0, hb⟩; refine ⟨_, rfl, ?_⟩; have HO326 := Aside0.mk (Kd.R_lower (Kd.R_new' ho0 (Kd.R_lt HO_3.out)) (below_size HB.out)); replace HO_3 := Aside0.mk (Kd.R_elder' HO_3.out (Kd.R_base ho0) hb); replace BK323 := Aside0.mk (blk_below BK323.out hb); replace HB := Aside0.mk (below_step HB.out hb); (try clear hb); (try clear hb2); (try clear hk); (try clear hi); (try clear ho0); obtain ⟨Ao20, co20, eo20⟩ := Kd.R_slice HO326.out; (first | subst eo20 | (injection eo20 with f1_ f2_ f3_; have f4_ := f1_.symm; have f5_ := f3_.symm; clear f1_ f2_ f3_; subst f4_; subst f5_))
         refine hK.out _ _ ⟨bc_ BK323.out 0, bc_ BK323.out 1⟩ (fun hHeld => ?_); clear hK K; refine n_ (some 24) ?_; refine one_ (i := 6) (N := some 25) (bm 15 4095) rfl rfl (one_of HT_.out (by kernel_rfl)) (by decide) (fun K hK => ?_); refine Kd.R_append_rows_step (Kd.int .u8) (w0 := w) w.heap.size (by rfl) (.tmp 19) (.tmp 24) 22 5 (.int .u8 0) 1 rfl Try.underlying22 info5 rfl (by decide) (by omega) u3 x3_1 t324 _ _ _ (fun k_ => some k_ ≠ (.slice Ao20 t324.length co20 : Value).ownBlock) (fun _ => False) rfl rfl ?aO ?aR (fun _ _ h => h) (fun _ h => h.elim) ?aF ?aB ?aS ?aL ?_; (case aR => exact (rr_ HO326.out))
         (case aB => exact HB.out)
         (case aF => exact (fun k_ hk => Kd.fresh' (Kd.R_lt HO326.out) k_ hk))
         (case aO => exact (Kd.R_mono HO_3.out (fun _ hk => hk.2)))
         (case aS => exact (below_size HB.out))
         (case aL => have := LMc11.out; omega)
         intro v328 w19 ho hb hg hat; rw [← Ny327.out] at ho; have n0_ := Aside0.mk (blk_grown BK323.out hg (Kd.R_ne HO_3.out BK323.out (by decide))); have n1_ := Aside0.mk (Kd.R_after (ok := (fun _ => True)) HO326.out hg hat); have n2_ := Aside0.mk (hb); have n3_ := Aside0.mk (ho); clear BK323; clear HO326; clear HB; clear HO_3; have BK323 := n0_; have HO326 := n1_; have HB := n2_; have HO329 := n3_; clear n0_ n1_ n2_ n3_; clear ho hb hg hat; refine hK.out _ _ ⟨bc_ BK323.out 0, bc_ BK323.out 1⟩ (fun hHeld => ?_); clear hK K; refine n_ (some 25) ?_; refine one_ (i := 12) (N := some 31) (bm 15 8191) rfl rfl (one_of HT_.out (by kernel_rfl)) (by decide) (fun K hK => ?_); refine gs_ Try.func49 #[.int .i64 (wrap64 (((rd_T60 l0 x15_1).f1) - ((rd_T60 l0 x15_1).f0)))] ?_; with_reducible refine (impl_numBytes.calls k1 (wrap64 (((rd_T60 l0 x15_1).f1) - ((rd_T60 l0 x15_1).f0))) t330 _ A12.out).mono ?_
         rintro e w21 ⟨v331, rfl, ho0, hb⟩; refine ⟨_, rfl, ?_⟩; have HO332 := Aside0.mk (Kd.R_lower (Kd.R_new' (Kd.R_new' ho0 (Kd.R_lt HO326.out)) (Kd.R_lt HO329.out)) (below_size HB.out)); replace HO326 := Aside0.mk (Kd.R_elder' HO326.out (Kd.R_base ho0) hb); replace HO329 := Aside0.mk (Kd.R_elder' HO329.out (Kd.R_base ho0) hb); replace BK323 := Aside0.mk (blk_below BK323.out hb); replace HB := Aside0.mk (below_step HB.out hb); (try clear hb); (try clear hb2); (try clear hk); (try clear hi); (try clear ho0); obtain ⟨Ao23, co23, eo23⟩ := Kd.R_slice HO332.out; (first | subst eo23 | (injection eo23 with f1_ f2_ f3_; have f4_ := f1_.symm; have f5_ := f3_.symm; clear f1_ f2_ f3_; subst f4_; subst f5_))
         refine hK.out _ _ ⟨bc_ BK323.out 0, bc_ BK323.out 1⟩ (fun hHeld => ?_); clear hK K; refine n_ (some 31) ?_; refine one_ (i := 13) (N := some 32) (bm 15 16383) rfl rfl (one_of HT_.out (by kernel_rfl)) (by decide) (fun K hK => ?_); refine Kd.R_append_rows_step (Kd.int .u8) (w0 := w) w.heap.size (by rfl) (.tmp 25) (.tmp 31) 22 5 (.int .u8 0) 1 rfl Try.underlying22 info5 rfl (by decide) (by omega) v328 y327 t330 _ _ _ (fun k_ => some k_ ≠ (.slice Ao20 t324.length co20 : Value).ownBlock ∧ some k_ ≠ (.slice Ao23 t330.length co23 : Value).ownBlock) (fun _ => False) rfl rfl ?aO ?aR (fun _ _ h => h) (fun _ h => h.elim) ?aF ?aB ?aS ?aL ?_; (case aR => exact (rr_ HO332.out))
         (case aB => exact HB.out)
         (case aF => exact (fun k_ hk => ⟨Kd.fresh' (Kd.R_lt HO326.out) k_ hk, Kd.fresh' (Kd.R_lt HO332.out) k_ hk⟩))
         (case aO => exact HO329.out)
         (case aS => exact (below_size HB.out))
         (case aL => have := LMc13.out; omega)
         intro v334 w22 ho hb hg hat; rw [← Ny333.out] at ho; have n0_ := Aside0.mk (blk_grown BK323.out hg (Kd.R_ne HO329.out BK323.out (by decide))); have n1_ := Aside0.mk (Kd.R_after (ok := (fun k_ => some k_ ≠ (.slice Ao23 t330.length co23 : Value).ownBlock)) (Kd.R_mono HO326.out (fun _ hk => ⟨hk.2, hk.1.2⟩)) hg hat); have n2_ := Aside0.mk (Kd.R_after (ok := (fun k_ => some k_ ≠ (.slice Ao20 t324.length co20 : Value).ownBlock)) (Kd.R_mono HO332.out (fun _ hk => ⟨hk.1.2, hk.2⟩)) hg hat); have n3_ := Aside0.mk (hb); have n4_ := Aside0.mk (ho); clear BK323; clear HO326; clear HO332; clear HB; clear HO329; have BK323 := n0_; have HO326 := n1_; have HO332 := n2_; have HB := n3_; have HO335 := n4_; clear n0_ n1_ n2_ n3_ n4_; clear ho hb hg hat; refine hK.out _ _ ⟨bc_ BK323.out 0, bc_ BK323.out 1⟩ (fun hHeld => ?_); clear hK K; refine n_ (some 32) ?_; refine p_ 14 (some 3) HT_.out (bm 15 32767) ?_; refine done_ (done_of HT_.out (by kernel_rfl)) ?_; obtain ⟨⟨hcz24_0, hcz24_1⟩, hfz24_0, hfz24_1⟩ := cells_2 BK323.out; try go_wp2
         go_roundg k1
         case measure => have := HK1.out; omega
         case rel => exact ⟨(y333), ((rd_T60 l0 x15_1).f1), (wrap64 (x15_1 + 1)), (by first | rfl | (simp; done) | (simp [*]; done)), (by first | rfl | (simp; done) | (simp [*]; done)), H', ⟨by have := HK1.out; omega⟩, ⟨by (with_reducible repeat (first | apply Kd.R_alloc | apply Kd.R_drewN | apply Kd.R_drew)); exact Kd.R_mono HO335.out (fun _ hk => trivial)⟩, ⟨(a7_ HB.out GE323.out)⟩⟩
        ·
         rw [if_neg c13] at H; exact absurd H (by simp)
       ·
        rw [if_neg c11] at H; exact absurd H (by simp)
      ·
       rw [if_neg c9] at H; exact absurd H (by simp)
     ·
      rw [if_neg c8] at H; exact absurd H (by simp)
    ·
     rw [if_neg c7] at H; have c7b0 : decide (x15_1 < (l0.length : Int)) = false := decide_eq_false c7; clear c7; by_cases c25 : (x3_1.length : Int) > 8000
     ·
      rw [if_pos c25] at H; have c25b0 : decide (8000 < (x3_1.length : Int)) = true := decide_eq_true c25; have c25b1 : decide (8000 < x3_1.length) = true := decide_eq_true (by omega); clear c25; obtain rfl := Option.some.inj H; obtain ⟨Ao26, co26, eo26⟩ := Kd.R_slice HO_3.out; subst eo26; go_wp2
      go_ret
      exact ⟨a3_, (a1_ HB.out)⟩
     ·
      rw [if_neg c25] at H; have c25b0 : decide (8000 < (x3_1.length : Int)) = false := decide_eq_false c25; have c25b1 : decide (8000 < x3_1.length) = false := decide_eq_false (by omega); clear c25; obtain rfl := Option.some.inj H; obtain ⟨Ao27, co27, eo27⟩ := Kd.R_slice HO_3.out; subst eo27; have hcv28 := own_string (P := Try.prog) Try.underlying22 Try.underlying5 Try.underlying9 (Kd.own_of_R HO_3.out); go_wp2
      go_ret
      exact ⟨a3_, (a1_ HB.out)⟩
 ·
  replace c3 := Bool.eq_false_iff.mpr c3; subst c3; rw [if_neg (show ¬ (false = true) by decide)] at H; obtain rfl := Option.some.inj H; go_enter Try.func12, Try.ntmps12; go_wp2_with (first | ((with_reducible refine gate_callee (f := 24) rfl ?_); refine gl_ (some 8) Try.func24 #[.slice A0 l0.length c0] ?_; (with_reducible refine (impl_SpansRight.calls k _ _ l0 false _ ?side1 HC0.out A2.out).mono ?_); (case side1 => repeat (first | exact HR0.out | (with_reducible refine Kd.C_alloc ?_ _) | (with_reducible refine Kd.C_drewN ?_ _) | (with_reducible refine Kd.C_drew ?_))); rintro e w29 ⟨rfl, hb⟩; refine ⟨_, rfl, ?_⟩; replace HB := Aside0.mk (below_step HB.out hb); (try clear hb); (try clear hb2); (try clear hk); (try clear hi)))
  go_ret
  exact ⟨a3_, (a1_ HB.out)⟩

/-! ### spec_l02Is: function 61 -/
def spec_l02Is.f (a0 : Int) (a1 : Int) (a2 : Int) : Option (Bool) := if a0 ≥ a1 then (some (decide (a0 ≤ a2))) else (some false)
theorem spec_l02Is.calls (a0 : Int) (a1 : Int) (a2 : Int) (r : Bool) (w : World) (h : spec_l02Is.f a0 a1 a2 = some r) :
    Calls Try.prog 61 #[.int .i64 a0, .int .i64 a1, .int .i64 a2] w fun e w' => e = .returned (.bool r) ∧ Drawn0 w w' := by
 have H : (if a0 ≥ a1 then (some (decide (a0 ≤ a2))) else (some false)) = some r := h; clear h; by_cases c4 : a0 ≥ a1
 ·
  rw [if_pos c4] at H; have c4b0 : decide (a1 ≤ a0) = true := decide_eq_true c4; clear c4; obtain rfl := Option.some.inj H; go_enter Try.func61, Try.ntmps61; go_wp2
  go_ret
  exact ⟨by first | rfl | (simp; done) | (simp [*]; done), by repeat (first | exact Drawn0.refl _ | apply Drawn0.step)⟩
 ·
  rw [if_neg c4] at H; have c4b0 : decide (a1 ≤ a0) = false := decide_eq_false c4; clear c4; obtain rfl := Option.some.inj H; go_enter Try.func61, Try.ntmps61; go_wp2
  go_ret
  exact ⟨by first | rfl | (simp; done) | (simp [*]; done), by repeat (first | exact Drawn0.refl _ | apply Drawn0.step)⟩

/-! ### spec_l02Id: function 53 -/
def spec_l02Id.f (a0 : Int) : Option (Bool) := (spec_l02Is.f a0 1 1000000).bind fun t336 => (some t336)
theorem spec_l02Id.calls (a0 : Int) (r : Bool) (w : World) (h : spec_l02Id.f a0 = some r) :
    Calls Try.prog 53 #[.int .i64 a0] w fun e w' => e = .returned (.bool r) ∧ Drawn0 w w' := by
 have H : ((spec_l02Is.f a0 1 1000000).bind fun t336 => (some t336)) = some r := h; clear h; replace H := Option.bind_eq_some_iff.mp H; obtain ⟨t336, A20, H⟩ := H; have A2 := Aside0.mk A20; clear A20; obtain rfl := Option.some.inj H; go_enter Try.func53, Try.ntmps53; go_wp2_with (first | ((with_reducible refine gate_callee (f := 61) rfl ?_); refine gl_ (some 4) Try.func61 #[.int .i64 a0, .int .i64 1, .int .i64 1000000] ?_; (with_reducible refine (spec_l02Is.calls a0 1 1000000 t336 _ A2.out).mono ?_); rintro e w' ⟨rfl, ⟨nd, rfl⟩⟩; refine ⟨_, rfl, ?_⟩))
 go_ret
 exact ⟨by first | rfl | (simp; done) | (simp [*]; done), by repeat (first | exact Drawn0.refl _ | apply Drawn0.step)⟩

end Go.Proofs.Ytepbkhgffjinjaa.Print
