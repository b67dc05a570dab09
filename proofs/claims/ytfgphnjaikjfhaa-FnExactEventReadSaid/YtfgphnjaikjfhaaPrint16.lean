-- Printed by wip/myprint.py over the kit's print, in this session's own call.
import Derived.Test.YtfgphnjaikjfhaaPrint0
import Derived.Test.YtfgphnjaikjfhaaPrint9
import Derived.Test.YtfgphnjaikjfhaaPrint10
import Derived.Test.YtfgphnjaikjfhaaPrint12
import Derived.Test.YtfgphnjaikjfhaaPrint15
namespace Go.Proofs.Ytfgphnjaikjfhaa.Print
open Go.RowKit Go.Proofs.YtfgphnjaikjfhaaW.PrintWords Go.Proofs.YtfgphnjaikjfhaaW.PrintLast Go.Proofs.YtfgphnjaikjfhaaW.PrintMore
attribute [local go_sem] max2_int min2_int max_two min_two max_three min_three max_four min_four   -- for this text's walks alone
set_option linter.unusedVariables false
set_option linter.unusedSimpArgs false

/-! ### impl_EventRead: function 6 -/
mutual
def impl_EventRead.j1 : Nat → ByteArray → ByteArray → Int → Bool → Int → Int → Int → Int → Int → Int → ByteArray → List Int → Int → Option (Int × Int × Int × Int × Int × Int × ByteArray × List Int × Int × Int)
  | 0, _, _, _, _, _, _, _, _, _, _, _, _, _ => none
  | k + 1, x0, x331000, x331001, x331002, x336000, x336001, x336002, x336003, x336004, x336005, x336006, x336007, x336008 => (impl_decoder_num.f k x331000 x331001 x331002).bind fun bt371 => (if bt371.2.2.2 = true then (some (0, 0, 0, 0, 0, 0, (⟨#[]⟩ : ByteArray), ([] : List Int), 0, 3)) else ((impl_EventBytes.f k x336000 x336001 x336002 x336003 x336004 x336005 x336006 x336007 bt371.1).bind fun t375 => (if t375.toList = x0.toList then (some (x336000, x336001, x336002, x336003, x336004, x336005, x336006, x336007, bt371.1, 0)) else (some (0, 0, 0, 0, 0, 0, (⟨#[]⟩ : ByteArray), ([] : List Int), 0, 3)))))
def impl_EventRead.l0 : Nat → ByteArray → Int → ByteArray → Int → Bool → Int → Int → Int → Int → Int → Int → ByteArray → List Int → Int → Option (Int × Int × Int × Int × Int × Int × ByteArray × List Int × Int × Int)
  | 0, _, _, _, _, _, _, _, _, _, _, _, _, _, _ => none
  | k + 1, x0, x6, x331000, x331001, x331002, x336000, x336001, x336002, x336003, x336004, x336005, x336006, x336007, x336008 => if x6 > 0 then (if x331002 = true then (impl_EventRead.j1 k x0 x331000 x331001 x331002 x336000 x336001 x336002 x336003 x336004 x336005 x336006 x336007 x336008) else (if (x336007.length : Int) ≤ 4 then ((impl_decoder_num.f k x331000 x331001 x331002).bind fun bt364 => (if x336007.length < 17592186044416 then (impl_EventRead.l0 k x0 (wrap64 (x6 - 1)) bt364.2.1 bt364.2.2.1 bt364.2.2.2 x336000 x336001 x336002 x336003 x336004 x336005 x336006 (x336007 ++ [bt364.1]) x336008) else (none))) else (impl_EventRead.j1 k x0 x331000 x331001 x331002 x336000 x336001 x336002 x336003 x336004 x336005 x336006 x336007 x336008))) else (impl_EventRead.j1 k x0 x331000 x331001 x331002 x336000 x336001 x336002 x336003 x336004 x336005 x336006 x336007 x336008)
end
def impl_EventRead.f (k : Nat) (a0 : ByteArray) : Option (Int × Int × Int × Int × Int × Int × ByteArray × List Int × Int × Int) := (impl_Unseal.f k a0).bind fun bt326 => (if bt326.2.2 = 0 then ((impl_decoder_num.f k bt326.1 0 false).bind fun bt331 => ((impl_decoder_num.f k bt331.2.1 bt331.2.2.1 bt331.2.2.2).bind fun bt336 => ((impl_decoder_num.f k bt336.2.1 bt336.2.2.1 bt336.2.2.2).bind fun bt340 => ((impl_decoder_num.f k bt340.2.1 bt340.2.2.1 bt340.2.2.2).bind fun bt344 => ((impl_decoder_num.f k bt344.2.1 bt344.2.2.1 bt344.2.2.2).bind fun bt348 => ((impl_decoder_num.f k bt348.2.1 bt348.2.2.1 bt348.2.2.2).bind fun bt352 => ((impl_decoder_str.f k bt352.2.1 bt352.2.2.1 bt352.2.2.2).bind fun bt356 => ((impl_decoder_num.f k bt356.2.1 bt356.2.2.1 bt356.2.2.2).bind fun bt360 => (impl_EventRead.l0 k a0 bt360.1 bt360.2.1 bt360.2.2.1 bt360.2.2.2 bt331.1 bt336.1 bt340.1 bt344.1 bt348.1 bt352.1 bt356.1 ([] : List Int) 0))))))))) else (some (0, 0, 0, 0, 0, 0, (⟨#[]⟩ : ByteArray), ([] : List Int), 0, bt326.2.2)))
theorem impl_EventRead.mono_l : ∀ k, (∀ y0 y1 y2 y3 y4 y5 y6 y7 y8 y9 y10 y11 y12, LeO (impl_EventRead.j1 k y0 y1 y2 y3 y4 y5 y6 y7 y8 y9 y10 y11 y12) (impl_EventRead.j1 (k + 1) y0 y1 y2 y3 y4 y5 y6 y7 y8 y9 y10 y11 y12)) ∧ (∀ y0 y1 y2 y3 y4 y5 y6 y7 y8 y9 y10 y11 y12 y13, LeO (impl_EventRead.l0 k y0 y1 y2 y3 y4 y5 y6 y7 y8 y9 y10 y11 y12 y13) (impl_EventRead.l0 (k + 1) y0 y1 y2 y3 y4 y5 y6 y7 y8 y9 y10 y11 y12 y13))
  | 0 => ⟨fun _ _ _ _ _ _ _ _ _ _ _ _ _ r h => by simp [impl_EventRead.j1] at h, fun _ _ _ _ _ _ _ _ _ _ _ _ _ _ r h => by simp [impl_EventRead.l0] at h⟩
  | k + 1 => by
    obtain ⟨ih0, ih1⟩ := impl_EventRead.mono_l k
    refine ⟨?_, ?_⟩
    · intro y0 y1 y2 y3 y4 y5 y6 y7 y8 y9 y10 y11 y12
      unfold impl_EventRead.j1
      repeat' first
      | (with_reducible exact ih0 _ _ _ _ _ _ _ _ _ _ _ _ _)
      | (with_reducible exact ih1 _ _ _ _ _ _ _ _ _ _ _ _ _ _)
      | (with_reducible exact impl_EventBytes.mono _ _ _ _ _ _ _ _ _ _)
      | (with_reducible exact impl_Unseal.mono _ _)
      | (with_reducible exact impl_decoder_num.mono _ _ _ _)
      | (with_reducible exact impl_decoder_str.mono _ _ _ _)
      | (with_reducible exact LeO.refl _)
      | (with_reducible exact LeO.none _)
      | (with_reducible refine LeO.ite ?_ ?_)
      | (with_reducible refine LeO.bind ?_ (fun _ => ?_))
      | exact ih0 _ _ _ _ _ _ _ _ _ _ _ _ _
      | exact ih1 _ _ _ _ _ _ _ _ _ _ _ _ _ _
      | exact impl_EventBytes.mono _ _ _ _ _ _ _ _ _ _
      | exact impl_Unseal.mono _ _
      | exact impl_decoder_num.mono _ _ _ _
      | exact impl_decoder_str.mono _ _ _ _
      | exact LeO.none _
      | refine LeO.ite ?_ ?_
      | refine LeO.bind ?_ (fun _ => ?_)
    · intro y0 y1 y2 y3 y4 y5 y6 y7 y8 y9 y10 y11 y12 y13
      unfold impl_EventRead.l0
      repeat' first
      | (with_reducible exact ih0 _ _ _ _ _ _ _ _ _ _ _ _ _)
      | (with_reducible exact ih1 _ _ _ _ _ _ _ _ _ _ _ _ _ _)
      | (with_reducible exact impl_EventBytes.mono _ _ _ _ _ _ _ _ _ _)
      | (with_reducible exact impl_Unseal.mono _ _)
      | (with_reducible exact impl_decoder_num.mono _ _ _ _)
      | (with_reducible exact impl_decoder_str.mono _ _ _ _)
      | (with_reducible exact LeO.refl _)
      | (with_reducible exact LeO.none _)
      | (with_reducible refine LeO.ite ?_ ?_)
      | (with_reducible refine LeO.bind ?_ (fun _ => ?_))
      | exact ih0 _ _ _ _ _ _ _ _ _ _ _ _ _
      | exact ih1 _ _ _ _ _ _ _ _ _ _ _ _ _ _
      | exact impl_EventBytes.mono _ _ _ _ _ _ _ _ _ _
      | exact impl_Unseal.mono _ _
      | exact impl_decoder_num.mono _ _ _ _
      | exact impl_decoder_str.mono _ _ _ _
      | exact LeO.none _
      | refine LeO.ite ?_ ?_
      | refine LeO.bind ?_ (fun _ => ?_)
theorem impl_EventRead.mono : ∀ a0 k, LeO (impl_EventRead.f k a0) (impl_EventRead.f (k + 1) a0) := by
  intro a0 k
  obtain ⟨ih0, ih1⟩ := impl_EventRead.mono_l k
  unfold impl_EventRead.f
  repeat' first
      | (with_reducible exact ih0 _ _ _ _ _ _ _ _ _ _ _ _ _)
      | (with_reducible exact ih1 _ _ _ _ _ _ _ _ _ _ _ _ _ _)
      | (with_reducible exact impl_EventBytes.mono _ _ _ _ _ _ _ _ _ _)
      | (with_reducible exact impl_Unseal.mono _ _)
      | (with_reducible exact impl_decoder_num.mono _ _ _ _)
      | (with_reducible exact impl_decoder_str.mono _ _ _ _)
      | (with_reducible exact LeO.refl _)
      | (with_reducible exact LeO.none _)
      | (with_reducible refine LeO.ite ?_ ?_)
      | (with_reducible refine LeO.bind ?_ (fun _ => ?_))
      | exact ih0 _ _ _ _ _ _ _ _ _ _ _ _ _
      | exact ih1 _ _ _ _ _ _ _ _ _ _ _ _ _ _
      | exact impl_EventBytes.mono _ _ _ _ _ _ _ _ _ _
      | exact impl_Unseal.mono _ _
      | exact impl_decoder_num.mono _ _ _ _
      | exact impl_decoder_str.mono _ _ _ _
      | exact LeO.none _
      | refine LeO.ite ?_ ?_
      | refine LeO.bind ?_ (fun _ => ?_)
def impl_EventRead.T15 : Bool × List (List Nat × List Nat) := (true, [([], []), ([0], [0]), ([], []), ([2], [2]), ([3], [3]), ([1, 4, 3], [1, 4]), ([0, 1, 2, 3, 4, 5], []), ([6, 5, 5, 0, 1, 2, 3, 4, 5], [5, 6])])
def impl_EventRead.B15 : List Nat := [0, 1, 0, 4, 12, 31, 63, 127]
theorem impl_EventRead.tab15 : rtab .any (opsOf Try.f6 15) = impl_EventRead.T15 := by kernel_rfl
theorem impl_EventRead.bits15 : waitsOk impl_EventRead.T15.2 impl_EventRead.B15 = true := by kernel_rfl
set_option maxHeartbeats 8000000 in
set_option maxRecDepth 100000 in
theorem impl_EventRead.calls (k : Nat) (a0 : ByteArray) (r1 : Int) (r2 : Int) (r3 : Int) (r4 : Int) (r5 : Int) (r6 : Int) (r7 : ByteArray) (r8 : List Int) (r9 : Int) (r10 : Int) (w : World) (h : impl_EventRead.f k a0 = some (r1, r2, r3, r4, r5, r6, r7, r8, r9, r10)) :
    Calls Try.prog 6 #[.string a0] w fun e w' => ∃ v7_ : Value, e = .returned (.agg #[.int .i64 r1, .int .i64 r2, .int .i64 r3, .int .i64 r4, .int .i64 r5, .int .i64 r6, .string r7, v7_, .int .i64 r9, .int .i64 r10]) ∧ Kd.R (Kd.int .i64) 2 w' w.heap.size (fun _ => True) v7_ r8 ∧ Below w.heap.size w w' := by
 have hu26 := Try.underlying26
 have hu40 := Try.underlying40
 have hu50 := Try.underlying50
 have hu24 := Try.underlying24
 have HB := Aside0.mk (Below.refl w.heap.size w)
 have H : ((impl_Unseal.f k a0).bind fun bt326 => (if bt326.2.2 = 0 then ((impl_decoder_num.f k bt326.1 0 false).bind fun bt331 => ((impl_decoder_num.f k bt331.2.1 bt331.2.2.1 bt331.2.2.2).bind fun bt336 => ((impl_decoder_num.f k bt336.2.1 bt336.2.2.1 bt336.2.2.2).bind fun bt340 => ((impl_decoder_num.f k bt340.2.1 bt340.2.2.1 bt340.2.2.2).bind fun bt344 => ((impl_decoder_num.f k bt344.2.1 bt344.2.2.1 bt344.2.2.2).bind fun bt348 => ((impl_decoder_num.f k bt348.2.1 bt348.2.2.1 bt348.2.2.2).bind fun bt352 => ((impl_decoder_str.f k bt352.2.1 bt352.2.2.1 bt352.2.2.2).bind fun bt356 => ((impl_decoder_num.f k bt356.2.1 bt356.2.2.1 bt356.2.2.2).bind fun bt360 => (impl_EventRead.l0 k a0 bt360.1 bt360.2.1 bt360.2.2.1 bt360.2.2.2 bt331.1 bt336.1 bt340.1 bt344.1 bt348.1 bt352.1 bt356.1 ([] : List Int) 0))))))))) else (some (0, 0, 0, 0, 0, 0, (⟨#[]⟩ : ByteArray), ([] : List Int), 0, bt326.2.2)))) = some (r1, r2, r3, r4, r5, r6, r7, r8, r9, r10) := h
 clear h
 replace H := Option.bind_eq_some_iff.mp H
 obtain ⟨⟨t326, t327, t328⟩, A20, H⟩ := H
 replace H : (if t328 = 0 then ((impl_decoder_num.f k t326 0 false).bind fun bt331 => ((impl_decoder_num.f k bt331.2.1 bt331.2.2.1 bt331.2.2.2).bind fun bt336 => ((impl_decoder_num.f k bt336.2.1 bt336.2.2.1 bt336.2.2.2).bind fun bt340 => ((impl_decoder_num.f k bt340.2.1 bt340.2.2.1 bt340.2.2.2).bind fun bt344 => ((impl_decoder_num.f k bt344.2.1 bt344.2.2.1 bt344.2.2.2).bind fun bt348 => ((impl_decoder_num.f k bt348.2.1 bt348.2.2.1 bt348.2.2.2).bind fun bt352 => ((impl_decoder_str.f k bt352.2.1 bt352.2.2.1 bt352.2.2.2).bind fun bt356 => ((impl_decoder_num.f k bt356.2.1 bt356.2.2.1 bt356.2.2.2).bind fun bt360 => (impl_EventRead.l0 k a0 bt360.1 bt360.2.1 bt360.2.2.1 bt360.2.2.2 bt331.1 bt336.1 bt340.1 bt344.1 bt348.1 bt352.1 bt356.1 ([] : List Int) 0))))))))) else (some (0, 0, 0, 0, 0, 0, (⟨#[]⟩ : ByteArray), ([] : List Int), 0, t328))) = some (r1, r2, r3, r4, r5, r6, r7, r8, r9, r10) := H
 have A2 := Aside0.mk A20
 clear A20
 go_enter Try.func6, Try.ntmps6
 by_cases c3 : t328 = 0
 ·
  rw [if_pos c3] at H
  have c3b0 : (t328 == 0) = true := beq_iff_eq.mpr c3
  have c3b1 : (t328 != 0) = false := bne_eq_false_iff_eq.mpr c3
  clear c3
  replace H := Option.bind_eq_some_iff.mp H
  obtain ⟨⟨t331, t332, t333, t334⟩, A40, H⟩ := H
  replace H : ((impl_decoder_num.f k t332 t333 t334).bind fun bt336 => ((impl_decoder_num.f k bt336.2.1 bt336.2.2.1 bt336.2.2.2).bind fun bt340 => ((impl_decoder_num.f k bt340.2.1 bt340.2.2.1 bt340.2.2.2).bind fun bt344 => ((impl_decoder_num.f k bt344.2.1 bt344.2.2.1 bt344.2.2.2).bind fun bt348 => ((impl_decoder_num.f k bt348.2.1 bt348.2.2.1 bt348.2.2.2).bind fun bt352 => ((impl_decoder_str.f k bt352.2.1 bt352.2.2.1 bt352.2.2.2).bind fun bt356 => ((impl_decoder_num.f k bt356.2.1 bt356.2.2.1 bt356.2.2.2).bind fun bt360 => (impl_EventRead.l0 k a0 bt360.1 bt360.2.1 bt360.2.2.1 bt360.2.2.2 t331 bt336.1 bt340.1 bt344.1 bt348.1 bt352.1 bt356.1 ([] : List Int) 0)))))))) = some (r1, r2, r3, r4, r5, r6, r7, r8, r9, r10) := H
  have A4 := Aside0.mk A40
  clear A40
  replace H := Option.bind_eq_some_iff.mp H
  obtain ⟨⟨t336, t337, t338, t339⟩, A50, H⟩ := H
  replace H : ((impl_decoder_num.f k t337 t338 t339).bind fun bt340 => ((impl_decoder_num.f k bt340.2.1 bt340.2.2.1 bt340.2.2.2).bind fun bt344 => ((impl_decoder_num.f k bt344.2.1 bt344.2.2.1 bt344.2.2.2).bind fun bt348 => ((impl_decoder_num.f k bt348.2.1 bt348.2.2.1 bt348.2.2.2).bind fun bt352 => ((impl_decoder_str.f k bt352.2.1 bt352.2.2.1 bt352.2.2.2).bind fun bt356 => ((impl_decoder_num.f k bt356.2.1 bt356.2.2.1 bt356.2.2.2).bind fun bt360 => (impl_EventRead.l0 k a0 bt360.1 bt360.2.1 bt360.2.2.1 bt360.2.2.2 t331 t336 bt340.1 bt344.1 bt348.1 bt352.1 bt356.1 ([] : List Int) 0))))))) = some (r1, r2, r3, r4, r5, r6, r7, r8, r9, r10) := H
  have A5 := Aside0.mk A50
  clear A50
  replace H := Option.bind_eq_some_iff.mp H
  obtain ⟨⟨t340, t341, t342, t343⟩, A60, H⟩ := H
  replace H : ((impl_decoder_num.f k t341 t342 t343).bind fun bt344 => ((impl_decoder_num.f k bt344.2.1 bt344.2.2.1 bt344.2.2.2).bind fun bt348 => ((impl_decoder_num.f k bt348.2.1 bt348.2.2.1 bt348.2.2.2).bind fun bt352 => ((impl_decoder_str.f k bt352.2.1 bt352.2.2.1 bt352.2.2.2).bind fun bt356 => ((impl_decoder_num.f k bt356.2.1 bt356.2.2.1 bt356.2.2.2).bind fun bt360 => (impl_EventRead.l0 k a0 bt360.1 bt360.2.1 bt360.2.2.1 bt360.2.2.2 t331 t336 t340 bt344.1 bt348.1 bt352.1 bt356.1 ([] : List Int) 0)))))) = some (r1, r2, r3, r4, r5, r6, r7, r8, r9, r10) := H
  have A6 := Aside0.mk A60
  clear A60
  replace H := Option.bind_eq_some_iff.mp H
  obtain ⟨⟨t344, t345, t346, t347⟩, A70, H⟩ := H
  replace H : ((impl_decoder_num.f k t345 t346 t347).bind fun bt348 => ((impl_decoder_num.f k bt348.2.1 bt348.2.2.1 bt348.2.2.2).bind fun bt352 => ((impl_decoder_str.f k bt352.2.1 bt352.2.2.1 bt352.2.2.2).bind fun bt356 => ((impl_decoder_num.f k bt356.2.1 bt356.2.2.1 bt356.2.2.2).bind fun bt360 => (impl_EventRead.l0 k a0 bt360.1 bt360.2.1 bt360.2.2.1 bt360.2.2.2 t331 t336 t340 t344 bt348.1 bt352.1 bt356.1 ([] : List Int) 0))))) = some (r1, r2, r3, r4, r5, r6, r7, r8, r9, r10) := H
  have A7 := Aside0.mk A70
  clear A70
  replace H := Option.bind_eq_some_iff.mp H
  obtain ⟨⟨t348, t349, t350, t351⟩, A80, H⟩ := H
  replace H : ((impl_decoder_num.f k t349 t350 t351).bind fun bt352 => ((impl_decoder_str.f k bt352.2.1 bt352.2.2.1 bt352.2.2.2).bind fun bt356 => ((impl_decoder_num.f k bt356.2.1 bt356.2.2.1 bt356.2.2.2).bind fun bt360 => (impl_EventRead.l0 k a0 bt360.1 bt360.2.1 bt360.2.2.1 bt360.2.2.2 t331 t336 t340 t344 t348 bt352.1 bt356.1 ([] : List Int) 0)))) = some (r1, r2, r3, r4, r5, r6, r7, r8, r9, r10) := H
  have A8 := Aside0.mk A80
  clear A80
  replace H := Option.bind_eq_some_iff.mp H
  obtain ⟨⟨t352, t353, t354, t355⟩, A90, H⟩ := H
  replace H : ((impl_decoder_str.f k t353 t354 t355).bind fun bt356 => ((impl_decoder_num.f k bt356.2.1 bt356.2.2.1 bt356.2.2.2).bind fun bt360 => (impl_EventRead.l0 k a0 bt360.1 bt360.2.1 bt360.2.2.1 bt360.2.2.2 t331 t336 t340 t344 t348 t352 bt356.1 ([] : List Int) 0))) = some (r1, r2, r3, r4, r5, r6, r7, r8, r9, r10) := H
  have A9 := Aside0.mk A90
  clear A90
  replace H := Option.bind_eq_some_iff.mp H
  obtain ⟨⟨t356, t357, t358, t359⟩, A100, H⟩ := H
  replace H : ((impl_decoder_num.f k t357 t358 t359).bind fun bt360 => (impl_EventRead.l0 k a0 bt360.1 bt360.2.1 bt360.2.2.1 bt360.2.2.2 t331 t336 t340 t344 t348 t352 t356 ([] : List Int) 0)) = some (r1, r2, r3, r4, r5, r6, r7, r8, r9, r10) := H
  have A10 := Aside0.mk A100
  clear A100
  replace H := Option.bind_eq_some_iff.mp H
  obtain ⟨⟨t360, t361, t362, t363⟩, A110, H⟩ := H
  replace H : (impl_EventRead.l0 k a0 t360 t361 t362 t363 t331 t336 t340 t344 t348 t352 t356 ([] : List Int) 0) = some (r1, r2, r3, r4, r5, r6, r7, r8, r9, r10) := H
  have A11 := Aside0.mk A110
  clear A110
  have HC12 := Aside0.mk H
  clear H
  (try simp only [c3b0, Bool.not_true, Bool.not_false])
  (try simp only [c3b1, Bool.not_true, Bool.not_false])
  go_upto_block 0 with (first | ((with_reducible refine gate_dst (N := 2) rfl ?_); (try (refine gate_guard (by rfl) ?_; dsimp only)); refine box_event ?hg (N := 2) ?hd (cs := #[.int .i64 0, .int .i64 0, .int .i64 0, .int .i64 0, .int .i64 0, .int .i64 0, .string (⟨#[]⟩ : ByteArray), .slice none 0 0, .int .i64 0, .int .i64 0]) (t := 26) ?hr ?_; (case hd => rfl); (case hg => rfl); (case hr => first | (go_simp; done) | (go_simp; rfl)); intro gb325 hg w13 hbox hb; have n0_ := Aside0.mk (below_step (a2_ HB.out) hb); have n1_ := Aside0.mk (hbox); have n2_ := Aside0.mk ((by rw [hg]; exact (below_size (a2_ HB.out)) : w.heap.size ≤ gb325)); have n3_ := Aside0.mk ((by rw [hg]; exact (below_size (a2_ HB.out)) : w.heap.size ≤ gb325)); clear HB; have HB := n0_; have BK325 := n1_; have GW325 := n2_; have GE325 := n3_; clear n0_ n1_ n2_ n3_; clear hb hbox hg) | ((with_reducible refine gate_callee (f := 21) rfl ?_); refine goesL_ (some 8) rfl rfl Try.func21 (by kernel_rfl) rfl #[.string a0] rfl (by (try simp only [List.map_toArray, List.map_cons, List.map_nil]); first | done | rfl | (simp only [List.length_drop, List.length_take]; rfl)) ?_; (with_reducible refine (impl_Unseal.calls k a0 t326 t327 t328 _ A2.out).mono ?_); rintro e w14 ⟨rfl, hb⟩; refine ⟨_, rfl, ?_⟩; have n0_ := Aside0.mk (blk_below (g := gb325) (o := .cells #[.int .i64 0, .int .i64 0, .int .i64 0, .int .i64 0, .int .i64 0, .int .i64 0, .string (⟨#[]⟩ : ByteArray), .slice none 0 0, .int .i64 0, .int .i64 0] 26 (0, 0)) (a4_ BK325.out) hb); have n1_ := Aside0.mk (below_step (a3_ HB.out GE325.out) hb); clear BK325; clear HB; have BK325 := n0_; have HB := n1_; clear n0_ n1_; (try clear hb); (try clear hb2); (try clear hk); (try clear hi)) | ((with_reducible refine gate_dst (N := 3) rfl ?_); (try (refine gate_guard (by rfl) ?_; dsimp only)); refine box_event ?hg (N := 3) ?hd (cs := #[.string (⟨#[]⟩ : ByteArray), .int .i64 0, .int .i64 0]) (t := 40) ?hr ?_; (case hd => rfl); (case hg => rfl); (case hr => first | (go_simp; done) | (go_simp; rfl)); intro gb329 hg w15 hbox hb; have n0_ := Aside0.mk (blk_below (g := gb325) (o := .cells #[.int .i64 0, .int .i64 0, .int .i64 0, .int .i64 0, .int .i64 0, .int .i64 0, .string (⟨#[]⟩ : ByteArray), .slice none 0 0, .int .i64 0, .int .i64 0] 26 (0, 0)) (a4_ BK325.out) hb); have n1_ := Aside0.mk (below_step (a3_ HB.out GE325.out) hb); have n2_ := Aside0.mk (hbox); have n3_ := Aside0.mk ((by rw [hg]; exact (below_size (a3_ HB.out GE325.out)) : w.heap.size ≤ gb329)); have n4_ := Aside0.mk ((by rw [hg]; exact (below_size (a3_ HB.out GE325.out)) : w.heap.size ≤ gb329)); have n5_ := Aside0.mk ((by rw [hg]; exact Nat.ne_of_lt (blk_lt (g := gb325) (o := .cells #[.int .i64 0, .int .i64 0, .int .i64 0, .int .i64 0, .int .i64 0, .int .i64 0, .string (⟨#[]⟩ : ByteArray), .slice none 0 0, .int .i64 0, .int .i64 0] 26 (0, 0)) (a4_ BK325.out)) : gb325 ≠ gb329)); have n6_ := Aside0.mk ((by rw [hg]; exact Nat.ne_of_gt (blk_lt (g := gb325) (o := .cells #[.int .i64 0, .int .i64 0, .int .i64 0, .int .i64 0, .int .i64 0, .int .i64 0, .string (⟨#[]⟩ : ByteArray), .slice none 0 0, .int .i64 0, .int .i64 0] 26 (0, 0)) (a4_ BK325.out)) : gb329 ≠ gb325)); clear BK325; clear HB; have BK325 := n0_; have HB := n1_; have BK329 := n2_; have GW329 := n3_; have GE329 := n4_; have NB325_329 := n5_; have NB329_325 := n6_; clear n0_ n1_ n2_ n3_ n4_ n5_ n6_; clear hb hbox hg; have hnb16 := NB329_325.out; have hnc16 := NB325_329.out; obtain ⟨⟨hcz17_0, hcz17_1, hcz17_2⟩, hfz17_0, hfz17_1, hfz17_2⟩ := cells_3 BK329.out) | ((with_reducible refine gate_dst (N := 18) rfl ?_); (try (refine gate_guard (by rfl) ?_; dsimp only)); refine box_event ?hg (N := 18) ?hd (cs := #[.string t326, .int .i64 0, .bool false]) (t := 50) ?hr ?_; (case hd => rfl); (case hg => rfl); (case hr => first | (go_simp; done) | (go_simp; rfl)); intro gb330 hg w18 hbox hb; have n0_ := Aside0.mk (blk_below (g := gb325) (o := .cells #[.int .i64 0, .int .i64 0, .int .i64 0, .int .i64 0, .int .i64 0, .int .i64 0, .string (⟨#[]⟩ : ByteArray), .slice none 0 0, .int .i64 0, .int .i64 0] 26 (0, 0)) (by (with_reducible repeat (first | refine blk_drewN ?_ _ | refine blk_drew ?_ | refine blk_alloc ?_ _)); refine blk_far ?_ NB325_329.out _; (with_reducible repeat (first | refine blk_drewN ?_ _ | refine blk_drew ?_ | refine blk_alloc ?_ _)); refine blk_far ?_ NB325_329.out _; (with_reducible repeat (first | refine blk_drewN ?_ _ | refine blk_drew ?_ | refine blk_alloc ?_ _)); refine blk_far ?_ NB325_329.out _; (with_reducible repeat (first | refine blk_drewN ?_ _ | refine blk_drew ?_ | refine blk_alloc ?_ _)); exact BK325.out) hb); have n1_ := Aside0.mk (blk_below (g := gb329) (o := .cells #[.string t326, .int .i64 t327, .int .i64 t328] 40 (0, 0)) (by (with_reducible repeat (first | refine blk_drewN ?_ _ | refine blk_drew ?_ | refine blk_alloc ?_ _)); refine blk_put (cs := #[.string t326, .int .i64 t327, .int .i64 0]) ?_ 2 _ rfl; (with_reducible repeat (first | refine blk_drewN ?_ _ | refine blk_drew ?_ | refine blk_alloc ?_ _)); refine blk_put (cs := #[.string t326, .int .i64 0, .int .i64 0]) ?_ 1 _ rfl; (with_reducible repeat (first | refine blk_drewN ?_ _ | refine blk_drew ?_ | refine blk_alloc ?_ _)); refine blk_put (cs := #[.string (⟨#[]⟩ : ByteArray), .int .i64 0, .int .i64 0]) ?_ 0 _ rfl; (with_reducible repeat (first | refine blk_drewN ?_ _ | refine blk_drew ?_ | refine blk_alloc ?_ _)); exact BK329.out) hb); have n2_ := Aside0.mk (below_step (a10_ HB.out GE325.out GE329.out) hb); have n3_ := Aside0.mk ((by rw [hg]; exact (below_size (a10_ HB.out GE325.out GE329.out)) : w.heap.size ≤ gb330)); have n4_ := Aside0.mk ((by rw [hg]; exact (below_size (a10_ HB.out GE325.out GE329.out)) : w.heap.size ≤ gb330)); have n5_ := Aside0.mk ((by rw [hg]; exact Nat.ne_of_lt (blk_lt (g := gb325) (o := .cells #[.int .i64 0, .int .i64 0, .int .i64 0, .int .i64 0, .int .i64 0, .int .i64 0, .string (⟨#[]⟩ : ByteArray), .slice none 0 0, .int .i64 0, .int .i64 0] 26 (0, 0)) (by (with_reducible repeat (first | refine blk_drewN ?_ _ | refine blk_drew ?_ | refine blk_alloc ?_ _)); refine blk_far ?_ NB325_329.out _; (with_reducible repeat (first | refine blk_drewN ?_ _ | refine blk_drew ?_ | refine blk_alloc ?_ _)); refine blk_far ?_ NB325_329.out _; (with_reducible repeat (first | refine blk_drewN ?_ _ | refine blk_drew ?_ | refine blk_alloc ?_ _)); refine blk_far ?_ NB325_329.out _; (with_reducible repeat (first | refine blk_drewN ?_ _ | refine blk_drew ?_ | refine blk_alloc ?_ _)); exact BK325.out)) : gb325 ≠ gb330)); have n6_ := Aside0.mk ((by rw [hg]; exact Nat.ne_of_gt (blk_lt (g := gb325) (o := .cells #[.int .i64 0, .int .i64 0, .int .i64 0, .int .i64 0, .int .i64 0, .int .i64 0, .string (⟨#[]⟩ : ByteArray), .slice none 0 0, .int .i64 0, .int .i64 0] 26 (0, 0)) (by (with_reducible repeat (first | refine blk_drewN ?_ _ | refine blk_drew ?_ | refine blk_alloc ?_ _)); refine blk_far ?_ NB325_329.out _; (with_reducible repeat (first | refine blk_drewN ?_ _ | refine blk_drew ?_ | refine blk_alloc ?_ _)); refine blk_far ?_ NB325_329.out _; (with_reducible repeat (first | refine blk_drewN ?_ _ | refine blk_drew ?_ | refine blk_alloc ?_ _)); refine blk_far ?_ NB325_329.out _; (with_reducible repeat (first | refine blk_drewN ?_ _ | refine blk_drew ?_ | refine blk_alloc ?_ _)); exact BK325.out)) : gb330 ≠ gb325)); have n7_ := Aside0.mk ((by rw [hg]; exact Nat.ne_of_lt (blk_lt (g := gb329) (o := .cells #[.string t326, .int .i64 t327, .int .i64 t328] 40 (0, 0)) (by (with_reducible repeat (first | refine blk_drewN ?_ _ | refine blk_drew ?_ | refine blk_alloc ?_ _)); refine blk_put (cs := #[.string t326, .int .i64 t327, .int .i64 0]) ?_ 2 _ rfl; (with_reducible repeat (first | refine blk_drewN ?_ _ | refine blk_drew ?_ | refine blk_alloc ?_ _)); refine blk_put (cs := #[.string t326, .int .i64 0, .int .i64 0]) ?_ 1 _ rfl; (with_reducible repeat (first | refine blk_drewN ?_ _ | refine blk_drew ?_ | refine blk_alloc ?_ _)); refine blk_put (cs := #[.string (⟨#[]⟩ : ByteArray), .int .i64 0, .int .i64 0]) ?_ 0 _ rfl; (with_reducible repeat (first | refine blk_drewN ?_ _ | refine blk_drew ?_ | refine blk_alloc ?_ _)); exact BK329.out)) : gb329 ≠ gb330)); have n8_ := Aside0.mk ((by rw [hg]; exact Nat.ne_of_gt (blk_lt (g := gb329) (o := .cells #[.string t326, .int .i64 t327, .int .i64 t328] 40 (0, 0)) (by (with_reducible repeat (first | refine blk_drewN ?_ _ | refine blk_drew ?_ | refine blk_alloc ?_ _)); refine blk_put (cs := #[.string t326, .int .i64 t327, .int .i64 0]) ?_ 2 _ rfl; (with_reducible repeat (first | refine blk_drewN ?_ _ | refine blk_drew ?_ | refine blk_alloc ?_ _)); refine blk_put (cs := #[.string t326, .int .i64 0, .int .i64 0]) ?_ 1 _ rfl; (with_reducible repeat (first | refine blk_drewN ?_ _ | refine blk_drew ?_ | refine blk_alloc ?_ _)); refine blk_put (cs := #[.string (⟨#[]⟩ : ByteArray), .int .i64 0, .int .i64 0]) ?_ 0 _ rfl; (with_reducible repeat (first | refine blk_drewN ?_ _ | refine blk_drew ?_ | refine blk_alloc ?_ _)); exact BK329.out)) : gb330 ≠ gb329)); have n9_ := Aside0.mk ((show IsS50 w _ gb330 t326 0 false from ⟨hbox, by rw [hg]; exact (below_size (a10_ HB.out GE325.out GE329.out))⟩)); clear BK325; clear BK329; clear HB; have BK325 := n0_; have BK329 := n1_; have HB := n2_; have GW330 := n3_; have GE330 := n4_; have NB325_330 := n5_; have NB330_325 := n6_; have NB329_330 := n7_; have NB330_329 := n8_; have HI330 := n9_; clear n0_ n1_ n2_ n3_ n4_ n5_ n6_ n7_ n8_ n9_; clear hb hbox hg) | ((with_reducible refine gate_callee (f := 22) rfl ?_); refine goesL_ (some 20) rfl rfl Try.func22 (by kernel_rfl) rfl #[.pointer (some ⟨gb330, 0, none⟩)] rfl (by (try simp only [List.map_toArray, List.map_cons, List.map_nil]); first | done | rfl | (simp only [List.length_drop, List.length_take]; rfl)) ?_; (with_reducible refine (impl_decoder_num.calls k gb330 t326 0 false t331 t332 t333 t334 w _ ?side1 ?side2 A4.out).mono ?_); (case side1 => exact (a12_ HI330.out NB330_325.out NB330_329.out)); (case side2 => exact (a13_ HB.out HI330.out GE325.out GE329.out)); rintro e w19 ⟨rfl, hi, hb, hk⟩; refine ⟨_, rfl, ?_⟩; have n0_ := Aside0.mk (KeepBut.blk hk (g' := gb325) (o := .cells #[.int .i64 0, .int .i64 0, .int .i64 0, .int .i64 0, .int .i64 0, .int .i64 0, .string (⟨#[]⟩ : ByteArray), .slice none 0 0, .int .i64 0, .int .i64 0] 26 (0, 0)) (a4_ BK325.out) NB325_330.out (by simp)); have n1_ := Aside0.mk (KeepBut.blk hk (g' := gb329) (o := .cells #[.string t326, .int .i64 t327, .int .i64 t328] 40 (0, 0)) (a4_ BK329.out) NB329_330.out (by simp)); have n2_ := Aside0.mk (hb); have n3_ := Aside0.mk (hi); clear BK325; clear BK329; clear HB; clear HI330; have BK325 := n0_; have BK329 := n1_; have HB := n2_; have HI330 := n3_; clear n0_ n1_ n2_ n3_; (try clear hb); (try clear hb2); (try clear hk); (try clear hi)) | ((with_reducible refine gate_dst (N := 5) rfl ?_); (try (refine gate_guard (by rfl) ?_; dsimp only)); refine box_event ?hg (N := 5) ?hd (cs := #[.int .i64 0, .int .i64 0, .int .i64 0, .int .i64 0, .int .i64 0, .int .i64 0, .string (⟨#[]⟩ : ByteArray), .slice none 0 0, .int .i64 0]) (t := 24) ?hr ?_; (case hd => rfl); (case hg => rfl); (case hr => first | (go_simp; done) | (go_simp; rfl)); intro gb335 hg w20 hbox hb; have n0_ := Aside0.mk (blk_below (g := gb325) (o := .cells #[.int .i64 0, .int .i64 0, .int .i64 0, .int .i64 0, .int .i64 0, .int .i64 0, .string (⟨#[]⟩ : ByteArray), .slice none 0 0, .int .i64 0, .int .i64 0] 26 (0, 0)) (a4_ BK325.out) hb); have n1_ := Aside0.mk (blk_below (g := gb329) (o := .cells #[.string t326, .int .i64 t327, .int .i64 t328] 40 (0, 0)) (a4_ BK329.out) hb); have n2_ := Aside0.mk (IsS50.below (a12_ HI330.out NB330_325.out NB330_329.out) hb); have n3_ := Aside0.mk (below_step (a13_ HB.out HI330.out GE325.out GE329.out) hb); have n4_ := Aside0.mk (hbox); have n5_ := Aside0.mk ((by rw [hg]; exact (below_size (a13_ HB.out HI330.out GE325.out GE329.out)) : w.heap.size ≤ gb335)); have n6_ := Aside0.mk ((by rw [hg]; exact (below_size (a13_ HB.out HI330.out GE325.out GE329.out)) : w.heap.size ≤ gb335)); have n7_ := Aside0.mk ((by rw [hg]; exact Nat.ne_of_lt (blk_lt (g := gb325) (o := .cells #[.int .i64 0, .int .i64 0, .int .i64 0, .int .i64 0, .int .i64 0, .int .i64 0, .string (⟨#[]⟩ : ByteArray), .slice none 0 0, .int .i64 0, .int .i64 0] 26 (0, 0)) (a4_ BK325.out)) : gb325 ≠ gb335)); have n8_ := Aside0.mk ((by rw [hg]; exact Nat.ne_of_gt (blk_lt (g := gb325) (o := .cells #[.int .i64 0, .int .i64 0, .int .i64 0, .int .i64 0, .int .i64 0, .int .i64 0, .string (⟨#[]⟩ : ByteArray), .slice none 0 0, .int .i64 0, .int .i64 0] 26 (0, 0)) (a4_ BK325.out)) : gb335 ≠ gb325)); have n9_ := Aside0.mk ((by rw [hg]; exact Nat.ne_of_lt (blk_lt (g := gb329) (o := .cells #[.string t326, .int .i64 t327, .int .i64 t328] 40 (0, 0)) (a4_ BK329.out)) : gb329 ≠ gb335)); have n10_ := Aside0.mk ((by rw [hg]; exact Nat.ne_of_gt (blk_lt (g := gb329) (o := .cells #[.string t326, .int .i64 t327, .int .i64 t328] 40 (0, 0)) (a4_ BK329.out)) : gb335 ≠ gb329)); have n11_ := Aside0.mk ((by rw [hg]; exact Nat.ne_of_lt (IsS50.lt (show IsS50 w _ gb330 t332 t333 t334 from (a12_ HI330.out NB330_325.out NB330_329.out))) : gb330 ≠ gb335)); have n12_ := Aside0.mk ((by rw [hg]; exact Nat.ne_of_gt (IsS50.lt (show IsS50 w _ gb330 t332 t333 t334 from (a12_ HI330.out NB330_325.out NB330_329.out))) : gb335 ≠ gb330)); clear BK325; clear BK329; clear HI330; clear HB; have BK325 := n0_; have BK329 := n1_; have HI330 := n2_; have HB := n3_; have BK335 := n4_; have GW335 := n5_; have GE335 := n6_; have NB325_335 := n7_; have NB335_325 := n8_; have NB329_335 := n9_; have NB335_329 := n10_; have NB330_335 := n11_; have NB335_330 := n12_; clear n0_ n1_ n2_ n3_ n4_ n5_ n6_ n7_ n8_ n9_ n10_ n11_ n12_; clear hb hbox hg; have hnb21 := NB335_325.out; have hnc21 := NB325_335.out; have hnb22 := NB335_329.out; have hnc22 := NB329_335.out; have hnb23 := NB335_330.out; have hnc23 := NB330_335.out; obtain ⟨⟨hcz24_0, hcz24_1, hcz24_2, hcz24_3, hcz24_4, hcz24_5, hcz24_6, hcz24_7, hcz24_8⟩, hfz24_0, hfz24_1, hfz24_2, hfz24_3, hfz24_4, hfz24_5, hfz24_6, hfz24_7, hfz24_8⟩ := cells_9 BK335.out) | ((with_reducible refine gate_callee (f := 22) rfl ?_); refine goesL_ (some 23) rfl rfl Try.func22 (by kernel_rfl) rfl #[.pointer (some ⟨gb330, 0, none⟩)] rfl (by (try simp only [List.map_toArray, List.map_cons, List.map_nil]); first | done | rfl | (simp only [List.length_drop, List.length_take]; rfl)) ?_; (with_reducible refine (impl_decoder_num.calls k gb330 t332 t333 t334 t336 t337 t338 t339 w _ ?side1 ?side2 A5.out).mono ?_); (case side1 => exact (a14_ HI330.out NB330_325.out NB330_329.out NB330_335.out)); (case side2 => exact (a15_ HB.out HI330.out GE325.out GE329.out GE335.out)); rintro e w25 ⟨rfl, hi, hb, hk⟩; refine ⟨_, rfl, ?_⟩; have n0_ := Aside0.mk (KeepBut.blk hk (g' := gb325) (o := .cells #[.int .i64 0, .int .i64 0, .int .i64 0, .int .i64 0, .int .i64 0, .int .i64 0, .string (⟨#[]⟩ : ByteArray), .slice none 0 0, .int .i64 0, .int .i64 0] 26 (0, 0)) (by (with_reducible repeat (first | refine blk_drewN ?_ _ | refine blk_drew ?_ | refine blk_alloc ?_ _)); refine blk_far ?_ NB325_335.out _; (with_reducible repeat (first | refine blk_drewN ?_ _ | refine blk_drew ?_ | refine blk_alloc ?_ _)); refine blk_far ?_ NB325_335.out _; (with_reducible repeat (first | refine blk_drewN ?_ _ | refine blk_drew ?_ | refine blk_alloc ?_ _)); refine blk_far ?_ NB325_335.out _; (with_reducible repeat (first | refine blk_drewN ?_ _ | refine blk_drew ?_ | refine blk_alloc ?_ _)); refine blk_far ?_ NB325_335.out _; (with_reducible repeat (first | refine blk_drewN ?_ _ | refine blk_drew ?_ | refine blk_alloc ?_ _)); refine blk_far ?_ NB325_335.out _; (with_reducible repeat (first | refine blk_drewN ?_ _ | refine blk_drew ?_ | refine blk_alloc ?_ _)); refine blk_far ?_ NB325_335.out _; (with_reducible repeat (first | refine blk_drewN ?_ _ | refine blk_drew ?_ | refine blk_alloc ?_ _)); refine blk_far ?_ NB325_335.out _; (with_reducible repeat (first | refine blk_drewN ?_ _ | refine blk_drew ?_ | refine blk_alloc ?_ _)); refine blk_far ?_ NB325_335.out _; (with_reducible repeat (first | refine blk_drewN ?_ _ | refine blk_drew ?_ | refine blk_alloc ?_ _)); refine blk_far ?_ NB325_335.out _; (with_reducible repeat (first | refine blk_drewN ?_ _ | refine blk_drew ?_ | refine blk_alloc ?_ _)); exact BK325.out) NB325_330.out (by simp)); have n1_ := Aside0.mk (KeepBut.blk hk (g' := gb329) (o := .cells #[.string t326, .int .i64 t327, .int .i64 t328] 40 (0, 0)) (by (with_reducible repeat (first | refine blk_drewN ?_ _ | refine blk_drew ?_ | refine blk_alloc ?_ _)); refine blk_far ?_ NB329_335.out _; (with_reducible repeat (first | refine blk_drewN ?_ _ | refine blk_drew ?_ | refine blk_alloc ?_ _)); refine blk_far ?_ NB329_335.out _; (with_reducible repeat (first | refine blk_drewN ?_ _ | refine blk_drew ?_ | refine blk_alloc ?_ _)); refine blk_far ?_ NB329_335.out _; (with_reducible repeat (first | refine blk_drewN ?_ _ | refine blk_drew ?_ | refine blk_alloc ?_ _)); refine blk_far ?_ NB329_335.out _; (with_reducible repeat (first | refine blk_drewN ?_ _ | refine blk_drew ?_ | refine blk_alloc ?_ _)); refine blk_far ?_ NB329_335.out _; (with_reducible repeat (first | refine blk_drewN ?_ _ | refine blk_drew ?_ | refine blk_alloc ?_ _)); refine blk_far ?_ NB329_335.out _; (with_reducible repeat (first | refine blk_drewN ?_ _ | refine blk_drew ?_ | refine blk_alloc ?_ _)); refine blk_far ?_ NB329_335.out _; (with_reducible repeat (first | refine blk_drewN ?_ _ | refine blk_drew ?_ | refine blk_alloc ?_ _)); refine blk_far ?_ NB329_335.out _; (with_reducible repeat (first | refine blk_drewN ?_ _ | refine blk_drew ?_ | refine blk_alloc ?_ _)); refine blk_far ?_ NB329_335.out _; (with_reducible repeat (first | refine blk_drewN ?_ _ | refine blk_drew ?_ | refine blk_alloc ?_ _)); exact BK329.out) NB329_330.out (by simp)); have n2_ := Aside0.mk (KeepBut.blk hk (g' := gb335) (o := .cells #[.int .i64 t331, .int .i64 0, .int .i64 0, .int .i64 0, .int .i64 0, .int .i64 0, .string (⟨#[]⟩ : ByteArray), .slice none 0 0, .int .i64 0] 24 (0, 0)) (by (with_reducible repeat (first | refine blk_drewN ?_ _ | refine blk_drew ?_ | refine blk_alloc ?_ _)); refine blk_put (cs := #[.int .i64 t331, .int .i64 0, .int .i64 0, .int .i64 0, .int .i64 0, .int .i64 0, .string (⟨#[]⟩ : ByteArray), .slice none 0 0, .int .i64 0]) ?_ 8 _ rfl; (with_reducible repeat (first | refine blk_drewN ?_ _ | refine blk_drew ?_ | refine blk_alloc ?_ _)); refine blk_put (cs := #[.int .i64 t331, .int .i64 0, .int .i64 0, .int .i64 0, .int .i64 0, .int .i64 0, .string (⟨#[]⟩ : ByteArray), .slice none 0 0, .int .i64 0]) ?_ 7 _ rfl; (with_reducible repeat (first | refine blk_drewN ?_ _ | refine blk_drew ?_ | refine blk_alloc ?_ _)); refine blk_put (cs := #[.int .i64 t331, .int .i64 0, .int .i64 0, .int .i64 0, .int .i64 0, .int .i64 0, .string (⟨#[]⟩ : ByteArray), .slice none 0 0, .int .i64 0]) ?_ 6 _ rfl; (with_reducible repeat (first | refine blk_drewN ?_ _ | refine blk_drew ?_ | refine blk_alloc ?_ _)); refine blk_put (cs := #[.int .i64 t331, .int .i64 0, .int .i64 0, .int .i64 0, .int .i64 0, .int .i64 0, .string (⟨#[]⟩ : ByteArray), .slice none 0 0, .int .i64 0]) ?_ 5 _ rfl; (with_reducible repeat (first | refine blk_drewN ?_ _ | refine blk_drew ?_ | refine blk_alloc ?_ _)); refine blk_put (cs := #[.int .i64 t331, .int .i64 0, .int .i64 0, .int .i64 0, .int .i64 0, .int .i64 0, .string (⟨#[]⟩ : ByteArray), .slice none 0 0, .int .i64 0]) ?_ 4 _ rfl; (with_reducible repeat (first | refine blk_drewN ?_ _ | refine blk_drew ?_ | refine blk_alloc ?_ _)); refine blk_put (cs := #[.int .i64 t331, .int .i64 0, .int .i64 0, .int .i64 0, .int .i64 0, .int .i64 0, .string (⟨#[]⟩ : ByteArray), .slice none 0 0, .int .i64 0]) ?_ 3 _ rfl; (with_reducible repeat (first | refine blk_drewN ?_ _ | refine blk_drew ?_ | refine blk_alloc ?_ _)); refine blk_put (cs := #[.int .i64 t331, .int .i64 0, .int .i64 0, .int .i64 0, .int .i64 0, .int .i64 0, .string (⟨#[]⟩ : ByteArray), .slice none 0 0, .int .i64 0]) ?_ 2 _ rfl; (with_reducible repeat (first | refine blk_drewN ?_ _ | refine blk_drew ?_ | refine blk_alloc ?_ _)); refine blk_put (cs := #[.int .i64 t331, .int .i64 0, .int .i64 0, .int .i64 0, .int .i64 0, .int .i64 0, .string (⟨#[]⟩ : ByteArray), .slice none 0 0, .int .i64 0]) ?_ 1 _ rfl; (with_reducible repeat (first | refine blk_drewN ?_ _ | refine blk_drew ?_ | refine blk_alloc ?_ _)); refine blk_put (cs := #[.int .i64 0, .int .i64 0, .int .i64 0, .int .i64 0, .int .i64 0, .int .i64 0, .string (⟨#[]⟩ : ByteArray), .slice none 0 0, .int .i64 0]) ?_ 0 _ rfl; (with_reducible repeat (first | refine blk_drewN ?_ _ | refine blk_drew ?_ | refine blk_alloc ?_ _)); exact BK335.out) NB335_330.out (by simp)); have n3_ := Aside0.mk (hb); have n4_ := Aside0.mk (hi); clear BK325; clear BK329; clear BK335; clear HB; clear HI330; have BK325 := n0_; have BK329 := n1_; have BK335 := n2_; have HB := n3_; have HI330 := n4_; clear n0_ n1_ n2_ n3_ n4_; (try clear hb); (try clear hb2); (try clear hk); (try clear hi); obtain ⟨⟨hcz26_0, hcz26_1, hcz26_2, hcz26_3, hcz26_4, hcz26_5, hcz26_6, hcz26_7, hcz26_8⟩, hfz26_0, hfz26_1, hfz26_2, hfz26_3, hfz26_4, hfz26_5, hfz26_6, hfz26_7, hfz26_8⟩ := cells_9 BK335.out) | ((with_reducible refine gate_callee (f := 22) rfl ?_); refine goesL_ (some 26) rfl rfl Try.func22 (by kernel_rfl) rfl #[.pointer (some ⟨gb330, 0, none⟩)] rfl (by (try simp only [List.map_toArray, List.map_cons, List.map_nil]); first | done | rfl | (simp only [List.length_drop, List.length_take]; rfl)) ?_; (with_reducible refine (impl_decoder_num.calls k gb330 t337 t338 t339 t340 t341 t342 t343 w _ ?side1 ?side2 A6.out).mono ?_); (case side1 => exact (a14_ HI330.out NB330_325.out NB330_329.out NB330_335.out)); (case side2 => exact (a15_ HB.out HI330.out GE325.out GE329.out GE335.out)); rintro e w27 ⟨rfl, hi, hb, hk⟩; refine ⟨_, rfl, ?_⟩; have n0_ := Aside0.mk (KeepBut.blk hk (g' := gb325) (o := .cells #[.int .i64 0, .int .i64 0, .int .i64 0, .int .i64 0, .int .i64 0, .int .i64 0, .string (⟨#[]⟩ : ByteArray), .slice none 0 0, .int .i64 0, .int .i64 0] 26 (0, 0)) (by (with_reducible repeat (first | refine blk_drewN ?_ _ | refine blk_drew ?_ | refine blk_alloc ?_ _)); refine blk_far ?_ NB325_335.out _; (with_reducible repeat (first | refine blk_drewN ?_ _ | refine blk_drew ?_ | refine blk_alloc ?_ _)); exact BK325.out) NB325_330.out (by simp)); have n1_ := Aside0.mk (KeepBut.blk hk (g' := gb329) (o := .cells #[.string t326, .int .i64 t327, .int .i64 t328] 40 (0, 0)) (by (with_reducible repeat (first | refine blk_drewN ?_ _ | refine blk_drew ?_ | refine blk_alloc ?_ _)); refine blk_far ?_ NB329_335.out _; (with_reducible repeat (first | refine blk_drewN ?_ _ | refine blk_drew ?_ | refine blk_alloc ?_ _)); exact BK329.out) NB329_330.out (by simp)); have n2_ := Aside0.mk (KeepBut.blk hk (g' := gb335) (o := .cells #[.int .i64 t331, .int .i64 t336, .int .i64 0, .int .i64 0, .int .i64 0, .int .i64 0, .string (⟨#[]⟩ : ByteArray), .slice none 0 0, .int .i64 0] 24 (0, 0)) (by (with_reducible repeat (first | refine blk_drewN ?_ _ | refine blk_drew ?_ | refine blk_alloc ?_ _)); refine blk_put (cs := #[.int .i64 t331, .int .i64 0, .int .i64 0, .int .i64 0, .int .i64 0, .int .i64 0, .string (⟨#[]⟩ : ByteArray), .slice none 0 0, .int .i64 0]) ?_ 1 _ rfl; (with_reducible repeat (first | refine blk_drewN ?_ _ | refine blk_drew ?_ | refine blk_alloc ?_ _)); exact BK335.out) NB335_330.out (by simp)); have n3_ := Aside0.mk (hb); have n4_ := Aside0.mk (hi); clear BK325; clear BK329; clear BK335; clear HB; clear HI330; have BK325 := n0_; have BK329 := n1_; have BK335 := n2_; have HB := n3_; have HI330 := n4_; clear n0_ n1_ n2_ n3_ n4_; (try clear hb); (try clear hb2); (try clear hk); (try clear hi); obtain ⟨⟨hcz28_0, hcz28_1, hcz28_2, hcz28_3, hcz28_4, hcz28_5, hcz28_6, hcz28_7, hcz28_8⟩, hfz28_0, hfz28_1, hfz28_2, hfz28_3, hfz28_4, hfz28_5, hfz28_6, hfz28_7, hfz28_8⟩ := cells_9 BK335.out) | ((with_reducible refine gate_callee (f := 22) rfl ?_); refine goesL_ (some 29) rfl rfl Try.func22 (by kernel_rfl) rfl #[.pointer (some ⟨gb330, 0, none⟩)] rfl (by (try simp only [List.map_toArray, List.map_cons, List.map_nil]); first | done | rfl | (simp only [List.length_drop, List.length_take]; rfl)) ?_; (with_reducible refine (impl_decoder_num.calls k gb330 t341 t342 t343 t344 t345 t346 t347 w _ ?side1 ?side2 A7.out).mono ?_); (case side1 => exact (a14_ HI330.out NB330_325.out NB330_329.out NB330_335.out)); (case side2 => exact (a15_ HB.out HI330.out GE325.out GE329.out GE335.out)); rintro e w29 ⟨rfl, hi, hb, hk⟩; refine ⟨_, rfl, ?_⟩; have n0_ := Aside0.mk (KeepBut.blk hk (g' := gb325) (o := .cells #[.int .i64 0, .int .i64 0, .int .i64 0, .int .i64 0, .int .i64 0, .int .i64 0, .string (⟨#[]⟩ : ByteArray), .slice none 0 0, .int .i64 0, .int .i64 0] 26 (0, 0)) (by (with_reducible repeat (first | refine blk_drewN ?_ _ | refine blk_drew ?_ | refine blk_alloc ?_ _)); refine blk_far ?_ NB325_335.out _; (with_reducible repeat (first | refine blk_drewN ?_ _ | refine blk_drew ?_ | refine blk_alloc ?_ _)); exact BK325.out) NB325_330.out (by simp)); have n1_ := Aside0.mk (KeepBut.blk hk (g' := gb329) (o := .cells #[.string t326, .int .i64 t327, .int .i64 t328] 40 (0, 0)) (by (with_reducible repeat (first | refine blk_drewN ?_ _ | refine blk_drew ?_ | refine blk_alloc ?_ _)); refine blk_far ?_ NB329_335.out _; (with_reducible repeat (first | refine blk_drewN ?_ _ | refine blk_drew ?_ | refine blk_alloc ?_ _)); exact BK329.out) NB329_330.out (by simp)); have n2_ := Aside0.mk (KeepBut.blk hk (g' := gb335) (o := .cells #[.int .i64 t331, .int .i64 t336, .int .i64 t340, .int .i64 0, .int .i64 0, .int .i64 0, .string (⟨#[]⟩ : ByteArray), .slice none 0 0, .int .i64 0] 24 (0, 0)) (by (with_reducible repeat (first | refine blk_drewN ?_ _ | refine blk_drew ?_ | refine blk_alloc ?_ _)); refine blk_put (cs := #[.int .i64 t331, .int .i64 t336, .int .i64 0, .int .i64 0, .int .i64 0, .int .i64 0, .string (⟨#[]⟩ : ByteArray), .slice none 0 0, .int .i64 0]) ?_ 2 _ rfl; (with_reducible repeat (first | refine blk_drewN ?_ _ | refine blk_drew ?_ | refine blk_alloc ?_ _)); exact BK335.out) NB335_330.out (by simp)); have n3_ := Aside0.mk (hb); have n4_ := Aside0.mk (hi); clear BK325; clear BK329; clear BK335; clear HB; clear HI330; have BK325 := n0_; have BK329 := n1_; have BK335 := n2_; have HB := n3_; have HI330 := n4_; clear n0_ n1_ n2_ n3_ n4_; (try clear hb); (try clear hb2); (try clear hk); (try clear hi); obtain ⟨⟨hcz30_0, hcz30_1, hcz30_2, hcz30_3, hcz30_4, hcz30_5, hcz30_6, hcz30_7, hcz30_8⟩, hfz30_0, hfz30_1, hfz30_2, hfz30_3, hfz30_4, hfz30_5, hfz30_6, hfz30_7, hfz30_8⟩ := cells_9 BK335.out) | ((with_reducible refine gate_callee (f := 22) rfl ?_); refine goesL_ (some 32) rfl rfl Try.func22 (by kernel_rfl) rfl #[.pointer (some ⟨gb330, 0, none⟩)] rfl (by (try simp only [List.map_toArray, List.map_cons, List.map_nil]); first | done | rfl | (simp only [List.length_drop, List.length_take]; rfl)) ?_; (with_reducible refine (impl_decoder_num.calls k gb330 t345 t346 t347 t348 t349 t350 t351 w _ ?side1 ?side2 A8.out).mono ?_); (case side1 => exact (a14_ HI330.out NB330_325.out NB330_329.out NB330_335.out)); (case side2 => exact (a15_ HB.out HI330.out GE325.out GE329.out GE335.out)); rintro e w31 ⟨rfl, hi, hb, hk⟩; refine ⟨_, rfl, ?_⟩; have n0_ := Aside0.mk (KeepBut.blk hk (g' := gb325) (o := .cells #[.int .i64 0, .int .i64 0, .int .i64 0, .int .i64 0, .int .i64 0, .int .i64 0, .string (⟨#[]⟩ : ByteArray), .slice none 0 0, .int .i64 0, .int .i64 0] 26 (0, 0)) (by (with_reducible repeat (first | refine blk_drewN ?_ _ | refine blk_drew ?_ | refine blk_alloc ?_ _)); refine blk_far ?_ NB325_335.out _; (with_reducible repeat (first | refine blk_drewN ?_ _ | refine blk_drew ?_ | refine blk_alloc ?_ _)); exact BK325.out) NB325_330.out (by simp)); have n1_ := Aside0.mk (KeepBut.blk hk (g' := gb329) (o := .cells #[.string t326, .int .i64 t327, .int .i64 t328] 40 (0, 0)) (by (with_reducible repeat (first | refine blk_drewN ?_ _ | refine blk_drew ?_ | refine blk_alloc ?_ _)); refine blk_far ?_ NB329_335.out _; (with_reducible repeat (first | refine blk_drewN ?_ _ | refine blk_drew ?_ | refine blk_alloc ?_ _)); exact BK329.out) NB329_330.out (by simp)); have n2_ := Aside0.mk (KeepBut.blk hk (g' := gb335) (o := .cells #[.int .i64 t331, .int .i64 t336, .int .i64 t340, .int .i64 t344, .int .i64 0, .int .i64 0, .string (⟨#[]⟩ : ByteArray), .slice none 0 0, .int .i64 0] 24 (0, 0)) (by (with_reducible repeat (first | refine blk_drewN ?_ _ | refine blk_drew ?_ | refine blk_alloc ?_ _)); refine blk_put (cs := #[.int .i64 t331, .int .i64 t336, .int .i64 t340, .int .i64 0, .int .i64 0, .int .i64 0, .string (⟨#[]⟩ : ByteArray), .slice none 0 0, .int .i64 0]) ?_ 3 _ rfl; (with_reducible repeat (first | refine blk_drewN ?_ _ | refine blk_drew ?_ | refine blk_alloc ?_ _)); exact BK335.out) NB335_330.out (by simp)); have n3_ := Aside0.mk (hb); have n4_ := Aside0.mk (hi); clear BK325; clear BK329; clear BK335; clear HB; clear HI330; have BK325 := n0_; have BK329 := n1_; have BK335 := n2_; have HB := n3_; have HI330 := n4_; clear n0_ n1_ n2_ n3_ n4_; (try clear hb); (try clear hb2); (try clear hk); (try clear hi); obtain ⟨⟨hcz32_0, hcz32_1, hcz32_2, hcz32_3, hcz32_4, hcz32_5, hcz32_6, hcz32_7, hcz32_8⟩, hfz32_0, hfz32_1, hfz32_2, hfz32_3, hfz32_4, hfz32_5, hfz32_6, hfz32_7, hfz32_8⟩ := cells_9 BK335.out) | ((with_reducible refine gate_callee (f := 22) rfl ?_); refine goesL_ (some 35) rfl rfl Try.func22 (by kernel_rfl) rfl #[.pointer (some ⟨gb330, 0, none⟩)] rfl (by (try simp only [List.map_toArray, List.map_cons, List.map_nil]); first | done | rfl | (simp only [List.length_drop, List.length_take]; rfl)) ?_; (with_reducible refine (impl_decoder_num.calls k gb330 t349 t350 t351 t352 t353 t354 t355 w _ ?side1 ?side2 A9.out).mono ?_); (case side1 => exact (a14_ HI330.out NB330_325.out NB330_329.out NB330_335.out)); (case side2 => exact (a15_ HB.out HI330.out GE325.out GE329.out GE335.out)); rintro e w33 ⟨rfl, hi, hb, hk⟩; refine ⟨_, rfl, ?_⟩; have n0_ := Aside0.mk (KeepBut.blk hk (g' := gb325) (o := .cells #[.int .i64 0, .int .i64 0, .int .i64 0, .int .i64 0, .int .i64 0, .int .i64 0, .string (⟨#[]⟩ : ByteArray), .slice none 0 0, .int .i64 0, .int .i64 0] 26 (0, 0)) (by (with_reducible repeat (first | refine blk_drewN ?_ _ | refine blk_drew ?_ | refine blk_alloc ?_ _)); refine blk_far ?_ NB325_335.out _; (with_reducible repeat (first | refine blk_drewN ?_ _ | refine blk_drew ?_ | refine blk_alloc ?_ _)); exact BK325.out) NB325_330.out (by simp)); have n1_ := Aside0.mk (KeepBut.blk hk (g' := gb329) (o := .cells #[.string t326, .int .i64 t327, .int .i64 t328] 40 (0, 0)) (by (with_reducible repeat (first | refine blk_drewN ?_ _ | refine blk_drew ?_ | refine blk_alloc ?_ _)); refine blk_far ?_ NB329_335.out _; (with_reducible repeat (first | refine blk_drewN ?_ _ | refine blk_drew ?_ | refine blk_alloc ?_ _)); exact BK329.out) NB329_330.out (by simp)); have n2_ := Aside0.mk (KeepBut.blk hk (g' := gb335) (o := .cells #[.int .i64 t331, .int .i64 t336, .int .i64 t340, .int .i64 t344, .int .i64 t348, .int .i64 0, .string (⟨#[]⟩ : ByteArray), .slice none 0 0, .int .i64 0] 24 (0, 0)) (by (with_reducible repeat (first | refine blk_drewN ?_ _ | refine blk_drew ?_ | refine blk_alloc ?_ _)); refine blk_put (cs := #[.int .i64 t331, .int .i64 t336, .int .i64 t340, .int .i64 t344, .int .i64 0, .int .i64 0, .string (⟨#[]⟩ : ByteArray), .slice none 0 0, .int .i64 0]) ?_ 4 _ rfl; (with_reducible repeat (first | refine blk_drewN ?_ _ | refine blk_drew ?_ | refine blk_alloc ?_ _)); exact BK335.out) NB335_330.out (by simp)); have n3_ := Aside0.mk (hb); have n4_ := Aside0.mk (hi); clear BK325; clear BK329; clear BK335; clear HB; clear HI330; have BK325 := n0_; have BK329 := n1_; have BK335 := n2_; have HB := n3_; have HI330 := n4_; clear n0_ n1_ n2_ n3_ n4_; (try clear hb); (try clear hb2); (try clear hk); (try clear hi); obtain ⟨⟨hcz34_0, hcz34_1, hcz34_2, hcz34_3, hcz34_4, hcz34_5, hcz34_6, hcz34_7, hcz34_8⟩, hfz34_0, hfz34_1, hfz34_2, hfz34_3, hfz34_4, hfz34_5, hfz34_6, hfz34_7, hfz34_8⟩ := cells_9 BK335.out) | ((with_reducible refine gate_callee (f := 23) rfl ?_); refine goesL_ (some 38) rfl rfl Try.func23 (by kernel_rfl) rfl #[.pointer (some ⟨gb330, 0, none⟩)] rfl (by (try simp only [List.map_toArray, List.map_cons, List.map_nil]); first | done | rfl | (simp only [List.length_drop, List.length_take]; rfl)) ?_; (with_reducible refine (impl_decoder_str.calls k gb330 t353 t354 t355 t356 t357 t358 t359 w _ ?side1 ?side2 A10.out).mono ?_); (case side1 => exact (a14_ HI330.out NB330_325.out NB330_329.out NB330_335.out)); (case side2 => exact (a15_ HB.out HI330.out GE325.out GE329.out GE335.out)); rintro e w35 ⟨rfl, hi, hb, hk⟩; refine ⟨_, rfl, ?_⟩; have n0_ := Aside0.mk (KeepBut.blk hk (g' := gb325) (o := .cells #[.int .i64 0, .int .i64 0, .int .i64 0, .int .i64 0, .int .i64 0, .int .i64 0, .string (⟨#[]⟩ : ByteArray), .slice none 0 0, .int .i64 0, .int .i64 0] 26 (0, 0)) (by (with_reducible repeat (first | refine blk_drewN ?_ _ | refine blk_drew ?_ | refine blk_alloc ?_ _)); refine blk_far ?_ NB325_335.out _; (with_reducible repeat (first | refine blk_drewN ?_ _ | refine blk_drew ?_ | refine blk_alloc ?_ _)); exact BK325.out) NB325_330.out (by simp)); have n1_ := Aside0.mk (KeepBut.blk hk (g' := gb329) (o := .cells #[.string t326, .int .i64 t327, .int .i64 t328] 40 (0, 0)) (by (with_reducible repeat (first | refine blk_drewN ?_ _ | refine blk_drew ?_ | refine blk_alloc ?_ _)); refine blk_far ?_ NB329_335.out _; (with_reducible repeat (first | refine blk_drewN ?_ _ | refine blk_drew ?_ | refine blk_alloc ?_ _)); exact BK329.out) NB329_330.out (by simp)); have n2_ := Aside0.mk (KeepBut.blk hk (g' := gb335) (o := .cells #[.int .i64 t331, .int .i64 t336, .int .i64 t340, .int .i64 t344, .int .i64 t348, .int .i64 t352, .string (⟨#[]⟩ : ByteArray), .slice none 0 0, .int .i64 0] 24 (0, 0)) (by (with_reducible repeat (first | refine blk_drewN ?_ _ | refine blk_drew ?_ | refine blk_alloc ?_ _)); refine blk_put (cs := #[.int .i64 t331, .int .i64 t336, .int .i64 t340, .int .i64 t344, .int .i64 t348, .int .i64 0, .string (⟨#[]⟩ : ByteArray), .slice none 0 0, .int .i64 0]) ?_ 5 _ rfl; (with_reducible repeat (first | refine blk_drewN ?_ _ | refine blk_drew ?_ | refine blk_alloc ?_ _)); exact BK335.out) NB335_330.out (by simp)); have n3_ := Aside0.mk (hb); have n4_ := Aside0.mk (hi); clear BK325; clear BK329; clear BK335; clear HB; clear HI330; have BK325 := n0_; have BK329 := n1_; have BK335 := n2_; have HB := n3_; have HI330 := n4_; clear n0_ n1_ n2_ n3_ n4_; (try clear hb); (try clear hb2); (try clear hk); (try clear hi); obtain ⟨⟨hcz36_0, hcz36_1, hcz36_2, hcz36_3, hcz36_4, hcz36_5, hcz36_6, hcz36_7, hcz36_8⟩, hfz36_0, hfz36_1, hfz36_2, hfz36_3, hfz36_4, hfz36_5, hfz36_6, hfz36_7, hfz36_8⟩ := cells_9 BK335.out) | ((with_reducible refine gate_callee (f := 22) rfl ?_); refine goesL_ (some 41) rfl rfl Try.func22 (by kernel_rfl) rfl #[.pointer (some ⟨gb330, 0, none⟩)] rfl (by (try simp only [List.map_toArray, List.map_cons, List.map_nil]); first | done | rfl | (simp only [List.length_drop, List.length_take]; rfl)) ?_; (with_reducible refine (impl_decoder_num.calls k gb330 t357 t358 t359 t360 t361 t362 t363 w _ ?side1 ?side2 A11.out).mono ?_); (case side1 => exact (a14_ HI330.out NB330_325.out NB330_329.out NB330_335.out)); (case side2 => exact (a15_ HB.out HI330.out GE325.out GE329.out GE335.out)); rintro e w37 ⟨rfl, hi, hb, hk⟩; refine ⟨_, rfl, ?_⟩; have n0_ := Aside0.mk (KeepBut.blk hk (g' := gb325) (o := .cells #[.int .i64 0, .int .i64 0, .int .i64 0, .int .i64 0, .int .i64 0, .int .i64 0, .string (⟨#[]⟩ : ByteArray), .slice none 0 0, .int .i64 0, .int .i64 0] 26 (0, 0)) (by (with_reducible repeat (first | refine blk_drewN ?_ _ | refine blk_drew ?_ | refine blk_alloc ?_ _)); refine blk_far ?_ NB325_335.out _; (with_reducible repeat (first | refine blk_drewN ?_ _ | refine blk_drew ?_ | refine blk_alloc ?_ _)); exact BK325.out) NB325_330.out (by simp)); have n1_ := Aside0.mk (KeepBut.blk hk (g' := gb329) (o := .cells #[.string t326, .int .i64 t327, .int .i64 t328] 40 (0, 0)) (by (with_reducible repeat (first | refine blk_drewN ?_ _ | refine blk_drew ?_ | refine blk_alloc ?_ _)); refine blk_far ?_ NB329_335.out _; (with_reducible repeat (first | refine blk_drewN ?_ _ | refine blk_drew ?_ | refine blk_alloc ?_ _)); exact BK329.out) NB329_330.out (by simp)); have n2_ := Aside0.mk (KeepBut.blk hk (g' := gb335) (o := .cells #[.int .i64 t331, .int .i64 t336, .int .i64 t340, .int .i64 t344, .int .i64 t348, .int .i64 t352, .string t356, .slice none 0 0, .int .i64 0] 24 (0, 0)) (by (with_reducible repeat (first | refine blk_drewN ?_ _ | refine blk_drew ?_ | refine blk_alloc ?_ _)); refine blk_put (cs := #[.int .i64 t331, .int .i64 t336, .int .i64 t340, .int .i64 t344, .int .i64 t348, .int .i64 t352, .string (⟨#[]⟩ : ByteArray), .slice none 0 0, .int .i64 0]) ?_ 6 _ rfl; (with_reducible repeat (first | refine blk_drewN ?_ _ | refine blk_drew ?_ | refine blk_alloc ?_ _)); exact BK335.out) NB335_330.out (by simp)); have n3_ := Aside0.mk (hb); have n4_ := Aside0.mk (hi); clear BK325; clear BK329; clear BK335; clear HB; clear HI330; have BK325 := n0_; have BK329 := n1_; have BK335 := n2_; have HB := n3_; have HI330 := n4_; clear n0_ n1_ n2_ n3_ n4_; (try clear hb); (try clear hb2); (try clear hk); (try clear hi)))
  (try simp only [Act.put, lS, l0_, l1_])
  go_cut [] (fun wc => ∃ (kq : Nat) (x331000_11 : ByteArray) (x331001_11 : Int) (x331002_11 : Bool) (x336007_11 : List Int) (u336007 : Value), Aside0 (impl_EventRead.j1 kq a0 x331000_11 x331001_11 x331002_11 t331 t336 t340 t344 t348 t352 t356 x336007_11 0 = some (r1, r2, r3, r4, r5, r6, r7, r8, r9, r10)) ∧ Aside0 (kq ≤ k) ∧ Aside0 (Kd.R (Kd.int .i64) 2 wc w.heap.size (fun _ => True) u336007 x336007_11) ∧ Aside0 (wc.heap[gb325]? = some (.cells #[.int .i64 0, .int .i64 0, .int .i64 0, .int .i64 0, .int .i64 0, .int .i64 0, .string (⟨#[]⟩ : ByteArray), (.slice none 0 0), .int .i64 0, .int .i64 0] 26 (0, 0))) ∧ Aside0 (wc.heap[gb329]? = some (.cells #[.string t326, .int .i64 t327, .int .i64 t328] 40 (0, 0))) ∧ Aside0 (wc.heap[gb335]? = some (.cells #[.int .i64 t331, .int .i64 t336, .int .i64 t340, .int .i64 t344, .int .i64 t348, .int .i64 t352, .string t356, u336007, .int .i64 0] 24 (0, 0))) ∧ Aside0 (IsS50 w wc gb330 x331000_11 x331001_11 x331002_11) ∧ Aside0 (Below w.heap.size w wc))
  case first =>
   have H := HC12.out
   clear HC12
   have H' := Aside0.mk H
   clear H
   go_wp2
   go_loopg [6] k (fun kq v6 w' => ∃ (x6_1 : Int) (x331000_1 : ByteArray) (x331001_1 : Int) (x331002_1 : Bool) (x336007_1 : List Int) (u336007 : Value), v6 = .int .i64 x6_1 ∧ Aside0 (impl_EventRead.l0 kq a0 x6_1 x331000_1 x331001_1 x331002_1 t331 t336 t340 t344 t348 t352 t356 x336007_1 0 = some (r1, r2, r3, r4, r5, r6, r7, r8, r9, r10)) ∧ Aside0 (kq ≤ k) ∧ Aside0 (Kd.R (Kd.int .i64) 2 w' w.heap.size (fun _ => True) u336007 x336007_1) ∧ Aside0 (w'.heap[gb325]? = some (.cells #[.int .i64 0, .int .i64 0, .int .i64 0, .int .i64 0, .int .i64 0, .int .i64 0, .string (⟨#[]⟩ : ByteArray), (.slice none 0 0), .int .i64 0, .int .i64 0] 26 (0, 0))) ∧ Aside0 (w'.heap[gb329]? = some (.cells #[.string t326, .int .i64 t327, .int .i64 t328] 40 (0, 0))) ∧ Aside0 (w'.heap[gb335]? = some (.cells #[.int .i64 t331, .int .i64 t336, .int .i64 t340, .int .i64 t344, .int .i64 t348, .int .i64 t352, .string t356, u336007, .int .i64 0] 24 (0, 0))) ∧ Aside0 (IsS50 w w' gb330 x331000_1 x331001_1 x331002_1) ∧ Aside0 (Below w.heap.size w w'))
   case atStart => exact ⟨(t360), (t361), (t362), (t363), (([] : List Int)), (.slice none 0 0), (by first | rfl | (simp; done) | (simp [*]; done)), H', ⟨Nat.le_refl _⟩, ⟨by first | exact Kd.R_nil _ _ _ _ _ | exact Kd.N_nil _ _ _ _ _ | exact Kd.V_nil _ _ _ _ _ | exact Kd.Q_nil _ _ _ _ _ | exact Kd.S_nil _ _ _ _ _⟩, ⟨(a4_ BK325.out)⟩, ⟨(a4_ BK329.out)⟩, ⟨(a4_ BK335.out)⟩, ⟨(a14_ HI330.out NB330_325.out NB330_329.out NB330_335.out)⟩, ⟨(a15_ HB.out HI330.out GE325.out GE329.out GE335.out)⟩⟩
   case round =>
    clear H'
    try clear c1
    try clear c2
    try clear p2
    try clear c3
    try clear c3b0
    try clear c3b1
    try clear c6
    try clear c16
    try clear c21
    try clear c22
    try clear c23
    try clear hcz17_0
    try clear hcz17_1
    try clear hcz17_2
    try clear hcz24_0
    try clear hcz24_1
    try clear hcz24_2
    try clear hcz24_3
    try clear hcz24_4
    try clear hcz24_5
    try clear hcz24_6
    try clear hcz24_7
    try clear hcz24_8
    try clear hcz26_0
    try clear hcz26_1
    try clear hcz26_2
    try clear hcz26_3
    try clear hcz26_4
    try clear hcz26_5
    try clear hcz26_6
    try clear hcz26_7
    try clear hcz26_8
    try clear hcz28_0
    try clear hcz28_1
    try clear hcz28_2
    try clear hcz28_3
    try clear hcz28_4
    try clear hcz28_5
    try clear hcz28_6
    try clear hcz28_7
    try clear hcz28_8
    try clear hcz30_0
    try clear hcz30_1
    try clear hcz30_2
    try clear hcz30_3
    try clear hcz30_4
    try clear hcz30_5
    try clear hcz30_6
    try clear hcz30_7
    try clear hcz30_8
    try clear hcz32_0
    try clear hcz32_1
    try clear hcz32_2
    try clear hcz32_3
    try clear hcz32_4
    try clear hcz32_5
    try clear hcz32_6
    try clear hcz32_7
    try clear hcz32_8
    try clear hcz34_0
    try clear hcz34_1
    try clear hcz34_2
    try clear hcz34_3
    try clear hcz34_4
    try clear hcz34_5
    try clear hcz34_6
    try clear hcz34_7
    try clear hcz34_8
    try clear hcz36_0
    try clear hcz36_1
    try clear hcz36_2
    try clear hcz36_3
    try clear hcz36_4
    try clear hcz36_5
    try clear hcz36_6
    try clear hcz36_7
    try clear hcz36_8
    try clear hfz17_0
    try clear hfz17_1
    try clear hfz17_2
    try clear hfz24_0
    try clear hfz24_1
    try clear hfz24_2
    try clear hfz24_3
    try clear hfz24_4
    try clear hfz24_5
    try clear hfz24_6
    try clear hfz24_7
    try clear hfz24_8
    try clear hfz26_0
    try clear hfz26_1
    try clear hfz26_2
    try clear hfz26_3
    try clear hfz26_4
    try clear hfz26_5
    try clear hfz26_6
    try clear hfz26_7
    try clear hfz26_8
    try clear hfz28_0
    try clear hfz28_1
    try clear hfz28_2
    try clear hfz28_3
    try clear hfz28_4
    try clear hfz28_5
    try clear hfz28_6
    try clear hfz28_7
    try clear hfz28_8
    try clear hfz30_0
    try clear hfz30_1
    try clear hfz30_2
    try clear hfz30_3
    try clear hfz30_4
    try clear hfz30_5
    try clear hfz30_6
    try clear hfz30_7
    try clear hfz30_8
    try clear hfz32_0
    try clear hfz32_1
    try clear hfz32_2
    try clear hfz32_3
    try clear hfz32_4
    try clear hfz32_5
    try clear hfz32_6
    try clear hfz32_7
    try clear hfz32_8
    try clear hfz34_0
    try clear hfz34_1
    try clear hfz34_2
    try clear hfz34_3
    try clear hfz34_4
    try clear hfz34_5
    try clear hfz34_6
    try clear hfz34_7
    try clear hfz34_8
    try clear hfz36_0
    try clear hfz36_1
    try clear hfz36_2
    try clear hfz36_3
    try clear hfz36_4
    try clear hfz36_5
    try clear hfz36_6
    try clear hfz36_7
    try clear hfz36_8
    obtain ⟨x6_1, x331000_1, x331001_1, x331002_1, x336007_1, u336007, rfl, HA, HK1, HO_336007, BK325, BK329, BK335, HI330, HB⟩ := hrel
    cases gk with
    | zero => exact absurd HA.out (by simp [impl_EventRead.l0])
    | succ k1 =>
     have H := HA.out
     clear HA
     simp only [impl_EventRead.l0] at H
     by_cases c38 : x6_1 > 0
     ·
      rw [if_pos c38] at H
      have c38b0 : decide (0 < x6_1) = true := decide_eq_true c38
      clear c38
      (first | rw [c38b0] | (simp only [i64_w, i32_w]; rw [c38b0]) | skip)
      by_cases c39 : x331002_1 = true
      ·
       subst c39
       have H1 : (impl_EventRead.j1 k1 a0 x331000_1 x331001_1 true t331 t336 t340 t344 t348 t352 t356 x336007_1 0) = some (r1, r2, r3, r4, r5, r6, r7, r8, r9, r10) := by rw [if_pos rfl] at H; exact H
       clear H
       have H := H1
       clear H1
       have H' := Aside0.mk H
       clear H
       obtain ⟨HGz40, hgz40⟩ := HI330.out
       have hcz40_0 := cellS50_0 HGz40
       have hcz40_1 := cellS50_1 HGz40
       have hcz40_2 := cellS50_2 HGz40
       have hfz40_0 := blk_frozen HGz40 0
       have hfz40_1 := blk_frozen HGz40 1
       have hfz40_2 := blk_frozen HGz40 2
       clear HGz40 hgz40
       go_wp2
       go_meet
       case rel => exact ⟨_, (x331000_1), (x331001_1), (true), (x336007_1), (u336007), H', ⟨by have := HK1.out; first | omega | exact Nat.le_refl _⟩, ⟨(a11_ HO_336007.out)⟩, ⟨(a4_ BK325.out)⟩, ⟨(a4_ BK329.out)⟩, ⟨(a4_ BK335.out)⟩, ⟨(a14_ HI330.out NB330_325.out NB330_329.out NB330_335.out)⟩, ⟨(a15_ HB.out HI330.out GE325.out GE329.out GE335.out)⟩⟩
      ·
       replace c39 := Bool.eq_false_iff.mpr c39
       subst c39
       have H1 : (if (x336007_1.length : Int) ≤ 4 then ((impl_decoder_num.f k1 x331000_1 x331001_1 false).bind fun bt364 => (if x336007_1.length < 17592186044416 then (impl_EventRead.l0 k1 a0 (wrap64 (x6_1 - 1)) bt364.2.1 bt364.2.2.1 bt364.2.2.2 t331 t336 t340 t344 t348 t352 t356 (x336007_1 ++ [bt364.1]) 0) else (none))) else (impl_EventRead.j1 k1 a0 x331000_1 x331001_1 false t331 t336 t340 t344 t348 t352 t356 x336007_1 0)) = some (r1, r2, r3, r4, r5, r6, r7, r8, r9, r10) := by rw [if_neg (show ¬ (false = true) by decide)] at H; exact H
       clear H
       have H := H1
       clear H1
       by_cases c41 : (x336007_1.length : Int) ≤ 4
       ·
        rw [if_pos c41] at H
        have c41b0 : decide ((x336007_1.length : Int) ≤ 4) = true := decide_eq_true c41
        have c41b1 : decide (x336007_1.length ≤ 4) = true := decide_eq_true (by omega)
        clear c41
        replace H := Option.bind_eq_some_iff.mp H
        obtain ⟨⟨t364, t365, t366, t367⟩, A420, H⟩ := H
        replace H : (if x336007_1.length < 17592186044416 then (impl_EventRead.l0 k1 a0 (wrap64 (x6_1 - 1)) t365 t366 t367 t331 t336 t340 t344 t348 t352 t356 (x336007_1 ++ [t364]) 0) else (none)) = some (r1, r2, r3, r4, r5, r6, r7, r8, r9, r10) := H
        have A42 := Aside0.mk A420
        clear A420
        by_cases c43 : x336007_1.length < 17592186044416
        ·
         rw [if_pos c43] at H
         have LMc43 := Aside0.mk c43
         clear c43
         obtain ⟨y368, hy368⟩ : ∃ y_ : List Int, y_ = (x336007_1 ++ [t364]) := ⟨_, rfl⟩
         replace H : (impl_EventRead.l0 k1 a0 (wrap64 (x6_1 - 1)) t365 t366 t367 t331 t336 t340 t344 t348 t352 t356 y368 0) = some (r1, r2, r3, r4, r5, r6, r7, r8, r9, r10) := by first | (rw [hy368]; with_reducible exact H) | (have H2_ := (Option.bind_some _ _).symm.trans H; rw [hy368]; with_reducible exact H2_) | (have H2_ := (Option.bind_some _ _).symm.trans H; with_reducible exact H2_) | with_reducible exact H | (rw [hy368]; exact H) | exact H
         have Ny368 := Aside0.mk hy368
         clear hy368
         have H' := Aside0.mk H
         clear H
         obtain ⟨HGz44, hgz44⟩ := HI330.out
         have hcz44_0 := cellS50_0 HGz44
         have hcz44_1 := cellS50_1 HGz44
         have hcz44_2 := cellS50_2 HGz44
         have hfz44_0 := blk_frozen HGz44 0
         have hfz44_1 := blk_frozen HGz44 1
         have hfz44_2 := blk_frozen HGz44 2
         clear HGz44 hgz44
         have hnb45 := NB335_325.out
         have hnc45 := NB325_335.out
         have hnb46 := NB335_329.out
         have hnc46 := NB329_335.out
         have hnb47 := NB335_330.out
         have hnc47 := NB330_335.out
         obtain ⟨⟨hcz48_0, hcz48_1, hcz48_2, hcz48_3, hcz48_4, hcz48_5, hcz48_6, hcz48_7, hcz48_8⟩, hfz48_0, hfz48_1, hfz48_2, hfz48_3, hfz48_4, hfz48_5, hfz48_6, hfz48_7, hfz48_8⟩ := cells_9 BK335.out
         obtain ⟨Ao49, co49, eo49⟩ := Kd.R_slice HO_336007.out
         subst eo49
         try go_wp2
         have n0_ := Aside0.mk (Kd.R_drew HO_336007.out)
         have n1_ := Aside0.mk (blk_drew BK325.out)
         have n2_ := Aside0.mk (blk_drew BK329.out)
         have n3_ := Aside0.mk (blk_drew BK335.out)
         have n4_ := Aside0.mk (IsS50.drew HI330.out)
         have n5_ := Aside0.mk (below_drew1 HB.out)
         clear HO_336007
         clear BK325
         clear BK329
         clear BK335
         clear HI330
         clear HB
         have HO_336007 := n0_
         have BK325 := n1_
         have BK329 := n2_
         have BK335 := n3_
         have HI330 := n4_
         have HB := n5_
         clear n0_ n1_ n2_ n3_ n4_ n5_
         refine start_ (n := 8) (S := fun w' => w'.cell? ⟨gb335, 7, none⟩ = some (.slice Ao49 x336007_1.length co49)) (ds := [7]) #[false, false, false, false, false, false, false, false] (by kernel_rfl) rfl rfl ((blk_cell BK335.out 7).trans rfl) (fun hHeld => ?_); refine with_tabW impl_EventRead.tab15 impl_EventRead.bits15 (fun HT_ HW_ => ?_)
         generalize wr.drew = w50 at HO_336007 BK325 BK329 BK335 HI330 HB hHeld ⊢
         refine pure_ (i := 0) (N := some 59) (v := ?_) (a' := ?_) #[true, false, false, false, false, false, false, false] rfl rfl (any_of HT_.out (by kernel_rfl)) (fun _ _ _ h => h) (Or.inl ⟨by rfl, ?_⟩) ?_ ?_
         rotate_left
         ·
          intro w'
          go_simp
          with_reducible rfl
         rotate_left
         ·
          simp only [Act.put, lS, l0_, l1_, i64_w, i32_w]
          rfl
         refine pure_ (i := 2) (N := some 61) (v := ?_) (a' := ?_) #[true, false, true, false, false, false, false, false] rfl rfl (any_of HT_.out (by kernel_rfl)) (fun _ _ _ h => h) (Or.inl ⟨by rfl, ?_⟩) ?_ ?_
         rotate_left
         ·
          intro w'
          go_simp
          with_reducible rfl
         rotate_left
         ·
          simp only [Act.put, lS, l0_, l1_, i64_w, i32_w]
          rfl
         refine take_ (i := 1) (N := some 60) (v := ?_) (a' := ?_) #[true, true, true, false, false, false, false, false] rfl rfl (take_ofW HT_.out HW_.out (by kernel_rfl)) (fun _ _ _ h => h) (Or.inl ⟨by rfl, ?_⟩) hHeld ?_ ?_
         rotate_left
         ·
          intro w' s0
          go_simp
          with_reducible rfl
         rotate_left
         ·
          simp only [Act.put, lS, l0_, l1_, i64_w, i32_w]
          rfl
         refine one_ (i := 3) (N := some 62) #[true, true, true, true, false, false, false, false] rfl rfl (one_of HT_.out (by kernel_rfl)) (by decide) (fun K hK => ?_)
         refine goes_ Try.func22 (by kernel_rfl) rfl #[.pointer (some ⟨gb330, 0, none⟩)] (by rfl) rfl rfl (by (try simp only [List.map_toArray, List.map_cons, List.map_nil]); first | done | rfl | (simp only [List.length_drop, List.length_take]; rfl)) ?_
         with_reducible refine (impl_decoder_num.calls k1 gb330 x331000_1 x331001_1 false t364 t365 t366 t367 w _ ?side1 ?side2 A42.out).mono ?_
         (case side1 => exact (a14_ HI330.out NB330_325.out NB330_329.out NB330_335.out))
         (case side2 => exact (a15_ HB.out HI330.out GE325.out GE329.out GE335.out))
         rintro e w51 ⟨rfl, hi, hb, hk⟩
         refine ⟨_, rfl, ?_⟩
         have n0_ := Aside0.mk (Kd.R_mono (Kd.R_keep (IsS50.apart (show IsS50 w _ gb330 x331000_1 x331001_1 false from (a14_ HI330.out NB330_325.out NB330_329.out NB330_335.out)) (a11_ HO_336007.out) (by decide)) hk (fun _ h => h.2)) (fun _ h => h.1))
         have n1_ := Aside0.mk (KeepBut.blk hk (g' := gb325) (o := .cells #[.int .i64 0, .int .i64 0, .int .i64 0, .int .i64 0, .int .i64 0, .int .i64 0, .string (⟨#[]⟩ : ByteArray), .slice none 0 0, .int .i64 0, .int .i64 0] 26 (0, 0)) (a4_ BK325.out) NB325_330.out (by simp))
         have n2_ := Aside0.mk (KeepBut.blk hk (g' := gb329) (o := .cells #[.string t326, .int .i64 t327, .int .i64 t328] 40 (0, 0)) (a4_ BK329.out) NB329_330.out (by simp))
         have n3_ := Aside0.mk (KeepBut.blk hk (g' := gb335) (o := .cells #[.int .i64 t331, .int .i64 t336, .int .i64 t340, .int .i64 t344, .int .i64 t348, .int .i64 t352, .string t356, .slice Ao49 x336007_1.length co49, .int .i64 0] 24 (0, 0)) (a4_ BK335.out) NB335_330.out (by simp))
         have n4_ := Aside0.mk (hb)
         have n5_ := Aside0.mk (hi)
         clear HO_336007
         clear BK325
         clear BK329
         clear BK335
         clear HB
         clear HI330
         have HO_336007 := n0_
         have BK325 := n1_
         have BK329 := n2_
         have BK335 := n3_
         have HB := n4_
         have HI330 := n5_
         clear n0_ n1_ n2_ n3_ n4_ n5_
         (try clear hb)
         (try clear hb2)
         (try clear hk)
         (try clear hi)
         refine hK.out _ _ ((blk_cell BK335.out 7).trans rfl) (fun hHeld => ?_)
         clear hK K
         refine norm_ (a' := ?_) ?_ ?_
         rotate_left
         ·
          show Act.put _ (some 62) _ = _
          simp only [Act.put, lS, l0_, l1_, i64_w, i32_w]
          rfl
         refine one_ (i := 4) (N := some 63) #[true, true, true, true, true, false, false, false] rfl rfl (one_of HT_.out (by kernel_rfl)) (by decide) (fun K hK => ?_)
         refine value_ (w1 := ?_) (v := ?_) (by rfl) rfl ?_ ?_
         rotate_left 2
         ·
          go_simp
          constructor
          ·
           rfl
          ·
           rfl
         refine hK.out _ _ ((blk_cell (blk_alloc BK335.out _) 7).trans rfl) (fun hHeld => ?_)
         clear hK K
         refine norm_ (a' := ?_) ?_ ?_
         rotate_left
         ·
          show Act.put _ (some 63) _ = _
          simp only [Act.put, lS, l0_, l1_, i64_w, i32_w]
          rfl
         refine one_ (i := 5) (N := some 64) #[true, true, true, true, true, true, false, false] rfl rfl (one_of HT_.out (by kernel_rfl)) (by decide) (fun K hK => ?_)
         refine Kd.R_append_step (Kd.int .i64) (w0 := w) w.heap.size (by rfl) (.tmp 60) (.tmp 63) 22 2 (.int .i64 0) 8 rfl Try.underlying22 info2 rfl (by decide) (by omega) (.slice Ao49 x336007_1.length co49) x336007_1 t364 [.int .i64 t364] (fun _ => True) (fun _ => False) rfl rfl ?aP (fun _ hk => hk.elim) ?aF ?aO ?aB ?aS ?aL ?_
         (case aP => exact rfl)
         (case aB => exact (a15_ HB.out HI330.out GE325.out GE329.out GE335.out))
         (case aF => exact (fun _ _ => trivial))
         (case aO => exact (a11_ HO_336007.out))
         (case aS => exact (below_size (a15_ HB.out HI330.out GE325.out GE329.out GE335.out)))
         (case aL => have := LMc43.out; omega)
         intro v369 w52 ho hb hg hat
         rw [← Ny368.out] at ho
         have n0_ := Aside0.mk (blk_grown (g := gb325) (o := .cells #[.int .i64 0, .int .i64 0, .int .i64 0, .int .i64 0, .int .i64 0, .int .i64 0, .string (⟨#[]⟩ : ByteArray), .slice none 0 0, .int .i64 0, .int .i64 0] 26 (0, 0)) (a4_ BK325.out) hg (Kd.R_ne HO_336007.out BK325.out (by decide)))
         have n1_ := Aside0.mk (blk_grown (g := gb329) (o := .cells #[.string t326, .int .i64 t327, .int .i64 t328] 40 (0, 0)) (a4_ BK329.out) hg (Kd.R_ne HO_336007.out BK329.out (by decide)))
         have n2_ := Aside0.mk (blk_grown (g := gb335) (o := .cells #[.int .i64 t331, .int .i64 t336, .int .i64 t340, .int .i64 t344, .int .i64 t348, .int .i64 t352, .string t356, .slice Ao49 x336007_1.length co49, .int .i64 0] 24 (0, 0)) (a4_ BK335.out) hg (Kd.R_ne HO_336007.out BK335.out (by decide)))
         have n3_ := Aside0.mk (IsS50.grown (a14_ HI330.out NB330_325.out NB330_329.out NB330_335.out) hg (IsS50.own_ne HI330.out HO_336007.out (by decide)))
         have n4_ := Aside0.mk (hb)
         have n5_ := Aside0.mk (ho)
         clear BK325
         clear BK329
         clear BK335
         clear HI330
         clear HB
         clear HO_336007
         have BK325 := n0_
         have BK329 := n1_
         have BK335 := n2_
         have HI330 := n3_
         have HB := n4_
         have HO370 := n5_
         clear n0_ n1_ n2_ n3_ n4_ n5_
         clear ho hb hg hat
         obtain ⟨Ao53, co53, eo53⟩ := Kd.R_slice HO370.out
         (first | subst eo53 | (injection eo53 with f1_ f2_ f3_; have f4_ := f1_.symm; have f5_ := f3_.symm; clear f1_ f2_ f3_; subst f4_; subst f5_))
         refine hK.out _ _ ((blk_cell BK335.out 7).trans rfl) (fun hHeld => ?_)
         clear hK K
         refine norm_ (a' := ?_) ?_ ?_
         rotate_left
         ·
          show Act.put _ (some 64) _ = _
          simp only [Act.put, lS, l0_, l1_, i64_w, i32_w]
          rfl
         refine pure_ (i := 6) (N := some 65) (v := ?_) (a' := ?_) #[true, true, true, true, true, true, true, false] rfl rfl (any_of HT_.out (by kernel_rfl)) (fun _ _ _ h => h) (Or.inl ⟨by rfl, ?_⟩) ?_ ?_
         rotate_left
         ·
          intro w'
          go_simp
          with_reducible rfl
         rotate_left
         ·
          simp only [Act.put, lS, l0_, l1_, i64_w, i32_w]
          rfl
         refine last_ (i := 7) (N := none) #[true, true, true, true, true, true, true, true] rfl rfl (one_of HT_.out (by kernel_rfl)) (by decide) (fun K hK => ?_)
         have hs54 : w52.cell? ⟨gb335, 7, none⟩ = some (.slice Ao49 x336007_1.length co49) := (blk_cell BK335.out 7).trans rfl
         have hfs54 := blk_frozen BK335.out 7
         have hns54_0 := NB325_335.out
         have hns54_1 := NB329_335.out
         have hms54_0 := NB335_325.out
         have hms54_1 := NB335_329.out
         refine skip_ (w1 := ?_) (by rfl) rfl ?_ ?_
         rotate_left
         ·
          go_simp
          rfl
         refine hK.out _ _ ?_
         clear hK K
         refine done_ (done_of HT_.out (by kernel_rfl)) ?_
         try go_wp2
         go_roundg k1
         case measure => have := HK1.out; omega
         case rel => exact ⟨(wrap64 (x6_1 - 1)), (t365), (t366), (t367), (y368), (.slice Ao53 y368.length co53), (by first | rfl | (simp; done) | (simp [*]; done)), H', ⟨by have := HK1.out; omega⟩, ⟨by (with_reducible repeat (first | apply Kd.R_alloc | apply Kd.R_drewN | apply Kd.R_drew)); exact Kd.R_mono (Kd.R_far (p := ⟨gb335, 7, none⟩) (Kd.R_types HO370.out BK335.out (by decide)) (fun _ hk => hk.2) (.slice Ao53 y368.length co53)) (fun _ hk => trivial)⟩, ⟨by (with_reducible repeat (first | refine blk_drewN ?_ _ | refine blk_drew ?_ | refine blk_alloc ?_ _)); refine blk_far ?_ NB325_335.out _; (with_reducible repeat (first | refine blk_drewN ?_ _ | refine blk_drew ?_ | refine blk_alloc ?_ _)); exact BK325.out⟩, ⟨by (with_reducible repeat (first | refine blk_drewN ?_ _ | refine blk_drew ?_ | refine blk_alloc ?_ _)); refine blk_far ?_ NB329_335.out _; (with_reducible repeat (first | refine blk_drewN ?_ _ | refine blk_drew ?_ | refine blk_alloc ?_ _)); exact BK329.out⟩, ⟨by (with_reducible repeat (first | refine blk_drewN ?_ _ | refine blk_drew ?_ | refine blk_alloc ?_ _)); refine blk_put (cs := #[.int .i64 t331, .int .i64 t336, .int .i64 t340, .int .i64 t344, .int .i64 t348, .int .i64 t352, .string t356, .slice Ao49 x336007_1.length co49, .int .i64 0]) ?_ 7 _ rfl; (with_reducible repeat (first | refine blk_drewN ?_ _ | refine blk_drew ?_ | refine blk_alloc ?_ _)); exact BK335.out⟩, ⟨(a14_ HI330.out NB330_325.out NB330_329.out NB330_335.out)⟩, ⟨(a15_ HB.out HI330.out GE325.out GE329.out GE335.out)⟩⟩
        ·
         rw [if_neg c43] at H
         exact absurd H (by simp)
       ·
        rw [if_neg c41] at H
        have c41b0 : decide ((x336007_1.length : Int) ≤ 4) = false := decide_eq_false c41
        have c41b1 : decide (x336007_1.length ≤ 4) = false := decide_eq_false (by omega)
        clear c41
        have H' := Aside0.mk H
        clear H
        obtain ⟨HGz55, hgz55⟩ := HI330.out
        have hcz55_0 := cellS50_0 HGz55
        have hcz55_1 := cellS50_1 HGz55
        have hcz55_2 := cellS50_2 HGz55
        have hfz55_0 := blk_frozen HGz55 0
        have hfz55_1 := blk_frozen HGz55 1
        have hfz55_2 := blk_frozen HGz55 2
        clear HGz55 hgz55
        have hnb56 := NB335_325.out
        have hnc56 := NB325_335.out
        have hnb57 := NB335_329.out
        have hnc57 := NB329_335.out
        have hnb58 := NB335_330.out
        have hnc58 := NB330_335.out
        obtain ⟨⟨hcz59_0, hcz59_1, hcz59_2, hcz59_3, hcz59_4, hcz59_5, hcz59_6, hcz59_7, hcz59_8⟩, hfz59_0, hfz59_1, hfz59_2, hfz59_3, hfz59_4, hfz59_5, hfz59_6, hfz59_7, hfz59_8⟩ := cells_9 BK335.out
        obtain ⟨Ao60, co60, eo60⟩ := Kd.R_slice HO_336007.out
        subst eo60
        go_wp2
        go_meet
        case rel => exact ⟨_, (x331000_1), (x331001_1), (false), (x336007_1), (.slice Ao60 x336007_1.length co60), H', ⟨by have := HK1.out; first | omega | exact Nat.le_refl _⟩, ⟨(a11_ HO_336007.out)⟩, ⟨(a4_ BK325.out)⟩, ⟨(a4_ BK329.out)⟩, ⟨(a4_ BK335.out)⟩, ⟨(a14_ HI330.out NB330_325.out NB330_329.out NB330_335.out)⟩, ⟨(a15_ HB.out HI330.out GE325.out GE329.out GE335.out)⟩⟩
     ·
      rw [if_neg c38] at H
      have c38b0 : decide (0 < x6_1) = false := decide_eq_false c38
      clear c38
      (first | rw [c38b0] | (simp only [i64_w, i32_w]; rw [c38b0]) | skip)
      have H' := Aside0.mk H
      clear H
      go_wp2
      go_meet
      case rel => exact ⟨_, (x331000_1), (x331001_1), (x331002_1), (x336007_1), (u336007), H', ⟨by have := HK1.out; first | omega | exact Nat.le_refl _⟩, ⟨(a11_ HO_336007.out)⟩, ⟨(a4_ BK325.out)⟩, ⟨(a4_ BK329.out)⟩, ⟨(a4_ BK335.out)⟩, ⟨(a14_ HI330.out NB330_325.out NB330_329.out NB330_335.out)⟩, ⟨(a15_ HB.out HI330.out GE325.out GE329.out GE335.out)⟩⟩
  case rest =>
   clear HC12
   try clear c1
   try clear c2
   try clear p2
   try clear c3
   try clear c3b0
   try clear c3b1
   try clear c4
   try clear c5
   try clear c6
   try clear p6
   try clear c16
   try clear c21
   try clear c22
   try clear c23
   try clear c38
   try clear c38b0
   try clear c39
   try clear c41
   try clear c41b0
   try clear c41b1
   try clear c43
   try clear c45
   try clear c46
   try clear c47
   try clear c56
   try clear c57
   try clear c58
   try clear hcz17_0
   try clear hcz17_1
   try clear hcz17_2
   try clear hcz24_0
   try clear hcz24_1
   try clear hcz24_2
   try clear hcz24_3
   try clear hcz24_4
   try clear hcz24_5
   try clear hcz24_6
   try clear hcz24_7
   try clear hcz24_8
   try clear hcz26_0
   try clear hcz26_1
   try clear hcz26_2
   try clear hcz26_3
   try clear hcz26_4
   try clear hcz26_5
   try clear hcz26_6
   try clear hcz26_7
   try clear hcz26_8
   try clear hcz28_0
   try clear hcz28_1
   try clear hcz28_2
   try clear hcz28_3
   try clear hcz28_4
   try clear hcz28_5
   try clear hcz28_6
   try clear hcz28_7
   try clear hcz28_8
   try clear hcz30_0
   try clear hcz30_1
   try clear hcz30_2
   try clear hcz30_3
   try clear hcz30_4
   try clear hcz30_5
   try clear hcz30_6
   try clear hcz30_7
   try clear hcz30_8
   try clear hcz32_0
   try clear hcz32_1
   try clear hcz32_2
   try clear hcz32_3
   try clear hcz32_4
   try clear hcz32_5
   try clear hcz32_6
   try clear hcz32_7
   try clear hcz32_8
   try clear hcz34_0
   try clear hcz34_1
   try clear hcz34_2
   try clear hcz34_3
   try clear hcz34_4
   try clear hcz34_5
   try clear hcz34_6
   try clear hcz34_7
   try clear hcz34_8
   try clear hcz36_0
   try clear hcz36_1
   try clear hcz36_2
   try clear hcz36_3
   try clear hcz36_4
   try clear hcz36_5
   try clear hcz36_6
   try clear hcz36_7
   try clear hcz36_8
   try clear hcz40_0
   try clear hcz40_1
   try clear hcz40_2
   try clear hcz44_0
   try clear hcz44_1
   try clear hcz44_2
   try clear hcz48_0
   try clear hcz48_1
   try clear hcz48_2
   try clear hcz48_3
   try clear hcz48_4
   try clear hcz48_5
   try clear hcz48_6
   try clear hcz48_7
   try clear hcz48_8
   try clear hcz55_0
   try clear hcz55_1
   try clear hcz55_2
   try clear hcz59_0
   try clear hcz59_1
   try clear hcz59_2
   try clear hcz59_3
   try clear hcz59_4
   try clear hcz59_5
   try clear hcz59_6
   try clear hcz59_7
   try clear hcz59_8
   try clear hfz17_0
   try clear hfz17_1
   try clear hfz17_2
   try clear hfz24_0
   try clear hfz24_1
   try clear hfz24_2
   try clear hfz24_3
   try clear hfz24_4
   try clear hfz24_5
   try clear hfz24_6
   try clear hfz24_7
   try clear hfz24_8
   try clear hfz26_0
   try clear hfz26_1
   try clear hfz26_2
   try clear hfz26_3
   try clear hfz26_4
   try clear hfz26_5
   try clear hfz26_6
   try clear hfz26_7
   try clear hfz26_8
   try clear hfz28_0
   try clear hfz28_1
   try clear hfz28_2
   try clear hfz28_3
   try clear hfz28_4
   try clear hfz28_5
   try clear hfz28_6
   try clear hfz28_7
   try clear hfz28_8
   try clear hfz30_0
   try clear hfz30_1
   try clear hfz30_2
   try clear hfz30_3
   try clear hfz30_4
   try clear hfz30_5
   try clear hfz30_6
   try clear hfz30_7
   try clear hfz30_8
   try clear hfz32_0
   try clear hfz32_1
   try clear hfz32_2
   try clear hfz32_3
   try clear hfz32_4
   try clear hfz32_5
   try clear hfz32_6
   try clear hfz32_7
   try clear hfz32_8
   try clear hfz34_0
   try clear hfz34_1
   try clear hfz34_2
   try clear hfz34_3
   try clear hfz34_4
   try clear hfz34_5
   try clear hfz34_6
   try clear hfz34_7
   try clear hfz34_8
   try clear hfz36_0
   try clear hfz36_1
   try clear hfz36_2
   try clear hfz36_3
   try clear hfz36_4
   try clear hfz36_5
   try clear hfz36_6
   try clear hfz36_7
   try clear hfz36_8
   try clear hfz40_0
   try clear hfz40_1
   try clear hfz40_2
   try clear hfz44_0
   try clear hfz44_1
   try clear hfz44_2
   try clear hfz48_0
   try clear hfz48_1
   try clear hfz48_2
   try clear hfz48_3
   try clear hfz48_4
   try clear hfz48_5
   try clear hfz48_6
   try clear hfz48_7
   try clear hfz48_8
   try clear hfz55_0
   try clear hfz55_1
   try clear hfz55_2
   try clear hfz59_0
   try clear hfz59_1
   try clear hfz59_2
   try clear hfz59_3
   try clear hfz59_4
   try clear hfz59_5
   try clear hfz59_6
   try clear hfz59_7
   try clear hfz59_8
   try clear p2
   obtain ⟨kq, x331000_11, x331001_11, x331002_11, x336007_11, u336007, HA, HJ11, HO_336007, BK325, BK329, BK335, HI330, HB⟩ := hcut
   cases kq with
   | zero => exact absurd HA.out (by simp [impl_EventRead.j1])
   | succ kj11 =>
    have H := HA.out
    clear HA
    simp only [impl_EventRead.j1] at H
    replace H := Option.bind_eq_some_iff.mp H
    obtain ⟨⟨t371, t372, t373, t374⟩, A610, H⟩ := H
    replace H : (if t374 = true then (some (0, 0, 0, 0, 0, 0, (⟨#[]⟩ : ByteArray), ([] : List Int), 0, 3)) else ((impl_EventBytes.f kj11 t331 t336 t340 t344 t348 t352 t356 x336007_11 t371).bind fun t375 => (if t375.toList = a0.toList then (some (t331, t336, t340, t344, t348, t352, t356, x336007_11, t371, 0)) else (some (0, 0, 0, 0, 0, 0, (⟨#[]⟩ : ByteArray), ([] : List Int), 0, 3))))) = some (r1, r2, r3, r4, r5, r6, r7, r8, r9, r10) := H
    have A61 := Aside0.mk A610
    clear A610
    by_cases c62 : t374 = true
    ·
     subst c62
     have H1 : (some (0, 0, 0, 0, 0, 0, (⟨#[]⟩ : ByteArray), ([] : List Int), 0, 3)) = some (r1, r2, r3, r4, r5, r6, r7, r8, r9, r10) := by rw [if_pos rfl] at H; exact H
     clear H
     have H := H1
     clear H1
     simp only [Option.some.injEq, Prod.mk.injEq] at H
     obtain ⟨rfl, rfl, rfl, rfl, rfl, rfl, rfl, rfl, rfl, rfl⟩ := H
     go_wp2_with (first | ((with_reducible refine gate_callee (f := 22) rfl ?_); refine goesL_ (some 67) rfl rfl Try.func22 (by kernel_rfl) rfl #[.pointer (some ⟨gb330, 0, none⟩)] rfl (by (try simp only [List.map_toArray, List.map_cons, List.map_nil]); first | done | rfl | (simp only [List.length_drop, List.length_take]; rfl)) ?_; (with_reducible refine (impl_decoder_num.calls kj11 gb330 x331000_11 x331001_11 x331002_11 t371 t372 t373 true w _ ?side1 ?side2 A61.out).mono ?_); (case side1 => exact (a14_ HI330.out NB330_325.out NB330_329.out NB330_335.out)); (case side2 => exact (a15_ HB.out HI330.out GE325.out GE329.out GE335.out)); rintro e w63 ⟨rfl, hi, hb, hk⟩; refine ⟨_, rfl, ?_⟩; have n0_ := Aside0.mk (Kd.R_mono (Kd.R_keep (IsS50.apart (show IsS50 w _ gb330 x331000_11 x331001_11 x331002_11 from (a14_ HI330.out NB330_325.out NB330_329.out NB330_335.out)) (a11_ HO_336007.out) (by decide)) hk (fun _ h => h.2)) (fun _ h => h.1)); have n1_ := Aside0.mk (KeepBut.blk hk (g' := gb325) (o := .cells #[.int .i64 0, .int .i64 0, .int .i64 0, .int .i64 0, .int .i64 0, .int .i64 0, .string (⟨#[]⟩ : ByteArray), .slice none 0 0, .int .i64 0, .int .i64 0] 26 (0, 0)) (a4_ BK325.out) NB325_330.out (by simp)); have n2_ := Aside0.mk (KeepBut.blk hk (g' := gb329) (o := .cells #[.string t326, .int .i64 t327, .int .i64 t328] 40 (0, 0)) (a4_ BK329.out) NB329_330.out (by simp)); have n3_ := Aside0.mk (KeepBut.blk hk (g' := gb335) (o := .cells #[.int .i64 t331, .int .i64 t336, .int .i64 t340, .int .i64 t344, .int .i64 t348, .int .i64 t352, .string t356, u336007, .int .i64 0] 24 (0, 0)) (a4_ BK335.out) NB335_330.out (by simp)); have n4_ := Aside0.mk (hb); have n5_ := Aside0.mk (hi); clear HO_336007; clear BK325; clear BK329; clear BK335; clear HB; clear HI330; have HO_336007 := n0_; have BK325 := n1_; have BK329 := n2_; have BK335 := n3_; have HB := n4_; have HI330 := n5_; clear n0_ n1_ n2_ n3_ n4_ n5_; (try clear hb); (try clear hb2); (try clear hk); (try clear hi); have hnb64 := NB335_325.out; have hnc64 := NB325_335.out; have hnb65 := NB335_329.out; have hnc65 := NB329_335.out; have hnb66 := NB335_330.out; have hnc66 := NB330_335.out; obtain ⟨⟨hcz67_0, hcz67_1, hcz67_2, hcz67_3, hcz67_4, hcz67_5, hcz67_6, hcz67_7, hcz67_8⟩, hfz67_0, hfz67_1, hfz67_2, hfz67_3, hfz67_4, hfz67_5, hfz67_6, hfz67_7, hfz67_8⟩ := cells_9 BK335.out; obtain ⟨HGz68, hgz68⟩ := HI330.out; have hcz68_0 := cellS50_0 HGz68; have hcz68_1 := cellS50_1 HGz68; have hcz68_2 := cellS50_2 HGz68; have hfz68_0 := blk_frozen HGz68 0; have hfz68_1 := blk_frozen HGz68 1; have hfz68_2 := blk_frozen HGz68 2; clear HGz68 hgz68; have hnb69 := NB325_329.out; have hnc69 := NB329_325.out; have hnb70 := NB325_330.out; have hnc70 := NB330_325.out; obtain ⟨⟨hcz71_0, hcz71_1, hcz71_2, hcz71_3, hcz71_4, hcz71_5, hcz71_6, hcz71_7, hcz71_8, hcz71_9⟩, hfz71_0, hfz71_1, hfz71_2, hfz71_3, hfz71_4, hfz71_5, hfz71_6, hfz71_7, hfz71_8, hfz71_9⟩ := cells_10 BK325.out))
     refine bodyPost_ret (results_cell_row rfl _ _ gb325 26 #[.int .i64 0, .int .i64 0, .int .i64 0, .int .i64 0, .int .i64 0, .int .i64 0, .string (⟨#[]⟩ : ByteArray), .slice none 0 0, .int .i64 0, .int .i64 3] (0, 0) _ rfl (by (with_reducible repeat (first | refine blk_drewN ?_ _ | refine blk_drew ?_ | refine blk_alloc ?_ _)); refine blk_put (cs := #[.int .i64 0, .int .i64 0, .int .i64 0, .int .i64 0, .int .i64 0, .int .i64 0, .string (⟨#[]⟩ : ByteArray), .slice none 0 0, .int .i64 0, .int .i64 0]) ?_ 9 _ rfl; (with_reducible repeat (first | refine blk_drewN ?_ _ | refine blk_drew ?_ | refine blk_alloc ?_ _)); refine blk_put (cs := #[.int .i64 0, .int .i64 0, .int .i64 0, .int .i64 0, .int .i64 0, .int .i64 0, .string (⟨#[]⟩ : ByteArray), .slice none 0 0, .int .i64 0, .int .i64 0]) ?_ 8 _ rfl; (with_reducible repeat (first | refine blk_drewN ?_ _ | refine blk_drew ?_ | refine blk_alloc ?_ _)); refine blk_put (cs := #[.int .i64 0, .int .i64 0, .int .i64 0, .int .i64 0, .int .i64 0, .int .i64 0, .string (⟨#[]⟩ : ByteArray), .slice none 0 0, .int .i64 0, .int .i64 0]) ?_ 7 _ rfl; (with_reducible repeat (first | refine blk_drewN ?_ _ | refine blk_drew ?_ | refine blk_alloc ?_ _)); refine blk_put (cs := #[.int .i64 0, .int .i64 0, .int .i64 0, .int .i64 0, .int .i64 0, .int .i64 0, .string (⟨#[]⟩ : ByteArray), .slice none 0 0, .int .i64 0, .int .i64 0]) ?_ 6 _ rfl; (with_reducible repeat (first | refine blk_drewN ?_ _ | refine blk_drew ?_ | refine blk_alloc ?_ _)); refine blk_put (cs := #[.int .i64 0, .int .i64 0, .int .i64 0, .int .i64 0, .int .i64 0, .int .i64 0, .string (⟨#[]⟩ : ByteArray), .slice none 0 0, .int .i64 0, .int .i64 0]) ?_ 5 _ rfl; (with_reducible repeat (first | refine blk_drewN ?_ _ | refine blk_drew ?_ | refine blk_alloc ?_ _)); refine blk_put (cs := #[.int .i64 0, .int .i64 0, .int .i64 0, .int .i64 0, .int .i64 0, .int .i64 0, .string (⟨#[]⟩ : ByteArray), .slice none 0 0, .int .i64 0, .int .i64 0]) ?_ 4 _ rfl; (with_reducible repeat (first | refine blk_drewN ?_ _ | refine blk_drew ?_ | refine blk_alloc ?_ _)); refine blk_put (cs := #[.int .i64 0, .int .i64 0, .int .i64 0, .int .i64 0, .int .i64 0, .int .i64 0, .string (⟨#[]⟩ : ByteArray), .slice none 0 0, .int .i64 0, .int .i64 0]) ?_ 3 _ rfl; (with_reducible repeat (first | refine blk_drewN ?_ _ | refine blk_drew ?_ | refine blk_alloc ?_ _)); refine blk_put (cs := #[.int .i64 0, .int .i64 0, .int .i64 0, .int .i64 0, .int .i64 0, .int .i64 0, .string (⟨#[]⟩ : ByteArray), .slice none 0 0, .int .i64 0, .int .i64 0]) ?_ 2 _ rfl; (with_reducible repeat (first | refine blk_drewN ?_ _ | refine blk_drew ?_ | refine blk_alloc ?_ _)); refine blk_put (cs := #[.int .i64 0, .int .i64 0, .int .i64 0, .int .i64 0, .int .i64 0, .int .i64 0, .string (⟨#[]⟩ : ByteArray), .slice none 0 0, .int .i64 0, .int .i64 0]) ?_ 1 _ rfl; (with_reducible repeat (first | refine blk_drewN ?_ _ | refine blk_drew ?_ | refine blk_alloc ?_ _)); refine blk_put (cs := #[.int .i64 0, .int .i64 0, .int .i64 0, .int .i64 0, .int .i64 0, .int .i64 0, .string (⟨#[]⟩ : ByteArray), .slice none 0 0, .int .i64 0, .int .i64 0]) ?_ 0 _ rfl; (with_reducible repeat (first | refine blk_drewN ?_ _ | refine blk_drew ?_ | refine blk_alloc ?_ _)); refine blk_far ?_ NB325_335.out _; (with_reducible repeat (first | refine blk_drewN ?_ _ | refine blk_drew ?_ | refine blk_alloc ?_ _)); exact BK325.out) Try.underlying26 rfl (by kernel_rfl)) rfl ?_
     exact ⟨_, a1_, by first | exact Kd.R_nil _ _ _ _ _ | exact Kd.N_nil _ _ _ _ _ | exact Kd.V_nil _ _ _ _ _ | exact Kd.Q_nil _ _ _ _ _ | exact Kd.S_nil _ _ _ _ _, (a15_ HB.out HI330.out GE325.out GE329.out GE335.out)⟩
    ·
     replace c62 := Bool.eq_false_iff.mpr c62
     subst c62
     have H1 : ((impl_EventBytes.f kj11 t331 t336 t340 t344 t348 t352 t356 x336007_11 t371).bind fun t375 => (if t375.toList = a0.toList then (some (t331, t336, t340, t344, t348, t352, t356, x336007_11, t371, 0)) else (some (0, 0, 0, 0, 0, 0, (⟨#[]⟩ : ByteArray), ([] : List Int), 0, 3)))) = some (r1, r2, r3, r4, r5, r6, r7, r8, r9, r10) := by rw [if_neg (show ¬ (false = true) by decide)] at H; exact H
     clear H
     have H := H1
     clear H1
     replace H := Option.bind_eq_some_iff.mp H
     obtain ⟨t375, A720, H⟩ := H
     replace H : (if t375.toList = a0.toList then (some (t331, t336, t340, t344, t348, t352, t356, x336007_11, t371, 0)) else (some (0, 0, 0, 0, 0, 0, (⟨#[]⟩ : ByteArray), ([] : List Int), 0, 3))) = some (r1, r2, r3, r4, r5, r6, r7, r8, r9, r10) := H
     have A72 := Aside0.mk A720
     clear A720
     by_cases c73 : t375.toList = a0.toList
     ·
      rw [if_pos c73] at H
      have c73b0 : (t375.toList == a0.toList) = true := beq_iff_eq.mpr c73
      have c73b1 : (t375.toList != a0.toList) = false := bne_eq_false_iff_eq.mpr c73
      clear c73
      simp only [Option.some.injEq, Prod.mk.injEq] at H
      obtain ⟨rfl, rfl, rfl, rfl, rfl, rfl, rfl, rfl, rfl, rfl⟩ := H
      go_wp2_with (first | ((with_reducible refine gate_callee (f := 22) rfl ?_); refine goesL_ (some 67) rfl rfl Try.func22 (by kernel_rfl) rfl #[.pointer (some ⟨gb330, 0, none⟩)] rfl (by (try simp only [List.map_toArray, List.map_cons, List.map_nil]); first | done | rfl | (simp only [List.length_drop, List.length_take]; rfl)) ?_; (with_reducible refine (impl_decoder_num.calls kj11 gb330 x331000_11 x331001_11 x331002_11 t371 t372 t373 false w _ ?side1 ?side2 A61.out).mono ?_); (case side1 => exact (a14_ HI330.out NB330_325.out NB330_329.out NB330_335.out)); (case side2 => exact (a15_ HB.out HI330.out GE325.out GE329.out GE335.out)); rintro e w74 ⟨rfl, hi, hb, hk⟩; refine ⟨_, rfl, ?_⟩; have n0_ := Aside0.mk (Kd.R_mono (Kd.R_keep (IsS50.apart (show IsS50 w _ gb330 x331000_11 x331001_11 x331002_11 from (a14_ HI330.out NB330_325.out NB330_329.out NB330_335.out)) (a11_ HO_336007.out) (by decide)) hk (fun _ h => h.2)) (fun _ h => h.1)); have n1_ := Aside0.mk (KeepBut.blk hk (g' := gb325) (o := .cells #[.int .i64 0, .int .i64 0, .int .i64 0, .int .i64 0, .int .i64 0, .int .i64 0, .string (⟨#[]⟩ : ByteArray), .slice none 0 0, .int .i64 0, .int .i64 0] 26 (0, 0)) (a4_ BK325.out) NB325_330.out (by simp)); have n2_ := Aside0.mk (KeepBut.blk hk (g' := gb329) (o := .cells #[.string t326, .int .i64 t327, .int .i64 t328] 40 (0, 0)) (a4_ BK329.out) NB329_330.out (by simp)); have n3_ := Aside0.mk (KeepBut.blk hk (g' := gb335) (o := .cells #[.int .i64 t331, .int .i64 t336, .int .i64 t340, .int .i64 t344, .int .i64 t348, .int .i64 t352, .string t356, u336007, .int .i64 0] 24 (0, 0)) (a4_ BK335.out) NB335_330.out (by simp)); have n4_ := Aside0.mk (hb); have n5_ := Aside0.mk (hi); clear HO_336007; clear BK325; clear BK329; clear BK335; clear HB; clear HI330; have HO_336007 := n0_; have BK325 := n1_; have BK329 := n2_; have BK335 := n3_; have HB := n4_; have HI330 := n5_; clear n0_ n1_ n2_ n3_ n4_ n5_; (try clear hb); (try clear hb2); (try clear hk); (try clear hi); have hnb75 := NB335_325.out; have hnc75 := NB325_335.out; have hnb76 := NB335_329.out; have hnc76 := NB329_335.out; have hnb77 := NB335_330.out; have hnc77 := NB330_335.out; obtain ⟨⟨hcz78_0, hcz78_1, hcz78_2, hcz78_3, hcz78_4, hcz78_5, hcz78_6, hcz78_7, hcz78_8⟩, hfz78_0, hfz78_1, hfz78_2, hfz78_3, hfz78_4, hfz78_5, hfz78_6, hfz78_7, hfz78_8⟩ := cells_9 BK335.out; obtain ⟨HGz79, hgz79⟩ := HI330.out; have hcz79_0 := cellS50_0 HGz79; have hcz79_1 := cellS50_1 HGz79; have hcz79_2 := cellS50_2 HGz79; have hfz79_0 := blk_frozen HGz79 0; have hfz79_1 := blk_frozen HGz79 1; have hfz79_2 := blk_frozen HGz79 2; clear HGz79 hgz79; obtain ⟨Ao80, co80, eo80⟩ := Kd.R_slice HO_336007.out; subst eo80) | (go_at_call 24; (with_reducible refine (impl_EventBytes.calls kj11 t331 t336 t340 t344 t348 t352 t356 _ _ x336007_11 t371 t375 _ ?side1 ?side2 A72.out).mono ?_); (case side1 => refine (Kd.R_reads' (e := 2) (base := w.heap.size) (ok := fun k_ => True) (n := x336007_11.length) (c := co80) ?_).2.2; exact (by (with_reducible repeat (first | apply Kd.R_alloc | apply Kd.R_drewN | apply Kd.R_drew)); exact (Kd.R_mono (Kd.R_far (p := ⟨gb335, 8, none⟩) (Kd.R_types HO_336007.out BK335.out (by decide)) (fun _ hk => hk.2) (.int .i64 t371)) (fun _ h_ => h_.1)))); (case side2 => exact (Kd.R_reads' HO_336007.out).2.1); rintro e w81 ⟨rfl, hb⟩; have n0_ := Aside0.mk (Kd.R_below (by (with_reducible repeat (first | apply Kd.R_alloc | apply Kd.R_drewN | apply Kd.R_drew)); exact (Kd.R_mono (Kd.R_far (p := ⟨gb335, 8, none⟩) (Kd.R_types HO_336007.out BK335.out (by decide)) (fun _ hk => hk.2) (.int .i64 t371)) (fun _ h_ => h_.1))) hb); have n1_ := Aside0.mk (blk_below (g := gb325) (o := .cells #[.int .i64 0, .int .i64 0, .int .i64 0, .int .i64 0, .int .i64 0, .int .i64 0, .string (⟨#[]⟩ : ByteArray), .slice none 0 0, .int .i64 0, .int .i64 0] 26 (0, 0)) (by (with_reducible repeat (first | refine blk_drewN ?_ _ | refine blk_drew ?_ | refine blk_alloc ?_ _)); refine blk_far ?_ NB325_335.out _; (with_reducible repeat (first | refine blk_drewN ?_ _ | refine blk_drew ?_ | refine blk_alloc ?_ _)); exact BK325.out) hb); have n2_ := Aside0.mk (blk_below (g := gb329) (o := .cells #[.string t326, .int .i64 t327, .int .i64 t328] 40 (0, 0)) (by (with_reducible repeat (first | refine blk_drewN ?_ _ | refine blk_drew ?_ | refine blk_alloc ?_ _)); refine blk_far ?_ NB329_335.out _; (with_reducible repeat (first | refine blk_drewN ?_ _ | refine blk_drew ?_ | refine blk_alloc ?_ _)); exact BK329.out) hb); have n3_ := Aside0.mk (blk_below (g := gb335) (o := .cells #[.int .i64 t331, .int .i64 t336, .int .i64 t340, .int .i64 t344, .int .i64 t348, .int .i64 t352, .string t356, .slice Ao80 x336007_11.length co80, .int .i64 t371] 24 (0, 0)) (by (with_reducible repeat (first | refine blk_drewN ?_ _ | refine blk_drew ?_ | refine blk_alloc ?_ _)); refine blk_put (cs := #[.int .i64 t331, .int .i64 t336, .int .i64 t340, .int .i64 t344, .int .i64 t348, .int .i64 t352, .string t356, .slice Ao80 x336007_11.length co80, .int .i64 0]) ?_ 8 _ rfl; (with_reducible repeat (first | refine blk_drewN ?_ _ | refine blk_drew ?_ | refine blk_alloc ?_ _)); exact BK335.out) hb); have n4_ := Aside0.mk (IsS50.below (show IsS50 w (w74.setCell ⟨gb335, 8, none⟩ (.int .i64 t371)) gb330 t372 t373 false from (a14_ HI330.out NB330_325.out NB330_329.out NB330_335.out)) hb); have n5_ := Aside0.mk (below_step (a15_ HB.out HI330.out GE325.out GE329.out GE335.out) hb); clear HO_336007; clear BK325; clear BK329; clear BK335; clear HI330; clear HB; have HO_336007 := n0_; have BK325 := n1_; have BK329 := n2_; have BK335 := n3_; have HI330 := n4_; have HB := n5_; clear n0_ n1_ n2_ n3_ n4_ n5_; (try clear hb); (try clear hb2); (try clear hk); (try clear hi); obtain ⟨⟨hcz82_0, hcz82_1, hcz82_2, hcz82_3, hcz82_4, hcz82_5, hcz82_6, hcz82_7, hcz82_8⟩, hfz82_0, hfz82_1, hfz82_2, hfz82_3, hfz82_4, hfz82_5, hfz82_6, hfz82_7, hfz82_8⟩ := cells_9 BK335.out; have hnb83 := NB325_329.out; have hnc83 := NB329_325.out; have hnb84 := NB325_330.out; have hnc84 := NB330_325.out; obtain ⟨⟨hcz85_0, hcz85_1, hcz85_2, hcz85_3, hcz85_4, hcz85_5, hcz85_6, hcz85_7, hcz85_8, hcz85_9⟩, hfz85_0, hfz85_1, hfz85_2, hfz85_3, hfz85_4, hfz85_5, hfz85_6, hfz85_7, hfz85_8, hfz85_9⟩ := cells_10 BK325.out))
      refine bodyPost_ret (results_cell_row rfl _ _ gb325 26 #[.int .i64 t331, .int .i64 t336, .int .i64 t340, .int .i64 t344, .int .i64 t348, .int .i64 t352, .string t356, .slice Ao80 x336007_11.length co80, .int .i64 t371, .int .i64 0] (0, 0) _ rfl (by (with_reducible repeat (first | refine blk_drewN ?_ _ | refine blk_drew ?_ | refine blk_alloc ?_ _)); refine blk_put (cs := #[.int .i64 t331, .int .i64 t336, .int .i64 t340, .int .i64 t344, .int .i64 t348, .int .i64 t352, .string t356, .slice Ao80 x336007_11.length co80, .int .i64 t371, .int .i64 0]) ?_ 9 _ rfl; (with_reducible repeat (first | refine blk_drewN ?_ _ | refine blk_drew ?_ | refine blk_alloc ?_ _)); refine blk_put (cs := #[.int .i64 t331, .int .i64 t336, .int .i64 t340, .int .i64 t344, .int .i64 t348, .int .i64 t352, .string t356, .slice Ao80 x336007_11.length co80, .int .i64 0, .int .i64 0]) ?_ 8 _ rfl; (with_reducible repeat (first | refine blk_drewN ?_ _ | refine blk_drew ?_ | refine blk_alloc ?_ _)); refine blk_put (cs := #[.int .i64 t331, .int .i64 t336, .int .i64 t340, .int .i64 t344, .int .i64 t348, .int .i64 t352, .string t356, .slice none 0 0, .int .i64 0, .int .i64 0]) ?_ 7 _ rfl; (with_reducible repeat (first | refine blk_drewN ?_ _ | refine blk_drew ?_ | refine blk_alloc ?_ _)); refine blk_put (cs := #[.int .i64 t331, .int .i64 t336, .int .i64 t340, .int .i64 t344, .int .i64 t348, .int .i64 t352, .string (⟨#[]⟩ : ByteArray), .slice none 0 0, .int .i64 0, .int .i64 0]) ?_ 6 _ rfl; (with_reducible repeat (first | refine blk_drewN ?_ _ | refine blk_drew ?_ | refine blk_alloc ?_ _)); refine blk_put (cs := #[.int .i64 t331, .int .i64 t336, .int .i64 t340, .int .i64 t344, .int .i64 t348, .int .i64 0, .string (⟨#[]⟩ : ByteArray), .slice none 0 0, .int .i64 0, .int .i64 0]) ?_ 5 _ rfl; (with_reducible repeat (first | refine blk_drewN ?_ _ | refine blk_drew ?_ | refine blk_alloc ?_ _)); refine blk_put (cs := #[.int .i64 t331, .int .i64 t336, .int .i64 t340, .int .i64 t344, .int .i64 0, .int .i64 0, .string (⟨#[]⟩ : ByteArray), .slice none 0 0, .int .i64 0, .int .i64 0]) ?_ 4 _ rfl; (with_reducible repeat (first | refine blk_drewN ?_ _ | refine blk_drew ?_ | refine blk_alloc ?_ _)); refine blk_put (cs := #[.int .i64 t331, .int .i64 t336, .int .i64 t340, .int .i64 0, .int .i64 0, .int .i64 0, .string (⟨#[]⟩ : ByteArray), .slice none 0 0, .int .i64 0, .int .i64 0]) ?_ 3 _ rfl; (with_reducible repeat (first | refine blk_drewN ?_ _ | refine blk_drew ?_ | refine blk_alloc ?_ _)); refine blk_put (cs := #[.int .i64 t331, .int .i64 t336, .int .i64 0, .int .i64 0, .int .i64 0, .int .i64 0, .string (⟨#[]⟩ : ByteArray), .slice none 0 0, .int .i64 0, .int .i64 0]) ?_ 2 _ rfl; (with_reducible repeat (first | refine blk_drewN ?_ _ | refine blk_drew ?_ | refine blk_alloc ?_ _)); refine blk_put (cs := #[.int .i64 t331, .int .i64 0, .int .i64 0, .int .i64 0, .int .i64 0, .int .i64 0, .string (⟨#[]⟩ : ByteArray), .slice none 0 0, .int .i64 0, .int .i64 0]) ?_ 1 _ rfl; (with_reducible repeat (first | refine blk_drewN ?_ _ | refine blk_drew ?_ | refine blk_alloc ?_ _)); refine blk_put (cs := #[.int .i64 0, .int .i64 0, .int .i64 0, .int .i64 0, .int .i64 0, .int .i64 0, .string (⟨#[]⟩ : ByteArray), .slice none 0 0, .int .i64 0, .int .i64 0]) ?_ 0 _ rfl; (with_reducible repeat (first | refine blk_drewN ?_ _ | refine blk_drew ?_ | refine blk_alloc ?_ _)); exact BK325.out) Try.underlying26 rfl (by kernel_rfl)) rfl ?_
      exact ⟨_, a1_, by (with_reducible repeat (first | apply Kd.R_alloc | apply Kd.R_drewN | apply Kd.R_drew)); exact Kd.R_mono (Kd.R_far (p := ⟨gb325, 9, none⟩) (Kd.R_far (p := ⟨gb325, 8, none⟩) (Kd.R_far (p := ⟨gb325, 7, none⟩) (Kd.R_far (p := ⟨gb325, 6, none⟩) (Kd.R_far (p := ⟨gb325, 5, none⟩) (Kd.R_far (p := ⟨gb325, 4, none⟩) (Kd.R_far (p := ⟨gb325, 3, none⟩) (Kd.R_far (p := ⟨gb325, 2, none⟩) (Kd.R_far (p := ⟨gb325, 1, none⟩) (Kd.R_far (p := ⟨gb325, 0, none⟩) (Kd.R_types HO_336007.out BK325.out (by decide)) (fun _ hk => hk.2) (.int .i64 t331)) (fun _ hk => hk.2) (.int .i64 t336)) (fun _ hk => hk.2) (.int .i64 t340)) (fun _ hk => hk.2) (.int .i64 t344)) (fun _ hk => hk.2) (.int .i64 t348)) (fun _ hk => hk.2) (.int .i64 t352)) (fun _ hk => hk.2) (.string t356)) (fun _ hk => hk.2) (.slice Ao80 x336007_11.length co80)) (fun _ hk => hk.2) (.int .i64 t371)) (fun _ hk => hk.2) (.int .i64 0)) (fun _ hk => trivial), (a15_ HB.out HI330.out GE325.out GE329.out GE335.out)⟩
     ·
      rw [if_neg c73] at H
      have c73b0 : (t375.toList == a0.toList) = false := beq_eq_false_iff_ne.mpr c73
      have c73b1 : (t375.toList != a0.toList) = true := bne_iff_ne.mpr c73
      simp only [Option.some.injEq, Prod.mk.injEq] at H
      obtain ⟨rfl, rfl, rfl, rfl, rfl, rfl, rfl, rfl, rfl, rfl⟩ := H
      go_wp2_with (first | ((with_reducible refine gate_callee (f := 22) rfl ?_); refine goesL_ (some 67) rfl rfl Try.func22 (by kernel_rfl) rfl #[.pointer (some ⟨gb330, 0, none⟩)] rfl (by (try simp only [List.map_toArray, List.map_cons, List.map_nil]); first | done | rfl | (simp only [List.length_drop, List.length_take]; rfl)) ?_; (with_reducible refine (impl_decoder_num.calls kj11 gb330 x331000_11 x331001_11 x331002_11 t371 t372 t373 false w _ ?side1 ?side2 A61.out).mono ?_); (case side1 => exact (a14_ HI330.out NB330_325.out NB330_329.out NB330_335.out)); (case side2 => exact (a15_ HB.out HI330.out GE325.out GE329.out GE335.out)); rintro e w86 ⟨rfl, hi, hb, hk⟩; refine ⟨_, rfl, ?_⟩; have n0_ := Aside0.mk (Kd.R_mono (Kd.R_keep (IsS50.apart (show IsS50 w _ gb330 x331000_11 x331001_11 x331002_11 from (a14_ HI330.out NB330_325.out NB330_329.out NB330_335.out)) (a11_ HO_336007.out) (by decide)) hk (fun _ h => h.2)) (fun _ h => h.1)); have n1_ := Aside0.mk (KeepBut.blk hk (g' := gb325) (o := .cells #[.int .i64 0, .int .i64 0, .int .i64 0, .int .i64 0, .int .i64 0, .int .i64 0, .string (⟨#[]⟩ : ByteArray), .slice none 0 0, .int .i64 0, .int .i64 0] 26 (0, 0)) (a4_ BK325.out) NB325_330.out (by simp)); have n2_ := Aside0.mk (KeepBut.blk hk (g' := gb329) (o := .cells #[.string t326, .int .i64 t327, .int .i64 t328] 40 (0, 0)) (a4_ BK329.out) NB329_330.out (by simp)); have n3_ := Aside0.mk (KeepBut.blk hk (g' := gb335) (o := .cells #[.int .i64 t331, .int .i64 t336, .int .i64 t340, .int .i64 t344, .int .i64 t348, .int .i64 t352, .string t356, u336007, .int .i64 0] 24 (0, 0)) (a4_ BK335.out) NB335_330.out (by simp)); have n4_ := Aside0.mk (hb); have n5_ := Aside0.mk (hi); clear HO_336007; clear BK325; clear BK329; clear BK335; clear HB; clear HI330; have HO_336007 := n0_; have BK325 := n1_; have BK329 := n2_; have BK335 := n3_; have HB := n4_; have HI330 := n5_; clear n0_ n1_ n2_ n3_ n4_ n5_; (try clear hb); (try clear hb2); (try clear hk); (try clear hi); have hnb87 := NB335_325.out; have hnc87 := NB325_335.out; have hnb88 := NB335_329.out; have hnc88 := NB329_335.out; have hnb89 := NB335_330.out; have hnc89 := NB330_335.out; obtain ⟨⟨hcz90_0, hcz90_1, hcz90_2, hcz90_3, hcz90_4, hcz90_5, hcz90_6, hcz90_7, hcz90_8⟩, hfz90_0, hfz90_1, hfz90_2, hfz90_3, hfz90_4, hfz90_5, hfz90_6, hfz90_7, hfz90_8⟩ := cells_9 BK335.out; obtain ⟨HGz91, hgz91⟩ := HI330.out; have hcz91_0 := cellS50_0 HGz91; have hcz91_1 := cellS50_1 HGz91; have hcz91_2 := cellS50_2 HGz91; have hfz91_0 := blk_frozen HGz91 0; have hfz91_1 := blk_frozen HGz91 1; have hfz91_2 := blk_frozen HGz91 2; clear HGz91 hgz91; obtain ⟨Ao92, co92, eo92⟩ := Kd.R_slice HO_336007.out; subst eo92) | (go_at_call 24; (with_reducible refine (impl_EventBytes.calls kj11 t331 t336 t340 t344 t348 t352 t356 _ _ x336007_11 t371 t375 _ ?side1 ?side2 A72.out).mono ?_); (case side1 => refine (Kd.R_reads' (e := 2) (base := w.heap.size) (ok := fun k_ => True) (n := x336007_11.length) (c := co92) ?_).2.2; exact (by (with_reducible repeat (first | apply Kd.R_alloc | apply Kd.R_drewN | apply Kd.R_drew)); exact (Kd.R_mono (Kd.R_far (p := ⟨gb335, 8, none⟩) (Kd.R_types HO_336007.out BK335.out (by decide)) (fun _ hk => hk.2) (.int .i64 t371)) (fun _ h_ => h_.1)))); (case side2 => exact (Kd.R_reads' HO_336007.out).2.1); rintro e w93 ⟨rfl, hb⟩; have n0_ := Aside0.mk (Kd.R_below (by (with_reducible repeat (first | apply Kd.R_alloc | apply Kd.R_drewN | apply Kd.R_drew)); exact (Kd.R_mono (Kd.R_far (p := ⟨gb335, 8, none⟩) (Kd.R_types HO_336007.out BK335.out (by decide)) (fun _ hk => hk.2) (.int .i64 t371)) (fun _ h_ => h_.1))) hb); have n1_ := Aside0.mk (blk_below (g := gb325) (o := .cells #[.int .i64 0, .int .i64 0, .int .i64 0, .int .i64 0, .int .i64 0, .int .i64 0, .string (⟨#[]⟩ : ByteArray), .slice none 0 0, .int .i64 0, .int .i64 0] 26 (0, 0)) (by (with_reducible repeat (first | refine blk_drewN ?_ _ | refine blk_drew ?_ | refine blk_alloc ?_ _)); refine blk_far ?_ NB325_335.out _; (with_reducible repeat (first | refine blk_drewN ?_ _ | refine blk_drew ?_ | refine blk_alloc ?_ _)); exact BK325.out) hb); have n2_ := Aside0.mk (blk_below (g := gb329) (o := .cells #[.string t326, .int .i64 t327, .int .i64 t328] 40 (0, 0)) (by (with_reducible repeat (first | refine blk_drewN ?_ _ | refine blk_drew ?_ | refine blk_alloc ?_ _)); refine blk_far ?_ NB329_335.out _; (with_reducible repeat (first | refine blk_drewN ?_ _ | refine blk_drew ?_ | refine blk_alloc ?_ _)); exact BK329.out) hb); have n3_ := Aside0.mk (blk_below (g := gb335) (o := .cells #[.int .i64 t331, .int .i64 t336, .int .i64 t340, .int .i64 t344, .int .i64 t348, .int .i64 t352, .string t356, .slice Ao92 x336007_11.length co92, .int .i64 t371] 24 (0, 0)) (by (with_reducible repeat (first | refine blk_drewN ?_ _ | refine blk_drew ?_ | refine blk_alloc ?_ _)); refine blk_put (cs := #[.int .i64 t331, .int .i64 t336, .int .i64 t340, .int .i64 t344, .int .i64 t348, .int .i64 t352, .string t356, .slice Ao92 x336007_11.length co92, .int .i64 0]) ?_ 8 _ rfl; (with_reducible repeat (first | refine blk_drewN ?_ _ | refine blk_drew ?_ | refine blk_alloc ?_ _)); exact BK335.out) hb); have n4_ := Aside0.mk (IsS50.below (show IsS50 w (w86.setCell ⟨gb335, 8, none⟩ (.int .i64 t371)) gb330 t372 t373 false from (a14_ HI330.out NB330_325.out NB330_329.out NB330_335.out)) hb); have n5_ := Aside0.mk (below_step (a15_ HB.out HI330.out GE325.out GE329.out GE335.out) hb); clear HO_336007; clear BK325; clear BK329; clear BK335; clear HI330; clear HB; have HO_336007 := n0_; have BK325 := n1_; have BK329 := n2_; have BK335 := n3_; have HI330 := n4_; have HB := n5_; clear n0_ n1_ n2_ n3_ n4_ n5_; (try clear hb); (try clear hb2); (try clear hk); (try clear hi); have hnb94 := NB325_329.out; have hnc94 := NB329_325.out; have hnb95 := NB325_330.out; have hnc95 := NB330_325.out; obtain ⟨⟨hcz96_0, hcz96_1, hcz96_2, hcz96_3, hcz96_4, hcz96_5, hcz96_6, hcz96_7, hcz96_8, hcz96_9⟩, hfz96_0, hfz96_1, hfz96_2, hfz96_3, hfz96_4, hfz96_5, hfz96_6, hfz96_7, hfz96_8, hfz96_9⟩ := cells_10 BK325.out))
      refine bodyPost_ret (results_cell_row rfl _ _ gb325 26 #[.int .i64 0, .int .i64 0, .int .i64 0, .int .i64 0, .int .i64 0, .int .i64 0, .string (⟨#[]⟩ : ByteArray), .slice none 0 0, .int .i64 0, .int .i64 3] (0, 0) _ rfl (by (with_reducible repeat (first | refine blk_drewN ?_ _ | refine blk_drew ?_ | refine blk_alloc ?_ _)); refine blk_put (cs := #[.int .i64 0, .int .i64 0, .int .i64 0, .int .i64 0, .int .i64 0, .int .i64 0, .string (⟨#[]⟩ : ByteArray), .slice none 0 0, .int .i64 0, .int .i64 0]) ?_ 9 _ rfl; (with_reducible repeat (first | refine blk_drewN ?_ _ | refine blk_drew ?_ | refine blk_alloc ?_ _)); refine blk_put (cs := #[.int .i64 0, .int .i64 0, .int .i64 0, .int .i64 0, .int .i64 0, .int .i64 0, .string (⟨#[]⟩ : ByteArray), .slice none 0 0, .int .i64 0, .int .i64 0]) ?_ 8 _ rfl; (with_reducible repeat (first | refine blk_drewN ?_ _ | refine blk_drew ?_ | refine blk_alloc ?_ _)); refine blk_put (cs := #[.int .i64 0, .int .i64 0, .int .i64 0, .int .i64 0, .int .i64 0, .int .i64 0, .string (⟨#[]⟩ : ByteArray), .slice none 0 0, .int .i64 0, .int .i64 0]) ?_ 7 _ rfl; (with_reducible repeat (first | refine blk_drewN ?_ _ | refine blk_drew ?_ | refine blk_alloc ?_ _)); refine blk_put (cs := #[.int .i64 0, .int .i64 0, .int .i64 0, .int .i64 0, .int .i64 0, .int .i64 0, .string (⟨#[]⟩ : ByteArray), .slice none 0 0, .int .i64 0, .int .i64 0]) ?_ 6 _ rfl; (with_reducible repeat (first | refine blk_drewN ?_ _ | refine blk_drew ?_ | refine blk_alloc ?_ _)); refine blk_put (cs := #[.int .i64 0, .int .i64 0, .int .i64 0, .int .i64 0, .int .i64 0, .int .i64 0, .string (⟨#[]⟩ : ByteArray), .slice none 0 0, .int .i64 0, .int .i64 0]) ?_ 5 _ rfl; (with_reducible repeat (first | refine blk_drewN ?_ _ | refine blk_drew ?_ | refine blk_alloc ?_ _)); refine blk_put (cs := #[.int .i64 0, .int .i64 0, .int .i64 0, .int .i64 0, .int .i64 0, .int .i64 0, .string (⟨#[]⟩ : ByteArray), .slice none 0 0, .int .i64 0, .int .i64 0]) ?_ 4 _ rfl; (with_reducible repeat (first | refine blk_drewN ?_ _ | refine blk_drew ?_ | refine blk_alloc ?_ _)); refine blk_put (cs := #[.int .i64 0, .int .i64 0, .int .i64 0, .int .i64 0, .int .i64 0, .int .i64 0, .string (⟨#[]⟩ : ByteArray), .slice none 0 0, .int .i64 0, .int .i64 0]) ?_ 3 _ rfl; (with_reducible repeat (first | refine blk_drewN ?_ _ | refine blk_drew ?_ | refine blk_alloc ?_ _)); refine blk_put (cs := #[.int .i64 0, .int .i64 0, .int .i64 0, .int .i64 0, .int .i64 0, .int .i64 0, .string (⟨#[]⟩ : ByteArray), .slice none 0 0, .int .i64 0, .int .i64 0]) ?_ 2 _ rfl; (with_reducible repeat (first | refine blk_drewN ?_ _ | refine blk_drew ?_ | refine blk_alloc ?_ _)); refine blk_put (cs := #[.int .i64 0, .int .i64 0, .int .i64 0, .int .i64 0, .int .i64 0, .int .i64 0, .string (⟨#[]⟩ : ByteArray), .slice none 0 0, .int .i64 0, .int .i64 0]) ?_ 1 _ rfl; (with_reducible repeat (first | refine blk_drewN ?_ _ | refine blk_drew ?_ | refine blk_alloc ?_ _)); refine blk_put (cs := #[.int .i64 0, .int .i64 0, .int .i64 0, .int .i64 0, .int .i64 0, .int .i64 0, .string (⟨#[]⟩ : ByteArray), .slice none 0 0, .int .i64 0, .int .i64 0]) ?_ 0 _ rfl; (with_reducible repeat (first | refine blk_drewN ?_ _ | refine blk_drew ?_ | refine blk_alloc ?_ _)); exact BK325.out) Try.underlying26 rfl (by kernel_rfl)) rfl ?_
      exact ⟨_, a1_, by first | exact Kd.R_nil _ _ _ _ _ | exact Kd.N_nil _ _ _ _ _ | exact Kd.V_nil _ _ _ _ _ | exact Kd.Q_nil _ _ _ _ _ | exact Kd.S_nil _ _ _ _ _, (a15_ HB.out HI330.out GE325.out GE329.out GE335.out)⟩
 ·
  rw [if_neg c3] at H
  have c3b0 : (t328 == 0) = false := beq_eq_false_iff_ne.mpr c3
  have c3b1 : (t328 != 0) = true := bne_iff_ne.mpr c3
  simp only [Option.some.injEq, Prod.mk.injEq] at H
  obtain ⟨rfl, rfl, rfl, rfl, rfl, rfl, rfl, rfl, rfl, rfl⟩ := H
  (try simp only [c3b0, Bool.not_true, Bool.not_false])
  (try simp only [c3b1, Bool.not_true, Bool.not_false])
  go_wp2_with (first | ((with_reducible refine gate_dst (N := 2) rfl ?_); (try (refine gate_guard (by rfl) ?_; dsimp only)); refine box_event ?hg (N := 2) ?hd (cs := #[.int .i64 0, .int .i64 0, .int .i64 0, .int .i64 0, .int .i64 0, .int .i64 0, .string (⟨#[]⟩ : ByteArray), .slice none 0 0, .int .i64 0, .int .i64 0]) (t := 26) ?hr ?_; (case hd => rfl); (case hg => rfl); (case hr => first | (go_simp; done) | (go_simp; rfl)); intro gb325 hg w97 hbox hb; have n0_ := Aside0.mk (below_step (a2_ HB.out) hb); have n1_ := Aside0.mk (hbox); have n2_ := Aside0.mk ((by rw [hg]; exact (below_size (a2_ HB.out)) : w.heap.size ≤ gb325)); have n3_ := Aside0.mk ((by rw [hg]; exact (below_size (a2_ HB.out)) : w.heap.size ≤ gb325)); clear HB; have HB := n0_; have BK325 := n1_; have GW325 := n2_; have GE325 := n3_; clear n0_ n1_ n2_ n3_; clear hb hbox hg) | ((with_reducible refine gate_callee (f := 21) rfl ?_); refine goesL_ (some 8) rfl rfl Try.func21 (by kernel_rfl) rfl #[.string a0] rfl (by (try simp only [List.map_toArray, List.map_cons, List.map_nil]); first | done | rfl | (simp only [List.length_drop, List.length_take]; rfl)) ?_; (with_reducible refine (impl_Unseal.calls k a0 t326 t327 t328 _ A2.out).mono ?_); rintro e w98 ⟨rfl, hb⟩; refine ⟨_, rfl, ?_⟩; have n0_ := Aside0.mk (blk_below (g := gb325) (o := .cells #[.int .i64 0, .int .i64 0, .int .i64 0, .int .i64 0, .int .i64 0, .int .i64 0, .string (⟨#[]⟩ : ByteArray), .slice none 0 0, .int .i64 0, .int .i64 0] 26 (0, 0)) (a4_ BK325.out) hb); have n1_ := Aside0.mk (below_step (a3_ HB.out GE325.out) hb); clear BK325; clear HB; have BK325 := n0_; have HB := n1_; clear n0_ n1_; (try clear hb); (try clear hb2); (try clear hk); (try clear hi)) | ((with_reducible refine gate_dst (N := 3) rfl ?_); (try (refine gate_guard (by rfl) ?_; dsimp only)); refine box_event ?hg (N := 3) ?hd (cs := #[.string (⟨#[]⟩ : ByteArray), .int .i64 0, .int .i64 0]) (t := 40) ?hr ?_; (case hd => rfl); (case hg => rfl); (case hr => first | (go_simp; done) | (go_simp; rfl)); intro gb329 hg w99 hbox hb; have n0_ := Aside0.mk (blk_below (g := gb325) (o := .cells #[.int .i64 0, .int .i64 0, .int .i64 0, .int .i64 0, .int .i64 0, .int .i64 0, .string (⟨#[]⟩ : ByteArray), .slice none 0 0, .int .i64 0, .int .i64 0] 26 (0, 0)) (a4_ BK325.out) hb); have n1_ := Aside0.mk (below_step (a3_ HB.out GE325.out) hb); have n2_ := Aside0.mk (hbox); have n3_ := Aside0.mk ((by rw [hg]; exact (below_size (a3_ HB.out GE325.out)) : w.heap.size ≤ gb329)); have n4_ := Aside0.mk ((by rw [hg]; exact (below_size (a3_ HB.out GE325.out)) : w.heap.size ≤ gb329)); have n5_ := Aside0.mk ((by rw [hg]; exact Nat.ne_of_lt (blk_lt (g := gb325) (o := .cells #[.int .i64 0, .int .i64 0, .int .i64 0, .int .i64 0, .int .i64 0, .int .i64 0, .string (⟨#[]⟩ : ByteArray), .slice none 0 0, .int .i64 0, .int .i64 0] 26 (0, 0)) (a4_ BK325.out)) : gb325 ≠ gb329)); have n6_ := Aside0.mk ((by rw [hg]; exact Nat.ne_of_gt (blk_lt (g := gb325) (o := .cells #[.int .i64 0, .int .i64 0, .int .i64 0, .int .i64 0, .int .i64 0, .int .i64 0, .string (⟨#[]⟩ : ByteArray), .slice none 0 0, .int .i64 0, .int .i64 0] 26 (0, 0)) (a4_ BK325.out)) : gb329 ≠ gb325)); clear BK325; clear HB; have BK325 := n0_; have HB := n1_; have BK329 := n2_; have GW329 := n3_; have GE329 := n4_; have NB325_329 := n5_; have NB329_325 := n6_; clear n0_ n1_ n2_ n3_ n4_ n5_ n6_; clear hb hbox hg; have hnb100 := NB329_325.out; have hnc100 := NB325_329.out; obtain ⟨⟨hcz101_0, hcz101_1, hcz101_2⟩, hfz101_0, hfz101_1, hfz101_2⟩ := cells_3 BK329.out; obtain ⟨⟨hcz102_0, hcz102_1, hcz102_2, hcz102_3, hcz102_4, hcz102_5, hcz102_6, hcz102_7, hcz102_8, hcz102_9⟩, hfz102_0, hfz102_1, hfz102_2, hfz102_3, hfz102_4, hfz102_5, hfz102_6, hfz102_7, hfz102_8, hfz102_9⟩ := cells_10 BK325.out))
  refine bodyPost_ret (results_cell_row rfl _ _ gb325 26 #[.int .i64 0, .int .i64 0, .int .i64 0, .int .i64 0, .int .i64 0, .int .i64 0, .string (⟨#[]⟩ : ByteArray), .slice none 0 0, .int .i64 0, .int .i64 t328] (0, 0) _ rfl (by (with_reducible repeat (first | refine blk_drewN ?_ _ | refine blk_drew ?_ | refine blk_alloc ?_ _)); refine blk_put (cs := #[.int .i64 0, .int .i64 0, .int .i64 0, .int .i64 0, .int .i64 0, .int .i64 0, .string (⟨#[]⟩ : ByteArray), .slice none 0 0, .int .i64 0, .int .i64 0]) ?_ 9 _ rfl; (with_reducible repeat (first | refine blk_drewN ?_ _ | refine blk_drew ?_ | refine blk_alloc ?_ _)); refine blk_put (cs := #[.int .i64 0, .int .i64 0, .int .i64 0, .int .i64 0, .int .i64 0, .int .i64 0, .string (⟨#[]⟩ : ByteArray), .slice none 0 0, .int .i64 0, .int .i64 0]) ?_ 8 _ rfl; (with_reducible repeat (first | refine blk_drewN ?_ _ | refine blk_drew ?_ | refine blk_alloc ?_ _)); refine blk_put (cs := #[.int .i64 0, .int .i64 0, .int .i64 0, .int .i64 0, .int .i64 0, .int .i64 0, .string (⟨#[]⟩ : ByteArray), .slice none 0 0, .int .i64 0, .int .i64 0]) ?_ 7 _ rfl; (with_reducible repeat (first | refine blk_drewN ?_ _ | refine blk_drew ?_ | refine blk_alloc ?_ _)); refine blk_put (cs := #[.int .i64 0, .int .i64 0, .int .i64 0, .int .i64 0, .int .i64 0, .int .i64 0, .string (⟨#[]⟩ : ByteArray), .slice none 0 0, .int .i64 0, .int .i64 0]) ?_ 6 _ rfl; (with_reducible repeat (first | refine blk_drewN ?_ _ | refine blk_drew ?_ | refine blk_alloc ?_ _)); refine blk_put (cs := #[.int .i64 0, .int .i64 0, .int .i64 0, .int .i64 0, .int .i64 0, .int .i64 0, .string (⟨#[]⟩ : ByteArray), .slice none 0 0, .int .i64 0, .int .i64 0]) ?_ 5 _ rfl; (with_reducible repeat (first | refine blk_drewN ?_ _ | refine blk_drew ?_ | refine blk_alloc ?_ _)); refine blk_put (cs := #[.int .i64 0, .int .i64 0, .int .i64 0, .int .i64 0, .int .i64 0, .int .i64 0, .string (⟨#[]⟩ : ByteArray), .slice none 0 0, .int .i64 0, .int .i64 0]) ?_ 4 _ rfl; (with_reducible repeat (first | refine blk_drewN ?_ _ | refine blk_drew ?_ | refine blk_alloc ?_ _)); refine blk_put (cs := #[.int .i64 0, .int .i64 0, .int .i64 0, .int .i64 0, .int .i64 0, .int .i64 0, .string (⟨#[]⟩ : ByteArray), .slice none 0 0, .int .i64 0, .int .i64 0]) ?_ 3 _ rfl; (with_reducible repeat (first | refine blk_drewN ?_ _ | refine blk_drew ?_ | refine blk_alloc ?_ _)); refine blk_put (cs := #[.int .i64 0, .int .i64 0, .int .i64 0, .int .i64 0, .int .i64 0, .int .i64 0, .string (⟨#[]⟩ : ByteArray), .slice none 0 0, .int .i64 0, .int .i64 0]) ?_ 2 _ rfl; (with_reducible repeat (first | refine blk_drewN ?_ _ | refine blk_drew ?_ | refine blk_alloc ?_ _)); refine blk_put (cs := #[.int .i64 0, .int .i64 0, .int .i64 0, .int .i64 0, .int .i64 0, .int .i64 0, .string (⟨#[]⟩ : ByteArray), .slice none 0 0, .int .i64 0, .int .i64 0]) ?_ 1 _ rfl; (with_reducible repeat (first | refine blk_drewN ?_ _ | refine blk_drew ?_ | refine blk_alloc ?_ _)); refine blk_put (cs := #[.int .i64 0, .int .i64 0, .int .i64 0, .int .i64 0, .int .i64 0, .int .i64 0, .string (⟨#[]⟩ : ByteArray), .slice none 0 0, .int .i64 0, .int .i64 0]) ?_ 0 _ rfl; (with_reducible repeat (first | refine blk_drewN ?_ _ | refine blk_drew ?_ | refine blk_alloc ?_ _)); refine blk_far ?_ NB325_329.out _; (with_reducible repeat (first | refine blk_drewN ?_ _ | refine blk_drew ?_ | refine blk_alloc ?_ _)); refine blk_far ?_ NB325_329.out _; (with_reducible repeat (first | refine blk_drewN ?_ _ | refine blk_drew ?_ | refine blk_alloc ?_ _)); refine blk_far ?_ NB325_329.out _; (with_reducible repeat (first | refine blk_drewN ?_ _ | refine blk_drew ?_ | refine blk_alloc ?_ _)); exact BK325.out) Try.underlying26 rfl (by kernel_rfl)) rfl ?_
  exact ⟨_, a1_, by first | exact Kd.R_nil _ _ _ _ _ | exact Kd.N_nil _ _ _ _ _ | exact Kd.V_nil _ _ _ _ _ | exact Kd.Q_nil _ _ _ _ _ | exact Kd.S_nil _ _ _ _ _, (a10_ HB.out GE325.out GE329.out)⟩
end Go.Proofs.Ytfgphnjaikjfhaa.Print
