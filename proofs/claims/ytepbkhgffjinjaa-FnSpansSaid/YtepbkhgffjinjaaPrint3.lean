-- Printed by wip/myprint.py over the kit's print, in this session's own call.
import Derived.Test.YtepbkhgffjinjaaPrint2
namespace Go.Proofs.Ytepbkhgffjinjaa.Print
open Go.RowKit Go.Proofs.YtepbkhgffjinjaaW.PrintWords Go.Proofs.YtepbkhgffjinjaaW.PrintLast Go.Proofs.YtepbkhgffjinjaaW.PrintMore
attribute [local go_sem] max2_int min2_int max_two min_two max_three min_three max_four min_four   -- for this text's walks alone
set_option maxHeartbeats 8000000
set_option maxRecDepth 100000
set_option linter.unusedVariables false
set_option linter.unusedSimpArgs false

/-! ### spec_l01Src_list: function 35 -/
def spec_l01Src_list.l0 : Nat → Int → Int → Int → List Int → List Int → Int → Int → Int → Option (List Int × Int × Int × Int)
  | 0, _, _, _, _, _, _, _, _ => none
  | k + 1, x1, x2, x3, x9, x1000, x1001, x1002, x1003 => if x1 > 0 then ((spec_l01Src_between.f x1000 x1001 x1002 x1003 x2 x3).bind fun bt111 => (if x9.length < 17592186044416 then (spec_l01Src_list.l0 k (wrap64 (x1 - 1)) x2 x3 (x9 ++ [bt111.1]) x1000 bt111.2.1 bt111.2.2.1 bt111.2.2.2) else (none))) else (some (x9, x1001, x1002, x1003))
def spec_l01Src_list.f (k : Nat) (s0_0 : List Int) (s0_1 : Int) (s0_2 : Int) (s0_3 : Int) (a1 : Int) (a2 : Int) (a3 : Int) : Option (List Int × Int × Int × Int) := spec_l01Src_list.l0 k a1 a2 a3 (([] : List Int)) s0_0 s0_1 s0_2 s0_3
theorem spec_l01Src_list.mono_l : ∀ k, (∀ y0 y1 y2 y3 y4 y5 y6 y7, LeO (spec_l01Src_list.l0 k y0 y1 y2 y3 y4 y5 y6 y7) (spec_l01Src_list.l0 (k + 1) y0 y1 y2 y3 y4 y5 y6 y7))
  | 0 => fun _ _ _ _ _ _ _ _ r h => by simp [spec_l01Src_list.l0] at h
  | k + 1 => by
    have ih0 := spec_l01Src_list.mono_l k
    · intro y0 y1 y2 y3 y4 y5 y6 y7
      unfold spec_l01Src_list.l0
      repeat' first | (with_reducible exact ih0 _ _ _ _ _ _ _ _) | (with_reducible exact LeO.refl _) | (with_reducible exact LeO.none _) | (with_reducible refine LeO.ite ?_ ?_) | (with_reducible refine LeO.bind ?_ (fun _ => ?_)) | exact ih0 _ _ _ _ _ _ _ _ | exact LeO.none _ | refine LeO.ite ?_ ?_ | refine LeO.bind ?_ (fun _ => ?_)
theorem spec_l01Src_list.mono : ∀ a0 a1 a2 a3 a4 a5 a6 k, LeO (spec_l01Src_list.f k a0 a1 a2 a3 a4 a5 a6) (spec_l01Src_list.f (k + 1) a0 a1 a2 a3 a4 a5 a6) := by
  intro a0 a1 a2 a3 a4 a5 a6 k
  have ih0 := spec_l01Src_list.mono_l k
  unfold spec_l01Src_list.f
  repeat' first | (with_reducible exact ih0 _ _ _ _ _ _ _ _) | (with_reducible exact LeO.refl _) | (with_reducible exact LeO.none _) | (with_reducible refine LeO.ite ?_ ?_) | (with_reducible refine LeO.bind ?_ (fun _ => ?_)) | exact ih0 _ _ _ _ _ _ _ _ | exact LeO.none _ | refine LeO.ite ?_ ?_ | refine LeO.bind ?_ (fun _ => ?_)
theorem spec_l01Src_list.calls (k : Nat) (g : Nat) (s0_0 : List Int) (s0_1 : Int) (s0_2 : Int) (s0_3 : Int) (a1 : Int) (a2 : Int) (a3 : Int) (r1 : List Int) (r2 : Int) (r3 : Int) (r4 : Int) (w0 w : World) (hI : IsS82 w0 w g s0_0 s0_1 s0_2 s0_3) (hB : Below w0.heap.size w0 w) (h : spec_l01Src_list.f k s0_0 s0_1 s0_2 s0_3 a1 a2 a3 = some (r1, r2, r3, r4)) :
    Calls Try.prog 35 #[.pointer (some ⟨g, 0, none⟩), .int .i64 a1, .int .i64 a2, .int .i64 a3] w fun e w' => ∃ v0_ : Value, e = .returned (v0_) ∧ Kd.R (Kd.int .i64) 2 w' w.heap.size (fun _ => True) v0_ r1 ∧ IsS82 w0 w' g s0_0 r2 r3 r4 ∧ Below w0.heap.size w0 w' ∧ KeepBut w w' g none := by
 have HI0 := Aside0.mk hI; have HK := Aside0.mk (KeepBut.refl w g none); have HL := Aside0.mk hB.size; clear hI; have HW0 := Aside0.mk hB.size; have HB := Aside0.mk hB; clear hB; have H : (spec_l01Src_list.l0 k a1 a2 a3 (([] : List Int)) s0_0 s0_1 s0_2 s0_3) = some (r1, r2, r3, r4) := h; clear h; obtain ⟨y108, hy108⟩ : ∃ y_ : List Int, y_ = (([] : List Int)) := ⟨_, rfl⟩; replace H : (spec_l01Src_list.l0 k a1 a2 a3 y108 s0_0 s0_1 s0_2 s0_3) = some (r1, r2, r3, r4) := by first | (rw [hy108]; exact H) | exact H
 have Ny108 := Aside0.mk hy108; clear hy108; have H' := Aside0.mk H; clear H; go_enter Try.func35, Try.ntmps35; go_wp2_with (first | ((with_reducible refine gate_dst (N := 10) rfl ?_); refine Kd.R_lit (Kd.int .i64) _ 2 ?hg (N := 10) ?hd (xs := ([] : List Int)) (inner := []) (ok := fun _ => True) (okp := fun _ => True) ?hr ?hp (fun _ hk => hk) trivial (Below.refl _ _) (Nat.le_refl _) (by simp) ?_; (case hd => rfl); (case hg => rfl); (case hr => first | (go_simp; done) | (go_simp; rfl)); (case hp => exact (Reps.none _ _)); intro v109 w5 ho6 hb hg_ hnew_; clear hg_ hnew_; (first | rw [← Ny108.out] at ho6 | (simp only [Int.reduceToNat] at ho6; rw [← Ny108.out] at ho6)); have HO110 := Aside0.mk (Kd.R_lower ho6 (keep_size (w := w) (g := g) (row := none) HK.out)); replace HK := Aside0.mk (KeepBut.trans HK.out (KeepBut.of_below hb g none) (.inl rfl)); replace HB := Aside0.mk (below_step (a5_ HB.out HI0.out) hb); replace HI0 := Aside0.mk (IsS82.below HI0.out hb); clear hb ho6))
 go_loopg [1, 9] k (fun kq v1 v9 w' => ∃ (x1_1 : Int) (x9_1 : List Int) (x1001_1 : Int) (x1002_1 : Int) (x1003_1 : Int), v1 = .int .i64 x1_1 ∧ Aside0 (spec_l01Src_list.l0 kq x1_1 a2 a3 x9_1 s0_0 x1001_1 x1002_1 x1003_1 = some (r1, r2, r3, r4)) ∧ Aside0 (kq ≤ k) ∧ Aside0 (Kd.R (Kd.int .i64) 2 w' w.heap.size (fun _ => True) v9 x9_1) ∧ Aside0 (IsS82 w0 w' g s0_0 x1001_1 x1002_1 x1003_1) ∧ Aside0 (KeepBut w w' g none) ∧ Aside0 (Below w0.heap.size w0 w'))
 case atStart => exact ⟨(a1), (y108), (s0_1), (s0_2), (s0_3), (by first | rfl | (simp; done) | (simp [*]; done)), H', ⟨Nat.le_refl _⟩, ⟨(a2_ HO110.out)⟩, ⟨(a4_ HI0.out)⟩, ⟨(a6_ HK.out)⟩, ⟨(a5_ HB.out HI0.out)⟩⟩
 case round =>
  clear H'; (try clear p2); (try clear c3); obtain ⟨x1_1, x9_1, x1001_1, x1002_1, x1003_1, rfl, HA, HK1, HO_9, HI0, HK, HB⟩ := hrel
  cases gk with
  | zero => exact absurd HA.out (by simp [spec_l01Src_list.l0])
  | succ k1 =>
   have H := HA.out; clear HA; simp only [spec_l01Src_list.l0] at H; by_cases c7 : x1_1 > 0
   ·
    rw [if_pos c7] at H; have c7b0 : decide (0 < x1_1) = true := decide_eq_true c7; clear c7; replace H := Option.bind_eq_some_iff.mp H; obtain ⟨⟨t111, t112, t113, t114⟩, A80, H⟩ := H; dsimp only at H; have A8 := Aside0.mk A80; clear A80; by_cases c9 : x9_1.length < 17592186044416
    ·
     rw [if_pos c9] at H; have LMc9 := Aside0.mk c9; clear c9; obtain ⟨y115, hy115⟩ : ∃ y_ : List Int, y_ = (x9_1 ++ [t111]) := ⟨_, rfl⟩; replace H : (spec_l01Src_list.l0 k1 (wrap64 (x1_1 - 1)) a2 a3 y115 s0_0 t112 t113 t114) = some (r1, r2, r3, r4) := by first | (rw [hy115]; exact H) | exact H
     have Ny115 := Aside0.mk hy115; clear hy115; have H' := Aside0.mk H; clear H; go_wp2_with (first | ((with_reducible refine gate_callee (f := 64) rfl ?_); refine gl_ (some 19) Try.func64 #[.pointer (some ⟨g, 0, none⟩), .int .i64 a2, .int .i64 a3] ?_; (with_reducible refine (spec_l01Src_between.calls g s0_0 x1001_1 x1002_1 x1003_1 a2 a3 t111 t112 t113 t114 w0 _ ?side1 ?side2 A8.out).mono ?_); (case side1 => exact (a4_ HI0.out)); (case side2 => exact (a5_ HB.out HI0.out)); rintro e w10 ⟨rfl, hi, hb, hk⟩; refine ⟨_, rfl, ?_⟩; replace HO_9 := Aside0.mk (Kd.R_mono (Kd.R_keep (IsS82.apart (show IsS82 w0 _ g s0_0 x1001_1 x1002_1 x1003_1 from (a4_ HI0.out)) HO_9.out (by decide)) hk (fun _ h => h.2)) (fun _ h => h.1)); replace HK := Aside0.mk (KeepBut.trans HK.out hk (.inl rfl)); replace HB := Aside0.mk (hb); replace HI0 := Aside0.mk (hi); (try clear hb); (try clear hb2); (try clear hk); (try clear hi)) | ((with_reducible refine gate_builtin (b := .append) (xs := #[.tmp 15, .tmp 20]) rfl ?_); at_builtin; refine Kd.R_append (Kd.int .i64) w.heap.size rfl (.tmp 15) (.tmp 20) 23 2 (.int .i64 0) 8 rfl Try.underlying23 info2 rfl (by decide) (by omega) u9 x9_1 t111 [.int .i64 t111] (fun _ => True) (fun _ => False) rfl rfl ?aP (fun _ hk => hk.elim) ?aF ?aO (Below.refl _ _) ?aS ?aL ?_; (case aP => exact rfl); (case aF => exact (fun _ _ => trivial)); (case aO => exact HO_9.out); (case aS => exact (keep_size (w := w) (g := g) (row := none) HK.out)); (case aL => have := LMc9.out; omega); intro v116 w11 ho hb hg hat; rw [← Ny115.out] at ho; have n0_ := Aside0.mk (IsS82.grown HI0.out hg (IsS82.own_ne HI0.out HO_9.out (by decide))); have n1_ := Aside0.mk (below_weaken (a5_ HB.out HI0.out) HL.out hb); have n2_ := Aside0.mk (KeepBut.trans HK.out (KeepBut.of_grown hg g) (Kd.R_base2 HO_9.out)); have n3_ := Aside0.mk (ho); clear HI0; clear HB; clear HK; clear HO_9; have HI0 := n0_; have HB := n1_; have HK := n2_; have HO117 := n3_; clear n0_ n1_ n2_ n3_; clear ho hb hg hat))
     go_roundg k1
     case measure => have := HK1.out; omega
     case rel => exact ⟨(wrap64 (x1_1 - 1)), (y115), (t112), (t113), (t114), (by first | rfl | (simp; done) | (simp [*]; done)), H', ⟨by have := HK1.out; omega⟩, ⟨(a2_ HO117.out)⟩, ⟨(a4_ HI0.out)⟩, ⟨(a6_ HK.out)⟩, ⟨(a5_ HB.out HI0.out)⟩⟩
    ·
     rw [if_neg c9] at H; exact absurd H (by simp)
   ·
    rw [if_neg c7] at H; have c7b0 : decide (0 < x1_1) = false := decide_eq_false c7; clear c7; simp only [Option.some.injEq, Prod.mk.injEq] at H; obtain ⟨rfl, rfl, rfl, rfl⟩ := H; go_wp2
    go_ret
    exact ⟨_, a3_, (a2_ HO_9.out), (a4_ HI0.out), (a5_ HB.out HI0.out), (a6_ HK.out)⟩

/-! ### spec_l01Src_one: function 37 -/
def spec_l01Src_one.f (s0_0 : List Int) (s0_1 : Int) (s0_2 : Int) (s0_3 : Int) (a1 : Int) : Option (Bool × Int × Int × Int) := (spec_l01Src_n.f s0_0 s0_1 s0_2 s0_3 a1).bind fun bt118 => (some ((bt118.1 == 0), bt118.2.1, bt118.2.2.1, bt118.2.2.2))
theorem spec_l01Src_one.calls (g : Nat) (s0_0 : List Int) (s0_1 : Int) (s0_2 : Int) (s0_3 : Int) (a1 : Int) (r1 : Bool) (r2 : Int) (r3 : Int) (r4 : Int) (w0 w : World) (hI : IsS82 w0 w g s0_0 s0_1 s0_2 s0_3) (hB : Below w0.heap.size w0 w) (h : spec_l01Src_one.f s0_0 s0_1 s0_2 s0_3 a1 = some (r1, r2, r3, r4)) :
    Calls Try.prog 37 #[.pointer (some ⟨g, 0, none⟩), .int .i64 a1] w fun e w' => e = .returned (.bool r1) ∧ IsS82 w0 w' g s0_0 r2 r3 r4 ∧ Below w0.heap.size w0 w' ∧ KeepBut w w' g none := by
 have HI0 := Aside0.mk hI; have HK := Aside0.mk (KeepBut.refl w g none); have HL := Aside0.mk hB.size; clear hI; have HW0 := Aside0.mk hB.size; have HB := Aside0.mk hB; clear hB; have H : ((spec_l01Src_n.f s0_0 s0_1 s0_2 s0_3 a1).bind fun bt118 => (some ((bt118.1 == 0), bt118.2.1, bt118.2.2.1, bt118.2.2.2))) = some (r1, r2, r3, r4) := h; clear h; replace H := Option.bind_eq_some_iff.mp H; obtain ⟨⟨t118, t119, t120, t121⟩, A30, H⟩ := H; dsimp only at H; have A3 := Aside0.mk A30; clear A30; simp only [Option.some.injEq, Prod.mk.injEq] at H; obtain ⟨rfl, rfl, rfl, rfl⟩ := H; go_enter Try.func37, Try.ntmps37; go_wp2_with (first | ((with_reducible refine gate_callee (f := 36) rfl ?_); refine gl_ (some 7) Try.func36 #[.pointer (some ⟨g, 0, none⟩), .int .i64 a1] ?_; (with_reducible refine (spec_l01Src_n.calls g s0_0 s0_1 s0_2 s0_3 a1 t118 t119 t120 t121 w0 _ ?side1 ?side2 A3.out).mono ?_); (case side1 => exact (a4_ HI0.out)); (case side2 => exact (a5_ HB.out HI0.out)); rintro e w4 ⟨rfl, hi, hb, hk⟩; refine ⟨_, rfl, ?_⟩; replace HK := Aside0.mk (KeepBut.trans HK.out hk (.inl rfl)); replace HB := Aside0.mk (hb); replace HI0 := Aside0.mk (hi); (try clear hb); (try clear hb2); (try clear hk); (try clear hi)))
 go_ret
 exact ⟨a3_, (a4_ HI0.out), (a5_ HB.out HI0.out), (a6_ HK.out)⟩

/-! ### spec_DrawSpansOf: function 6 -/
def spec_DrawSpansOf.f (k : Nat) (l0 : List Int) : Option (List Int) := (spec_l01Source.f k l0).bind fun bt122 => ((spec_l01Src_n.f bt122.1 bt122.2.1 bt122.2.2.1 bt122.2.2.2 12).bind fun bt127 => ((spec_l01Src_list.f k bt122.1 bt127.2.1 bt127.2.2.1 bt127.2.2.2 bt127.1 1 15).bind fun bt131 => ((spec_l01Src_one.f bt122.1 bt131.2.1 bt131.2.2.1 bt131.2.2.2 12).bind fun bt137 => (if bt137.1 = true then ((some (([0, 1000000, 1000001] : List Int) : List Int)).bind fun y141 => ((spec_l01Src_n.f bt122.1 bt137.2.1 bt137.2.2.1 bt137.2.2.2 3).bind fun bt144 => (if 0 ≤ bt144.1 then (if bt144.1 < (y141.length : Int) then (if bt131.1.length < 17592186044416 then (some (bt131.1 ++ [rd y141 bt144.1])) else (none)) else (none)) else (none)))) else (some bt131.1)))))
theorem spec_DrawSpansOf.mono : ∀ a0 k, LeO (spec_DrawSpansOf.f k a0) (spec_DrawSpansOf.f (k + 1) a0) := by
  intro a0 k
  unfold spec_DrawSpansOf.f
  repeat' first | (with_reducible exact spec_l01Source.mono _ _) | (with_reducible exact spec_l01Src_list.mono _ _ _ _ _ _ _ _) | (with_reducible exact LeO.refl _) | (with_reducible exact LeO.none _) | (with_reducible refine LeO.ite ?_ ?_) | (with_reducible refine LeO.bind ?_ (fun _ => ?_)) | exact spec_l01Source.mono _ _ | exact spec_l01Src_list.mono _ _ _ _ _ _ _ _ | exact LeO.none _ | refine LeO.ite ?_ ?_ | refine LeO.bind ?_ (fun _ => ?_)
theorem spec_DrawSpansOf.calls (k : Nat) (A0 : Option Addr) (c0 : Nat) (l0 : List Int) (r : List Int) (w : World) (hr0 : Kd.C (Kd.int .u8) w A0 l0.length l0) (hc0 : l0.length ≤ c0) (h : spec_DrawSpansOf.f k l0 = some r) :
    Calls Try.prog 6 #[.slice A0 l0.length c0] w fun e w' => ∃ v0_ : Value, e = .returned (v0_) ∧ Kd.R (Kd.int .i64) 2 w' w.heap.size (fun _ => True) v0_ r ∧ Below w.heap.size w w' := by
 have HR0 := Aside0.mk hr0; have HC0 := Aside0.mk hc0; clear hr0 hc0; have HB := Aside0.mk (Below.refl w.heap.size w); have H : ((spec_l01Source.f k l0).bind fun bt122 => ((spec_l01Src_n.f bt122.1 bt122.2.1 bt122.2.2.1 bt122.2.2.2 12).bind fun bt127 => ((spec_l01Src_list.f k bt122.1 bt127.2.1 bt127.2.2.1 bt127.2.2.2 bt127.1 1 15).bind fun bt131 => ((spec_l01Src_one.f bt122.1 bt131.2.1 bt131.2.2.1 bt131.2.2.2 12).bind fun bt137 => (if bt137.1 = true then ((some (([0, 1000000, 1000001] : List Int) : List Int)).bind fun y141 => ((spec_l01Src_n.f bt122.1 bt137.2.1 bt137.2.2.1 bt137.2.2.2 3).bind fun bt144 => (if 0 ≤ bt144.1 then (if bt144.1 < (y141.length : Int) then (if bt131.1.length < 17592186044416 then (some (bt131.1 ++ [rd y141 bt144.1])) else (none)) else (none)) else (none)))) else (some bt131.1)))))) = some r := h; clear h; replace H := Option.bind_eq_some_iff.mp H; obtain ⟨⟨t122, t123, t124, t125⟩, A20, H⟩ := H; dsimp only at H
 have A2 := Aside0.mk A20; clear A20; replace H := Option.bind_eq_some_iff.mp H; obtain ⟨⟨t127, t128, t129, t130⟩, A30, H⟩ := H; dsimp only at H; have A3 := Aside0.mk A30; clear A30; replace H := Option.bind_eq_some_iff.mp H; obtain ⟨⟨t131, t134, t135, t136⟩, A40, H⟩ := H; dsimp only at H; have A4 := Aside0.mk A40; clear A40; replace H := Option.bind_eq_some_iff.mp H; obtain ⟨⟨t137, t138, t139, t140⟩, A50, H⟩ := H; dsimp only at H
 have A5 := Aside0.mk A50; clear A50; by_cases c6 : t137 = true
 ·
  subst c6; rw [if_pos rfl] at H; obtain ⟨y141, hy141⟩ : ∃ y_ : List Int, y_ = (([0, 1000000, 1000001] : List Int)) := ⟨_, rfl⟩; replace H := bs_ hy141 H
  have Ny141 := Aside0.mk hy141; clear hy141; replace H := Option.bind_eq_some_iff.mp H; obtain ⟨⟨t144, t145, t146, t147⟩, A70, H⟩ := H; dsimp only at H; have A7 := Aside0.mk A70; clear A70; by_cases c8 : 0 ≤ t144
  ·
   rw [if_pos c8] at H; have c8b0 : decide (0 ≤ t144) = true := decide_eq_true c8; clear c8; by_cases c9 : t144 < (y141.length : Int)
   ·
    rw [if_pos c9] at H; have c9b0 : decide (t144 < (y141.length : Int)) = true := decide_eq_true c9; clear c9; by_cases c10 : t131.length < 17592186044416
    ·
     rw [if_pos c10] at H; have LMc10 := Aside0.mk c10; clear c10; obtain ⟨y149, hy149⟩ : ∃ y_ : List Int, y_ = (t131 ++ [rd y141 t144]) := ⟨_, rfl⟩; replace H : (some y149) = some r := by first | (rw [hy149]; exact H) | exact H
     have Ny149 := Aside0.mk hy149; clear hy149; obtain rfl := Option.some.inj H; go_enter Try.func6, Try.ntmps6; go_wp2_with (first | ((with_reducible refine gate_callee (f := 34) rfl ?_); refine gl_ (some 6) Try.func34 #[.slice A0 l0.length c0] ?_; (with_reducible refine (spec_l01Source.calls k _ _ l0 t122 t123 t124 t125 w _ ?side1 ?side2 HC0.out A2.out).mono ?_); (case side1 => exact (a1_ HB.out)); (case side2 => exact HR0.out); rintro e w11 ⟨g126, rfl, hi, hb, hb2⟩; refine ⟨_, rfl, ?_⟩; replace HB := Aside0.mk (hb); have HI126 := Aside0.mk (hi); (try clear hb); (try clear hb2); (try clear hk); (try clear hi)) | ((with_reducible refine gate_callee (f := 36) rfl ?_); refine gl_ (some 9) Try.func36 #[.pointer (some ⟨g126, 0, none⟩), .int .i64 12] ?_; (with_reducible refine (spec_l01Src_n.calls g126 t122 t123 t124 t125 12 t127 t128 t129 t130 w _ ?side1 ?side2 A3.out).mono ?_); (case side1 => exact (a4_ HI126.out)); (case side2 => exact (a5_ HB.out HI126.out)); rintro e w12 ⟨rfl, hi, hb, hk⟩; refine ⟨_, rfl, ?_⟩; replace HB := Aside0.mk (hb); replace HI126 := Aside0.mk (hi); (try clear hb); (try clear hb2); (try clear hk); (try clear hi)) | ((with_reducible refine gate_callee (f := 35) rfl ?_); refine gl_ (some 10) Try.func35 #[.pointer (some ⟨g126, 0, none⟩), .int .i64 t127, .int .i64 1, .int .i64 15] ?_; (with_reducible refine (spec_l01Src_list.calls k g126 t122 t128 t129 t130 t127 1 15 t131 t134 t135 t136 w _ ?side1 ?side2 A4.out).mono ?_); (case side1 => exact (a4_ HI126.out)); (case side2 => exact (a5_ HB.out HI126.out)); rintro e w13 ⟨v132, rfl, ho0, hi, hb, hk⟩; refine ⟨_, rfl, ?_⟩; have HO133 := Aside0.mk (Kd.R_lower ho0 (below_size (a5_ HB.out HI126.out))); replace HB := Aside0.mk (hb); replace HI126 := Aside0.mk (hi); (try clear hb); (try clear hb2); (try clear hk); (try clear hi); (try clear ho0)) | ((with_reducible refine gate_callee (f := 37) rfl ?_); refine gl_ (some 12) Try.func37 #[.pointer (some ⟨g126, 0, none⟩), .int .i64 12] ?_; (with_reducible refine (spec_l01Src_one.calls g126 t122 t134 t135 t136 12 true t138 t139 t140 w _ ?side1 ?side2 A5.out).mono ?_); (case side1 => exact (a4_ HI126.out)); (case side2 => exact (a5_ HB.out HI126.out)); rintro e w14 ⟨rfl, hi, hb, hk⟩; refine ⟨_, rfl, ?_⟩; replace HO133 := Aside0.mk (Kd.R_mono (Kd.R_keep (IsS82.apart (show IsS82 w _ g126 t122 t134 t135 t136 from (a4_ HI126.out)) HO133.out (by decide)) hk (fun _ h => h.2)) (fun _ h => h.1)); replace HB := Aside0.mk (hb); replace HI126 := Aside0.mk (hi); (try clear hb); (try clear hb2); (try clear hk); (try clear hi)) | ((with_reducible refine gate_dst (N := 14) rfl ?_); refine Kd.R_lit (Kd.int .i64) _ 2 ?hg (N := 14) ?hd (xs := ([0, 1000000, 1000001] : List Int)) (inner := [.int .i64 0, .int .i64 1000000, .int .i64 1000001]) (ok := fun _ => True) (okp := fun _ => True) ?hr ?hp (fun _ hk => hk) trivial (Below.refl _ _) (Nat.le_refl _) (by simp) ?_; (case hd => rfl); (case hg => rfl); (case hr => first | (go_simp; done) | (go_simp; rfl)); (case hp => exact (Reps.one (show Kd.M (Kd.int .i64) _ _ _ 0 [.int .i64 0] from rfl) (Reps.one (show Kd.M (Kd.int .i64) _ _ _ 1000000 [.int .i64 1000000] from rfl) (Reps.one (show Kd.M (Kd.int .i64) _ _ _ 1000001 [.int .i64 1000001] from rfl) (Reps.none _ _))))); intro v142 w15 ho16 hb hg_ hnew_; clear hg_ hnew_; (first | rw [← Ny141.out] at ho16 | (simp only [Int.reduceToNat] at ho16; rw [← Ny141.out] at ho16)); have HO143 := Aside0.mk (Kd.R_lower (Kd.R_new' ho16 (Kd.R_lt HO133.out)) (below_size (a5_ HB.out HI126.out))); replace HO133 := Aside0.mk (Kd.R_elder' HO133.out (Kd.R_base ho16) hb); replace HB := Aside0.mk (below_step (a5_ HB.out HI126.out) hb); replace HI126 := Aside0.mk (IsS82.below HI126.out hb); clear hb ho16) | ((with_reducible refine gate_callee (f := 36) rfl ?_); refine gl_ (some 16) Try.func36 #[.pointer (some ⟨g126, 0, none⟩), .int .i64 3] ?_; (with_reducible refine (spec_l01Src_n.calls g126 t122 t138 t139 t140 3 t144 t145 t146 t147 w _ ?side1 ?side2 A7.out).mono ?_); (case side1 => exact (a4_ HI126.out)); (case side2 => exact (a5_ HB.out HI126.out)); rintro e w17 ⟨rfl, hi, hb, hk⟩; refine ⟨_, rfl, ?_⟩; replace HO133 := Aside0.mk (Kd.R_mono (Kd.R_keep (IsS82.apart (show IsS82 w _ g126 t122 t138 t139 t140 from (a4_ HI126.out)) HO133.out (by decide)) hk (fun _ h => h.2)) (fun _ h => h.1)); replace HO143 := Aside0.mk (Kd.R_mono (Kd.R_keep (IsS82.apart (show IsS82 w _ g126 t122 t138 t139 t140 from (a4_ HI126.out)) HO143.out (by decide)) hk (fun _ h => h.2)) (fun _ h => h.1)); replace HB := Aside0.mk (hb); replace HI126 := Aside0.mk (hi); (try clear hb); (try clear hb2); (try clear hk); (try clear hi); obtain ⟨Ao18, co18, eo18⟩ := Kd.R_slice HO143.out; subst eo18; have p148 : 0 ≤ (t144 : Int) := d_; have q148 : t144 < (y141.length : Int) := d_; obtain ⟨ad148, e148, hx148_0⟩ := Kd.at_int (Kd.R_reads' HO143.out).2.2 t144 p148 q148; cases e148; replace p148 := eq_true p148; replace q148 := eq_true q148) | ((with_reducible refine gate_builtin (b := .append) (xs := #[.tmp 13, .tmp 19]) rfl ?_); at_builtin; refine Kd.R_append (Kd.int .i64) (w0 := w) w.heap.size rfl (.tmp 13) (.tmp 19) 23 2 (.int .i64 0) 8 rfl Try.underlying23 info2 rfl (by decide) (by omega) v132 t131 (rd y141 t144) [.int .i64 (rd y141 t144)] (fun k_ => some k_ ≠ (.slice (some ad148) y141.length co18 : Value).ownBlock) (fun _ => False) rfl rfl ?aP (fun _ hk => hk.elim) ?aF ?aO ?aB ?aS ?aL ?_; (case aP => exact rfl); (case aB => exact (a5_ HB.out HI126.out)); (case aF => exact (fun k_ hk => Kd.fresh' (Kd.R_lt HO143.out) k_ hk)); (case aO => exact (Kd.R_mono HO133.out (fun _ hk => hk.2))); (case aS => exact (below_size (a5_ HB.out HI126.out))); (case aL => have := LMc10.out; omega); intro v150 w19 ho hb hg hat; rw [← Ny149.out] at ho; have n0_ := Aside0.mk (IsS82.grown HI126.out hg (IsS82.own_ne HI126.out HO133.out (by decide))); have n1_ := Aside0.mk (Kd.R_after (ok := (fun _ => True)) HO143.out hg hat); have n2_ := Aside0.mk (hb); have n3_ := Aside0.mk (ho); clear HI126; clear HO143; clear HB; clear HO133; have HI126 := n0_; have HO143 := n1_; have HB := n2_; have HO151 := n3_; clear n0_ n1_ n2_ n3_; clear ho hb hg hat))
     go_ret
     exact ⟨_, a3_, by (with_reducible repeat (first | apply Kd.R_alloc | apply Kd.R_drewN | apply Kd.R_drew)); exact Kd.R_mono HO151.out (fun _ hk => trivial), (a5_ HB.out HI126.out)⟩
    ·
     rw [if_neg c10] at H; exact absurd H (by simp)
   ·
    rw [if_neg c9] at H; exact absurd H (by simp)
  ·
   rw [if_neg c8] at H; exact absurd H (by simp)
 ·
  replace c6 := Bool.eq_false_iff.mpr c6; subst c6; rw [if_neg (show ¬ (false = true) by decide)] at H; obtain rfl := Option.some.inj H; go_enter Try.func6, Try.ntmps6; go_wp2_with (first | ((with_reducible refine gate_callee (f := 34) rfl ?_); refine gl_ (some 6) Try.func34 #[.slice A0 l0.length c0] ?_; (with_reducible refine (spec_l01Source.calls k _ _ l0 t122 t123 t124 t125 w _ ?side1 ?side2 HC0.out A2.out).mono ?_); (case side1 => exact (a1_ HB.out)); (case side2 => exact HR0.out); rintro e w20 ⟨g126, rfl, hi, hb, hb2⟩; refine ⟨_, rfl, ?_⟩; replace HB := Aside0.mk (hb); have HI126 := Aside0.mk (hi); (try clear hb); (try clear hb2); (try clear hk); (try clear hi)) | ((with_reducible refine gate_callee (f := 36) rfl ?_); refine gl_ (some 9) Try.func36 #[.pointer (some ⟨g126, 0, none⟩), .int .i64 12] ?_; (with_reducible refine (spec_l01Src_n.calls g126 t122 t123 t124 t125 12 t127 t128 t129 t130 w _ ?side1 ?side2 A3.out).mono ?_); (case side1 => exact (a4_ HI126.out)); (case side2 => exact (a5_ HB.out HI126.out)); rintro e w21 ⟨rfl, hi, hb, hk⟩; refine ⟨_, rfl, ?_⟩; replace HB := Aside0.mk (hb); replace HI126 := Aside0.mk (hi); (try clear hb); (try clear hb2); (try clear hk); (try clear hi)) | ((with_reducible refine gate_callee (f := 35) rfl ?_); refine gl_ (some 10) Try.func35 #[.pointer (some ⟨g126, 0, none⟩), .int .i64 t127, .int .i64 1, .int .i64 15] ?_; (with_reducible refine (spec_l01Src_list.calls k g126 t122 t128 t129 t130 t127 1 15 t131 t134 t135 t136 w _ ?side1 ?side2 A4.out).mono ?_); (case side1 => exact (a4_ HI126.out)); (case side2 => exact (a5_ HB.out HI126.out)); rintro e w22 ⟨v132, rfl, ho0, hi, hb, hk⟩; refine ⟨_, rfl, ?_⟩; have HO133 := Aside0.mk (Kd.R_lower ho0 (below_size (a5_ HB.out HI126.out))); replace HB := Aside0.mk (hb); replace HI126 := Aside0.mk (hi); (try clear hb); (try clear hb2); (try clear hk); (try clear hi); (try clear ho0)) | ((with_reducible refine gate_callee (f := 37) rfl ?_); refine gl_ (some 12) Try.func37 #[.pointer (some ⟨g126, 0, none⟩), .int .i64 12] ?_; (with_reducible refine (spec_l01Src_one.calls g126 t122 t134 t135 t136 12 false t138 t139 t140 w _ ?side1 ?side2 A5.out).mono ?_); (case side1 => exact (a4_ HI126.out)); (case side2 => exact (a5_ HB.out HI126.out)); rintro e w23 ⟨rfl, hi, hb, hk⟩; refine ⟨_, rfl, ?_⟩; replace HO133 := Aside0.mk (Kd.R_mono (Kd.R_keep (IsS82.apart (show IsS82 w _ g126 t122 t134 t135 t136 from (a4_ HI126.out)) HO133.out (by decide)) hk (fun _ h => h.2)) (fun _ h => h.1)); replace HB := Aside0.mk (hb); replace HI126 := Aside0.mk (hi); (try clear hb); (try clear hb2); (try clear hk); (try clear hi)))
  go_ret
  exact ⟨_, a3_, (a2_ HO133.out), (a5_ HB.out HI126.out)⟩

/-! ### impl_in: function 60 -/
def impl_in.f (a0 : Int) (a1 : Int) (a2 : Int) : Option (Bool) := if a1 ≤ a0 then (some (decide (a0 ≤ a2))) else (some false)
theorem impl_in.calls (a0 : Int) (a1 : Int) (a2 : Int) (r : Bool) (w : World) (h : impl_in.f a0 a1 a2 = some r) :
    Calls Try.prog 60 #[.int .i64 a0, .int .i64 a1, .int .i64 a2] w fun e w' => e = .returned (.bool r) ∧ Drawn0 w w' := by
 have H : (if a1 ≤ a0 then (some (decide (a0 ≤ a2))) else (some false)) = some r := h; clear h; by_cases c4 : a1 ≤ a0
 ·
  rw [if_pos c4] at H; have c4b0 : decide (a1 ≤ a0) = true := decide_eq_true c4; clear c4; obtain rfl := Option.some.inj H; go_enter Try.func60, Try.ntmps60; go_wp2
  go_ret
  exact ⟨by first | rfl | (simp; done) | (simp [*]; done), by repeat (first | exact Drawn0.refl _ | apply Drawn0.step)⟩
 ·
  rw [if_neg c4] at H; have c4b0 : decide (a1 ≤ a0) = false := decide_eq_false c4; clear c4; obtain rfl := Option.some.inj H; go_enter Try.func60, Try.ntmps60; go_wp2
  go_ret
  exact ⟨by first | rfl | (simp; done) | (simp [*]; done), by repeat (first | exact Drawn0.refl _ | apply Drawn0.step)⟩

/-! ### impl_isId: function 40 -/
def impl_isId.f (a0 : Int) : Option (Bool) := (impl_in.f a0 1 1000000).bind fun t152 => (some t152)
theorem impl_isId.calls (a0 : Int) (r : Bool) (w : World) (h : impl_isId.f a0 = some r) :
    Calls Try.prog 40 #[.int .i64 a0] w fun e w' => e = .returned (.bool r) ∧ Drawn0 w w' := by
 have H : ((impl_in.f a0 1 1000000).bind fun t152 => (some t152)) = some r := h; clear h; replace H := Option.bind_eq_some_iff.mp H; obtain ⟨t152, A20, H⟩ := H; have A2 := Aside0.mk A20; clear A20; obtain rfl := Option.some.inj H; go_enter Try.func40, Try.ntmps40; go_wp2_with (first | ((with_reducible refine gate_callee (f := 60) rfl ?_); refine gl_ (some 4) Try.func60 #[.int .i64 a0, .int .i64 1, .int .i64 1000000] ?_; (with_reducible refine (impl_in.calls a0 1 1000000 t152 _ A2.out).mono ?_); rintro e w' ⟨rfl, ⟨nd, rfl⟩⟩; refine ⟨_, rfl, ?_⟩))
 go_ret
 exact ⟨by first | rfl | (simp; done) | (simp [*]; done), by repeat (first | exact Drawn0.refl _ | apply Drawn0.step)⟩

/-! ### impl_SpansOf_1: function 39 -/
def impl_SpansOf_1.f (a0 : Int) : Option (Bool) := (impl_isId.f a0).bind fun t153 => (some (!t153))
theorem impl_SpansOf_1.calls (a0 : Int) (r : Bool) (w : World) (h : impl_SpansOf_1.f a0 = some r) :
    Calls Try.prog 39 #[.int .i64 a0] w fun e w' => e = .returned (.bool r) ∧ Drawn0 w w' := by
 have H : ((impl_isId.f a0).bind fun t153 => (some (!t153))) = some r := h; clear h; replace H := Option.bind_eq_some_iff.mp H; obtain ⟨t153, A20, H⟩ := H; have A2 := Aside0.mk A20; clear A20; obtain rfl := Option.some.inj H; go_enter Try.func39, Try.ntmps39; go_wp2_with (first | ((with_reducible refine gate_callee (f := 40) rfl ?_); refine gl_ (some 4) Try.func40 #[.int .i64 a0] ?_; (with_reducible refine (impl_isId.calls a0 t153 _ A2.out).mono ?_); rintro e w' ⟨rfl, ⟨nd, rfl⟩⟩; refine ⟨_, rfl, ?_⟩))
 go_ret
 exact ⟨by first | rfl | (simp; done) | (simp [*]; done), by repeat (first | exact Drawn0.refl _ | apply Drawn0.step)⟩

/-! ### impl_SpansJoin_1: function 47 -/
def impl_SpansJoin_1.f (a0_0 : Int) (a0_1 : Int) (a1_0 : Int) (a1_1 : Int) : Option (Int) := some (wrap64 (a0_0 - a1_0))
theorem impl_SpansJoin_1.calls (a0_0 : Int) (a0_1 : Int) (a1_0 : Int) (a1_1 : Int) (r : Int) (w : World) (h : impl_SpansJoin_1.f a0_0 a0_1 a1_0 a1_1 = some r) :
    Calls Try.prog 47 #[.agg #[.int .i64 a0_0, .int .i64 a0_1], .agg #[.int .i64 a1_0, .int .i64 a1_1]] w fun e w' => e = .returned (.int .i64 r) ∧ Below w.heap.size w w' := by
 have hu60 := Try.underlying60; have HB := Aside0.mk (Below.refl w.heap.size w); have H : (some (wrap64 (a0_0 - a1_0))) = some r := h; clear h; obtain rfl := Option.some.inj H; go_enter Try.func47, Try.ntmps47; go_wp2_with (first | ((with_reducible refine gate_dst (N := 2) rfl ?_); refine be_ 2 #[.int .i64 a0_0, .int .i64 a0_1] 60 ?_; intro gb154 hg w3 hbox hb; have BK154 := Aside0.mk (hbox); have GW154 := Aside0.mk ((by rw [hg]; exact (below_size HB.out) : w.heap.size ≤ gb154)); replace HB := Aside0.mk (below_step HB.out hb); have GE154 := GW154; clear hb hbox hg) | ((with_reducible refine gate_dst (N := 3) rfl ?_); refine be_ 3 #[.int .i64 a1_0, .int .i64 a1_1] 60 ?_; intro gb155 hg w4 hbox hb; have BK155 := Aside0.mk (hbox); have GW155 := Aside0.mk ((by rw [hg]; exact (below_size HB.out) : w.heap.size ≤ gb155)); replace HB := Aside0.mk (below_step HB.out hb); have GE155 := GW155; have NB154_155 := Aside0.mk ((by rw [hg]; exact Nat.ne_of_lt (blk_lt BK154.out) : gb154 ≠ gb155)); replace BK154 := Aside0.mk (blk_below BK154.out hb); have NB155_154 := Aside0.mk (Ne.symm NB154_155.out); clear hb hbox hg; have hnb5 := NB154_155.out; have hnc5 := NB155_154.out; obtain ⟨⟨hcz6_0, hcz6_1⟩, hfz6_0, hfz6_1⟩ := cells_2 BK154.out; obtain ⟨⟨hcz7_0, hcz7_1⟩, hfz7_0, hfz7_1⟩ := cells_2 BK155.out))
 go_ret
 exact ⟨a3_, (a23_ HB.out GE154.out GE155.out)⟩

/-! ### slices_IndexFunc_int64_int64: function 65 -/
def slices_IndexFunc_int64_int64.l0 : Nat → List Int → Int → Int → Option (Int)
  | 0, _, _, _ => none
  | k + 1, x0, x7, x8 => if x8 < x7 then (if 0 ≤ x8 then (if x8 < (x0.length : Int) then ((impl_SpansOf_1.f (rd x0 x8)).bind fun t157 => (if t157 = true then (some x8) else (slices_IndexFunc_int64_int64.l0 k x0 x7 (wrap64 (x8 + 1))))) else (none)) else (none)) else (some (-1))
def slices_IndexFunc_int64_int64.f (k : Nat) (l0 : List Int)  : Option (Int) := slices_IndexFunc_int64_int64.l0 k l0 (l0.length : Int) 0
theorem slices_IndexFunc_int64_int64.mono_l : ∀ k, (∀ y0 y1 y2, LeO (slices_IndexFunc_int64_int64.l0 k y0 y1 y2) (slices_IndexFunc_int64_int64.l0 (k + 1) y0 y1 y2))
  | 0 => fun _ _ _ r h => by simp [slices_IndexFunc_int64_int64.l0] at h
  | k + 1 => by
    have ih0 := slices_IndexFunc_int64_int64.mono_l k
    · intro y0 y1 y2
      unfold slices_IndexFunc_int64_int64.l0
      repeat' first | (with_reducible exact ih0 _ _ _) | (with_reducible exact LeO.refl _) | (with_reducible exact LeO.none _) | (with_reducible refine LeO.ite ?_ ?_) | (with_reducible refine LeO.bind ?_ (fun _ => ?_)) | exact ih0 _ _ _ | exact LeO.none _ | refine LeO.ite ?_ ?_ | refine LeO.bind ?_ (fun _ => ?_)
theorem slices_IndexFunc_int64_int64.mono : ∀ a0 k, LeO (slices_IndexFunc_int64_int64.f k a0) (slices_IndexFunc_int64_int64.f (k + 1) a0) := by
  intro a0 k
  have ih0 := slices_IndexFunc_int64_int64.mono_l k
  unfold slices_IndexFunc_int64_int64.f
  repeat' first | (with_reducible exact ih0 _ _ _) | (with_reducible exact LeO.refl _) | (with_reducible exact LeO.none _) | (with_reducible refine LeO.ite ?_ ?_) | (with_reducible refine LeO.bind ?_ (fun _ => ?_)) | exact ih0 _ _ _ | exact LeO.none _ | refine LeO.ite ?_ ?_ | refine LeO.bind ?_ (fun _ => ?_)
theorem slices_IndexFunc_int64_int64.calls (k : Nat) (A0 : Option Addr) (c0 : Nat) (l0 : List Int)  (r : Int) (w : World) (hr0 : Kd.C (Kd.int .i64) w A0 l0.length l0) (hc0 : l0.length ≤ c0) (h : slices_IndexFunc_int64_int64.f k l0 = some r) :
    Calls Try.prog 65 #[.slice A0 l0.length c0, .func (.func 39) #[] #[]] w fun e w' => e = .returned (.int .i64 r) ∧ Drawn0 w w' := by
 have HR0 := Aside0.mk hr0; have HC0 := Aside0.mk hc0; clear hr0 hc0; have H : (slices_IndexFunc_int64_int64.l0 k l0 (l0.length : Int) 0) = some r := h; clear h; have H' := Aside0.mk H; clear H; go_enter Try.func65, Try.ntmps65; go_wp2
 go_loopg [8] k (fun kq v8 w' => ∃ (x8_1 : Int), v8 = .int .i64 x8_1 ∧ Aside0 (slices_IndexFunc_int64_int64.l0 kq l0 (l0.length : Int) x8_1 = some r) ∧ Aside0 (kq ≤ k) ∧ Drawn0 w w')
 case atStart => exact ⟨(0), (by first | rfl | (simp; done) | (simp [*]; done)), H', ⟨Nat.le_refl _⟩, by repeat (first | exact Drawn0.refl _ | apply Drawn0.step)⟩
 case round =>
  clear H'; (try clear p2); obtain ⟨x8_1, rfl, HA, HK1, ⟨m1, rfl⟩⟩ := hrel
  cases gk with
  | zero => exact absurd HA.out (by simp [slices_IndexFunc_int64_int64.l0])
  | succ k1 =>
   have H := HA.out; clear HA; simp only [slices_IndexFunc_int64_int64.l0] at H; by_cases c3 : x8_1 < (l0.length : Int)
   ·
    rw [if_pos c3] at H; have c3b0 : decide (x8_1 < (l0.length : Int)) = true := decide_eq_true c3; clear c3; by_cases c4 : 0 ≤ x8_1
    ·
     rw [if_pos c4] at H; have c4b0 : decide (0 ≤ x8_1) = true := decide_eq_true c4; clear c4; by_cases c5 : x8_1 < (l0.length : Int)
     ·
      rw [if_pos c5] at H; have c5b0 : decide (x8_1 < (l0.length : Int)) = true := decide_eq_true c5; clear c5; replace H := Option.bind_eq_some_iff.mp H; obtain ⟨t157, A60, H⟩ := H; have A6 := Aside0.mk A60; clear A60; by_cases c7 : t157 = true
      ·
       subst c7; rw [if_pos rfl] at H; obtain rfl := Option.some.inj H; have p156 : 0 ≤ (x8_1 : Int) := d_; have q156 : x8_1 < (l0.length : Int) := d_; obtain ⟨ad156, e156, hx156_0⟩ := Kd.at_int HR0.out x8_1 p156 q156; cases e156; replace p156 := eq_true p156; replace q156 := eq_true q156; go_wp2_with (first | (go_at_call 39; (with_reducible refine (impl_SpansOf_1.calls (rd l0 x8_1) true _ A6.out).mono ?_); rintro e w' ⟨rfl, ⟨nd, rfl⟩⟩))
       go_ret
       exact ⟨by first | rfl | (simp; done) | (simp [*]; done), by repeat (first | exact Drawn0.refl _ | apply Drawn0.step)⟩
      ·
       replace c7 := Bool.eq_false_iff.mpr c7; subst c7; rw [if_neg (show ¬ (false = true) by decide)] at H; have H' := Aside0.mk H; clear H; have p156 : 0 ≤ (x8_1 : Int) := d_; have q156 : x8_1 < (l0.length : Int) := d_; obtain ⟨ad156, e156, hx156_0⟩ := Kd.at_int HR0.out x8_1 p156 q156; cases e156; replace p156 := eq_true p156; replace q156 := eq_true q156; go_wp2_with (first | (go_at_call 39; (with_reducible refine (impl_SpansOf_1.calls (rd l0 x8_1) false _ A6.out).mono ?_); rintro e w' ⟨rfl, ⟨nd, rfl⟩⟩))
       go_roundg k1
       case measure => have := HK1.out; omega
       case rel => exact ⟨(wrap64 (x8_1 + 1)), (by first | rfl | (simp; done) | (simp [*]; done)), H', ⟨by have := HK1.out; omega⟩, by repeat (first | exact Drawn0.refl _ | apply Drawn0.step)⟩
     ·
      rw [if_neg c5] at H; exact absurd H (by simp)
    ·
     rw [if_neg c4] at H; exact absurd H (by simp)
   ·
    rw [if_neg c3] at H; have c3b0 : decide (x8_1 < (l0.length : Int)) = false := decide_eq_false c3; clear c3; obtain rfl := Option.some.inj H; go_wp2
    go_ret
    exact ⟨by first | rfl | (simp; done) | (simp [*]; done), by repeat (first | exact Drawn0.refl _ | apply Drawn0.step)⟩

/-! ### slices_ContainsFunc_int64_int64: function 38 -/
def slices_ContainsFunc_int64_int64.f (k : Nat) (l0 : List Int)  : Option (Bool) := (slices_IndexFunc_int64_int64.f k l0).bind fun t158 => (some (decide (t158 ≥ 0)))
theorem slices_ContainsFunc_int64_int64.mono : ∀ a0 k, LeO (slices_ContainsFunc_int64_int64.f k a0) (slices_ContainsFunc_int64_int64.f (k + 1) a0) := by
  intro a0 k
  unfold slices_ContainsFunc_int64_int64.f
  repeat' first | (with_reducible exact slices_IndexFunc_int64_int64.mono _ _) | (with_reducible exact LeO.refl _) | (with_reducible exact LeO.none _) | (with_reducible refine LeO.ite ?_ ?_) | (with_reducible refine LeO.bind ?_ (fun _ => ?_)) | exact slices_IndexFunc_int64_int64.mono _ _ | exact LeO.none _ | refine LeO.ite ?_ ?_ | refine LeO.bind ?_ (fun _ => ?_)
theorem slices_ContainsFunc_int64_int64.calls (k : Nat) (A0 : Option Addr) (c0 : Nat) (l0 : List Int)  (r : Bool) (w : World) (hr0 : Kd.C (Kd.int .i64) w A0 l0.length l0) (hc0 : l0.length ≤ c0) (h : slices_ContainsFunc_int64_int64.f k l0 = some r) :
    Calls Try.prog 38 #[.slice A0 l0.length c0, .func (.func 39) #[] #[]] w fun e w' => e = .returned (.bool r) ∧ Drawn0 w w' := by
 have HR0 := Aside0.mk hr0; have HC0 := Aside0.mk hc0; clear hr0 hc0; have H : ((slices_IndexFunc_int64_int64.f k l0).bind fun t158 => (some (decide (t158 ≥ 0)))) = some r := h; clear h; replace H := Option.bind_eq_some_iff.mp H; obtain ⟨t158, A30, H⟩ := H; have A3 := Aside0.mk A30; clear A30; obtain rfl := Option.some.inj H; go_enter Try.func38, Try.ntmps38; go_wp2_with (first | ((with_reducible refine gate_callee (f := 65) rfl ?_); refine gl_ (some 7) Try.func65 #[.slice A0 l0.length c0, .func (.func 39) #[] #[]] ?_; (with_reducible refine (slices_IndexFunc_int64_int64.calls k _ _ l0 t158 _ ?side1 HC0.out A3.out).mono ?_); (case side1 => repeat (first | exact HR0.out | (with_reducible refine Kd.C_alloc ?_ _) | (with_reducible refine Kd.C_drewN ?_ _) | (with_reducible refine Kd.C_drew ?_))); rintro e w' ⟨rfl, ⟨nd, rfl⟩⟩; refine ⟨_, rfl, ?_⟩))
 go_ret
 exact ⟨by first | rfl | (simp; done) | (simp [*]; done), by repeat (first | exact Drawn0.refl _ | apply Drawn0.step)⟩

/-! ### impl_spans: function 41 -/
def impl_spans.l0 : Nat → List (S60) → List Int → Int → Int → Option ((List (S60)))
  | 0, _, _, _, _ => none
  | k + 1, x3, x8, x9, x10 => if x10 < x9 then (if 0 ≤ x10 then (if x10 < (x8.length : Int) then (if (wrap64 ((x3.length : Int) - 1)) ≥ 0 then (if 0 ≤ (wrap64 ((x3.length : Int) - 1)) then (if (wrap64 ((x3.length : Int) - 1)) < (x3.length : Int) then (if (wrap64 (((rd_T60 x3 (wrap64 ((x3.length : Int) - 1))).f1) + 1)) = (rd x8 x10) then (impl_spans.l0 k (x3.set ((wrap64 ((x3.length : Int) - 1)) : Int).toNat (⟨(rd_T60 x3 (wrap64 ((x3.length : Int) - 1))).f0, rd x8 x10⟩ : S60)) x8 x9 (wrap64 (x10 + 1))) else (if x3.length < 8796093022208 then (impl_spans.l0 k (x3 ++ [(⟨rd x8 x10, rd x8 x10⟩ : S60)]) x8 x9 (wrap64 (x10 + 1))) else (none))) else (none)) else (none)) else (if x3.length < 8796093022208 then (impl_spans.l0 k (x3 ++ [(⟨rd x8 x10, rd x8 x10⟩ : S60)]) x8 x9 (wrap64 (x10 + 1))) else (none))) else (none)) else (none)) else (some x3)
def impl_spans.f (k : Nat) (l0 : List Int) : Option ((List (S60))) := impl_spans.l0 k (([] : List (S60))) l0 (l0.length : Int) 0
theorem impl_spans.mono_l : ∀ k, (∀ y0 y1 y2 y3, LeO (impl_spans.l0 k y0 y1 y2 y3) (impl_spans.l0 (k + 1) y0 y1 y2 y3))
  | 0 => fun _ _ _ _ r h => by simp [impl_spans.l0] at h
  | k + 1 => by
    have ih0 := impl_spans.mono_l k
    · intro y0 y1 y2 y3
      unfold impl_spans.l0
      repeat' first | (with_reducible exact ih0 _ _ _ _) | (with_reducible exact LeO.refl _) | (with_reducible exact LeO.none _) | (with_reducible refine LeO.ite ?_ ?_) | (with_reducible refine LeO.bind ?_ (fun _ => ?_)) | exact ih0 _ _ _ _ | exact LeO.none _ | refine LeO.ite ?_ ?_ | refine LeO.bind ?_ (fun _ => ?_)
theorem impl_spans.mono : ∀ a0 k, LeO (impl_spans.f k a0) (impl_spans.f (k + 1) a0) := by
  intro a0 k
  have ih0 := impl_spans.mono_l k
  unfold impl_spans.f
  repeat' first | (with_reducible exact ih0 _ _ _ _) | (with_reducible exact LeO.refl _) | (with_reducible exact LeO.none _) | (with_reducible refine LeO.ite ?_ ?_) | (with_reducible refine LeO.bind ?_ (fun _ => ?_)) | exact ih0 _ _ _ _ | exact LeO.none _ | refine LeO.ite ?_ ?_ | refine LeO.bind ?_ (fun _ => ?_)
theorem impl_spans.calls (k : Nat) (A0 : Option Addr) (c0 : Nat) (l0 : List Int) (r : List (S60)) (w : World) (hr0 : Kd.C (Kd.int .i64) w A0 l0.length l0) (hc0 : l0.length ≤ c0) (h : impl_spans.f k l0 = some r) :
    Calls Try.prog 41 #[.slice A0 l0.length c0] w fun e w' => ∃ v0_ : Value, e = .returned (v0_) ∧ Kd.R k60 60 w' w.heap.size (fun _ => True) v0_ r ∧ Below w.heap.size w w' := by
 have hu60 := Try.underlying60; have HR0 := Aside0.mk hr0; have HC0 := Aside0.mk hc0; clear hr0 hc0; have HB := Aside0.mk (Below.refl w.heap.size w); have H : (impl_spans.l0 k (([] : List (S60))) l0 (l0.length : Int) 0) = some r := h; clear h; obtain ⟨y159, hy159⟩ : ∃ y_ : List (S60), y_ = (([] : List (S60))) := ⟨_, rfl⟩; replace H : (impl_spans.l0 k y159 l0 (l0.length : Int) 0) = some r := by first | (rw [hy159]; exact H) | exact H
 have Ny159 := Aside0.mk hy159; clear hy159; have H' := Aside0.mk H; clear H; go_enter Try.func41, Try.ntmps41; go_wp2_with (first | ((with_reducible refine gate_dst (N := 7) rfl ?_); refine Kd.R_lit k60 _ 60 ?hg (N := 7) ?hd (xs := ([] : List (S60))) (inner := []) (ok := fun _ => True) (okp := fun _ => True) ?hr ?hp (fun _ hk => hk) trivial (Below.refl _ _) (Nat.le_refl _) (by simp) ?_; (case hd => rfl); (case hg => rfl); (case hr => first | (go_simp; done) | (go_simp; rfl)); (case hp => exact (Reps.none _ _)); intro v160 w2 ho3 hb hg_ hnew_; clear hg_ hnew_; (first | rw [← Ny159.out] at ho3 | (simp only [Int.reduceToNat] at ho3; rw [← Ny159.out] at ho3)); have HO161 := Aside0.mk (Kd.R_lower ho3 (below_size HB.out)); replace HB := Aside0.mk (below_step HB.out hb); clear hb ho3))
 go_loopg [3, 10] k (fun kq v3 v10 w' => ∃ (x3_1 : List (S60)) (x10_1 : Int), v10 = .int .i64 x10_1 ∧ Aside0 (impl_spans.l0 kq x3_1 l0 (l0.length : Int) x10_1 = some r) ∧ Aside0 (kq ≤ k) ∧ Aside0 (Kd.R k60 60 w' w.heap.size (fun _ => True) v3 x3_1) ∧ Aside0 (Below w.heap.size w w'))
 case atStart => exact ⟨(y159), (0), (by first | rfl | (simp; done) | (simp [*]; done)), H', ⟨Nat.le_refl _⟩, ⟨(a2_ HO161.out)⟩, ⟨(a1_ HB.out)⟩⟩
 case round =>
  clear H'; (try clear p2); obtain ⟨x3_1, x10_1, rfl, HA, HK1, HO_3, HB⟩ := hrel
  cases gk with
  | zero => exact absurd HA.out (by simp [impl_spans.l0])
  | succ k1 =>
   have H := HA.out; clear HA; simp only [impl_spans.l0] at H; by_cases c4 : x10_1 < (l0.length : Int)
   ·
    rw [if_pos c4] at H; have c4b0 : decide (x10_1 < (l0.length : Int)) = true := decide_eq_true c4; clear c4; by_cases c5 : 0 ≤ x10_1
    ·
     rw [if_pos c5] at H; have c5b0 : decide (0 ≤ x10_1) = true := decide_eq_true c5; clear c5; by_cases c6 : x10_1 < (l0.length : Int)
     ·
      rw [if_pos c6] at H; have c6b0 : decide (x10_1 < (l0.length : Int)) = true := decide_eq_true c6; clear c6; by_cases c7 : (wrap64 ((x3_1.length : Int) - 1)) ≥ 0
      ·
       rw [if_pos c7] at H; have c7b0 : decide (0 ≤ (wrap64 ((x3_1.length : Int) - 1))) = true := decide_eq_true c7; have c7b0w : decide (0 ≤ (IntKind.i64.wrap ((x3_1.length : Int) - 1))) = true := by simp only [i64_w]; exact c7b0
       clear c7; obtain ⟨ji8, hji8⟩ : ∃ j_ : Int, (wrap64 ((x3_1.length : Int) - 1)) = j_ := ⟨_, rfl⟩; replace H : (if 0 ≤ (ji8) then (if (ji8) < (x3_1.length : Int) then (if (wrap64 (((rd_T60 x3_1 (ji8)).f1) + 1)) = (rd l0 x10_1) then (impl_spans.l0 k1 (x3_1.set ((ji8) : Int).toNat (⟨(rd_T60 x3_1 (ji8)).f0, rd l0 x10_1⟩ : S60)) l0 (l0.length : Int) (wrap64 (x10_1 + 1))) else (if x3_1.length < 8796093022208 then (impl_spans.l0 k1 (x3_1 ++ [(⟨rd l0 x10_1, rd l0 x10_1⟩ : S60)]) l0 (l0.length : Int) (wrap64 (x10_1 + 1))) else (none))) else (none)) else (none)) = some r := by first | (rw [hji8] at H; exact H) | (simp only [hji8] at H ⊢; exact H)
       (try rw [hji8] at c7b0)
       have hji8w : (IntKind.i64.wrap ((x3_1.length : Int) - 1)) = ji8 := (i64_w _).trans hji8; by_cases c9 : 0 ≤ (ji8)
       ·
        rw [if_pos c9] at H; have c9b0 : decide (0 ≤ (ji8)) = true := decide_eq_true c9; clear c9; by_cases c10 : (ji8) < (x3_1.length : Int)
        ·
         rw [if_pos c10] at H; have c10b0 : decide ((ji8) < (x3_1.length : Int)) = true := decide_eq_true c10; clear c10; by_cases c11 : (wrap64 (((rd_T60 x3_1 (ji8)).f1) + 1)) = (rd l0 x10_1)
         ·
          rw [if_pos c11] at H; have c11b0 : ((wrap64 (((rd_T60 x3_1 (ji8)).f1) + 1)) == (rd l0 x10_1)) = true := beq_iff_eq.mpr c11; have c11b0w : ((IntKind.i64.wrap (((rd_T60 x3_1 (ji8)).f1) + 1)) == (rd l0 x10_1)) = true := by simp only [i64_w]; exact c11b0
          have c11b1 : ((wrap64 (((rd_T60 x3_1 (ji8)).f1) + 1)) != (rd l0 x10_1)) = false := bne_eq_false_iff_eq.mpr c11; have c11b1w : ((IntKind.i64.wrap (((rd_T60 x3_1 (ji8)).f1) + 1)) != (rd l0 x10_1)) = false := by simp only [i64_w]; exact c11b1
          clear c11; obtain ⟨y164, hy164⟩ : ∃ y_ : List (S60), y_ = (x3_1.set ((ji8) : Int).toNat (⟨(rd_T60 x3_1 (ji8)).f0, rd l0 x10_1⟩ : S60)) := ⟨_, rfl⟩; replace H : (impl_spans.l0 k1 y164 l0 (l0.length : Int) (wrap64 (x10_1 + 1))) = some r := by first | (rw [hy164]; exact H) | exact H
          have Ny164 := Aside0.mk hy164; clear hy164; have H' := Aside0.mk H; clear H; have p162 : 0 ≤ (x10_1 : Int) := d_; have q162 : x10_1 < (l0.length : Int) := d_; obtain ⟨ad162, e162, hx162_0⟩ := Kd.at_int HR0.out x10_1 p162 q162; cases e162; replace hx162_0 := ce_ HB.out hx162_0; replace p162 := eq_true p162; replace q162 := eq_true q162; obtain ⟨Ao13, co13, eo13⟩ := Kd.R_slice HO_3.out; subst eo13; have p163 : 0 ≤ ((ji8) : Int) := d_; have q163 : (ji8) < (x3_1.length : Int) := d_; obtain ⟨ad163, e163, hx163_0, hx163_1⟩ := at_T60 (Kd.R_reads' HO_3.out).2.2 (ji8) p163 q163; cases e163; replace p163 := eq_true p163; replace q163 := eq_true q163; have p12 : 0 ≤ ((ji8) : Int) := d_; have q12 : ((ji8) : Int) < ((x3_1.length : Int) : Int) := d_; obtain ⟨go12, co12, eo12, gb12, gl12, cl12, HG12⟩ := Kd.R_form HO_3.out (by omega); (first | cases eo12 | (injection eo12 with ea_ en_ ec_; (first | subst ea_ | (injection ea_ with ea_; subst ea_)); subst ec_; clear en_))
          have GB12 := Aside0.mk gb12; have GG12 := Aside0.mk HG12; clear gb12 gl12 HG12; (first | simp only [add_plain] at hx163_0 | skip)
          (first | simp only [add_plain] at hx163_1 | skip)
          obtain ⟨ce12, hcl12, hM12, hcc12, hfr12⟩ := Kd.R_elem HO_3.out z60 ((ji8) : Int) p12 q12; obtain rfl := k60_openM hM12; have hx12_0 : wr.cell? ⟨go12, ((ji8) : Int).toNat * 2, none⟩ = some (.int .i64 ((rd_T60 x3_1 (ji8)).f0)) := hcc12 0 _ rfl; have hx12_1 : wr.cell? ⟨go12, ((ji8) : Int).toNat * 2 + 1, none⟩ = some (.int .i64 ((rd_T60 x3_1 (ji8)).f1)) := hcc12 1 _ rfl; have hf12_0 : wr.frozen? ⟨go12, ((ji8) : Int).toNat * 2, none⟩ = false := hfr12 0; have hf12_1 : wr.frozen? ⟨go12, ((ji8) : Int).toNat * 2 + 1, none⟩ = false := hfr12 1; clear hcl12 hcc12 hfr12 hM12; replace p12 := eq_true p12; replace q12 := eq_true q12; have HX14 := Aside0.mk (show Kd.R k60 60 wr w.heap.size (fun _ => True) (.slice (some ⟨go12, 0, none⟩) x3_1.length co13) x3_1 from HO_3.out); obtain ⟨ce14, hcl14, hM14, hcc14, hfr14⟩ := Kd.R_elem HX14.out z60 ((ji8) : Int) (d_) (by have h_ : ((ji8) : Int) < ((x3_1.length : Int) : Int) := d_; first | exact h_ | (have e_ := (Kd.R_reads' HO_3.out).1; omega) | simpa using h_); obtain rfl := k60_openM hM14; have HP14 := Kd.R_seg HX14.out ((ji8) : Int) (d_) (by have h_ : ((ji8) : Int) < ((x3_1.length : Int) : Int) := d_; first | exact h_ | (have e_ := (Kd.R_reads' HO_3.out).1; omega) | simpa using h_) (seg := [.int .i64 (rd l0 x10_1)]) (j := 1) hcl14 hcc14 (show 2 ≤ 2 from by decide) (x' := (⟨(rd_T60 x3_1 (ji8)).f0, rd l0 x10_1⟩ : S60)) (k60_mkM _ _ _ (⟨(rd_T60 x3_1 (ji8)).f0, rd l0 x10_1⟩ : S60) ) (fun _ hk => hk); have hx14_1 := hcc14 1 _ rfl; (try simp only [show (k60).sz = 2 from rfl, Nat.mul_one, Nat.add_zero] at hx14_1)
          have hf14_1 := hfr14 1; (try simp only [show (k60).sz = 2 from rfl, Nat.mul_one, Nat.add_zero] at hf14_1)
          clear hcl14 hcc14 hfr14 hM14; go_wp2_with (first | ((with_reducible refine gate_store (t := 2) (p := 33) rfl ?_); refine store_event (t := 2) (p := 33) (v := ?vo_w15) (w1 := (wr.setCell ⟨go12, ((ji8) : Int).toNat * 2 + 1, none⟩ (.int .i64 (rd l0 x10_1)))) ?hg ?ho ?hn ?hr ?_; (case ho => rfl); (case hg => rfl); (case hn => rfl); (case hr => first | (go_simp; done) | (go_simp; rfl)); intro w15 hw; have hg : wr.grownBy w15 (some go12) := (by rw [hw]; exact HP14.2); have hp_ : Kd.R k60 60 w15 w.heap.size (fun _ => True) (.slice (some ⟨go12, 0, none⟩) x3_1.length co13) y164 := (by rw [hw, Ny164.out]; exact HP14.1); clear HP14; replace HO_3 := Aside0.mk (hp_); replace HB := Aside0.mk ((by rw [hw]; exact below_set (HB.out) GB12.out : Below w.heap.size w w15)); clear hg hw hp_))
          go_roundg k1
          case measure => have := HK1.out; omega
          case rel => exact ⟨(y164), (wrap64 (x10_1 + 1)), (by first | rfl | (simp; done) | (simp [*]; done)), H', ⟨by have := HK1.out; omega⟩, ⟨(a2_ HO_3.out)⟩, ⟨(a1_ HB.out)⟩⟩
         ·
          rw [if_neg c11] at H; have c11b0 : ((wrap64 (((rd_T60 x3_1 (ji8)).f1) + 1)) == (rd l0 x10_1)) = false := beq_eq_false_iff_ne.mpr c11; have c11b0w : ((IntKind.i64.wrap (((rd_T60 x3_1 (ji8)).f1) + 1)) == (rd l0 x10_1)) = false := by simp only [i64_w]; exact c11b0
          have c11b1 : ((wrap64 (((rd_T60 x3_1 (ji8)).f1) + 1)) != (rd l0 x10_1)) = true := bne_iff_ne.mpr c11; have c11b1w : ((IntKind.i64.wrap (((rd_T60 x3_1 (ji8)).f1) + 1)) != (rd l0 x10_1)) = true := by simp only [i64_w]; exact c11b1
          by_cases c16 : x3_1.length < 8796093022208
          ·
           rw [if_pos c16] at H; have LMc16 := Aside0.mk c16; clear c16; obtain ⟨y165, hy165⟩ : ∃ y_ : List (S60), y_ = (x3_1 ++ [(⟨rd l0 x10_1, rd l0 x10_1⟩ : S60)]) := ⟨_, rfl⟩; replace H : (impl_spans.l0 k1 y165 l0 (l0.length : Int) (wrap64 (x10_1 + 1))) = some r := by first | (rw [hy165]; exact H) | exact H
           have Ny165 := Aside0.mk hy165; clear hy165; have H' := Aside0.mk H; clear H; have p162 : 0 ≤ (x10_1 : Int) := d_; have q162 : x10_1 < (l0.length : Int) := d_; obtain ⟨ad162, e162, hx162_0⟩ := Kd.at_int HR0.out x10_1 p162 q162; cases e162; replace hx162_0 := ce_ HB.out hx162_0; replace p162 := eq_true p162; replace q162 := eq_true q162; obtain ⟨Ao17, co17, eo17⟩ := Kd.R_slice HO_3.out; subst eo17; have p163 : 0 ≤ ((ji8) : Int) := d_; have q163 : (ji8) < (x3_1.length : Int) := d_; obtain ⟨ad163, e163, hx163_0, hx163_1⟩ := at_T60 (Kd.R_reads' HO_3.out).2.2 (ji8) p163 q163; cases e163; replace p163 := eq_true p163; replace q163 := eq_true q163; go_wp2_with (first | ((with_reducible refine gate_builtin (b := .append) (xs := #[.tmp 34, .tmp 38]) rfl ?_); at_builtin; refine Kd.R_append k60 (w0 := w) w.heap.size rfl (.tmp 34) (.tmp 38) 25 60 (.agg #[(.int .i64 0), (.int .i64 0)]) 16 rfl Try.underlying25 info60 rfl (by decide) (by omega) (.slice (some ad163) x3_1.length co17) x3_1 (⟨rd l0 x10_1, rd l0 x10_1⟩ : S60) [.int .i64 (rd l0 x10_1), .int .i64 (rd l0 x10_1)] (fun _ => True) (fun _ => False) rfl rfl ?aP (fun _ hk => hk.elim) ?aF ?aO ?aB ?aS ?aL ?_; (case aP => exact k60_mkM _ _ _ (⟨rd l0 x10_1, rd l0 x10_1⟩ : S60)); (case aB => exact HB.out); (case aF => exact (fun _ _ => trivial)); (case aO => exact HO_3.out); (case aS => exact (below_size HB.out)); (case aL => have := LMc16.out; omega); intro v166 w18 ho hb hg hat; rw [← Ny165.out] at ho; have n0_ := Aside0.mk (hb); have n1_ := Aside0.mk (ho); clear HB; clear HO_3; have HB := n0_; have HO167 := n1_; clear n0_ n1_; clear ho hb hg hat))
           go_roundg k1
           case measure => have := HK1.out; omega
           case rel => exact ⟨(y165), (wrap64 (x10_1 + 1)), (by first | rfl | (simp; done) | (simp [*]; done)), H', ⟨by have := HK1.out; omega⟩, ⟨(a2_ HO167.out)⟩, ⟨(a1_ HB.out)⟩⟩
          ·
           rw [if_neg c16] at H; exact absurd H (by simp)
        ·
         rw [if_neg c10] at H; exact absurd H (by simp)
       ·
        rw [if_neg c9] at H; exact absurd H (by simp)
      ·
       rw [if_neg c7] at H; have c7b0 : decide (0 ≤ (wrap64 ((x3_1.length : Int) - 1))) = false := decide_eq_false c7; have c7b0w : decide (0 ≤ (IntKind.i64.wrap ((x3_1.length : Int) - 1))) = false := by simp only [i64_w]; exact c7b0
       clear c7; by_cases c19 : x3_1.length < 8796093022208
       ·
        rw [if_pos c19] at H; have LMc19 := Aside0.mk c19; clear c19; obtain ⟨y168, hy168⟩ : ∃ y_ : List (S60), y_ = (x3_1 ++ [(⟨rd l0 x10_1, rd l0 x10_1⟩ : S60)]) := ⟨_, rfl⟩; replace H : (impl_spans.l0 k1 y168 l0 (l0.length : Int) (wrap64 (x10_1 + 1))) = some r := by first | (rw [hy168]; exact H) | exact H
        have Ny168 := Aside0.mk hy168; clear hy168; have H' := Aside0.mk H; clear H; have p162 : 0 ≤ (x10_1 : Int) := d_; have q162 : x10_1 < (l0.length : Int) := d_; obtain ⟨ad162, e162, hx162_0⟩ := Kd.at_int HR0.out x10_1 p162 q162; cases e162; replace hx162_0 := ce_ HB.out hx162_0; replace p162 := eq_true p162; replace q162 := eq_true q162; obtain ⟨Ao20, co20, eo20⟩ := Kd.R_slice HO_3.out; subst eo20; go_wp2_with (first | ((with_reducible refine gate_builtin (b := .append) (xs := #[.tmp 34, .tmp 38]) rfl ?_); at_builtin; refine Kd.R_append k60 (w0 := w) w.heap.size rfl (.tmp 34) (.tmp 38) 25 60 (.agg #[(.int .i64 0), (.int .i64 0)]) 16 rfl Try.underlying25 info60 rfl (by decide) (by omega) (.slice Ao20 x3_1.length co20) x3_1 (⟨rd l0 x10_1, rd l0 x10_1⟩ : S60) [.int .i64 (rd l0 x10_1), .int .i64 (rd l0 x10_1)] (fun _ => True) (fun _ => False) rfl rfl ?aP (fun _ hk => hk.elim) ?aF ?aO ?aB ?aS ?aL ?_; (case aP => exact k60_mkM _ _ _ (⟨rd l0 x10_1, rd l0 x10_1⟩ : S60)); (case aB => exact HB.out); (case aF => exact (fun _ _ => trivial)); (case aO => exact HO_3.out); (case aS => exact (below_size HB.out)); (case aL => have := LMc19.out; omega); intro v169 w21 ho hb hg hat; rw [← Ny168.out] at ho; have n0_ := Aside0.mk (hb); have n1_ := Aside0.mk (ho); clear HB; clear HO_3; have HB := n0_; have HO170 := n1_; clear n0_ n1_; clear ho hb hg hat))
        go_roundg k1
        case measure => have := HK1.out; omega
        case rel => exact ⟨(y168), (wrap64 (x10_1 + 1)), (by first | rfl | (simp; done) | (simp [*]; done)), H', ⟨by have := HK1.out; omega⟩, ⟨(a2_ HO170.out)⟩, ⟨(a1_ HB.out)⟩⟩
       ·
        rw [if_neg c19] at H; exact absurd H (by simp)
     ·
      rw [if_neg c6] at H; exact absurd H (by simp)
    ·
     rw [if_neg c5] at H; exact absurd H (by simp)
   ·
    rw [if_neg c4] at H; have c4b0 : decide (x10_1 < (l0.length : Int)) = false := decide_eq_false c4; clear c4; obtain rfl := Option.some.inj H; go_wp2
    go_ret
    exact ⟨_, a3_, (a2_ HO_3.out), (a1_ HB.out)⟩

/-! ### slices_Sort_int64_int64: function 66 -/
def slices_Sort_int64_int64.f (l : List Int) : Option (List Int) := if l.length ≤ 1000000000000 then some (l.mergeSort fun x y => decide (x ≤ y)) else none
set_option maxHeartbeats 4000000 in
theorem slices_Sort_int64_int64.calls (P0_ : Nat → Prop) (u9000_ : Value) (l0 : List Int) (r1 : List Int) (w0 w : World) (hB : Below w0.heap.size w0 w) (ho0 : Kd.R (Kd.int .i64) 2 w w0.heap.size P0_ u9000_ l0) (h : slices_Sort_int64_int64.f l0 = some r1) :
    Calls Try.prog 66 #[u9000_] w fun e w' => e = .returned (.tuple #[]) ∧ Kd.R (Kd.int .i64) 2 w' w0.heap.size (fun k_ => (P0_ k_ ∨ w.heap.size ≤ k_)) u9000_ r1 ∧ Below w0.heap.size w0 w' ∧ Kept w w' (fun k_ => P0_ k_) := by
  have F : Flat (Kd.int .i64) (fun x => [Value.int .i64 x]) := Flat.one (Value.int .i64) (fun _ => rfl); unfold slices_Sort_int64_int64.f at h
  by_cases c : l0.length ≤ 1000000000000
  rotate_left
  · rw [if_neg c] at h; cases h
  rw [if_pos c] at h; obtain rfl := Option.some.inj h; rcases F.open_ ho0 with ⟨rfl, rfl⟩ | ⟨g, cap, cur, rfl, hok, hg, hb, h1, h2, h3, h4⟩
  · refine (AnyM.slices_Sort_int_none Try.laysSortI none 0 w).mono ?_
    rintro e w' ⟨rfl, rfl⟩; exact ⟨rfl, by rw [List.mergeSort_nil]; exact Kd.R_nil _ _ _ _ _, hB, Kept.refl _ _⟩
  · have e1 : ∀ l : List Int, l.flatMap (fun x => [Value.int .i64 x]) = l.map (Value.int .i64) := fun l => by induction l <;> simp_all
    have hH : Go.Sort.Holds (Value.int .i64) w g 0 l0.toArray := sw_holds _ hb (by rw [e1] at h4; simpa [Kd.int, Kd.scalar] using h4); have hlt : g < w.heap.size := (Array.getElem?_eq_some_iff.1 hb).1; refine (AnyM.slices_Sort_int Try.laysSortI g 0 cap l0 w hH hlt (by omega)).mono ?_; rintro e w' ⟨rfl, n, os, rfl⟩; have hgr := sw_grown (Value.int .i64) (w := w) (g := g) (n := n) (os := os) (l0.mergeSort fun x y => decide (x ≤ y)).toArray; have hlen : (l0.mergeSort fun x y => decide (x ≤ y)).length = l0.length := List.length_mergeSort ..; refine ⟨rfl, ?_, hB.grown hgr hB.size (fun j hj => by cases hj; exact hg), sw_kept hgr hok⟩
    have hR := F.close_ (ok := fun k_ => (P0_ k_ ∨ w.heap.size ≤ k_)) (base := w0.heap.size) (ys := l0.mergeSort fun x y => decide (x ≤ y)) (.inl hok) hg (sw_heap (Value.int .i64) (n := n) (os := os) (l0.mergeSort fun x y => decide (x ≤ y)).toArray hb) (by omega) h2 (by rw [sw_size]; exact h3)
      (by rw [e1]; have := sw_take (Value.int .i64) cur (l0.mergeSort fun x y => decide (x ≤ y)).toArray (by simp only [List.size_toArray]; rw [h3, hlen]; simp [Kd.int, Kd.scalar]; exact h1); simpa [Kd.int, Kd.scalar] using this)
    rw [hlen] at hR; exact hR

/-! ### slices_Compact_int64_int64: function 67 -/
def slices_Compact_int64_int64.f (l : List Int) : Option (List Int) := if l.length ≤ 1000000000000 then some (Go.Lib.compactUpTo l.toArray l.length) else none
set_option maxHeartbeats 4000000 in
theorem slices_Compact_int64_int64.calls (P0_ : Nat → Prop) (u9000_ : Value) (l0 : List Int) (r : List Int) (w0 w : World) (hB : Below w0.heap.size w0 w) (ho0 : Kd.R (Kd.int .i64) 2 w w0.heap.size P0_ u9000_ l0) (h : slices_Compact_int64_int64.f l0 = some r) :
    Calls Try.prog 67 #[u9000_] w fun e w' => ∃ v0_ : Value, e = .returned (v0_) ∧ Kd.R (Kd.int .i64) 2 w' w0.heap.size (fun k_ => (P0_ k_ ∨ w.heap.size ≤ k_)) v0_ r ∧ Below w0.heap.size w0 w' ∧ Kept w w' (fun k_ => P0_ k_) := by
  have F : Flat (Kd.int .i64) (fun x => [Value.int .i64 x]) := Flat.one (Value.int .i64) (fun _ => rfl); unfold slices_Compact_int64_int64.f at h
  by_cases c : l0.length ≤ 1000000000000
  rotate_left
  · rw [if_neg c] at h; cases h
  rw [if_pos c] at h; obtain rfl := Option.some.inj h; rcases F.open_ ho0 with ⟨rfl, rfl⟩ | ⟨g, cap, cur, rfl, hok, hg, hb, h1, h2, h3, h4⟩
  · go_enter Try.func67, Try.ntmps67
    go_wp2
    go_ret
    exact ⟨_, rfl, Kd.R_nil _ _ _ _ _, hB, Kept.refl _ _⟩
  · have e1 : ∀ l : List Int, l.flatMap (fun x => [Value.int .i64 x]) = l.map (Value.int .i64) := fun l => by induction l <;> simp_all
    have hH : Go.Sort.Holds (Value.int .i64) w g 0 l0.toArray := sw_holds _ hb (by rw [e1] at h4; simpa [Kd.int, Kd.scalar] using h4); have hlt : g < w.heap.size := (Array.getElem?_eq_some_iff.1 hb).1
    have hcl : (Go.Lib.compactUpTo l0.toArray l0.length).length ≤ l0.length := by
      unfold Go.Lib.compactUpTo
      rw [List.length_map]; exact Nat.le_trans (List.length_filter_le _ _) (by simp)
    have hq := AnyE.slices_Compact Try.laysCompactI (Value.int .i64) (fun _ => rfl) (EqlAt.intD _ _ _) (NeqAt.intD _ _ _) (0 : Int) (fun w => by kernel_rfl) g 0 cap l0.toArray w hH (by simp only [List.size_toArray]; omega) (by simpa using h1); simp only [List.size_toArray] at hq; refine hq.mono ?_; rintro e w' ⟨rfl, q, rfl⟩; generalize hc : Go.Lib.compactUpTo l0.toArray l0.length = ys at hcl ⊢
    have hgr : w.grownBy (Go.Sort.putRow (Value.int .i64) (Go.Sort.ahead w q) g 0 (ys ++ List.replicate (l0.length - ys.length) 0).toArray) (some g) := by
      have := sw_grown (Value.int .i64) (w := w) (g := g) (n := q) (os := #[]) (ys ++ List.replicate (l0.length - ys.length) 0).toArray; rwa [Go.Sort.grow_empty] at this
    have hhp := sw_heap (Value.int .i64) (n := q) (os := #[]) (ys ++ List.replicate (l0.length - ys.length) 0).toArray hb; rw [Go.Sort.grow_empty] at hhp; refine ⟨_, rfl, ?_, hB.grown hgr hB.size (fun j hj => by cases hj; exact hg), sw_kept hgr hok⟩; refine F.close_ (ok := fun k_ => (P0_ k_ ∨ w.heap.size ≤ k_)) (base := w0.heap.size) (ys := ys) (.inl hok) hg hhp (by omega) h2 (by rw [sw_size]; exact h3) ?_; rw [e1]; have ht := sw_take (Value.int .i64) cur (ys ++ List.replicate (l0.length - ys.length) 0).toArray (by simp only [List.size_toArray, List.length_append, List.length_replicate]; rw [h3]; simp [Kd.int, Kd.scalar]; omega); simp only [List.size_toArray, List.length_append, List.length_replicate] at ht; have hs : (Kd.int .i64).sz = 1 := rfl; rw [hs, Nat.mul_one]; have := congrArg (List.take ys.length) ht; rw [List.take_take, Nat.min_eq_left (by omega), List.map_append, List.take_left' (by simp)] at this; exact this

/-! ### impl_sorted: function 42 -/
def impl_sorted.f (l0 : List Int) : Option (List Int) := (slices_Sort_int64_int64.f l0).bind fun t171 => ((slices_Compact_int64_int64.f t171).bind fun t172 => (some t172))
theorem impl_sorted.calls (P0_ : Nat → Prop) (u9000_ : Value) (l0 : List Int) (r : List Int) (w0 w : World) (hB : Below w0.heap.size w0 w) (ho0 : Kd.R (Kd.int .i64) 2 w w0.heap.size P0_ u9000_ l0) (h : impl_sorted.f l0 = some r) :
    Calls Try.prog 42 #[u9000_] w fun e w' => ∃ v0_ : Value, e = .returned (v0_) ∧ Kd.R (Kd.int .i64) 2 w' w0.heap.size (fun k_ => (P0_ k_ ∨ w.heap.size ≤ k_)) v0_ r ∧ Below w0.heap.size w0 w' ∧ Kept w w' (fun k_ => P0_ k_) := by
 have HO0 := Aside0.mk (show Kd.R (Kd.int .i64) 2 w w0.heap.size (fun k_ => (P0_ k_ ∨ w.heap.size ≤ k_)) u9000_ l0 from Kd.R_mono ho0 (fun k_ hk => (.inl hk))); have HK := Aside0.mk (Kept.refl w (fun k_ => P0_ k_)); have HW0 := Aside0.mk hB.size; have HB := Aside0.mk hB; clear hB; have H : ((slices_Sort_int64_int64.f l0).bind fun t171 => ((slices_Compact_int64_int64.f t171).bind fun t172 => (some t172))) = some r := h; clear h; replace H := Option.bind_eq_some_iff.mp H; obtain ⟨t171, A20, H⟩ := H; have A2 := Aside0.mk A20; clear A20; replace H := Option.bind_eq_some_iff.mp H; obtain ⟨t172, A30, H⟩ := H; have A3 := Aside0.mk A30; clear A30; obtain rfl := Option.some.inj H; obtain ⟨Ao4, co4, eo4⟩ := Kd.R_slice HO0.out; subst eo4; go_enter Try.func42, Try.ntmps42; go_wp2_with (first | ((with_reducible refine gate_callee (f := 66) rfl ?_); refine gl_ (some 4) Try.func66 #[.slice Ao4 l0.length co4] ?_; (with_reducible refine (slices_Sort_int64_int64.calls (fun k_ => some k_ = (.slice Ao4 l0.length co4 : Value).ownBlock) (.slice Ao4 l0.length co4) l0 t171 w0 _ ?side1 ?side2 A2.out).mono ?_); (case side1 => exact (a1_ HB.out)); (case side2 => exact Kd.R_tight rfl HO0.out); rintro e w5 ⟨rfl, hy0, hb, hkp⟩; refine ⟨_, rfl, ?_⟩; replace HK := Aside0.mk (Kept.then_ (S := (fun k_ => P0_ k_)) HK.out hkp (fun k_ hs_ => (fun e_ => (HO0.out.1 k_ e_.symm)) hs_)); replace HO0 := Aside0.mk (Kd.R_reok rfl hy0 (fun k_ e_ => HO0.out.1 k_ e_)); replace HB := Aside0.mk (hb); (try clear hb); (try clear hkp); (try clear hy0)) | ((with_reducible refine gate_callee (f := 67) rfl ?_); refine gl_ (some 6) Try.func67 #[.slice Ao4 l0.length co4] ?_; (with_reducible refine (slices_Compact_int64_int64.calls (fun k_ => some k_ = (.slice Ao4 l0.length co4 : Value).ownBlock) (.slice Ao4 l0.length co4) t171 t172 w0 _ ?side1 ?side2 A3.out).mono ?_); (case side1 => exact (a1_ HB.out)); (case side2 => exact Kd.R_tight rfl HO0.out); rintro e w6 ⟨v173, rfl, ho0, hb, hkp⟩; refine ⟨_, rfl, ?_⟩; have n0_ := Aside0.mk (Kd.R_mono (ok' := fun k_ => (P0_ k_ ∨ w.heap.size ≤ k_)) ho0 (fun k_ hk_ => Or.elim hk_ (fun hs_ => (HO0.out.1 k_ (hs_).symm)) (fun hn_ => (.inr (Nat.le_trans (by first | exact HK.out.1 | exact (show Kept w _ (fun k_ => P0_ k_) from (a20_ HK.out)).1) hn_))))); have n1_ := Aside0.mk (Kept.then_ (S := (fun k_ => P0_ k_)) HK.out hkp (fun k_ hs_ => (fun e_ => (HO0.out.1 k_ e_.symm)) hs_)); have n2_ := Aside0.mk (hb); clear HK; clear HB; clear HO0; have HO174 := n0_; have HK := n1_; have HB := n2_; clear n0_ n1_ n2_; (try clear hb); (try clear hkp); (try clear ho0)))
 go_ret
 exact ⟨_, a3_, (a2_ HO174.out), (a1_ HB.out), (a20_ HK.out)⟩

/-! ### slices_Clone_int64_int64: function 43 -/
def slices_Clone_int64_int64.f (l : List Int) : Option (List Int) := if l.length ≤ 1000000000000 then some l else none
set_option maxHeartbeats 4000000 in
set_option maxRecDepth 100000 in
theorem slices_Clone_int64_int64.calls (A0 : Option Addr) (c0 : Nat) (l0 : List Int) (r : List Int) (w : World) (hr0 : Kd.C (Kd.int .i64) w A0 l0.length l0) (hc0 : l0.length ≤ c0) (h : slices_Clone_int64_int64.f l0 = some r) :
    Calls Try.prog 43 #[.slice A0 l0.length c0] w fun e w' => ∃ v0_ : Value, e = .returned (v0_) ∧ Kd.R (Kd.int .i64) 2 w' w.heap.size (fun _ => True) v0_ r ∧ Below w.heap.size w w' := by
  unfold slices_Clone_int64_int64.f at h
  by_cases c : l0.length ≤ 1000000000000
  rotate_left
  · rw [if_neg c] at h; cases h
  rw [if_pos c] at h; obtain rfl := Option.some.inj h; have HN := Aside0.mk c; have HR := Aside0.mk hr0; clear c h hc0; have qn : ∀ (w : World) (a : Option Addr) (n c n' c' : Nat), (binOp .eql 23 (.slice a n c) (.slice none n' c')).run Try.prog w = .ok (.bool a.isNone) w := fun w a n c n' c' => Lib.run_eql_slice_nil w _ _ a n c n' c' Try.underlying23
  cases A0 with
  | none =>
    have e0 : l0 = [] := by
      rcases Nat.eq_zero_or_pos l0.length with h0 | h0
      · exact List.eq_nil_of_length_eq_zero h0
      · obtain ⟨ad, h1, _⟩ := hr0.2.2 h0
        cases h1
    subst e0; clear hr0; go_enter Try.func43, Try.ntmps43; go_wp2
    go_ret
    exact ⟨_, rfl, Kd.R_nil _ _ _ _ _, Below.refl _ _⟩
  | some ad =>
    clear hr0; go_enter Try.func43, Try.ntmps43; go_wp2_with (at_builtin; refine Kd.R_append_row (w0 := w) (Value.int .i64) (0 : Int) (h1 := fun _ => rfl) w.heap.size rfl _ _ 23 2 _ 8 rfl Try.underlying23 info2 rfl (by decide) _ [] l0 (some ad) l0.length c0 (fun _ => True) rfl rfl (fun _ _ => trivial) ⟨fun _ _ => trivial, [], World.ownsRow_made w #[] 0 (Nat.le_refl _) (Nat.zero_le _) (by simp), Reps.none _ _⟩ (Kd.C_below HR.out (below_alloc (Below.refl _ _) _)) (below_alloc (Below.refl _ _) _) (by simp) (by have := HN.out; simp; omega) ?_; intro v1 w1 hR hb hg hat; have HR1 := Aside0.mk hR; have HB1 := Aside0.mk hb; clear hR hb hg hat)
    go_ret
    exact ⟨_, rfl, by (have h_ := HR1.out); (try simp at h_); exact h_, HB1.out⟩

end Go.Proofs.Ytepbkhgffjinjaa.Print
