-- Printed by wip/myprint.py over the kit's print, in this session's own call.
import Derived.Test.YtpkeddplfnannaaPrint0
import Derived.Test.YtpkeddplfnannaaPrint13
namespace Go.Proofs.Ytpkeddplfnannaa.Print
open Go.RowKit Go.Proofs.YtpkeddplfnannaaW.PrintWords Go.Proofs.YtpkeddplfnannaaW.PrintLast Go.Proofs.YtpkeddplfnannaaW.PrintMore
attribute [local go_sem] max2_int min2_int max_two min_two max_three min_three max_four min_four   -- for this text's walks alone
set_option linter.unusedVariables false
set_option linter.unusedSimpArgs false

/-! ### slices_ContainsFunc_int64_int64: function 66 -/
set_option maxHeartbeats 4000000 in
set_option maxRecDepth 100000 in
theorem slices_ContainsFunc_int64_int64.callsF (g : Nat) (lb : Array Value) (p : Int → Bool) (A : Option Addr) (c : Nat) (l : List Int) (w : World)
    (eg : ∀ args w, (callFunc g args).run Try.prog w = .ok (.enter g args) w)
    (hr : Kd.C (Kd.int .i64) w A l.length l)
    (hp : ∀ (W : World) (i : Nat) (x : Int), l[i]? = some x → Below w.heap.size w W → Calls Try.prog g (#[.int .i64 x] ++ lb) W fun e w' => e = .returned (.bool (p x)) ∧ Below w.heap.size w w') :
    Calls Try.prog 66 #[.slice A l.length c, .func (.func g) #[] lb] w fun e w' => e = .returned (.bool (l.any p)) ∧ Below w.heap.size w w' := by
  have HI := Aside0.mk (slices_IndexFunc_int64_int64.callsF g lb p A c l w eg hr hp); clear hr hp eg; go_enter Try.func66, Try.ntmps66; go_wp2_with (go_at_call 80; refine HI.out.mono ?_; rintro e w' ⟨rfl, hb'⟩)
  go_ret
  refine ⟨?_, hb'⟩
  have h3 : decide (0 ≤ slices_IndexFunc_int64_int64.r p l) = l.any p := by
    unfold slices_IndexFunc_int64_int64.r
    by_cases h : l.any p = true
    · rw [if_pos h, h]; exact decide_eq_true (Int.natCast_nonneg _)
    · rw [if_neg h, Bool.eq_false_iff.2 h]; rfl
  rw [← h3]; rfl

/-! ### impl_Graph_complete: function 49 -/
def anyQ {α : Type} (q : α → Option Bool) : List α → Option Bool
  | [] => some false
  | x :: l => (q x).bind fun b => (anyQ q l).bind fun c => some (b || c)
theorem anyQ_mono {α : Type} {q q' : α → Option Bool} (h : ∀ x, LeO (q x) (q' x)) : ∀ l, LeO (anyQ q l) (anyQ q' l)
  | [] => LeO.refl _
  | x :: l => LeO.bind (h x) (fun _ => LeO.bind (anyQ_mono h l) (fun _ => LeO.refl _))
theorem anyQ_all {α : Type} {q : α → Option Bool} : ∀ {l : List α} {b : Bool}, anyQ q l = some b → (∀ x ∈ l, q x = some ((q x).getD false)) ∧ l.any (fun x => (q x).getD false) = b
  | [], b, h => by
    simp only [anyQ, Option.some.injEq] at h
    subst h
    exact ⟨fun x hx => absurd hx (by simp), rfl⟩
  | x :: l, b, h => by
    simp only [anyQ] at h
    obtain ⟨b1, h1, h⟩ := Option.bind_eq_some_iff.mp h
    obtain ⟨b2, h2, h⟩ := Option.bind_eq_some_iff.mp h
    obtain rfl := Option.some.inj h
    obtain ⟨i1, i2⟩ := anyQ_all h2
    refine ⟨fun y hy => ?_, ?_⟩
    · rcases List.mem_cons.1 hy with rfl | hy
      · rw [h1]; rfl
      · exact i1 y hy
    · rw [List.any_cons, i2, h1]; rfl
def impl_Graph_complete.q (k : Nat) (g0 : Int) (g1 g2 : List S61) (id : Int) : Option Bool := (impl_Graph_has.f k g0 g1 g2 id).bind fun b => some (!b)
def impl_Graph_complete.f (k : Nat) (g0 : Int) (g1 g2 : List S61) (e7 : List Int) : Option Bool := (anyQ (impl_Graph_complete.q k g0 g1 g2) e7).bind fun b => some (!b)
theorem impl_Graph_complete.mono : ∀ g0 g1 g2 e7 k, LeO (impl_Graph_complete.f k g0 g1 g2 e7) (impl_Graph_complete.f (k + 1) g0 g1 g2 e7) := by
  intro g0 g1 g2 e7 k
  exact LeO.bind (anyQ_mono (fun id => LeO.bind (impl_Graph_has.mono _ _ _ _ _) (fun _ => LeO.refl _)) _) (fun _ => LeO.refl _)
set_option maxHeartbeats 4000000 in
set_option maxRecDepth 100000 in
theorem impl_Graph_complete.closure (k : Nat) (g0 : Int) (A1 : Option Addr) (c1 : Nat) (g1 : List S61) (A2 : Option Addr) (c2 : Nat) (g2 : List S61) (id : Int) (b : Bool) (B : Nat) (w : World) (hr1 : Kd.C k61 w A1 g1.length g1) (hc1 : g1.length ≤ c1) (hr2 : Kd.C k61 w A2 g2.length g2) (hc2 : g2.length ≤ c2)
    (x0 : w.cell? ⟨B, 0, none⟩ = some (.int .i64 g0)) (x1 : w.cell? ⟨B, 1, none⟩ = some (.slice A1 g1.length c1)) (x2 : w.cell? ⟨B, 2, none⟩ = some (.slice A2 g2.length c2)) (h : impl_Graph_complete.q k g0 g1 g2 id = some b) :
    Calls Try.prog 67 #[.int .i64 id, .pointer (some ⟨B, 0, none⟩)] w fun e w' => e = .returned (.bool b) ∧ Below w.heap.size w w' := by
  have HB := Aside0.mk (Below.refl w.heap.size w); obtain ⟨b1, h1, h2⟩ := Option.bind_eq_some_iff.mp h; obtain rfl := Option.some.inj h2; have H1 := Aside0.mk h1; have HR1 := Aside0.mk hr1; have HR2 := Aside0.mk hr2; have HC1 := Aside0.mk hc1; have HC2 := Aside0.mk hc2; clear h h1 h2 hr1 hr2 hc1 hc2; go_enter Try.func67, Try.ntmps67; go_wp2_with (go_at_call 51; refine (impl_Graph_has.calls k g0 A1 c1 g1 A2 c2 g2 id b1 _ ?side1 ?side2 ?side3 ?side4 H1.out).mono ?_; (case side1 => exact HR1.out); (case side2 => exact HC1.out); (case side3 => exact HR2.out); (case side4 => exact HC2.out); rintro e w' ⟨rfl, hb⟩; have HB1 := Aside0.mk (below_step HB.out (by first | exact hb | exact hb.below)); clear hb)
  go_ret
  exact ⟨by first | rfl | simp, HB1.out⟩
set_option maxHeartbeats 4000000 in
set_option maxRecDepth 100000 in
theorem impl_Graph_complete.calls (k : Nat) (g0 : Int) (A1 : Option Addr) (c1 : Nat) (g1 : List S61) (A2 : Option Addr) (c2 : Nat) (g2 : List S61) (e0 e1 e2 e3 e4 e5 : Int) (e6 : ByteArray) (A7 : Option Addr) (c7 : Nat) (e7 : List Int) (e8 : Int) (r : Bool) (w : World) (hr1 : Kd.C k61 w A1 g1.length g1) (hc1 : g1.length ≤ c1) (hr2 : Kd.C k61 w A2 g2.length g2) (hc2 : g2.length ≤ c2) (hr7 : Kd.C (Kd.int .i64) w A7 e7.length e7) (hc7 : e7.length ≤ c7) (h : impl_Graph_complete.f k g0 g1 g2 e7 = some r) :
    Calls Try.prog 49 #[.agg #[.int .i64 g0, .slice A1 g1.length c1, .slice A2 g2.length c2], .agg #[.int .i64 e0, .int .i64 e1, .int .i64 e2, .int .i64 e3, .int .i64 e4, .int .i64 e5, .string e6, .slice A7 e7.length c7, .int .i64 e8]] w fun e w' => e = .returned (.bool r) ∧ Below w.heap.size w w' := by
  obtain ⟨b, h1, h2⟩ := Option.bind_eq_some_iff.mp h; obtain rfl := Option.some.inj h2; obtain ⟨h3, rfl⟩ := anyQ_all h1; have HB := Aside0.mk (Below.refl w.heap.size w)
  have HC := Aside0.mk (slices_ContainsFunc_int64_int64.callsF 67 #[.pointer (some ⟨w.heap.size, 0, none⟩)] (fun id => (impl_Graph_complete.q k g0 g1 g2 id).getD false) A7 c7 e7 ((w.alloc (.cells #[.int .i64 g0, .slice A1 g1.length c1, .slice A2 g2.length c2] 31)).alloc (.cells #[.int .i64 e0, .int .i64 e1, .int .i64 e2, .int .i64 e3, .int .i64 e4, .int .i64 e5, .string e6, .slice A7 e7.length c7, .int .i64 e8] 61)) (enters_of Try.func67 (by kernel_rfl) rfl)
    (Kd.C_below hr7 (below_alloc (below_alloc (Below.refl _ _) _) _))
    (fun W i x hx hb => (impl_Graph_complete.closure k g0 A1 c1 g1 A2 c2 g2 x _ w.heap.size W (Kd.C_below hr1 (below_then (below_alloc (below_alloc (Below.refl _ _) _) _) (by simp; try omega) hb)) hc1 (Kd.C_below hr2 (below_then (below_alloc (below_alloc (Below.refl _ _) _) _) (by simp; try omega) hb)) hc2
      ((hb.cell (p := ⟨w.heap.size, 0, none⟩) (by simp; try omega)).trans ((World.cell?_alloc_lt (w.alloc (.cells #[.int .i64 g0, .slice A1 g1.length c1, .slice A2 g2.length c2] 31)) (.cells #[.int .i64 e0, .int .i64 e1, .int .i64 e2, .int .i64 e3, .int .i64 e4, .int .i64 e5, .string e6, .slice A7 e7.length c7, .int .i64 e8] 61) ⟨w.heap.size, 0, none⟩ (by simp; try omega)).trans (by simp))) ((hb.cell (p := ⟨w.heap.size, 1, none⟩) (by simp; try omega)).trans ((World.cell?_alloc_lt (w.alloc (.cells #[.int .i64 g0, .slice A1 g1.length c1, .slice A2 g2.length c2] 31)) (.cells #[.int .i64 e0, .int .i64 e1, .int .i64 e2, .int .i64 e3, .int .i64 e4, .int .i64 e5, .string e6, .slice A7 e7.length c7, .int .i64 e8] 61) ⟨w.heap.size, 1, none⟩ (by simp; try omega)).trans (by simp))) ((hb.cell (p := ⟨w.heap.size, 2, none⟩) (by simp; try omega)).trans ((World.cell?_alloc_lt (w.alloc (.cells #[.int .i64 g0, .slice A1 g1.length c1, .slice A2 g2.length c2] 31)) (.cells #[.int .i64 e0, .int .i64 e1, .int .i64 e2, .int .i64 e3, .int .i64 e4, .int .i64 e5, .string e6, .slice A7 e7.length c7, .int .i64 e8] 61) ⟨w.heap.size, 2, none⟩ (by simp; try omega)).trans (by simp))) (h3 x (List.mem_of_getElem? hx))).mono (fun _ _ h2 => ⟨h2.1, below_step hb h2.2⟩)))
  clear hr1 hr2 hr7 h h1 h2 h3; go_enter Try.func49, Try.ntmps49; go_wp2_with (go_at_call 66; (with_reducible refine HC.out.mono ?_); rintro e w' ⟨rfl, hb⟩)
  go_ret
  exact ⟨by first | rfl | simp, below_step (a1_ HB.out) hb⟩

/-! ### impl_Graph_depths: function 52 -/
mutual
def impl_Graph_depths.l0 : Nat → List Int → Int → Bool → Int → List (S61) → List (S61) → Option (List Int × Bool)
  | 0, _, _, _, _, _, _ => none
  | k + 1, x4, x5, x6, x312000, x312001, x312002 => if x6 = true then (impl_Graph_depths.j1 k x4 x5 (decide (x5 > 0)) x312000 x312001 x312002) else (impl_Graph_depths.j1 k x4 x5 false x312000 x312001 x312002)
def impl_Graph_depths.j1 : Nat → List Int → Int → Bool → Int → List (S61) → List (S61) → Option (List Int × Bool)
  | 0, _, _, _, _, _, _ => none
  | k + 1, x4, x5, x25, x312000, x312001, x312002 => if x25 = true then (impl_Graph_depths.l1 k x4 x5 false x312001 (x312001.length : Int) 0 x312000 x312001 x312002) else (some (x4, (x5 == 0)))
def impl_Graph_depths.l1 : Nat → List Int → Int → Bool → List (S61) → Int → Int → Int → List (S61) → List (S61) → Option (List Int × Bool)
  | 0, _, _, _, _, _, _, _, _, _ => none
  | k + 1, x4, x5, x6, x27, x28, x29, x312000, x312001, x312002 => if x29 < x28 then (if 0 ≤ x29 then (if x29 < (x27.length : Int) then (if x29 < (x4.length : Int) then (if (rd x4 x29) > 0 then (impl_Graph_depths.l1 k x4 x5 x6 x27 x28 (wrap64 (x29 + 1)) x312000 x312001 x312002) else (impl_Graph_depths.l2 k x4 x5 x6 x29 1 x27 x28 x29 ((rd_T61 x27 x29).f7) (((rd_T61 x27 x29).f7).length : Int) 0 x312000 x312001 x312002)) else (none)) else (none)) else (none)) else (impl_Graph_depths.l0 k x4 x5 x6 x312000 x312001 x312002)
def impl_Graph_depths.l2 : Nat → List Int → Int → Bool → Int → Int → List (S61) → Int → Int → List Int → Int → Int → Int → List (S61) → List (S61) → Option (List Int × Bool)
  | 0, _, _, _, _, _, _, _, _, _, _, _, _, _, _ => none
  | k + 1, x4, x5, x6, x7, x9, x27, x28, x29, x40, x41, x42, x312000, x312001, x312002 => if x42 < x41 then (if 0 ≤ x42 then (if x42 < (x40.length : Int) then ((impl_find.f k x312001 (rd x40 x42)).bind fun bt319 => (if 0 ≤ bt319.1 then (if bt319.1 < (x4.length : Int) then (if (rd x4 bt319.1) = 0 then (if 0 > 0 then (if 0 ≤ x7 then (if x7 < (x4.length : Int) then (impl_Graph_depths.l1 k (x4.set (x7 : Int).toNat 0) (wrap64 (x5 - 1)) true x27 x28 (wrap64 (x29 + 1)) x312000 x312001 x312002) else (none)) else (none)) else (impl_Graph_depths.l1 k x4 x5 x6 x27 x28 (wrap64 (x29 + 1)) x312000 x312001 x312002)) else (impl_Graph_depths.l2 k x4 x5 x6 x7 (mx x9 (wrap64 ((rd x4 bt319.1) + 1))) x27 x28 x29 x40 x41 (wrap64 (x42 + 1)) x312000 x312001 x312002)) else (none)) else (none))) else (none)) else (none)) else (if x9 > 0 then (if 0 ≤ x7 then (if x7 < (x4.length : Int) then (impl_Graph_depths.l1 k (x4.set (x7 : Int).toNat x9) (wrap64 (x5 - 1)) true x27 x28 (wrap64 (x29 + 1)) x312000 x312001 x312002) else (none)) else (none)) else (impl_Graph_depths.l1 k x4 x5 x6 x27 x28 (wrap64 (x29 + 1)) x312000 x312001 x312002))
end
def impl_Graph_depths.f (k : Nat) (a0_0 : Int) (l0_1 : List (S61)) (l0_2 : List (S61)) : Option (List Int × Bool) := if 0 ≤ (l0_1.length : Int) then (if ((l0_1.length : Int) : Int).toNat ≤ 35184372088832 then (impl_Graph_depths.l0 k (List.replicate ((l0_1.length : Int) : Int).toNat 0) (l0_1.length : Int) true a0_0 l0_1 l0_2) else (none)) else (none)
theorem impl_Graph_depths.mono_l : ∀ k, (∀ y0 y1 y2 y3 y4 y5, LeO (impl_Graph_depths.l0 k y0 y1 y2 y3 y4 y5) (impl_Graph_depths.l0 (k + 1) y0 y1 y2 y3 y4 y5)) ∧ (∀ y0 y1 y2 y3 y4 y5, LeO (impl_Graph_depths.j1 k y0 y1 y2 y3 y4 y5) (impl_Graph_depths.j1 (k + 1) y0 y1 y2 y3 y4 y5)) ∧ (∀ y0 y1 y2 y3 y4 y5 y6 y7 y8, LeO (impl_Graph_depths.l1 k y0 y1 y2 y3 y4 y5 y6 y7 y8) (impl_Graph_depths.l1 (k + 1) y0 y1 y2 y3 y4 y5 y6 y7 y8)) ∧ (∀ y0 y1 y2 y3 y4 y5 y6 y7 y8 y9 y10 y11 y12 y13, LeO (impl_Graph_depths.l2 k y0 y1 y2 y3 y4 y5 y6 y7 y8 y9 y10 y11 y12 y13) (impl_Graph_depths.l2 (k + 1) y0 y1 y2 y3 y4 y5 y6 y7 y8 y9 y10 y11 y12 y13))
  | 0 => ⟨fun _ _ _ _ _ _ r h => by simp [impl_Graph_depths.l0] at h, fun _ _ _ _ _ _ r h => by simp [impl_Graph_depths.j1] at h, fun _ _ _ _ _ _ _ _ _ r h => by simp [impl_Graph_depths.l1] at h, fun _ _ _ _ _ _ _ _ _ _ _ _ _ _ r h => by simp [impl_Graph_depths.l2] at h⟩
  | k + 1 => by
    obtain ⟨ih0, ih1, ih2, ih3⟩ := impl_Graph_depths.mono_l k
    refine ⟨?_, ?_, ?_, ?_⟩
    · intro y0 y1 y2 y3 y4 y5
      unfold impl_Graph_depths.l0
      repeat' first | (with_reducible exact ih0 _ _ _ _ _ _) | (with_reducible exact ih1 _ _ _ _ _ _) | (with_reducible exact ih2 _ _ _ _ _ _ _ _ _) | (with_reducible exact ih3 _ _ _ _ _ _ _ _ _ _ _ _ _ _) | (with_reducible exact impl_find.mono _ _ _) | (with_reducible exact LeO.refl _) | (with_reducible exact LeO.none _) | (with_reducible refine LeO.ite ?_ ?_) | (with_reducible refine LeO.bind ?_ (fun _ => ?_)) | exact ih0 _ _ _ _ _ _ | exact ih1 _ _ _ _ _ _ | exact ih2 _ _ _ _ _ _ _ _ _ | exact ih3 _ _ _ _ _ _ _ _ _ _ _ _ _ _ | exact impl_find.mono _ _ _ | exact LeO.none _ | refine LeO.ite ?_ ?_ | refine LeO.bind ?_ (fun _ => ?_)
    · intro y0 y1 y2 y3 y4 y5
      unfold impl_Graph_depths.j1
      repeat' first | (with_reducible exact ih0 _ _ _ _ _ _) | (with_reducible exact ih1 _ _ _ _ _ _) | (with_reducible exact ih2 _ _ _ _ _ _ _ _ _) | (with_reducible exact ih3 _ _ _ _ _ _ _ _ _ _ _ _ _ _) | (with_reducible exact impl_find.mono _ _ _) | (with_reducible exact LeO.refl _) | (with_reducible exact LeO.none _) | (with_reducible refine LeO.ite ?_ ?_) | (with_reducible refine LeO.bind ?_ (fun _ => ?_)) | exact ih0 _ _ _ _ _ _ | exact ih1 _ _ _ _ _ _ | exact ih2 _ _ _ _ _ _ _ _ _ | exact ih3 _ _ _ _ _ _ _ _ _ _ _ _ _ _ | exact impl_find.mono _ _ _ | exact LeO.none _ | refine LeO.ite ?_ ?_ | refine LeO.bind ?_ (fun _ => ?_)
    · intro y0 y1 y2 y3 y4 y5 y6 y7 y8
      unfold impl_Graph_depths.l1
      repeat' first | (with_reducible exact ih0 _ _ _ _ _ _) | (with_reducible exact ih1 _ _ _ _ _ _) | (with_reducible exact ih2 _ _ _ _ _ _ _ _ _) | (with_reducible exact ih3 _ _ _ _ _ _ _ _ _ _ _ _ _ _) | (with_reducible exact impl_find.mono _ _ _) | (with_reducible exact LeO.refl _) | (with_reducible exact LeO.none _) | (with_reducible refine LeO.ite ?_ ?_) | (with_reducible refine LeO.bind ?_ (fun _ => ?_)) | exact ih0 _ _ _ _ _ _ | exact ih1 _ _ _ _ _ _ | exact ih2 _ _ _ _ _ _ _ _ _ | exact ih3 _ _ _ _ _ _ _ _ _ _ _ _ _ _ | exact impl_find.mono _ _ _ | exact LeO.none _ | refine LeO.ite ?_ ?_ | refine LeO.bind ?_ (fun _ => ?_)
    · intro y0 y1 y2 y3 y4 y5 y6 y7 y8 y9 y10 y11 y12 y13
      unfold impl_Graph_depths.l2
      repeat' first | (with_reducible exact ih0 _ _ _ _ _ _) | (with_reducible exact ih1 _ _ _ _ _ _) | (with_reducible exact ih2 _ _ _ _ _ _ _ _ _) | (with_reducible exact ih3 _ _ _ _ _ _ _ _ _ _ _ _ _ _) | (with_reducible exact impl_find.mono _ _ _) | (with_reducible exact LeO.refl _) | (with_reducible exact LeO.none _) | (with_reducible refine LeO.ite ?_ ?_) | (with_reducible refine LeO.bind ?_ (fun _ => ?_)) | exact ih0 _ _ _ _ _ _ | exact ih1 _ _ _ _ _ _ | exact ih2 _ _ _ _ _ _ _ _ _ | exact ih3 _ _ _ _ _ _ _ _ _ _ _ _ _ _ | exact impl_find.mono _ _ _ | exact LeO.none _ | refine LeO.ite ?_ ?_ | refine LeO.bind ?_ (fun _ => ?_)
theorem impl_Graph_depths.mono : ∀ a0 a1 a2 k, LeO (impl_Graph_depths.f k a0 a1 a2) (impl_Graph_depths.f (k + 1) a0 a1 a2) := by
  intro a0 a1 a2 k
  obtain ⟨ih0, ih1, ih2, ih3⟩ := impl_Graph_depths.mono_l k
  unfold impl_Graph_depths.f
  repeat' first | (with_reducible exact ih0 _ _ _ _ _ _) | (with_reducible exact ih1 _ _ _ _ _ _) | (with_reducible exact ih2 _ _ _ _ _ _ _ _ _) | (with_reducible exact ih3 _ _ _ _ _ _ _ _ _ _ _ _ _ _) | (with_reducible exact impl_find.mono _ _ _) | (with_reducible exact LeO.refl _) | (with_reducible exact LeO.none _) | (with_reducible refine LeO.ite ?_ ?_) | (with_reducible refine LeO.bind ?_ (fun _ => ?_)) | exact ih0 _ _ _ _ _ _ | exact ih1 _ _ _ _ _ _ | exact ih2 _ _ _ _ _ _ _ _ _ | exact ih3 _ _ _ _ _ _ _ _ _ _ _ _ _ _ | exact impl_find.mono _ _ _ | exact LeO.none _ | refine LeO.ite ?_ ?_ | refine LeO.bind ?_ (fun _ => ?_)
def impl_Graph_depths.T1 : Bool × List (List Nat × List Nat) := (true, [([], []), ([0], [0]), ([1], [1]), ([2, 2], [2]), ([], []), ([4], [4]), ([5], [5]), ([3, 0, 1, 2, 3], [3]), ([6, 7, 0, 1, 2, 3, 4, 5, 6, 7], [6])])
def impl_Graph_depths.B1 : List Nat := [0, 1, 3, 7, 0, 16, 48, 15, 255]
theorem impl_Graph_depths.tab1 : rtab .any (opsOf Try.f52 1) = impl_Graph_depths.T1 := by kernel_rfl
theorem impl_Graph_depths.bits1 : waitsOk impl_Graph_depths.T1.2 impl_Graph_depths.B1 = true := by kernel_rfl
set_option maxHeartbeats 8000000 in
set_option maxRecDepth 100000 in
theorem impl_Graph_depths.calls (k : Nat) (a0_0 : Int) (A0_1 : Option Addr) (c0_1 : Nat) (l0_1 : List (S61)) (A0_2 : Option Addr) (c0_2 : Nat) (l0_2 : List (S61)) (r1 : List Int) (r2 : Bool) (w : World) (hr0_1 : Kd.C k61 w A0_1 l0_1.length l0_1) (hc0_1 : l0_1.length ≤ c0_1) (hr0_2 : Kd.C k61 w A0_2 l0_2.length l0_2) (hc0_2 : l0_2.length ≤ c0_2) (h : impl_Graph_depths.f k a0_0 l0_1 l0_2 = some (r1, r2)) :
    Calls Try.prog 52 #[.agg #[.int .i64 a0_0, .slice A0_1 l0_1.length c0_1, .slice A0_2 l0_2.length c0_2]] w fun e w' => ∃ v0_ : Value, e = .returned (.tuple #[v0_, .bool r2]) ∧ Kd.R (Kd.int .i64) 2 w' w.heap.size (fun _ => True) v0_ r1 ∧ Below w.heap.size w w' := by
 have hu31 := Try.underlying31; have hu61 := Try.underlying61; have HR0_1 := Aside0.mk hr0_1; have HC0_1 := Aside0.mk hc0_1; clear hr0_1 hc0_1; have HR0_2 := Aside0.mk hr0_2; have HC0_2 := Aside0.mk hc0_2; clear hr0_2 hc0_2; have HB := Aside0.mk (Below.refl w.heap.size w); have H : (if 0 ≤ (l0_1.length : Int) then (if ((l0_1.length : Int) : Int).toNat ≤ 35184372088832 then (impl_Graph_depths.l0 k (List.replicate ((l0_1.length : Int) : Int).toNat 0) (l0_1.length : Int) true a0_0 l0_1 l0_2) else (none)) else (none)) = some (r1, r2) := h; clear h; by_cases c2 : 0 ≤ (l0_1.length : Int)
 ·
  rw [if_pos c2] at H; have c2b0 := eq_true c2; have c2b1 : decide (0 ≤ (l0_1.length : Int)) = true := decide_eq_true c2; clear c2; by_cases c3 : ((l0_1.length : Int) : Int).toNat ≤ 35184372088832
  ·
   rw [if_pos c3] at H; have c3b0 := eq_true c3; have c3b1 : decide (((l0_1.length : Int) : Int).toNat ≤ 35184372088832) = true := decide_eq_true c3; clear c3; obtain ⟨y312, hy312⟩ : ∃ y_ : List Int, y_ = (List.replicate ((l0_1.length : Int) : Int).toNat 0) := ⟨_, rfl⟩; replace H : (impl_Graph_depths.l0 k y312 (l0_1.length : Int) true a0_0 l0_1 l0_2) = some (r1, r2) := by first | (rw [hy312]; with_reducible exact H) | (have H2_ := (Option.bind_some _ _).symm.trans H; rw [hy312]; with_reducible exact H2_) | (have H2_ := (Option.bind_some _ _).symm.trans H; with_reducible exact H2_) | with_reducible exact H | (rw [hy312]; exact H) | exact H
   have Ny312 := Aside0.mk hy312; clear hy312; have H' := Aside0.mk H; clear H; go_enter Try.func52, Try.ntmps52; try go_wp2_with (first | ((with_reducible refine gate_dst (N := 1) rfl ?_); refine be_ 1 #[.int .i64 a0_0, .slice A0_1 l0_1.length c0_1, .slice A0_2 l0_2.length c0_2] 31 ?_; intro gb311 hg w4 hbox hb; have n0_ := Aside0.mk (below_step HB.out hb); have n1_ := Aside0.mk (hbox); have n2_ := Aside0.mk ((by rw [hg]; exact (below_size HB.out) : w.heap.size ≤ gb311)); have n3_ := n2_; clear HB; have HB := n0_; have BK311 := n1_; have GW311 := n2_; have GE311 := n3_; clear n0_ n1_ n2_ n3_; clear hb hbox hg))
   have n0_ := Aside0.mk (blk_drew BK311.out); have n1_ := Aside0.mk (below_drew1 HB.out); clear BK311; clear HB; have BK311 := n0_; have HB := n1_; clear n0_ n1_; refine start_ (n := 9) (S := fun w' => w'.cell? ⟨gb311, 0, none⟩ = some (.int .i64 a0_0) ∧ w'.cell? ⟨gb311, 1, none⟩ = some (.slice A0_1 l0_1.length c0_1) ∧ w'.cell? ⟨gb311, 2, none⟩ = some (.slice A0_2 l0_2.length c0_2)) (ds := []) #[false, false, false, false, false, false, false, false, false] (by kernel_rfl) rfl rfl ⟨(blk_cell BK311.out 0).trans rfl, (blk_cell BK311.out 1).trans rfl, (blk_cell BK311.out 2).trans rfl⟩ (fun hHeld => ?_); refine with_tabW impl_Graph_depths.tab1 impl_Graph_depths.bits1 (fun HT_ HW_ => ?_); generalize w4.drew = w5 at BK311 HB hHeld ⊢; refine p_ 0 (some 14) HT_.out (bm 9 1) ?_; refine p_ 4 (some 18) HT_.out (bm 9 17) ?_; refine t_ 1 (some 15) (bm 9 19) (take_ofW HT_.out HW_.out (by kernel_rfl)) hHeld ?_; refine p_ 2 (some 16) HT_.out (bm 9 23) ?_; refine t_ 5 (some 19) (bm 9 55) (take_ofW HT_.out HW_.out (by kernel_rfl)) hHeld ?_; refine p_ 6 (some 20) HT_.out (bm 9 119) ?_; refine one_ (i := 3) (N := some 17) (bm 9 127) rfl rfl (one_of HT_.out (by kernel_rfl)) (by decide) (fun K hK => ?_); refine Kd.R_make_step (Kd.int .i64) _ 2 (by rfl) (N := 17) rfl 55 _ _ rfl (l0_1.length : Int) rfl rfl Try.underlying55 (.int .i64 0) 8 info2 rfl (by decide) (by omega) 0 (ok := fun _ => True) (okp := fun _ => True) rfl (fun _ hk => hk) trivial (d_) (Nat.le_trans (Nat.mul_le_mul_right _ (d_ : (l0_1.length : Int).toNat ≤ 35184372088832)) (by omega)) (Below.refl _ _) (Nat.le_refl _) ?_
   intro v313 w6 ho7 hb hg_ hnew_; clear hg_ hnew_; (first | rw [← Ny312.out] at ho7 | (simp only [Int.reduceToNat] at ho7; rw [← Ny312.out] at ho7))
   have n0_ := Aside0.mk (Kd.R_lower ho7 (below_size HB.out)); have n1_ := Aside0.mk (blk_below BK311.out hb); have n2_ := Aside0.mk (below_step HB.out hb); clear BK311; clear HB; have HO314 := n0_; have BK311 := n1_; have HB := n2_; clear n0_ n1_ n2_; clear hb ho7; refine hK.out _ _ ⟨(blk_cell BK311.out 0).trans rfl, (blk_cell BK311.out 1).trans rfl, (blk_cell BK311.out 2).trans rfl⟩ (fun hHeld => ?_); clear hK K; refine n_ (some 17) ?_; refine p_ 7 (some 4) HT_.out (bm 9 255) ?_; refine p_ 8 (some 5) HT_.out (bm 9 511) ?_; refine done_ (done_of HT_.out (by kernel_rfl)) ?_; try go_wp2
   go_loopg [5, 6] k (fun kq v5 v6 w' => ∃ (x4_1 : List Int) (x5_1 : Int) (x6_1 : Bool), v5 = .int .i64 x5_1 ∧ v6 = .bool x6_1 ∧ Aside0 (impl_Graph_depths.l0 kq x4_1 x5_1 x6_1 a0_0 l0_1 l0_2 = some (r1, r2)) ∧ Aside0 (kq ≤ k) ∧ Aside0 (Kd.R (Kd.int .i64) 2 w' w.heap.size (fun _ => True) v313 x4_1) ∧ Aside0 (w'.heap[gb311]? = some (.cells #[.int .i64 a0_0, (.slice A0_1 l0_1.length c0_1), (.slice A0_2 l0_2.length c0_2)] 31 (0, 0))) ∧ Aside0 (Below w.heap.size w w'))
   case atStart => exact ⟨(y312), ((l0_1.length : Int)), (true), (by first | rfl | (simp; done) | (simp [*]; done)), (by first | rfl | (simp; done) | (simp [*]; done)), H', ⟨Nat.le_refl _⟩, ⟨(a7_ HO314.out)⟩, ⟨by exact BK311.out⟩, ⟨(a3_ HB.out GE311.out)⟩⟩
   case round =>
    clear H'; try clear c2
    try clear c2b0
    try clear c2b1
    try clear p2
    try clear c3
    try clear c3b0
    try clear c3b1
    try clear c5
    obtain ⟨x4_1, x5_1, x6_1, rfl, rfl, HA, HK1, HO_4, BK311, HB⟩ := hrel
    cases gk with
    | zero => exact absurd HA.out (by simp [impl_Graph_depths.l0])
    | succ k1 =>
     have H := HA.out; clear HA; simp only [impl_Graph_depths.l0] at H; have HC8 := Aside0.mk H; clear H; go_upto_region 3 with (fail)
     go_cut [25] (fun v25 wc => ∃ (kq : Nat) (x25_7 : Bool), v25 = .bool x25_7 ∧ Aside0 (impl_Graph_depths.j1 kq x4_1 x5_1 x25_7 a0_0 l0_1 l0_2 = some (r1, r2)) ∧ Aside0 (kq ≤ k1) ∧ Aside0 (Kd.R (Kd.int .i64) 2 wc w.heap.size (fun _ => True) v313 x4_1) ∧ Aside0 (wc.heap[gb311]? = some (.cells #[.int .i64 a0_0, (.slice A0_1 l0_1.length c0_1), (.slice A0_2 l0_2.length c0_2)] 31 (0, 0))) ∧ Aside0 (Below w.heap.size w wc))
     case first =>
      have H := HC8.out; clear HC8; by_cases c9 : x6_1 = true
      ·
       subst c9; have H1 : (impl_Graph_depths.j1 k1 x4_1 x5_1 (decide (x5_1 > 0)) a0_0 l0_1 l0_2) = some (r1, r2) := by rw [if_pos rfl] at H; exact H
       clear H; have H := H1; clear H1; have H' := Aside0.mk H; clear H; go_wp2
       go_meet
       case rel => exact ⟨_, (decide (x5_1 > 0)), (by first | rfl | (simp; done) | (simp [*]; done)), H', ⟨by have := HK1.out; first | omega | exact Nat.le_refl _⟩, ⟨(a7_ HO_4.out)⟩, ⟨by exact BK311.out⟩, ⟨(a3_ HB.out GE311.out)⟩⟩
      ·
       replace c9 := Bool.eq_false_iff.mpr c9; subst c9; have H1 : (impl_Graph_depths.j1 k1 x4_1 x5_1 false a0_0 l0_1 l0_2) = some (r1, r2) := by rw [if_neg (show ¬ (false = true) by decide)] at H; exact H
       clear H; have H := H1; clear H1; have H' := Aside0.mk H; clear H; go_wp2
       go_meet
       case rel => exact ⟨_, (false), (by first | rfl | (simp; done) | (simp [*]; done)), H', ⟨by have := HK1.out; first | omega | exact Nat.le_refl _⟩, ⟨(a7_ HO_4.out)⟩, ⟨by exact BK311.out⟩, ⟨(a3_ HB.out GE311.out)⟩⟩
     case rest =>
      clear HC8; try clear c2
      try clear c2b0
      try clear c2b1
      try clear p2
      try clear c3
      try clear c3b0
      try clear c3b1
      try clear c5
      try clear c9
      try clear p2
      obtain ⟨kq, x25_7, rfl, HA, HJ7, HO_4, BK311, HB⟩ := hcut
      cases kq with
      | zero => exact absurd HA.out (by simp [impl_Graph_depths.j1])
      | succ kj7 =>
       have H := HA.out; clear HA; simp only [impl_Graph_depths.j1] at H; by_cases c10 : x25_7 = true
       ·
        subst c10; have H1 : (impl_Graph_depths.l1 kj7 x4_1 x5_1 false l0_1 (l0_1.length : Int) 0 a0_0 l0_1 l0_2) = some (r1, r2) := by rw [if_pos rfl] at H; exact H
        clear H; have H := H1; clear H1; have H' := Aside0.mk H; clear H; have hcz11_0 : wc.cell? ⟨gb311, 0, none⟩ = some (.int .i64 a0_0) := (blk_cell BK311.out 0).trans rfl; have hcz11_1 : wc.cell? ⟨gb311, 1, none⟩ = some (.slice A0_1 l0_1.length c0_1) := (blk_cell BK311.out 1).trans rfl; have hcz11_2 : wc.cell? ⟨gb311, 2, none⟩ = some (.slice A0_2 l0_2.length c0_2) := (blk_cell BK311.out 2).trans rfl; have hfz11_0 := blk_frozen BK311.out 0; have hfz11_1 := blk_frozen BK311.out 1; have hfz11_2 := blk_frozen BK311.out 2; go_wp2
        go_loopg [5, 6, 29] kj7 (fun kq v5 v6 v29 w' => ∃ (x4_3 : List Int) (x5_3 : Int) (x6_3 : Bool) (x29_3 : Int), v5 = .int .i64 x5_3 ∧ v6 = .bool x6_3 ∧ v29 = .int .i64 x29_3 ∧ Aside0 (impl_Graph_depths.l1 kq x4_3 x5_3 x6_3 l0_1 (l0_1.length : Int) x29_3 a0_0 l0_1 l0_2 = some (r1, r2)) ∧ Aside0 (kq ≤ kj7) ∧ Aside0 (Kd.R (Kd.int .i64) 2 w' w.heap.size (fun _ => True) v313 x4_3) ∧ Aside0 (w'.heap[gb311]? = some (.cells #[.int .i64 a0_0, (.slice A0_1 l0_1.length c0_1), (.slice A0_2 l0_2.length c0_2)] 31 (0, 0))) ∧ Aside0 (Below w.heap.size w w'))
        case atStart => exact ⟨(x4_1), (x5_1), (false), (0), (by first | rfl | (simp; done) | (simp [*]; done)), (by first | rfl | (simp; done) | (simp [*]; done)), (by first | rfl | (simp; done) | (simp [*]; done)), H', ⟨Nat.le_refl _⟩, ⟨(a7_ HO_4.out)⟩, ⟨by exact BK311.out⟩, ⟨(a3_ HB.out GE311.out)⟩⟩
        case round =>
         clear H'; try clear c1
         try clear c2
         try clear c2b0
         try clear c2b1
         try clear p2
         try clear c3
         try clear c3b0
         try clear c3b1
         try clear c5
         try clear c9
         try clear c10
         try clear hcz11_0
         try clear hcz11_1
         try clear hcz11_2
         try clear hfz11_0
         try clear hfz11_1
         try clear hfz11_2
         try clear p2
         obtain ⟨x4_3, x5_3, x6_3, x29_3, rfl, rfl, rfl, HA, HK3, HO_4, BK311, HB⟩ := hrel
         cases gk with
         | zero => exact absurd HA.out (by simp [impl_Graph_depths.l1])
         | succ k3 =>
          have H := HA.out; clear HA; simp only [impl_Graph_depths.l1] at H; by_cases c12 : x29_3 < (l0_1.length : Int)
          ·
           rw [if_pos c12] at H; have c12b0 : decide (x29_3 < (l0_1.length : Int)) = true := decide_eq_true c12; clear c12; by_cases c13 : 0 ≤ x29_3
           ·
            rw [if_pos c13] at H; have c13b0 : decide (0 ≤ x29_3) = true := decide_eq_true c13; clear c13; by_cases c14 : x29_3 < (l0_1.length : Int)
            ·
             rw [if_pos c14] at H; have c14b0 : decide (x29_3 < (l0_1.length : Int)) = true := decide_eq_true c14; clear c14; by_cases c15 : x29_3 < (x4_3.length : Int)
             ·
              rw [if_pos c15] at H; have c15b0 : decide (x29_3 < (x4_3.length : Int)) = true := decide_eq_true c15; clear c15; by_cases c16 : (rd x4_3 x29_3) > 0
              ·
               rw [if_pos c16] at H; have c16b0 : decide (0 < (rd x4_3 x29_3)) = true := decide_eq_true c16; clear c16; have H' := Aside0.mk H; clear H; have p315 : 0 ≤ (x29_3 : Int) := d_; have q315 : x29_3 < (l0_1.length : Int) := d_; obtain ⟨ad315, A315_7, c315_7, e315, hx315_0, hx315_1, hx315_2, hx315_3, hx315_4, hx315_5, hx315_6, hx315_7, hx315_8, hl315_7, hi315_7⟩ := at_T61 HR0_1.out x29_3 p315 q315; cases e315; replace hx315_0 := ce_ HB.out hx315_0; replace hx315_1 := ce_ HB.out hx315_1; replace hx315_2 := ce_ HB.out hx315_2; replace hx315_3 := ce_ HB.out hx315_3; replace hx315_4 := ce_ HB.out hx315_4; replace hx315_5 := ce_ HB.out hx315_5; replace hx315_6 := ce_ HB.out hx315_6; replace hx315_7 := ce_ HB.out hx315_7; replace hx315_8 := ce_ HB.out hx315_8; have HR315_7 := Aside0.mk hi315_7; have HC315_7 := Aside0.mk hl315_7; clear hi315_7 hl315_7; replace p315 := eq_true p315; replace q315 := eq_true q315; go_wp2_with (first | ((with_reducible refine gate_dst (N := 8) rfl ?_); refine be_ 8 #[.int .i64 0, .int .i64 0, .int .i64 0, .int .i64 0, .int .i64 0, .int .i64 0, .string (⟨#[]⟩ : ByteArray), .slice none 0 0, .int .i64 0] 61 ?_; intro gb316 hg w17 hbox hb; have n0_ := Aside0.mk (Kd.R_below HO_4.out hb); have n1_ := Aside0.mk (blk_below BK311.out hb); have n2_ := Aside0.mk (below_step HB.out hb); have n3_ := Aside0.mk (hbox); have n4_ := Aside0.mk ((by rw [hg]; exact (below_size HB.out) : w.heap.size ≤ gb316)); have n5_ := n4_; have n6_ := Aside0.mk ((by rw [hg]; exact Nat.ne_of_lt (blk_lt BK311.out) : gb311 ≠ gb316)); have n7_ := Aside0.mk (Ne.symm n6_.out); clear HO_4; clear BK311; clear HB; have HO_4 := n0_; have BK311 := n1_; have HB := n2_; have BK316 := n3_; have GW316 := n4_; have GE316 := n5_; have NB311_316 := n6_; have NB316_311 := n7_; clear n0_ n1_ n2_ n3_ n4_ n5_ n6_ n7_; clear hb hbox hg; have hnb18 := NB316_311.out; have hnc18 := NB311_316.out; have hcz19_0 : w17.cell? ⟨gb316, 0, none⟩ = some (.int .i64 0) := (blk_cell BK316.out 0).trans rfl; have hcz19_1 : w17.cell? ⟨gb316, 1, none⟩ = some (.int .i64 0) := (blk_cell BK316.out 1).trans rfl; have hcz19_2 : w17.cell? ⟨gb316, 2, none⟩ = some (.int .i64 0) := (blk_cell BK316.out 2).trans rfl; have hcz19_3 : w17.cell? ⟨gb316, 3, none⟩ = some (.int .i64 0) := (blk_cell BK316.out 3).trans rfl; have hcz19_4 : w17.cell? ⟨gb316, 4, none⟩ = some (.int .i64 0) := (blk_cell BK316.out 4).trans rfl; have hcz19_5 : w17.cell? ⟨gb316, 5, none⟩ = some (.int .i64 0) := (blk_cell BK316.out 5).trans rfl; have hcz19_6 : w17.cell? ⟨gb316, 6, none⟩ = some (.string (⟨#[]⟩ : ByteArray)) := (blk_cell BK316.out 6).trans rfl; have hcz19_7 : w17.cell? ⟨gb316, 7, none⟩ = some (.slice none 0 0) := (blk_cell BK316.out 7).trans rfl; have hcz19_8 : w17.cell? ⟨gb316, 8, none⟩ = some (.int .i64 0) := (blk_cell BK316.out 8).trans rfl; have hfz19_0 := blk_frozen BK316.out 0; have hfz19_1 := blk_frozen BK316.out 1; have hfz19_2 := blk_frozen BK316.out 2; have hfz19_3 := blk_frozen BK316.out 3; have hfz19_4 := blk_frozen BK316.out 4; have hfz19_5 := blk_frozen BK316.out 5; have hfz19_6 := blk_frozen BK316.out 6; have hfz19_7 := blk_frozen BK316.out 7; have hfz19_8 := blk_frozen BK316.out 8; obtain ⟨Ao20, co20, eo20⟩ := Kd.R_slice HO_4.out; subst eo20; have p317 : 0 ≤ (x29_3 : Int) := d_; have q317 : x29_3 < (x4_3.length : Int) := d_; obtain ⟨ad317, e317, hx317_0⟩ := Kd.at_int (Kd.R_reads' HO_4.out).2.2 x29_3 p317 q317; cases e317; have hn317_0 : ad317.block ≠ gb316 := Kd.own_blk (Kd.R_ne HO_4.out BK316.out (by decide)); have hn317_1 : ad317.block ≠ gb316 := Kd.own_blk (Kd.R_ne HO_4.out BK316.out (by decide)); have hn317_2 : ad317.block ≠ gb316 := Kd.own_blk (Kd.R_ne HO_4.out BK316.out (by decide)); have hn317_3 : ad317.block ≠ gb316 := Kd.own_blk (Kd.R_ne HO_4.out BK316.out (by decide)); have hn317_4 : ad317.block ≠ gb316 := Kd.own_blk (Kd.R_ne HO_4.out BK316.out (by decide)); have hn317_5 : ad317.block ≠ gb316 := Kd.own_blk (Kd.R_ne HO_4.out BK316.out (by decide)); have hn317_6 : ad317.block ≠ gb316 := Kd.own_blk (Kd.R_ne HO_4.out BK316.out (by decide)); have hn317_7 : ad317.block ≠ gb316 := Kd.own_blk (Kd.R_ne HO_4.out BK316.out (by decide)); have hn317_8 : ad317.block ≠ gb316 := Kd.own_blk (Kd.R_ne HO_4.out BK316.out (by decide)); replace hx317_0 := (cell_far (p := ⟨gb316, 0, none⟩) (by first | (rw [add_block]; exact hn317_0) | (show (Addr.add _ _).block ≠ _; rw [add_block]; exact hn317_0) | exact hn317_0) (.int .i64 ((rd_T61 l0_1 x29_3).f0))).trans hx317_0; replace hx317_0 := (cell_far (p := ⟨gb316, 1, none⟩) (by first | (rw [add_block]; exact hn317_1) | (show (Addr.add _ _).block ≠ _; rw [add_block]; exact hn317_1) | exact hn317_1) (.int .i64 ((rd_T61 l0_1 x29_3).f1))).trans hx317_0; replace hx317_0 := (cell_far (p := ⟨gb316, 2, none⟩) (by first | (rw [add_block]; exact hn317_2) | (show (Addr.add _ _).block ≠ _; rw [add_block]; exact hn317_2) | exact hn317_2) (.int .i64 ((rd_T61 l0_1 x29_3).f2))).trans hx317_0; replace hx317_0 := (cell_far (p := ⟨gb316, 3, none⟩) (by first | (rw [add_block]; exact hn317_3) | (show (Addr.add _ _).block ≠ _; rw [add_block]; exact hn317_3) | exact hn317_3) (.int .i64 ((rd_T61 l0_1 x29_3).f3))).trans hx317_0; replace hx317_0 := (cell_far (p := ⟨gb316, 4, none⟩) (by first | (rw [add_block]; exact hn317_4) | (show (Addr.add _ _).block ≠ _; rw [add_block]; exact hn317_4) | exact hn317_4) (.int .i64 ((rd_T61 l0_1 x29_3).f4))).trans hx317_0; replace hx317_0 := (cell_far (p := ⟨gb316, 5, none⟩) (by first | (rw [add_block]; exact hn317_5) | (show (Addr.add _ _).block ≠ _; rw [add_block]; exact hn317_5) | exact hn317_5) (.int .i64 ((rd_T61 l0_1 x29_3).f5))).trans hx317_0; replace hx317_0 := (cell_far (p := ⟨gb316, 6, none⟩) (by first | (rw [add_block]; exact hn317_6) | (show (Addr.add _ _).block ≠ _; rw [add_block]; exact hn317_6) | exact hn317_6) (.string ((rd_T61 l0_1 x29_3).f6))).trans hx317_0; replace hx317_0 := (cell_far (p := ⟨gb316, 7, none⟩) (by first | (rw [add_block]; exact hn317_7) | (show (Addr.add _ _).block ≠ _; rw [add_block]; exact hn317_7) | exact hn317_7) (.slice A315_7 ((rd_T61 l0_1 x29_3).f7).length c315_7)).trans hx317_0; replace hx317_0 := (cell_far (p := ⟨gb316, 8, none⟩) (by first | (rw [add_block]; exact hn317_8) | (show (Addr.add _ _).block ≠ _; rw [add_block]; exact hn317_8) | exact hn317_8) (.int .i64 ((rd_T61 l0_1 x29_3).f8))).trans hx317_0; clear hn317_0; clear hn317_1; clear hn317_2; clear hn317_3; clear hn317_4; clear hn317_5; clear hn317_6; clear hn317_7; clear hn317_8; replace p317 := eq_true p317; replace q317 := eq_true q317))
               go_roundg k3
               case measure => have := HK1.out; have := HJ7.out; have := HK3.out; omega
               case rel => exact ⟨(x4_3), (x5_3), (x6_3), (wrap64 (x29_3 + 1)), (by first | rfl | (simp; done) | (simp [*]; done)), (by first | rfl | (simp; done) | (simp [*]; done)), (by first | rfl | (simp; done) | (simp [*]; done)), H', ⟨by have := HK1.out; have := HJ7.out; have := HK3.out; omega⟩, ⟨by (with_reducible repeat (first | apply Kd.R_alloc | apply Kd.R_drewN | apply Kd.R_drew)); exact Kd.R_mono (Kd.R_far (p := ⟨gb316, 8, none⟩) (Kd.R_far (p := ⟨gb316, 7, none⟩) (Kd.R_far (p := ⟨gb316, 6, none⟩) (Kd.R_far (p := ⟨gb316, 5, none⟩) (Kd.R_far (p := ⟨gb316, 4, none⟩) (Kd.R_far (p := ⟨gb316, 3, none⟩) (Kd.R_far (p := ⟨gb316, 2, none⟩) (Kd.R_far (p := ⟨gb316, 1, none⟩) (Kd.R_far (p := ⟨gb316, 0, none⟩) (Kd.R_types HO_4.out BK316.out (by decide)) (fun _ hk => hk.2) (.int .i64 ((rd_T61 l0_1 x29_3).f0))) (fun _ hk => hk.2) (.int .i64 ((rd_T61 l0_1 x29_3).f1))) (fun _ hk => hk.2) (.int .i64 ((rd_T61 l0_1 x29_3).f2))) (fun _ hk => hk.2) (.int .i64 ((rd_T61 l0_1 x29_3).f3))) (fun _ hk => hk.2) (.int .i64 ((rd_T61 l0_1 x29_3).f4))) (fun _ hk => hk.2) (.int .i64 ((rd_T61 l0_1 x29_3).f5))) (fun _ hk => hk.2) (.string ((rd_T61 l0_1 x29_3).f6))) (fun _ hk => hk.2) (.slice A315_7 ((rd_T61 l0_1 x29_3).f7).length c315_7)) (fun _ hk => hk.2) (.int .i64 ((rd_T61 l0_1 x29_3).f8))) (fun _ hk => trivial)⟩, ⟨by refine blk_far ?_ NB311_316.out _; refine blk_far ?_ NB311_316.out _; refine blk_far ?_ NB311_316.out _; refine blk_far ?_ NB311_316.out _; refine blk_far ?_ NB311_316.out _; refine blk_far ?_ NB311_316.out _; refine blk_far ?_ NB311_316.out _; refine blk_far ?_ NB311_316.out _; refine blk_far ?_ NB311_316.out _; exact BK311.out⟩, ⟨(a5_ HB.out GE311.out GE316.out)⟩⟩
              ·
               rw [if_neg c16] at H; have c16b0 : decide (0 < (rd x4_3 x29_3)) = false := decide_eq_false c16; clear c16; have H' := Aside0.mk H; clear H; have p315 : 0 ≤ (x29_3 : Int) := d_; have q315 : x29_3 < (l0_1.length : Int) := d_; obtain ⟨ad315, A315_7, c315_7, e315, hx315_0, hx315_1, hx315_2, hx315_3, hx315_4, hx315_5, hx315_6, hx315_7, hx315_8, hl315_7, hi315_7⟩ := at_T61 HR0_1.out x29_3 p315 q315; cases e315; replace hx315_0 := ce_ HB.out hx315_0; replace hx315_1 := ce_ HB.out hx315_1; replace hx315_2 := ce_ HB.out hx315_2; replace hx315_3 := ce_ HB.out hx315_3; replace hx315_4 := ce_ HB.out hx315_4; replace hx315_5 := ce_ HB.out hx315_5; replace hx315_6 := ce_ HB.out hx315_6; replace hx315_7 := ce_ HB.out hx315_7; replace hx315_8 := ce_ HB.out hx315_8; have HR315_7 := Aside0.mk hi315_7; have HC315_7 := Aside0.mk hl315_7; clear hi315_7 hl315_7; replace p315 := eq_true p315; replace q315 := eq_true q315; go_wp2_with (first | ((with_reducible refine gate_dst (N := 8) rfl ?_); refine be_ 8 #[.int .i64 0, .int .i64 0, .int .i64 0, .int .i64 0, .int .i64 0, .int .i64 0, .string (⟨#[]⟩ : ByteArray), .slice none 0 0, .int .i64 0] 61 ?_; intro gb316 hg w21 hbox hb; have n0_ := Aside0.mk (Kd.R_below HO_4.out hb); have n1_ := Aside0.mk (blk_below BK311.out hb); have n2_ := Aside0.mk (below_step HB.out hb); have n3_ := Aside0.mk (hbox); have n4_ := Aside0.mk ((by rw [hg]; exact (below_size HB.out) : w.heap.size ≤ gb316)); have n5_ := n4_; have n6_ := Aside0.mk ((by rw [hg]; exact Nat.ne_of_lt (blk_lt BK311.out) : gb311 ≠ gb316)); have n7_ := Aside0.mk (Ne.symm n6_.out); clear HO_4; clear BK311; clear HB; have HO_4 := n0_; have BK311 := n1_; have HB := n2_; have BK316 := n3_; have GW316 := n4_; have GE316 := n5_; have NB311_316 := n6_; have NB316_311 := n7_; clear n0_ n1_ n2_ n3_ n4_ n5_ n6_ n7_; clear hb hbox hg; have hnb22 := NB316_311.out; have hnc22 := NB311_316.out; have hcz23_0 : w21.cell? ⟨gb316, 0, none⟩ = some (.int .i64 0) := (blk_cell BK316.out 0).trans rfl; have hcz23_1 : w21.cell? ⟨gb316, 1, none⟩ = some (.int .i64 0) := (blk_cell BK316.out 1).trans rfl; have hcz23_2 : w21.cell? ⟨gb316, 2, none⟩ = some (.int .i64 0) := (blk_cell BK316.out 2).trans rfl; have hcz23_3 : w21.cell? ⟨gb316, 3, none⟩ = some (.int .i64 0) := (blk_cell BK316.out 3).trans rfl; have hcz23_4 : w21.cell? ⟨gb316, 4, none⟩ = some (.int .i64 0) := (blk_cell BK316.out 4).trans rfl; have hcz23_5 : w21.cell? ⟨gb316, 5, none⟩ = some (.int .i64 0) := (blk_cell BK316.out 5).trans rfl; have hcz23_6 : w21.cell? ⟨gb316, 6, none⟩ = some (.string (⟨#[]⟩ : ByteArray)) := (blk_cell BK316.out 6).trans rfl; have hcz23_7 : w21.cell? ⟨gb316, 7, none⟩ = some (.slice none 0 0) := (blk_cell BK316.out 7).trans rfl; have hcz23_8 : w21.cell? ⟨gb316, 8, none⟩ = some (.int .i64 0) := (blk_cell BK316.out 8).trans rfl; have hfz23_0 := blk_frozen BK316.out 0; have hfz23_1 := blk_frozen BK316.out 1; have hfz23_2 := blk_frozen BK316.out 2; have hfz23_3 := blk_frozen BK316.out 3; have hfz23_4 := blk_frozen BK316.out 4; have hfz23_5 := blk_frozen BK316.out 5; have hfz23_6 := blk_frozen BK316.out 6; have hfz23_7 := blk_frozen BK316.out 7; have hfz23_8 := blk_frozen BK316.out 8; obtain ⟨Ao24, co24, eo24⟩ := Kd.R_slice HO_4.out; subst eo24; have p317 : 0 ≤ (x29_3 : Int) := d_; have q317 : x29_3 < (x4_3.length : Int) := d_; obtain ⟨ad317, e317, hx317_0⟩ := Kd.at_int (Kd.R_reads' HO_4.out).2.2 x29_3 p317 q317; cases e317; have hn317_0 : ad317.block ≠ gb316 := Kd.own_blk (Kd.R_ne HO_4.out BK316.out (by decide)); have hn317_1 : ad317.block ≠ gb316 := Kd.own_blk (Kd.R_ne HO_4.out BK316.out (by decide)); have hn317_2 : ad317.block ≠ gb316 := Kd.own_blk (Kd.R_ne HO_4.out BK316.out (by decide)); have hn317_3 : ad317.block ≠ gb316 := Kd.own_blk (Kd.R_ne HO_4.out BK316.out (by decide)); have hn317_4 : ad317.block ≠ gb316 := Kd.own_blk (Kd.R_ne HO_4.out BK316.out (by decide)); have hn317_5 : ad317.block ≠ gb316 := Kd.own_blk (Kd.R_ne HO_4.out BK316.out (by decide)); have hn317_6 : ad317.block ≠ gb316 := Kd.own_blk (Kd.R_ne HO_4.out BK316.out (by decide)); have hn317_7 : ad317.block ≠ gb316 := Kd.own_blk (Kd.R_ne HO_4.out BK316.out (by decide)); have hn317_8 : ad317.block ≠ gb316 := Kd.own_blk (Kd.R_ne HO_4.out BK316.out (by decide)); replace hx317_0 := (cell_far (p := ⟨gb316, 0, none⟩) (by first | (rw [add_block]; exact hn317_0) | (show (Addr.add _ _).block ≠ _; rw [add_block]; exact hn317_0) | exact hn317_0) (.int .i64 ((rd_T61 l0_1 x29_3).f0))).trans hx317_0; replace hx317_0 := (cell_far (p := ⟨gb316, 1, none⟩) (by first | (rw [add_block]; exact hn317_1) | (show (Addr.add _ _).block ≠ _; rw [add_block]; exact hn317_1) | exact hn317_1) (.int .i64 ((rd_T61 l0_1 x29_3).f1))).trans hx317_0; replace hx317_0 := (cell_far (p := ⟨gb316, 2, none⟩) (by first | (rw [add_block]; exact hn317_2) | (show (Addr.add _ _).block ≠ _; rw [add_block]; exact hn317_2) | exact hn317_2) (.int .i64 ((rd_T61 l0_1 x29_3).f2))).trans hx317_0; replace hx317_0 := (cell_far (p := ⟨gb316, 3, none⟩) (by first | (rw [add_block]; exact hn317_3) | (show (Addr.add _ _).block ≠ _; rw [add_block]; exact hn317_3) | exact hn317_3) (.int .i64 ((rd_T61 l0_1 x29_3).f3))).trans hx317_0; replace hx317_0 := (cell_far (p := ⟨gb316, 4, none⟩) (by first | (rw [add_block]; exact hn317_4) | (show (Addr.add _ _).block ≠ _; rw [add_block]; exact hn317_4) | exact hn317_4) (.int .i64 ((rd_T61 l0_1 x29_3).f4))).trans hx317_0; replace hx317_0 := (cell_far (p := ⟨gb316, 5, none⟩) (by first | (rw [add_block]; exact hn317_5) | (show (Addr.add _ _).block ≠ _; rw [add_block]; exact hn317_5) | exact hn317_5) (.int .i64 ((rd_T61 l0_1 x29_3).f5))).trans hx317_0; replace hx317_0 := (cell_far (p := ⟨gb316, 6, none⟩) (by first | (rw [add_block]; exact hn317_6) | (show (Addr.add _ _).block ≠ _; rw [add_block]; exact hn317_6) | exact hn317_6) (.string ((rd_T61 l0_1 x29_3).f6))).trans hx317_0; replace hx317_0 := (cell_far (p := ⟨gb316, 7, none⟩) (by first | (rw [add_block]; exact hn317_7) | (show (Addr.add _ _).block ≠ _; rw [add_block]; exact hn317_7) | exact hn317_7) (.slice A315_7 ((rd_T61 l0_1 x29_3).f7).length c315_7)).trans hx317_0; replace hx317_0 := (cell_far (p := ⟨gb316, 8, none⟩) (by first | (rw [add_block]; exact hn317_8) | (show (Addr.add _ _).block ≠ _; rw [add_block]; exact hn317_8) | exact hn317_8) (.int .i64 ((rd_T61 l0_1 x29_3).f8))).trans hx317_0; clear hn317_0; clear hn317_1; clear hn317_2; clear hn317_3; clear hn317_4; clear hn317_5; clear hn317_6; clear hn317_7; clear hn317_8; replace p317 := eq_true p317; replace q317 := eq_true q317))
               go_loopg [9, 42] k3 (fun kq v9 v42 w' => ∃ (x9_4 : Int) (x42_4 : Int), v9 = .int .i64 x9_4 ∧ v42 = .int .i64 x42_4 ∧ Aside0 (impl_Graph_depths.l2 kq x4_3 x5_3 x6_3 x29_3 x9_4 l0_1 (l0_1.length : Int) x29_3 ((rd_T61 l0_1 x29_3).f7) (((rd_T61 l0_1 x29_3).f7).length : Int) x42_4 a0_0 l0_1 l0_2 = some (r1, r2)) ∧ Aside0 (kq ≤ k3) ∧ Aside0 (Kd.R (Kd.int .i64) 2 w' w.heap.size (fun _ => True) (.slice (some ad317) x4_3.length co24) x4_3) ∧ Aside0 (w'.heap[gb311]? = some (.cells #[.int .i64 a0_0, (.slice (some ad315) l0_1.length c0_1), (.slice A0_2 l0_2.length c0_2)] 31 (0, 0))) ∧ Aside0 (w'.heap[gb316]? = some (.cells #[.int .i64 ((rd_T61 l0_1 x29_3).f0), .int .i64 ((rd_T61 l0_1 x29_3).f1), .int .i64 ((rd_T61 l0_1 x29_3).f2), .int .i64 ((rd_T61 l0_1 x29_3).f3), .int .i64 ((rd_T61 l0_1 x29_3).f4), .int .i64 ((rd_T61 l0_1 x29_3).f5), .string ((rd_T61 l0_1 x29_3).f6), (.slice A315_7 ((rd_T61 l0_1 x29_3).f7).length c315_7), .int .i64 ((rd_T61 l0_1 x29_3).f8)] 61 (0, 0))) ∧ Aside0 (Below w.heap.size w w'))
               case atStart => exact ⟨(1), (0), (by first | rfl | (simp; done) | (simp [*]; done)), (by first | rfl | (simp; done) | (simp [*]; done)), H', ⟨Nat.le_refl _⟩, ⟨by (with_reducible repeat (first | apply Kd.R_alloc | apply Kd.R_drewN | apply Kd.R_drew)); exact Kd.R_mono (Kd.R_far (p := ⟨gb316, 8, none⟩) (Kd.R_far (p := ⟨gb316, 7, none⟩) (Kd.R_far (p := ⟨gb316, 6, none⟩) (Kd.R_far (p := ⟨gb316, 5, none⟩) (Kd.R_far (p := ⟨gb316, 4, none⟩) (Kd.R_far (p := ⟨gb316, 3, none⟩) (Kd.R_far (p := ⟨gb316, 2, none⟩) (Kd.R_far (p := ⟨gb316, 1, none⟩) (Kd.R_far (p := ⟨gb316, 0, none⟩) (Kd.R_types HO_4.out BK316.out (by decide)) (fun _ hk => hk.2) (.int .i64 ((rd_T61 l0_1 x29_3).f0))) (fun _ hk => hk.2) (.int .i64 ((rd_T61 l0_1 x29_3).f1))) (fun _ hk => hk.2) (.int .i64 ((rd_T61 l0_1 x29_3).f2))) (fun _ hk => hk.2) (.int .i64 ((rd_T61 l0_1 x29_3).f3))) (fun _ hk => hk.2) (.int .i64 ((rd_T61 l0_1 x29_3).f4))) (fun _ hk => hk.2) (.int .i64 ((rd_T61 l0_1 x29_3).f5))) (fun _ hk => hk.2) (.string ((rd_T61 l0_1 x29_3).f6))) (fun _ hk => hk.2) (.slice A315_7 ((rd_T61 l0_1 x29_3).f7).length c315_7)) (fun _ hk => hk.2) (.int .i64 ((rd_T61 l0_1 x29_3).f8))) (fun _ hk => trivial)⟩, ⟨by refine blk_far ?_ NB311_316.out _; refine blk_far ?_ NB311_316.out _; refine blk_far ?_ NB311_316.out _; refine blk_far ?_ NB311_316.out _; refine blk_far ?_ NB311_316.out _; refine blk_far ?_ NB311_316.out _; refine blk_far ?_ NB311_316.out _; refine blk_far ?_ NB311_316.out _; refine blk_far ?_ NB311_316.out _; exact BK311.out⟩, ⟨by refine bp9_ (c0 := .int .i64 0) (c1 := .int .i64 0) (c2 := .int .i64 0) (c3 := .int .i64 0) (c4 := .int .i64 0) (c5 := .int .i64 0) (c6 := .string (⟨#[]⟩ : ByteArray)) (c7 := .slice none 0 0) (c8 := .int .i64 0) ?_; exact BK316.out⟩, ⟨(a5_ HB.out GE311.out GE316.out)⟩⟩
               case round =>
                clear H'; try clear c1
                try clear c2
                try clear c2b0
                try clear c2b1
                try clear p2
                try clear c3
                try clear c3b0
                try clear c3b1
                try clear p3
                try clear q3
                try clear hx3
                try clear c5
                try clear p6
                try clear c9
                try clear c10
                try clear c12
                try clear c12b0
                try clear c13
                try clear c13b0
                try clear c14
                try clear c14b0
                try clear c15
                try clear c15b0
                try clear c16
                try clear c16b0
                try clear c18
                try clear c22
                try clear hcz11_0
                try clear hcz11_1
                try clear hcz11_2
                try clear hcz19_0
                try clear hcz19_1
                try clear hcz19_2
                try clear hcz19_3
                try clear hcz19_4
                try clear hcz19_5
                try clear hcz19_6
                try clear hcz19_7
                try clear hcz19_8
                try clear hcz23_0
                try clear hcz23_1
                try clear hcz23_2
                try clear hcz23_3
                try clear hcz23_4
                try clear hcz23_5
                try clear hcz23_6
                try clear hcz23_7
                try clear hcz23_8
                try clear hfz11_0
                try clear hfz11_1
                try clear hfz11_2
                try clear hfz19_0
                try clear hfz19_1
                try clear hfz19_2
                try clear hfz19_3
                try clear hfz19_4
                try clear hfz19_5
                try clear hfz19_6
                try clear hfz19_7
                try clear hfz19_8
                try clear hfz23_0
                try clear hfz23_1
                try clear hfz23_2
                try clear hfz23_3
                try clear hfz23_4
                try clear hfz23_5
                try clear hfz23_6
                try clear hfz23_7
                try clear hfz23_8
                try clear hx315_0
                try clear hx315_1
                try clear hx315_2
                try clear hx315_3
                try clear hx315_4
                try clear hx315_5
                try clear hx315_6
                try clear hx315_7
                try clear hx315_8
                try clear hx317_0
                try clear p2
                try clear p315
                try clear p317
                try clear q315
                try clear q317
                obtain ⟨x9_4, x42_4, rfl, rfl, HA, HK4, HO_4, BK311, BK316, HB⟩ := hrel
                cases gk with
                | zero => exact absurd HA.out (by simp [impl_Graph_depths.l2])
                | succ k4 =>
                 have H := HA.out; clear HA; simp only [impl_Graph_depths.l2] at H; by_cases c25 : x42_4 < (((rd_T61 l0_1 x29_3).f7).length : Int)
                 ·
                  rw [if_pos c25] at H; have c25b0 : decide (x42_4 < (((rd_T61 l0_1 x29_3).f7).length : Int)) = true := decide_eq_true c25; clear c25; by_cases c26 : 0 ≤ x42_4
                  ·
                   rw [if_pos c26] at H; have c26b0 : decide (0 ≤ x42_4) = true := decide_eq_true c26; clear c26; by_cases c27 : x42_4 < (((rd_T61 l0_1 x29_3).f7).length : Int)
                   ·
                    rw [if_pos c27] at H; have c27b0 : decide (x42_4 < (((rd_T61 l0_1 x29_3).f7).length : Int)) = true := decide_eq_true c27; clear c27; replace H := Option.bind_eq_some_iff.mp H; obtain ⟨⟨t319, t320⟩, A280, H⟩ := H; replace H : (if 0 ≤ t319 then (if t319 < (x4_3.length : Int) then (if (rd x4_3 t319) = 0 then (if 0 > 0 then (if 0 ≤ x29_3 then (if x29_3 < (x4_3.length : Int) then (impl_Graph_depths.l1 k4 (x4_3.set (x29_3 : Int).toNat 0) (wrap64 (x5_3 - 1)) true l0_1 (l0_1.length : Int) (wrap64 (x29_3 + 1)) a0_0 l0_1 l0_2) else (none)) else (none)) else (impl_Graph_depths.l1 k4 x4_3 x5_3 x6_3 l0_1 (l0_1.length : Int) (wrap64 (x29_3 + 1)) a0_0 l0_1 l0_2)) else (impl_Graph_depths.l2 k4 x4_3 x5_3 x6_3 x29_3 (mx x9_4 (wrap64 ((rd x4_3 t319) + 1))) l0_1 (l0_1.length : Int) x29_3 ((rd_T61 l0_1 x29_3).f7) (((rd_T61 l0_1 x29_3).f7).length : Int) (wrap64 (x42_4 + 1)) a0_0 l0_1 l0_2)) else (none)) else (none)) = some (r1, r2) := H; have A28 := Aside0.mk A280; clear A280; by_cases c29 : 0 ≤ t319
                    ·
                     rw [if_pos c29] at H; have c29b0 : decide (0 ≤ t319) = true := decide_eq_true c29; clear c29; by_cases c30 : t319 < (x4_3.length : Int)
                     ·
                      rw [if_pos c30] at H; have c30b0 : decide (t319 < (x4_3.length : Int)) = true := decide_eq_true c30; clear c30; by_cases c31 : (rd x4_3 t319) = 0
                      ·
                       rw [if_pos c31] at H; have c31b0 : ((rd x4_3 t319) == 0) = true := beq_iff_eq.mpr c31; have c31b1 : ((rd x4_3 t319) != 0) = false := bne_eq_false_iff_eq.mpr c31; clear c31; by_cases c32 : 0 > 0
                       · exact absurd c32 (by decide)
                       ·
                        rw [if_neg c32] at H; have c32b0 : decide (0 < 0) = false := decide_eq_false c32; clear c32; have H' := Aside0.mk H; clear H; have p318 : 0 ≤ (x42_4 : Int) := d_; have q318 : x42_4 < (((rd_T61 l0_1 x29_3).f7).length : Int) := d_; obtain ⟨ad318, e318, hx318_0⟩ := Kd.at_int HR315_7.out x42_4 p318 q318; cases e318; replace hx318_0 := ce_ HB.out hx318_0; replace p318 := eq_true p318; replace q318 := eq_true q318; have hnb41 := NB311_316.out; have hnc41 := NB316_311.out; have hcz42_0 : wr.cell? ⟨gb311, 0, none⟩ = some (.int .i64 a0_0) := (blk_cell BK311.out 0).trans rfl; have hcz42_1 : wr.cell? ⟨gb311, 1, none⟩ = some (.slice (some ad315) l0_1.length c0_1) := (blk_cell BK311.out 1).trans rfl; have hcz42_2 : wr.cell? ⟨gb311, 2, none⟩ = some (.slice A0_2 l0_2.length c0_2) := (blk_cell BK311.out 2).trans rfl; have hfz42_0 := blk_frozen BK311.out 0; have hfz42_1 := blk_frozen BK311.out 1; have hfz42_2 := blk_frozen BK311.out 2; go_wp2_with (first | ((with_reducible refine gate_callee (f := 68) rfl ?_); refine gl_ (some 50) Try.func68 #[.slice (some ad315) l0_1.length c0_1, .int .i64 (rd ((rd_T61 l0_1 x29_3).f7) x42_4)] ?_; (with_reducible refine (impl_find.calls k4 _ _ l0_1 (rd ((rd_T61 l0_1 x29_3).f7) x42_4) t319 t320 _ ?side1 ?side2 A28.out).mono ?_); (case side1 => exact (cb_ HR0_1.out HB.out)); (case side2 => exact HC0_1.out); rintro e w43 ⟨rfl, hb⟩; refine ⟨_, rfl, ?_⟩; have n0_ := Aside0.mk (Kd.R_below HO_4.out hb); have n1_ := Aside0.mk (blk_below BK311.out hb); have n2_ := Aside0.mk (blk_below BK316.out hb); have n3_ := Aside0.mk (below_step HB.out hb); clear HO_4; clear BK311; clear BK316; clear HB; have HO_4 := n0_; have BK311 := n1_; have BK316 := n2_; have HB := n3_; clear n0_ n1_ n2_ n3_; (try clear hb); (try clear hb2); (try clear hk); (try clear hi); have p321 : 0 ≤ (t319 : Int) := d_; have q321 : t319 < (x4_3.length : Int) := d_; obtain ⟨ad321, e321, hx321_0⟩ := Kd.at_int (Kd.R_reads' HO_4.out).2.2 t319 p321 q321; obtain rfl : ad317 = ad321 := (by injection e321); replace p321 := eq_true p321; replace q321 := eq_true q321))
                        go_roundg k4
                        case measure => have := HK1.out; have := HJ7.out; have := HK3.out; have := HK4.out; omega
                        case rel => exact ⟨(x4_3), (x5_3), (x6_3), (wrap64 (x29_3 + 1)), (by first | rfl | (simp; done) | (simp [*]; done)), (by first | rfl | (simp; done) | (simp [*]; done)), (by first | rfl | (simp; done) | (simp [*]; done)), H', ⟨by have := HK1.out; have := HJ7.out; have := HK3.out; have := HK4.out; omega⟩, ⟨(a7_ HO_4.out)⟩, ⟨by exact BK311.out⟩, ⟨(a5_ HB.out GE311.out GE316.out)⟩⟩
                      ·
                       rw [if_neg c31] at H; have c31b0 : ((rd x4_3 t319) == 0) = false := beq_eq_false_iff_ne.mpr c31; have c31b1 : ((rd x4_3 t319) != 0) = true := bne_iff_ne.mpr c31; obtain ⟨ji44, hji44⟩ : ∃ j_ : Int, (mx x9_4 (wrap64 ((rd x4_3 t319) + 1))) = j_ := ⟨_, rfl⟩; replace H : (impl_Graph_depths.l2 k4 x4_3 x5_3 x6_3 x29_3 ji44 l0_1 (l0_1.length : Int) x29_3 ((rd_T61 l0_1 x29_3).f7) (((rd_T61 l0_1 x29_3).f7).length : Int) (wrap64 (x42_4 + 1)) a0_0 l0_1 l0_2) = some (r1, r2) := by first | (rw [hji44] at H; exact H) | (simp only [hji44] at H ⊢; exact H)
                       (try rw [hji44] at A28)
                       have hji44_ : (if x9_4 < (wrap64 ((rd x4_3 t319) + 1)) then (wrap64 ((rd x4_3 t319) + 1)) else x9_4) = ji44 := hji44; have H' := Aside0.mk H; clear H; have p318 : 0 ≤ (x42_4 : Int) := d_; have q318 : x42_4 < (((rd_T61 l0_1 x29_3).f7).length : Int) := d_; obtain ⟨ad318, e318, hx318_0⟩ := Kd.at_int HR315_7.out x42_4 p318 q318; cases e318; replace hx318_0 := ce_ HB.out hx318_0; replace p318 := eq_true p318; replace q318 := eq_true q318; have hnb45 := NB311_316.out; have hnc45 := NB316_311.out; have hcz46_0 : wr.cell? ⟨gb311, 0, none⟩ = some (.int .i64 a0_0) := (blk_cell BK311.out 0).trans rfl; have hcz46_1 : wr.cell? ⟨gb311, 1, none⟩ = some (.slice (some ad315) l0_1.length c0_1) := (blk_cell BK311.out 1).trans rfl; have hcz46_2 : wr.cell? ⟨gb311, 2, none⟩ = some (.slice A0_2 l0_2.length c0_2) := (blk_cell BK311.out 2).trans rfl; have hfz46_0 := blk_frozen BK311.out 0; have hfz46_1 := blk_frozen BK311.out 1; have hfz46_2 := blk_frozen BK311.out 2; go_wp2_with (first | ((with_reducible refine gate_callee (f := 68) rfl ?_); refine gl_ (some 50) Try.func68 #[.slice (some ad315) l0_1.length c0_1, .int .i64 (rd ((rd_T61 l0_1 x29_3).f7) x42_4)] ?_; (with_reducible refine (impl_find.calls k4 _ _ l0_1 (rd ((rd_T61 l0_1 x29_3).f7) x42_4) t319 t320 _ ?side1 ?side2 A28.out).mono ?_); (case side1 => exact (cb_ HR0_1.out HB.out)); (case side2 => exact HC0_1.out); rintro e w47 ⟨rfl, hb⟩; refine ⟨_, rfl, ?_⟩; have n0_ := Aside0.mk (Kd.R_below HO_4.out hb); have n1_ := Aside0.mk (blk_below BK311.out hb); have n2_ := Aside0.mk (blk_below BK316.out hb); have n3_ := Aside0.mk (below_step HB.out hb); clear HO_4; clear BK311; clear BK316; clear HB; have HO_4 := n0_; have BK311 := n1_; have BK316 := n2_; have HB := n3_; clear n0_ n1_ n2_ n3_; (try clear hb); (try clear hb2); (try clear hk); (try clear hi); have p321 : 0 ≤ (t319 : Int) := d_; have q321 : t319 < (x4_3.length : Int) := d_; obtain ⟨ad321, e321, hx321_0⟩ := Kd.at_int (Kd.R_reads' HO_4.out).2.2 t319 p321 q321; obtain rfl : ad317 = ad321 := (by injection e321); replace p321 := eq_true p321; replace q321 := eq_true q321; have p323 : 0 ≤ (t319 : Int) := d_; have q323 : t319 < (x4_3.length : Int) := d_; obtain ⟨ad323, e323, hx323_0⟩ := Kd.at_int (Kd.R_reads' HO_4.out).2.2 t319 p323 q323; obtain rfl : ad317 = ad323 := (by injection e323); replace p323 := eq_true p323; replace q323 := eq_true q323))
                       go_roundg k4
                       case measure => have := HK1.out; have := HJ7.out; have := HK3.out; have := HK4.out; omega
                       case rel => exact ⟨(ji44), (wrap64 (x42_4 + 1)), (by first | rfl | (simp; done) | (simp only [← hji44] <;> (first | rfl | simp)) | (simp [*]; done)), (by first | rfl | (simp; done) | (simp [*]; done)), H', ⟨by have := HK1.out; have := HJ7.out; have := HK3.out; have := HK4.out; omega⟩, ⟨(a7_ HO_4.out)⟩, ⟨by exact BK311.out⟩, ⟨by exact BK316.out⟩, ⟨(a5_ HB.out GE311.out GE316.out)⟩⟩
                     ·
                      rw [if_neg c30] at H; exact absurd H (by simp)
                    ·
                     rw [if_neg c29] at H; exact absurd H (by simp)
                   ·
                    rw [if_neg c27] at H; exact absurd H (by simp)
                  ·
                   rw [if_neg c26] at H; exact absurd H (by simp)
                 ·
                  rw [if_neg c25] at H; have c25b0 : decide (x42_4 < (((rd_T61 l0_1 x29_3).f7).length : Int)) = false := decide_eq_false c25; clear c25; by_cases c48 : x9_4 > 0
                  ·
                   rw [if_pos c48] at H; have c48b0 : decide (0 < x9_4) = true := decide_eq_true c48; clear c48; by_cases c49 : 0 ≤ x29_3
                   ·
                    rw [if_pos c49] at H; have c49b0 : decide (0 ≤ x29_3) = true := decide_eq_true c49; clear c49; by_cases c50 : x29_3 < (x4_3.length : Int)
                    ·
                     rw [if_pos c50] at H; have c50b0 : decide (x29_3 < (x4_3.length : Int)) = true := decide_eq_true c50; clear c50; obtain ⟨y324, hy324⟩ : ∃ y_ : List Int, y_ = (x4_3.set (x29_3 : Int).toNat x9_4) := ⟨_, rfl⟩; replace H : (impl_Graph_depths.l1 k4 y324 (wrap64 (x5_3 - 1)) true l0_1 (l0_1.length : Int) (wrap64 (x29_3 + 1)) a0_0 l0_1 l0_2) = some (r1, r2) := by first | (rw [hy324]; with_reducible exact H) | (have H2_ := (Option.bind_some _ _).symm.trans H; rw [hy324]; with_reducible exact H2_) | (have H2_ := (Option.bind_some _ _).symm.trans H; with_reducible exact H2_) | with_reducible exact H | (rw [hy324]; exact H) | exact H
                     have Ny324 := Aside0.mk hy324; clear hy324; have H' := Aside0.mk H; clear H; have p51 : 0 ≤ (x29_3 : Int) := d_; have q51 : (x29_3 : Int) < ((x4_3.length : Int) : Int) := d_; obtain ⟨go51, co51, eo51, gb51, gl51, cl51, HG51⟩ := Kd.R_form HO_4.out (by omega); (first | cases eo51 | (injection eo51 with ea_ en_ ec_; (first | subst ea_ | (injection ea_ with ea_; subst ea_)); subst ec_; clear en_))
                     have GB51 := Aside0.mk gb51; have GG51 := Aside0.mk HG51; clear gb51 gl51 HG51; (first | simp only [add_plain] at hx321_0 | skip)
                     (first | simp only [add_plain] at hx323_0 | skip)
                     obtain ⟨hx51_0, hf51_0⟩ := Kd.R_celln 0 HO_4.out (x29_3 : Int) p51 q51; replace p51 := eq_true p51; replace q51 := eq_true q51; have HP52 := Kd.R_putg HO_4.out (x29_3 : Int) x9_4; go_wp2_with (first | ((with_reducible refine gate_store (t := 2) (p := 73) rfl ?_); refine store_event (t := 2) (p := 73) (v := ?vo_w53) (w1 := (wr.setCell ⟨go51, (x29_3 : Int).toNat, none⟩ (.int .i64 x9_4))) ?hg ?ho ?hn ?hr ?_; (case ho => rfl); (case hg => rfl); (case hn => rfl); (case hr => first | (go_simp; done) | (go_simp; rfl)); intro w53 hw; have hg : wr.grownBy w53 (some go51) := (by rw [hw]; exact HP52.2); have hp_ : Kd.R (Kd.int .i64) 2 w53 w.heap.size (fun _ => True) (.slice (some ⟨go51, 0, none⟩) x4_3.length co24) y324 := (by rw [hw, Ny324.out]; exact HP52.1); clear HP52; have n0_ := Aside0.mk (hp_); have n1_ := Aside0.mk (blk_grown BK311.out hg (Kd.R_ne HO_4.out BK311.out (by decide))); have n2_ := Aside0.mk (blk_grown BK316.out hg (Kd.R_ne HO_4.out BK316.out (by decide))); have n3_ := Aside0.mk ((by rw [hw]; exact below_set (HB.out) GB51.out : Below w.heap.size w w53)); clear HO_4; clear BK311; clear BK316; clear HB; have HO_4 := n0_; have BK311 := n1_; have BK316 := n2_; have HB := n3_; clear n0_ n1_ n2_ n3_; clear hg hw hp_))
                     go_roundg k4
                     case measure => have := HK1.out; have := HJ7.out; have := HK3.out; have := HK4.out; omega
                     case rel => exact ⟨(y324), (wrap64 (x5_3 - 1)), (true), (wrap64 (x29_3 + 1)), (by first | rfl | (simp; done) | (simp [*]; done)), (by first | rfl | (simp; done) | (simp [*]; done)), (by first | rfl | (simp; done) | (simp [*]; done)), H', ⟨by have := HK1.out; have := HJ7.out; have := HK3.out; have := HK4.out; omega⟩, ⟨(a7_ HO_4.out)⟩, ⟨by exact BK311.out⟩, ⟨(a5_ HB.out GE311.out GE316.out)⟩⟩
                    ·
                     rw [if_neg c50] at H; exact absurd H (by simp)
                   ·
                    rw [if_neg c49] at H; exact absurd H (by simp)
                  ·
                   rw [if_neg c48] at H; have c48b0 : decide (0 < x9_4) = false := decide_eq_false c48; clear c48; have H' := Aside0.mk H; clear H; go_wp2
                   go_roundg k4
                   case measure => have := HK1.out; have := HJ7.out; have := HK3.out; have := HK4.out; omega
                   case rel => exact ⟨(x4_3), (x5_3), (x6_3), (wrap64 (x29_3 + 1)), (by first | rfl | (simp; done) | (simp [*]; done)), (by first | rfl | (simp; done) | (simp [*]; done)), (by first | rfl | (simp; done) | (simp [*]; done)), H', ⟨by have := HK1.out; have := HJ7.out; have := HK3.out; have := HK4.out; omega⟩, ⟨(a7_ HO_4.out)⟩, ⟨by exact BK311.out⟩, ⟨(a5_ HB.out GE311.out GE316.out)⟩⟩
             ·
              rw [if_neg c15] at H; exact absurd H (by simp)
            ·
             rw [if_neg c14] at H; exact absurd H (by simp)
           ·
            rw [if_neg c13] at H; exact absurd H (by simp)
          ·
           rw [if_neg c12] at H; have c12b0 : decide (x29_3 < (l0_1.length : Int)) = false := decide_eq_false c12; clear c12; have H' := Aside0.mk H; clear H; go_wp2
           go_roundg k3
           case measure => have := HK1.out; have := HJ7.out; have := HK3.out; omega
           case rel => exact ⟨(x4_3), (x5_3), (x6_3), (by first | rfl | (simp; done) | (simp [*]; done)), (by first | rfl | (simp; done) | (simp [*]; done)), H', ⟨by have := HK1.out; have := HJ7.out; have := HK3.out; omega⟩, ⟨(a7_ HO_4.out)⟩, ⟨by exact BK311.out⟩, ⟨(a3_ HB.out GE311.out)⟩⟩
       ·
        replace c10 := Bool.eq_false_iff.mpr c10; subst c10; have H1 : (some (x4_1, (x5_1 == 0))) = some (r1, r2) := by rw [if_neg (show ¬ (false = true) by decide)] at H; exact H
        clear H; have H := H1; clear H1; simp only [Option.some.injEq, Prod.mk.injEq] at H; obtain ⟨rfl, rfl⟩ := H; go_wp2
        go_ret2
        exact ⟨_, a2_, (a7_ HO_4.out), (a3_ HB.out GE311.out)⟩
  ·
   rw [if_neg c3] at H; exact absurd H (by simp)
 ·
  rw [if_neg c2] at H; exact absurd H (by simp)

end Go.Proofs.Ytpkeddplfnannaa.Print
