-- Printed by wip/myprint.py over the kit's print, in this session's own call.
import Derived.Test.YtkhidbahbcfkbaaPrint0
import Derived.Test.YtkhidbahbcfkbaaPrint1
import Derived.Test.YtkhidbahbcfkbaaPrint2
import Derived.Test.YtkhidbahbcfkbaaPrint9
import Derived.Test.YtkhidbahbcfkbaaPrint11
import Derived.Test.YtkhidbahbcfkbaaPrint12
import Derived.Test.YtkhidbahbcfkbaaPrint13
namespace Go.Proofs.Ytkhidbahbcfkbaa.Print
open Go.RowKit Go.Proofs.YtkhidbahbcfkbaaW.PrintWords Go.Proofs.YtkhidbahbcfkbaaW.PrintLast Go.Proofs.YtkhidbahbcfkbaaW.PrintMore
attribute [local go_sem] max2_int min2_int max_two min_two max_three min_three max_four min_four   -- for this text's walks alone
set_option linter.unusedVariables false
set_option linter.unusedSimpArgs false

/-! ### impl_GraphRight: function 9 -/
def impl_GraphRight.q1 (k : Nat) (g0 : Int) (g1 g2 : List S43) (x : S43) : Option Bool := (impl_Graph_complete.f k g0 g1 g2 x.f7).bind fun b => some (!b)
def impl_GraphRight.q2 (k : Nat) (g0 : Int) (g1 g2 : List S43) (x : S43) : Option Bool := (impl_Graph_has.f k g0 g1 g2 x.f0).bind fun b => if b = true then some true else impl_Graph_complete.f k g0 g1 g2 x.f7
def impl_GraphRight.j0 (k : Nat) (g0 : Int) (g1 g2 : List S43) : Option Bool := (anyQ (impl_GraphRight.q1 k g0 g1 g2) g1).bind fun b => if b = true then some false else ((anyQ (impl_GraphRight.q2 k g0 g1 g2) g2).bind fun c => if c = true then some false else ((impl_Graph_depths.f k g0 g1 g2).bind fun d => some d.2))
def impl_GraphRight.f (k : Nat) (g0 : Int) (g1 g2 : List S43) : Option Bool := (impl_isRoom.f g0).bind fun b => if b = true then (if 60 < g1.length then some false else (if 20 < g2.length then some false else ((impl_Graph_areRight.f k g0 g1 g2 g1).bind fun c => if c = true then ((impl_Graph_areRight.f k g0 g1 g2 g2).bind fun d => if d = true then impl_GraphRight.j0 k g0 g1 g2 else some false) else some false))) else some false
theorem impl_GraphRight.mono : ∀ g0 g1 g2 k, LeO (impl_GraphRight.f k g0 g1 g2) (impl_GraphRight.f (k + 1) g0 g1 g2) := by
  intro g0 g1 g2 k
  have m1 : LeO (anyQ (impl_GraphRight.q1 k g0 g1 g2) g1) (anyQ (impl_GraphRight.q1 (k + 1) g0 g1 g2) g1) := anyQ_mono (fun x => LeO.bind (impl_Graph_complete.mono _ _ _ _ _) (fun _ => LeO.refl _)) _
  have m2 : LeO (anyQ (impl_GraphRight.q2 k g0 g1 g2) g2) (anyQ (impl_GraphRight.q2 (k + 1) g0 g1 g2) g2) := anyQ_mono (fun x => LeO.bind (impl_Graph_has.mono _ _ _ _ _) (fun _ => LeO.ite (LeO.refl _) (impl_Graph_complete.mono _ _ _ _ _))) _
  have m0 : LeO (impl_GraphRight.j0 k g0 g1 g2) (impl_GraphRight.j0 (k + 1) g0 g1 g2) := LeO.bind m1 (fun _ => LeO.ite (LeO.refl _) (LeO.bind m2 (fun _ => LeO.ite (LeO.refl _) (LeO.bind (impl_Graph_depths.mono _ _ _ _) (fun _ => LeO.refl _)))))
  exact LeO.bind (LeO.refl _) (fun _ => LeO.ite (LeO.ite (LeO.refl _) (LeO.ite (LeO.refl _) (LeO.bind (impl_Graph_areRight.mono _ _ _ _ _) (fun _ => LeO.ite (LeO.bind (impl_Graph_areRight.mono _ _ _ _ _) (fun _ => LeO.ite m0 (LeO.refl _))) (LeO.refl _))))) (LeO.refl _))
set_option maxHeartbeats 4000000 in
set_option maxRecDepth 100000 in
theorem impl_GraphRight.closure1 (k : Nat) (g0 : Int) (A1 : Option Addr) (c1 : Nat) (g1 : List S43) (A2 : Option Addr) (c2 : Nat) (g2 : List S43) (x : S43) (A7 : Option Addr) (c7 : Nat) (b : Bool) (B : Nat) (w : World) (hr1 : Kd.C k43 w A1 g1.length g1) (hc1 : g1.length ≤ c1) (hr2 : Kd.C k43 w A2 g2.length g2) (hc2 : g2.length ≤ c2) (hr7 : Kd.C (Kd.int .i64) w A7 x.f7.length x.f7) (hc7 : x.f7.length ≤ c7)
    (x0 : w.cell? ⟨B, 0, none⟩ = some (.int .i64 g0)) (x1 : w.cell? ⟨B, 1, none⟩ = some (.slice A1 g1.length c1)) (x2 : w.cell? ⟨B, 2, none⟩ = some (.slice A2 g2.length c2)) (h : impl_GraphRight.q1 k g0 g1 g2 x = some b) :
    Calls Try.prog 25 #[.agg #[.int .i64 x.f0, .int .i64 x.f1, .int .i64 x.f2, .int .i64 x.f3, .int .i64 x.f4, .int .i64 x.f5, .string x.f6, .slice A7 x.f7.length c7, .int .i64 x.f8], .pointer (some ⟨B, 0, none⟩)] w fun e w' => e = .returned (.bool b) ∧ Below w.heap.size w w' := by
  have HB := Aside0.mk (Below.refl w.heap.size w)
  have HR1 := Aside0.mk hr1
  have HR2 := Aside0.mk hr2
  have HR7 := Aside0.mk hr7
  have HC1 := Aside0.mk hc1
  have HC2 := Aside0.mk hc2
  have HC7 := Aside0.mk hc7
  replace x0 := (World.cell?_alloc_lt w (.cells #[.int .i64 x.f0, .int .i64 x.f1, .int .i64 x.f2, .int .i64 x.f3, .int .i64 x.f4, .int .i64 x.f5, .string x.f6, .slice A7 x.f7.length c7, .int .i64 x.f8] 43) ⟨B, 0, none⟩ (World.block_lt_of_cell? _ _ x0)).trans x0
  replace x1 := (World.cell?_alloc_lt w (.cells #[.int .i64 x.f0, .int .i64 x.f1, .int .i64 x.f2, .int .i64 x.f3, .int .i64 x.f4, .int .i64 x.f5, .string x.f6, .slice A7 x.f7.length c7, .int .i64 x.f8] 43) ⟨B, 1, none⟩ (World.block_lt_of_cell? _ _ x1)).trans x1
  replace x2 := (World.cell?_alloc_lt w (.cells #[.int .i64 x.f0, .int .i64 x.f1, .int .i64 x.f2, .int .i64 x.f3, .int .i64 x.f4, .int .i64 x.f5, .string x.f6, .slice A7 x.f7.length c7, .int .i64 x.f8] 43) ⟨B, 2, none⟩ (World.block_lt_of_cell? _ _ x2)).trans x2
  obtain ⟨b1, h1, h2⟩ := Option.bind_eq_some_iff.mp h
  obtain rfl := Option.some.inj h2
  have H1 := Aside0.mk h1
  clear h h1 h2 hr1 hr2 hr7 hc1 hc2 hc7 HB
  have HB := Aside0.mk (below_alloc (Below.refl w.heap.size w) (.cells #[.int .i64 x.f0, .int .i64 x.f1, .int .i64 x.f2, .int .i64 x.f3, .int .i64 x.f4, .int .i64 x.f5, .string x.f6, .slice A7 x.f7.length c7, .int .i64 x.f8] 43))
  go_enter Try.func25, Try.ntmps25
  go_wp2_with (go_at_call 26; refine (impl_Graph_complete.calls k g0 A1 c1 g1 A2 c2 g2 x.f0 x.f1 x.f2 x.f3 x.f4 x.f5 x.f6 A7 c7 x.f7 x.f8 _ _ ?side1 ?side2 ?side3 ?side4 ?side5 ?side6 H1.out).mono ?_; (case side1 => exact (Kd.C_below HR1.out HB.out)); (case side2 => exact HC1.out); (case side3 => exact (Kd.C_below HR2.out HB.out)); (case side4 => exact HC2.out); (case side5 => exact (Kd.C_below HR7.out HB.out)); (case side6 => exact HC7.out); rintro e w2 ⟨rfl, hb⟩; have n0_ := Aside0.mk (below_step HB.out (by first | exact hb | exact hb.below)); clear HB; have HB := n0_; clear n0_ hb)
  go_ret
  exact ⟨by first | rfl | simp, HB.out⟩
set_option maxHeartbeats 4000000 in
set_option maxRecDepth 100000 in
theorem impl_GraphRight.closure2 (k : Nat) (g0 : Int) (A1 : Option Addr) (c1 : Nat) (g1 : List S43) (A2 : Option Addr) (c2 : Nat) (g2 : List S43) (x : S43) (A7 : Option Addr) (c7 : Nat) (b : Bool) (B : Nat) (w : World) (hr1 : Kd.C k43 w A1 g1.length g1) (hc1 : g1.length ≤ c1) (hr2 : Kd.C k43 w A2 g2.length g2) (hc2 : g2.length ≤ c2) (hr7 : Kd.C (Kd.int .i64) w A7 x.f7.length x.f7) (hc7 : x.f7.length ≤ c7)
    (x0 : w.cell? ⟨B, 0, none⟩ = some (.int .i64 g0)) (x1 : w.cell? ⟨B, 1, none⟩ = some (.slice A1 g1.length c1)) (x2 : w.cell? ⟨B, 2, none⟩ = some (.slice A2 g2.length c2)) (h : impl_GraphRight.q2 k g0 g1 g2 x = some b) :
    Calls Try.prog 27 #[.agg #[.int .i64 x.f0, .int .i64 x.f1, .int .i64 x.f2, .int .i64 x.f3, .int .i64 x.f4, .int .i64 x.f5, .string x.f6, .slice A7 x.f7.length c7, .int .i64 x.f8], .pointer (some ⟨B, 0, none⟩)] w fun e w' => e = .returned (.bool b) ∧ Below w.heap.size w w' := by
  have HB := Aside0.mk (Below.refl w.heap.size w)
  have HR1 := Aside0.mk hr1
  have HR2 := Aside0.mk hr2
  have HR7 := Aside0.mk hr7
  have HC1 := Aside0.mk hc1
  have HC2 := Aside0.mk hc2
  have HC7 := Aside0.mk hc7
  replace x0 := (World.cell?_alloc_lt w (.cells #[.int .i64 x.f0, .int .i64 x.f1, .int .i64 x.f2, .int .i64 x.f3, .int .i64 x.f4, .int .i64 x.f5, .string x.f6, .slice A7 x.f7.length c7, .int .i64 x.f8] 43) ⟨B, 0, none⟩ (World.block_lt_of_cell? _ _ x0)).trans x0
  replace x1 := (World.cell?_alloc_lt w (.cells #[.int .i64 x.f0, .int .i64 x.f1, .int .i64 x.f2, .int .i64 x.f3, .int .i64 x.f4, .int .i64 x.f5, .string x.f6, .slice A7 x.f7.length c7, .int .i64 x.f8] 43) ⟨B, 1, none⟩ (World.block_lt_of_cell? _ _ x1)).trans x1
  replace x2 := (World.cell?_alloc_lt w (.cells #[.int .i64 x.f0, .int .i64 x.f1, .int .i64 x.f2, .int .i64 x.f3, .int .i64 x.f4, .int .i64 x.f5, .string x.f6, .slice A7 x.f7.length c7, .int .i64 x.f8] 43) ⟨B, 2, none⟩ (World.block_lt_of_cell? _ _ x2)).trans x2
  obtain ⟨b1, h1, h2⟩ := Option.bind_eq_some_iff.mp h
  have H1 := Aside0.mk h1
  clear h h1 hr1 hr2 hr7 hc1 hc2 hc7 HB
  have HB := Aside0.mk (below_alloc (Below.refl w.heap.size w) (.cells #[.int .i64 x.f0, .int .i64 x.f1, .int .i64 x.f2, .int .i64 x.f3, .int .i64 x.f4, .int .i64 x.f5, .string x.f6, .slice A7 x.f7.length c7, .int .i64 x.f8] 43))
  cases b1 with
  | true =>
    obtain rfl := Option.some.inj h2
    clear h2
    go_enter Try.func27, Try.ntmps27
    go_wp2_with (go_at_call 28; refine (impl_Graph_has.calls k g0 A1 c1 g1 A2 c2 g2 x.f0 _ _ ?side1 ?side2 ?side3 ?side4 H1.out).mono ?_; (case side1 => exact (Kd.C_below HR1.out HB.out)); (case side2 => exact HC1.out); (case side3 => exact (Kd.C_below HR2.out HB.out)); (case side4 => exact HC2.out); rintro e w1 ⟨rfl, hb⟩; have n0_ := Aside0.mk (below_step HB.out (by first | exact hb | exact hb.below)); clear HB; have HB := n0_; clear n0_ hb)
    go_ret
    exact ⟨by first | rfl | simp, HB.out⟩
  | false =>
    have H2 := Aside0.mk (show impl_Graph_complete.f k g0 g1 g2 x.f7 = some b from h2)
    clear h2
    go_enter Try.func27, Try.ntmps27
    go_wp2_with (first | (go_at_call 28; refine (impl_Graph_has.calls k g0 A1 c1 g1 A2 c2 g2 x.f0 _ _ ?side1 ?side2 ?side3 ?side4 H1.out).mono ?_; (case side1 => exact (Kd.C_below HR1.out HB.out)); (case side2 => exact HC1.out); (case side3 => exact (Kd.C_below HR2.out HB.out)); (case side4 => exact HC2.out); rintro e w1 ⟨rfl, hb⟩; have y0_ := (hb.cell (World.block_lt_of_cell? _ _ x0)).trans x0; have y1_ := (hb.cell (World.block_lt_of_cell? _ _ x1)).trans x1; have y2_ := (hb.cell (World.block_lt_of_cell? _ _ x2)).trans x2; have yc0 : w1.cell? ⟨w.heap.size, 0, none⟩ = some (.int .i64 x.f0) := (hb.cell (p := ⟨w.heap.size, 0, none⟩) (by simp)).trans (by simp); have yc1 : w1.cell? ⟨w.heap.size, 1, none⟩ = some (.int .i64 x.f1) := (hb.cell (p := ⟨w.heap.size, 1, none⟩) (by simp)).trans (by simp); have yc2 : w1.cell? ⟨w.heap.size, 2, none⟩ = some (.int .i64 x.f2) := (hb.cell (p := ⟨w.heap.size, 2, none⟩) (by simp)).trans (by simp); have yc3 : w1.cell? ⟨w.heap.size, 3, none⟩ = some (.int .i64 x.f3) := (hb.cell (p := ⟨w.heap.size, 3, none⟩) (by simp)).trans (by simp); have yc4 : w1.cell? ⟨w.heap.size, 4, none⟩ = some (.int .i64 x.f4) := (hb.cell (p := ⟨w.heap.size, 4, none⟩) (by simp)).trans (by simp); have yc5 : w1.cell? ⟨w.heap.size, 5, none⟩ = some (.int .i64 x.f5) := (hb.cell (p := ⟨w.heap.size, 5, none⟩) (by simp)).trans (by simp); have yc6 : w1.cell? ⟨w.heap.size, 6, none⟩ = some (.string x.f6) := (hb.cell (p := ⟨w.heap.size, 6, none⟩) (by simp)).trans (by simp); have yc7 : w1.cell? ⟨w.heap.size, 7, none⟩ = some (.slice A7 x.f7.length c7) := (hb.cell (p := ⟨w.heap.size, 7, none⟩) (by simp)).trans (by simp); have yc8 : w1.cell? ⟨w.heap.size, 8, none⟩ = some (.int .i64 x.f8) := (hb.cell (p := ⟨w.heap.size, 8, none⟩) (by simp)).trans (by simp); have n0_ := Aside0.mk (below_step HB.out (by first | exact hb | exact hb.below)); clear HB; have HB := n0_; clear n0_ hb) | (go_at_call 26; refine (impl_Graph_complete.calls k g0 A1 c1 g1 A2 c2 g2 x.f0 x.f1 x.f2 x.f3 x.f4 x.f5 x.f6 A7 c7 x.f7 x.f8 _ _ ?side1 ?side2 ?side3 ?side4 ?side5 ?side6 H2.out).mono ?_; (case side1 => exact (Kd.C_below HR1.out HB.out)); (case side2 => exact HC1.out); (case side3 => exact (Kd.C_below HR2.out HB.out)); (case side4 => exact HC2.out); (case side5 => exact (Kd.C_below HR7.out HB.out)); (case side6 => exact HC7.out); rintro e w2 ⟨rfl, hb⟩; have n0_ := Aside0.mk (below_step HB.out (by first | exact hb | exact hb.below)); clear HB; have HB := n0_; clear n0_ hb))
    go_ret
    exact ⟨by first | rfl | simp, HB.out⟩
set_option maxHeartbeats 4000000 in
theorem impl_GraphRight.any1 (k : Nat) (g0 : Int) (A1 : Option Addr) (c1 : Nat) (g1 : List S43) (A2 : Option Addr) (c2 : Nat) (g2 : List S43) (b : Bool) (B : Nat) (w : World) (hr1 : Kd.C k43 w A1 g1.length g1) (hc1 : g1.length ≤ c1) (hr2 : Kd.C k43 w A2 g2.length g2) (hc2 : g2.length ≤ c2)
    (x0 : w.cell? ⟨B, 0, none⟩ = some (.int .i64 g0)) (x1 : w.cell? ⟨B, 1, none⟩ = some (.slice A1 g1.length c1)) (x2 : w.cell? ⟨B, 2, none⟩ = some (.slice A2 g2.length c2)) (h : anyQ (impl_GraphRight.q1 k g0 g1 g2) g1 = some b) :
    Calls Try.prog 24 #[.slice A1 g1.length c1, .func (.func 25) #[] #[.pointer (some ⟨B, 0, none⟩)]] w fun e w' => e = .returned (.bool b) ∧ Below w.heap.size w w' := by
  obtain ⟨h3, rfl⟩ := anyQ_all h
  exact impl_Event_24.callsF 25 #[.pointer (some ⟨B, 0, none⟩)] (fun x => (impl_GraphRight.q1 k g0 g1 g2 x).getD false) A1 c1 g1 w (enters_of Try.func25 (by kernel_rfl) rfl) hr1
    (fun W i x A7 c7 hx hr7 hc7 hb => (impl_GraphRight.closure1 k g0 A1 c1 g1 A2 c2 g2 x A7 c7 _ B W (Kd.C_below hr1 hb) hc1 (Kd.C_below hr2 hb) hc2 (Kd.C_below hr7 hb) hc7 ((hb.cell (World.block_lt_of_cell? _ _ x0)).trans x0) ((hb.cell (World.block_lt_of_cell? _ _ x1)).trans x1) ((hb.cell (World.block_lt_of_cell? _ _ x2)).trans x2) (h3 x (List.mem_of_getElem? hx))).mono (fun _ _ h2 => ⟨h2.1, below_step hb h2.2⟩))
set_option maxHeartbeats 4000000 in
theorem impl_GraphRight.any2 (k : Nat) (g0 : Int) (A1 : Option Addr) (c1 : Nat) (g1 : List S43) (A2 : Option Addr) (c2 : Nat) (g2 : List S43) (b : Bool) (B : Nat) (w : World) (hr1 : Kd.C k43 w A1 g1.length g1) (hc1 : g1.length ≤ c1) (hr2 : Kd.C k43 w A2 g2.length g2) (hc2 : g2.length ≤ c2)
    (x0 : w.cell? ⟨B, 0, none⟩ = some (.int .i64 g0)) (x1 : w.cell? ⟨B, 1, none⟩ = some (.slice A1 g1.length c1)) (x2 : w.cell? ⟨B, 2, none⟩ = some (.slice A2 g2.length c2)) (h : anyQ (impl_GraphRight.q2 k g0 g1 g2) g2 = some b) :
    Calls Try.prog 24 #[.slice A2 g2.length c2, .func (.func 27) #[] #[.pointer (some ⟨B, 0, none⟩)]] w fun e w' => e = .returned (.bool b) ∧ Below w.heap.size w w' := by
  obtain ⟨h3, rfl⟩ := anyQ_all h
  exact impl_Event_24.callsF 27 #[.pointer (some ⟨B, 0, none⟩)] (fun x => (impl_GraphRight.q2 k g0 g1 g2 x).getD false) A2 c2 g2 w (enters_of Try.func27 (by kernel_rfl) rfl) hr2
    (fun W i x A7 c7 hx hr7 hc7 hb => (impl_GraphRight.closure2 k g0 A1 c1 g1 A2 c2 g2 x A7 c7 _ B W (Kd.C_below hr1 hb) hc1 (Kd.C_below hr2 hb) hc2 (Kd.C_below hr7 hb) hc7 ((hb.cell (World.block_lt_of_cell? _ _ x0)).trans x0) ((hb.cell (World.block_lt_of_cell? _ _ x1)).trans x1) ((hb.cell (World.block_lt_of_cell? _ _ x2)).trans x2) (h3 x (List.mem_of_getElem? hx))).mono (fun _ _ h2 => ⟨h2.1, below_step hb h2.2⟩))
set_option maxHeartbeats 8000000 in
set_option maxRecDepth 100000 in
theorem impl_GraphRight.calls (k : Nat) (g0 : Int) (A1 : Option Addr) (c1 : Nat) (g1 : List S43) (A2 : Option Addr) (c2 : Nat) (g2 : List S43) (r : Bool) (w : World) (hr1 : Kd.C k43 w A1 g1.length g1) (hc1 : g1.length ≤ c1) (hr2 : Kd.C k43 w A2 g2.length g2) (hc2 : g2.length ≤ c2) (h : impl_GraphRight.f k g0 g1 g2 = some r) :
    Calls Try.prog 9 #[.agg #[.int .i64 g0, .slice A1 g1.length c1, .slice A2 g2.length c2]] w fun e w' => e = .returned (.bool r) ∧ Below w.heap.size w w' := by
  have HR1 := Aside0.mk hr1; have HR2 := Aside0.mk hr2; have HC1 := Aside0.mk hc1; have HC2 := Aside0.mk hc2
  clear hr1 hr2 hc1 hc2
  have HB := Aside0.mk (Below.refl w.heap.size w)
  obtain ⟨b0, h0, H⟩ := Option.bind_eq_some_iff.mp h
  have HRoom := Aside0.mk h0
  clear h h0
  cases b0 with
  | false =>
    obtain rfl := Option.some.inj H
    clear H
    go_enter Try.func9, Try.ntmps9
    go_wp2_with (first | ((with_reducible refine gate_dst (N := 1) rfl ?_); refine box_event ?hg (N := 1) ?hd (cs := #[.int .i64 g0, .slice A1 g1.length c1, .slice A2 g2.length c2]) (t := 29) ?hr ?_; (case hd => rfl); (case hg => rfl); (case hr => first | (go_simp; done) | (go_simp; rfl)); intro gb hg w1 hbox hb; have n0_ := Aside0.mk (below_step HB.out hb); have BK := Aside0.mk hbox; clear HB; have HB := n0_; clear n0_ hb hbox hg; have hz0 : w1.cell? ⟨gb, 0, none⟩ = some (.int .i64 g0) := (blk_cell BK.out 0).trans rfl; have hz1 : w1.cell? ⟨gb, 1, none⟩ = some (.slice A1 g1.length c1) := (blk_cell BK.out 1).trans rfl; have hz2 : w1.cell? ⟨gb, 2, none⟩ = some (.slice A2 g2.length c2) := (blk_cell BK.out 2).trans rfl) | (go_at_call 22; (with_reducible refine (impl_isRoom.calls g0 _ _ HRoom.out).mono ?_); rintro e w2 ⟨rfl, hb0⟩; have hb := hb0.below; clear hb0; have m0_ := Aside0.mk (blk_below BK.out hb); have m1_ := Aside0.mk (below_step HB.out hb); clear hz0 hz1 hz2; clear BK HB; have BK := m0_; have HB := m1_; clear m0_ m1_ hb; have hz0 : w2.cell? ⟨gb, 0, none⟩ = some (.int .i64 g0) := (blk_cell BK.out 0).trans rfl; have hz1 : w2.cell? ⟨gb, 1, none⟩ = some (.slice A1 g1.length c1) := (blk_cell BK.out 1).trans rfl; have hz2 : w2.cell? ⟨gb, 2, none⟩ = some (.slice A2 g2.length c2) := (blk_cell BK.out 2).trans rfl))
    go_ret
    exact ⟨by first | rfl | simp, HB.out⟩
  | true =>
    simp only [if_true] at H
    by_cases p1 : 60 < g1.length
    · rw [if_pos p1] at H
      obtain rfl := Option.some.inj H
      have p1a : decide (60 < (g1.length : Int)) = true := decide_eq_true (by omega)
      have p1b : decide (60 < g1.length) = true := decide_eq_true p1
      clear H p1
      go_enter Try.func9, Try.ntmps9
      go_wp2_with (first | ((with_reducible refine gate_dst (N := 1) rfl ?_); refine box_event ?hg (N := 1) ?hd (cs := #[.int .i64 g0, .slice A1 g1.length c1, .slice A2 g2.length c2]) (t := 29) ?hr ?_; (case hd => rfl); (case hg => rfl); (case hr => first | (go_simp; done) | (go_simp; rfl)); intro gb hg w1 hbox hb; have n0_ := Aside0.mk (below_step HB.out hb); have BK := Aside0.mk hbox; clear HB; have HB := n0_; clear n0_ hb hbox hg; have hz0 : w1.cell? ⟨gb, 0, none⟩ = some (.int .i64 g0) := (blk_cell BK.out 0).trans rfl; have hz1 : w1.cell? ⟨gb, 1, none⟩ = some (.slice A1 g1.length c1) := (blk_cell BK.out 1).trans rfl; have hz2 : w1.cell? ⟨gb, 2, none⟩ = some (.slice A2 g2.length c2) := (blk_cell BK.out 2).trans rfl) | (go_at_call 22; (with_reducible refine (impl_isRoom.calls g0 _ _ HRoom.out).mono ?_); rintro e w2 ⟨rfl, hb0⟩; have hb := hb0.below; clear hb0; have m0_ := Aside0.mk (blk_below BK.out hb); have m1_ := Aside0.mk (below_step HB.out hb); clear hz0 hz1 hz2; clear BK HB; have BK := m0_; have HB := m1_; clear m0_ m1_ hb; have hz0 : w2.cell? ⟨gb, 0, none⟩ = some (.int .i64 g0) := (blk_cell BK.out 0).trans rfl; have hz1 : w2.cell? ⟨gb, 1, none⟩ = some (.slice A1 g1.length c1) := (blk_cell BK.out 1).trans rfl; have hz2 : w2.cell? ⟨gb, 2, none⟩ = some (.slice A2 g2.length c2) := (blk_cell BK.out 2).trans rfl))
      go_ret
      exact ⟨by first | rfl | simp, HB.out⟩
    rw [if_neg p1] at H
    have p1a : decide (60 < (g1.length : Int)) = false := decide_eq_false (by omega)
    have p1b : decide (60 < g1.length) = false := decide_eq_false p1
    clear p1
    by_cases p2 : 20 < g2.length
    · rw [if_pos p2] at H
      obtain rfl := Option.some.inj H
      have p2a : decide (20 < (g2.length : Int)) = true := decide_eq_true (by omega)
      have p2b : decide (20 < g2.length) = true := decide_eq_true p2
      clear H p2
      go_enter Try.func9, Try.ntmps9
      go_wp2_with (first | ((with_reducible refine gate_dst (N := 1) rfl ?_); refine box_event ?hg (N := 1) ?hd (cs := #[.int .i64 g0, .slice A1 g1.length c1, .slice A2 g2.length c2]) (t := 29) ?hr ?_; (case hd => rfl); (case hg => rfl); (case hr => first | (go_simp; done) | (go_simp; rfl)); intro gb hg w1 hbox hb; have n0_ := Aside0.mk (below_step HB.out hb); have BK := Aside0.mk hbox; clear HB; have HB := n0_; clear n0_ hb hbox hg; have hz0 : w1.cell? ⟨gb, 0, none⟩ = some (.int .i64 g0) := (blk_cell BK.out 0).trans rfl; have hz1 : w1.cell? ⟨gb, 1, none⟩ = some (.slice A1 g1.length c1) := (blk_cell BK.out 1).trans rfl; have hz2 : w1.cell? ⟨gb, 2, none⟩ = some (.slice A2 g2.length c2) := (blk_cell BK.out 2).trans rfl) | (go_at_call 22; (with_reducible refine (impl_isRoom.calls g0 _ _ HRoom.out).mono ?_); rintro e w2 ⟨rfl, hb0⟩; have hb := hb0.below; clear hb0; have m0_ := Aside0.mk (blk_below BK.out hb); have m1_ := Aside0.mk (below_step HB.out hb); clear hz0 hz1 hz2; clear BK HB; have BK := m0_; have HB := m1_; clear m0_ m1_ hb; have hz0 : w2.cell? ⟨gb, 0, none⟩ = some (.int .i64 g0) := (blk_cell BK.out 0).trans rfl; have hz1 : w2.cell? ⟨gb, 1, none⟩ = some (.slice A1 g1.length c1) := (blk_cell BK.out 1).trans rfl; have hz2 : w2.cell? ⟨gb, 2, none⟩ = some (.slice A2 g2.length c2) := (blk_cell BK.out 2).trans rfl))
      go_ret
      exact ⟨by first | rfl | simp, HB.out⟩
    rw [if_neg p2] at H
    have p2a : decide (20 < (g2.length : Int)) = false := decide_eq_false (by omega)
    have p2b : decide (20 < g2.length) = false := decide_eq_false p2
    clear p2
    obtain ⟨b1, h1, H⟩ := Option.bind_eq_some_iff.mp H
    have HA := Aside0.mk h1
    clear h1
    cases b1 with
    | false =>
      obtain rfl := Option.some.inj H
      clear H
      go_enter Try.func9, Try.ntmps9
      go_wp2_with (first | ((with_reducible refine gate_dst (N := 1) rfl ?_); refine box_event ?hg (N := 1) ?hd (cs := #[.int .i64 g0, .slice A1 g1.length c1, .slice A2 g2.length c2]) (t := 29) ?hr ?_; (case hd => rfl); (case hg => rfl); (case hr => first | (go_simp; done) | (go_simp; rfl)); intro gb hg w1 hbox hb; have n0_ := Aside0.mk (below_step HB.out hb); have BK := Aside0.mk hbox; clear HB; have HB := n0_; clear n0_ hb hbox hg; have hz0 : w1.cell? ⟨gb, 0, none⟩ = some (.int .i64 g0) := (blk_cell BK.out 0).trans rfl; have hz1 : w1.cell? ⟨gb, 1, none⟩ = some (.slice A1 g1.length c1) := (blk_cell BK.out 1).trans rfl; have hz2 : w1.cell? ⟨gb, 2, none⟩ = some (.slice A2 g2.length c2) := (blk_cell BK.out 2).trans rfl) | (go_at_call 22; (with_reducible refine (impl_isRoom.calls g0 _ _ HRoom.out).mono ?_); rintro e w2 ⟨rfl, hb0⟩; have hb := hb0.below; clear hb0; have m0_ := Aside0.mk (blk_below BK.out hb); have m1_ := Aside0.mk (below_step HB.out hb); clear hz0 hz1 hz2; clear BK HB; have BK := m0_; have HB := m1_; clear m0_ m1_ hb; have hz0 : w2.cell? ⟨gb, 0, none⟩ = some (.int .i64 g0) := (blk_cell BK.out 0).trans rfl; have hz1 : w2.cell? ⟨gb, 1, none⟩ = some (.slice A1 g1.length c1) := (blk_cell BK.out 1).trans rfl; have hz2 : w2.cell? ⟨gb, 2, none⟩ = some (.slice A2 g2.length c2) := (blk_cell BK.out 2).trans rfl) | (go_at_call 23; (with_reducible refine (impl_Graph_areRight.calls k g0 A1 c1 g1 A2 c2 g2 A1 c1 g1 _ _ ?side1 ?side2 ?side3 ?side4 ?side5 ?side6 HA.out).mono ?_); (case side1 => exact (Kd.C_below HR1.out HB.out)); (case side2 => exact HC1.out); (case side3 => exact (Kd.C_below HR2.out HB.out)); (case side4 => exact HC2.out); (case side5 => exact (Kd.C_below HR1.out HB.out)); (case side6 => exact HC1.out); rintro e w3 ⟨rfl, hb⟩; have m0_ := Aside0.mk (blk_below BK.out hb); have m1_ := Aside0.mk (below_step HB.out hb); clear hz0 hz1 hz2; clear BK HB; have BK := m0_; have HB := m1_; clear m0_ m1_ hb; have hz0 : w3.cell? ⟨gb, 0, none⟩ = some (.int .i64 g0) := (blk_cell BK.out 0).trans rfl; have hz1 : w3.cell? ⟨gb, 1, none⟩ = some (.slice A1 g1.length c1) := (blk_cell BK.out 1).trans rfl; have hz2 : w3.cell? ⟨gb, 2, none⟩ = some (.slice A2 g2.length c2) := (blk_cell BK.out 2).trans rfl))
      go_ret
      exact ⟨by first | rfl | simp, HB.out⟩
    | true =>
      simp only [if_true] at H
      obtain ⟨b2, h2, H⟩ := Option.bind_eq_some_iff.mp H
      have HE := Aside0.mk h2
      clear h2
      cases b2 with
      | false =>
        obtain rfl := Option.some.inj H
        clear H
        go_enter Try.func9, Try.ntmps9
        go_wp2_with (first | ((with_reducible refine gate_dst (N := 1) rfl ?_); refine box_event ?hg (N := 1) ?hd (cs := #[.int .i64 g0, .slice A1 g1.length c1, .slice A2 g2.length c2]) (t := 29) ?hr ?_; (case hd => rfl); (case hg => rfl); (case hr => first | (go_simp; done) | (go_simp; rfl)); intro gb hg w1 hbox hb; have n0_ := Aside0.mk (below_step HB.out hb); have BK := Aside0.mk hbox; clear HB; have HB := n0_; clear n0_ hb hbox hg; have hz0 : w1.cell? ⟨gb, 0, none⟩ = some (.int .i64 g0) := (blk_cell BK.out 0).trans rfl; have hz1 : w1.cell? ⟨gb, 1, none⟩ = some (.slice A1 g1.length c1) := (blk_cell BK.out 1).trans rfl; have hz2 : w1.cell? ⟨gb, 2, none⟩ = some (.slice A2 g2.length c2) := (blk_cell BK.out 2).trans rfl) | (go_at_call 22; (with_reducible refine (impl_isRoom.calls g0 _ _ HRoom.out).mono ?_); rintro e w2 ⟨rfl, hb0⟩; have hb := hb0.below; clear hb0; have m0_ := Aside0.mk (blk_below BK.out hb); have m1_ := Aside0.mk (below_step HB.out hb); clear hz0 hz1 hz2; clear BK HB; have BK := m0_; have HB := m1_; clear m0_ m1_ hb; have hz0 : w2.cell? ⟨gb, 0, none⟩ = some (.int .i64 g0) := (blk_cell BK.out 0).trans rfl; have hz1 : w2.cell? ⟨gb, 1, none⟩ = some (.slice A1 g1.length c1) := (blk_cell BK.out 1).trans rfl; have hz2 : w2.cell? ⟨gb, 2, none⟩ = some (.slice A2 g2.length c2) := (blk_cell BK.out 2).trans rfl) | (go_at_call 23; (with_reducible refine (impl_Graph_areRight.calls k g0 A1 c1 g1 A2 c2 g2 A1 c1 g1 _ _ ?side1 ?side2 ?side3 ?side4 ?side5 ?side6 HA.out).mono ?_); (case side1 => exact (Kd.C_below HR1.out HB.out)); (case side2 => exact HC1.out); (case side3 => exact (Kd.C_below HR2.out HB.out)); (case side4 => exact HC2.out); (case side5 => exact (Kd.C_below HR1.out HB.out)); (case side6 => exact HC1.out); rintro e w3 ⟨rfl, hb⟩; have m0_ := Aside0.mk (blk_below BK.out hb); have m1_ := Aside0.mk (below_step HB.out hb); clear hz0 hz1 hz2; clear BK HB; have BK := m0_; have HB := m1_; clear m0_ m1_ hb; have hz0 : w3.cell? ⟨gb, 0, none⟩ = some (.int .i64 g0) := (blk_cell BK.out 0).trans rfl; have hz1 : w3.cell? ⟨gb, 1, none⟩ = some (.slice A1 g1.length c1) := (blk_cell BK.out 1).trans rfl; have hz2 : w3.cell? ⟨gb, 2, none⟩ = some (.slice A2 g2.length c2) := (blk_cell BK.out 2).trans rfl) | (go_at_call 23; (with_reducible refine (impl_Graph_areRight.calls k g0 A1 c1 g1 A2 c2 g2 A2 c2 g2 _ _ ?side1 ?side2 ?side3 ?side4 ?side5 ?side6 HE.out).mono ?_); (case side1 => exact (Kd.C_below HR1.out HB.out)); (case side2 => exact HC1.out); (case side3 => exact (Kd.C_below HR2.out HB.out)); (case side4 => exact HC2.out); (case side5 => exact (Kd.C_below HR2.out HB.out)); (case side6 => exact HC2.out); rintro e w4 ⟨rfl, hb⟩; have m0_ := Aside0.mk (blk_below BK.out hb); have m1_ := Aside0.mk (below_step HB.out hb); clear hz0 hz1 hz2; clear BK HB; have BK := m0_; have HB := m1_; clear m0_ m1_ hb; have hz0 : w4.cell? ⟨gb, 0, none⟩ = some (.int .i64 g0) := (blk_cell BK.out 0).trans rfl; have hz1 : w4.cell? ⟨gb, 1, none⟩ = some (.slice A1 g1.length c1) := (blk_cell BK.out 1).trans rfl; have hz2 : w4.cell? ⟨gb, 2, none⟩ = some (.slice A2 g2.length c2) := (blk_cell BK.out 2).trans rfl))
        go_ret
        exact ⟨by first | rfl | simp, HB.out⟩
      | true =>
        simp only [if_true] at H
        unfold impl_GraphRight.j0 at H
        obtain ⟨b3, h3, H⟩ := Option.bind_eq_some_iff.mp H
        have HX := Aside0.mk h3
        clear h3
        cases b3 with
        | true =>
          obtain rfl := Option.some.inj H
          clear H
          go_enter Try.func9, Try.ntmps9
          go_wp2_with (first | ((with_reducible refine gate_dst (N := 1) rfl ?_); refine box_event ?hg (N := 1) ?hd (cs := #[.int .i64 g0, .slice A1 g1.length c1, .slice A2 g2.length c2]) (t := 29) ?hr ?_; (case hd => rfl); (case hg => rfl); (case hr => first | (go_simp; done) | (go_simp; rfl)); intro gb hg w1 hbox hb; have n0_ := Aside0.mk (below_step HB.out hb); have BK := Aside0.mk hbox; clear HB; have HB := n0_; clear n0_ hb hbox hg; have hz0 : w1.cell? ⟨gb, 0, none⟩ = some (.int .i64 g0) := (blk_cell BK.out 0).trans rfl; have hz1 : w1.cell? ⟨gb, 1, none⟩ = some (.slice A1 g1.length c1) := (blk_cell BK.out 1).trans rfl; have hz2 : w1.cell? ⟨gb, 2, none⟩ = some (.slice A2 g2.length c2) := (blk_cell BK.out 2).trans rfl) | (go_at_call 22; (with_reducible refine (impl_isRoom.calls g0 _ _ HRoom.out).mono ?_); rintro e w2 ⟨rfl, hb0⟩; have hb := hb0.below; clear hb0; have m0_ := Aside0.mk (blk_below BK.out hb); have m1_ := Aside0.mk (below_step HB.out hb); clear hz0 hz1 hz2; clear BK HB; have BK := m0_; have HB := m1_; clear m0_ m1_ hb; have hz0 : w2.cell? ⟨gb, 0, none⟩ = some (.int .i64 g0) := (blk_cell BK.out 0).trans rfl; have hz1 : w2.cell? ⟨gb, 1, none⟩ = some (.slice A1 g1.length c1) := (blk_cell BK.out 1).trans rfl; have hz2 : w2.cell? ⟨gb, 2, none⟩ = some (.slice A2 g2.length c2) := (blk_cell BK.out 2).trans rfl) | (go_at_call 23; (with_reducible refine (impl_Graph_areRight.calls k g0 A1 c1 g1 A2 c2 g2 A1 c1 g1 _ _ ?side1 ?side2 ?side3 ?side4 ?side5 ?side6 HA.out).mono ?_); (case side1 => exact (Kd.C_below HR1.out HB.out)); (case side2 => exact HC1.out); (case side3 => exact (Kd.C_below HR2.out HB.out)); (case side4 => exact HC2.out); (case side5 => exact (Kd.C_below HR1.out HB.out)); (case side6 => exact HC1.out); rintro e w3 ⟨rfl, hb⟩; have m0_ := Aside0.mk (blk_below BK.out hb); have m1_ := Aside0.mk (below_step HB.out hb); clear hz0 hz1 hz2; clear BK HB; have BK := m0_; have HB := m1_; clear m0_ m1_ hb; have hz0 : w3.cell? ⟨gb, 0, none⟩ = some (.int .i64 g0) := (blk_cell BK.out 0).trans rfl; have hz1 : w3.cell? ⟨gb, 1, none⟩ = some (.slice A1 g1.length c1) := (blk_cell BK.out 1).trans rfl; have hz2 : w3.cell? ⟨gb, 2, none⟩ = some (.slice A2 g2.length c2) := (blk_cell BK.out 2).trans rfl) | (go_at_call 23; (with_reducible refine (impl_Graph_areRight.calls k g0 A1 c1 g1 A2 c2 g2 A2 c2 g2 _ _ ?side1 ?side2 ?side3 ?side4 ?side5 ?side6 HE.out).mono ?_); (case side1 => exact (Kd.C_below HR1.out HB.out)); (case side2 => exact HC1.out); (case side3 => exact (Kd.C_below HR2.out HB.out)); (case side4 => exact HC2.out); (case side5 => exact (Kd.C_below HR2.out HB.out)); (case side6 => exact HC2.out); rintro e w4 ⟨rfl, hb⟩; have m0_ := Aside0.mk (blk_below BK.out hb); have m1_ := Aside0.mk (below_step HB.out hb); clear hz0 hz1 hz2; clear BK HB; have BK := m0_; have HB := m1_; clear m0_ m1_ hb; have hz0 : w4.cell? ⟨gb, 0, none⟩ = some (.int .i64 g0) := (blk_cell BK.out 0).trans rfl; have hz1 : w4.cell? ⟨gb, 1, none⟩ = some (.slice A1 g1.length c1) := (blk_cell BK.out 1).trans rfl; have hz2 : w4.cell? ⟨gb, 2, none⟩ = some (.slice A2 g2.length c2) := (blk_cell BK.out 2).trans rfl) | (go_at_call 24; (with_reducible refine (impl_GraphRight.any1 k g0 A1 c1 g1 A2 c2 g2 _ gb _ ?side1 ?side2 ?side3 ?side4 hz0 hz1 hz2 HX.out).mono ?_); (case side1 => exact (Kd.C_below HR1.out HB.out)); (case side2 => exact HC1.out); (case side3 => exact (Kd.C_below HR2.out HB.out)); (case side4 => exact HC2.out); rintro e w5 ⟨rfl, hb⟩; have m0_ := Aside0.mk (blk_below BK.out hb); have m1_ := Aside0.mk (below_step HB.out hb); clear hz0 hz1 hz2; clear BK HB; have BK := m0_; have HB := m1_; clear m0_ m1_ hb; have hz0 : w5.cell? ⟨gb, 0, none⟩ = some (.int .i64 g0) := (blk_cell BK.out 0).trans rfl; have hz1 : w5.cell? ⟨gb, 1, none⟩ = some (.slice A1 g1.length c1) := (blk_cell BK.out 1).trans rfl; have hz2 : w5.cell? ⟨gb, 2, none⟩ = some (.slice A2 g2.length c2) := (blk_cell BK.out 2).trans rfl))
          go_ret
          exact ⟨by first | rfl | simp, HB.out⟩
        | false =>
          replace H := H
          obtain ⟨b4, h4, H⟩ := Option.bind_eq_some_iff.mp H
          have HY := Aside0.mk h4
          clear h4
          cases b4 with
          | true =>
            obtain rfl := Option.some.inj H
            clear H
            go_enter Try.func9, Try.ntmps9
            go_wp2_with (first | ((with_reducible refine gate_dst (N := 1) rfl ?_); refine box_event ?hg (N := 1) ?hd (cs := #[.int .i64 g0, .slice A1 g1.length c1, .slice A2 g2.length c2]) (t := 29) ?hr ?_; (case hd => rfl); (case hg => rfl); (case hr => first | (go_simp; done) | (go_simp; rfl)); intro gb hg w1 hbox hb; have n0_ := Aside0.mk (below_step HB.out hb); have BK := Aside0.mk hbox; clear HB; have HB := n0_; clear n0_ hb hbox hg; have hz0 : w1.cell? ⟨gb, 0, none⟩ = some (.int .i64 g0) := (blk_cell BK.out 0).trans rfl; have hz1 : w1.cell? ⟨gb, 1, none⟩ = some (.slice A1 g1.length c1) := (blk_cell BK.out 1).trans rfl; have hz2 : w1.cell? ⟨gb, 2, none⟩ = some (.slice A2 g2.length c2) := (blk_cell BK.out 2).trans rfl) | (go_at_call 22; (with_reducible refine (impl_isRoom.calls g0 _ _ HRoom.out).mono ?_); rintro e w2 ⟨rfl, hb0⟩; have hb := hb0.below; clear hb0; have m0_ := Aside0.mk (blk_below BK.out hb); have m1_ := Aside0.mk (below_step HB.out hb); clear hz0 hz1 hz2; clear BK HB; have BK := m0_; have HB := m1_; clear m0_ m1_ hb; have hz0 : w2.cell? ⟨gb, 0, none⟩ = some (.int .i64 g0) := (blk_cell BK.out 0).trans rfl; have hz1 : w2.cell? ⟨gb, 1, none⟩ = some (.slice A1 g1.length c1) := (blk_cell BK.out 1).trans rfl; have hz2 : w2.cell? ⟨gb, 2, none⟩ = some (.slice A2 g2.length c2) := (blk_cell BK.out 2).trans rfl) | (go_at_call 23; (with_reducible refine (impl_Graph_areRight.calls k g0 A1 c1 g1 A2 c2 g2 A1 c1 g1 _ _ ?side1 ?side2 ?side3 ?side4 ?side5 ?side6 HA.out).mono ?_); (case side1 => exact (Kd.C_below HR1.out HB.out)); (case side2 => exact HC1.out); (case side3 => exact (Kd.C_below HR2.out HB.out)); (case side4 => exact HC2.out); (case side5 => exact (Kd.C_below HR1.out HB.out)); (case side6 => exact HC1.out); rintro e w3 ⟨rfl, hb⟩; have m0_ := Aside0.mk (blk_below BK.out hb); have m1_ := Aside0.mk (below_step HB.out hb); clear hz0 hz1 hz2; clear BK HB; have BK := m0_; have HB := m1_; clear m0_ m1_ hb; have hz0 : w3.cell? ⟨gb, 0, none⟩ = some (.int .i64 g0) := (blk_cell BK.out 0).trans rfl; have hz1 : w3.cell? ⟨gb, 1, none⟩ = some (.slice A1 g1.length c1) := (blk_cell BK.out 1).trans rfl; have hz2 : w3.cell? ⟨gb, 2, none⟩ = some (.slice A2 g2.length c2) := (blk_cell BK.out 2).trans rfl) | (go_at_call 23; (with_reducible refine (impl_Graph_areRight.calls k g0 A1 c1 g1 A2 c2 g2 A2 c2 g2 _ _ ?side1 ?side2 ?side3 ?side4 ?side5 ?side6 HE.out).mono ?_); (case side1 => exact (Kd.C_below HR1.out HB.out)); (case side2 => exact HC1.out); (case side3 => exact (Kd.C_below HR2.out HB.out)); (case side4 => exact HC2.out); (case side5 => exact (Kd.C_below HR2.out HB.out)); (case side6 => exact HC2.out); rintro e w4 ⟨rfl, hb⟩; have m0_ := Aside0.mk (blk_below BK.out hb); have m1_ := Aside0.mk (below_step HB.out hb); clear hz0 hz1 hz2; clear BK HB; have BK := m0_; have HB := m1_; clear m0_ m1_ hb; have hz0 : w4.cell? ⟨gb, 0, none⟩ = some (.int .i64 g0) := (blk_cell BK.out 0).trans rfl; have hz1 : w4.cell? ⟨gb, 1, none⟩ = some (.slice A1 g1.length c1) := (blk_cell BK.out 1).trans rfl; have hz2 : w4.cell? ⟨gb, 2, none⟩ = some (.slice A2 g2.length c2) := (blk_cell BK.out 2).trans rfl) | (go_at_call 24; (with_reducible refine (impl_GraphRight.any1 k g0 A1 c1 g1 A2 c2 g2 _ gb _ ?side1 ?side2 ?side3 ?side4 hz0 hz1 hz2 HX.out).mono ?_); (case side1 => exact (Kd.C_below HR1.out HB.out)); (case side2 => exact HC1.out); (case side3 => exact (Kd.C_below HR2.out HB.out)); (case side4 => exact HC2.out); rintro e w5 ⟨rfl, hb⟩; have m0_ := Aside0.mk (blk_below BK.out hb); have m1_ := Aside0.mk (below_step HB.out hb); clear hz0 hz1 hz2; clear BK HB; have BK := m0_; have HB := m1_; clear m0_ m1_ hb; have hz0 : w5.cell? ⟨gb, 0, none⟩ = some (.int .i64 g0) := (blk_cell BK.out 0).trans rfl; have hz1 : w5.cell? ⟨gb, 1, none⟩ = some (.slice A1 g1.length c1) := (blk_cell BK.out 1).trans rfl; have hz2 : w5.cell? ⟨gb, 2, none⟩ = some (.slice A2 g2.length c2) := (blk_cell BK.out 2).trans rfl) | (go_at_call 24; (with_reducible refine (impl_GraphRight.any2 k g0 A1 c1 g1 A2 c2 g2 _ gb _ ?side1 ?side2 ?side3 ?side4 hz0 hz1 hz2 HY.out).mono ?_); (case side1 => exact (Kd.C_below HR1.out HB.out)); (case side2 => exact HC1.out); (case side3 => exact (Kd.C_below HR2.out HB.out)); (case side4 => exact HC2.out); rintro e w6 ⟨rfl, hb⟩; have m0_ := Aside0.mk (blk_below BK.out hb); have m1_ := Aside0.mk (below_step HB.out hb); clear hz0 hz1 hz2; clear BK HB; have BK := m0_; have HB := m1_; clear m0_ m1_ hb; have hz0 : w6.cell? ⟨gb, 0, none⟩ = some (.int .i64 g0) := (blk_cell BK.out 0).trans rfl; have hz1 : w6.cell? ⟨gb, 1, none⟩ = some (.slice A1 g1.length c1) := (blk_cell BK.out 1).trans rfl; have hz2 : w6.cell? ⟨gb, 2, none⟩ = some (.slice A2 g2.length c2) := (blk_cell BK.out 2).trans rfl))
            go_ret
            exact ⟨by first | rfl | simp, HB.out⟩
          | false =>
            obtain ⟨⟨d1, d2⟩, h5, H⟩ := Option.bind_eq_some_iff.mp H
            have HD := Aside0.mk h5
            obtain rfl := Option.some.inj H
            clear h5 H
            go_enter Try.func9, Try.ntmps9
            go_wp2_with (first | ((with_reducible refine gate_dst (N := 1) rfl ?_); refine box_event ?hg (N := 1) ?hd (cs := #[.int .i64 g0, .slice A1 g1.length c1, .slice A2 g2.length c2]) (t := 29) ?hr ?_; (case hd => rfl); (case hg => rfl); (case hr => first | (go_simp; done) | (go_simp; rfl)); intro gb hg w1 hbox hb; have n0_ := Aside0.mk (below_step HB.out hb); have BK := Aside0.mk hbox; clear HB; have HB := n0_; clear n0_ hb hbox hg; have hz0 : w1.cell? ⟨gb, 0, none⟩ = some (.int .i64 g0) := (blk_cell BK.out 0).trans rfl; have hz1 : w1.cell? ⟨gb, 1, none⟩ = some (.slice A1 g1.length c1) := (blk_cell BK.out 1).trans rfl; have hz2 : w1.cell? ⟨gb, 2, none⟩ = some (.slice A2 g2.length c2) := (blk_cell BK.out 2).trans rfl) | (go_at_call 22; (with_reducible refine (impl_isRoom.calls g0 _ _ HRoom.out).mono ?_); rintro e w2 ⟨rfl, hb0⟩; have hb := hb0.below; clear hb0; have m0_ := Aside0.mk (blk_below BK.out hb); have m1_ := Aside0.mk (below_step HB.out hb); clear hz0 hz1 hz2; clear BK HB; have BK := m0_; have HB := m1_; clear m0_ m1_ hb; have hz0 : w2.cell? ⟨gb, 0, none⟩ = some (.int .i64 g0) := (blk_cell BK.out 0).trans rfl; have hz1 : w2.cell? ⟨gb, 1, none⟩ = some (.slice A1 g1.length c1) := (blk_cell BK.out 1).trans rfl; have hz2 : w2.cell? ⟨gb, 2, none⟩ = some (.slice A2 g2.length c2) := (blk_cell BK.out 2).trans rfl) | (go_at_call 23; (with_reducible refine (impl_Graph_areRight.calls k g0 A1 c1 g1 A2 c2 g2 A1 c1 g1 _ _ ?side1 ?side2 ?side3 ?side4 ?side5 ?side6 HA.out).mono ?_); (case side1 => exact (Kd.C_below HR1.out HB.out)); (case side2 => exact HC1.out); (case side3 => exact (Kd.C_below HR2.out HB.out)); (case side4 => exact HC2.out); (case side5 => exact (Kd.C_below HR1.out HB.out)); (case side6 => exact HC1.out); rintro e w3 ⟨rfl, hb⟩; have m0_ := Aside0.mk (blk_below BK.out hb); have m1_ := Aside0.mk (below_step HB.out hb); clear hz0 hz1 hz2; clear BK HB; have BK := m0_; have HB := m1_; clear m0_ m1_ hb; have hz0 : w3.cell? ⟨gb, 0, none⟩ = some (.int .i64 g0) := (blk_cell BK.out 0).trans rfl; have hz1 : w3.cell? ⟨gb, 1, none⟩ = some (.slice A1 g1.length c1) := (blk_cell BK.out 1).trans rfl; have hz2 : w3.cell? ⟨gb, 2, none⟩ = some (.slice A2 g2.length c2) := (blk_cell BK.out 2).trans rfl) | (go_at_call 23; (with_reducible refine (impl_Graph_areRight.calls k g0 A1 c1 g1 A2 c2 g2 A2 c2 g2 _ _ ?side1 ?side2 ?side3 ?side4 ?side5 ?side6 HE.out).mono ?_); (case side1 => exact (Kd.C_below HR1.out HB.out)); (case side2 => exact HC1.out); (case side3 => exact (Kd.C_below HR2.out HB.out)); (case side4 => exact HC2.out); (case side5 => exact (Kd.C_below HR2.out HB.out)); (case side6 => exact HC2.out); rintro e w4 ⟨rfl, hb⟩; have m0_ := Aside0.mk (blk_below BK.out hb); have m1_ := Aside0.mk (below_step HB.out hb); clear hz0 hz1 hz2; clear BK HB; have BK := m0_; have HB := m1_; clear m0_ m1_ hb; have hz0 : w4.cell? ⟨gb, 0, none⟩ = some (.int .i64 g0) := (blk_cell BK.out 0).trans rfl; have hz1 : w4.cell? ⟨gb, 1, none⟩ = some (.slice A1 g1.length c1) := (blk_cell BK.out 1).trans rfl; have hz2 : w4.cell? ⟨gb, 2, none⟩ = some (.slice A2 g2.length c2) := (blk_cell BK.out 2).trans rfl) | (go_at_call 24; (with_reducible refine (impl_GraphRight.any1 k g0 A1 c1 g1 A2 c2 g2 _ gb _ ?side1 ?side2 ?side3 ?side4 hz0 hz1 hz2 HX.out).mono ?_); (case side1 => exact (Kd.C_below HR1.out HB.out)); (case side2 => exact HC1.out); (case side3 => exact (Kd.C_below HR2.out HB.out)); (case side4 => exact HC2.out); rintro e w5 ⟨rfl, hb⟩; have m0_ := Aside0.mk (blk_below BK.out hb); have m1_ := Aside0.mk (below_step HB.out hb); clear hz0 hz1 hz2; clear BK HB; have BK := m0_; have HB := m1_; clear m0_ m1_ hb; have hz0 : w5.cell? ⟨gb, 0, none⟩ = some (.int .i64 g0) := (blk_cell BK.out 0).trans rfl; have hz1 : w5.cell? ⟨gb, 1, none⟩ = some (.slice A1 g1.length c1) := (blk_cell BK.out 1).trans rfl; have hz2 : w5.cell? ⟨gb, 2, none⟩ = some (.slice A2 g2.length c2) := (blk_cell BK.out 2).trans rfl) | (go_at_call 24; (with_reducible refine (impl_GraphRight.any2 k g0 A1 c1 g1 A2 c2 g2 _ gb _ ?side1 ?side2 ?side3 ?side4 hz0 hz1 hz2 HY.out).mono ?_); (case side1 => exact (Kd.C_below HR1.out HB.out)); (case side2 => exact HC1.out); (case side3 => exact (Kd.C_below HR2.out HB.out)); (case side4 => exact HC2.out); rintro e w6 ⟨rfl, hb⟩; have m0_ := Aside0.mk (blk_below BK.out hb); have m1_ := Aside0.mk (below_step HB.out hb); clear hz0 hz1 hz2; clear BK HB; have BK := m0_; have HB := m1_; clear m0_ m1_ hb; have hz0 : w6.cell? ⟨gb, 0, none⟩ = some (.int .i64 g0) := (blk_cell BK.out 0).trans rfl; have hz1 : w6.cell? ⟨gb, 1, none⟩ = some (.slice A1 g1.length c1) := (blk_cell BK.out 1).trans rfl; have hz2 : w6.cell? ⟨gb, 2, none⟩ = some (.slice A2 g2.length c2) := (blk_cell BK.out 2).trans rfl) | (go_at_call 29; (with_reducible refine (impl_Graph_depths.calls k g0 A1 c1 g1 A2 c2 g2 _ _ _ ?side1 ?side2 ?side3 ?side4 HD.out).mono ?_); (case side1 => exact (Kd.C_below HR1.out HB.out)); (case side2 => exact HC1.out); (case side3 => exact (Kd.C_below HR2.out HB.out)); (case side4 => exact HC2.out); rintro e w7 ⟨v0_, rfl, _, hb⟩; have m0_ := Aside0.mk (blk_below BK.out hb); have m1_ := Aside0.mk (below_step HB.out hb); clear hz0 hz1 hz2; clear BK HB; have BK := m0_; have HB := m1_; clear m0_ m1_ hb; have hz0 : w7.cell? ⟨gb, 0, none⟩ = some (.int .i64 g0) := (blk_cell BK.out 0).trans rfl; have hz1 : w7.cell? ⟨gb, 1, none⟩ = some (.slice A1 g1.length c1) := (blk_cell BK.out 1).trans rfl; have hz2 : w7.cell? ⟨gb, 2, none⟩ = some (.slice A2 g2.length c2) := (blk_cell BK.out 2).trans rfl))
            go_ret
            exact ⟨by first | rfl | simp, HB.out⟩

/-! ### impl_DepthOf: function 12 -/
def impl_DepthOf.f (k : Nat) (a0_0 : Int) (l0_1 : List (S43)) (l0_2 : List (S43)) (a1 : Int) : Option (Int) := (impl_find.f k l0_1 a1).bind fun bt281 => ((impl_GraphRight.f k a0_0 l0_1 l0_2).bind fun t283 => (if t283 = true then (if bt281.2 = true then ((impl_Graph_depths.f k a0_0 l0_1 l0_2).bind fun bt284 => (if 0 ≤ bt281.1 then (if bt281.1 < (bt284.1.length : Int) then (some (rd bt284.1 bt281.1)) else (none)) else (none))) else (some 0)) else (some 0)))
theorem impl_DepthOf.mono : ∀ a0 a1 a2 a3 k, LeO (impl_DepthOf.f k a0 a1 a2 a3) (impl_DepthOf.f (k + 1) a0 a1 a2 a3) := by
  intro a0 a1 a2 a3 k
  unfold impl_DepthOf.f
  repeat' first
      | (with_reducible exact impl_GraphRight.mono _ _ _ _)
      | (with_reducible exact impl_Graph_depths.mono _ _ _ _)
      | (with_reducible exact impl_find.mono _ _ _)
      | (with_reducible exact LeO.refl _)
      | (with_reducible exact LeO.none _)
      | (with_reducible refine LeO.ite ?_ ?_)
      | (with_reducible refine LeO.bind ?_ (fun _ => ?_))
      | exact impl_GraphRight.mono _ _ _ _
      | exact impl_Graph_depths.mono _ _ _ _
      | exact impl_find.mono _ _ _
      | exact LeO.none _
      | refine LeO.ite ?_ ?_
      | refine LeO.bind ?_ (fun _ => ?_)
set_option maxHeartbeats 8000000 in
set_option maxRecDepth 100000 in
theorem impl_DepthOf.calls (k : Nat) (a0_0 : Int) (A0_1 : Option Addr) (c0_1 : Nat) (l0_1 : List (S43)) (A0_2 : Option Addr) (c0_2 : Nat) (l0_2 : List (S43)) (a1 : Int) (r : Int) (w : World) (hr0_1 : Kd.C k43 w A0_1 l0_1.length l0_1) (hc0_1 : l0_1.length ≤ c0_1) (hr0_2 : Kd.C k43 w A0_2 l0_2.length l0_2) (hc0_2 : l0_2.length ≤ c0_2) (h : impl_DepthOf.f k a0_0 l0_1 l0_2 a1 = some r) :
    Calls Try.prog 12 #[.agg #[.int .i64 a0_0, .slice A0_1 l0_1.length c0_1, .slice A0_2 l0_2.length c0_2], .int .i64 a1] w fun e w' => e = .returned (.int .i64 r) ∧ Below w.heap.size w w' := by
 have hu29 := Try.underlying29
 have HR0_1 := Aside0.mk hr0_1
 have HC0_1 := Aside0.mk hc0_1
 clear hr0_1 hc0_1
 have HR0_2 := Aside0.mk hr0_2
 have HC0_2 := Aside0.mk hc0_2
 clear hr0_2 hc0_2
 have HB := Aside0.mk (Below.refl w.heap.size w)
 have H : ((impl_find.f k l0_1 a1).bind fun bt281 => ((impl_GraphRight.f k a0_0 l0_1 l0_2).bind fun t283 => (if t283 = true then (if bt281.2 = true then ((impl_Graph_depths.f k a0_0 l0_1 l0_2).bind fun bt284 => (if 0 ≤ bt281.1 then (if bt281.1 < (bt284.1.length : Int) then (some (rd bt284.1 bt281.1)) else (none)) else (none))) else (some 0)) else (some 0)))) = some r := h
 clear h
 replace H := Option.bind_eq_some_iff.mp H
 obtain ⟨⟨t281, t282⟩, A30, H⟩ := H
 replace H : ((impl_GraphRight.f k a0_0 l0_1 l0_2).bind fun t283 => (if t283 = true then (if t282 = true then ((impl_Graph_depths.f k a0_0 l0_1 l0_2).bind fun bt284 => (if 0 ≤ t281 then (if t281 < (bt284.1.length : Int) then (some (rd bt284.1 t281)) else (none)) else (none))) else (some 0)) else (some 0))) = some r := H
 have A3 := Aside0.mk A30
 clear A30
 replace H := Option.bind_eq_some_iff.mp H
 obtain ⟨t283, A40, H⟩ := H
 replace H : (if t283 = true then (if t282 = true then ((impl_Graph_depths.f k a0_0 l0_1 l0_2).bind fun bt284 => (if 0 ≤ t281 then (if t281 < (bt284.1.length : Int) then (some (rd bt284.1 t281)) else (none)) else (none))) else (some 0)) else (some 0)) = some r := H
 have A4 := Aside0.mk A40
 clear A40
 by_cases c5 : t283 = true
 ·
  subst c5
  have H1 : (if t282 = true then ((impl_Graph_depths.f k a0_0 l0_1 l0_2).bind fun bt284 => (if 0 ≤ t281 then (if t281 < (bt284.1.length : Int) then (some (rd bt284.1 t281)) else (none)) else (none))) else (some 0)) = some r := by rw [if_pos rfl] at H; exact H
  clear H
  have H := H1
  clear H1
  by_cases c6 : t282 = true
  ·
   subst c6
   have H1 : ((impl_Graph_depths.f k a0_0 l0_1 l0_2).bind fun bt284 => (if 0 ≤ t281 then (if t281 < (bt284.1.length : Int) then (some (rd bt284.1 t281)) else (none)) else (none))) = some r := by rw [if_pos rfl] at H; exact H
   clear H
   have H := H1
   clear H1
   replace H := Option.bind_eq_some_iff.mp H
   obtain ⟨⟨t284, t287⟩, A70, H⟩ := H
   replace H : (if 0 ≤ t281 then (if t281 < (t284.length : Int) then (some (rd t284 t281)) else (none)) else (none)) = some r := H
   have A7 := Aside0.mk A70
   clear A70
   by_cases c8 : 0 ≤ t281
   ·
    rw [if_pos c8] at H
    have c8b0 : decide (0 ≤ t281) = true := decide_eq_true c8
    clear c8
    by_cases c9 : t281 < (t284.length : Int)
    ·
     rw [if_pos c9] at H
     have c9b0 : decide (t281 < (t284.length : Int)) = true := decide_eq_true c9
     clear c9
     obtain rfl := Option.some.inj H
     go_enter Try.func12, Try.ntmps12
     go_wp2_with (first | ((with_reducible refine gate_dst (N := 2) rfl ?_); refine box_event ?hg (N := 2) ?hd (cs := #[.int .i64 a0_0, .slice A0_1 l0_1.length c0_1, .slice A0_2 l0_2.length c0_2]) (t := 29) ?hr ?_; (case hd => rfl); (case hg => rfl); (case hr => first | (go_simp; done) | (go_simp; rfl)); intro gb280 hg w10 hbox hb; have n0_ := Aside0.mk (below_step HB.out hb); have n1_ := Aside0.mk (hbox); have n2_ := Aside0.mk ((by rw [hg]; exact (below_size HB.out) : w.heap.size ≤ gb280)); have n3_ := Aside0.mk ((by rw [hg]; exact (below_size HB.out) : w.heap.size ≤ gb280)); clear HB; have HB := n0_; have BK280 := n1_; have GW280 := n2_; have GE280 := n3_; clear n0_ n1_ n2_ n3_; clear hb hbox hg; obtain ⟨⟨hcz11_0, hcz11_1, hcz11_2⟩, hfz11_0, hfz11_1, hfz11_2⟩ := cells_3 BK280.out) | ((with_reducible refine gate_callee (f := 31) rfl ?_); refine goesL_ (some 13) rfl rfl Try.func31 (by kernel_rfl) rfl #[.slice A0_1 l0_1.length c0_1, .int .i64 a1] rfl (by (try simp only [List.map_toArray, List.map_cons, List.map_nil]); first | done | rfl | (simp only [List.length_drop, List.length_take]; rfl)) ?_; (with_reducible refine (impl_find.calls k _ _ l0_1 a1 t281 true _ ?side1 ?side2 A3.out).mono ?_); (case side1 => repeat (first | exact (Kd.C_below HR0_1.out HB.out) | (with_reducible refine Kd.C_alloc ?_ _) | (with_reducible refine Kd.C_drewN ?_ _) | (with_reducible refine Kd.C_drew ?_))); (case side2 => exact HC0_1.out); rintro e w12 ⟨rfl, hb⟩; refine ⟨_, rfl, ?_⟩; have n0_ := Aside0.mk (blk_below BK280.out hb); have n1_ := Aside0.mk (below_step HB.out hb); clear BK280; clear HB; have BK280 := n0_; have HB := n1_; clear n0_ n1_; (try clear hb); (try clear hb2); (try clear hk); (try clear hi); obtain ⟨⟨hcz13_0, hcz13_1, hcz13_2⟩, hfz13_0, hfz13_1, hfz13_2⟩ := cells_3 BK280.out) | ((with_reducible refine gate_callee (f := 9) rfl ?_); refine goesL_ (some 17) rfl rfl Try.func9 (by kernel_rfl) rfl #[.agg #[.int .i64 a0_0, .slice A0_1 l0_1.length c0_1, .slice A0_2 l0_2.length c0_2]] rfl (by (try simp only [List.map_toArray, List.map_cons, List.map_nil]); first | done | rfl | (simp only [List.length_drop, List.length_take]; rfl)) ?_; (with_reducible refine (impl_GraphRight.calls k a0_0 _ _ l0_1 _ _ l0_2 true _ ?side1 ?side2 ?side3 ?side4 A4.out).mono ?_); (case side1 => repeat (first | exact (Kd.C_below HR0_1.out HB.out) | (with_reducible refine Kd.C_alloc ?_ _) | (with_reducible refine Kd.C_drewN ?_ _) | (with_reducible refine Kd.C_drew ?_))); (case side2 => exact HC0_1.out); (case side3 => repeat (first | exact (Kd.C_below HR0_2.out HB.out) | (with_reducible refine Kd.C_alloc ?_ _) | (with_reducible refine Kd.C_drewN ?_ _) | (with_reducible refine Kd.C_drew ?_))); (case side4 => exact HC0_2.out); rintro e w14 ⟨rfl, hb⟩; refine ⟨_, rfl, ?_⟩; have n0_ := Aside0.mk (blk_below BK280.out hb); have n1_ := Aside0.mk (below_step HB.out hb); clear BK280; clear HB; have BK280 := n0_; have HB := n1_; clear n0_ n1_; (try clear hb); (try clear hb2); (try clear hk); (try clear hi); obtain ⟨⟨hcz15_0, hcz15_1, hcz15_2⟩, hfz15_0, hfz15_1, hfz15_2⟩ := cells_3 BK280.out) | ((with_reducible refine gate_callee (f := 29) rfl ?_); refine goesL_ (some 25) rfl rfl Try.func29 (by kernel_rfl) rfl #[.agg #[.int .i64 a0_0, .slice A0_1 l0_1.length c0_1, .slice A0_2 l0_2.length c0_2]] rfl (by (try simp only [List.map_toArray, List.map_cons, List.map_nil]); first | done | rfl | (simp only [List.length_drop, List.length_take]; rfl)) ?_; (with_reducible refine (impl_Graph_depths.calls k a0_0 _ _ l0_1 _ _ l0_2 t284 t287 _ ?side1 ?side2 ?side3 ?side4 A7.out).mono ?_); (case side1 => repeat (first | exact (Kd.C_below HR0_1.out HB.out) | (with_reducible refine Kd.C_alloc ?_ _) | (with_reducible refine Kd.C_drewN ?_ _) | (with_reducible refine Kd.C_drew ?_))); (case side2 => exact HC0_1.out); (case side3 => repeat (first | exact (Kd.C_below HR0_2.out HB.out) | (with_reducible refine Kd.C_alloc ?_ _) | (with_reducible refine Kd.C_drewN ?_ _) | (with_reducible refine Kd.C_drew ?_))); (case side4 => exact HC0_2.out); rintro e w16 ⟨v285, rfl, ho0, hb⟩; refine ⟨_, rfl, ?_⟩; have n0_ := Aside0.mk (Kd.R_lower ho0 (below_size HB.out)); have n1_ := Aside0.mk (blk_below BK280.out hb); have n2_ := Aside0.mk (below_step HB.out hb); clear BK280; clear HB; have HO286 := n0_; have BK280 := n1_; have HB := n2_; clear n0_ n1_ n2_; (try clear hb); (try clear hb2); (try clear hk); (try clear hi); (try clear ho0); obtain ⟨Ao17, co17, eo17⟩ := Kd.R_slice HO286.out; subst eo17; have p288 : 0 ≤ (t281 : Int) := of_decide_eq_true (by first | (with_reducible assumption) | assumption); have q288 : t281 < (t284.length : Int) := of_decide_eq_true (by first | (with_reducible assumption) | assumption); obtain ⟨ad288, e288, hx288_0⟩ := Kd.at_int (Kd.R_reads' HO286.out).2.2 t281 p288 q288; cases e288; replace p288 := eq_true p288; replace q288 := eq_true q288))
     go_ret
     exact ⟨a2_, (a3_ HB.out GE280.out)⟩
    ·
     rw [if_neg c9] at H
     exact absurd H (by simp)
   ·
    rw [if_neg c8] at H
    exact absurd H (by simp)
  ·
   replace c6 := Bool.eq_false_iff.mpr c6
   subst c6
   have H1 : (some 0) = some r := by rw [if_neg (show ¬ (false = true) by decide)] at H; exact H
   clear H
   have H := H1
   clear H1
   obtain rfl := Option.some.inj H
   go_enter Try.func12, Try.ntmps12
   go_wp2_with (first | ((with_reducible refine gate_dst (N := 2) rfl ?_); refine box_event ?hg (N := 2) ?hd (cs := #[.int .i64 a0_0, .slice A0_1 l0_1.length c0_1, .slice A0_2 l0_2.length c0_2]) (t := 29) ?hr ?_; (case hd => rfl); (case hg => rfl); (case hr => first | (go_simp; done) | (go_simp; rfl)); intro gb280 hg w18 hbox hb; have n0_ := Aside0.mk (below_step HB.out hb); have n1_ := Aside0.mk (hbox); have n2_ := Aside0.mk ((by rw [hg]; exact (below_size HB.out) : w.heap.size ≤ gb280)); have n3_ := Aside0.mk ((by rw [hg]; exact (below_size HB.out) : w.heap.size ≤ gb280)); clear HB; have HB := n0_; have BK280 := n1_; have GW280 := n2_; have GE280 := n3_; clear n0_ n1_ n2_ n3_; clear hb hbox hg; obtain ⟨⟨hcz19_0, hcz19_1, hcz19_2⟩, hfz19_0, hfz19_1, hfz19_2⟩ := cells_3 BK280.out) | ((with_reducible refine gate_callee (f := 31) rfl ?_); refine goesL_ (some 13) rfl rfl Try.func31 (by kernel_rfl) rfl #[.slice A0_1 l0_1.length c0_1, .int .i64 a1] rfl (by (try simp only [List.map_toArray, List.map_cons, List.map_nil]); first | done | rfl | (simp only [List.length_drop, List.length_take]; rfl)) ?_; (with_reducible refine (impl_find.calls k _ _ l0_1 a1 t281 false _ ?side1 ?side2 A3.out).mono ?_); (case side1 => repeat (first | exact (Kd.C_below HR0_1.out HB.out) | (with_reducible refine Kd.C_alloc ?_ _) | (with_reducible refine Kd.C_drewN ?_ _) | (with_reducible refine Kd.C_drew ?_))); (case side2 => exact HC0_1.out); rintro e w20 ⟨rfl, hb⟩; refine ⟨_, rfl, ?_⟩; have n0_ := Aside0.mk (blk_below BK280.out hb); have n1_ := Aside0.mk (below_step HB.out hb); clear BK280; clear HB; have BK280 := n0_; have HB := n1_; clear n0_ n1_; (try clear hb); (try clear hb2); (try clear hk); (try clear hi); obtain ⟨⟨hcz21_0, hcz21_1, hcz21_2⟩, hfz21_0, hfz21_1, hfz21_2⟩ := cells_3 BK280.out) | ((with_reducible refine gate_callee (f := 9) rfl ?_); refine goesL_ (some 17) rfl rfl Try.func9 (by kernel_rfl) rfl #[.agg #[.int .i64 a0_0, .slice A0_1 l0_1.length c0_1, .slice A0_2 l0_2.length c0_2]] rfl (by (try simp only [List.map_toArray, List.map_cons, List.map_nil]); first | done | rfl | (simp only [List.length_drop, List.length_take]; rfl)) ?_; (with_reducible refine (impl_GraphRight.calls k a0_0 _ _ l0_1 _ _ l0_2 true _ ?side1 ?side2 ?side3 ?side4 A4.out).mono ?_); (case side1 => repeat (first | exact (Kd.C_below HR0_1.out HB.out) | (with_reducible refine Kd.C_alloc ?_ _) | (with_reducible refine Kd.C_drewN ?_ _) | (with_reducible refine Kd.C_drew ?_))); (case side2 => exact HC0_1.out); (case side3 => repeat (first | exact (Kd.C_below HR0_2.out HB.out) | (with_reducible refine Kd.C_alloc ?_ _) | (with_reducible refine Kd.C_drewN ?_ _) | (with_reducible refine Kd.C_drew ?_))); (case side4 => exact HC0_2.out); rintro e w22 ⟨rfl, hb⟩; refine ⟨_, rfl, ?_⟩; have n0_ := Aside0.mk (blk_below BK280.out hb); have n1_ := Aside0.mk (below_step HB.out hb); clear BK280; clear HB; have BK280 := n0_; have HB := n1_; clear n0_ n1_; (try clear hb); (try clear hb2); (try clear hk); (try clear hi)))
   go_ret
   exact ⟨a2_, (a3_ HB.out GE280.out)⟩
 ·
  replace c5 := Bool.eq_false_iff.mpr c5
  subst c5
  have H1 : (some 0) = some r := by rw [if_neg (show ¬ (false = true) by decide)] at H; exact H
  clear H
  have H := H1
  clear H1
  obtain rfl := Option.some.inj H
  go_enter Try.func12, Try.ntmps12
  go_wp2_with (first | ((with_reducible refine gate_dst (N := 2) rfl ?_); refine box_event ?hg (N := 2) ?hd (cs := #[.int .i64 a0_0, .slice A0_1 l0_1.length c0_1, .slice A0_2 l0_2.length c0_2]) (t := 29) ?hr ?_; (case hd => rfl); (case hg => rfl); (case hr => first | (go_simp; done) | (go_simp; rfl)); intro gb280 hg w23 hbox hb; have n0_ := Aside0.mk (below_step HB.out hb); have n1_ := Aside0.mk (hbox); have n2_ := Aside0.mk ((by rw [hg]; exact (below_size HB.out) : w.heap.size ≤ gb280)); have n3_ := Aside0.mk ((by rw [hg]; exact (below_size HB.out) : w.heap.size ≤ gb280)); clear HB; have HB := n0_; have BK280 := n1_; have GW280 := n2_; have GE280 := n3_; clear n0_ n1_ n2_ n3_; clear hb hbox hg; obtain ⟨⟨hcz24_0, hcz24_1, hcz24_2⟩, hfz24_0, hfz24_1, hfz24_2⟩ := cells_3 BK280.out) | ((with_reducible refine gate_callee (f := 31) rfl ?_); refine goesL_ (some 13) rfl rfl Try.func31 (by kernel_rfl) rfl #[.slice A0_1 l0_1.length c0_1, .int .i64 a1] rfl (by (try simp only [List.map_toArray, List.map_cons, List.map_nil]); first | done | rfl | (simp only [List.length_drop, List.length_take]; rfl)) ?_; (with_reducible refine (impl_find.calls k _ _ l0_1 a1 t281 t282 _ ?side1 ?side2 A3.out).mono ?_); (case side1 => repeat (first | exact (Kd.C_below HR0_1.out HB.out) | (with_reducible refine Kd.C_alloc ?_ _) | (with_reducible refine Kd.C_drewN ?_ _) | (with_reducible refine Kd.C_drew ?_))); (case side2 => exact HC0_1.out); rintro e w25 ⟨rfl, hb⟩; refine ⟨_, rfl, ?_⟩; have n0_ := Aside0.mk (blk_below BK280.out hb); have n1_ := Aside0.mk (below_step HB.out hb); clear BK280; clear HB; have BK280 := n0_; have HB := n1_; clear n0_ n1_; (try clear hb); (try clear hb2); (try clear hk); (try clear hi); obtain ⟨⟨hcz26_0, hcz26_1, hcz26_2⟩, hfz26_0, hfz26_1, hfz26_2⟩ := cells_3 BK280.out) | ((with_reducible refine gate_callee (f := 9) rfl ?_); refine goesL_ (some 17) rfl rfl Try.func9 (by kernel_rfl) rfl #[.agg #[.int .i64 a0_0, .slice A0_1 l0_1.length c0_1, .slice A0_2 l0_2.length c0_2]] rfl (by (try simp only [List.map_toArray, List.map_cons, List.map_nil]); first | done | rfl | (simp only [List.length_drop, List.length_take]; rfl)) ?_; (with_reducible refine (impl_GraphRight.calls k a0_0 _ _ l0_1 _ _ l0_2 false _ ?side1 ?side2 ?side3 ?side4 A4.out).mono ?_); (case side1 => repeat (first | exact (Kd.C_below HR0_1.out HB.out) | (with_reducible refine Kd.C_alloc ?_ _) | (with_reducible refine Kd.C_drewN ?_ _) | (with_reducible refine Kd.C_drew ?_))); (case side2 => exact HC0_1.out); (case side3 => repeat (first | exact (Kd.C_below HR0_2.out HB.out) | (with_reducible refine Kd.C_alloc ?_ _) | (with_reducible refine Kd.C_drewN ?_ _) | (with_reducible refine Kd.C_drew ?_))); (case side4 => exact HC0_2.out); rintro e w27 ⟨rfl, hb⟩; refine ⟨_, rfl, ?_⟩; have n0_ := Aside0.mk (blk_below BK280.out hb); have n1_ := Aside0.mk (below_step HB.out hb); clear BK280; clear HB; have BK280 := n0_; have HB := n1_; clear n0_ n1_; (try clear hb); (try clear hb2); (try clear hk); (try clear hi)))
  go_ret
  exact ⟨a2_, (a3_ HB.out GE280.out)⟩

/-! ### laws_FnExactDepthOf: function 4 -/
def laws_FnExactDepthOf.f (k : Nat) (a0_0 : Int) (l0_1 : List (S60)) (l0_2 : List (S60)) (a1 : Int) : Option (Bool) := (laws_szGraph.f k a0_0 l0_1 l0_2 1048576).bind fun t290 => (if t290 < 0 then (some true) else ((laws_toGraph.f k a0_0 l0_1 l0_2).bind fun bt291 => ((spec_DepthOf.f k bt291.1 bt291.2.1 bt291.2.2 a1).bind fun t298 => ((laws_toGraph.f k a0_0 l0_1 l0_2).bind fun bt299 => ((impl_DepthOf.f k bt299.1 bt299.2.1 bt299.2.2 a1).bind fun t307 => (if t307 = t298 then ((laws_toGraph.f k a0_0 l0_1 l0_2).bind fun bt308 => ((laws_eqGraph.f k bt299.1 bt299.2.1 bt299.2.2 bt308.1 bt308.2.1 bt308.2.2).bind fun t315 => (if t315 = true then (some true) else (some false)))) else (some false)))))))
theorem laws_FnExactDepthOf.mono : ∀ a0 a1 a2 a3 k, LeO (laws_FnExactDepthOf.f k a0 a1 a2 a3) (laws_FnExactDepthOf.f (k + 1) a0 a1 a2 a3) := by
  intro a0 a1 a2 a3 k
  unfold laws_FnExactDepthOf.f
  repeat' first
      | (with_reducible exact impl_DepthOf.mono _ _ _ _ _)
      | (with_reducible exact laws_eqGraph.mono _ _ _ _ _ _ _)
      | (with_reducible exact laws_szGraph.mono _ _ _ _ _)
      | (with_reducible exact laws_toGraph.mono _ _ _ _)
      | (with_reducible exact spec_DepthOf.mono _ _ _ _ _)
      | (with_reducible exact LeO.refl _)
      | (with_reducible exact LeO.none _)
      | (with_reducible refine LeO.ite ?_ ?_)
      | (with_reducible refine LeO.bind ?_ (fun _ => ?_))
      | exact impl_DepthOf.mono _ _ _ _ _
      | exact laws_eqGraph.mono _ _ _ _ _ _ _
      | exact laws_szGraph.mono _ _ _ _ _
      | exact laws_toGraph.mono _ _ _ _
      | exact spec_DepthOf.mono _ _ _ _ _
      | exact LeO.none _
      | refine LeO.ite ?_ ?_
      | refine LeO.bind ?_ (fun _ => ?_)
set_option maxHeartbeats 8000000 in
set_option maxRecDepth 100000 in
theorem laws_FnExactDepthOf.calls (k : Nat) (a0_0 : Int) (A0_1 : Option Addr) (c0_1 : Nat) (l0_1 : List (S60)) (A0_2 : Option Addr) (c0_2 : Nat) (l0_2 : List (S60)) (a1 : Int) (r : Bool) (w : World) (hr0_1 : Kd.C k60 w A0_1 l0_1.length l0_1) (hc0_1 : l0_1.length ≤ c0_1) (hr0_2 : Kd.C k60 w A0_2 l0_2.length l0_2) (hc0_2 : l0_2.length ≤ c0_2) (h : laws_FnExactDepthOf.f k a0_0 l0_1 l0_2 a1 = some r) :
    Calls Try.prog 4 #[.agg #[.int .i64 a0_0, .slice A0_1 l0_1.length c0_1, .slice A0_2 l0_2.length c0_2], .int .i64 a1] w fun e w' => e = .returned (.bool r) ∧ Below w.heap.size w w' := by
 have hu24 := Try.underlying24
 have hu29 := Try.underlying29
 have HR0_1 := Aside0.mk hr0_1
 have HC0_1 := Aside0.mk hc0_1
 clear hr0_1 hc0_1
 have HR0_2 := Aside0.mk hr0_2
 have HC0_2 := Aside0.mk hc0_2
 clear hr0_2 hc0_2
 have HB := Aside0.mk (Below.refl w.heap.size w)
 have H : ((laws_szGraph.f k a0_0 l0_1 l0_2 1048576).bind fun t290 => (if t290 < 0 then (some true) else ((laws_toGraph.f k a0_0 l0_1 l0_2).bind fun bt291 => ((spec_DepthOf.f k bt291.1 bt291.2.1 bt291.2.2 a1).bind fun t298 => ((laws_toGraph.f k a0_0 l0_1 l0_2).bind fun bt299 => ((impl_DepthOf.f k bt299.1 bt299.2.1 bt299.2.2 a1).bind fun t307 => (if t307 = t298 then ((laws_toGraph.f k a0_0 l0_1 l0_2).bind fun bt308 => ((laws_eqGraph.f k bt299.1 bt299.2.1 bt299.2.2 bt308.1 bt308.2.1 bt308.2.2).bind fun t315 => (if t315 = true then (some true) else (some false)))) else (some false)))))))) = some r := h
 clear h
 replace H := Option.bind_eq_some_iff.mp H
 obtain ⟨t290, A30, H⟩ := H
 replace H : (if t290 < 0 then (some true) else ((laws_toGraph.f k a0_0 l0_1 l0_2).bind fun bt291 => ((spec_DepthOf.f k bt291.1 bt291.2.1 bt291.2.2 a1).bind fun t298 => ((laws_toGraph.f k a0_0 l0_1 l0_2).bind fun bt299 => ((impl_DepthOf.f k bt299.1 bt299.2.1 bt299.2.2 a1).bind fun t307 => (if t307 = t298 then ((laws_toGraph.f k a0_0 l0_1 l0_2).bind fun bt308 => ((laws_eqGraph.f k bt299.1 bt299.2.1 bt299.2.2 bt308.1 bt308.2.1 bt308.2.2).bind fun t315 => (if t315 = true then (some true) else (some false)))) else (some false))))))) = some r := H
 have A3 := Aside0.mk A30
 clear A30
 go_enter Try.func4, Try.ntmps4
 go_upto_if 13 with (first | ((with_reducible refine gate_dst (N := 2) rfl ?_); refine box_event ?hg (N := 2) ?hd (cs := #[.int .i64 a0_0, .slice A0_1 l0_1.length c0_1, .slice A0_2 l0_2.length c0_2]) (t := 24) ?hr ?_; (case hd => rfl); (case hg => rfl); (case hr => first | (go_simp; done) | (go_simp; rfl)); intro gb289 hg w5 hbox hb; have n0_ := Aside0.mk (below_step (a1_ HB.out) hb); have n1_ := Aside0.mk (hbox); have n2_ := Aside0.mk ((by rw [hg]; exact (below_size (a1_ HB.out)) : w.heap.size ≤ gb289)); have n3_ := Aside0.mk ((by rw [hg]; exact (below_size (a1_ HB.out)) : w.heap.size ≤ gb289)); clear HB; have HB := n0_; have BK289 := n1_; have GW289 := n2_; have GE289 := n3_; clear n0_ n1_ n2_ n3_; clear hb hbox hg; obtain ⟨⟨hcz6_0, hcz6_1, hcz6_2⟩, hfz6_0, hfz6_1, hfz6_2⟩ := cells_3 BK289.out) | ((with_reducible refine gate_callee (f := 6) rfl ?_); refine goesL_ (some 11) rfl rfl Try.func6 (by kernel_rfl) rfl #[.agg #[.int .i64 a0_0, .slice A0_1 l0_1.length c0_1, .slice A0_2 l0_2.length c0_2], .int .i64 1048576] rfl (by (try simp only [List.map_toArray, List.map_cons, List.map_nil]); first | done | rfl | (simp only [List.length_drop, List.length_take]; rfl)) ?_; (with_reducible refine (laws_szGraph.calls k a0_0 _ _ l0_1 _ _ l0_2 1048576 t290 _ ?side1 ?side2 ?side3 ?side4 A3.out).mono ?_); (case side1 => repeat (first | exact (Kd.C_below HR0_1.out HB.out) | (with_reducible refine Kd.C_alloc ?_ _) | (with_reducible refine Kd.C_drewN ?_ _) | (with_reducible refine Kd.C_drew ?_))); (case side2 => exact HC0_1.out); (case side3 => repeat (first | exact (Kd.C_below HR0_2.out HB.out) | (with_reducible refine Kd.C_alloc ?_ _) | (with_reducible refine Kd.C_drewN ?_ _) | (with_reducible refine Kd.C_drew ?_))); (case side4 => exact HC0_2.out); rintro e w18 ⟨rfl, hb⟩; refine ⟨_, rfl, ?_⟩; have n0_ := Aside0.mk (blk_below (g := gb289) (o := .cells #[.int .i64 a0_0, .slice A0_1 l0_1.length c0_1, .slice A0_2 l0_2.length c0_2] 24 (0, 0)) (a5_ BK289.out) hb); have n1_ := Aside0.mk (below_step (a3_ HB.out GE289.out) hb); clear BK289; clear HB; have BK289 := n0_; have HB := n1_; clear n0_ n1_; (try clear hb); (try clear hb2); (try clear hk); (try clear hi); obtain ⟨⟨hcz19_0, hcz19_1, hcz19_2⟩, hfz19_0, hfz19_1, hfz19_2⟩ := cells_3 BK289.out))
 by_cases c4 : t290 < 0
 ·
  rw [if_pos c4] at H
  have c4b0 : decide (t290 < 0) = true := decide_eq_true c4
  clear c4
  obtain rfl := Option.some.inj H
  (try simp only [c4b0, Bool.not_true, Bool.not_false])
  go_wp2
  go_ret
  exact ⟨a2_, (a3_ HB.out GE289.out)⟩
 ·
  rw [if_neg c4] at H
  have c4b0 : decide (t290 < 0) = false := decide_eq_false c4
  clear c4
  replace H := Option.bind_eq_some_iff.mp H
  obtain ⟨⟨t291, t292, t295⟩, A80, H⟩ := H
  replace H : ((spec_DepthOf.f k t291 t292 t295 a1).bind fun t298 => ((laws_toGraph.f k a0_0 l0_1 l0_2).bind fun bt299 => ((impl_DepthOf.f k bt299.1 bt299.2.1 bt299.2.2 a1).bind fun t307 => (if t307 = t298 then ((laws_toGraph.f k a0_0 l0_1 l0_2).bind fun bt308 => ((laws_eqGraph.f k bt299.1 bt299.2.1 bt299.2.2 bt308.1 bt308.2.1 bt308.2.2).bind fun t315 => (if t315 = true then (some true) else (some false)))) else (some false))))) = some r := H
  have A8 := Aside0.mk A80
  clear A80
  replace H := Option.bind_eq_some_iff.mp H
  obtain ⟨t298, A90, H⟩ := H
  replace H : ((laws_toGraph.f k a0_0 l0_1 l0_2).bind fun bt299 => ((impl_DepthOf.f k bt299.1 bt299.2.1 bt299.2.2 a1).bind fun t307 => (if t307 = t298 then ((laws_toGraph.f k a0_0 l0_1 l0_2).bind fun bt308 => ((laws_eqGraph.f k bt299.1 bt299.2.1 bt299.2.2 bt308.1 bt308.2.1 bt308.2.2).bind fun t315 => (if t315 = true then (some true) else (some false)))) else (some false)))) = some r := H
  have A9 := Aside0.mk A90
  clear A90
  replace H := Option.bind_eq_some_iff.mp H
  obtain ⟨⟨t299, t300, t303⟩, A100, H⟩ := H
  replace H : ((impl_DepthOf.f k t299 t300 t303 a1).bind fun t307 => (if t307 = t298 then ((laws_toGraph.f k a0_0 l0_1 l0_2).bind fun bt308 => ((laws_eqGraph.f k t299 t300 t303 bt308.1 bt308.2.1 bt308.2.2).bind fun t315 => (if t315 = true then (some true) else (some false)))) else (some false))) = some r := H
  have A10 := Aside0.mk A100
  clear A100
  replace H := Option.bind_eq_some_iff.mp H
  obtain ⟨t307, A110, H⟩ := H
  replace H : (if t307 = t298 then ((laws_toGraph.f k a0_0 l0_1 l0_2).bind fun bt308 => ((laws_eqGraph.f k t299 t300 t303 bt308.1 bt308.2.1 bt308.2.2).bind fun t315 => (if t315 = true then (some true) else (some false)))) else (some false)) = some r := H
  have A11 := Aside0.mk A110
  clear A110
  (try simp only [c4b0, Bool.not_true, Bool.not_false])
  go_upto_if 25 with (first | ((with_reducible refine gate_callee (f := 8) rfl ?_); refine goesL_ (some 15) rfl rfl Try.func8 (by kernel_rfl) rfl #[.agg #[.int .i64 a0_0, .slice A0_1 l0_1.length c0_1, .slice A0_2 l0_2.length c0_2]] rfl (by (try simp only [List.map_toArray, List.map_cons, List.map_nil]); first | done | rfl | (simp only [List.length_drop, List.length_take]; rfl)) ?_; (with_reducible refine (laws_toGraph.calls k a0_0 _ _ l0_1 _ _ l0_2 t291 t292 t295 _ ?side1 ?side2 ?side3 ?side4 A8.out).mono ?_); (case side1 => repeat (first | exact (Kd.C_below HR0_1.out HB.out) | (with_reducible refine Kd.C_alloc ?_ _) | (with_reducible refine Kd.C_drewN ?_ _) | (with_reducible refine Kd.C_drew ?_))); (case side2 => exact HC0_1.out); (case side3 => repeat (first | exact (Kd.C_below HR0_2.out HB.out) | (with_reducible refine Kd.C_alloc ?_ _) | (with_reducible refine Kd.C_drewN ?_ _) | (with_reducible refine Kd.C_drew ?_))); (case side4 => exact HC0_2.out); rintro e w20 ⟨v293, v296, rfl, ho0, ho1, hb⟩; refine ⟨_, rfl, ?_⟩; have n0_ := Aside0.mk (Kd.S_lower ho0 (below_size (a3_ HB.out GE289.out))); have n1_ := Aside0.mk (Kd.S_lower ho1 (below_size (a3_ HB.out GE289.out))); have n2_ := Aside0.mk (blk_below (g := gb289) (o := .cells #[.int .i64 a0_0, .slice A0_1 l0_1.length c0_1, .slice A0_2 l0_2.length c0_2] 24 (0, 0)) (a5_ BK289.out) hb); have n3_ := Aside0.mk (below_step (a3_ HB.out GE289.out) hb); clear BK289; clear HB; have HO294 := n0_; have HO297 := n1_; have BK289 := n2_; have HB := n3_; clear n0_ n1_ n2_ n3_; (try clear hb); (try clear hb2); (try clear hk); (try clear hi); (try clear ho0); (try clear ho1); obtain ⟨Ao21, co21, eo21⟩ := Kd.S_slice HO294.out; subst eo21; obtain ⟨Ao22, co22, eo22⟩ := Kd.S_slice HO297.out; subst eo22) | ((with_reducible refine gate_callee (f := 11) rfl ?_); refine goesL_ (some 17) rfl rfl Try.func11 (by kernel_rfl) rfl #[.agg #[.int .i64 t291, .slice Ao21 t292.length co21, .slice Ao22 t295.length co22], .int .i64 a1] rfl (by (try simp only [List.map_toArray, List.map_cons, List.map_nil]); first | done | rfl | (simp only [List.length_drop, List.length_take]; rfl)) ?_; (with_reducible refine (spec_DepthOf.calls k t291 _ _ t292 _ _ t295 a1 t298 _ ?side1 ?side2 ?side3 ?side4 A9.out).mono ?_); (case side1 => repeat (first | exact (Kd.S_reads' HO294.out).2.2 | (with_reducible refine Kd.C_alloc ?_ _) | (with_reducible refine Kd.C_drewN ?_ _) | (with_reducible refine Kd.C_drew ?_))); (case side2 => exact (Kd.S_reads' HO294.out).2.1); (case side3 => repeat (first | exact (Kd.S_reads' HO297.out).2.2 | (with_reducible refine Kd.C_alloc ?_ _) | (with_reducible refine Kd.C_drewN ?_ _) | (with_reducible refine Kd.C_drew ?_))); (case side4 => exact (Kd.S_reads' HO297.out).2.1); rintro e w23 ⟨rfl, hb⟩; refine ⟨_, rfl, ?_⟩; have n0_ := Aside0.mk (Kd.S_below (by (with_reducible repeat (first | apply Kd.S_alloc | apply Kd.S_drewN | apply Kd.S_drew)); exact HO294.out) hb); have n1_ := Aside0.mk (Kd.S_below (by (with_reducible repeat (first | apply Kd.S_alloc | apply Kd.S_drewN | apply Kd.S_drew)); exact HO297.out) hb); have n2_ := Aside0.mk (blk_below (g := gb289) (o := .cells #[.int .i64 a0_0, .slice A0_1 l0_1.length c0_1, .slice A0_2 l0_2.length c0_2] 24 (0, 0)) (a5_ BK289.out) hb); have n3_ := Aside0.mk (below_step (a3_ HB.out GE289.out) hb); clear HO294; clear HO297; clear BK289; clear HB; have HO294 := n0_; have HO297 := n1_; have BK289 := n2_; have HB := n3_; clear n0_ n1_ n2_ n3_; (try clear hb); (try clear hb2); (try clear hk); (try clear hi); obtain ⟨⟨hcz24_0, hcz24_1, hcz24_2⟩, hfz24_0, hfz24_1, hfz24_2⟩ := cells_3 BK289.out) | ((with_reducible refine gate_callee (f := 8) rfl ?_); refine goesL_ (some 19) rfl rfl Try.func8 (by kernel_rfl) rfl #[.agg #[.int .i64 a0_0, .slice A0_1 l0_1.length c0_1, .slice A0_2 l0_2.length c0_2]] rfl (by (try simp only [List.map_toArray, List.map_cons, List.map_nil]); first | done | rfl | (simp only [List.length_drop, List.length_take]; rfl)) ?_; (with_reducible refine (laws_toGraph.calls k a0_0 _ _ l0_1 _ _ l0_2 t299 t300 t303 _ ?side1 ?side2 ?side3 ?side4 A10.out).mono ?_); (case side1 => repeat (first | exact (Kd.C_below HR0_1.out HB.out) | (with_reducible refine Kd.C_alloc ?_ _) | (with_reducible refine Kd.C_drewN ?_ _) | (with_reducible refine Kd.C_drew ?_))); (case side2 => exact HC0_1.out); (case side3 => repeat (first | exact (Kd.C_below HR0_2.out HB.out) | (with_reducible refine Kd.C_alloc ?_ _) | (with_reducible refine Kd.C_drewN ?_ _) | (with_reducible refine Kd.C_drew ?_))); (case side4 => exact HC0_2.out); rintro e w25 ⟨v301, v304, rfl, ho0, ho1, hb⟩; refine ⟨_, rfl, ?_⟩; have n0_ := Aside0.mk (Kd.S_mono (Kd.S_told (Kd.S_told (Kd.S_old (by (with_reducible repeat (first | apply Kd.S_alloc | apply Kd.S_drewN | apply Kd.S_drew)); exact HO294.out) hb) (Kd.S_base ho0)) (Kd.S_base ho1)) (fun _ h_ => h_.1)); have n1_ := Aside0.mk (Kd.S_mono (Kd.S_told (Kd.S_told (Kd.S_old (by (with_reducible repeat (first | apply Kd.S_alloc | apply Kd.S_drewN | apply Kd.S_drew)); exact HO297.out) hb) (Kd.S_base ho0)) (Kd.S_base ho1)) (fun _ h_ => h_.1)); have n2_ := Aside0.mk (Kd.S_lower (Kd.S_new' (Kd.S_new' ho0 (Kd.S_lt (by (with_reducible repeat (first | apply Kd.S_alloc | apply Kd.S_drewN | apply Kd.S_drew)); exact HO294.out))) (Kd.S_lt (by (with_reducible repeat (first | apply Kd.S_alloc | apply Kd.S_drewN | apply Kd.S_drew)); exact HO297.out))) (below_size (a3_ HB.out GE289.out))); have n3_ := Aside0.mk (Kd.S_lower (Kd.S_new' (Kd.S_new' ho1 (Kd.S_lt (by (with_reducible repeat (first | apply Kd.S_alloc | apply Kd.S_drewN | apply Kd.S_drew)); exact HO294.out))) (Kd.S_lt (by (with_reducible repeat (first | apply Kd.S_alloc | apply Kd.S_drewN | apply Kd.S_drew)); exact HO297.out))) (below_size (a3_ HB.out GE289.out))); have n4_ := Aside0.mk (blk_below (g := gb289) (o := .cells #[.int .i64 a0_0, .slice A0_1 l0_1.length c0_1, .slice A0_2 l0_2.length c0_2] 24 (0, 0)) (a5_ BK289.out) hb); have n5_ := Aside0.mk (below_step (a3_ HB.out GE289.out) hb); clear HO294; clear HO297; clear BK289; clear HB; have HO294 := n0_; have HO297 := n1_; have HO302 := n2_; have HO305 := n3_; have BK289 := n4_; have HB := n5_; clear n0_ n1_ n2_ n3_ n4_ n5_; (try clear hb); (try clear hb2); (try clear hk); (try clear hi); (try clear ho0); (try clear ho1)) | ((with_reducible refine gate_dst (N := 7) rfl ?_); refine box_event ?hg (N := 7) ?hd (cs := #[.int .i64 0, .slice none 0 0, .slice none 0 0]) (t := 29) ?hr ?_; (case hd => rfl); (case hg => rfl); (case hr => first | (go_simp; done) | (go_simp; rfl)); intro gb306 hg w26 hbox hb; have n0_ := Aside0.mk (Kd.S_below (by (with_reducible repeat (first | apply Kd.S_alloc | apply Kd.S_drewN | apply Kd.S_drew)); exact HO294.out) hb); have n1_ := Aside0.mk (Kd.S_below (by (with_reducible repeat (first | apply Kd.S_alloc | apply Kd.S_drewN | apply Kd.S_drew)); exact HO297.out) hb); have n2_ := Aside0.mk (Kd.S_below (by (with_reducible repeat (first | apply Kd.S_alloc | apply Kd.S_drewN | apply Kd.S_drew)); exact HO302.out) hb); have n3_ := Aside0.mk (Kd.S_below (by (with_reducible repeat (first | apply Kd.S_alloc | apply Kd.S_drewN | apply Kd.S_drew)); exact HO305.out) hb); have n4_ := Aside0.mk (blk_below (g := gb289) (o := .cells #[.int .i64 a0_0, .slice A0_1 l0_1.length c0_1, .slice A0_2 l0_2.length c0_2] 24 (0, 0)) (a5_ BK289.out) hb); have n5_ := Aside0.mk (below_step (a3_ HB.out GE289.out) hb); have n6_ := Aside0.mk (hbox); have n7_ := Aside0.mk ((by rw [hg]; exact (below_size (a3_ HB.out GE289.out)) : w.heap.size ≤ gb306)); have n8_ := Aside0.mk ((by rw [hg]; exact (below_size (a3_ HB.out GE289.out)) : w.heap.size ≤ gb306)); have n9_ := Aside0.mk ((by rw [hg]; exact Nat.ne_of_lt (blk_lt (g := gb289) (o := .cells #[.int .i64 a0_0, .slice A0_1 l0_1.length c0_1, .slice A0_2 l0_2.length c0_2] 24 (0, 0)) (a5_ BK289.out)) : gb289 ≠ gb306)); have n10_ := Aside0.mk ((by rw [hg]; exact Nat.ne_of_gt (blk_lt (g := gb289) (o := .cells #[.int .i64 a0_0, .slice A0_1 l0_1.length c0_1, .slice A0_2 l0_2.length c0_2] 24 (0, 0)) (a5_ BK289.out)) : gb306 ≠ gb289)); clear HO294; clear HO297; clear HO302; clear HO305; clear BK289; clear HB; have HO294 := n0_; have HO297 := n1_; have HO302 := n2_; have HO305 := n3_; have BK289 := n4_; have HB := n5_; have BK306 := n6_; have GW306 := n7_; have GE306 := n8_; have NB289_306 := n9_; have NB306_289 := n10_; clear n0_ n1_ n2_ n3_ n4_ n5_ n6_ n7_ n8_ n9_ n10_; clear hb hbox hg; have hnb27 := NB306_289.out; have hnc27 := NB289_306.out; obtain ⟨⟨hcz28_0, hcz28_1, hcz28_2⟩, hfz28_0, hfz28_1, hfz28_2⟩ := cells_3 BK306.out; obtain ⟨Ao29, co29, eo29⟩ := Kd.S_slice HO302.out; subst eo29; obtain ⟨Ao30, co30, eo30⟩ := Kd.S_slice HO305.out; subst eo30) | ((with_reducible refine gate_callee (f := 12) rfl ?_); refine goesL_ (some 22) rfl rfl Try.func12 (by kernel_rfl) rfl #[.agg #[.int .i64 t299, .slice Ao29 t300.length co29, .slice Ao30 t303.length co30], .int .i64 a1] rfl (by (try simp only [List.map_toArray, List.map_cons, List.map_nil]); first | done | rfl | (simp only [List.length_drop, List.length_take]; rfl)) ?_; (with_reducible refine (impl_DepthOf.calls k t299 _ _ t300 _ _ t303 a1 t307 _ ?side1 ?side2 ?side3 ?side4 A11.out).mono ?_); (case side1 => refine (Kd.S_reads' (e := 43) (base := w.heap.size) (ok := fun k_ => ((some k_ ≠ (.slice Ao30 t303.length co30 : Value).ownBlock ∧ some k_ ≠ (.slice Ao21 t292.length co21 : Value).ownBlock) ∧ some k_ ≠ (.slice Ao22 t295.length co22 : Value).ownBlock)) (n := t300.length) (c := co29) ?_).2.2; exact (by (with_reducible repeat (first | apply Kd.S_alloc | apply Kd.S_drewN | apply Kd.S_drew)); exact (Kd.S_mono (Kd.S_far (p := ⟨gb306, 2, none⟩) (Kd.S_far (p := ⟨gb306, 1, none⟩) (Kd.S_far (p := ⟨gb306, 0, none⟩) (Kd.S_types HO302.out BK306.out (by decide)) (fun _ hk => hk.2) (.int .i64 t299)) (fun _ hk => hk.2) (.slice Ao29 t300.length co29)) (fun _ hk => hk.2) (.slice Ao30 t303.length co30)) (fun _ h_ => h_.1)))); (case side2 => exact (Kd.S_reads' HO302.out).2.1); (case side3 => refine (Kd.S_reads' (e := 43) (base := w.heap.size) (ok := fun k_ => ((some k_ ≠ (.slice Ao29 t300.length co29 : Value).ownBlock ∧ some k_ ≠ (.slice Ao21 t292.length co21 : Value).ownBlock) ∧ some k_ ≠ (.slice Ao22 t295.length co22 : Value).ownBlock)) (n := t303.length) (c := co30) ?_).2.2; exact (by (with_reducible repeat (first | apply Kd.S_alloc | apply Kd.S_drewN | apply Kd.S_drew)); exact (Kd.S_mono (Kd.S_far (p := ⟨gb306, 2, none⟩) (Kd.S_far (p := ⟨gb306, 1, none⟩) (Kd.S_far (p := ⟨gb306, 0, none⟩) (Kd.S_types HO305.out BK306.out (by decide)) (fun _ hk => hk.2) (.int .i64 t299)) (fun _ hk => hk.2) (.slice Ao29 t300.length co29)) (fun _ hk => hk.2) (.slice Ao30 t303.length co30)) (fun _ h_ => h_.1)))); (case side4 => exact (Kd.S_reads' HO305.out).2.1); rintro e w31 ⟨rfl, hb⟩; refine ⟨_, rfl, ?_⟩; have n0_ := Aside0.mk (Kd.S_below (by (with_reducible repeat (first | apply Kd.S_alloc | apply Kd.S_drewN | apply Kd.S_drew)); exact (Kd.S_mono (Kd.S_far (p := ⟨gb306, 2, none⟩) (Kd.S_far (p := ⟨gb306, 1, none⟩) (Kd.S_far (p := ⟨gb306, 0, none⟩) (Kd.S_types HO294.out BK306.out (by decide)) (fun _ hk => hk.2) (.int .i64 t299)) (fun _ hk => hk.2) (.slice Ao29 t300.length co29)) (fun _ hk => hk.2) (.slice Ao30 t303.length co30)) (fun _ h_ => h_.1))) hb); have n1_ := Aside0.mk (Kd.S_below (by (with_reducible repeat (first | apply Kd.S_alloc | apply Kd.S_drewN | apply Kd.S_drew)); exact (Kd.S_mono (Kd.S_far (p := ⟨gb306, 2, none⟩) (Kd.S_far (p := ⟨gb306, 1, none⟩) (Kd.S_far (p := ⟨gb306, 0, none⟩) (Kd.S_types HO297.out BK306.out (by decide)) (fun _ hk => hk.2) (.int .i64 t299)) (fun _ hk => hk.2) (.slice Ao29 t300.length co29)) (fun _ hk => hk.2) (.slice Ao30 t303.length co30)) (fun _ h_ => h_.1))) hb); have n2_ := Aside0.mk (Kd.S_below (by (with_reducible repeat (first | apply Kd.S_alloc | apply Kd.S_drewN | apply Kd.S_drew)); exact (Kd.S_mono (Kd.S_far (p := ⟨gb306, 2, none⟩) (Kd.S_far (p := ⟨gb306, 1, none⟩) (Kd.S_far (p := ⟨gb306, 0, none⟩) (Kd.S_types HO302.out BK306.out (by decide)) (fun _ hk => hk.2) (.int .i64 t299)) (fun _ hk => hk.2) (.slice Ao29 t300.length co29)) (fun _ hk => hk.2) (.slice Ao30 t303.length co30)) (fun _ h_ => h_.1))) hb); have n3_ := Aside0.mk (Kd.S_below (by (with_reducible repeat (first | apply Kd.S_alloc | apply Kd.S_drewN | apply Kd.S_drew)); exact (Kd.S_mono (Kd.S_far (p := ⟨gb306, 2, none⟩) (Kd.S_far (p := ⟨gb306, 1, none⟩) (Kd.S_far (p := ⟨gb306, 0, none⟩) (Kd.S_types HO305.out BK306.out (by decide)) (fun _ hk => hk.2) (.int .i64 t299)) (fun _ hk => hk.2) (.slice Ao29 t300.length co29)) (fun _ hk => hk.2) (.slice Ao30 t303.length co30)) (fun _ h_ => h_.1))) hb); have n4_ := Aside0.mk (blk_below (g := gb289) (o := .cells #[.int .i64 a0_0, .slice A0_1 l0_1.length c0_1, .slice A0_2 l0_2.length c0_2] 24 (0, 0)) (by (with_reducible repeat (first | refine blk_drewN ?_ _ | refine blk_drew ?_ | refine blk_alloc ?_ _)); refine blk_far ?_ NB289_306.out _; (with_reducible repeat (first | refine blk_drewN ?_ _ | refine blk_drew ?_ | refine blk_alloc ?_ _)); refine blk_far ?_ NB289_306.out _; (with_reducible repeat (first | refine blk_drewN ?_ _ | refine blk_drew ?_ | refine blk_alloc ?_ _)); refine blk_far ?_ NB289_306.out _; (with_reducible repeat (first | refine blk_drewN ?_ _ | refine blk_drew ?_ | refine blk_alloc ?_ _)); exact BK289.out) hb); have n5_ := Aside0.mk (blk_below (g := gb306) (o := .cells #[.int .i64 t299, .slice Ao29 t300.length co29, .slice Ao30 t303.length co30] 29 (0, 0)) (by (with_reducible repeat (first | refine blk_drewN ?_ _ | refine blk_drew ?_ | refine blk_alloc ?_ _)); refine blk_put (cs := #[.int .i64 t299, .slice Ao29 t300.length co29, .slice none 0 0]) ?_ 2 _ rfl; (with_reducible repeat (first | refine blk_drewN ?_ _ | refine blk_drew ?_ | refine blk_alloc ?_ _)); refine blk_put (cs := #[.int .i64 t299, .slice none 0 0, .slice none 0 0]) ?_ 1 _ rfl; (with_reducible repeat (first | refine blk_drewN ?_ _ | refine blk_drew ?_ | refine blk_alloc ?_ _)); refine blk_put (cs := #[.int .i64 0, .slice none 0 0, .slice none 0 0]) ?_ 0 _ rfl; (with_reducible repeat (first | refine blk_drewN ?_ _ | refine blk_drew ?_ | refine blk_alloc ?_ _)); exact BK306.out) hb); have n6_ := Aside0.mk (below_step (a6_ HB.out GE289.out GE306.out) hb); clear HO294; clear HO297; clear HO302; clear HO305; clear BK289; clear BK306; clear HB; have HO294 := n0_; have HO297 := n1_; have HO302 := n2_; have HO305 := n3_; have BK289 := n4_; have BK306 := n5_; have HB := n6_; clear n0_ n1_ n2_ n3_ n4_ n5_ n6_; (try clear hb); (try clear hb2); (try clear hk); (try clear hi)))
  by_cases c12 : t307 = t298
  ·
   rw [if_pos c12] at H
   have c12b0 : (t307 == t298) = true := beq_iff_eq.mpr c12
   have c12b1 : (t307 != t298) = false := bne_eq_false_iff_eq.mpr c12
   clear c12
   replace H := Option.bind_eq_some_iff.mp H
   obtain ⟨⟨t308, t309, t312⟩, A130, H⟩ := H
   replace H : ((laws_eqGraph.f k t299 t300 t303 t308 t309 t312).bind fun t315 => (if t315 = true then (some true) else (some false))) = some r := H
   have A13 := Aside0.mk A130
   clear A130
   replace H := Option.bind_eq_some_iff.mp H
   obtain ⟨t315, A140, H⟩ := H
   replace H : (if t315 = true then (some true) else (some false)) = some r := H
   have A14 := Aside0.mk A140
   clear A140
   (try simp only [c12b0, Bool.not_true, Bool.not_false])
   (try simp only [c12b1, Bool.not_true, Bool.not_false])
   try go_wp2
   have n0_ := Aside0.mk (Kd.S_drew HO294.out)
   have n1_ := Aside0.mk (Kd.S_drew HO297.out)
   have n2_ := Aside0.mk (Kd.S_drew HO302.out)
   have n3_ := Aside0.mk (Kd.S_drew HO305.out)
   have n4_ := Aside0.mk (blk_drew BK289.out)
   have n5_ := Aside0.mk (blk_drew BK306.out)
   have n6_ := Aside0.mk (below_drew1 HB.out)
   clear HO294
   clear HO297
   clear HO302
   clear HO305
   clear BK289
   clear BK306
   clear HB
   have HO294 := n0_
   have HO297 := n1_
   have HO302 := n2_
   have HO305 := n3_
   have BK289 := n4_
   have BK306 := n5_
   have HB := n6_
   clear n0_ n1_ n2_ n3_ n4_ n5_ n6_
   refine start_ (n := 5) (S := fun w' => w'.cell? ⟨gb306, 0, none⟩ = some (.int .i64 t299) ∧ w'.cell? ⟨gb306, 1, none⟩ = some (.slice Ao29 t300.length co29) ∧ w'.cell? ⟨gb306, 2, none⟩ = some (.slice Ao30 t303.length co30) ∧ w'.cell? ⟨gb289, 0, none⟩ = some (.int .i64 a0_0) ∧ w'.cell? ⟨gb289, 1, none⟩ = some (.slice A0_1 l0_1.length c0_1) ∧ w'.cell? ⟨gb289, 2, none⟩ = some (.slice A0_2 l0_2.length c0_2)) (ds := []) #[false, false, false, false, false] (by kernel_rfl) rfl rfl ⟨(blk_cell BK306.out 0).trans rfl, (blk_cell BK306.out 1).trans rfl, (blk_cell BK306.out 2).trans rfl, (blk_cell BK289.out 0).trans rfl, (blk_cell BK289.out 1).trans rfl, (blk_cell BK289.out 2).trans rfl⟩ (fun hHeld => ?_)
   generalize w31.drew = w32 at HO294 HO297 HO302 HO305 BK289 BK306 HB hHeld ⊢
   refine take_ (i := 0) (N := some 26) (v := ?_) (a' := ?_) #[true, false, false, false, false] rfl rfl (by kernel_rfl) (fun _ _ _ h => h) (Or.inl ⟨by rfl, ?_⟩) hHeld ?_ ?_
   rotate_left
   ·
    rintro w' ⟨s0, s1, s2, s3, s4, s5⟩
    go_simp
    with_reducible rfl
   rotate_left
   ·
    simp only [Act.put, lS, l0_, l1_, i64_w, i32_w]
    rfl
   refine take_ (i := 1) (N := some 27) (v := ?_) (a' := ?_) #[true, true, false, false, false] rfl rfl (by kernel_rfl) (fun _ _ _ h => h) (Or.inl ⟨by rfl, ?_⟩) hHeld ?_ ?_
   rotate_left
   ·
    rintro w' ⟨s0, s1, s2, s3, s4, s5⟩
    go_simp
    with_reducible rfl
   rotate_left
   ·
    simp only [Act.put, lS, l0_, l1_, i64_w, i32_w]
    rfl
   refine one_ (i := 2) (N := some 28) #[true, true, true, false, false] rfl rfl (by kernel_rfl) (by decide) (fun K hK => ?_)
   refine goes_ Try.func8 (by kernel_rfl) rfl #[.agg #[.int .i64 a0_0, .slice A0_1 l0_1.length c0_1, .slice A0_2 l0_2.length c0_2]] (by rfl) rfl rfl (by (try simp only [List.map_toArray, List.map_cons, List.map_nil]); first | done | rfl | (simp only [List.length_drop, List.length_take]; rfl)) ?_
   with_reducible refine (laws_toGraph.calls k a0_0 _ _ l0_1 _ _ l0_2 t308 t309 t312 _ ?side1 ?side2 ?side3 ?side4 A13.out).mono ?_
   (case side1 => repeat (first | exact (Kd.C_below HR0_1.out HB.out) | (with_reducible refine Kd.C_alloc ?_ _) | (with_reducible refine Kd.C_drewN ?_ _) | (with_reducible refine Kd.C_drew ?_)))
   (case side2 => exact HC0_1.out)
   (case side3 => repeat (first | exact (Kd.C_below HR0_2.out HB.out) | (with_reducible refine Kd.C_alloc ?_ _) | (with_reducible refine Kd.C_drewN ?_ _) | (with_reducible refine Kd.C_drew ?_)))
   (case side4 => exact HC0_2.out)
   rintro e w33 ⟨v310, v313, rfl, ho0, ho1, hb⟩
   refine ⟨_, rfl, ?_⟩
   have n0_ := Aside0.mk (Kd.S_mono (Kd.S_told (Kd.S_told (Kd.S_old (by (with_reducible repeat (first | apply Kd.S_alloc | apply Kd.S_drewN | apply Kd.S_drew)); exact HO294.out) hb) (Kd.S_base ho0)) (Kd.S_base ho1)) (fun _ h_ => h_.1))
   have n1_ := Aside0.mk (Kd.S_mono (Kd.S_told (Kd.S_told (Kd.S_old (by (with_reducible repeat (first | apply Kd.S_alloc | apply Kd.S_drewN | apply Kd.S_drew)); exact HO297.out) hb) (Kd.S_base ho0)) (Kd.S_base ho1)) (fun _ h_ => h_.1))
   have n2_ := Aside0.mk (Kd.S_mono (Kd.S_told (Kd.S_told (Kd.S_old (by (with_reducible repeat (first | apply Kd.S_alloc | apply Kd.S_drewN | apply Kd.S_drew)); exact HO302.out) hb) (Kd.S_base ho0)) (Kd.S_base ho1)) (fun _ h_ => h_.1))
   have n3_ := Aside0.mk (Kd.S_mono (Kd.S_told (Kd.S_told (Kd.S_old (by (with_reducible repeat (first | apply Kd.S_alloc | apply Kd.S_drewN | apply Kd.S_drew)); exact HO305.out) hb) (Kd.S_base ho0)) (Kd.S_base ho1)) (fun _ h_ => h_.1))
   have n4_ := Aside0.mk (Kd.S_lower (Kd.S_new' (Kd.S_new' (Kd.S_new' (Kd.S_new' ho0 (Kd.S_lt (by (with_reducible repeat (first | apply Kd.S_alloc | apply Kd.S_drewN | apply Kd.S_drew)); exact HO294.out))) (Kd.S_lt (by (with_reducible repeat (first | apply Kd.S_alloc | apply Kd.S_drewN | apply Kd.S_drew)); exact HO297.out))) (Kd.S_lt (by (with_reducible repeat (first | apply Kd.S_alloc | apply Kd.S_drewN | apply Kd.S_drew)); exact HO302.out))) (Kd.S_lt (by (with_reducible repeat (first | apply Kd.S_alloc | apply Kd.S_drewN | apply Kd.S_drew)); exact HO305.out))) (below_size (a6_ HB.out GE289.out GE306.out)))
   have n5_ := Aside0.mk (Kd.S_lower (Kd.S_new' (Kd.S_new' (Kd.S_new' (Kd.S_new' ho1 (Kd.S_lt (by (with_reducible repeat (first | apply Kd.S_alloc | apply Kd.S_drewN | apply Kd.S_drew)); exact HO294.out))) (Kd.S_lt (by (with_reducible repeat (first | apply Kd.S_alloc | apply Kd.S_drewN | apply Kd.S_drew)); exact HO297.out))) (Kd.S_lt (by (with_reducible repeat (first | apply Kd.S_alloc | apply Kd.S_drewN | apply Kd.S_drew)); exact HO302.out))) (Kd.S_lt (by (with_reducible repeat (first | apply Kd.S_alloc | apply Kd.S_drewN | apply Kd.S_drew)); exact HO305.out))) (below_size (a6_ HB.out GE289.out GE306.out)))
   have n6_ := Aside0.mk (blk_below (g := gb289) (o := .cells #[.int .i64 a0_0, .slice A0_1 l0_1.length c0_1, .slice A0_2 l0_2.length c0_2] 24 (0, 0)) (a5_ BK289.out) hb)
   have n7_ := Aside0.mk (blk_below (g := gb306) (o := .cells #[.int .i64 t299, .slice Ao29 t300.length co29, .slice Ao30 t303.length co30] 29 (0, 0)) (a5_ BK306.out) hb)
   have n8_ := Aside0.mk (below_step (a6_ HB.out GE289.out GE306.out) hb)
   clear HO294
   clear HO297
   clear HO302
   clear HO305
   clear BK289
   clear BK306
   clear HB
   have HO294 := n0_
   have HO297 := n1_
   have HO302 := n2_
   have HO305 := n3_
   have HO311 := n4_
   have HO314 := n5_
   have BK289 := n6_
   have BK306 := n7_
   have HB := n8_
   clear n0_ n1_ n2_ n3_ n4_ n5_ n6_ n7_ n8_
   (try clear hb)
   (try clear hb2)
   (try clear hk)
   (try clear hi)
   (try clear ho0)
   (try clear ho1)
   obtain ⟨Ao34, co34, eo34⟩ := Kd.S_slice HO311.out
   (first | subst eo34 | (injection eo34 with f1_ f2_ f3_; have f4_ := f1_.symm; have f5_ := f3_.symm; clear f1_ f2_ f3_; subst f4_; subst f5_))
   obtain ⟨Ao35, co35, eo35⟩ := Kd.S_slice HO314.out
   (first | subst eo35 | (injection eo35 with f1_ f2_ f3_; have f4_ := f1_.symm; have f5_ := f3_.symm; clear f1_ f2_ f3_; subst f4_; subst f5_))
   refine hK.out _ _ ⟨(blk_cell BK306.out 0).trans rfl, (blk_cell BK306.out 1).trans rfl, (blk_cell BK306.out 2).trans rfl, (blk_cell BK289.out 0).trans rfl, (blk_cell BK289.out 1).trans rfl, (blk_cell BK289.out 2).trans rfl⟩ (fun hHeld => ?_)
   clear hK K
   refine norm_ (a' := ?_) ?_ ?_
   rotate_left
   ·
    show Act.put _ (some 28) _ = _
    simp only [Act.put, lS, l0_, l1_, i64_w, i32_w]
    rfl
   refine one_ (i := 3) (N := some 29) #[true, true, true, true, false] rfl rfl (by kernel_rfl) (by decide) (fun K hK => ?_)
   refine goes_ Try.func10 (by kernel_rfl) rfl #[.agg #[.int .i64 t299, .slice Ao29 t300.length co29, .slice Ao30 t303.length co30], .agg #[.int .i64 t308, .slice Ao34 t309.length co34, .slice Ao35 t312.length co35]] (by rfl) rfl rfl (by (try simp only [List.map_toArray, List.map_cons, List.map_nil]); first | done | rfl | (simp only [List.length_drop, List.length_take]; rfl)) ?_
   with_reducible refine (laws_eqGraph.calls k t299 _ _ t300 _ _ t303 t308 _ _ t309 _ _ t312 t315 _ ?side1 ?side2 ?side3 ?side4 ?side5 ?side6 ?side7 ?side8 A14.out).mono ?_
   (case side1 => repeat (first | exact (Kd.S_reads' HO302.out).2.2 | (with_reducible refine Kd.C_alloc ?_ _) | (with_reducible refine Kd.C_drewN ?_ _) | (with_reducible refine Kd.C_drew ?_)))
   (case side2 => exact (Kd.S_reads' HO302.out).2.1)
   (case side3 => repeat (first | exact (Kd.S_reads' HO305.out).2.2 | (with_reducible refine Kd.C_alloc ?_ _) | (with_reducible refine Kd.C_drewN ?_ _) | (with_reducible refine Kd.C_drew ?_)))
   (case side4 => exact (Kd.S_reads' HO305.out).2.1)
   (case side5 => repeat (first | exact (Kd.S_reads' HO311.out).2.2 | (with_reducible refine Kd.C_alloc ?_ _) | (with_reducible refine Kd.C_drewN ?_ _) | (with_reducible refine Kd.C_drew ?_)))
   (case side6 => exact (Kd.S_reads' HO311.out).2.1)
   (case side7 => repeat (first | exact (Kd.S_reads' HO314.out).2.2 | (with_reducible refine Kd.C_alloc ?_ _) | (with_reducible refine Kd.C_drewN ?_ _) | (with_reducible refine Kd.C_drew ?_)))
   (case side8 => exact (Kd.S_reads' HO314.out).2.1)
   rintro e w36 ⟨rfl, hb⟩
   refine ⟨_, rfl, ?_⟩
   have n0_ := Aside0.mk (Kd.S_below (by (with_reducible repeat (first | apply Kd.S_alloc | apply Kd.S_drewN | apply Kd.S_drew)); exact HO294.out) hb)
   have n1_ := Aside0.mk (Kd.S_below (by (with_reducible repeat (first | apply Kd.S_alloc | apply Kd.S_drewN | apply Kd.S_drew)); exact HO297.out) hb)
   have n2_ := Aside0.mk (Kd.S_below (by (with_reducible repeat (first | apply Kd.S_alloc | apply Kd.S_drewN | apply Kd.S_drew)); exact HO302.out) hb)
   have n3_ := Aside0.mk (Kd.S_below (by (with_reducible repeat (first | apply Kd.S_alloc | apply Kd.S_drewN | apply Kd.S_drew)); exact HO305.out) hb)
   have n4_ := Aside0.mk (Kd.S_below (by (with_reducible repeat (first | apply Kd.S_alloc | apply Kd.S_drewN | apply Kd.S_drew)); exact HO311.out) hb)
   have n5_ := Aside0.mk (Kd.S_below (by (with_reducible repeat (first | apply Kd.S_alloc | apply Kd.S_drewN | apply Kd.S_drew)); exact HO314.out) hb)
   have n6_ := Aside0.mk (blk_below (g := gb289) (o := .cells #[.int .i64 a0_0, .slice A0_1 l0_1.length c0_1, .slice A0_2 l0_2.length c0_2] 24 (0, 0)) (a5_ BK289.out) hb)
   have n7_ := Aside0.mk (blk_below (g := gb306) (o := .cells #[.int .i64 t299, .slice Ao29 t300.length co29, .slice Ao30 t303.length co30] 29 (0, 0)) (a5_ BK306.out) hb)
   have n8_ := Aside0.mk (below_step (a6_ HB.out GE289.out GE306.out) hb)
   clear HO294
   clear HO297
   clear HO302
   clear HO305
   clear HO311
   clear HO314
   clear BK289
   clear BK306
   clear HB
   have HO294 := n0_
   have HO297 := n1_
   have HO302 := n2_
   have HO305 := n3_
   have HO311 := n4_
   have HO314 := n5_
   have BK289 := n6_
   have BK306 := n7_
   have HB := n8_
   clear n0_ n1_ n2_ n3_ n4_ n5_ n6_ n7_ n8_
   (try clear hb)
   (try clear hb2)
   (try clear hk)
   (try clear hi)
   refine hK.out _ _ ⟨(blk_cell BK306.out 0).trans rfl, (blk_cell BK306.out 1).trans rfl, (blk_cell BK306.out 2).trans rfl, (blk_cell BK289.out 0).trans rfl, (blk_cell BK289.out 1).trans rfl, (blk_cell BK289.out 2).trans rfl⟩ (fun hHeld => ?_)
   clear hK K
   refine norm_ (a' := ?_) ?_ ?_
   rotate_left
   ·
    show Act.put _ (some 29) _ = _
    simp only [Act.put, lS, l0_, l1_, i64_w, i32_w]
    rfl
   refine pure_ (i := 4) (N := some 30) (v := ?_) (a' := ?_) #[true, true, true, true, true] rfl rfl (by kernel_rfl) (fun _ _ _ h => h) (Or.inl ⟨by rfl, ?_⟩) ?_ ?_
   rotate_left
   ·
    intro w'
    go_simp
    with_reducible rfl
   rotate_left
   ·
    simp only [Act.put, lS, l0_, l1_, i64_w, i32_w]
    rfl
   refine done_ (by kernel_rfl) ?_
   go_upto_if 30 with fail
   by_cases c15 : t315 = true
   ·
    subst c15
    have H1 : (some true) = some r := by rw [if_pos rfl] at H; exact H
    clear H
    have H := H1
    clear H1
    obtain rfl := Option.some.inj H
    try go_wp2
    go_ret
    exact ⟨a2_, (a6_ HB.out GE289.out GE306.out)⟩
   ·
    replace c15 := Bool.eq_false_iff.mpr c15
    subst c15
    have H1 : (some false) = some r := by rw [if_neg (show ¬ (false = true) by decide)] at H; exact H
    clear H
    have H := H1
    clear H1
    obtain rfl := Option.some.inj H
    try go_wp2
    go_ret
    exact ⟨a2_, (a6_ HB.out GE289.out GE306.out)⟩
  ·
   rw [if_neg c12] at H
   have c12b0 : (t307 == t298) = false := beq_eq_false_iff_ne.mpr c12
   have c12b1 : (t307 != t298) = true := bne_iff_ne.mpr c12
   obtain rfl := Option.some.inj H
   (try simp only [c12b0, Bool.not_true, Bool.not_false])
   (try simp only [c12b1, Bool.not_true, Bool.not_false])
   go_wp2
   go_ret
   exact ⟨a2_, (a6_ HB.out GE289.out GE306.out)⟩
end Go.Proofs.Ytkhidbahbcfkbaa.Print
