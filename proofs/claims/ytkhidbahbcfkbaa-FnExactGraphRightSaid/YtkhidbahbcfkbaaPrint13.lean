-- Printed by wip/myprint.py over the kit's print, in this session's own call.
import Derived.Test.YtkhidbahbcfkbaaPrint0
import Derived.Test.YtkhidbahbcfkbaaPrint8
import Derived.Test.YtkhidbahbcfkbaaPrint10
import Derived.Test.YtkhidbahbcfkbaaPrint11
import Derived.Test.YtkhidbahbcfkbaaPrint12
namespace Go.Proofs.Ytkhidbahbcfkbaa.Print
open Go.RowKit Go.Proofs.YtkhidbahbcfkbaaW.PrintWords Go.Proofs.YtkhidbahbcfkbaaW.PrintLast Go.Proofs.YtkhidbahbcfkbaaW.PrintMore
attribute [local go_sem] max2_int min2_int max_two min_two max_three min_three max_four min_four   -- for this text's walks alone
set_option linter.unusedVariables false
set_option linter.unusedSimpArgs false

/-! ### impl_GraphRight: function 9 -/
def impl_GraphRight.q1 (k : Nat) (g0 : Int) (g1 g2 : List S43) (x : S43) : Option Bool := (impl_Graph_complete.f k g0 g1 g2 x.f7).bind fun b => some (!b)
def impl_GraphRight.q2 (k : Nat) (g0 : Int) (g1 g2 : List S43) (x : S43) : Option Bool := (impl_Graph_has.f k g0 g1 g2 x.f0).bind fun b => if b = true then some true else impl_Graph_complete.f k g0 g1 g2 x.f7
def impl_GraphRight.j0 (k : Nat) (g0 : Int) (g1 g2 : List S43) : Option Bool := (anyQ (impl_GraphRight.q1 k g0 g1 g2) g1).bind fun b => if b = true then some false else ((anyQ (impl_GraphRight.q2 k g0 g1 g2) g2).bind fun c => if c = true then some false else ((impl_Graph_depths.f k g0 g1 g2).bind fun d => some d.2))
def impl_GraphRight.f (k : Nat) (g0 : Int) (g1 g2 : List S43) : Option Bool := (impl_isRoom.f g0).bind fun b => if b = true then (if 60 < g1.length then some false else (if 20 < g2.length then some false else ((impl_Graph_areRight.f k g0 g1 g2 g1).bind fun c => if c = true then ((impl_Graph_areRight.f k g0 g1 g2 g2).bind fun d => if d = true then impl_GraphRight.j0 k g0 g1 g2 else some false) else some false))) else some false
theorem impl_GraphRight.mono : ∀ g0 g1 g2 k, LeO (impl_GraphRight.f k g0 g1 g2) (impl_GraphRight.f (k + 1) g0 g1 g2) := by
  intro g0 g1 g2 k
  have m1 : LeO (anyQ (impl_GraphRight.q1 k g0 g1 g2) g1) (anyQ (impl_GraphRight.q1 (k + 1) g0 g1 g2) g1) := anyQ_mono (fun x => LeO.bind (impl_Graph_complete.mono _ _ _ _ _) (fun _ => LeO.refl _)) _
  have m2 : LeO (anyQ (impl_GraphRight.q2 k g0 g1 g2) g2) (anyQ (impl_GraphRight.q2 (k + 1) g0 g1 g2) g2) := anyQ_mono (fun x => LeO.bind (impl_Graph_has.mono _ _ _ _ _) (fun _ => LeO.ite (LeO.refl _) (impl_Graph_complete.mono _ _ _ _ _))) _
  have m0 : LeO (impl_GraphRight.j0 k g0 g1 g2) (impl_GraphRight.j0 (k + 1) g0 g1 g2) := LeO.bind m1 (fun _ => LeO.ite (LeO.refl _) (LeO.bind m2 (fun _ => LeO.ite (LeO.refl _) (LeO.bind (impl_Graph_depths.mono _ _ _ _) (fun _ => LeO.refl _)))))
  exact LeO.bind (LeO.refl _) (fun _ => LeO.ite (LeO.ite (LeO.refl _) (LeO.ite (LeO.refl _) (LeO.bind (impl_Graph_areRight.mono _ _ _ _ _) (fun _ => LeO.ite (LeO.bind (impl_Graph_areRight.mono _ _ _ _ _) (fun _ => LeO.ite m0 (LeO.refl _))) (LeO.refl _))))) (LeO.refl _))
set_option maxHeartbeats 4000000 in
set_option maxRecDepth 100000 in
theorem impl_GraphRight.closure1 (k : Nat) (g0 : Int) (A1 : Option Addr) (c1 : Nat) (g1 : List S43) (A2 : Option Addr) (c2 : Nat) (g2 : List S43) (x : S43) (A7 : Option Addr) (c7 : Nat) (b : Bool) (B : Nat) (w : World) (hr1 : Kd.C k43 w A1 g1.length g1) (hc1 : g1.length ≤ c1) (hr2 : Kd.C k43 w A2 g2.length g2) (hc2 : g2.length ≤ c2) (hr7 : Kd.C (Kd.int .i64) w A7 x.f7.length x.f7) (hc7 : x.f7.length ≤ c7)
    (x0 : w.cell? ⟨B, 0, none⟩ = some (.int .i64 g0)) (x1 : w.cell? ⟨B, 1, none⟩ = some (.slice A1 g1.length c1)) (x2 : w.cell? ⟨B, 2, none⟩ = some (.slice A2 g2.length c2)) (h : impl_GraphRight.q1 k g0 g1 g2 x = some b) :
    Calls Try.prog 25 #[.agg #[.int .i64 x.f0, .int .i64 x.f1, .int .i64 x.f2, .int .i64 x.f3, .int .i64 x.f4, .int .i64 x.f5, .string x.f6, .slice A7 x.f7.length c7, .int .i64 x.f8], .pointer (some ⟨B, 0, none⟩)] w fun e w' => e = .returned (.bool b) ∧ Below w.heap.size w w' := by
  have HB := Aside0.mk (Below.refl w.heap.size w)
  have HR1 := Aside0.mk hr1
  have HR2 := Aside0.mk hr2
  have HR7 := Aside0.mk hr7
  have HC1 := Aside0.mk hc1
  have HC2 := Aside0.mk hc2
  have HC7 := Aside0.mk hc7
  replace x0 := (World.cell?_alloc_lt w (.cells #[.int .i64 x.f0, .int .i64 x.f1, .int .i64 x.f2, .int .i64 x.f3, .int .i64 x.f4, .int .i64 x.f5, .string x.f6, .slice A7 x.f7.length c7, .int .i64 x.f8] 43) ⟨B, 0, none⟩ (World.block_lt_of_cell? _ _ x0)).trans x0
  replace x1 := (World.cell?_alloc_lt w (.cells #[.int .i64 x.f0, .int .i64 x.f1, .int .i64 x.f2, .int .i64 x.f3, .int .i64 x.f4, .int .i64 x.f5, .string x.f6, .slice A7 x.f7.length c7, .int .i64 x.f8] 43) ⟨B, 1, none⟩ (World.block_lt_of_cell? _ _ x1)).trans x1
  replace x2 := (World.cell?_alloc_lt w (.cells #[.int .i64 x.f0, .int .i64 x.f1, .int .i64 x.f2, .int .i64 x.f3, .int .i64 x.f4, .int .i64 x.f5, .string x.f6, .slice A7 x.f7.length c7, .int .i64 x.f8] 43) ⟨B, 2, none⟩ (World.block_lt_of_cell? _ _ x2)).trans x2
  obtain ⟨b1, h1, h2⟩ := Option.bind_eq_some_iff.mp h
  obtain rfl := Option.some.inj h2
  have H1 := Aside0.mk h1
  clear h h1 h2 hr1 hr2 hr7 hc1 hc2 hc7 HB
  have HB := Aside0.mk (below_alloc (Below.refl w.heap.size w) (.cells #[.int .i64 x.f0, .int .i64 x.f1, .int .i64 x.f2, .int .i64 x.f3, .int .i64 x.f4, .int .i64 x.f5, .string x.f6, .slice A7 x.f7.length c7, .int .i64 x.f8] 43))
  go_enter Try.func25, Try.ntmps25
  go_wp2_with (go_at_call 26; refine (impl_Graph_complete.calls k g0 A1 c1 g1 A2 c2 g2 x.f0 x.f1 x.f2 x.f3 x.f4 x.f5 x.f6 A7 c7 x.f7 x.f8 _ _ ?side1 ?side2 ?side3 ?side4 ?side5 ?side6 H1.out).mono ?_; (case side1 => exact (Kd.C_below HR1.out HB.out)); (case side2 => exact HC1.out); (case side3 => exact (Kd.C_below HR2.out HB.out)); (case side4 => exact HC2.out); (case side5 => exact (Kd.C_below HR7.out HB.out)); (case side6 => exact HC7.out); rintro e w2 ⟨rfl, hb⟩; have n0_ := Aside0.mk (below_step HB.out (by first | exact hb | exact hb.below)); clear HB; have HB := n0_; clear n0_ hb)
  go_ret
  exact ⟨by first | rfl | simp, HB.out⟩
set_option maxHeartbeats 4000000 in
set_option maxRecDepth 100000 in
theorem impl_GraphRight.closure2 (k : Nat) (g0 : Int) (A1 : Option Addr) (c1 : Nat) (g1 : List S43) (A2 : Option Addr) (c2 : Nat) (g2 : List S43) (x : S43) (A7 : Option Addr) (c7 : Nat) (b : Bool) (B : Nat) (w : World) (hr1 : Kd.C k43 w A1 g1.length g1) (hc1 : g1.length ≤ c1) (hr2 : Kd.C k43 w A2 g2.length g2) (hc2 : g2.length ≤ c2) (hr7 : Kd.C (Kd.int .i64) w A7 x.f7.length x.f7) (hc7 : x.f7.length ≤ c7)
    (x0 : w.cell? ⟨B, 0, none⟩ = some (.int .i64 g0)) (x1 : w.cell? ⟨B, 1, none⟩ = some (.slice A1 g1.length c1)) (x2 : w.cell? ⟨B, 2, none⟩ = some (.slice A2 g2.length c2)) (h : impl_GraphRight.q2 k g0 g1 g2 x = some b) :
    Calls Try.prog 27 #[.agg #[.int .i64 x.f0, .int .i64 x.f1, .int .i64 x.f2, .int .i64 x.f3, .int .i64 x.f4, .int .i64 x.f5, .string x.f6, .slice A7 x.f7.length c7, .int .i64 x.f8], .pointer (some ⟨B, 0, none⟩)] w fun e w' => e = .returned (.bool b) ∧ Below w.heap.size w w' := by
  have HB := Aside0.mk (Below.refl w.heap.size w)
  have HR1 := Aside0.mk hr1
  have HR2 := Aside0.mk hr2
  have HR7 := Aside0.mk hr7
  have HC1 := Aside0.mk hc1
  have HC2 := Aside0.mk hc2
  have HC7 := Aside0.mk hc7
  replace x0 := (World.cell?_alloc_lt w (.cells #[.int .i64 x.f0, .int .i64 x.f1, .int .i64 x.f2, .int .i64 x.f3, .int .i64 x.f4, .int .i64 x.f5, .string x.f6, .slice A7 x.f7.length c7, .int .i64 x.f8] 43) ⟨B, 0, none⟩ (World.block_lt_of_cell? _ _ x0)).trans x0
  replace x1 := (World.cell?_alloc_lt w (.cells #[.int .i64 x.f0, .int .i64 x.f1, .int .i64 x.f2, .int .i64 x.f3, .int .i64 x.f4, .int .i64 x.f5, .string x.f6, .slice A7 x.f7.length c7, .int .i64 x.f8] 43) ⟨B, 1, none⟩ (World.block_lt_of_cell? _ _ x1)).trans x1
  replace x2 := (World.cell?_alloc_lt w (.cells #[.int .i64 x.f0, .int .i64 x.f1, .int .i64 x.f2, .int .i64 x.f3, .int .i64 x.f4, .int .i64 x.f5, .string x.f6, .slice A7 x.f7.length c7, .int .i64 x.f8] 43) ⟨B, 2, none⟩ (World.block_lt_of_cell? _ _ x2)).trans x2
  obtain ⟨b1, h1, h2⟩ := Option.bind_eq_some_iff.mp h
  have H1 := Aside0.mk h1
  clear h h1 hr1 hr2 hr7 hc1 hc2 hc7 HB
  have HB := Aside0.mk (below_alloc (Below.refl w.heap.size w) (.cells #[.int .i64 x.f0, .int .i64 x.f1, .int .i64 x.f2, .int .i64 x.f3, .int .i64 x.f4, .int .i64 x.f5, .string x.f6, .slice A7 x.f7.length c7, .int .i64 x.f8] 43))
  cases b1 with
  | true =>
    obtain rfl := Option.some.inj h2
    clear h2
    go_enter Try.func27, Try.ntmps27
    go_wp2_with (go_at_call 28; refine (impl_Graph_has.calls k g0 A1 c1 g1 A2 c2 g2 x.f0 _ _ ?side1 ?side2 ?side3 ?side4 H1.out).mono ?_; (case side1 => exact (Kd.C_below HR1.out HB.out)); (case side2 => exact HC1.out); (case side3 => exact (Kd.C_below HR2.out HB.out)); (case side4 => exact HC2.out); rintro e w1 ⟨rfl, hb⟩; have n0_ := Aside0.mk (below_step HB.out (by first | exact hb | exact hb.below)); clear HB; have HB := n0_; clear n0_ hb)
    go_ret
    exact ⟨by first | rfl | simp, HB.out⟩
  | false =>
    have H2 := Aside0.mk (show impl_Graph_complete.f k g0 g1 g2 x.f7 = some b from h2)
    clear h2
    go_enter Try.func27, Try.ntmps27
    go_wp2_with (first | (go_at_call 28; refine (impl_Graph_has.calls k g0 A1 c1 g1 A2 c2 g2 x.f0 _ _ ?side1 ?side2 ?side3 ?side4 H1.out).mono ?_; (case side1 => exact (Kd.C_below HR1.out HB.out)); (case side2 => exact HC1.out); (case side3 => exact (Kd.C_below HR2.out HB.out)); (case side4 => exact HC2.out); rintro e w1 ⟨rfl, hb⟩; have y0_ := (hb.cell (World.block_lt_of_cell? _ _ x0)).trans x0; have y1_ := (hb.cell (World.block_lt_of_cell? _ _ x1)).trans x1; have y2_ := (hb.cell (World.block_lt_of_cell? _ _ x2)).trans x2; have yc0 : w1.cell? ⟨w.heap.size, 0, none⟩ = some (.int .i64 x.f0) := (hb.cell (p := ⟨w.heap.size, 0, none⟩) (by simp)).trans (by simp); have yc1 : w1.cell? ⟨w.heap.size, 1, none⟩ = some (.int .i64 x.f1) := (hb.cell (p := ⟨w.heap.size, 1, none⟩) (by simp)).trans (by simp); have yc2 : w1.cell? ⟨w.heap.size, 2, none⟩ = some (.int .i64 x.f2) := (hb.cell (p := ⟨w.heap.size, 2, none⟩) (by simp)).trans (by simp); have yc3 : w1.cell? ⟨w.heap.size, 3, none⟩ = some (.int .i64 x.f3) := (hb.cell (p := ⟨w.heap.size, 3, none⟩) (by simp)).trans (by simp); have yc4 : w1.cell? ⟨w.heap.size, 4, none⟩ = some (.int .i64 x.f4) := (hb.cell (p := ⟨w.heap.size, 4, none⟩) (by simp)).trans (by simp); have yc5 : w1.cell? ⟨w.heap.size, 5, none⟩ = some (.int .i64 x.f5) := (hb.cell (p := ⟨w.heap.size, 5, none⟩) (by simp)).trans (by simp); have yc6 : w1.cell? ⟨w.heap.size, 6, none⟩ = some (.string x.f6) := (hb.cell (p := ⟨w.heap.size, 6, none⟩) (by simp)).trans (by simp); have yc7 : w1.cell? ⟨w.heap.size, 7, none⟩ = some (.slice A7 x.f7.length c7) := (hb.cell (p := ⟨w.heap.size, 7, none⟩) (by simp)).trans (by simp); have yc8 : w1.cell? ⟨w.heap.size, 8, none⟩ = some (.int .i64 x.f8) := (hb.cell (p := ⟨w.heap.size, 8, none⟩) (by simp)).trans (by simp); have n0_ := Aside0.mk (below_step HB.out (by first | exact hb | exact hb.below)); clear HB; have HB := n0_; clear n0_ hb) | (go_at_call 26; refine (impl_Graph_complete.calls k g0 A1 c1 g1 A2 c2 g2 x.f0 x.f1 x.f2 x.f3 x.f4 x.f5 x.f6 A7 c7 x.f7 x.f8 _ _ ?side1 ?side2 ?side3 ?side4 ?side5 ?side6 H2.out).mono ?_; (case side1 => exact (Kd.C_below HR1.out HB.out)); (case side2 => exact HC1.out); (case side3 => exact (Kd.C_below HR2.out HB.out)); (case side4 => exact HC2.out); (case side5 => exact (Kd.C_below HR7.out HB.out)); (case side6 => exact HC7.out); rintro e w2 ⟨rfl, hb⟩; have n0_ := Aside0.mk (below_step HB.out (by first | exact hb | exact hb.below)); clear HB; have HB := n0_; clear n0_ hb))
    go_ret
    exact ⟨by first | rfl | simp, HB.out⟩
set_option maxHeartbeats 4000000 in
theorem impl_GraphRight.any1 (k : Nat) (g0 : Int) (A1 : Option Addr) (c1 : Nat) (g1 : List S43) (A2 : Option Addr) (c2 : Nat) (g2 : List S43) (b : Bool) (B : Nat) (w : World) (hr1 : Kd.C k43 w A1 g1.length g1) (hc1 : g1.length ≤ c1) (hr2 : Kd.C k43 w A2 g2.length g2) (hc2 : g2.length ≤ c2)
    (x0 : w.cell? ⟨B, 0, none⟩ = some (.int .i64 g0)) (x1 : w.cell? ⟨B, 1, none⟩ = some (.slice A1 g1.length c1)) (x2 : w.cell? ⟨B, 2, none⟩ = some (.slice A2 g2.length c2)) (h : anyQ (impl_GraphRight.q1 k g0 g1 g2) g1 = some b) :
    Calls Try.prog 24 #[.slice A1 g1.length c1, .func (.func 25) #[] #[.pointer (some ⟨B, 0, none⟩)]] w fun e w' => e = .returned (.bool b) ∧ Below w.heap.size w w' := by
  obtain ⟨h3, rfl⟩ := anyQ_all h
  exact impl_Event_24.callsF 25 #[.pointer (some ⟨B, 0, none⟩)] (fun x => (impl_GraphRight.q1 k g0 g1 g2 x).getD false) A1 c1 g1 w (enters_of Try.func25 (by kernel_rfl) rfl) hr1
    (fun W i x A7 c7 hx hr7 hc7 hb => (impl_GraphRight.closure1 k g0 A1 c1 g1 A2 c2 g2 x A7 c7 _ B W (Kd.C_below hr1 hb) hc1 (Kd.C_below hr2 hb) hc2 (Kd.C_below hr7 hb) hc7 ((hb.cell (World.block_lt_of_cell? _ _ x0)).trans x0) ((hb.cell (World.block_lt_of_cell? _ _ x1)).trans x1) ((hb.cell (World.block_lt_of_cell? _ _ x2)).trans x2) (h3 x (List.mem_of_getElem? hx))).mono (fun _ _ h2 => ⟨h2.1, below_step hb h2.2⟩))
set_option maxHeartbeats 4000000 in
theorem impl_GraphRight.any2 (k : Nat) (g0 : Int) (A1 : Option Addr) (c1 : Nat) (g1 : List S43) (A2 : Option Addr) (c2 : Nat) (g2 : List S43) (b : Bool) (B : Nat) (w : World) (hr1 : Kd.C k43 w A1 g1.length g1) (hc1 : g1.length ≤ c1) (hr2 : Kd.C k43 w A2 g2.length g2) (hc2 : g2.length ≤ c2)
    (x0 : w.cell? ⟨B, 0, none⟩ = some (.int .i64 g0)) (x1 : w.cell? ⟨B, 1, none⟩ = some (.slice A1 g1.length c1)) (x2 : w.cell? ⟨B, 2, none⟩ = some (.slice A2 g2.length c2)) (h : anyQ (impl_GraphRight.q2 k g0 g1 g2) g2 = some b) :
    Calls Try.prog 24 #[.slice A2 g2.length c2, .func (.func 27) #[] #[.pointer (some ⟨B, 0, none⟩)]] w fun e w' => e = .returned (.bool b) ∧ Below w.heap.size w w' := by
  obtain ⟨h3, rfl⟩ := anyQ_all h
  exact impl_Event_24.callsF 27 #[.pointer (some ⟨B, 0, none⟩)] (fun x => (impl_GraphRight.q2 k g0 g1 g2 x).getD false) A2 c2 g2 w (enters_of Try.func27 (by kernel_rfl) rfl) hr2
    (fun W i x A7 c7 hx hr7 hc7 hb => (impl_GraphRight.closure2 k g0 A1 c1 g1 A2 c2 g2 x A7 c7 _ B W (Kd.C_below hr1 hb) hc1 (Kd.C_below hr2 hb) hc2 (Kd.C_below hr7 hb) hc7 ((hb.cell (World.block_lt_of_cell? _ _ x0)).trans x0) ((hb.cell (World.block_lt_of_cell? _ _ x1)).trans x1) ((hb.cell (World.block_lt_of_cell? _ _ x2)).trans x2) (h3 x (List.mem_of_getElem? hx))).mono (fun _ _ h2 => ⟨h2.1, below_step hb h2.2⟩))
set_option maxHeartbeats 8000000 in
set_option maxRecDepth 100000 in
theorem impl_GraphRight.calls (k : Nat) (g0 : Int) (A1 : Option Addr) (c1 : Nat) (g1 : List S43) (A2 : Option Addr) (c2 : Nat) (g2 : List S43) (r : Bool) (w : World) (hr1 : Kd.C k43 w A1 g1.length g1) (hc1 : g1.length ≤ c1) (hr2 : Kd.C k43 w A2 g2.length g2) (hc2 : g2.length ≤ c2) (h : impl_GraphRight.f k g0 g1 g2 = some r) :
    Calls Try.prog 9 #[.agg #[.int .i64 g0, .slice A1 g1.length c1, .slice A2 g2.length c2]] w fun e w' => e = .returned (.bool r) ∧ Below w.heap.size w w' := by
  have HR1 := Aside0.mk hr1; have HR2 := Aside0.mk hr2; have HC1 := Aside0.mk hc1; have HC2 := Aside0.mk hc2
  clear hr1 hr2 hc1 hc2
  have HB := Aside0.mk (Below.refl w.heap.size w)
  obtain ⟨b0, h0, H⟩ := Option.bind_eq_some_iff.mp h
  have HRoom := Aside0.mk h0
  clear h h0
  cases b0 with
  | false =>
    obtain rfl := Option.some.inj H
    clear H
    go_enter Try.func9, Try.ntmps9
    go_wp2_with (first | ((with_reducible refine gate_dst (N := 1) rfl ?_); refine box_event ?hg (N := 1) ?hd (cs := #[.int .i64 g0, .slice A1 g1.length c1, .slice A2 g2.length c2]) (t := 29) ?hr ?_; (case hd => rfl); (case hg => rfl); (case hr => first | (go_simp; done) | (go_simp; rfl)); intro gb hg w1 hbox hb; have n0_ := Aside0.mk (below_step HB.out hb); have BK := Aside0.mk hbox; clear HB; have HB := n0_; clear n0_ hb hbox hg; have hz0 : w1.cell? ⟨gb, 0, none⟩ = some (.int .i64 g0) := (blk_cell BK.out 0).trans rfl; have hz1 : w1.cell? ⟨gb, 1, none⟩ = some (.slice A1 g1.length c1) := (blk_cell BK.out 1).trans rfl; have hz2 : w1.cell? ⟨gb, 2, none⟩ = some (.slice A2 g2.length c2) := (blk_cell BK.out 2).trans rfl) | (go_at_call 22; (with_reducible refine (impl_isRoom.calls g0 _ _ HRoom.out).mono ?_); rintro e w2 ⟨rfl, hb0⟩; have hb := hb0.below; clear hb0; have m0_ := Aside0.mk (blk_below BK.out hb); have m1_ := Aside0.mk (below_step HB.out hb); clear hz0 hz1 hz2; clear BK HB; have BK := m0_; have HB := m1_; clear m0_ m1_ hb; have hz0 : w2.cell? ⟨gb, 0, none⟩ = some (.int .i64 g0) := (blk_cell BK.out 0).trans rfl; have hz1 : w2.cell? ⟨gb, 1, none⟩ = some (.slice A1 g1.length c1) := (blk_cell BK.out 1).trans rfl; have hz2 : w2.cell? ⟨gb, 2, none⟩ = some (.slice A2 g2.length c2) := (blk_cell BK.out 2).trans rfl))
    go_ret
    exact ⟨by first | rfl | simp, HB.out⟩
  | true =>
    simp only [if_true] at H
    by_cases p1 : 60 < g1.length
    · rw [if_pos p1] at H
      obtain rfl := Option.some.inj H
      have p1a : decide (60 < (g1.length : Int)) = true := decide_eq_true (by omega)
      have p1b : decide (60 < g1.length) = true := decide_eq_true p1
      clear H p1
      go_enter Try.func9, Try.ntmps9
      go_wp2_with (first | ((with_reducible refine gate_dst (N := 1) rfl ?_); refine box_event ?hg (N := 1) ?hd (cs := #[.int .i64 g0, .slice A1 g1.length c1, .slice A2 g2.length c2]) (t := 29) ?hr ?_; (case hd => rfl); (case hg => rfl); (case hr => first | (go_simp; done) | (go_simp; rfl)); intro gb hg w1 hbox hb; have n0_ := Aside0.mk (below_step HB.out hb); have BK := Aside0.mk hbox; clear HB; have HB := n0_; clear n0_ hb hbox hg; have hz0 : w1.cell? ⟨gb, 0, none⟩ = some (.int .i64 g0) := (blk_cell BK.out 0).trans rfl; have hz1 : w1.cell? ⟨gb, 1, none⟩ = some (.slice A1 g1.length c1) := (blk_cell BK.out 1).trans rfl; have hz2 : w1.cell? ⟨gb, 2, none⟩ = some (.slice A2 g2.length c2) := (blk_cell BK.out 2).trans rfl) | (go_at_call 22; (with_reducible refine (impl_isRoom.calls g0 _ _ HRoom.out).mono ?_); rintro e w2 ⟨rfl, hb0⟩; have hb := hb0.below; clear hb0; have m0_ := Aside0.mk (blk_below BK.out hb); have m1_ := Aside0.mk (below_step HB.out hb); clear hz0 hz1 hz2; clear BK HB; have BK := m0_; have HB := m1_; clear m0_ m1_ hb; have hz0 : w2.cell? ⟨gb, 0, none⟩ = some (.int .i64 g0) := (blk_cell BK.out 0).trans rfl; have hz1 : w2.cell? ⟨gb, 1, none⟩ = some (.slice A1 g1.length c1) := (blk_cell BK.out 1).trans rfl; have hz2 : w2.cell? ⟨gb, 2, none⟩ = some (.slice A2 g2.length c2) := (blk_cell BK.out 2).trans rfl))
      go_ret
      exact ⟨by first | rfl | simp, HB.out⟩
    rw [if_neg p1] at H
    have p1a : decide (60 < (g1.length : Int)) = false := decide_eq_false (by omega)
    have p1b : decide (60 < g1.length) = false := decide_eq_false p1
    clear p1
    by_cases p2 : 20 < g2.length
    · rw [if_pos p2] at H
      obtain rfl := Option.some.inj H
      have p2a : decide (20 < (g2.length : Int)) = true := decide_eq_true (by omega)
      have p2b : decide (20 < g2.length) = true := decide_eq_true p2
      clear H p2
      go_enter Try.func9, Try.ntmps9
      go_wp2_with (first | ((with_reducible refine gate_dst (N := 1) rfl ?_); refine box_event ?hg (N := 1) ?hd (cs := #[.int .i64 g0, .slice A1 g1.length c1, .slice A2 g2.length c2]) (t := 29) ?hr ?_; (case hd => rfl); (case hg => rfl); (case hr => first | (go_simp; done) | (go_simp; rfl)); intro gb hg w1 hbox hb; have n0_ := Aside0.mk (below_step HB.out hb); have BK := Aside0.mk hbox; clear HB; have HB := n0_; clear n0_ hb hbox hg; have hz0 : w1.cell? ⟨gb, 0, none⟩ = some (.int .i64 g0) := (blk_cell BK.out 0).trans rfl; have hz1 : w1.cell? ⟨gb, 1, none⟩ = some (.slice A1 g1.length c1) := (blk_cell BK.out 1).trans rfl; have hz2 : w1.cell? ⟨gb, 2, none⟩ = some (.slice A2 g2.length c2) := (blk_cell BK.out 2).trans rfl) | (go_at_call 22; (with_reducible refine (impl_isRoom.calls g0 _ _ HRoom.out).mono ?_); rintro e w2 ⟨rfl, hb0⟩; have hb := hb0.below; clear hb0; have m0_ := Aside0.mk (blk_below BK.out hb); have m1_ := Aside0.mk (below_step HB.out hb); clear hz0 hz1 hz2; clear BK HB; have BK := m0_; have HB := m1_; clear m0_ m1_ hb; have hz0 : w2.cell? ⟨gb, 0, none⟩ = some (.int .i64 g0) := (blk_cell BK.out 0).trans rfl; have hz1 : w2.cell? ⟨gb, 1, none⟩ = some (.slice A1 g1.length c1) := (blk_cell BK.out 1).trans rfl; have hz2 : w2.cell? ⟨gb, 2, none⟩ = some (.slice A2 g2.length c2) := (blk_cell BK.out 2).trans rfl))
      go_ret
      exact ⟨by first | rfl | simp, HB.out⟩
    rw [if_neg p2] at H
    have p2a : decide (20 < (g2.length : Int)) = false := decide_eq_false (by omega)
    have p2b : decide (20 < g2.length) = false := decide_eq_false p2
    clear p2
    obtain ⟨b1, h1, H⟩ := Option.bind_eq_some_iff.mp H
    have HA := Aside0.mk h1
    clear h1
    cases b1 with
    | false =>
      obtain rfl := Option.some.inj H
      clear H
      go_enter Try.func9, Try.ntmps9
      go_wp2_with (first | ((with_reducible refine gate_dst (N := 1) rfl ?_); refine box_event ?hg (N := 1) ?hd (cs := #[.int .i64 g0, .slice A1 g1.length c1, .slice A2 g2.length c2]) (t := 29) ?hr ?_; (case hd => rfl); (case hg => rfl); (case hr => first | (go_simp; done) | (go_simp; rfl)); intro gb hg w1 hbox hb; have n0_ := Aside0.mk (below_step HB.out hb); have BK := Aside0.mk hbox; clear HB; have HB := n0_; clear n0_ hb hbox hg; have hz0 : w1.cell? ⟨gb, 0, none⟩ = some (.int .i64 g0) := (blk_cell BK.out 0).trans rfl; have hz1 : w1.cell? ⟨gb, 1, none⟩ = some (.slice A1 g1.length c1) := (blk_cell BK.out 1).trans rfl; have hz2 : w1.cell? ⟨gb, 2, none⟩ = some (.slice A2 g2.length c2) := (blk_cell BK.out 2).trans rfl) | (go_at_call 22; (with_reducible refine (impl_isRoom.calls g0 _ _ HRoom.out).mono ?_); rintro e w2 ⟨rfl, hb0⟩; have hb := hb0.below; clear hb0; have m0_ := Aside0.mk (blk_below BK.out hb); have m1_ := Aside0.mk (below_step HB.out hb); clear hz0 hz1 hz2; clear BK HB; have BK := m0_; have HB := m1_; clear m0_ m1_ hb; have hz0 : w2.cell? ⟨gb, 0, none⟩ = some (.int .i64 g0) := (blk_cell BK.out 0).trans rfl; have hz1 : w2.cell? ⟨gb, 1, none⟩ = some (.slice A1 g1.length c1) := (blk_cell BK.out 1).trans rfl; have hz2 : w2.cell? ⟨gb, 2, none⟩ = some (.slice A2 g2.length c2) := (blk_cell BK.out 2).trans rfl) | (go_at_call 23; (with_reducible refine (impl_Graph_areRight.calls k g0 A1 c1 g1 A2 c2 g2 A1 c1 g1 _ _ ?side1 ?side2 ?side3 ?side4 ?side5 ?side6 HA.out).mono ?_); (case side1 => exact (Kd.C_below HR1.out HB.out)); (case side2 => exact HC1.out); (case side3 => exact (Kd.C_below HR2.out HB.out)); (case side4 => exact HC2.out); (case side5 => exact (Kd.C_below HR1.out HB.out)); (case side6 => exact HC1.out); rintro e w3 ⟨rfl, hb⟩; have m0_ := Aside0.mk (blk_below BK.out hb); have m1_ := Aside0.mk (below_step HB.out hb); clear hz0 hz1 hz2; clear BK HB; have BK := m0_; have HB := m1_; clear m0_ m1_ hb; have hz0 : w3.cell? ⟨gb, 0, none⟩ = some (.int .i64 g0) := (blk_cell BK.out 0).trans rfl; have hz1 : w3.cell? ⟨gb, 1, none⟩ = some (.slice A1 g1.length c1) := (blk_cell BK.out 1).trans rfl; have hz2 : w3.cell? ⟨gb, 2, none⟩ = some (.slice A2 g2.length c2) := (blk_cell BK.out 2).trans rfl))
      go_ret
      exact ⟨by first | rfl | simp, HB.out⟩
    | true =>
      simp only [if_true] at H
      obtain ⟨b2, h2, H⟩ := Option.bind_eq_some_iff.mp H
      have HE := Aside0.mk h2
      clear h2
      cases b2 with
      | false =>
        obtain rfl := Option.some.inj H
        clear H
        go_enter Try.func9, Try.ntmps9
        go_wp2_with (first | ((with_reducible refine gate_dst (N := 1) rfl ?_); refine box_event ?hg (N := 1) ?hd (cs := #[.int .i64 g0, .slice A1 g1.length c1, .slice A2 g2.length c2]) (t := 29) ?hr ?_; (case hd => rfl); (case hg => rfl); (case hr => first | (go_simp; done) | (go_simp; rfl)); intro gb hg w1 hbox hb; have n0_ := Aside0.mk (below_step HB.out hb); have BK := Aside0.mk hbox; clear HB; have HB := n0_; clear n0_ hb hbox hg; have hz0 : w1.cell? ⟨gb, 0, none⟩ = some (.int .i64 g0) := (blk_cell BK.out 0).trans rfl; have hz1 : w1.cell? ⟨gb, 1, none⟩ = some (.slice A1 g1.length c1) := (blk_cell BK.out 1).trans rfl; have hz2 : w1.cell? ⟨gb, 2, none⟩ = some (.slice A2 g2.length c2) := (blk_cell BK.out 2).trans rfl) | (go_at_call 22; (with_reducible refine (impl_isRoom.calls g0 _ _ HRoom.out).mono ?_); rintro e w2 ⟨rfl, hb0⟩; have hb := hb0.below; clear hb0; have m0_ := Aside0.mk (blk_below BK.out hb); have m1_ := Aside0.mk (below_step HB.out hb); clear hz0 hz1 hz2; clear BK HB; have BK := m0_; have HB := m1_; clear m0_ m1_ hb; have hz0 : w2.cell? ⟨gb, 0, none⟩ = some (.int .i64 g0) := (blk_cell BK.out 0).trans rfl; have hz1 : w2.cell? ⟨gb, 1, none⟩ = some (.slice A1 g1.length c1) := (blk_cell BK.out 1).trans rfl; have hz2 : w2.cell? ⟨gb, 2, none⟩ = some (.slice A2 g2.length c2) := (blk_cell BK.out 2).trans rfl) | (go_at_call 23; (with_reducible refine (impl_Graph_areRight.calls k g0 A1 c1 g1 A2 c2 g2 A1 c1 g1 _ _ ?side1 ?side2 ?side3 ?side4 ?side5 ?side6 HA.out).mono ?_); (case side1 => exact (Kd.C_below HR1.out HB.out)); (case side2 => exact HC1.out); (case side3 => exact (Kd.C_below HR2.out HB.out)); (case side4 => exact HC2.out); (case side5 => exact (Kd.C_below HR1.out HB.out)); (case side6 => exact HC1.out); rintro e w3 ⟨rfl, hb⟩; have m0_ := Aside0.mk (blk_below BK.out hb); have m1_ := Aside0.mk (below_step HB.out hb); clear hz0 hz1 hz2; clear BK HB; have BK := m0_; have HB := m1_; clear m0_ m1_ hb; have hz0 : w3.cell? ⟨gb, 0, none⟩ = some (.int .i64 g0) := (blk_cell BK.out 0).trans rfl; have hz1 : w3.cell? ⟨gb, 1, none⟩ = some (.slice A1 g1.length c1) := (blk_cell BK.out 1).trans rfl; have hz2 : w3.cell? ⟨gb, 2, none⟩ = some (.slice A2 g2.length c2) := (blk_cell BK.out 2).trans rfl) | (go_at_call 23; (with_reducible refine (impl_Graph_areRight.calls k g0 A1 c1 g1 A2 c2 g2 A2 c2 g2 _ _ ?side1 ?side2 ?side3 ?side4 ?side5 ?side6 HE.out).mono ?_); (case side1 => exact (Kd.C_below HR1.out HB.out)); (case side2 => exact HC1.out); (case side3 => exact (Kd.C_below HR2.out HB.out)); (case side4 => exact HC2.out); (case side5 => exact (Kd.C_below HR2.out HB.out)); (case side6 => exact HC2.out); rintro e w4 ⟨rfl, hb⟩; have m0_ := Aside0.mk (blk_below BK.out hb); have m1_ := Aside0.mk (below_step HB.out hb); clear hz0 hz1 hz2; clear BK HB; have BK := m0_; have HB := m1_; clear m0_ m1_ hb; have hz0 : w4.cell? ⟨gb, 0, none⟩ = some (.int .i64 g0) := (blk_cell BK.out 0).trans rfl; have hz1 : w4.cell? ⟨gb, 1, none⟩ = some (.slice A1 g1.length c1) := (blk_cell BK.out 1).trans rfl; have hz2 : w4.cell? ⟨gb, 2, none⟩ = some (.slice A2 g2.length c2) := (blk_cell BK.out 2).trans rfl))
        go_ret
        exact ⟨by first | rfl | simp, HB.out⟩
      | true =>
        simp only [if_true] at H
        unfold impl_GraphRight.j0 at H
        obtain ⟨b3, h3, H⟩ := Option.bind_eq_some_iff.mp H
        have HX := Aside0.mk h3
        clear h3
        cases b3 with
        | true =>
          obtain rfl := Option.some.inj H
          clear H
          go_enter Try.func9, Try.ntmps9
          go_wp2_with (first | ((with_reducible refine gate_dst (N := 1) rfl ?_); refine box_event ?hg (N := 1) ?hd (cs := #[.int .i64 g0, .slice A1 g1.length c1, .slice A2 g2.length c2]) (t := 29) ?hr ?_; (case hd => rfl); (case hg => rfl); (case hr => first | (go_simp; done) | (go_simp; rfl)); intro gb hg w1 hbox hb; have n0_ := Aside0.mk (below_step HB.out hb); have BK := Aside0.mk hbox; clear HB; have HB := n0_; clear n0_ hb hbox hg; have hz0 : w1.cell? ⟨gb, 0, none⟩ = some (.int .i64 g0) := (blk_cell BK.out 0).trans rfl; have hz1 : w1.cell? ⟨gb, 1, none⟩ = some (.slice A1 g1.length c1) := (blk_cell BK.out 1).trans rfl; have hz2 : w1.cell? ⟨gb, 2, none⟩ = some (.slice A2 g2.length c2) := (blk_cell BK.out 2).trans rfl) | (go_at_call 22; (with_reducible refine (impl_isRoom.calls g0 _ _ HRoom.out).mono ?_); rintro e w2 ⟨rfl, hb0⟩; have hb := hb0.below; clear hb0; have m0_ := Aside0.mk (blk_below BK.out hb); have m1_ := Aside0.mk (below_step HB.out hb); clear hz0 hz1 hz2; clear BK HB; have BK := m0_; have HB := m1_; clear m0_ m1_ hb; have hz0 : w2.cell? ⟨gb, 0, none⟩ = some (.int .i64 g0) := (blk_cell BK.out 0).trans rfl; have hz1 : w2.cell? ⟨gb, 1, none⟩ = some (.slice A1 g1.length c1) := (blk_cell BK.out 1).trans rfl; have hz2 : w2.cell? ⟨gb, 2, none⟩ = some (.slice A2 g2.length c2) := (blk_cell BK.out 2).trans rfl) | (go_at_call 23; (with_reducible refine (impl_Graph_areRight.calls k g0 A1 c1 g1 A2 c2 g2 A1 c1 g1 _ _ ?side1 ?side2 ?side3 ?side4 ?side5 ?side6 HA.out).mono ?_); (case side1 => exact (Kd.C_below HR1.out HB.out)); (case side2 => exact HC1.out); (case side3 => exact (Kd.C_below HR2.out HB.out)); (case side4 => exact HC2.out); (case side5 => exact (Kd.C_below HR1.out HB.out)); (case side6 => exact HC1.out); rintro e w3 ⟨rfl, hb⟩; have m0_ := Aside0.mk (blk_below BK.out hb); have m1_ := Aside0.mk (below_step HB.out hb); clear hz0 hz1 hz2; clear BK HB; have BK := m0_; have HB := m1_; clear m0_ m1_ hb; have hz0 : w3.cell? ⟨gb, 0, none⟩ = some (.int .i64 g0) := (blk_cell BK.out 0).trans rfl; have hz1 : w3.cell? ⟨gb, 1, none⟩ = some (.slice A1 g1.length c1) := (blk_cell BK.out 1).trans rfl; have hz2 : w3.cell? ⟨gb, 2, none⟩ = some (.slice A2 g2.length c2) := (blk_cell BK.out 2).trans rfl) | (go_at_call 23; (with_reducible refine (impl_Graph_areRight.calls k g0 A1 c1 g1 A2 c2 g2 A2 c2 g2 _ _ ?side1 ?side2 ?side3 ?side4 ?side5 ?side6 HE.out).mono ?_); (case side1 => exact (Kd.C_below HR1.out HB.out)); (case side2 => exact HC1.out); (case side3 => exact (Kd.C_below HR2.out HB.out)); (case side4 => exact HC2.out); (case side5 => exact (Kd.C_below HR2.out HB.out)); (case side6 => exact HC2.out); rintro e w4 ⟨rfl, hb⟩; have m0_ := Aside0.mk (blk_below BK.out hb); have m1_ := Aside0.mk (below_step HB.out hb); clear hz0 hz1 hz2; clear BK HB; have BK := m0_; have HB := m1_; clear m0_ m1_ hb; have hz0 : w4.cell? ⟨gb, 0, none⟩ = some (.int .i64 g0) := (blk_cell BK.out 0).trans rfl; have hz1 : w4.cell? ⟨gb, 1, none⟩ = some (.slice A1 g1.length c1) := (blk_cell BK.out 1).trans rfl; have hz2 : w4.cell? ⟨gb, 2, none⟩ = some (.slice A2 g2.length c2) := (blk_cell BK.out 2).trans rfl) | (go_at_call 24; (with_reducible refine (impl_GraphRight.any1 k g0 A1 c1 g1 A2 c2 g2 _ gb _ ?side1 ?side2 ?side3 ?side4 hz0 hz1 hz2 HX.out).mono ?_); (case side1 => exact (Kd.C_below HR1.out HB.out)); (case side2 => exact HC1.out); (case side3 => exact (Kd.C_below HR2.out HB.out)); (case side4 => exact HC2.out); rintro e w5 ⟨rfl, hb⟩; have m0_ := Aside0.mk (blk_below BK.out hb); have m1_ := Aside0.mk (below_step HB.out hb); clear hz0 hz1 hz2; clear BK HB; have BK := m0_; have HB := m1_; clear m0_ m1_ hb; have hz0 : w5.cell? ⟨gb, 0, none⟩ = some (.int .i64 g0) := (blk_cell BK.out 0).trans rfl; have hz1 : w5.cell? ⟨gb, 1, none⟩ = some (.slice A1 g1.length c1) := (blk_cell BK.out 1).trans rfl; have hz2 : w5.cell? ⟨gb, 2, none⟩ = some (.slice A2 g2.length c2) := (blk_cell BK.out 2).trans rfl))
          go_ret
          exact ⟨by first | rfl | simp, HB.out⟩
        | false =>
          replace H := H
          obtain ⟨b4, h4, H⟩ := Option.bind_eq_some_iff.mp H
          have HY := Aside0.mk h4
          clear h4
          cases b4 with
          | true =>
            obtain rfl := Option.some.inj H
            clear H
            go_enter Try.func9, Try.ntmps9
            go_wp2_with (first | ((with_reducible refine gate_dst (N := 1) rfl ?_); refine box_event ?hg (N := 1) ?hd (cs := #[.int .i64 g0, .slice A1 g1.length c1, .slice A2 g2.length c2]) (t := 29) ?hr ?_; (case hd => rfl); (case hg => rfl); (case hr => first | (go_simp; done) | (go_simp; rfl)); intro gb hg w1 hbox hb; have n0_ := Aside0.mk (below_step HB.out hb); have BK := Aside0.mk hbox; clear HB; have HB := n0_; clear n0_ hb hbox hg; have hz0 : w1.cell? ⟨gb, 0, none⟩ = some (.int .i64 g0) := (blk_cell BK.out 0).trans rfl; have hz1 : w1.cell? ⟨gb, 1, none⟩ = some (.slice A1 g1.length c1) := (blk_cell BK.out 1).trans rfl; have hz2 : w1.cell? ⟨gb, 2, none⟩ = some (.slice A2 g2.length c2) := (blk_cell BK.out 2).trans rfl) | (go_at_call 22; (with_reducible refine (impl_isRoom.calls g0 _ _ HRoom.out).mono ?_); rintro e w2 ⟨rfl, hb0⟩; have hb := hb0.below; clear hb0; have m0_ := Aside0.mk (blk_below BK.out hb); have m1_ := Aside0.mk (below_step HB.out hb); clear hz0 hz1 hz2; clear BK HB; have BK := m0_; have HB := m1_; clear m0_ m1_ hb; have hz0 : w2.cell? ⟨gb, 0, none⟩ = some (.int .i64 g0) := (blk_cell BK.out 0).trans rfl; have hz1 : w2.cell? ⟨gb, 1, none⟩ = some (.slice A1 g1.length c1) := (blk_cell BK.out 1).trans rfl; have hz2 : w2.cell? ⟨gb, 2, none⟩ = some (.slice A2 g2.length c2) := (blk_cell BK.out 2).trans rfl) | (go_at_call 23; (with_reducible refine (impl_Graph_areRight.calls k g0 A1 c1 g1 A2 c2 g2 A1 c1 g1 _ _ ?side1 ?side2 ?side3 ?side4 ?side5 ?side6 HA.out).mono ?_); (case side1 => exact (Kd.C_below HR1.out HB.out)); (case side2 => exact HC1.out); (case side3 => exact (Kd.C_below HR2.out HB.out)); (case side4 => exact HC2.out); (case side5 => exact (Kd.C_below HR1.out HB.out)); (case side6 => exact HC1.out); rintro e w3 ⟨rfl, hb⟩; have m0_ := Aside0.mk (blk_below BK.out hb); have m1_ := Aside0.mk (below_step HB.out hb); clear hz0 hz1 hz2; clear BK HB; have BK := m0_; have HB := m1_; clear m0_ m1_ hb; have hz0 : w3.cell? ⟨gb, 0, none⟩ = some (.int .i64 g0) := (blk_cell BK.out 0).trans rfl; have hz1 : w3.cell? ⟨gb, 1, none⟩ = some (.slice A1 g1.length c1) := (blk_cell BK.out 1).trans rfl; have hz2 : w3.cell? ⟨gb, 2, none⟩ = some (.slice A2 g2.length c2) := (blk_cell BK.out 2).trans rfl) | (go_at_call 23; (with_reducible refine (impl_Graph_areRight.calls k g0 A1 c1 g1 A2 c2 g2 A2 c2 g2 _ _ ?side1 ?side2 ?side3 ?side4 ?side5 ?side6 HE.out).mono ?_); (case side1 => exact (Kd.C_below HR1.out HB.out)); (case side2 => exact HC1.out); (case side3 => exact (Kd.C_below HR2.out HB.out)); (case side4 => exact HC2.out); (case side5 => exact (Kd.C_below HR2.out HB.out)); (case side6 => exact HC2.out); rintro e w4 ⟨rfl, hb⟩; have m0_ := Aside0.mk (blk_below BK.out hb); have m1_ := Aside0.mk (below_step HB.out hb); clear hz0 hz1 hz2; clear BK HB; have BK := m0_; have HB := m1_; clear m0_ m1_ hb; have hz0 : w4.cell? ⟨gb, 0, none⟩ = some (.int .i64 g0) := (blk_cell BK.out 0).trans rfl; have hz1 : w4.cell? ⟨gb, 1, none⟩ = some (.slice A1 g1.length c1) := (blk_cell BK.out 1).trans rfl; have hz2 : w4.cell? ⟨gb, 2, none⟩ = some (.slice A2 g2.length c2) := (blk_cell BK.out 2).trans rfl) | (go_at_call 24; (with_reducible refine (impl_GraphRight.any1 k g0 A1 c1 g1 A2 c2 g2 _ gb _ ?side1 ?side2 ?side3 ?side4 hz0 hz1 hz2 HX.out).mono ?_); (case side1 => exact (Kd.C_below HR1.out HB.out)); (case side2 => exact HC1.out); (case side3 => exact (Kd.C_below HR2.out HB.out)); (case side4 => exact HC2.out); rintro e w5 ⟨rfl, hb⟩; have m0_ := Aside0.mk (blk_below BK.out hb); have m1_ := Aside0.mk (below_step HB.out hb); clear hz0 hz1 hz2; clear BK HB; have BK := m0_; have HB := m1_; clear m0_ m1_ hb; have hz0 : w5.cell? ⟨gb, 0, none⟩ = some (.int .i64 g0) := (blk_cell BK.out 0).trans rfl; have hz1 : w5.cell? ⟨gb, 1, none⟩ = some (.slice A1 g1.length c1) := (blk_cell BK.out 1).trans rfl; have hz2 : w5.cell? ⟨gb, 2, none⟩ = some (.slice A2 g2.length c2) := (blk_cell BK.out 2).trans rfl) | (go_at_call 24; (with_reducible refine (impl_GraphRight.any2 k g0 A1 c1 g1 A2 c2 g2 _ gb _ ?side1 ?side2 ?side3 ?side4 hz0 hz1 hz2 HY.out).mono ?_); (case side1 => exact (Kd.C_below HR1.out HB.out)); (case side2 => exact HC1.out); (case side3 => exact (Kd.C_below HR2.out HB.out)); (case side4 => exact HC2.out); rintro e w6 ⟨rfl, hb⟩; have m0_ := Aside0.mk (blk_below BK.out hb); have m1_ := Aside0.mk (below_step HB.out hb); clear hz0 hz1 hz2; clear BK HB; have BK := m0_; have HB := m1_; clear m0_ m1_ hb; have hz0 : w6.cell? ⟨gb, 0, none⟩ = some (.int .i64 g0) := (blk_cell BK.out 0).trans rfl; have hz1 : w6.cell? ⟨gb, 1, none⟩ = some (.slice A1 g1.length c1) := (blk_cell BK.out 1).trans rfl; have hz2 : w6.cell? ⟨gb, 2, none⟩ = some (.slice A2 g2.length c2) := (blk_cell BK.out 2).trans rfl))
            go_ret
            exact ⟨by first | rfl | simp, HB.out⟩
          | false =>
            obtain ⟨⟨d1, d2⟩, h5, H⟩ := Option.bind_eq_some_iff.mp H
            have HD := Aside0.mk h5
            obtain rfl := Option.some.inj H
            clear h5 H
            go_enter Try.func9, Try.ntmps9
            go_wp2_with (first | ((with_reducible refine gate_dst (N := 1) rfl ?_); refine box_event ?hg (N := 1) ?hd (cs := #[.int .i64 g0, .slice A1 g1.length c1, .slice A2 g2.length c2]) (t := 29) ?hr ?_; (case hd => rfl); (case hg => rfl); (case hr => first | (go_simp; done) | (go_simp; rfl)); intro gb hg w1 hbox hb; have n0_ := Aside0.mk (below_step HB.out hb); have BK := Aside0.mk hbox; clear HB; have HB := n0_; clear n0_ hb hbox hg; have hz0 : w1.cell? ⟨gb, 0, none⟩ = some (.int .i64 g0) := (blk_cell BK.out 0).trans rfl; have hz1 : w1.cell? ⟨gb, 1, none⟩ = some (.slice A1 g1.length c1) := (blk_cell BK.out 1).trans rfl; have hz2 : w1.cell? ⟨gb, 2, none⟩ = some (.slice A2 g2.length c2) := (blk_cell BK.out 2).trans rfl) | (go_at_call 22; (with_reducible refine (impl_isRoom.calls g0 _ _ HRoom.out).mono ?_); rintro e w2 ⟨rfl, hb0⟩; have hb := hb0.below; clear hb0; have m0_ := Aside0.mk (blk_below BK.out hb); have m1_ := Aside0.mk (below_step HB.out hb); clear hz0 hz1 hz2; clear BK HB; have BK := m0_; have HB := m1_; clear m0_ m1_ hb; have hz0 : w2.cell? ⟨gb, 0, none⟩ = some (.int .i64 g0) := (blk_cell BK.out 0).trans rfl; have hz1 : w2.cell? ⟨gb, 1, none⟩ = some (.slice A1 g1.length c1) := (blk_cell BK.out 1).trans rfl; have hz2 : w2.cell? ⟨gb, 2, none⟩ = some (.slice A2 g2.length c2) := (blk_cell BK.out 2).trans rfl) | (go_at_call 23; (with_reducible refine (impl_Graph_areRight.calls k g0 A1 c1 g1 A2 c2 g2 A1 c1 g1 _ _ ?side1 ?side2 ?side3 ?side4 ?side5 ?side6 HA.out).mono ?_); (case side1 => exact (Kd.C_below HR1.out HB.out)); (case side2 => exact HC1.out); (case side3 => exact (Kd.C_below HR2.out HB.out)); (case side4 => exact HC2.out); (case side5 => exact (Kd.C_below HR1.out HB.out)); (case side6 => exact HC1.out); rintro e w3 ⟨rfl, hb⟩; have m0_ := Aside0.mk (blk_below BK.out hb); have m1_ := Aside0.mk (below_step HB.out hb); clear hz0 hz1 hz2; clear BK HB; have BK := m0_; have HB := m1_; clear m0_ m1_ hb; have hz0 : w3.cell? ⟨gb, 0, none⟩ = some (.int .i64 g0) := (blk_cell BK.out 0).trans rfl; have hz1 : w3.cell? ⟨gb, 1, none⟩ = some (.slice A1 g1.length c1) := (blk_cell BK.out 1).trans rfl; have hz2 : w3.cell? ⟨gb, 2, none⟩ = some (.slice A2 g2.length c2) := (blk_cell BK.out 2).trans rfl) | (go_at_call 23; (with_reducible refine (impl_Graph_areRight.calls k g0 A1 c1 g1 A2 c2 g2 A2 c2 g2 _ _ ?side1 ?side2 ?side3 ?side4 ?side5 ?side6 HE.out).mono ?_); (case side1 => exact (Kd.C_below HR1.out HB.out)); (case side2 => exact HC1.out); (case side3 => exact (Kd.C_below HR2.out HB.out)); (case side4 => exact HC2.out); (case side5 => exact (Kd.C_below HR2.out HB.out)); (case side6 => exact HC2.out); rintro e w4 ⟨rfl, hb⟩; have m0_ := Aside0.mk (blk_below BK.out hb); have m1_ := Aside0.mk (below_step HB.out hb); clear hz0 hz1 hz2; clear BK HB; have BK := m0_; have HB := m1_; clear m0_ m1_ hb; have hz0 : w4.cell? ⟨gb, 0, none⟩ = some (.int .i64 g0) := (blk_cell BK.out 0).trans rfl; have hz1 : w4.cell? ⟨gb, 1, none⟩ = some (.slice A1 g1.length c1) := (blk_cell BK.out 1).trans rfl; have hz2 : w4.cell? ⟨gb, 2, none⟩ = some (.slice A2 g2.length c2) := (blk_cell BK.out 2).trans rfl) | (go_at_call 24; (with_reducible refine (impl_GraphRight.any1 k g0 A1 c1 g1 A2 c2 g2 _ gb _ ?side1 ?side2 ?side3 ?side4 hz0 hz1 hz2 HX.out).mono ?_); (case side1 => exact (Kd.C_below HR1.out HB.out)); (case side2 => exact HC1.out); (case side3 => exact (Kd.C_below HR2.out HB.out)); (case side4 => exact HC2.out); rintro e w5 ⟨rfl, hb⟩; have m0_ := Aside0.mk (blk_below BK.out hb); have m1_ := Aside0.mk (below_step HB.out hb); clear hz0 hz1 hz2; clear BK HB; have BK := m0_; have HB := m1_; clear m0_ m1_ hb; have hz0 : w5.cell? ⟨gb, 0, none⟩ = some (.int .i64 g0) := (blk_cell BK.out 0).trans rfl; have hz1 : w5.cell? ⟨gb, 1, none⟩ = some (.slice A1 g1.length c1) := (blk_cell BK.out 1).trans rfl; have hz2 : w5.cell? ⟨gb, 2, none⟩ = some (.slice A2 g2.length c2) := (blk_cell BK.out 2).trans rfl) | (go_at_call 24; (with_reducible refine (impl_GraphRight.any2 k g0 A1 c1 g1 A2 c2 g2 _ gb _ ?side1 ?side2 ?side3 ?side4 hz0 hz1 hz2 HY.out).mono ?_); (case side1 => exact (Kd.C_below HR1.out HB.out)); (case side2 => exact HC1.out); (case side3 => exact (Kd.C_below HR2.out HB.out)); (case side4 => exact HC2.out); rintro e w6 ⟨rfl, hb⟩; have m0_ := Aside0.mk (blk_below BK.out hb); have m1_ := Aside0.mk (below_step HB.out hb); clear hz0 hz1 hz2; clear BK HB; have BK := m0_; have HB := m1_; clear m0_ m1_ hb; have hz0 : w6.cell? ⟨gb, 0, none⟩ = some (.int .i64 g0) := (blk_cell BK.out 0).trans rfl; have hz1 : w6.cell? ⟨gb, 1, none⟩ = some (.slice A1 g1.length c1) := (blk_cell BK.out 1).trans rfl; have hz2 : w6.cell? ⟨gb, 2, none⟩ = some (.slice A2 g2.length c2) := (blk_cell BK.out 2).trans rfl) | (go_at_call 29; (with_reducible refine (impl_Graph_depths.calls k g0 A1 c1 g1 A2 c2 g2 _ _ _ ?side1 ?side2 ?side3 ?side4 HD.out).mono ?_); (case side1 => exact (Kd.C_below HR1.out HB.out)); (case side2 => exact HC1.out); (case side3 => exact (Kd.C_below HR2.out HB.out)); (case side4 => exact HC2.out); rintro e w7 ⟨v0_, rfl, _, hb⟩; have m0_ := Aside0.mk (blk_below BK.out hb); have m1_ := Aside0.mk (below_step HB.out hb); clear hz0 hz1 hz2; clear BK HB; have BK := m0_; have HB := m1_; clear m0_ m1_ hb; have hz0 : w7.cell? ⟨gb, 0, none⟩ = some (.int .i64 g0) := (blk_cell BK.out 0).trans rfl; have hz1 : w7.cell? ⟨gb, 1, none⟩ = some (.slice A1 g1.length c1) := (blk_cell BK.out 1).trans rfl; have hz2 : w7.cell? ⟨gb, 2, none⟩ = some (.slice A2 g2.length c2) := (blk_cell BK.out 2).trans rfl))
            go_ret
            exact ⟨by first | rfl | simp, HB.out⟩

/-! ### laws_eqInt64S: function 58 -/
def laws_eqInt64S.l0 : Nat → List Int → List Int → Int → Option (Bool)
  | 0, _, _, _ => none
  | k + 1, x0, x1, x5 => if x5 < (x0.length : Int) then (if 0 ≤ x5 then (if x5 < (x1.length : Int) then (if (rd x0 x5) = (rd x1 x5) then (laws_eqInt64S.l0 k x0 x1 (wrap64 (x5 + 1))) else (some false)) else (none)) else (none)) else (some true)
def laws_eqInt64S.f (k : Nat) (l0 : List Int) (l1 : List Int) : Option (Bool) := if (l0.length : Int) = (l1.length : Int) then (laws_eqInt64S.l0 k l0 l1 0) else (some false)
theorem laws_eqInt64S.mono_l : ∀ k, (∀ y0 y1 y2, LeO (laws_eqInt64S.l0 k y0 y1 y2) (laws_eqInt64S.l0 (k + 1) y0 y1 y2))
  | 0 => fun _ _ _ r h => by simp [laws_eqInt64S.l0] at h
  | k + 1 => by
    have ih0 := laws_eqInt64S.mono_l k
    · intro y0 y1 y2
      unfold laws_eqInt64S.l0
      repeat' first
      | (with_reducible exact ih0 _ _ _)
      | (with_reducible exact LeO.refl _)
      | (with_reducible exact LeO.none _)
      | (with_reducible refine LeO.ite ?_ ?_)
      | (with_reducible refine LeO.bind ?_ (fun _ => ?_))
      | exact ih0 _ _ _
      | exact LeO.none _
      | refine LeO.ite ?_ ?_
      | refine LeO.bind ?_ (fun _ => ?_)
theorem laws_eqInt64S.mono : ∀ a0 a1 k, LeO (laws_eqInt64S.f k a0 a1) (laws_eqInt64S.f (k + 1) a0 a1) := by
  intro a0 a1 k
  have ih0 := laws_eqInt64S.mono_l k
  unfold laws_eqInt64S.f
  repeat' first
      | (with_reducible exact ih0 _ _ _)
      | (with_reducible exact LeO.refl _)
      | (with_reducible exact LeO.none _)
      | (with_reducible refine LeO.ite ?_ ?_)
      | (with_reducible refine LeO.bind ?_ (fun _ => ?_))
      | exact ih0 _ _ _
      | exact LeO.none _
      | refine LeO.ite ?_ ?_
      | refine LeO.bind ?_ (fun _ => ?_)
set_option maxHeartbeats 8000000 in
set_option maxRecDepth 100000 in
theorem laws_eqInt64S.calls (k : Nat) (A0 : Option Addr) (c0 : Nat) (l0 : List Int) (A1 : Option Addr) (c1 : Nat) (l1 : List Int) (r : Bool) (w : World) (hr0 : Kd.C (Kd.int .i64) w A0 l0.length l0) (hc0 : l0.length ≤ c0) (hr1 : Kd.C (Kd.int .i64) w A1 l1.length l1) (hc1 : l1.length ≤ c1) (h : laws_eqInt64S.f k l0 l1 = some r) :
    Calls Try.prog 58 #[.slice A0 l0.length c0, .slice A1 l1.length c1] w fun e w' => e = .returned (.bool r) ∧ Drawn0 w w' := by
 have HR0 := Aside0.mk hr0
 have HC0 := Aside0.mk hc0
 clear hr0 hc0
 have HR1 := Aside0.mk hr1
 have HC1 := Aside0.mk hc1
 clear hr1 hc1
 have H : (if (l0.length : Int) = (l1.length : Int) then (laws_eqInt64S.l0 k l0 l1 0) else (some false)) = some r := h
 clear h
 by_cases c3 : (l0.length : Int) = (l1.length : Int)
 ·
  rw [if_pos c3] at H
  have c3b0 : ((l0.length : Int) == (l1.length : Int)) = true := beq_iff_eq.mpr c3
  have c3b1 : ((l0.length : Int) != (l1.length : Int)) = false := bne_eq_false_iff_eq.mpr c3
  have c3b2 : (l0.length == l1.length) = true := by first | simpa using c3 | (simp at c3 ⊢; omega)
  clear c3
  have H' := Aside0.mk H
  clear H
  go_enter Try.func58, Try.ntmps58
  go_wp2
  repeat (go_quiet (fail); try go_wp2)
  go_loopg [5] k (fun kq v5 w' => ∃ (x5_1 : Int), v5 = .int .i64 x5_1 ∧ Aside0 (laws_eqInt64S.l0 kq l0 l1 x5_1 = some r) ∧ Aside0 (kq ≤ k) ∧ Drawn0 w w')
  case atStart => exact ⟨(0), (by first | rfl | (simp; done) | (simp [*]; done)), H', ⟨Nat.le_refl _⟩, by repeat (first | exact Drawn0.refl _ | apply Drawn0.step)⟩
  case round =>
   clear H'
   try clear c1
   try clear p2
   try clear c3
   try clear c3b0
   try clear c3b1
   try clear c3b2
   obtain ⟨x5_1, rfl, HA, HK1, ⟨m1, rfl⟩⟩ := hrel
   cases gk with
   | zero => exact absurd HA.out (by simp [laws_eqInt64S.l0])
   | succ k1 =>
    have H := HA.out
    clear HA
    simp only [laws_eqInt64S.l0] at H
    by_cases c4 : x5_1 < (l0.length : Int)
    ·
     rw [if_pos c4] at H
     have c4b0 : decide (x5_1 < (l0.length : Int)) = true := decide_eq_true c4
     clear c4
     by_cases c5 : 0 ≤ x5_1
     ·
      rw [if_pos c5] at H
      have c5b0 : decide (0 ≤ x5_1) = true := decide_eq_true c5
      clear c5
      by_cases c6 : x5_1 < (l1.length : Int)
      ·
       rw [if_pos c6] at H
       have c6b0 : decide (x5_1 < (l1.length : Int)) = true := decide_eq_true c6
       clear c6
       by_cases c7 : (rd l0 x5_1) = (rd l1 x5_1)
       ·
        rw [if_pos c7] at H
        have c7b0 : ((rd l0 x5_1) == (rd l1 x5_1)) = true := beq_iff_eq.mpr c7
        have c7b1 : ((rd l0 x5_1) != (rd l1 x5_1)) = false := bne_eq_false_iff_eq.mpr c7
        clear c7
        have H' := Aside0.mk H
        clear H
        have p260 : 0 ≤ (x5_1 : Int) := of_decide_eq_true (by first | (with_reducible assumption) | assumption)
        have q260 : x5_1 < (l0.length : Int) := of_decide_eq_true (by first | (with_reducible assumption) | assumption)
        obtain ⟨ad260, e260, hx260_0⟩ := Kd.at_int HR0.out x5_1 p260 q260
        cases e260
        replace p260 := eq_true p260
        replace q260 := eq_true q260
        have p261 : 0 ≤ (x5_1 : Int) := of_decide_eq_true (by first | (with_reducible assumption) | assumption)
        have q261 : x5_1 < (l1.length : Int) := of_decide_eq_true (by first | (with_reducible assumption) | assumption)
        obtain ⟨ad261, e261, hx261_0⟩ := Kd.at_int HR1.out x5_1 p261 q261
        cases e261
        replace p261 := eq_true p261
        replace q261 := eq_true q261
        go_wp2
        repeat (go_quiet (fail); try go_wp2)
        go_roundg k1
        case measure => have := HK1.out; omega
        case rel => exact ⟨(wrap64 (x5_1 + 1)), (by first | rfl | (simp; done) | (simp [*]; done)), H', ⟨by have := HK1.out; omega⟩, by repeat (first | exact Drawn0.refl _ | apply Drawn0.step)⟩
       ·
        rw [if_neg c7] at H
        have c7b0 : ((rd l0 x5_1) == (rd l1 x5_1)) = false := beq_eq_false_iff_ne.mpr c7
        have c7b1 : ((rd l0 x5_1) != (rd l1 x5_1)) = true := bne_iff_ne.mpr c7
        obtain rfl := Option.some.inj H
        have p260 : 0 ≤ (x5_1 : Int) := of_decide_eq_true (by first | (with_reducible assumption) | assumption)
        have q260 : x5_1 < (l0.length : Int) := of_decide_eq_true (by first | (with_reducible assumption) | assumption)
        obtain ⟨ad260, e260, hx260_0⟩ := Kd.at_int HR0.out x5_1 p260 q260
        cases e260
        replace p260 := eq_true p260
        replace q260 := eq_true q260
        have p261 : 0 ≤ (x5_1 : Int) := of_decide_eq_true (by first | (with_reducible assumption) | assumption)
        have q261 : x5_1 < (l1.length : Int) := of_decide_eq_true (by first | (with_reducible assumption) | assumption)
        obtain ⟨ad261, e261, hx261_0⟩ := Kd.at_int HR1.out x5_1 p261 q261
        cases e261
        replace p261 := eq_true p261
        replace q261 := eq_true q261
        go_wp2
        repeat (go_quiet (fail); try go_wp2)
        go_ret
        exact ⟨by first | rfl | (simp; done) | (simp [*]; done), by repeat (first | exact Drawn0.refl _ | apply Drawn0.step)⟩
      ·
       rw [if_neg c6] at H
       exact absurd H (by simp)
     ·
      rw [if_neg c5] at H
      exact absurd H (by simp)
    ·
     rw [if_neg c4] at H
     have c4b0 : decide (x5_1 < (l0.length : Int)) = false := decide_eq_false c4
     clear c4
     obtain rfl := Option.some.inj H
     go_wp2
     repeat (go_quiet (fail); try go_wp2)
     go_ret
     exact ⟨by first | rfl | (simp; done) | (simp [*]; done), by repeat (first | exact Drawn0.refl _ | apply Drawn0.step)⟩
 ·
  rw [if_neg c3] at H
  have c3b0 : ((l0.length : Int) == (l1.length : Int)) = false := beq_eq_false_iff_ne.mpr c3
  have c3b1 : ((l0.length : Int) != (l1.length : Int)) = true := bne_iff_ne.mpr c3
  have c3b2 : (l0.length == l1.length) = false := by first | simpa using c3 | (simp at c3 ⊢; omega)
  obtain rfl := Option.some.inj H
  go_enter Try.func58, Try.ntmps58
  go_wp2
  repeat (go_quiet (fail); try go_wp2)
  go_ret
  exact ⟨by first | rfl | (simp; done) | (simp [*]; done), by repeat (first | exact Drawn0.refl _ | apply Drawn0.step)⟩

/-! ### laws_eqEvent: function 43 -/
def laws_eqEvent.f (k : Nat) (a0_0 : Int) (a0_1 : Int) (a0_2 : Int) (a0_3 : Int) (a0_4 : Int) (a0_5 : Int) (a0_6 : ByteArray) (l0_7 : List Int) (a0_8 : Int) (a1_0 : Int) (a1_1 : Int) (a1_2 : Int) (a1_3 : Int) (a1_4 : Int) (a1_5 : Int) (a1_6 : ByteArray) (l1_7 : List Int) (a1_8 : Int) : Option (Bool) := if a0_0 = a1_0 then (if a0_1 = a1_1 then (if a0_2 = a1_2 then (if a0_3 = a1_3 then (if a0_4 = a1_4 then (if a0_5 = a1_5 then (if a0_6.toList = a1_6.toList then ((laws_eqInt64S.f k l0_7 l1_7).bind fun t264 => (if t264 = true then (if a0_8 = a1_8 then (some true) else (some false)) else (some false))) else (some false)) else (some false)) else (some false)) else (some false)) else (some false)) else (some false)) else (some false)
theorem laws_eqEvent.mono : ∀ a0 a1 a2 a3 a4 a5 a6 a7 a8 a9 a10 a11 a12 a13 a14 a15 a16 a17 k, LeO (laws_eqEvent.f k a0 a1 a2 a3 a4 a5 a6 a7 a8 a9 a10 a11 a12 a13 a14 a15 a16 a17) (laws_eqEvent.f (k + 1) a0 a1 a2 a3 a4 a5 a6 a7 a8 a9 a10 a11 a12 a13 a14 a15 a16 a17) := by
  intro a0 a1 a2 a3 a4 a5 a6 a7 a8 a9 a10 a11 a12 a13 a14 a15 a16 a17 k
  unfold laws_eqEvent.f
  repeat' first
      | (with_reducible exact laws_eqInt64S.mono _ _ _)
      | (with_reducible exact LeO.refl _)
      | (with_reducible exact LeO.none _)
      | (with_reducible refine LeO.ite ?_ ?_)
      | (with_reducible refine LeO.bind ?_ (fun _ => ?_))
      | exact laws_eqInt64S.mono _ _ _
      | exact LeO.none _
      | refine LeO.ite ?_ ?_
      | refine LeO.bind ?_ (fun _ => ?_)
set_option maxHeartbeats 8000000 in
set_option maxRecDepth 100000 in
theorem laws_eqEvent.calls (k : Nat) (a0_0 : Int) (a0_1 : Int) (a0_2 : Int) (a0_3 : Int) (a0_4 : Int) (a0_5 : Int) (a0_6 : ByteArray) (A0_7 : Option Addr) (c0_7 : Nat) (l0_7 : List Int) (a0_8 : Int) (a1_0 : Int) (a1_1 : Int) (a1_2 : Int) (a1_3 : Int) (a1_4 : Int) (a1_5 : Int) (a1_6 : ByteArray) (A1_7 : Option Addr) (c1_7 : Nat) (l1_7 : List Int) (a1_8 : Int) (r : Bool) (w : World) (hr0_7 : Kd.C (Kd.int .i64) w A0_7 l0_7.length l0_7) (hc0_7 : l0_7.length ≤ c0_7) (hr1_7 : Kd.C (Kd.int .i64) w A1_7 l1_7.length l1_7) (hc1_7 : l1_7.length ≤ c1_7) (h : laws_eqEvent.f k a0_0 a0_1 a0_2 a0_3 a0_4 a0_5 a0_6 l0_7 a0_8 a1_0 a1_1 a1_2 a1_3 a1_4 a1_5 a1_6 l1_7 a1_8 = some r) :
    Calls Try.prog 43 #[.agg #[.int .i64 a0_0, .int .i64 a0_1, .int .i64 a0_2, .int .i64 a0_3, .int .i64 a0_4, .int .i64 a0_5, .string a0_6, .slice A0_7 l0_7.length c0_7, .int .i64 a0_8], .agg #[.int .i64 a1_0, .int .i64 a1_1, .int .i64 a1_2, .int .i64 a1_3, .int .i64 a1_4, .int .i64 a1_5, .string a1_6, .slice A1_7 l1_7.length c1_7, .int .i64 a1_8]] w fun e w' => e = .returned (.bool r) ∧ Below w.heap.size w w' := by
 have hu43 := Try.underlying43
 have HR0_7 := Aside0.mk hr0_7
 have HC0_7 := Aside0.mk hc0_7
 clear hr0_7 hc0_7
 have HR1_7 := Aside0.mk hr1_7
 have HC1_7 := Aside0.mk hc1_7
 clear hr1_7 hc1_7
 have HB := Aside0.mk (Below.refl w.heap.size w)
 have H : (if a0_0 = a1_0 then (if a0_1 = a1_1 then (if a0_2 = a1_2 then (if a0_3 = a1_3 then (if a0_4 = a1_4 then (if a0_5 = a1_5 then (if a0_6.toList = a1_6.toList then ((laws_eqInt64S.f k l0_7 l1_7).bind fun t264 => (if t264 = true then (if a0_8 = a1_8 then (some true) else (some false)) else (some false))) else (some false)) else (some false)) else (some false)) else (some false)) else (some false)) else (some false)) else (some false)) = some r := h
 clear h
 go_enter Try.func43, Try.ntmps43
 go_upto_if 9 with (first | ((with_reducible refine gate_dst (N := 2) rfl ?_); refine box_event ?hg (N := 2) ?hd (cs := #[.int .i64 a0_0, .int .i64 a0_1, .int .i64 a0_2, .int .i64 a0_3, .int .i64 a0_4, .int .i64 a0_5, .string a0_6, .slice A0_7 l0_7.length c0_7, .int .i64 a0_8]) (t := 43) ?hr ?_; (case hd => rfl); (case hg => rfl); (case hr => first | (go_simp; done) | (go_simp; rfl)); intro gb262 hg w13 hbox hb; have n0_ := Aside0.mk (below_step (a1_ HB.out) hb); have n1_ := Aside0.mk (hbox); have n2_ := Aside0.mk ((by rw [hg]; exact (below_size (a1_ HB.out)) : w.heap.size ≤ gb262)); have n3_ := Aside0.mk ((by rw [hg]; exact (below_size (a1_ HB.out)) : w.heap.size ≤ gb262)); clear HB; have HB := n0_; have BK262 := n1_; have GW262 := n2_; have GE262 := n3_; clear n0_ n1_ n2_ n3_; clear hb hbox hg) | ((with_reducible refine gate_dst (N := 3) rfl ?_); refine box_event ?hg (N := 3) ?hd (cs := #[.int .i64 a1_0, .int .i64 a1_1, .int .i64 a1_2, .int .i64 a1_3, .int .i64 a1_4, .int .i64 a1_5, .string a1_6, .slice A1_7 l1_7.length c1_7, .int .i64 a1_8]) (t := 43) ?hr ?_; (case hd => rfl); (case hg => rfl); (case hr => first | (go_simp; done) | (go_simp; rfl)); intro gb263 hg w14 hbox hb; have n0_ := Aside0.mk (blk_below (g := gb262) (o := .cells #[.int .i64 a0_0, .int .i64 a0_1, .int .i64 a0_2, .int .i64 a0_3, .int .i64 a0_4, .int .i64 a0_5, .string a0_6, .slice A0_7 l0_7.length c0_7, .int .i64 a0_8] 43 (0, 0)) (a6_ BK262.out) hb); have n1_ := Aside0.mk (below_step (a3_ HB.out GE262.out) hb); have n2_ := Aside0.mk (hbox); have n3_ := Aside0.mk ((by rw [hg]; exact (below_size (a3_ HB.out GE262.out)) : w.heap.size ≤ gb263)); have n4_ := Aside0.mk ((by rw [hg]; exact (below_size (a3_ HB.out GE262.out)) : w.heap.size ≤ gb263)); have n5_ := Aside0.mk ((by rw [hg]; exact Nat.ne_of_lt (blk_lt (g := gb262) (o := .cells #[.int .i64 a0_0, .int .i64 a0_1, .int .i64 a0_2, .int .i64 a0_3, .int .i64 a0_4, .int .i64 a0_5, .string a0_6, .slice A0_7 l0_7.length c0_7, .int .i64 a0_8] 43 (0, 0)) (a6_ BK262.out)) : gb262 ≠ gb263)); have n6_ := Aside0.mk ((by rw [hg]; exact Nat.ne_of_gt (blk_lt (g := gb262) (o := .cells #[.int .i64 a0_0, .int .i64 a0_1, .int .i64 a0_2, .int .i64 a0_3, .int .i64 a0_4, .int .i64 a0_5, .string a0_6, .slice A0_7 l0_7.length c0_7, .int .i64 a0_8] 43 (0, 0)) (a6_ BK262.out)) : gb263 ≠ gb262)); clear BK262; clear HB; have BK262 := n0_; have HB := n1_; have BK263 := n2_; have GW263 := n3_; have GE263 := n4_; have NB262_263 := n5_; have NB263_262 := n6_; clear n0_ n1_ n2_ n3_ n4_ n5_ n6_; clear hb hbox hg; have hnb15 := NB262_263.out; have hnc15 := NB263_262.out; obtain ⟨⟨hcz16_0, hcz16_1, hcz16_2, hcz16_3, hcz16_4, hcz16_5, hcz16_6, hcz16_7, hcz16_8⟩, hfz16_0, hfz16_1, hfz16_2, hfz16_3, hfz16_4, hfz16_5, hfz16_6, hfz16_7, hfz16_8⟩ := cells_9 BK262.out; obtain ⟨⟨hcz17_0, hcz17_1, hcz17_2, hcz17_3, hcz17_4, hcz17_5, hcz17_6, hcz17_7, hcz17_8⟩, hfz17_0, hfz17_1, hfz17_2, hfz17_3, hfz17_4, hfz17_5, hfz17_6, hfz17_7, hfz17_8⟩ := cells_9 BK263.out))
 by_cases c3 : a0_0 = a1_0
 ·
  rw [if_pos c3] at H
  have c3b0 : (a0_0 == a1_0) = true := beq_iff_eq.mpr c3
  have c3b1 : (a0_0 != a1_0) = false := bne_eq_false_iff_eq.mpr c3
  clear c3
  (try simp only [c3b0, Bool.not_true, Bool.not_false])
  (try simp only [c3b1, Bool.not_true, Bool.not_false])
  by_cases c4 : a0_1 = a1_1
  ·
   rw [if_pos c4] at H
   have c4b0 : (a0_1 == a1_1) = true := beq_iff_eq.mpr c4
   have c4b1 : (a0_1 != a1_1) = false := bne_eq_false_iff_eq.mpr c4
   clear c4
   (try simp only [c4b0, Bool.not_true, Bool.not_false])
   (try simp only [c4b1, Bool.not_true, Bool.not_false])
   by_cases c5 : a0_2 = a1_2
   ·
    rw [if_pos c5] at H
    have c5b0 : (a0_2 == a1_2) = true := beq_iff_eq.mpr c5
    have c5b1 : (a0_2 != a1_2) = false := bne_eq_false_iff_eq.mpr c5
    clear c5
    (try simp only [c5b0, Bool.not_true, Bool.not_false])
    (try simp only [c5b1, Bool.not_true, Bool.not_false])
    by_cases c6 : a0_3 = a1_3
    ·
     rw [if_pos c6] at H
     have c6b0 : (a0_3 == a1_3) = true := beq_iff_eq.mpr c6
     have c6b1 : (a0_3 != a1_3) = false := bne_eq_false_iff_eq.mpr c6
     clear c6
     (try simp only [c6b0, Bool.not_true, Bool.not_false])
     (try simp only [c6b1, Bool.not_true, Bool.not_false])
     by_cases c7 : a0_4 = a1_4
     ·
      rw [if_pos c7] at H
      have c7b0 : (a0_4 == a1_4) = true := beq_iff_eq.mpr c7
      have c7b1 : (a0_4 != a1_4) = false := bne_eq_false_iff_eq.mpr c7
      clear c7
      (try simp only [c7b0, Bool.not_true, Bool.not_false])
      (try simp only [c7b1, Bool.not_true, Bool.not_false])
      by_cases c8 : a0_5 = a1_5
      ·
       rw [if_pos c8] at H
       have c8b0 : (a0_5 == a1_5) = true := beq_iff_eq.mpr c8
       have c8b1 : (a0_5 != a1_5) = false := bne_eq_false_iff_eq.mpr c8
       clear c8
       (try simp only [c8b0, Bool.not_true, Bool.not_false])
       (try simp only [c8b1, Bool.not_true, Bool.not_false])
       by_cases c9 : a0_6.toList = a1_6.toList
       ·
        rw [if_pos c9] at H
        have c9b0 : (a0_6.toList == a1_6.toList) = true := beq_iff_eq.mpr c9
        have c9b1 : (a0_6.toList != a1_6.toList) = false := bne_eq_false_iff_eq.mpr c9
        clear c9
        replace H := Option.bind_eq_some_iff.mp H
        obtain ⟨t264, A100, H⟩ := H
        replace H : (if t264 = true then (if a0_8 = a1_8 then (some true) else (some false)) else (some false)) = some r := H
        have A10 := Aside0.mk A100
        clear A100
        (try simp only [c9b0, Bool.not_true, Bool.not_false])
        (try simp only [c9b1, Bool.not_true, Bool.not_false])
        go_upto_if 45 with (first | ((with_reducible refine gate_callee (f := 58) rfl ?_); refine goesL_ (some 44) rfl rfl Try.func58 (by kernel_rfl) rfl #[.slice A0_7 l0_7.length c0_7, .slice A1_7 l1_7.length c1_7] rfl (by (try simp only [List.map_toArray, List.map_cons, List.map_nil]); first | done | rfl | (simp only [List.length_drop, List.length_take]; rfl)) ?_; (with_reducible refine (laws_eqInt64S.calls k _ _ l0_7 _ _ l1_7 t264 _ ?side1 ?side2 ?side3 ?side4 A10.out).mono ?_); (case side1 => repeat (first | exact (Kd.C_below HR0_7.out HB.out) | (with_reducible refine Kd.C_alloc ?_ _) | (with_reducible refine Kd.C_drewN ?_ _) | (with_reducible refine Kd.C_drew ?_))); (case side2 => exact HC0_7.out); (case side3 => repeat (first | exact (Kd.C_below HR1_7.out HB.out) | (with_reducible refine Kd.C_alloc ?_ _) | (with_reducible refine Kd.C_drewN ?_ _) | (with_reducible refine Kd.C_drew ?_))); (case side4 => exact HC1_7.out); rintro e w' ⟨rfl, ⟨nd, rfl⟩⟩; refine ⟨_, rfl, ?_⟩))
        by_cases c11 : t264 = true
        ·
         subst c11
         have H1 : (if a0_8 = a1_8 then (some true) else (some false)) = some r := by rw [if_pos rfl] at H; exact H
         clear H
         have H := H1
         clear H1
         by_cases c12 : a0_8 = a1_8
         ·
          rw [if_pos c12] at H
          have c12b0 : (a0_8 == a1_8) = true := beq_iff_eq.mpr c12
          have c12b1 : (a0_8 != a1_8) = false := bne_eq_false_iff_eq.mpr c12
          clear c12
          obtain rfl := Option.some.inj H
          (try simp only [c12b0, Bool.not_true, Bool.not_false])
          (try simp only [c12b1, Bool.not_true, Bool.not_false])
          go_wp2
          go_ret
          exact ⟨a2_, (a4_ HB.out GE262.out GE263.out)⟩
         ·
          rw [if_neg c12] at H
          have c12b0 : (a0_8 == a1_8) = false := beq_eq_false_iff_ne.mpr c12
          have c12b1 : (a0_8 != a1_8) = true := bne_iff_ne.mpr c12
          obtain rfl := Option.some.inj H
          (try simp only [c12b0, Bool.not_true, Bool.not_false])
          (try simp only [c12b1, Bool.not_true, Bool.not_false])
          go_wp2
          go_ret
          exact ⟨a2_, (a4_ HB.out GE262.out GE263.out)⟩
        ·
         replace c11 := Bool.eq_false_iff.mpr c11
         subst c11
         have H1 : (some false) = some r := by rw [if_neg (show ¬ (false = true) by decide)] at H; exact H
         clear H
         have H := H1
         clear H1
         obtain rfl := Option.some.inj H
         go_wp2
         go_ret
         exact ⟨a2_, (a4_ HB.out GE262.out GE263.out)⟩
       ·
        rw [if_neg c9] at H
        have c9b0 : (a0_6.toList == a1_6.toList) = false := beq_eq_false_iff_ne.mpr c9
        have c9b1 : (a0_6.toList != a1_6.toList) = true := bne_iff_ne.mpr c9
        obtain rfl := Option.some.inj H
        (try simp only [c9b0, Bool.not_true, Bool.not_false])
        (try simp only [c9b1, Bool.not_true, Bool.not_false])
        go_wp2
        go_ret
        exact ⟨a2_, (a4_ HB.out GE262.out GE263.out)⟩
      ·
       rw [if_neg c8] at H
       have c8b0 : (a0_5 == a1_5) = false := beq_eq_false_iff_ne.mpr c8
       have c8b1 : (a0_5 != a1_5) = true := bne_iff_ne.mpr c8
       obtain rfl := Option.some.inj H
       (try simp only [c8b0, Bool.not_true, Bool.not_false])
       (try simp only [c8b1, Bool.not_true, Bool.not_false])
       go_wp2
       go_ret
       exact ⟨a2_, (a4_ HB.out GE262.out GE263.out)⟩
     ·
      rw [if_neg c7] at H
      have c7b0 : (a0_4 == a1_4) = false := beq_eq_false_iff_ne.mpr c7
      have c7b1 : (a0_4 != a1_4) = true := bne_iff_ne.mpr c7
      obtain rfl := Option.some.inj H
      (try simp only [c7b0, Bool.not_true, Bool.not_false])
      (try simp only [c7b1, Bool.not_true, Bool.not_false])
      go_wp2
      go_ret
      exact ⟨a2_, (a4_ HB.out GE262.out GE263.out)⟩
    ·
     rw [if_neg c6] at H
     have c6b0 : (a0_3 == a1_3) = false := beq_eq_false_iff_ne.mpr c6
     have c6b1 : (a0_3 != a1_3) = true := bne_iff_ne.mpr c6
     obtain rfl := Option.some.inj H
     (try simp only [c6b0, Bool.not_true, Bool.not_false])
     (try simp only [c6b1, Bool.not_true, Bool.not_false])
     go_wp2
     go_ret
     exact ⟨a2_, (a4_ HB.out GE262.out GE263.out)⟩
   ·
    rw [if_neg c5] at H
    have c5b0 : (a0_2 == a1_2) = false := beq_eq_false_iff_ne.mpr c5
    have c5b1 : (a0_2 != a1_2) = true := bne_iff_ne.mpr c5
    obtain rfl := Option.some.inj H
    (try simp only [c5b0, Bool.not_true, Bool.not_false])
    (try simp only [c5b1, Bool.not_true, Bool.not_false])
    go_wp2
    go_ret
    exact ⟨a2_, (a4_ HB.out GE262.out GE263.out)⟩
  ·
   rw [if_neg c4] at H
   have c4b0 : (a0_1 == a1_1) = false := beq_eq_false_iff_ne.mpr c4
   have c4b1 : (a0_1 != a1_1) = true := bne_iff_ne.mpr c4
   obtain rfl := Option.some.inj H
   (try simp only [c4b0, Bool.not_true, Bool.not_false])
   (try simp only [c4b1, Bool.not_true, Bool.not_false])
   go_wp2
   go_ret
   exact ⟨a2_, (a4_ HB.out GE262.out GE263.out)⟩
 ·
  rw [if_neg c3] at H
  have c3b0 : (a0_0 == a1_0) = false := beq_eq_false_iff_ne.mpr c3
  have c3b1 : (a0_0 != a1_0) = true := bne_iff_ne.mpr c3
  obtain rfl := Option.some.inj H
  (try simp only [c3b0, Bool.not_true, Bool.not_false])
  (try simp only [c3b1, Bool.not_true, Bool.not_false])
  go_wp2
  go_ret
  exact ⟨a2_, (a4_ HB.out GE262.out GE263.out)⟩
/-! ### laws_eqEventS: function 30 -/
def laws_eqEventS.l0 : Nat → List (S43) → List (S43) → Int → Option (Bool)
  | 0, _, _, _ => none
  | k + 1, x0, x1, x5 => if x5 < (x0.length : Int) then (if 0 ≤ x5 then (if x5 < (x1.length : Int) then ((laws_eqEvent.f k ((rd_T43 x0 x5).f0) ((rd_T43 x0 x5).f1) ((rd_T43 x0 x5).f2) ((rd_T43 x0 x5).f3) ((rd_T43 x0 x5).f4) ((rd_T43 x0 x5).f5) ((rd_T43 x0 x5).f6) ((rd_T43 x0 x5).f7) ((rd_T43 x0 x5).f8) ((rd_T43 x1 x5).f0) ((rd_T43 x1 x5).f1) ((rd_T43 x1 x5).f2) ((rd_T43 x1 x5).f3) ((rd_T43 x1 x5).f4) ((rd_T43 x1 x5).f5) ((rd_T43 x1 x5).f6) ((rd_T43 x1 x5).f7) ((rd_T43 x1 x5).f8)).bind fun t267 => (if t267 = true then (laws_eqEventS.l0 k x0 x1 (wrap64 (x5 + 1))) else (some false))) else (none)) else (none)) else (some true)
def laws_eqEventS.f (k : Nat) (l0 : List (S43)) (l1 : List (S43)) : Option (Bool) := if (l0.length : Int) = (l1.length : Int) then (laws_eqEventS.l0 k l0 l1 0) else (some false)
theorem laws_eqEventS.mono_l : ∀ k, (∀ y0 y1 y2, LeO (laws_eqEventS.l0 k y0 y1 y2) (laws_eqEventS.l0 (k + 1) y0 y1 y2))
  | 0 => fun _ _ _ r h => by simp [laws_eqEventS.l0] at h
  | k + 1 => by
    have ih0 := laws_eqEventS.mono_l k
    · intro y0 y1 y2
      unfold laws_eqEventS.l0
      repeat' first
      | (with_reducible exact ih0 _ _ _)
      | (with_reducible exact laws_eqEvent.mono _ _ _ _ _ _ _ _ _ _ _ _ _ _ _ _ _ _ _)
      | (with_reducible exact LeO.refl _)
      | (with_reducible exact LeO.none _)
      | (with_reducible refine LeO.ite ?_ ?_)
      | (with_reducible refine LeO.bind ?_ (fun _ => ?_))
      | exact ih0 _ _ _
      | exact laws_eqEvent.mono _ _ _ _ _ _ _ _ _ _ _ _ _ _ _ _ _ _ _
      | exact LeO.none _
      | refine LeO.ite ?_ ?_
      | refine LeO.bind ?_ (fun _ => ?_)
theorem laws_eqEventS.mono : ∀ a0 a1 k, LeO (laws_eqEventS.f k a0 a1) (laws_eqEventS.f (k + 1) a0 a1) := by
  intro a0 a1 k
  have ih0 := laws_eqEventS.mono_l k
  unfold laws_eqEventS.f
  repeat' first
      | (with_reducible exact ih0 _ _ _)
      | (with_reducible exact laws_eqEvent.mono _ _ _ _ _ _ _ _ _ _ _ _ _ _ _ _ _ _ _)
      | (with_reducible exact LeO.refl _)
      | (with_reducible exact LeO.none _)
      | (with_reducible refine LeO.ite ?_ ?_)
      | (with_reducible refine LeO.bind ?_ (fun _ => ?_))
      | exact ih0 _ _ _
      | exact laws_eqEvent.mono _ _ _ _ _ _ _ _ _ _ _ _ _ _ _ _ _ _ _
      | exact LeO.none _
      | refine LeO.ite ?_ ?_
      | refine LeO.bind ?_ (fun _ => ?_)
def laws_eqEventS.T6 : Bool × List (List Nat × List Nat) := (true, [([], []), ([], []), ([0, 1], [0, 1]), ([2], [2]), ([], []), ([], []), ([4, 5], [4, 5]), ([6], [6]), ([3, 7], [3, 7]), ([8], [8])])
def laws_eqEventS.B6 : List Nat := [0, 0, 3, 7, 0, 0, 48, 112, 255, 511]
theorem laws_eqEventS.tab6 : rtab .any (opsOf Try.f30 6) = laws_eqEventS.T6 := by kernel_rfl
theorem laws_eqEventS.bits6 : waitsOk laws_eqEventS.T6.2 laws_eqEventS.B6 = true := by kernel_rfl
set_option maxHeartbeats 8000000 in
set_option maxRecDepth 100000 in
theorem laws_eqEventS.calls (k : Nat) (A0 : Option Addr) (c0 : Nat) (l0 : List (S43)) (A1 : Option Addr) (c1 : Nat) (l1 : List (S43)) (r : Bool) (w : World) (hr0 : Kd.C k43 w A0 l0.length l0) (hc0 : l0.length ≤ c0) (hr1 : Kd.C k43 w A1 l1.length l1) (hc1 : l1.length ≤ c1) (h : laws_eqEventS.f k l0 l1 = some r) :
    Calls Try.prog 30 #[.slice A0 l0.length c0, .slice A1 l1.length c1] w fun e w' => e = .returned (.bool r) ∧ Below w.heap.size w w' := by
 have hu43 := Try.underlying43
 have HR0 := Aside0.mk hr0
 have HC0 := Aside0.mk hc0
 clear hr0 hc0
 have HR1 := Aside0.mk hr1
 have HC1 := Aside0.mk hc1
 clear hr1 hc1
 have HB := Aside0.mk (Below.refl w.heap.size w)
 have H : (if (l0.length : Int) = (l1.length : Int) then (laws_eqEventS.l0 k l0 l1 0) else (some false)) = some r := h
 clear h
 by_cases c3 : (l0.length : Int) = (l1.length : Int)
 ·
  rw [if_pos c3] at H
  have c3b0 : ((l0.length : Int) == (l1.length : Int)) = true := beq_iff_eq.mpr c3
  have c3b1 : ((l0.length : Int) != (l1.length : Int)) = false := bne_eq_false_iff_eq.mpr c3
  have c3b2 : (l0.length == l1.length) = true := by first | simpa using c3 | (simp at c3 ⊢; omega)
  clear c3
  have H' := Aside0.mk H
  clear H
  go_enter Try.func30, Try.ntmps30
  go_wp2
  go_loopg [5] k (fun kq v5 w' => ∃ (x5_1 : Int), v5 = .int .i64 x5_1 ∧ Aside0 (laws_eqEventS.l0 kq l0 l1 x5_1 = some r) ∧ Aside0 (kq ≤ k) ∧ Aside0 (Below w.heap.size w w'))
  case atStart => exact ⟨(0), (by first | rfl | (simp; done) | (simp [*]; done)), H', ⟨Nat.le_refl _⟩, ⟨(a1_ HB.out)⟩⟩
  case round =>
   clear H'
   try clear c1
   try clear p2
   try clear c3
   try clear c3b0
   try clear c3b1
   try clear c3b2
   obtain ⟨x5_1, rfl, HA, HK1, HB⟩ := hrel
   cases gk with
   | zero => exact absurd HA.out (by simp [laws_eqEventS.l0])
   | succ k1 =>
    have H := HA.out
    clear HA
    simp only [laws_eqEventS.l0] at H
    by_cases c4 : x5_1 < (l0.length : Int)
    ·
     rw [if_pos c4] at H
     have c4b0 : decide (x5_1 < (l0.length : Int)) = true := decide_eq_true c4
     clear c4
     by_cases c5 : 0 ≤ x5_1
     ·
      rw [if_pos c5] at H
      have c5b0 : decide (0 ≤ x5_1) = true := decide_eq_true c5
      clear c5
      by_cases c6 : x5_1 < (l1.length : Int)
      ·
       rw [if_pos c6] at H
       have c6b0 : decide (x5_1 < (l1.length : Int)) = true := decide_eq_true c6
       clear c6
       replace H := Option.bind_eq_some_iff.mp H
       obtain ⟨t267, A70, H⟩ := H
       replace H : (if t267 = true then (laws_eqEventS.l0 k1 l0 l1 (wrap64 (x5_1 + 1))) else (some false)) = some r := H
       have A7 := Aside0.mk A70
       clear A70
       try go_wp2
       have n0_ := Aside0.mk (below_drew1 HB.out)
       clear HB
       have HB := n0_
       clear n0_
       have p265 : 0 ≤ (x5_1 : Int) := of_decide_eq_true (by first | (with_reducible assumption) | assumption)
       have q265 : x5_1 < (l0.length : Int) := of_decide_eq_true (by first | (with_reducible assumption) | assumption)
       obtain ⟨ad265, A265_7, c265_7, e265, hx265_0, hx265_1, hx265_2, hx265_3, hx265_4, hx265_5, hx265_6, hx265_7, hx265_8, hl265_7, hi265_7⟩ := at_T43 HR0.out x5_1 p265 q265
       have hw265_8 := hx265_8
       have hw265_7 := hx265_7
       have hw265_6 := hx265_6
       have hw265_5 := hx265_5
       have hw265_4 := hx265_4
       have hw265_3 := hx265_3
       have hw265_2 := hx265_2
       have hw265_1 := hx265_1
       have hw265_0 := hx265_0
       cases e265
       replace hx265_0 := (HB.out.cell (World.block_lt_of_cell? _ _ hx265_0)).trans hx265_0
       replace hx265_1 := (HB.out.cell (World.block_lt_of_cell? _ _ hx265_1)).trans hx265_1
       replace hx265_2 := (HB.out.cell (World.block_lt_of_cell? _ _ hx265_2)).trans hx265_2
       replace hx265_3 := (HB.out.cell (World.block_lt_of_cell? _ _ hx265_3)).trans hx265_3
       replace hx265_4 := (HB.out.cell (World.block_lt_of_cell? _ _ hx265_4)).trans hx265_4
       replace hx265_5 := (HB.out.cell (World.block_lt_of_cell? _ _ hx265_5)).trans hx265_5
       replace hx265_6 := (HB.out.cell (World.block_lt_of_cell? _ _ hx265_6)).trans hx265_6
       replace hx265_7 := (HB.out.cell (World.block_lt_of_cell? _ _ hx265_7)).trans hx265_7
       replace hx265_8 := (HB.out.cell (World.block_lt_of_cell? _ _ hx265_8)).trans hx265_8
       have HR265_7 := Aside0.mk hi265_7
       have HC265_7 := Aside0.mk hl265_7
       clear hi265_7 hl265_7
       replace p265 := eq_true p265
       replace q265 := eq_true q265
       have p266 : 0 ≤ (x5_1 : Int) := of_decide_eq_true (by first | (with_reducible assumption) | assumption)
       have q266 : x5_1 < (l1.length : Int) := of_decide_eq_true (by first | (with_reducible assumption) | assumption)
       obtain ⟨ad266, A266_7, c266_7, e266, hx266_0, hx266_1, hx266_2, hx266_3, hx266_4, hx266_5, hx266_6, hx266_7, hx266_8, hl266_7, hi266_7⟩ := at_T43 HR1.out x5_1 p266 q266
       have hw266_8 := hx266_8
       have hw266_7 := hx266_7
       have hw266_6 := hx266_6
       have hw266_5 := hx266_5
       have hw266_4 := hx266_4
       have hw266_3 := hx266_3
       have hw266_2 := hx266_2
       have hw266_1 := hx266_1
       have hw266_0 := hx266_0
       cases e266
       replace hx266_0 := (HB.out.cell (World.block_lt_of_cell? _ _ hx266_0)).trans hx266_0
       replace hx266_1 := (HB.out.cell (World.block_lt_of_cell? _ _ hx266_1)).trans hx266_1
       replace hx266_2 := (HB.out.cell (World.block_lt_of_cell? _ _ hx266_2)).trans hx266_2
       replace hx266_3 := (HB.out.cell (World.block_lt_of_cell? _ _ hx266_3)).trans hx266_3
       replace hx266_4 := (HB.out.cell (World.block_lt_of_cell? _ _ hx266_4)).trans hx266_4
       replace hx266_5 := (HB.out.cell (World.block_lt_of_cell? _ _ hx266_5)).trans hx266_5
       replace hx266_6 := (HB.out.cell (World.block_lt_of_cell? _ _ hx266_6)).trans hx266_6
       replace hx266_7 := (HB.out.cell (World.block_lt_of_cell? _ _ hx266_7)).trans hx266_7
       replace hx266_8 := (HB.out.cell (World.block_lt_of_cell? _ _ hx266_8)).trans hx266_8
       have HR266_7 := Aside0.mk hi266_7
       have HC266_7 := Aside0.mk hl266_7
       clear hi266_7 hl266_7
       replace p266 := eq_true p266
       replace q266 := eq_true q266
       refine start_ (n := 10) (S := fun w' => w'.cell? (ad265.add ((x5_1).toNat * 9)) = some (.int .i64 ((rd_T43 l0 x5_1).f0)) ∧ w'.cell? ⟨(ad265.add ((x5_1).toNat * 9)).block, (ad265.add ((x5_1).toNat * 9)).off + 1, none⟩ = some (.int .i64 ((rd_T43 l0 x5_1).f1)) ∧ w'.cell? ⟨(ad265.add ((x5_1).toNat * 9)).block, (ad265.add ((x5_1).toNat * 9)).off + 2, none⟩ = some (.int .i64 ((rd_T43 l0 x5_1).f2)) ∧ w'.cell? ⟨(ad265.add ((x5_1).toNat * 9)).block, (ad265.add ((x5_1).toNat * 9)).off + 3, none⟩ = some (.int .i64 ((rd_T43 l0 x5_1).f3)) ∧ w'.cell? ⟨(ad265.add ((x5_1).toNat * 9)).block, (ad265.add ((x5_1).toNat * 9)).off + 4, none⟩ = some (.int .i64 ((rd_T43 l0 x5_1).f4)) ∧ w'.cell? ⟨(ad265.add ((x5_1).toNat * 9)).block, (ad265.add ((x5_1).toNat * 9)).off + 5, none⟩ = some (.int .i64 ((rd_T43 l0 x5_1).f5)) ∧ w'.cell? ⟨(ad265.add ((x5_1).toNat * 9)).block, (ad265.add ((x5_1).toNat * 9)).off + 6, none⟩ = some (.string ((rd_T43 l0 x5_1).f6)) ∧ w'.cell? ⟨(ad265.add ((x5_1).toNat * 9)).block, (ad265.add ((x5_1).toNat * 9)).off + 7, none⟩ = some (.slice A265_7 ((rd_T43 l0 x5_1).f7).length c265_7) ∧ w'.cell? ⟨(ad265.add ((x5_1).toNat * 9)).block, (ad265.add ((x5_1).toNat * 9)).off + 8, none⟩ = some (.int .i64 ((rd_T43 l0 x5_1).f8)) ∧ w'.cell? (ad266.add ((x5_1).toNat * 9)) = some (.int .i64 ((rd_T43 l1 x5_1).f0)) ∧ w'.cell? ⟨(ad266.add ((x5_1).toNat * 9)).block, (ad266.add ((x5_1).toNat * 9)).off + 1, none⟩ = some (.int .i64 ((rd_T43 l1 x5_1).f1)) ∧ w'.cell? ⟨(ad266.add ((x5_1).toNat * 9)).block, (ad266.add ((x5_1).toNat * 9)).off + 2, none⟩ = some (.int .i64 ((rd_T43 l1 x5_1).f2)) ∧ w'.cell? ⟨(ad266.add ((x5_1).toNat * 9)).block, (ad266.add ((x5_1).toNat * 9)).off + 3, none⟩ = some (.int .i64 ((rd_T43 l1 x5_1).f3)) ∧ w'.cell? ⟨(ad266.add ((x5_1).toNat * 9)).block, (ad266.add ((x5_1).toNat * 9)).off + 4, none⟩ = some (.int .i64 ((rd_T43 l1 x5_1).f4)) ∧ w'.cell? ⟨(ad266.add ((x5_1).toNat * 9)).block, (ad266.add ((x5_1).toNat * 9)).off + 5, none⟩ = some (.int .i64 ((rd_T43 l1 x5_1).f5)) ∧ w'.cell? ⟨(ad266.add ((x5_1).toNat * 9)).block, (ad266.add ((x5_1).toNat * 9)).off + 6, none⟩ = some (.string ((rd_T43 l1 x5_1).f6)) ∧ w'.cell? ⟨(ad266.add ((x5_1).toNat * 9)).block, (ad266.add ((x5_1).toNat * 9)).off + 7, none⟩ = some (.slice A266_7 ((rd_T43 l1 x5_1).f7).length c266_7) ∧ w'.cell? ⟨(ad266.add ((x5_1).toNat * 9)).block, (ad266.add ((x5_1).toNat * 9)).off + 8, none⟩ = some (.int .i64 ((rd_T43 l1 x5_1).f8))) (ds := []) #[false, false, false, false, false, false, false, false, false, false] (by kernel_rfl) rfl rfl ⟨((HB.out.cell (World.block_lt_of_cell? _ _ hw265_0)).trans hw265_0), ((HB.out.cell (World.block_lt_of_cell? _ _ hw265_1)).trans hw265_1), ((HB.out.cell (World.block_lt_of_cell? _ _ hw265_2)).trans hw265_2), ((HB.out.cell (World.block_lt_of_cell? _ _ hw265_3)).trans hw265_3), ((HB.out.cell (World.block_lt_of_cell? _ _ hw265_4)).trans hw265_4), ((HB.out.cell (World.block_lt_of_cell? _ _ hw265_5)).trans hw265_5), ((HB.out.cell (World.block_lt_of_cell? _ _ hw265_6)).trans hw265_6), ((HB.out.cell (World.block_lt_of_cell? _ _ hw265_7)).trans hw265_7), ((HB.out.cell (World.block_lt_of_cell? _ _ hw265_8)).trans hw265_8), ((HB.out.cell (World.block_lt_of_cell? _ _ hw266_0)).trans hw266_0), ((HB.out.cell (World.block_lt_of_cell? _ _ hw266_1)).trans hw266_1), ((HB.out.cell (World.block_lt_of_cell? _ _ hw266_2)).trans hw266_2), ((HB.out.cell (World.block_lt_of_cell? _ _ hw266_3)).trans hw266_3), ((HB.out.cell (World.block_lt_of_cell? _ _ hw266_4)).trans hw266_4), ((HB.out.cell (World.block_lt_of_cell? _ _ hw266_5)).trans hw266_5), ((HB.out.cell (World.block_lt_of_cell? _ _ hw266_6)).trans hw266_6), ((HB.out.cell (World.block_lt_of_cell? _ _ hw266_7)).trans hw266_7), ((HB.out.cell (World.block_lt_of_cell? _ _ hw266_8)).trans hw266_8)⟩ (fun hHeld => ?_); refine with_tabW laws_eqEventS.tab6 laws_eqEventS.bits6 (fun HT_ HW_ => ?_)
       generalize wr.drew = w9 at HB HR265_7 HR266_7 hx265_0 hx265_1 hx265_2 hx265_3 hx265_4 hx265_5 hx265_6 hx265_7 hx265_8 hx266_0 hx266_1 hx266_2 hx266_3 hx266_4 hx266_5 hx266_6 hx266_7 hx266_8 hHeld ⊢
       refine pure_ (i := 0) (N := some 17) (v := ?_) (a' := ?_) #[true, false, false, false, false, false, false, false, false, false] rfl rfl (any_of HT_.out (by kernel_rfl)) (fun _ _ _ h => h) (Or.inl ⟨by rfl, ?_⟩) ?_ ?_
       rotate_left
       ·
        intro w'
        go_simp
        with_reducible rfl
       rotate_left
       ·
        simp only [Act.put, lS, l0_, l1_, i64_w, i32_w]
        rfl
       refine pure_ (i := 1) (N := some 18) (v := ?_) (a' := ?_) #[true, true, false, false, false, false, false, false, false, false] rfl rfl (any_of HT_.out (by kernel_rfl)) (fun _ _ _ h => h) (Or.inl ⟨by rfl, ?_⟩) ?_ ?_
       rotate_left
       ·
        intro w'
        go_simp
        with_reducible rfl
       rotate_left
       ·
        simp only [Act.put, lS, l0_, l1_, i64_w, i32_w]
        rfl
       refine pure_ (i := 2) (N := some 19) (v := ?_) (a' := ?_) #[true, true, true, false, false, false, false, false, false, false] rfl rfl (any_of HT_.out (by kernel_rfl)) (fun _ _ _ h => h) (Or.inl ⟨by rfl, ?_⟩) ?_ ?_
       rotate_left
       ·
        intro w'
        go_simp
        with_reducible rfl
       rotate_left
       ·
        simp only [Act.put, lS, l0_, l1_, i64_w, i32_w]
        rfl
       refine pure_ (i := 4) (N := some 21) (v := ?_) (a' := ?_) #[true, true, true, false, true, false, false, false, false, false] rfl rfl (any_of HT_.out (by kernel_rfl)) (fun _ _ _ h => h) (Or.inl ⟨by rfl, ?_⟩) ?_ ?_
       rotate_left
       ·
        intro w'
        go_simp
        with_reducible rfl
       rotate_left
       ·
        simp only [Act.put, lS, l0_, l1_, i64_w, i32_w]
        rfl
       refine pure_ (i := 5) (N := some 22) (v := ?_) (a' := ?_) #[true, true, true, false, true, true, false, false, false, false] rfl rfl (any_of HT_.out (by kernel_rfl)) (fun _ _ _ h => h) (Or.inl ⟨by rfl, ?_⟩) ?_ ?_
       rotate_left
       ·
        intro w'
        go_simp
        with_reducible rfl
       rotate_left
       ·
        simp only [Act.put, lS, l0_, l1_, i64_w, i32_w]
        rfl
       refine pure_ (i := 6) (N := some 23) (v := ?_) (a' := ?_) #[true, true, true, false, true, true, true, false, false, false] rfl rfl (any_of HT_.out (by kernel_rfl)) (fun _ _ _ h => h) (Or.inl ⟨by rfl, ?_⟩) ?_ ?_
       rotate_left
       ·
        intro w'
        go_simp
        with_reducible rfl
       rotate_left
       ·
        simp only [Act.put, lS, l0_, l1_, i64_w, i32_w]
        rfl
       refine take_ (i := 3) (N := some 20) (v := ?_) (a' := ?_) #[true, true, true, true, true, true, true, false, false, false] rfl rfl (take_ofW HT_.out HW_.out (by kernel_rfl)) (fun _ _ _ h => h) (Or.inl ⟨by rfl, ?_⟩) hHeld ?_ ?_
       rotate_left
       ·
        rintro w' ⟨s0, s1, s2, s3, s4, s5, s6, s7, s8, s9, s10, s11, s12, s13, s14, s15, s16, s17⟩
        go_simp
        with_reducible rfl
       rotate_left
       ·
        simp only [Act.put, lS, l0_, l1_, i64_w, i32_w]
        rfl
       refine take_ (i := 7) (N := some 24) (v := ?_) (a' := ?_) #[true, true, true, true, true, true, true, true, false, false] rfl rfl (take_ofW HT_.out HW_.out (by kernel_rfl)) (fun _ _ _ h => h) (Or.inl ⟨by rfl, ?_⟩) hHeld ?_ ?_
       rotate_left
       ·
        rintro w' ⟨s0, s1, s2, s3, s4, s5, s6, s7, s8, s9, s10, s11, s12, s13, s14, s15, s16, s17⟩
        go_simp
        with_reducible rfl
       rotate_left
       ·
        simp only [Act.put, lS, l0_, l1_, i64_w, i32_w]
        rfl
       refine one_ (i := 8) (N := some 25) #[true, true, true, true, true, true, true, true, true, false] rfl rfl (one_of HT_.out (by kernel_rfl)) (by decide) (fun K hK => ?_)
       refine goes_ Try.func43 (by kernel_rfl) rfl #[.agg #[.int .i64 ((rd_T43 l0 x5_1).f0), .int .i64 ((rd_T43 l0 x5_1).f1), .int .i64 ((rd_T43 l0 x5_1).f2), .int .i64 ((rd_T43 l0 x5_1).f3), .int .i64 ((rd_T43 l0 x5_1).f4), .int .i64 ((rd_T43 l0 x5_1).f5), .string ((rd_T43 l0 x5_1).f6), .slice A265_7 ((rd_T43 l0 x5_1).f7).length c265_7, .int .i64 ((rd_T43 l0 x5_1).f8)], .agg #[.int .i64 ((rd_T43 l1 x5_1).f0), .int .i64 ((rd_T43 l1 x5_1).f1), .int .i64 ((rd_T43 l1 x5_1).f2), .int .i64 ((rd_T43 l1 x5_1).f3), .int .i64 ((rd_T43 l1 x5_1).f4), .int .i64 ((rd_T43 l1 x5_1).f5), .string ((rd_T43 l1 x5_1).f6), .slice A266_7 ((rd_T43 l1 x5_1).f7).length c266_7, .int .i64 ((rd_T43 l1 x5_1).f8)]] (by rfl) rfl rfl (by (try simp only [List.map_toArray, List.map_cons, List.map_nil]); first | done | rfl | (simp only [List.length_drop, List.length_take]; rfl)) ?_
       with_reducible refine (laws_eqEvent.calls k1 ((rd_T43 l0 x5_1).f0) ((rd_T43 l0 x5_1).f1) ((rd_T43 l0 x5_1).f2) ((rd_T43 l0 x5_1).f3) ((rd_T43 l0 x5_1).f4) ((rd_T43 l0 x5_1).f5) ((rd_T43 l0 x5_1).f6) _ _ ((rd_T43 l0 x5_1).f7) ((rd_T43 l0 x5_1).f8) ((rd_T43 l1 x5_1).f0) ((rd_T43 l1 x5_1).f1) ((rd_T43 l1 x5_1).f2) ((rd_T43 l1 x5_1).f3) ((rd_T43 l1 x5_1).f4) ((rd_T43 l1 x5_1).f5) ((rd_T43 l1 x5_1).f6) _ _ ((rd_T43 l1 x5_1).f7) ((rd_T43 l1 x5_1).f8) t267 _ ?side1 ?side2 ?side3 ?side4 A7.out).mono ?_
       (case side1 => repeat (first | exact (Kd.C_below HR265_7.out HB.out) | (with_reducible refine Kd.C_alloc ?_ _) | (with_reducible refine Kd.C_drewN ?_ _) | (with_reducible refine Kd.C_drew ?_)))
       (case side2 => exact HC265_7.out)
       (case side3 => repeat (first | exact (Kd.C_below HR266_7.out HB.out) | (with_reducible refine Kd.C_alloc ?_ _) | (with_reducible refine Kd.C_drewN ?_ _) | (with_reducible refine Kd.C_drew ?_)))
       (case side4 => exact HC266_7.out)
       rintro e w10 ⟨rfl, hb⟩
       refine ⟨_, rfl, ?_⟩
       have n0_ := Aside0.mk (below_step HB.out hb)
       clear HB
       have HB := n0_
       clear n0_
       (try clear hb)
       (try clear hb2)
       (try clear hk)
       (try clear hi)
       refine hK.out _ _ ⟨((HB.out.cell (World.block_lt_of_cell? _ _ hw265_0)).trans hw265_0), ((HB.out.cell (World.block_lt_of_cell? _ _ hw265_1)).trans hw265_1), ((HB.out.cell (World.block_lt_of_cell? _ _ hw265_2)).trans hw265_2), ((HB.out.cell (World.block_lt_of_cell? _ _ hw265_3)).trans hw265_3), ((HB.out.cell (World.block_lt_of_cell? _ _ hw265_4)).trans hw265_4), ((HB.out.cell (World.block_lt_of_cell? _ _ hw265_5)).trans hw265_5), ((HB.out.cell (World.block_lt_of_cell? _ _ hw265_6)).trans hw265_6), ((HB.out.cell (World.block_lt_of_cell? _ _ hw265_7)).trans hw265_7), ((HB.out.cell (World.block_lt_of_cell? _ _ hw265_8)).trans hw265_8), ((HB.out.cell (World.block_lt_of_cell? _ _ hw266_0)).trans hw266_0), ((HB.out.cell (World.block_lt_of_cell? _ _ hw266_1)).trans hw266_1), ((HB.out.cell (World.block_lt_of_cell? _ _ hw266_2)).trans hw266_2), ((HB.out.cell (World.block_lt_of_cell? _ _ hw266_3)).trans hw266_3), ((HB.out.cell (World.block_lt_of_cell? _ _ hw266_4)).trans hw266_4), ((HB.out.cell (World.block_lt_of_cell? _ _ hw266_5)).trans hw266_5), ((HB.out.cell (World.block_lt_of_cell? _ _ hw266_6)).trans hw266_6), ((HB.out.cell (World.block_lt_of_cell? _ _ hw266_7)).trans hw266_7), ((HB.out.cell (World.block_lt_of_cell? _ _ hw266_8)).trans hw266_8)⟩ (fun hHeld => ?_)
       clear hK K
       refine norm_ (a' := ?_) ?_ ?_
       rotate_left
       ·
        show Act.put _ (some 25) _ = _
        simp only [Act.put, lS, l0_, l1_, i64_w, i32_w]
        rfl
       refine pure_ (i := 9) (N := some 26) (v := ?_) (a' := ?_) #[true, true, true, true, true, true, true, true, true, true] rfl rfl (any_of HT_.out (by kernel_rfl)) (fun _ _ _ h => h) (Or.inl ⟨by rfl, ?_⟩) ?_ ?_
       rotate_left
       ·
        intro w'
        go_simp
        with_reducible rfl
       rotate_left
       ·
        simp only [Act.put, lS, l0_, l1_, i64_w, i32_w]
        rfl
       refine done_ (done_of HT_.out (by kernel_rfl)) ?_
       by_cases c8 : t267 = true
       ·
        subst c8
        have H1 : (laws_eqEventS.l0 k1 l0 l1 (wrap64 (x5_1 + 1))) = some r := by rw [if_pos rfl] at H; exact H
        clear H
        have H := H1
        clear H1
        have H' := Aside0.mk H
        clear H
        try go_wp2
        go_roundg k1
        case measure => have := HK1.out; omega
        case rel => exact ⟨(wrap64 (x5_1 + 1)), (by first | rfl | (simp; done) | (simp [*]; done)), H', ⟨by have := HK1.out; omega⟩, ⟨(a1_ HB.out)⟩⟩
       ·
        replace c8 := Bool.eq_false_iff.mpr c8
        subst c8
        have H1 : (some false) = some r := by rw [if_neg (show ¬ (false = true) by decide)] at H; exact H
        clear H
        have H := H1
        clear H1
        obtain rfl := Option.some.inj H
        try go_wp2
        go_ret
        exact ⟨a2_, (a1_ HB.out)⟩
      ·
       rw [if_neg c6] at H
       exact absurd H (by simp)
     ·
      rw [if_neg c5] at H
      exact absurd H (by simp)
    ·
     rw [if_neg c4] at H
     have c4b0 : decide (x5_1 < (l0.length : Int)) = false := decide_eq_false c4
     clear c4
     obtain rfl := Option.some.inj H
     go_wp2
     go_ret
     exact ⟨a2_, (a1_ HB.out)⟩
 ·
  rw [if_neg c3] at H
  have c3b0 : ((l0.length : Int) == (l1.length : Int)) = false := beq_eq_false_iff_ne.mpr c3
  have c3b1 : ((l0.length : Int) != (l1.length : Int)) = true := bne_iff_ne.mpr c3
  have c3b2 : (l0.length == l1.length) = false := by first | simpa using c3 | (simp at c3 ⊢; omega)
  obtain rfl := Option.some.inj H
  go_enter Try.func30, Try.ntmps30
  go_wp2
  go_ret
  exact ⟨a2_, (a1_ HB.out)⟩

end Go.Proofs.Ytkhidbahbcfkbaa.Print
