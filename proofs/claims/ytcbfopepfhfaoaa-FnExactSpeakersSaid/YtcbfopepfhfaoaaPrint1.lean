-- Printed by wip/myprint.py over the kit's print, in this session's own call.
import Derived.Test.YtcbfopepfhfaoaaPrint0
namespace Go.Proofs.Ytcbfopepfhfaoaa.Print
open Go.RowKit Go.Proofs.YtcbfopepfhfaoaaW.PrintWords Go.Proofs.YtcbfopepfhfaoaaW.PrintLast Go.Proofs.YtcbfopepfhfaoaaW.PrintMore
attribute [local go_sem] max2_int min2_int max_two min_two max_three min_three max_four min_four   -- for this text's walks alone
set_option linter.unusedVariables false
set_option linter.unusedSimpArgs false

/-! ### laws_szEntryS: function 5 -/
def laws_szEntryS.f (l0 : List (S49)) (a1 : Int) : Option (Int) := if (wrap64 (a1 - (l0.length : Int))) < 0 then (some (-1)) else (some (wrap64 (a1 - (l0.length : Int))))
set_option maxHeartbeats 8000000 in
set_option maxRecDepth 100000 in
theorem laws_szEntryS.calls (A0 : Option Addr) (c0 : Nat) (l0 : List (S49)) (a1 : Int) (r : Int) (w : World) (hr0 : Kd.C k49 w A0 l0.length l0) (hc0 : l0.length ≤ c0) (h : laws_szEntryS.f l0 a1 = some r) :
    Calls Try.prog 5 #[.slice A0 l0.length c0, .int .i64 a1] w fun e w' => e = .returned (.int .i64 r) ∧ Drawn0 w w' := by
 have HR0 := Aside0.mk hr0
 have HC0 := Aside0.mk hc0
 clear hr0 hc0
 have H : (if (wrap64 (a1 - (l0.length : Int))) < 0 then (some (-1)) else (some (wrap64 (a1 - (l0.length : Int))))) = some r := h
 clear h
 by_cases c3 : (wrap64 (a1 - (l0.length : Int))) < 0
 ·
  rw [if_pos c3] at H
  have c3b0 : decide ((wrap64 (a1 - (l0.length : Int))) < 0) = true := decide_eq_true c3
  have c3b0w : decide ((IntKind.i64.wrap (a1 - (l0.length : Int))) < 0) = true := by simp only [i64_w]; exact c3b0
  clear c3
  obtain rfl := Option.some.inj H
  go_enter Try.func5, Try.ntmps5
  go_wp2
  go_ret
  exact ⟨by first | rfl | (simp; done) | (simp [*]; done), by repeat (first | exact Drawn0.refl _ | apply Drawn0.step)⟩
 ·
  rw [if_neg c3] at H
  have c3b0 : decide ((wrap64 (a1 - (l0.length : Int))) < 0) = false := decide_eq_false c3
  have c3b0w : decide ((IntKind.i64.wrap (a1 - (l0.length : Int))) < 0) = false := by simp only [i64_w]; exact c3b0
  clear c3
  obtain rfl := Option.some.inj H
  go_enter Try.func5, Try.ntmps5
  go_wp2
  go_ret
  exact ⟨by first | rfl | (simp; done) | (simp [*]; done), by repeat (first | exact Drawn0.refl _ | apply Drawn0.step)⟩

/-! ### laws_szInt64S: function 79 -/
def laws_szInt64S.f (l0 : List Int) (a1 : Int) : Option (Int) := if (wrap64 (a1 - (l0.length : Int))) < 0 then (some (-1)) else (some (wrap64 (a1 - (l0.length : Int))))
set_option maxHeartbeats 8000000 in
set_option maxRecDepth 100000 in
theorem laws_szInt64S.calls (A0 : Option Addr) (c0 : Nat) (l0 : List Int) (a1 : Int) (r : Int) (w : World) (hr0 : Kd.C (Kd.int .i64) w A0 l0.length l0) (hc0 : l0.length ≤ c0) (h : laws_szInt64S.f l0 a1 = some r) :
    Calls Try.prog 79 #[.slice A0 l0.length c0, .int .i64 a1] w fun e w' => e = .returned (.int .i64 r) ∧ Drawn0 w w' := by
 have HR0 := Aside0.mk hr0
 have HC0 := Aside0.mk hc0
 clear hr0 hc0
 have H : (if (wrap64 (a1 - (l0.length : Int))) < 0 then (some (-1)) else (some (wrap64 (a1 - (l0.length : Int))))) = some r := h
 clear h
 by_cases c3 : (wrap64 (a1 - (l0.length : Int))) < 0
 ·
  rw [if_pos c3] at H
  have c3b0 : decide ((wrap64 (a1 - (l0.length : Int))) < 0) = true := decide_eq_true c3
  have c3b0w : decide ((IntKind.i64.wrap (a1 - (l0.length : Int))) < 0) = true := by simp only [i64_w]; exact c3b0
  clear c3
  obtain rfl := Option.some.inj H
  go_enter Try.func79, Try.ntmps79
  go_wp2
  go_ret
  exact ⟨by first | rfl | (simp; done) | (simp [*]; done), by repeat (first | exact Drawn0.refl _ | apply Drawn0.step)⟩
 ·
  rw [if_neg c3] at H
  have c3b0 : decide ((wrap64 (a1 - (l0.length : Int))) < 0) = false := decide_eq_false c3
  have c3b0w : decide ((IntKind.i64.wrap (a1 - (l0.length : Int))) < 0) = false := by simp only [i64_w]; exact c3b0
  clear c3
  obtain rfl := Option.some.inj H
  go_enter Try.func79, Try.ntmps79
  go_wp2
  go_ret
  exact ⟨by first | rfl | (simp; done) | (simp [*]; done), by repeat (first | exact Drawn0.refl _ | apply Drawn0.step)⟩

/-! ### laws_szEvent: function 61 -/
def laws_szEvent.f (a0_0 : Int) (a0_1 : Int) (a0_2 : Int) (a0_3 : Int) (a0_4 : Int) (a0_5 : Int) (a0_6 : ByteArray) (l0_7 : List Int) (a0_8 : Int) (a1 : Int) : Option (Int) := if (wrap64 (a1 - (a0_6.size : Int))) < 0 then (some (-1)) else ((laws_szInt64S.f l0_7 (wrap64 (a1 - (a0_6.size : Int)))).bind fun t102 => (if t102 < 0 then (some (-1)) else (some t102)))
set_option maxHeartbeats 8000000 in
set_option maxRecDepth 100000 in
theorem laws_szEvent.calls (a0_0 : Int) (a0_1 : Int) (a0_2 : Int) (a0_3 : Int) (a0_4 : Int) (a0_5 : Int) (a0_6 : ByteArray) (A0_7 : Option Addr) (c0_7 : Nat) (l0_7 : List Int) (a0_8 : Int) (a1 : Int) (r : Int) (w : World) (hr0_7 : Kd.C (Kd.int .i64) w A0_7 l0_7.length l0_7) (hc0_7 : l0_7.length ≤ c0_7) (h : laws_szEvent.f a0_0 a0_1 a0_2 a0_3 a0_4 a0_5 a0_6 l0_7 a0_8 a1 = some r) :
    Calls Try.prog 61 #[.agg #[.int .i64 a0_0, .int .i64 a0_1, .int .i64 a0_2, .int .i64 a0_3, .int .i64 a0_4, .int .i64 a0_5, .string a0_6, .slice A0_7 l0_7.length c0_7, .int .i64 a0_8], .int .i64 a1] w fun e w' => e = .returned (.int .i64 r) ∧ Below w.heap.size w w' := by
 have hu72 := Try.underlying72
 have HR0_7 := Aside0.mk hr0_7
 have HC0_7 := Aside0.mk hc0_7
 clear hr0_7 hc0_7
 have HB := Aside0.mk (Below.refl w.heap.size w)
 have H : (if (wrap64 (a1 - (a0_6.size : Int))) < 0 then (some (-1)) else ((laws_szInt64S.f l0_7 (wrap64 (a1 - (a0_6.size : Int)))).bind fun t102 => (if t102 < 0 then (some (-1)) else (some t102)))) = some r := h
 clear h
 by_cases c3 : (wrap64 (a1 - (a0_6.size : Int))) < 0
 ·
  rw [if_pos c3] at H
  have c3b0 : decide ((wrap64 (a1 - (a0_6.size : Int))) < 0) = true := decide_eq_true c3
  have c3b0w : decide ((IntKind.i64.wrap (a1 - (a0_6.size : Int))) < 0) = true := by simp only [i64_w]; exact c3b0
  clear c3
  obtain rfl := Option.some.inj H
  go_enter Try.func61, Try.ntmps61
  go_wp2_with (first | ((with_reducible refine gate_dst (N := 2) rfl ?_); refine box_event ?hg (N := 2) ?hd (cs := #[.int .i64 a0_0, .int .i64 a0_1, .int .i64 a0_2, .int .i64 a0_3, .int .i64 a0_4, .int .i64 a0_5, .string a0_6, .slice A0_7 l0_7.length c0_7, .int .i64 a0_8]) (t := 72) ?hr ?_; (case hd => rfl); (case hg => rfl); (case hr => first | (go_simp; done) | (go_simp; rfl)); intro gb101 hg w4 hbox hb; have n0_ := Aside0.mk (below_step (by repeat (first | (with_reducible first | exact HB.out | apply below_alloc | apply pw_below_drewN | apply below_drew1) | exact HB.out)) hb); have n1_ := Aside0.mk (hbox); have n2_ := Aside0.mk ((by rw [hg]; exact (below_size (by repeat (first | (with_reducible first | exact HB.out | apply below_alloc | apply pw_below_drewN | apply below_drew1) | exact HB.out))) : w.heap.size ≤ gb101)); have n3_ := Aside0.mk ((by rw [hg]; exact (below_size (by repeat (first | (with_reducible first | exact HB.out | apply below_alloc | apply pw_below_drewN | apply below_drew1) | exact HB.out))) : w.heap.size ≤ gb101)); clear HB; have HB := n0_; have BK101 := n1_; have GW101 := n2_; have GE101 := n3_; clear n0_ n1_ n2_ n3_; clear hb hbox hg; obtain ⟨⟨hcz5_0, hcz5_1, hcz5_2, hcz5_3, hcz5_4, hcz5_5, hcz5_6, hcz5_7, hcz5_8⟩, hfz5_0, hfz5_1, hfz5_2, hfz5_3, hfz5_4, hfz5_5, hfz5_6, hfz5_7, hfz5_8⟩ := cells_9 BK101.out))
  go_ret
  exact ⟨by first | rfl | (simp [errW_none, errW_some] <;> rfl) | (simp [*, errW_none, errW_some] <;> rfl), by repeat (first | (with_reducible first | exact HB.out | apply below_alloc | apply pw_below_drewN | apply below_drew1 | refine below_set ?_ GE101.out) | exact HB.out)⟩
 ·
  rw [if_neg c3] at H
  have c3b0 : decide ((wrap64 (a1 - (a0_6.size : Int))) < 0) = false := decide_eq_false c3
  have c3b0w : decide ((IntKind.i64.wrap (a1 - (a0_6.size : Int))) < 0) = false := by simp only [i64_w]; exact c3b0
  clear c3
  replace H := Option.bind_eq_some_iff.mp H
  obtain ⟨t102, A60, H⟩ := H
  replace H : (if t102 < 0 then (some (-1)) else (some t102)) = some r := H
  have A6 := Aside0.mk A60
  clear A60
  by_cases c7 : t102 < 0
  ·
   rw [if_pos c7] at H
   have c7b0 : decide (t102 < 0) = true := decide_eq_true c7
   clear c7
   obtain rfl := Option.some.inj H
   go_enter Try.func61, Try.ntmps61
   go_wp2_with (first | ((with_reducible refine gate_dst (N := 2) rfl ?_); refine box_event ?hg (N := 2) ?hd (cs := #[.int .i64 a0_0, .int .i64 a0_1, .int .i64 a0_2, .int .i64 a0_3, .int .i64 a0_4, .int .i64 a0_5, .string a0_6, .slice A0_7 l0_7.length c0_7, .int .i64 a0_8]) (t := 72) ?hr ?_; (case hd => rfl); (case hg => rfl); (case hr => first | (go_simp; done) | (go_simp; rfl)); intro gb101 hg w8 hbox hb; have n0_ := Aside0.mk (below_step (by repeat (first | (with_reducible first | exact HB.out | apply below_alloc | apply pw_below_drewN | apply below_drew1) | exact HB.out)) hb); have n1_ := Aside0.mk (hbox); have n2_ := Aside0.mk ((by rw [hg]; exact (below_size (by repeat (first | (with_reducible first | exact HB.out | apply below_alloc | apply pw_below_drewN | apply below_drew1) | exact HB.out))) : w.heap.size ≤ gb101)); have n3_ := Aside0.mk ((by rw [hg]; exact (below_size (by repeat (first | (with_reducible first | exact HB.out | apply below_alloc | apply pw_below_drewN | apply below_drew1) | exact HB.out))) : w.heap.size ≤ gb101)); clear HB; have HB := n0_; have BK101 := n1_; have GW101 := n2_; have GE101 := n3_; clear n0_ n1_ n2_ n3_; clear hb hbox hg; obtain ⟨⟨hcz9_0, hcz9_1, hcz9_2, hcz9_3, hcz9_4, hcz9_5, hcz9_6, hcz9_7, hcz9_8⟩, hfz9_0, hfz9_1, hfz9_2, hfz9_3, hfz9_4, hfz9_5, hfz9_6, hfz9_7, hfz9_8⟩ := cells_9 BK101.out) | ((with_reducible refine gate_callee (f := 79) rfl ?_); refine goesL_ (some 15) rfl rfl Try.func79 (by kernel_rfl) rfl #[.slice A0_7 l0_7.length c0_7, .int .i64 (wrap64 (a1 - (a0_6.size : Int)))] rfl (by (try simp only [List.map_toArray, List.map_cons, List.map_nil]); first | done | rfl | (simp only [List.length_drop, List.length_take]; rfl)) ?_; (with_reducible refine (laws_szInt64S.calls _ _ l0_7 (wrap64 (a1 - (a0_6.size : Int))) t102 _ ?side1 ?side2 A6.out).mono ?_); (case side1 => repeat (first | exact (Kd.C_below HR0_7.out HB.out) | (with_reducible refine Kd.C_alloc ?_ _) | (with_reducible refine Kd.C_drewN ?_ _) | (with_reducible refine Kd.C_drew ?_))); (case side2 => exact HC0_7.out); rintro e w' ⟨rfl, ⟨nd, rfl⟩⟩; refine ⟨_, rfl, ?_⟩))
   go_ret
   exact ⟨by first | rfl | (simp [errW_none, errW_some] <;> rfl) | (simp [*, errW_none, errW_some] <;> rfl), by repeat (first | (with_reducible first | exact HB.out | apply below_alloc | apply pw_below_drewN | apply below_drew1 | refine below_set ?_ GE101.out) | exact HB.out)⟩
  ·
   rw [if_neg c7] at H
   have c7b0 : decide (t102 < 0) = false := decide_eq_false c7
   clear c7
   obtain rfl := Option.some.inj H
   go_enter Try.func61, Try.ntmps61
   go_wp2_with (first | ((with_reducible refine gate_dst (N := 2) rfl ?_); refine box_event ?hg (N := 2) ?hd (cs := #[.int .i64 a0_0, .int .i64 a0_1, .int .i64 a0_2, .int .i64 a0_3, .int .i64 a0_4, .int .i64 a0_5, .string a0_6, .slice A0_7 l0_7.length c0_7, .int .i64 a0_8]) (t := 72) ?hr ?_; (case hd => rfl); (case hg => rfl); (case hr => first | (go_simp; done) | (go_simp; rfl)); intro gb101 hg w10 hbox hb; have n0_ := Aside0.mk (below_step (by repeat (first | (with_reducible first | exact HB.out | apply below_alloc | apply pw_below_drewN | apply below_drew1) | exact HB.out)) hb); have n1_ := Aside0.mk (hbox); have n2_ := Aside0.mk ((by rw [hg]; exact (below_size (by repeat (first | (with_reducible first | exact HB.out | apply below_alloc | apply pw_below_drewN | apply below_drew1) | exact HB.out))) : w.heap.size ≤ gb101)); have n3_ := Aside0.mk ((by rw [hg]; exact (below_size (by repeat (first | (with_reducible first | exact HB.out | apply below_alloc | apply pw_below_drewN | apply below_drew1) | exact HB.out))) : w.heap.size ≤ gb101)); clear HB; have HB := n0_; have BK101 := n1_; have GW101 := n2_; have GE101 := n3_; clear n0_ n1_ n2_ n3_; clear hb hbox hg; obtain ⟨⟨hcz11_0, hcz11_1, hcz11_2, hcz11_3, hcz11_4, hcz11_5, hcz11_6, hcz11_7, hcz11_8⟩, hfz11_0, hfz11_1, hfz11_2, hfz11_3, hfz11_4, hfz11_5, hfz11_6, hfz11_7, hfz11_8⟩ := cells_9 BK101.out) | ((with_reducible refine gate_callee (f := 79) rfl ?_); refine goesL_ (some 15) rfl rfl Try.func79 (by kernel_rfl) rfl #[.slice A0_7 l0_7.length c0_7, .int .i64 (wrap64 (a1 - (a0_6.size : Int)))] rfl (by (try simp only [List.map_toArray, List.map_cons, List.map_nil]); first | done | rfl | (simp only [List.length_drop, List.length_take]; rfl)) ?_; (with_reducible refine (laws_szInt64S.calls _ _ l0_7 (wrap64 (a1 - (a0_6.size : Int))) t102 _ ?side1 ?side2 A6.out).mono ?_); (case side1 => repeat (first | exact (Kd.C_below HR0_7.out HB.out) | (with_reducible refine Kd.C_alloc ?_ _) | (with_reducible refine Kd.C_drewN ?_ _) | (with_reducible refine Kd.C_drew ?_))); (case side2 => exact HC0_7.out); rintro e w' ⟨rfl, ⟨nd, rfl⟩⟩; refine ⟨_, rfl, ?_⟩))
   go_ret
   exact ⟨by first | rfl | (simp [errW_none, errW_some] <;> rfl) | (simp [*, errW_none, errW_some] <;> rfl), by repeat (first | (with_reducible first | exact HB.out | apply below_alloc | apply pw_below_drewN | apply below_drew1 | refine below_set ?_ GE101.out) | exact HB.out)⟩

/-! ### laws_szShown: function 42 -/
def laws_szShown.f (a0_0 : Int) (a0_1 : Int) (a0_2 : Int) (a0_3 : Int) (a0_4 : Int) (a0_5 : Int) (a0_6 : ByteArray) (l0_7 : List Int) (a0_8 : Int) (a0_9 : Bool) (a1 : Int) : Option (Int) := (laws_szEvent.f a0_0 a0_1 a0_2 a0_3 a0_4 a0_5 a0_6 l0_7 a0_8 a1).bind fun t104 => (if t104 < 0 then (some (-1)) else (some t104))
set_option maxHeartbeats 8000000 in
set_option maxRecDepth 100000 in
theorem laws_szShown.calls (a0_0 : Int) (a0_1 : Int) (a0_2 : Int) (a0_3 : Int) (a0_4 : Int) (a0_5 : Int) (a0_6 : ByteArray) (A0_7 : Option Addr) (c0_7 : Nat) (l0_7 : List Int) (a0_8 : Int) (a0_9 : Bool) (a1 : Int) (r : Int) (w : World) (hr0_7 : Kd.C (Kd.int .i64) w A0_7 l0_7.length l0_7) (hc0_7 : l0_7.length ≤ c0_7) (h : laws_szShown.f a0_0 a0_1 a0_2 a0_3 a0_4 a0_5 a0_6 l0_7 a0_8 a0_9 a1 = some r) :
    Calls Try.prog 42 #[.agg #[.int .i64 a0_0, .int .i64 a0_1, .int .i64 a0_2, .int .i64 a0_3, .int .i64 a0_4, .int .i64 a0_5, .string a0_6, .slice A0_7 l0_7.length c0_7, .int .i64 a0_8, .bool a0_9], .int .i64 a1] w fun e w' => e = .returned (.int .i64 r) ∧ Below w.heap.size w w' := by
 have hu74 := Try.underlying74
 have hu72 := Try.underlying72
 have HR0_7 := Aside0.mk hr0_7
 have HC0_7 := Aside0.mk hc0_7
 clear hr0_7 hc0_7
 have HB := Aside0.mk (Below.refl w.heap.size w)
 have H : ((laws_szEvent.f a0_0 a0_1 a0_2 a0_3 a0_4 a0_5 a0_6 l0_7 a0_8 a1).bind fun t104 => (if t104 < 0 then (some (-1)) else (some t104))) = some r := h
 clear h
 replace H := Option.bind_eq_some_iff.mp H
 obtain ⟨t104, A30, H⟩ := H
 replace H : (if t104 < 0 then (some (-1)) else (some t104)) = some r := H
 have A3 := Aside0.mk A30
 clear A30
 by_cases c4 : t104 < 0
 ·
  rw [if_pos c4] at H
  have c4b0 : decide (t104 < 0) = true := decide_eq_true c4
  clear c4
  obtain rfl := Option.some.inj H
  go_enter Try.func42, Try.ntmps42
  go_wp2_with (first | ((with_reducible refine gate_dst (N := 2) rfl ?_); refine box_event ?hg (N := 2) ?hd (cs := #[.int .i64 a0_0, .int .i64 a0_1, .int .i64 a0_2, .int .i64 a0_3, .int .i64 a0_4, .int .i64 a0_5, .string a0_6, .slice A0_7 l0_7.length c0_7, .int .i64 a0_8, .bool a0_9]) (t := 74) ?hr ?_; (case hd => rfl); (case hg => rfl); (case hr => first | (go_simp; done) | (go_simp; rfl)); intro gb103 hg w5 hbox hb; have n0_ := Aside0.mk (below_step HB.out hb); have n1_ := Aside0.mk (hbox); have n2_ := Aside0.mk ((by rw [hg]; exact (below_size HB.out) : w.heap.size ≤ gb103)); have n3_ := Aside0.mk ((by rw [hg]; exact (below_size HB.out) : w.heap.size ≤ gb103)); clear HB; have HB := n0_; have BK103 := n1_; have GW103 := n2_; have GE103 := n3_; clear n0_ n1_ n2_ n3_; clear hb hbox hg; obtain ⟨⟨hcz6_0, hcz6_1, hcz6_2, hcz6_3, hcz6_4, hcz6_5, hcz6_6, hcz6_7, hcz6_8, hcz6_9⟩, hfz6_0, hfz6_1, hfz6_2, hfz6_3, hfz6_4, hfz6_5, hfz6_6, hfz6_7, hfz6_8, hfz6_9⟩ := cells_10 BK103.out) | ((with_reducible refine gate_callee (f := 61) rfl ?_); refine goesL_ (some 8) rfl rfl Try.func61 (by kernel_rfl) rfl #[.agg #[.int .i64 a0_0, .int .i64 a0_1, .int .i64 a0_2, .int .i64 a0_3, .int .i64 a0_4, .int .i64 a0_5, .string a0_6, .slice A0_7 l0_7.length c0_7, .int .i64 a0_8], .int .i64 a1] rfl (by (try simp only [List.map_toArray, List.map_cons, List.map_nil]); first | done | rfl | (simp only [List.length_drop, List.length_take]; rfl)) ?_; (with_reducible refine (laws_szEvent.calls a0_0 a0_1 a0_2 a0_3 a0_4 a0_5 a0_6 _ _ l0_7 a0_8 a1 t104 _ ?side1 ?side2 A3.out).mono ?_); (case side1 => repeat (first | exact (Kd.C_below HR0_7.out HB.out) | (with_reducible refine Kd.C_alloc ?_ _) | (with_reducible refine Kd.C_drewN ?_ _) | (with_reducible refine Kd.C_drew ?_))); (case side2 => exact HC0_7.out); rintro e w7 ⟨rfl, hb⟩; refine ⟨_, rfl, ?_⟩; have n0_ := Aside0.mk (blk_below BK103.out hb); have n1_ := Aside0.mk (below_step HB.out hb); clear BK103; clear HB; have BK103 := n0_; have HB := n1_; clear n0_ n1_; (try clear hb); (try clear hb2); (try clear hk); (try clear hi)))
  go_ret
  exact ⟨by first | rfl | (simp [errW_none, errW_some] <;> rfl) | (simp [*, errW_none, errW_some] <;> rfl), by repeat (first | (with_reducible first | exact HB.out | apply below_alloc | apply pw_below_drewN | apply below_drew1 | refine below_set ?_ GE103.out) | exact HB.out)⟩
 ·
  rw [if_neg c4] at H
  have c4b0 : decide (t104 < 0) = false := decide_eq_false c4
  clear c4
  obtain rfl := Option.some.inj H
  go_enter Try.func42, Try.ntmps42
  go_wp2_with (first | ((with_reducible refine gate_dst (N := 2) rfl ?_); refine box_event ?hg (N := 2) ?hd (cs := #[.int .i64 a0_0, .int .i64 a0_1, .int .i64 a0_2, .int .i64 a0_3, .int .i64 a0_4, .int .i64 a0_5, .string a0_6, .slice A0_7 l0_7.length c0_7, .int .i64 a0_8, .bool a0_9]) (t := 74) ?hr ?_; (case hd => rfl); (case hg => rfl); (case hr => first | (go_simp; done) | (go_simp; rfl)); intro gb103 hg w8 hbox hb; have n0_ := Aside0.mk (below_step HB.out hb); have n1_ := Aside0.mk (hbox); have n2_ := Aside0.mk ((by rw [hg]; exact (below_size HB.out) : w.heap.size ≤ gb103)); have n3_ := Aside0.mk ((by rw [hg]; exact (below_size HB.out) : w.heap.size ≤ gb103)); clear HB; have HB := n0_; have BK103 := n1_; have GW103 := n2_; have GE103 := n3_; clear n0_ n1_ n2_ n3_; clear hb hbox hg; obtain ⟨⟨hcz9_0, hcz9_1, hcz9_2, hcz9_3, hcz9_4, hcz9_5, hcz9_6, hcz9_7, hcz9_8, hcz9_9⟩, hfz9_0, hfz9_1, hfz9_2, hfz9_3, hfz9_4, hfz9_5, hfz9_6, hfz9_7, hfz9_8, hfz9_9⟩ := cells_10 BK103.out) | ((with_reducible refine gate_callee (f := 61) rfl ?_); refine goesL_ (some 8) rfl rfl Try.func61 (by kernel_rfl) rfl #[.agg #[.int .i64 a0_0, .int .i64 a0_1, .int .i64 a0_2, .int .i64 a0_3, .int .i64 a0_4, .int .i64 a0_5, .string a0_6, .slice A0_7 l0_7.length c0_7, .int .i64 a0_8], .int .i64 a1] rfl (by (try simp only [List.map_toArray, List.map_cons, List.map_nil]); first | done | rfl | (simp only [List.length_drop, List.length_take]; rfl)) ?_; (with_reducible refine (laws_szEvent.calls a0_0 a0_1 a0_2 a0_3 a0_4 a0_5 a0_6 _ _ l0_7 a0_8 a1 t104 _ ?side1 ?side2 A3.out).mono ?_); (case side1 => repeat (first | exact (Kd.C_below HR0_7.out HB.out) | (with_reducible refine Kd.C_alloc ?_ _) | (with_reducible refine Kd.C_drewN ?_ _) | (with_reducible refine Kd.C_drew ?_))); (case side2 => exact HC0_7.out); rintro e w10 ⟨rfl, hb⟩; refine ⟨_, rfl, ?_⟩; have n0_ := Aside0.mk (blk_below BK103.out hb); have n1_ := Aside0.mk (below_step HB.out hb); clear BK103; clear HB; have BK103 := n0_; have HB := n1_; clear n0_ n1_; (try clear hb); (try clear hb2); (try clear hk); (try clear hi)))
  go_ret
  exact ⟨by first | rfl | (simp [errW_none, errW_some] <;> rfl) | (simp [*, errW_none, errW_some] <;> rfl), by repeat (first | (with_reducible first | exact HB.out | apply below_alloc | apply pw_below_drewN | apply below_drew1 | refine below_set ?_ GE103.out) | exact HB.out)⟩

/-! ### laws_szShownS: function 27 -/
def laws_szShownS.l0 : Nat → List (S74) → Int → Int → Option (Int)
  | 0, _, _, _ => none
  | k + 1, x0, x1, x5 => if x5 < (x0.length : Int) then (if 0 ≤ x5 then ((laws_szShown.f ((rd_T74 x0 x5).f0.f0) ((rd_T74 x0 x5).f0.f1) ((rd_T74 x0 x5).f0.f2) ((rd_T74 x0 x5).f0.f3) ((rd_T74 x0 x5).f0.f4) ((rd_T74 x0 x5).f0.f5) ((rd_T74 x0 x5).f0.f6) ((rd_T74 x0 x5).f0.f7) ((rd_T74 x0 x5).f0.f8) ((rd_T74 x0 x5).f1) x1).bind fun t106 => (if t106 < 0 then (some (-1)) else (laws_szShownS.l0 k x0 t106 (wrap64 (x5 + 1))))) else (none)) else (some x1)
def laws_szShownS.f (k : Nat) (l0 : List (S74)) (a1 : Int) : Option (Int) := if (wrap64 (a1 - (l0.length : Int))) < 0 then (some (-1)) else (laws_szShownS.l0 k l0 (wrap64 (a1 - (l0.length : Int))) 0)
theorem laws_szShownS.mono_l : ∀ k, (∀ y0 y1 y2, LeO (laws_szShownS.l0 k y0 y1 y2) (laws_szShownS.l0 (k + 1) y0 y1 y2))
  | 0 => fun _ _ _ r h => by simp [laws_szShownS.l0] at h
  | k + 1 => by
    have ih0 := laws_szShownS.mono_l k
    · intro y0 y1 y2
      unfold laws_szShownS.l0
      repeat' first
      | (with_reducible exact ih0 _ _ _)
      | (with_reducible exact LeO.refl _)
      | (with_reducible exact LeO.none _)
      | (with_reducible refine LeO.ite ?_ ?_)
      | (with_reducible refine LeO.bind ?_ (fun _ => ?_))
      | exact ih0 _ _ _
      | exact LeO.none _
      | refine LeO.ite ?_ ?_
      | refine LeO.bind ?_ (fun _ => ?_)
theorem laws_szShownS.mono : ∀ a0 a1 k, LeO (laws_szShownS.f k a0 a1) (laws_szShownS.f (k + 1) a0 a1) := by
  intro a0 a1 k
  have ih0 := laws_szShownS.mono_l k
  unfold laws_szShownS.f
  repeat' first
      | (with_reducible exact ih0 _ _ _)
      | (with_reducible exact LeO.refl _)
      | (with_reducible exact LeO.none _)
      | (with_reducible refine LeO.ite ?_ ?_)
      | (with_reducible refine LeO.bind ?_ (fun _ => ?_))
      | exact ih0 _ _ _
      | exact LeO.none _
      | refine LeO.ite ?_ ?_
      | refine LeO.bind ?_ (fun _ => ?_)
set_option maxHeartbeats 8000000 in
set_option maxRecDepth 100000 in
theorem laws_szShownS.calls (k : Nat) (A0 : Option Addr) (c0 : Nat) (l0 : List (S74)) (a1 : Int) (r : Int) (w : World) (hr0 : Kd.C k74 w A0 l0.length l0) (hc0 : l0.length ≤ c0) (h : laws_szShownS.f k l0 a1 = some r) :
    Calls Try.prog 27 #[.slice A0 l0.length c0, .int .i64 a1] w fun e w' => e = .returned (.int .i64 r) ∧ Below w.heap.size w w' := by
 have hu74 := Try.underlying74
 have HR0 := Aside0.mk hr0
 have HC0 := Aside0.mk hc0
 clear hr0 hc0
 have HB := Aside0.mk (Below.refl w.heap.size w)
 have H : (if (wrap64 (a1 - (l0.length : Int))) < 0 then (some (-1)) else (laws_szShownS.l0 k l0 (wrap64 (a1 - (l0.length : Int))) 0)) = some r := h
 clear h
 by_cases c3 : (wrap64 (a1 - (l0.length : Int))) < 0
 ·
  rw [if_pos c3] at H
  have c3b0 : decide ((wrap64 (a1 - (l0.length : Int))) < 0) = true := decide_eq_true c3
  have c3b0w : decide ((IntKind.i64.wrap (a1 - (l0.length : Int))) < 0) = true := by simp only [i64_w]; exact c3b0
  clear c3
  obtain rfl := Option.some.inj H
  go_enter Try.func27, Try.ntmps27
  go_wp2
  go_ret
  exact ⟨by first | rfl | (simp [errW_none, errW_some] <;> rfl) | (simp [*, errW_none, errW_some] <;> rfl), by repeat (first | (with_reducible first | exact HB.out | apply below_alloc | apply pw_below_drewN | apply below_drew1) | exact HB.out)⟩
 ·
  rw [if_neg c3] at H
  have c3b0 : decide ((wrap64 (a1 - (l0.length : Int))) < 0) = false := decide_eq_false c3
  have c3b0w : decide ((IntKind.i64.wrap (a1 - (l0.length : Int))) < 0) = false := by simp only [i64_w]; exact c3b0
  clear c3
  have H' := Aside0.mk H
  clear H
  go_enter Try.func27, Try.ntmps27
  go_wp2
  go_loopg [1, 5] k (fun kq v1 v5 w' => ∃ (x1_1 : Int) (x5_1 : Int), v1 = .int .i64 x1_1 ∧ v5 = .int .i64 x5_1 ∧ Aside0 (laws_szShownS.l0 kq l0 x1_1 x5_1 = some r) ∧ Aside0 (kq ≤ k) ∧ Aside0 (Below w.heap.size w w'))
  case atStart => exact ⟨(wrap64 (a1 - (l0.length : Int))), (0), (by first | rfl | (simp; done) | (simp [*]; done)), (by first | rfl | (simp; done) | (simp [*]; done)), H', ⟨Nat.le_refl _⟩, ⟨by repeat (first | (with_reducible first | exact HB.out | apply below_alloc | apply pw_below_drewN | apply below_drew1) | exact HB.out)⟩⟩
  case round =>
   clear H'
   try clear c2
   try clear p2
   try clear c3
   try clear c3b0
   obtain ⟨x1_1, x5_1, rfl, rfl, HA, HK1, HB⟩ := hrel
   cases gk with
   | zero => exact absurd HA.out (by simp [laws_szShownS.l0])
   | succ k1 =>
    have H := HA.out
    clear HA
    simp only [laws_szShownS.l0] at H
    by_cases c4 : x5_1 < (l0.length : Int)
    ·
     rw [if_pos c4] at H
     have c4b0 : decide (x5_1 < (l0.length : Int)) = true := decide_eq_true c4
     clear c4
     by_cases c5 : 0 ≤ x5_1
     ·
      rw [if_pos c5] at H
      have c5b0 : decide (0 ≤ x5_1) = true := decide_eq_true c5
      clear c5
      replace H := Option.bind_eq_some_iff.mp H
      obtain ⟨t106, A60, H⟩ := H
      replace H : (if t106 < 0 then (some (-1)) else (laws_szShownS.l0 k1 l0 t106 (wrap64 (x5_1 + 1)))) = some r := H
      have A6 := Aside0.mk A60
      clear A60
      by_cases c7 : t106 < 0
      ·
       rw [if_pos c7] at H
       have c7b0 : decide (t106 < 0) = true := decide_eq_true c7
       clear c7
       obtain rfl := Option.some.inj H
       have p105 : 0 ≤ (x5_1 : Int) := of_decide_eq_true (by first | (with_reducible assumption) | assumption)
       have q105 : x5_1 < (l0.length : Int) := of_decide_eq_true (by first | (with_reducible assumption) | assumption)
       obtain ⟨ad105, A105_7, c105_7, e105, hx105_0, hx105_1, hx105_2, hx105_3, hx105_4, hx105_5, hx105_6, hx105_7, hx105_8, hx105_9, hl105_7, hi105_7⟩ := at_T74 HR0.out x5_1 p105 q105
       cases e105
       replace hx105_0 := ce_ HB.out hx105_0
       replace hx105_1 := ce_ HB.out hx105_1
       replace hx105_2 := ce_ HB.out hx105_2
       replace hx105_3 := ce_ HB.out hx105_3
       replace hx105_4 := ce_ HB.out hx105_4
       replace hx105_5 := ce_ HB.out hx105_5
       replace hx105_6 := ce_ HB.out hx105_6
       replace hx105_7 := ce_ HB.out hx105_7
       replace hx105_8 := ce_ HB.out hx105_8
       replace hx105_9 := ce_ HB.out hx105_9
       have HR105_7 := Aside0.mk hi105_7
       have HC105_7 := Aside0.mk hl105_7
       clear hi105_7 hl105_7
       replace p105 := eq_true p105
       replace q105 := eq_true q105
       go_wp2_with (first | ((with_reducible refine gate_callee (f := 42) rfl ?_); refine goesL_ (some 23) rfl rfl Try.func42 (by kernel_rfl) rfl #[.agg #[.int .i64 ((rd_T74 l0 x5_1).f0.f0), .int .i64 ((rd_T74 l0 x5_1).f0.f1), .int .i64 ((rd_T74 l0 x5_1).f0.f2), .int .i64 ((rd_T74 l0 x5_1).f0.f3), .int .i64 ((rd_T74 l0 x5_1).f0.f4), .int .i64 ((rd_T74 l0 x5_1).f0.f5), .string ((rd_T74 l0 x5_1).f0.f6), .slice A105_7 ((rd_T74 l0 x5_1).f0.f7).length c105_7, .int .i64 ((rd_T74 l0 x5_1).f0.f8), .bool ((rd_T74 l0 x5_1).f1)], .int .i64 x1_1] rfl (by (try simp only [List.map_toArray, List.map_cons, List.map_nil]); first | done | rfl | (simp only [List.length_drop, List.length_take]; rfl)) ?_; (with_reducible refine (laws_szShown.calls ((rd_T74 l0 x5_1).f0.f0) ((rd_T74 l0 x5_1).f0.f1) ((rd_T74 l0 x5_1).f0.f2) ((rd_T74 l0 x5_1).f0.f3) ((rd_T74 l0 x5_1).f0.f4) ((rd_T74 l0 x5_1).f0.f5) ((rd_T74 l0 x5_1).f0.f6) _ _ ((rd_T74 l0 x5_1).f0.f7) ((rd_T74 l0 x5_1).f0.f8) ((rd_T74 l0 x5_1).f1) x1_1 t106 _ ?side1 ?side2 A6.out).mono ?_); (case side1 => repeat (first | exact (Kd.C_below HR105_7.out HB.out) | (with_reducible refine Kd.C_alloc ?_ _) | (with_reducible refine Kd.C_drewN ?_ _) | (with_reducible refine Kd.C_drew ?_))); (case side2 => exact HC105_7.out); rintro e w8 ⟨rfl, hb⟩; refine ⟨_, rfl, ?_⟩; have n0_ := Aside0.mk (below_step HB.out hb); clear HB; have HB := n0_; clear n0_; (try clear hb); (try clear hb2); (try clear hk); (try clear hi)))
       go_ret
       exact ⟨by first | rfl | (simp [errW_none, errW_some] <;> rfl) | (simp [*, errW_none, errW_some] <;> rfl), by repeat (first | (with_reducible first | exact HB.out | apply below_alloc | apply pw_below_drewN | apply below_drew1) | exact HB.out)⟩
      ·
       rw [if_neg c7] at H
       have c7b0 : decide (t106 < 0) = false := decide_eq_false c7
       clear c7
       have H' := Aside0.mk H
       clear H
       have p105 : 0 ≤ (x5_1 : Int) := of_decide_eq_true (by first | (with_reducible assumption) | assumption)
       have q105 : x5_1 < (l0.length : Int) := of_decide_eq_true (by first | (with_reducible assumption) | assumption)
       obtain ⟨ad105, A105_7, c105_7, e105, hx105_0, hx105_1, hx105_2, hx105_3, hx105_4, hx105_5, hx105_6, hx105_7, hx105_8, hx105_9, hl105_7, hi105_7⟩ := at_T74 HR0.out x5_1 p105 q105
       cases e105
       replace hx105_0 := ce_ HB.out hx105_0
       replace hx105_1 := ce_ HB.out hx105_1
       replace hx105_2 := ce_ HB.out hx105_2
       replace hx105_3 := ce_ HB.out hx105_3
       replace hx105_4 := ce_ HB.out hx105_4
       replace hx105_5 := ce_ HB.out hx105_5
       replace hx105_6 := ce_ HB.out hx105_6
       replace hx105_7 := ce_ HB.out hx105_7
       replace hx105_8 := ce_ HB.out hx105_8
       replace hx105_9 := ce_ HB.out hx105_9
       have HR105_7 := Aside0.mk hi105_7
       have HC105_7 := Aside0.mk hl105_7
       clear hi105_7 hl105_7
       replace p105 := eq_true p105
       replace q105 := eq_true q105
       go_wp2_with (first | ((with_reducible refine gate_callee (f := 42) rfl ?_); refine goesL_ (some 23) rfl rfl Try.func42 (by kernel_rfl) rfl #[.agg #[.int .i64 ((rd_T74 l0 x5_1).f0.f0), .int .i64 ((rd_T74 l0 x5_1).f0.f1), .int .i64 ((rd_T74 l0 x5_1).f0.f2), .int .i64 ((rd_T74 l0 x5_1).f0.f3), .int .i64 ((rd_T74 l0 x5_1).f0.f4), .int .i64 ((rd_T74 l0 x5_1).f0.f5), .string ((rd_T74 l0 x5_1).f0.f6), .slice A105_7 ((rd_T74 l0 x5_1).f0.f7).length c105_7, .int .i64 ((rd_T74 l0 x5_1).f0.f8), .bool ((rd_T74 l0 x5_1).f1)], .int .i64 x1_1] rfl (by (try simp only [List.map_toArray, List.map_cons, List.map_nil]); first | done | rfl | (simp only [List.length_drop, List.length_take]; rfl)) ?_; (with_reducible refine (laws_szShown.calls ((rd_T74 l0 x5_1).f0.f0) ((rd_T74 l0 x5_1).f0.f1) ((rd_T74 l0 x5_1).f0.f2) ((rd_T74 l0 x5_1).f0.f3) ((rd_T74 l0 x5_1).f0.f4) ((rd_T74 l0 x5_1).f0.f5) ((rd_T74 l0 x5_1).f0.f6) _ _ ((rd_T74 l0 x5_1).f0.f7) ((rd_T74 l0 x5_1).f0.f8) ((rd_T74 l0 x5_1).f1) x1_1 t106 _ ?side1 ?side2 A6.out).mono ?_); (case side1 => repeat (first | exact (Kd.C_below HR105_7.out HB.out) | (with_reducible refine Kd.C_alloc ?_ _) | (with_reducible refine Kd.C_drewN ?_ _) | (with_reducible refine Kd.C_drew ?_))); (case side2 => exact HC105_7.out); rintro e w9 ⟨rfl, hb⟩; refine ⟨_, rfl, ?_⟩; have n0_ := Aside0.mk (below_step HB.out hb); clear HB; have HB := n0_; clear n0_; (try clear hb); (try clear hb2); (try clear hk); (try clear hi)))
       go_roundg k1
       case measure => have := HK1.out; omega
       case rel => exact ⟨(t106), (wrap64 (x5_1 + 1)), (by first | rfl | (simp; done) | (simp [*]; done)), (by first | rfl | (simp; done) | (simp [*]; done)), H', ⟨by have := HK1.out; omega⟩, ⟨by repeat (first | (with_reducible first | exact HB.out | apply below_alloc | apply pw_below_drewN | apply below_drew1) | exact HB.out)⟩⟩
     ·
      rw [if_neg c5] at H
      exact absurd H (by simp)
    ·
     rw [if_neg c4] at H
     have c4b0 : decide (x5_1 < (l0.length : Int)) = false := decide_eq_false c4
     clear c4
     obtain rfl := Option.some.inj H
     go_wp2
     go_ret
     exact ⟨by first | rfl | (simp [errW_none, errW_some] <;> rfl) | (simp [*, errW_none, errW_some] <;> rfl), by repeat (first | (with_reducible first | exact HB.out | apply below_alloc | apply pw_below_drewN | apply below_drew1) | exact HB.out)⟩

/-! ### laws_szPart: function 12 -/
def laws_szPart.f (k : Nat) (a0_0 : Int) (l0_1 : List (S49)) (l0_2 : List (S74)) (a0_3 : Bool) (a0_4 : Int) (a1 : Int) : Option (Int) := (laws_szEntryS.f l0_1 a1).bind fun t108 => (if t108 < 0 then (some (-1)) else ((laws_szShownS.f k l0_2 t108).bind fun t109 => (if t109 < 0 then (some (-1)) else (some t109))))
theorem laws_szPart.mono : ∀ a0 a1 a2 a3 a4 a5 k, LeO (laws_szPart.f k a0 a1 a2 a3 a4 a5) (laws_szPart.f (k + 1) a0 a1 a2 a3 a4 a5) := by
  intro a0 a1 a2 a3 a4 a5 k
  unfold laws_szPart.f
  repeat' first
      | (with_reducible exact laws_szShownS.mono _ _ _)
      | (with_reducible exact LeO.refl _)
      | (with_reducible exact LeO.none _)
      | (with_reducible refine LeO.ite ?_ ?_)
      | (with_reducible refine LeO.bind ?_ (fun _ => ?_))
      | exact laws_szShownS.mono _ _ _
      | exact LeO.none _
      | refine LeO.ite ?_ ?_
      | refine LeO.bind ?_ (fun _ => ?_)
set_option maxHeartbeats 8000000 in
set_option maxRecDepth 100000 in
theorem laws_szPart.calls (k : Nat) (a0_0 : Int) (A0_1 : Option Addr) (c0_1 : Nat) (l0_1 : List (S49)) (A0_2 : Option Addr) (c0_2 : Nat) (l0_2 : List (S74)) (a0_3 : Bool) (a0_4 : Int) (a1 : Int) (r : Int) (w : World) (hr0_1 : Kd.C k49 w A0_1 l0_1.length l0_1) (hc0_1 : l0_1.length ≤ c0_1) (hr0_2 : Kd.C k74 w A0_2 l0_2.length l0_2) (hc0_2 : l0_2.length ≤ c0_2) (h : laws_szPart.f k a0_0 l0_1 l0_2 a0_3 a0_4 a1 = some r) :
    Calls Try.prog 12 #[.agg #[.int .i64 a0_0, .slice A0_1 l0_1.length c0_1, .slice A0_2 l0_2.length c0_2, .bool a0_3, .int .i64 a0_4], .int .i64 a1] w fun e w' => e = .returned (.int .i64 r) ∧ Below w.heap.size w w' := by
 have hu32 := Try.underlying32
 have HR0_1 := Aside0.mk hr0_1
 have HC0_1 := Aside0.mk hc0_1
 clear hr0_1 hc0_1
 have HR0_2 := Aside0.mk hr0_2
 have HC0_2 := Aside0.mk hc0_2
 clear hr0_2 hc0_2
 have HB := Aside0.mk (Below.refl w.heap.size w)
 have H : ((laws_szEntryS.f l0_1 a1).bind fun t108 => (if t108 < 0 then (some (-1)) else ((laws_szShownS.f k l0_2 t108).bind fun t109 => (if t109 < 0 then (some (-1)) else (some t109))))) = some r := h
 clear h
 replace H := Option.bind_eq_some_iff.mp H
 obtain ⟨t108, A30, H⟩ := H
 replace H : (if t108 < 0 then (some (-1)) else ((laws_szShownS.f k l0_2 t108).bind fun t109 => (if t109 < 0 then (some (-1)) else (some t109)))) = some r := H
 have A3 := Aside0.mk A30
 clear A30
 by_cases c4 : t108 < 0
 ·
  rw [if_pos c4] at H
  have c4b0 : decide (t108 < 0) = true := decide_eq_true c4
  clear c4
  obtain rfl := Option.some.inj H
  go_enter Try.func12, Try.ntmps12
  go_wp2_with (first | ((with_reducible refine gate_dst (N := 2) rfl ?_); refine box_event ?hg (N := 2) ?hd (cs := #[.int .i64 a0_0, .slice A0_1 l0_1.length c0_1, .slice A0_2 l0_2.length c0_2, .bool a0_3, .int .i64 a0_4]) (t := 32) ?hr ?_; (case hd => rfl); (case hg => rfl); (case hr => first | (go_simp; done) | (go_simp; rfl)); intro gb107 hg w5 hbox hb; have n0_ := Aside0.mk (below_step (by repeat (first | (with_reducible first | exact HB.out | apply below_alloc | apply pw_below_drewN | apply below_drew1) | exact HB.out)) hb); have n1_ := Aside0.mk (hbox); have n2_ := Aside0.mk ((by rw [hg]; exact (below_size (by repeat (first | (with_reducible first | exact HB.out | apply below_alloc | apply pw_below_drewN | apply below_drew1) | exact HB.out))) : w.heap.size ≤ gb107)); have n3_ := Aside0.mk ((by rw [hg]; exact (below_size (by repeat (first | (with_reducible first | exact HB.out | apply below_alloc | apply pw_below_drewN | apply below_drew1) | exact HB.out))) : w.heap.size ≤ gb107)); clear HB; have HB := n0_; have BK107 := n1_; have GW107 := n2_; have GE107 := n3_; clear n0_ n1_ n2_ n3_; clear hb hbox hg; obtain ⟨⟨hcz6_0, hcz6_1, hcz6_2, hcz6_3, hcz6_4⟩, hfz6_0, hfz6_1, hfz6_2, hfz6_3, hfz6_4⟩ := cells_5 BK107.out) | ((with_reducible refine gate_callee (f := 5) rfl ?_); refine goesL_ (some 8) rfl rfl Try.func5 (by kernel_rfl) rfl #[.slice A0_1 l0_1.length c0_1, .int .i64 a1] rfl (by (try simp only [List.map_toArray, List.map_cons, List.map_nil]); first | done | rfl | (simp only [List.length_drop, List.length_take]; rfl)) ?_; (with_reducible refine (laws_szEntryS.calls _ _ l0_1 a1 t108 _ ?side1 ?side2 A3.out).mono ?_); (case side1 => repeat (first | exact (Kd.C_below HR0_1.out HB.out) | (with_reducible refine Kd.C_alloc ?_ _) | (with_reducible refine Kd.C_drewN ?_ _) | (with_reducible refine Kd.C_drew ?_))); (case side2 => exact HC0_1.out); rintro e w' ⟨rfl, ⟨nd, rfl⟩⟩; refine ⟨_, rfl, ?_⟩))
  go_ret
  exact ⟨by first | rfl | (simp [errW_none, errW_some] <;> rfl) | (simp [*, errW_none, errW_some] <;> rfl), by repeat (first | (with_reducible first | exact HB.out | apply below_alloc | apply pw_below_drewN | apply below_drew1 | refine below_set ?_ GE107.out) | exact HB.out)⟩
 ·
  rw [if_neg c4] at H
  have c4b0 : decide (t108 < 0) = false := decide_eq_false c4
  clear c4
  replace H := Option.bind_eq_some_iff.mp H
  obtain ⟨t109, A70, H⟩ := H
  replace H : (if t109 < 0 then (some (-1)) else (some t109)) = some r := H
  have A7 := Aside0.mk A70
  clear A70
  by_cases c8 : t109 < 0
  ·
   rw [if_pos c8] at H
   have c8b0 : decide (t109 < 0) = true := decide_eq_true c8
   clear c8
   obtain rfl := Option.some.inj H
   go_enter Try.func12, Try.ntmps12
   go_wp2_with (first | ((with_reducible refine gate_dst (N := 2) rfl ?_); refine box_event ?hg (N := 2) ?hd (cs := #[.int .i64 a0_0, .slice A0_1 l0_1.length c0_1, .slice A0_2 l0_2.length c0_2, .bool a0_3, .int .i64 a0_4]) (t := 32) ?hr ?_; (case hd => rfl); (case hg => rfl); (case hr => first | (go_simp; done) | (go_simp; rfl)); intro gb107 hg w9 hbox hb; have n0_ := Aside0.mk (below_step (by repeat (first | (with_reducible first | exact HB.out | apply below_alloc | apply pw_below_drewN | apply below_drew1) | exact HB.out)) hb); have n1_ := Aside0.mk (hbox); have n2_ := Aside0.mk ((by rw [hg]; exact (below_size (by repeat (first | (with_reducible first | exact HB.out | apply below_alloc | apply pw_below_drewN | apply below_drew1) | exact HB.out))) : w.heap.size ≤ gb107)); have n3_ := Aside0.mk ((by rw [hg]; exact (below_size (by repeat (first | (with_reducible first | exact HB.out | apply below_alloc | apply pw_below_drewN | apply below_drew1) | exact HB.out))) : w.heap.size ≤ gb107)); clear HB; have HB := n0_; have BK107 := n1_; have GW107 := n2_; have GE107 := n3_; clear n0_ n1_ n2_ n3_; clear hb hbox hg; obtain ⟨⟨hcz10_0, hcz10_1, hcz10_2, hcz10_3, hcz10_4⟩, hfz10_0, hfz10_1, hfz10_2, hfz10_3, hfz10_4⟩ := cells_5 BK107.out) | ((with_reducible refine gate_callee (f := 5) rfl ?_); refine goesL_ (some 8) rfl rfl Try.func5 (by kernel_rfl) rfl #[.slice A0_1 l0_1.length c0_1, .int .i64 a1] rfl (by (try simp only [List.map_toArray, List.map_cons, List.map_nil]); first | done | rfl | (simp only [List.length_drop, List.length_take]; rfl)) ?_; (with_reducible refine (laws_szEntryS.calls _ _ l0_1 a1 t108 _ ?side1 ?side2 A3.out).mono ?_); (case side1 => repeat (first | exact (Kd.C_below HR0_1.out HB.out) | (with_reducible refine Kd.C_alloc ?_ _) | (with_reducible refine Kd.C_drewN ?_ _) | (with_reducible refine Kd.C_drew ?_))); (case side2 => exact HC0_1.out); rintro e w' ⟨rfl, ⟨nd, rfl⟩⟩; refine ⟨_, rfl, ?_⟩) | ((with_reducible refine gate_callee (f := 27) rfl ?_); refine goesL_ (some 14) rfl rfl Try.func27 (by kernel_rfl) rfl #[.slice A0_2 l0_2.length c0_2, .int .i64 t108] rfl (by (try simp only [List.map_toArray, List.map_cons, List.map_nil]); first | done | rfl | (simp only [List.length_drop, List.length_take]; rfl)) ?_; (with_reducible refine (laws_szShownS.calls k _ _ l0_2 t108 t109 _ ?side1 ?side2 A7.out).mono ?_); (case side1 => repeat (first | exact (Kd.C_below HR0_2.out (by repeat (first | (with_reducible first | exact HB.out | apply below_alloc | apply pw_below_drewN | apply below_drew1 | refine below_set ?_ GE107.out) | exact HB.out))) | (with_reducible refine Kd.C_alloc ?_ _) | (with_reducible refine Kd.C_drewN ?_ _) | (with_reducible refine Kd.C_drew ?_))); (case side2 => exact HC0_2.out); rintro e w11 ⟨rfl, hb⟩; refine ⟨_, rfl, ?_⟩; have n0_ := Aside0.mk (blk_below (g := gb107) (o := .cells #[.int .i64 a0_0, .slice A0_1 l0_1.length c0_1, .slice A0_2 l0_2.length c0_2, .bool a0_3, .int .i64 a0_4] 32 (0, 0)) (by (with_reducible repeat (first | refine blk_drewN ?_ _ | refine blk_drew ?_ | refine blk_alloc ?_ _)); exact BK107.out) hb); have n1_ := Aside0.mk (below_step (by repeat (first | (with_reducible first | exact HB.out | apply below_alloc | apply pw_below_drewN | apply below_drew1 | refine below_set ?_ GE107.out) | exact HB.out)) hb); clear BK107; clear HB; have BK107 := n0_; have HB := n1_; clear n0_ n1_; (try clear hb); (try clear hb2); (try clear hk); (try clear hi)))
   go_ret
   exact ⟨by first | rfl | (simp [errW_none, errW_some] <;> rfl) | (simp [*, errW_none, errW_some] <;> rfl), by repeat (first | (with_reducible first | exact HB.out | apply below_alloc | apply pw_below_drewN | apply below_drew1 | refine below_set ?_ GE107.out) | exact HB.out)⟩
  ·
   rw [if_neg c8] at H
   have c8b0 : decide (t109 < 0) = false := decide_eq_false c8
   clear c8
   obtain rfl := Option.some.inj H
   go_enter Try.func12, Try.ntmps12
   go_wp2_with (first | ((with_reducible refine gate_dst (N := 2) rfl ?_); refine box_event ?hg (N := 2) ?hd (cs := #[.int .i64 a0_0, .slice A0_1 l0_1.length c0_1, .slice A0_2 l0_2.length c0_2, .bool a0_3, .int .i64 a0_4]) (t := 32) ?hr ?_; (case hd => rfl); (case hg => rfl); (case hr => first | (go_simp; done) | (go_simp; rfl)); intro gb107 hg w12 hbox hb; have n0_ := Aside0.mk (below_step (by repeat (first | (with_reducible first | exact HB.out | apply below_alloc | apply pw_below_drewN | apply below_drew1) | exact HB.out)) hb); have n1_ := Aside0.mk (hbox); have n2_ := Aside0.mk ((by rw [hg]; exact (below_size (by repeat (first | (with_reducible first | exact HB.out | apply below_alloc | apply pw_below_drewN | apply below_drew1) | exact HB.out))) : w.heap.size ≤ gb107)); have n3_ := Aside0.mk ((by rw [hg]; exact (below_size (by repeat (first | (with_reducible first | exact HB.out | apply below_alloc | apply pw_below_drewN | apply below_drew1) | exact HB.out))) : w.heap.size ≤ gb107)); clear HB; have HB := n0_; have BK107 := n1_; have GW107 := n2_; have GE107 := n3_; clear n0_ n1_ n2_ n3_; clear hb hbox hg; obtain ⟨⟨hcz13_0, hcz13_1, hcz13_2, hcz13_3, hcz13_4⟩, hfz13_0, hfz13_1, hfz13_2, hfz13_3, hfz13_4⟩ := cells_5 BK107.out) | ((with_reducible refine gate_callee (f := 5) rfl ?_); refine goesL_ (some 8) rfl rfl Try.func5 (by kernel_rfl) rfl #[.slice A0_1 l0_1.length c0_1, .int .i64 a1] rfl (by (try simp only [List.map_toArray, List.map_cons, List.map_nil]); first | done | rfl | (simp only [List.length_drop, List.length_take]; rfl)) ?_; (with_reducible refine (laws_szEntryS.calls _ _ l0_1 a1 t108 _ ?side1 ?side2 A3.out).mono ?_); (case side1 => repeat (first | exact (Kd.C_below HR0_1.out HB.out) | (with_reducible refine Kd.C_alloc ?_ _) | (with_reducible refine Kd.C_drewN ?_ _) | (with_reducible refine Kd.C_drew ?_))); (case side2 => exact HC0_1.out); rintro e w' ⟨rfl, ⟨nd, rfl⟩⟩; refine ⟨_, rfl, ?_⟩) | ((with_reducible refine gate_callee (f := 27) rfl ?_); refine goesL_ (some 14) rfl rfl Try.func27 (by kernel_rfl) rfl #[.slice A0_2 l0_2.length c0_2, .int .i64 t108] rfl (by (try simp only [List.map_toArray, List.map_cons, List.map_nil]); first | done | rfl | (simp only [List.length_drop, List.length_take]; rfl)) ?_; (with_reducible refine (laws_szShownS.calls k _ _ l0_2 t108 t109 _ ?side1 ?side2 A7.out).mono ?_); (case side1 => repeat (first | exact (Kd.C_below HR0_2.out (by repeat (first | (with_reducible first | exact HB.out | apply below_alloc | apply pw_below_drewN | apply below_drew1 | refine below_set ?_ GE107.out) | exact HB.out))) | (with_reducible refine Kd.C_alloc ?_ _) | (with_reducible refine Kd.C_drewN ?_ _) | (with_reducible refine Kd.C_drew ?_))); (case side2 => exact HC0_2.out); rintro e w14 ⟨rfl, hb⟩; refine ⟨_, rfl, ?_⟩; have n0_ := Aside0.mk (blk_below (g := gb107) (o := .cells #[.int .i64 a0_0, .slice A0_1 l0_1.length c0_1, .slice A0_2 l0_2.length c0_2, .bool a0_3, .int .i64 a0_4] 32 (0, 0)) (by (with_reducible repeat (first | refine blk_drewN ?_ _ | refine blk_drew ?_ | refine blk_alloc ?_ _)); exact BK107.out) hb); have n1_ := Aside0.mk (below_step (by repeat (first | (with_reducible first | exact HB.out | apply below_alloc | apply pw_below_drewN | apply below_drew1 | refine below_set ?_ GE107.out) | exact HB.out)) hb); clear BK107; clear HB; have BK107 := n0_; have HB := n1_; clear n0_ n1_; (try clear hb); (try clear hb2); (try clear hk); (try clear hi)))
   go_ret
   exact ⟨by first | rfl | (simp [errW_none, errW_some] <;> rfl) | (simp [*, errW_none, errW_some] <;> rfl), by repeat (first | (with_reducible first | exact HB.out | apply below_alloc | apply pw_below_drewN | apply below_drew1 | refine below_set ?_ GE107.out) | exact HB.out)⟩

/-! ### spec_l02Is: function 43 -/
def spec_l02Is.f (a0 : Int) (a1 : Int) (a2 : Int) : Option (Bool) := if a0 ≥ a1 then (some (decide (a0 ≤ a2))) else (some false)
set_option maxHeartbeats 8000000 in
set_option maxRecDepth 100000 in
theorem spec_l02Is.calls (a0 : Int) (a1 : Int) (a2 : Int) (r : Bool) (w : World) (h : spec_l02Is.f a0 a1 a2 = some r) :
    Calls Try.prog 43 #[.int .i64 a0, .int .i64 a1, .int .i64 a2] w fun e w' => e = .returned (.bool r) ∧ Drawn0 w w' := by
 have H : (if a0 ≥ a1 then (some (decide (a0 ≤ a2))) else (some false)) = some r := h
 clear h
 by_cases c4 : a0 ≥ a1
 ·
  rw [if_pos c4] at H
  have c4b0 : decide (a1 ≤ a0) = true := decide_eq_true c4
  clear c4
  obtain rfl := Option.some.inj H
  go_enter Try.func43, Try.ntmps43
  go_wp2
  go_ret
  exact ⟨by first | rfl | (simp; done) | (simp [*]; done), by repeat (first | exact Drawn0.refl _ | apply Drawn0.step)⟩
 ·
  rw [if_neg c4] at H
  have c4b0 : decide (a1 ≤ a0) = false := decide_eq_false c4
  clear c4
  obtain rfl := Option.some.inj H
  go_enter Try.func43, Try.ntmps43
  go_wp2
  go_ret
  exact ⟨by first | rfl | (simp; done) | (simp [*]; done), by repeat (first | exact Drawn0.refl _ | apply Drawn0.step)⟩

/-! ### spec_l02User: function 28 -/
def spec_l02User.f (a0 : Int) : Option (Bool) := (spec_l02Is.f a0 1 6).bind fun t110 => (some t110)
set_option maxHeartbeats 8000000 in
set_option maxRecDepth 100000 in
theorem spec_l02User.calls (a0 : Int) (r : Bool) (w : World) (h : spec_l02User.f a0 = some r) :
    Calls Try.prog 28 #[.int .i64 a0] w fun e w' => e = .returned (.bool r) ∧ Drawn0 w w' := by
 have H : ((spec_l02Is.f a0 1 6).bind fun t110 => (some t110)) = some r := h
 clear h
 replace H := Option.bind_eq_some_iff.mp H
 obtain ⟨t110, A20, H⟩ := H
 replace H : (some t110) = some r := H
 have A2 := Aside0.mk A20
 clear A20
 obtain rfl := Option.some.inj H
 go_enter Try.func28, Try.ntmps28
 go_wp2_with (first | ((with_reducible refine gate_callee (f := 43) rfl ?_); refine goesL_ (some 4) rfl rfl Try.func43 (by kernel_rfl) rfl #[.int .i64 a0, .int .i64 1, .int .i64 6] rfl (by (try simp only [List.map_toArray, List.map_cons, List.map_nil]); first | done | rfl | (simp only [List.length_drop, List.length_take]; rfl)) ?_; (with_reducible refine (spec_l02Is.calls a0 1 6 t110 _ A2.out).mono ?_); rintro e w' ⟨rfl, ⟨nd, rfl⟩⟩; refine ⟨_, rfl, ?_⟩))
 go_ret
 exact ⟨by first | rfl | (simp; done) | (simp [*]; done), by repeat (first | exact Drawn0.refl _ | apply Drawn0.step)⟩

/-! ### spec_l03Set: function 29 -/
def spec_l03Set.l0 : Nat → List Int → Int → Int → Option (List Int)
  | 0, _, _, _ => none
  | k + 1, x0, x1, x5 => if x5 < (x0.length : Int) then (if 0 ≤ x5 then (if (rd x0 x5) < x1 then (spec_l03Set.l0 k x0 x1 (wrap64 (x5 + 1))) else (if (rd x0 x5) = x1 then (some x0) else ((some (([] : List Int) : List Int)).bind fun y113 => (if x5 ≤ (x0.length : Int) then ((some (x0.take (x5 : Int).toNat : List Int)).bind fun y116 => (if y113.length + y116.length < 17592186044416 then ((some (y113 ++ y116 : List Int)).bind fun y120 => (if y120.length < 17592186044416 then ((some (y120 ++ [x1] : List Int)).bind fun y123 => ((some (x0.drop (x5 : Int).toNat : List Int)).bind fun y126 => (if y123.length + y126.length < 17592186044416 then (some (y123 ++ y126)) else (none)))) else (none))) else (none))) else (none))))) else (none)) else ((some (([] : List Int) : List Int)).bind fun y133 => (if 0 ≤ x5 then (if x5 ≤ (x0.length : Int) then ((some (x0.take (x5 : Int).toNat : List Int)).bind fun y136 => (if y133.length + y136.length < 17592186044416 then ((some (y133 ++ y136 : List Int)).bind fun y140 => (if y140.length < 17592186044416 then ((some (y140 ++ [x1] : List Int)).bind fun y143 => ((some (x0.drop (x5 : Int).toNat : List Int)).bind fun y146 => (if y143.length + y146.length < 17592186044416 then (some (y143 ++ y146)) else (none)))) else (none))) else (none))) else (none)) else (none)))
def spec_l03Set.f (k : Nat) (l0 : List Int) (a1 : Int) : Option (List Int) := spec_l03Set.l0 k l0 a1 0
theorem spec_l03Set.mono_l : ∀ k, (∀ y0 y1 y2, LeO (spec_l03Set.l0 k y0 y1 y2) (spec_l03Set.l0 (k + 1) y0 y1 y2))
  | 0 => fun _ _ _ r h => by simp [spec_l03Set.l0] at h
  | k + 1 => by
    have ih0 := spec_l03Set.mono_l k
    · intro y0 y1 y2
      unfold spec_l03Set.l0
      repeat' first
      | (with_reducible exact ih0 _ _ _)
      | (with_reducible exact LeO.refl _)
      | (with_reducible exact LeO.none _)
      | (with_reducible refine LeO.ite ?_ ?_)
      | (with_reducible refine LeO.bind ?_ (fun _ => ?_))
      | exact ih0 _ _ _
      | exact LeO.none _
      | refine LeO.ite ?_ ?_
      | refine LeO.bind ?_ (fun _ => ?_)
theorem spec_l03Set.mono : ∀ a0 a1 k, LeO (spec_l03Set.f k a0 a1) (spec_l03Set.f (k + 1) a0 a1) := by
  intro a0 a1 k
  have ih0 := spec_l03Set.mono_l k
  unfold spec_l03Set.f
  repeat' first
      | (with_reducible exact ih0 _ _ _)
      | (with_reducible exact LeO.refl _)
      | (with_reducible exact LeO.none _)
      | (with_reducible refine LeO.ite ?_ ?_)
      | (with_reducible refine LeO.bind ?_ (fun _ => ?_))
      | exact ih0 _ _ _
      | exact LeO.none _
      | refine LeO.ite ?_ ?_
      | refine LeO.bind ?_ (fun _ => ?_)
set_option maxHeartbeats 8000000 in
set_option maxRecDepth 100000 in
theorem spec_l03Set.calls (k : Nat) (P0_ : Nat → Prop) (u9000_ : Value) (l0 : List Int) (a1 : Int) (r : List Int) (w0 w : World) (hB : Below w0.heap.size w0 w) (ho0 : Kd.R (Kd.int .i64) 2 w w0.heap.size P0_ u9000_ l0) (h : spec_l03Set.f k l0 a1 = some r) :
    Calls Try.prog 29 #[u9000_, .int .i64 a1] w fun e w' => ∃ v0_ : Value, e = .returned (v0_) ∧ Kd.R (Kd.int .i64) 2 w' w0.heap.size (fun k_ => (P0_ k_ ∨ w.heap.size ≤ k_)) v0_ r ∧ Below w0.heap.size w0 w' ∧ Kept w w' (fun k_ => P0_ k_) := by
 have HO0 := Aside0.mk (show Kd.R (Kd.int .i64) 2 w w0.heap.size (fun k_ => (P0_ k_ ∨ w.heap.size ≤ k_)) u9000_ l0 from Kd.R_mono ho0 (fun k_ hk => (.inl hk)))
 have HK := Aside0.mk (Kept.refl w (fun k_ => P0_ k_))
 have HW0 := Aside0.mk hB.size
 have HB := Aside0.mk hB
 clear hB
 have H : (spec_l03Set.l0 k l0 a1 0) = some r := h
 clear h
 have H' := Aside0.mk H
 clear H
 go_enter Try.func29, Try.ntmps29
 go_wp2
 go_loopg [5] k (fun kq v5 w' => ∃ (x5_1 : Int), v5 = .int .i64 x5_1 ∧ Aside0 (spec_l03Set.l0 kq l0 a1 x5_1 = some r) ∧ Aside0 (kq ≤ k) ∧ Aside0 (Kd.R (Kd.int .i64) 2 w' w0.heap.size (fun k_ => (P0_ k_ ∨ w.heap.size ≤ k_)) u9000_ l0) ∧ Aside0 (Kept w w' (fun k_ => P0_ k_)) ∧ Aside0 (Below w0.heap.size w0 w'))
 case atStart => exact ⟨(0), (by first | rfl | (simp; done) | (simp [*]; done)), H', ⟨Nat.le_refl _⟩, ⟨by (with_reducible repeat (first | apply Kd.R_alloc | apply Kd.R_drewN | apply Kd.R_drew)); exact HO0.out⟩, ⟨by repeat (first | (with_reducible first | exact HK.out | apply Kept.alloc | apply Kept.drewN | apply Kept.drew) | exact HK.out)⟩, ⟨by repeat (first | (with_reducible first | exact HB.out | apply below_alloc | apply pw_below_drewN | apply below_drew1) | exact HB.out)⟩⟩
 case round =>
  clear H'
  try clear c2
  try clear p2
  obtain ⟨x5_1, rfl, HA, HK1, HO_0, HK, HB⟩ := hrel
  cases gk with
  | zero => exact absurd HA.out (by simp [spec_l03Set.l0])
  | succ k1 =>
   have H := HA.out
   clear HA
   simp only [spec_l03Set.l0] at H
   by_cases c3 : x5_1 < (l0.length : Int)
   ·
    rw [if_pos c3] at H
    have c3b0 : decide (x5_1 < (l0.length : Int)) = true := decide_eq_true c3
    clear c3
    by_cases c4 : 0 ≤ x5_1
    ·
     rw [if_pos c4] at H
     have c4b0 : decide (0 ≤ x5_1) = true := decide_eq_true c4
     clear c4
     by_cases c5 : (rd l0 x5_1) < a1
     ·
      rw [if_pos c5] at H
      have c5b0 : decide ((rd l0 x5_1) < a1) = true := decide_eq_true c5
      clear c5
      have H' := Aside0.mk H
      clear H
      obtain ⟨Ao6, co6, eo6⟩ := Kd.R_slice HO_0.out
      subst eo6
      have p111 : 0 ≤ (x5_1 : Int) := of_decide_eq_true (by first | (with_reducible assumption) | assumption)
      have q111 : x5_1 < (l0.length : Int) := of_decide_eq_true (by first | (with_reducible assumption) | assumption)
      obtain ⟨ad111, e111, hx111_0⟩ := Kd.at_int (Kd.R_reads' HO_0.out).2.2 x5_1 p111 q111
      cases e111
      replace p111 := eq_true p111
      replace q111 := eq_true q111
      go_wp2
      go_roundg k1
      case measure => have := HK1.out; omega
      case rel => exact ⟨(wrap64 (x5_1 + 1)), (by first | rfl | (simp; done) | (simp [*]; done)), H', ⟨by have := HK1.out; omega⟩, ⟨by (with_reducible repeat (first | apply Kd.R_alloc | apply Kd.R_drewN | apply Kd.R_drew)); exact HO_0.out⟩, ⟨by repeat (first | (with_reducible first | exact HK.out | apply Kept.alloc | apply Kept.drewN | apply Kept.drew) | exact HK.out)⟩, ⟨by repeat (first | (with_reducible first | exact HB.out | apply below_alloc | apply pw_below_drewN | apply below_drew1) | exact HB.out)⟩⟩
     ·
      rw [if_neg c5] at H
      have c5b0 : decide ((rd l0 x5_1) < a1) = false := decide_eq_false c5
      clear c5
      by_cases c7 : (rd l0 x5_1) = a1
      ·
       rw [if_pos c7] at H
       have c7b0 : ((rd l0 x5_1) == a1) = true := beq_iff_eq.mpr c7
       have c7b1 : ((rd l0 x5_1) != a1) = false := bne_eq_false_iff_eq.mpr c7
       clear c7
       obtain rfl := Option.some.inj H
       obtain ⟨Ao8, co8, eo8⟩ := Kd.R_slice HO_0.out
       subst eo8
       have p111 : 0 ≤ (x5_1 : Int) := of_decide_eq_true (by first | (with_reducible assumption) | assumption)
       have q111 : x5_1 < (l0.length : Int) := of_decide_eq_true (by first | (with_reducible assumption) | assumption)
       obtain ⟨ad111, e111, hx111_0⟩ := Kd.at_int (Kd.R_reads' HO_0.out).2.2 x5_1 p111 q111
       cases e111
       replace p111 := eq_true p111
       replace q111 := eq_true q111
       have p112 : 0 ≤ (x5_1 : Int) := of_decide_eq_true (by first | (with_reducible assumption) | assumption)
       have q112 : x5_1 < (l0.length : Int) := of_decide_eq_true (by first | (with_reducible assumption) | assumption)
       obtain ⟨ad112, e112, hx112_0⟩ := Kd.at_int (Kd.R_reads' HO_0.out).2.2 x5_1 p112 q112
       obtain rfl : ad111 = ad112 := (by injection e112)
       replace p112 := eq_true p112
       replace q112 := eq_true q112
       go_wp2
       go_ret
       exact ⟨_, by first | rfl | (simp [errW_none, errW_some] <;> rfl) | (simp [*, errW_none, errW_some] <;> rfl), by (with_reducible repeat (first | apply Kd.R_alloc | apply Kd.R_drewN | apply Kd.R_drew)); exact HO_0.out, by repeat (first | (with_reducible first | exact HB.out | apply below_alloc | apply pw_below_drewN | apply below_drew1) | exact HB.out), by repeat (first | (with_reducible first | exact HK.out | apply Kept.alloc | apply Kept.drewN | apply Kept.drew) | exact HK.out)⟩
      ·
       rw [if_neg c7] at H
       have c7b0 : ((rd l0 x5_1) == a1) = false := beq_eq_false_iff_ne.mpr c7
       have c7b1 : ((rd l0 x5_1) != a1) = true := bne_iff_ne.mpr c7
       obtain ⟨y113, hy113⟩ : ∃ y_ : List Int, y_ = (([] : List Int)) := ⟨_, rfl⟩
       replace H : (if x5_1 ≤ (l0.length : Int) then ((some (l0.take (x5_1 : Int).toNat : List Int)).bind fun y116 => (if y113.length + y116.length < 17592186044416 then ((some (y113 ++ y116 : List Int)).bind fun y120 => (if y120.length < 17592186044416 then ((some (y120 ++ [a1] : List Int)).bind fun y123 => ((some (l0.drop (x5_1 : Int).toNat : List Int)).bind fun y126 => (if y123.length + y126.length < 17592186044416 then (some (y123 ++ y126)) else (none)))) else (none))) else (none))) else (none)) = some r := by first | (rw [hy113]; with_reducible exact H) | (have H2_ := (Option.bind_some _ _).symm.trans H; rw [hy113]; with_reducible exact H2_) | (have H2_ := (Option.bind_some _ _).symm.trans H; with_reducible exact H2_) | with_reducible exact H | (rw [hy113]; exact H) | exact H
       have Ny113 := Aside0.mk hy113
       clear hy113
       have c9b0 := eq_true (of_decide_eq_true (by first | (with_reducible assumption) | assumption) : 0 ≤ x5_1)
       by_cases c10 : x5_1 ≤ (l0.length : Int)
       ·
        rw [if_pos c10] at H
        have c10b0 := eq_true c10
        have c10b1 : decide (x5_1 ≤ (l0.length : Int)) = true := decide_eq_true c10
        clear c10
        obtain ⟨y116, hy116⟩ : ∃ y_ : List Int, y_ = (l0.take (x5_1 : Int).toNat) := ⟨_, rfl⟩
        replace H : (if y113.length + y116.length < 17592186044416 then ((some (y113 ++ y116 : List Int)).bind fun y120 => (if y120.length < 17592186044416 then ((some (y120 ++ [a1] : List Int)).bind fun y123 => ((some (l0.drop (x5_1 : Int).toNat : List Int)).bind fun y126 => (if y123.length + y126.length < 17592186044416 then (some (y123 ++ y126)) else (none)))) else (none))) else (none)) = some r := by first | (rw [hy116]; with_reducible exact H) | (have H2_ := (Option.bind_some _ _).symm.trans H; rw [hy116]; with_reducible exact H2_) | (have H2_ := (Option.bind_some _ _).symm.trans H; with_reducible exact H2_) | with_reducible exact H | (rw [hy116]; exact H) | exact H
        have Ny116 := Aside0.mk hy116
        clear hy116
        by_cases c11 : y113.length + y116.length < 17592186044416
        ·
         rw [if_pos c11] at H
         have LMc11 := Aside0.mk c11
         clear c11
         obtain ⟨y120, hy120⟩ : ∃ y_ : List Int, y_ = (y113 ++ y116) := ⟨_, rfl⟩
         replace H : (if y120.length < 17592186044416 then ((some (y120 ++ [a1] : List Int)).bind fun y123 => ((some (l0.drop (x5_1 : Int).toNat : List Int)).bind fun y126 => (if y123.length + y126.length < 17592186044416 then (some (y123 ++ y126)) else (none)))) else (none)) = some r := by first | (rw [hy120]; with_reducible exact H) | (have H2_ := (Option.bind_some _ _).symm.trans H; rw [hy120]; with_reducible exact H2_) | (have H2_ := (Option.bind_some _ _).symm.trans H; with_reducible exact H2_) | with_reducible exact H | (rw [hy120]; exact H) | exact H
         have Ny120 := Aside0.mk hy120
         clear hy120
         by_cases c12 : y120.length < 17592186044416
         ·
          rw [if_pos c12] at H
          have LMc12 := Aside0.mk c12
          clear c12
          obtain ⟨y123, hy123⟩ : ∃ y_ : List Int, y_ = (y120 ++ [a1]) := ⟨_, rfl⟩
          replace H : ((some (l0.drop (x5_1 : Int).toNat : List Int)).bind fun y126 => (if y123.length + y126.length < 17592186044416 then (some (y123 ++ y126)) else (none))) = some r := by first | (rw [hy123]; with_reducible exact H) | (have H2_ := (Option.bind_some _ _).symm.trans H; rw [hy123]; with_reducible exact H2_) | (have H2_ := (Option.bind_some _ _).symm.trans H; with_reducible exact H2_) | with_reducible exact H | (rw [hy123]; exact H) | exact H
          have Ny123 := Aside0.mk hy123
          clear hy123
          have c13b0 := eq_true (of_decide_eq_true (by first | (with_reducible assumption) | assumption) : 0 ≤ x5_1)
          have c14b0 := eq_true (of_decide_eq_true (by first | (with_reducible assumption) | assumption) : x5_1 ≤ (l0.length : Int))
          obtain ⟨y126, hy126⟩ : ∃ y_ : List Int, y_ = (l0.drop (x5_1 : Int).toNat) := ⟨_, rfl⟩
          replace H : (if y123.length + y126.length < 17592186044416 then (some (y123 ++ y126)) else (none)) = some r := by first | (rw [hy126]; with_reducible exact H) | (have H2_ := (Option.bind_some _ _).symm.trans H; rw [hy126]; with_reducible exact H2_) | (have H2_ := (Option.bind_some _ _).symm.trans H; with_reducible exact H2_) | with_reducible exact H | (rw [hy126]; exact H) | exact H
          have Ny126 := Aside0.mk hy126
          clear hy126
          by_cases c15 : y123.length + y126.length < 17592186044416
          ·
           rw [if_pos c15] at H
           have LMc15 := Aside0.mk c15
           clear c15
           obtain ⟨y130, hy130⟩ : ∃ y_ : List Int, y_ = (y123 ++ y126) := ⟨_, rfl⟩
           replace H : (some y130) = some r := by first | (rw [hy130]; with_reducible exact H) | (have H2_ := (Option.bind_some _ _).symm.trans H; rw [hy130]; with_reducible exact H2_) | (have H2_ := (Option.bind_some _ _).symm.trans H; with_reducible exact H2_) | with_reducible exact H | (rw [hy130]; exact H) | exact H
           have Ny130 := Aside0.mk hy130
           clear hy130
           obtain rfl := Option.some.inj H
           obtain ⟨Ao16, co16, eo16⟩ := Kd.R_slice HO_0.out
           subst eo16
           have p111 : 0 ≤ (x5_1 : Int) := of_decide_eq_true (by first | (with_reducible assumption) | assumption)
           have q111 : x5_1 < (l0.length : Int) := of_decide_eq_true (by first | (with_reducible assumption) | assumption)
           obtain ⟨ad111, e111, hx111_0⟩ := Kd.at_int (Kd.R_reads' HO_0.out).2.2 x5_1 p111 q111
           cases e111
           replace p111 := eq_true p111
           replace q111 := eq_true q111
           have p112 : 0 ≤ (x5_1 : Int) := of_decide_eq_true (by first | (with_reducible assumption) | assumption)
           have q112 : x5_1 < (l0.length : Int) := of_decide_eq_true (by first | (with_reducible assumption) | assumption)
           obtain ⟨ad112, e112, hx112_0⟩ := Kd.at_int (Kd.R_reads' HO_0.out).2.2 x5_1 p112 q112
           obtain rfl : ad111 = ad112 := (by injection e112)
           replace p112 := eq_true p112
           replace q112 := eq_true q112
           go_wp2_with (first | ((with_reducible refine gate_dst (N := 34) rfl ?_); refine Kd.R_lit (Kd.int .i64) _ 2 ?hg (N := 34) ?hd (xs := ([] : List Int)) (inner := []) (ok := fun _ => True) (okp := fun _ => True) ?hr ?hp (fun _ hk => hk) trivial (Below.refl _ _) (Nat.le_refl _) (by simp) ?_; (case hd => rfl); (case hg => rfl); (case hr => first | (go_simp; done) | (go_simp; rfl)); (case hp => exact (Reps.none _ _)); intro v114 w17 ho18 hb hg_ hnew_; clear hg_ hnew_; (first | rw [← Ny113.out] at ho18 | (simp only [Int.reduceToNat] at ho18; rw [← Ny113.out] at ho18)); have n0_ := Aside0.mk (Kd.R_elder' HO_0.out (Kd.R_base ho18) hb); have n1_ := Aside0.mk (Kd.R_lower (Kd.R_new' (Kd.R_newM (M := fun k_ => (P0_ k_ ∨ w.heap.size ≤ k_)) ho18 (by first | exact HK.out.1 | exact (show Kept w _ (fun k_ => P0_ k_) from by repeat (first | (with_reducible first | exact HK.out | apply Kept.alloc | apply Kept.drewN | apply Kept.drew) | exact HK.out)).1) (fun k_ h_ => .inr h_)) (Kd.R_lt HO_0.out)) (below_size HB.out)); have n2_ := Aside0.mk (Kept.below (S := (fun k_ => P0_ k_)) HK.out hb); have n3_ := Aside0.mk (below_step HB.out hb); clear HO_0; clear HK; clear HB; have HO_0 := n0_; have HO115 := n1_; have HK := n2_; have HB := n3_; clear n0_ n1_ n2_ n3_; clear hb ho18; have q19 : (x5_1 : Int) ≤ ((l0.length : Int) : Int) := of_decide_eq_true (by first | (with_reducible assumption) | assumption); obtain ⟨i019, hi019, _, hsz19, _⟩ := info_parts info2; have hroom19 : l0.length ≤ co16 := (Kd.R_reads' HO_0.out).2.1; have hC19 : Kd.C (Kd.int .i64) _ (some ad111) l0.length l0 := (Kd.R_reads' HO_0.out).2.2; have hcut19 := cut_to (P := Try.prog) 34 2 .i64 Try.underlying34 hi019 (some ad111) l0.length co16 x5_1 (of_decide_eq_true (by first | (with_reducible assumption) | assumption)) q19 hroom19; have hr19 := Kd.C_take (m := (x5_1 : Int).toNat) hC19 (by omega); have hy19 : y116.length = (x5_1 : Int).toNat := (by rw [Ny116.out, List.length_take]; omega); rw [← Ny116.out] at hr19; rw [← hy19] at hcut19; have HR119 := Aside0.mk hr19; have HC119 := Aside0.mk (show y116.length ≤ co16 from by omega); clear hr19 hC19 hroom19 hi019 hsz19; have KY19 := Aside0.mk hy19; clear hy19; have KL19 := Aside0.mk (show (x5_1 : Int).toNat ≤ l0.length from by omega); replace q19 := eq_true q19) | ((with_reducible refine gate_builtin (b := .append) (xs := #[.tmp 34, .tmp 37]) rfl ?_); at_builtin; refine Kd.R_append_rows (Kd.int .i64) (w0 := w0) w0.heap.size rfl (.tmp 34) (.tmp 37) 34 2 (.int .i64 0) 8 rfl Try.underlying34 info2 rfl (by decide) (by omega) v114 y113 y116 _ _ _ (fun k_ => (P0_ k_ ∨ w.heap.size ≤ k_) ∧ some k_ ≠ (.slice (some ad111) l0.length co16 : Value).ownBlock) (fun _ => False) rfl rfl ?aO ?aR (fun _ _ h => h) (fun _ h => h.elim) ?aF ?aB ?aS ?aL ?_; (case aR => repeat (first | exact (by repeat (first | (with_reducible exact HR119.out) | (with_reducible refine Kd.C_alloc ?_ _) | (with_reducible refine Kd.C_drewN ?_ _) | (with_reducible refine Kd.C_drew ?_) | exact HR119.out)) | (with_reducible refine Kd.C_alloc ?_ _) | (with_reducible refine Kd.C_drewN ?_ _) | (with_reducible refine Kd.C_drew ?_))); (case aB => exact HB.out); (case aF => exact (fun k_ hk => ⟨(.inr (Nat.le_trans (by first | exact HK.out.1 | exact (show Kept w _ (fun k_ => P0_ k_) from by repeat (first | (with_reducible first | exact HK.out | apply Kept.alloc | apply Kept.drewN | apply Kept.drew) | exact HK.out)).1) hk)), Kd.fresh' (Kd.R_lt HO_0.out) k_ hk⟩)); (case aO => exact (Kd.R_mono HO115.out (fun _ hk => ⟨hk.1.1, hk.2⟩))); (case aS => exact (below_size HB.out)); (case aL => have := LMc11.out; omega); intro v121 w20 ho hb hg hat; rw [← Ny120.out] at ho; have n0_ := Aside0.mk (Kd.R_after (ok := (fun k_ => (P0_ k_ ∨ w.heap.size ≤ k_))) HO_0.out hg hat); have n1_ := Aside0.mk (hb); have n2_ := Aside0.mk (Kept.of_grown (S := (fun k_ => P0_ k_)) hg HK.out (fun k_ e_ => (HO115.out.1 k_ e_).1.1)); have n3_ := Aside0.mk ((show Kd.C (Kd.int .i64) w20 (some ad111) y116.length y116 from by rw [Ny116.out]; exact Kd.C_take (m := (x5_1 : Int).toNat) ((Kd.R_reads' (Kd.R_after (ok := (fun k_ => (P0_ k_ ∨ w.heap.size ≤ k_))) HO_0.out hg hat)).2.2) KL19.out)); have n4_ := Aside0.mk (ho); clear HO_0; clear HB; clear HK; clear HR119; clear HO115; have HO_0 := n0_; have HB := n1_; have HK := n2_; have HR119 := n3_; have HO122 := n4_; clear n0_ n1_ n2_ n3_ n4_; clear ho hb hg hat) | ((with_reducible refine gate_builtin (b := .append) (xs := #[.tmp 39, .tmp 41]) rfl ?_); at_builtin; refine Kd.R_append (Kd.int .i64) (w0 := w0) w0.heap.size rfl (.tmp 39) (.tmp 41) 34 2 (.int .i64 0) 8 rfl Try.underlying34 info2 rfl (by decide) (by omega) v121 y120 a1 [.int .i64 a1] (fun k_ => (P0_ k_ ∨ w.heap.size ≤ k_) ∧ some k_ ≠ (.slice (some ad111) l0.length co16 : Value).ownBlock) (fun _ => False) rfl rfl ?aP (fun _ hk => hk.elim) ?aF ?aO ?aB ?aS ?aL ?_; (case aP => exact rfl); (case aB => exact HB.out); (case aF => exact (fun k_ hk => ⟨(.inr (Nat.le_trans (by first | exact HK.out.1 | exact (show Kept w _ (fun k_ => P0_ k_) from by repeat (first | (with_reducible first | exact HK.out | apply Kept.alloc | apply Kept.drewN | apply Kept.drew) | exact HK.out)).1) hk)), Kd.fresh' (Kd.R_lt HO_0.out) k_ hk⟩)); (case aO => exact HO122.out); (case aS => exact (below_size HB.out)); (case aL => have := LMc12.out; omega); intro v124 w21 ho hb hg hat; rw [← Ny123.out] at ho; have n0_ := Aside0.mk (Kd.R_after (ok := (fun k_ => (P0_ k_ ∨ w.heap.size ≤ k_))) HO_0.out hg hat); have n1_ := Aside0.mk (hb); have n2_ := Aside0.mk (Kept.of_grown (S := (fun k_ => P0_ k_)) hg HK.out (fun k_ e_ => (HO122.out.1 k_ e_).1)); have n3_ := Aside0.mk ((show Kd.C (Kd.int .i64) w21 (some ad111) y116.length y116 from by rw [Ny116.out]; exact Kd.C_take (m := (x5_1 : Int).toNat) ((Kd.R_reads' (Kd.R_after (ok := (fun k_ => (P0_ k_ ∨ w.heap.size ≤ k_))) HO_0.out hg hat)).2.2) KL19.out)); have n4_ := Aside0.mk (ho); clear HO_0; clear HB; clear HK; clear HR119; clear HO122; have HO_0 := n0_; have HB := n1_; have HK := n2_; have HR119 := n3_; have HO125 := n4_; clear n0_ n1_ n2_ n3_ n4_; clear ho hb hg hat; have q22 : (x5_1 : Int) ≤ ((l0.length : Int) : Int) := of_decide_eq_true (by first | (with_reducible assumption) | assumption); obtain ⟨i022, hi022, _, hsz22, _⟩ := info_parts info2; have hroom22 : l0.length ≤ co16 := (Kd.R_reads' HO_0.out).2.1; have hC22 : Kd.C (Kd.int .i64) _ (some ad111) l0.length l0 := (Kd.R_reads' HO_0.out).2.2; have q022 : (0 : Int) ≤ (x5_1 : Int) := of_decide_eq_true (by first | (with_reducible assumption) | assumption); have hcut22 := cut_from (P := Try.prog) 34 2 .i64 Try.underlying34 hi022 1 hsz22 (some ad111) l0.length co16 x5_1 q022 q22; have hr22 := Kd.C_drop (m := (x5_1 : Int).toNat) (c := co16) hC22 (by omega) hroom22; obtain ⟨A22, hA22⟩ : ∃ A1, A1 = (if co16 = (x5_1 : Int).toNat then (some ad111) else ((some ad111) : Option Addr).map (·.add ((x5_1 : Int).toNat * 1))) := ⟨_, rfl⟩; obtain ⟨c22, hc22⟩ : ∃ c1, c1 = co16 - (x5_1 : Int).toNat := ⟨_, rfl⟩; have hy22 : y126.length = l0.length - (x5_1 : Int).toNat := (by rw [Ny126.out, List.length_drop] <;> omega); rw [show (l0).drop (x5_1 : Int).toNat = y126 from Ny126.out.symm] at hr22; replace hr22 : Kd.C (Kd.int .i64) _ A22 y126.length y126 := (by rw [hA22]; exact hr22); rw [← hy22, ← hA22, ← hc22] at hcut22; have HR129 := Aside0.mk hr22; have HC129 := Aside0.mk (show y126.length ≤ c22 from by rw [hy22, hc22]; exact Nat.sub_le_sub_right hroom22 _); clear hr22 hC22 hroom22 hi022 hsz22 hc22; have KY22 := Aside0.mk hy22; have KA22 := Aside0.mk hA22; clear hy22 hA22; have KL22 := Aside0.mk (show (x5_1 : Int).toNat ≤ l0.length from by omega); replace q22 := eq_true q22) | ((with_reducible refine gate_builtin (b := .append) (xs := #[.tmp 43, .tmp 46]) rfl ?_); at_builtin; refine Kd.R_append_rows (Kd.int .i64) (w0 := w0) w0.heap.size rfl (.tmp 43) (.tmp 46) 34 2 (.int .i64 0) 8 rfl Try.underlying34 info2 rfl (by decide) (by omega) v124 y123 y126 _ _ _ (fun k_ => (P0_ k_ ∨ w.heap.size ≤ k_) ∧ some k_ ≠ (.slice (some ad111) l0.length co16 : Value).ownBlock) (fun _ => False) rfl rfl ?aO ?aR (fun _ _ h => h) (fun _ h => h.elim) ?aF ?aB ?aS ?aL ?_; (case aR => repeat (first | exact (by repeat (first | (with_reducible exact HR129.out) | (with_reducible refine Kd.C_alloc ?_ _) | (with_reducible refine Kd.C_drewN ?_ _) | (with_reducible refine Kd.C_drew ?_) | exact HR129.out)) | (with_reducible refine Kd.C_alloc ?_ _) | (with_reducible refine Kd.C_drewN ?_ _) | (with_reducible refine Kd.C_drew ?_))); (case aB => exact HB.out); (case aF => exact (fun k_ hk => ⟨(.inr (Nat.le_trans (by first | exact HK.out.1 | exact (show Kept w _ (fun k_ => P0_ k_) from by repeat (first | (with_reducible first | exact HK.out | apply Kept.alloc | apply Kept.drewN | apply Kept.drew) | exact HK.out)).1) hk)), Kd.fresh' (Kd.R_lt HO_0.out) k_ hk⟩)); (case aO => exact HO125.out); (case aS => exact (below_size HB.out)); (case aL => have := LMc15.out; omega); intro v131 w23 ho hb hg hat; rw [← Ny130.out] at ho; have n0_ := Aside0.mk (Kd.R_after (ok := (fun k_ => (P0_ k_ ∨ w.heap.size ≤ k_))) HO_0.out hg hat); have n1_ := Aside0.mk (hb); have n2_ := Aside0.mk (Kept.of_grown (S := (fun k_ => P0_ k_)) hg HK.out (fun k_ e_ => (HO125.out.1 k_ e_).1)); have n3_ := Aside0.mk ((show Kd.C (Kd.int .i64) w23 (some ad111) y116.length y116 from by rw [Ny116.out]; exact Kd.C_take (m := (x5_1 : Int).toNat) ((Kd.R_reads' (Kd.R_after (ok := (fun k_ => (P0_ k_ ∨ w.heap.size ≤ k_))) HO_0.out hg hat)).2.2) KL19.out)); have n4_ := Aside0.mk ((show Kd.C (Kd.int .i64) w23 A22 y126.length y126 from by rw [Ny126.out, KA22.out]; exact Kd.C_drop (m := (x5_1 : Int).toNat) (c := co16) ((Kd.R_reads' (Kd.R_after (ok := (fun k_ => (P0_ k_ ∨ w.heap.size ≤ k_))) HO_0.out hg hat)).2.2) KL22.out ((Kd.R_reads' (Kd.R_after (ok := (fun k_ => (P0_ k_ ∨ w.heap.size ≤ k_))) HO_0.out hg hat)).2.1))); have n5_ := Aside0.mk (ho); clear HO_0; clear HB; clear HK; clear HR119; clear HR129; clear HO125; have HO_0 := n0_; have HB := n1_; have HK := n2_; have HR119 := n3_; have HR129 := n4_; have HO132 := n5_; clear n0_ n1_ n2_ n3_ n4_ n5_; clear ho hb hg hat))
           go_ret
           exact ⟨_, by first | rfl | (simp [errW_none, errW_some] <;> rfl) | (simp [*, errW_none, errW_some] <;> rfl), by (with_reducible repeat (first | apply Kd.R_alloc | apply Kd.R_drewN | apply Kd.R_drew)); exact Kd.R_mono HO132.out (fun _ hk => hk.1), by repeat (first | (with_reducible first | exact HB.out | apply below_alloc | apply pw_below_drewN | apply below_drew1) | exact HB.out), by repeat (first | (with_reducible first | exact HK.out | apply Kept.alloc | apply Kept.drewN | apply Kept.drew) | exact HK.out)⟩
          ·
           rw [if_neg c15] at H
           exact absurd H (by simp)
         ·
          rw [if_neg c12] at H
          exact absurd H (by simp)
        ·
         rw [if_neg c11] at H
         exact absurd H (by simp)
       ·
        rw [if_neg c10] at H
        exact absurd H (by simp)
    ·
     rw [if_neg c4] at H
     exact absurd H (by simp)
   ·
    rw [if_neg c3] at H
    have c3b0 : decide (x5_1 < (l0.length : Int)) = false := decide_eq_false c3
    clear c3
    obtain ⟨y133, hy133⟩ : ∃ y_ : List Int, y_ = (([] : List Int)) := ⟨_, rfl⟩
    replace H : (if 0 ≤ x5_1 then (if x5_1 ≤ (l0.length : Int) then ((some (l0.take (x5_1 : Int).toNat : List Int)).bind fun y136 => (if y133.length + y136.length < 17592186044416 then ((some (y133 ++ y136 : List Int)).bind fun y140 => (if y140.length < 17592186044416 then ((some (y140 ++ [a1] : List Int)).bind fun y143 => ((some (l0.drop (x5_1 : Int).toNat : List Int)).bind fun y146 => (if y143.length + y146.length < 17592186044416 then (some (y143 ++ y146)) else (none)))) else (none))) else (none))) else (none)) else (none)) = some r := by first | (rw [hy133]; with_reducible exact H) | (have H2_ := (Option.bind_some _ _).symm.trans H; rw [hy133]; with_reducible exact H2_) | (have H2_ := (Option.bind_some _ _).symm.trans H; with_reducible exact H2_) | with_reducible exact H | (rw [hy133]; exact H) | exact H
    have Ny133 := Aside0.mk hy133
    clear hy133
    by_cases c24 : 0 ≤ x5_1
    ·
     rw [if_pos c24] at H
     have c24b0 := eq_true c24
     have c24b1 : decide (0 ≤ x5_1) = true := decide_eq_true c24
     clear c24
     by_cases c25 : x5_1 ≤ (l0.length : Int)
     ·
      rw [if_pos c25] at H
      have c25b0 := eq_true c25
      have c25b1 : decide (x5_1 ≤ (l0.length : Int)) = true := decide_eq_true c25
      clear c25
      obtain ⟨y136, hy136⟩ : ∃ y_ : List Int, y_ = (l0.take (x5_1 : Int).toNat) := ⟨_, rfl⟩
      replace H : (if y133.length + y136.length < 17592186044416 then ((some (y133 ++ y136 : List Int)).bind fun y140 => (if y140.length < 17592186044416 then ((some (y140 ++ [a1] : List Int)).bind fun y143 => ((some (l0.drop (x5_1 : Int).toNat : List Int)).bind fun y146 => (if y143.length + y146.length < 17592186044416 then (some (y143 ++ y146)) else (none)))) else (none))) else (none)) = some r := by first | (rw [hy136]; with_reducible exact H) | (have H2_ := (Option.bind_some _ _).symm.trans H; rw [hy136]; with_reducible exact H2_) | (have H2_ := (Option.bind_some _ _).symm.trans H; with_reducible exact H2_) | with_reducible exact H | (rw [hy136]; exact H) | exact H
      have Ny136 := Aside0.mk hy136
      clear hy136
      by_cases c26 : y133.length + y136.length < 17592186044416
      ·
       rw [if_pos c26] at H
       have LMc26 := Aside0.mk c26
       clear c26
       obtain ⟨y140, hy140⟩ : ∃ y_ : List Int, y_ = (y133 ++ y136) := ⟨_, rfl⟩
       replace H : (if y140.length < 17592186044416 then ((some (y140 ++ [a1] : List Int)).bind fun y143 => ((some (l0.drop (x5_1 : Int).toNat : List Int)).bind fun y146 => (if y143.length + y146.length < 17592186044416 then (some (y143 ++ y146)) else (none)))) else (none)) = some r := by first | (rw [hy140]; with_reducible exact H) | (have H2_ := (Option.bind_some _ _).symm.trans H; rw [hy140]; with_reducible exact H2_) | (have H2_ := (Option.bind_some _ _).symm.trans H; with_reducible exact H2_) | with_reducible exact H | (rw [hy140]; exact H) | exact H
       have Ny140 := Aside0.mk hy140
       clear hy140
       by_cases c27 : y140.length < 17592186044416
       ·
        rw [if_pos c27] at H
        have LMc27 := Aside0.mk c27
        clear c27
        obtain ⟨y143, hy143⟩ : ∃ y_ : List Int, y_ = (y140 ++ [a1]) := ⟨_, rfl⟩
        replace H : ((some (l0.drop (x5_1 : Int).toNat : List Int)).bind fun y146 => (if y143.length + y146.length < 17592186044416 then (some (y143 ++ y146)) else (none))) = some r := by first | (rw [hy143]; with_reducible exact H) | (have H2_ := (Option.bind_some _ _).symm.trans H; rw [hy143]; with_reducible exact H2_) | (have H2_ := (Option.bind_some _ _).symm.trans H; with_reducible exact H2_) | with_reducible exact H | (rw [hy143]; exact H) | exact H
        have Ny143 := Aside0.mk hy143
        clear hy143
        have c28b0 := eq_true (of_decide_eq_true (by first | (with_reducible assumption) | assumption) : 0 ≤ x5_1)
        have c29b0 := eq_true (of_decide_eq_true (by first | (with_reducible assumption) | assumption) : x5_1 ≤ (l0.length : Int))
        obtain ⟨y146, hy146⟩ : ∃ y_ : List Int, y_ = (l0.drop (x5_1 : Int).toNat) := ⟨_, rfl⟩
        replace H : (if y143.length + y146.length < 17592186044416 then (some (y143 ++ y146)) else (none)) = some r := by first | (rw [hy146]; with_reducible exact H) | (have H2_ := (Option.bind_some _ _).symm.trans H; rw [hy146]; with_reducible exact H2_) | (have H2_ := (Option.bind_some _ _).symm.trans H; with_reducible exact H2_) | with_reducible exact H | (rw [hy146]; exact H) | exact H
        have Ny146 := Aside0.mk hy146
        clear hy146
        by_cases c30 : y143.length + y146.length < 17592186044416
        ·
         rw [if_pos c30] at H
         have LMc30 := Aside0.mk c30
         clear c30
         obtain ⟨y150, hy150⟩ : ∃ y_ : List Int, y_ = (y143 ++ y146) := ⟨_, rfl⟩
         replace H : (some y150) = some r := by first | (rw [hy150]; with_reducible exact H) | (have H2_ := (Option.bind_some _ _).symm.trans H; rw [hy150]; with_reducible exact H2_) | (have H2_ := (Option.bind_some _ _).symm.trans H; with_reducible exact H2_) | with_reducible exact H | (rw [hy150]; exact H) | exact H
         have Ny150 := Aside0.mk hy150
         clear hy150
         obtain rfl := Option.some.inj H
         obtain ⟨Ao31, co31, eo31⟩ := Kd.R_slice HO_0.out
         subst eo31
         go_wp2_with (first | ((with_reducible refine gate_dst (N := 34) rfl ?_); refine Kd.R_lit (Kd.int .i64) _ 2 ?hg (N := 34) ?hd (xs := ([] : List Int)) (inner := []) (ok := fun _ => True) (okp := fun _ => True) ?hr ?hp (fun _ hk => hk) trivial (Below.refl _ _) (Nat.le_refl _) (by simp) ?_; (case hd => rfl); (case hg => rfl); (case hr => first | (go_simp; done) | (go_simp; rfl)); (case hp => exact (Reps.none _ _)); intro v134 w32 ho33 hb hg_ hnew_; clear hg_ hnew_; (first | rw [← Ny133.out] at ho33 | (simp only [Int.reduceToNat] at ho33; rw [← Ny133.out] at ho33)); have n0_ := Aside0.mk (Kd.R_elder' HO_0.out (Kd.R_base ho33) hb); have n1_ := Aside0.mk (Kd.R_lower (Kd.R_new' (Kd.R_newM (M := fun k_ => (P0_ k_ ∨ w.heap.size ≤ k_)) ho33 (by first | exact HK.out.1 | exact (show Kept w _ (fun k_ => P0_ k_) from by repeat (first | (with_reducible first | exact HK.out | apply Kept.alloc | apply Kept.drewN | apply Kept.drew) | exact HK.out)).1) (fun k_ h_ => .inr h_)) (Kd.R_lt HO_0.out)) (below_size HB.out)); have n2_ := Aside0.mk (Kept.below (S := (fun k_ => P0_ k_)) HK.out hb); have n3_ := Aside0.mk (below_step HB.out hb); clear HO_0; clear HK; clear HB; have HO_0 := n0_; have HO135 := n1_; have HK := n2_; have HB := n3_; clear n0_ n1_ n2_ n3_; clear hb ho33; have q34 : (x5_1 : Int) ≤ ((l0.length : Int) : Int) := of_decide_eq_true (by first | (with_reducible assumption) | assumption); obtain ⟨i034, hi034, _, hsz34, _⟩ := info_parts info2; have hroom34 : l0.length ≤ co31 := (Kd.R_reads' HO_0.out).2.1; have hC34 : Kd.C (Kd.int .i64) _ Ao31 l0.length l0 := (Kd.R_reads' HO_0.out).2.2; have hcut34 := cut_to (P := Try.prog) 34 2 .i64 Try.underlying34 hi034 Ao31 l0.length co31 x5_1 (of_decide_eq_true (by first | (with_reducible assumption) | assumption)) q34 hroom34; have hr34 := Kd.C_take (m := (x5_1 : Int).toNat) hC34 (by omega); have hy34 : y136.length = (x5_1 : Int).toNat := (by rw [Ny136.out, List.length_take]; omega); rw [← Ny136.out] at hr34; rw [← hy34] at hcut34; have HR139 := Aside0.mk hr34; have HC139 := Aside0.mk (show y136.length ≤ co31 from by omega); clear hr34 hC34 hroom34 hi034 hsz34; have KY34 := Aside0.mk hy34; clear hy34; have KL34 := Aside0.mk (show (x5_1 : Int).toNat ≤ l0.length from by omega); replace q34 := eq_true q34) | ((with_reducible refine gate_builtin (b := .append) (xs := #[.tmp 34, .tmp 37]) rfl ?_); at_builtin; refine Kd.R_append_rows (Kd.int .i64) (w0 := w0) w0.heap.size rfl (.tmp 34) (.tmp 37) 34 2 (.int .i64 0) 8 rfl Try.underlying34 info2 rfl (by decide) (by omega) v134 y133 y136 _ _ _ (fun k_ => (P0_ k_ ∨ w.heap.size ≤ k_) ∧ some k_ ≠ (.slice Ao31 l0.length co31 : Value).ownBlock) (fun _ => False) rfl rfl ?aO ?aR (fun _ _ h => h) (fun _ h => h.elim) ?aF ?aB ?aS ?aL ?_; (case aR => repeat (first | exact (by repeat (first | (with_reducible exact HR139.out) | (with_reducible refine Kd.C_alloc ?_ _) | (with_reducible refine Kd.C_drewN ?_ _) | (with_reducible refine Kd.C_drew ?_) | exact HR139.out)) | (with_reducible refine Kd.C_alloc ?_ _) | (with_reducible refine Kd.C_drewN ?_ _) | (with_reducible refine Kd.C_drew ?_))); (case aB => exact HB.out); (case aF => exact (fun k_ hk => ⟨(.inr (Nat.le_trans (by first | exact HK.out.1 | exact (show Kept w _ (fun k_ => P0_ k_) from by repeat (first | (with_reducible first | exact HK.out | apply Kept.alloc | apply Kept.drewN | apply Kept.drew) | exact HK.out)).1) hk)), Kd.fresh' (Kd.R_lt HO_0.out) k_ hk⟩)); (case aO => exact (Kd.R_mono HO135.out (fun _ hk => ⟨hk.1.1, hk.2⟩))); (case aS => exact (below_size HB.out)); (case aL => have := LMc26.out; omega); intro v141 w35 ho hb hg hat; rw [← Ny140.out] at ho; have n0_ := Aside0.mk (Kd.R_after (ok := (fun k_ => (P0_ k_ ∨ w.heap.size ≤ k_))) HO_0.out hg hat); have n1_ := Aside0.mk (hb); have n2_ := Aside0.mk (Kept.of_grown (S := (fun k_ => P0_ k_)) hg HK.out (fun k_ e_ => (HO135.out.1 k_ e_).1.1)); have n3_ := Aside0.mk ((show Kd.C (Kd.int .i64) w35 Ao31 y136.length y136 from by rw [Ny136.out]; exact Kd.C_take (m := (x5_1 : Int).toNat) ((Kd.R_reads' (Kd.R_after (ok := (fun k_ => (P0_ k_ ∨ w.heap.size ≤ k_))) HO_0.out hg hat)).2.2) KL34.out)); have n4_ := Aside0.mk (ho); clear HO_0; clear HB; clear HK; clear HR139; clear HO135; have HO_0 := n0_; have HB := n1_; have HK := n2_; have HR139 := n3_; have HO142 := n4_; clear n0_ n1_ n2_ n3_ n4_; clear ho hb hg hat) | ((with_reducible refine gate_builtin (b := .append) (xs := #[.tmp 39, .tmp 41]) rfl ?_); at_builtin; refine Kd.R_append (Kd.int .i64) (w0 := w0) w0.heap.size rfl (.tmp 39) (.tmp 41) 34 2 (.int .i64 0) 8 rfl Try.underlying34 info2 rfl (by decide) (by omega) v141 y140 a1 [.int .i64 a1] (fun k_ => (P0_ k_ ∨ w.heap.size ≤ k_) ∧ some k_ ≠ (.slice Ao31 l0.length co31 : Value).ownBlock) (fun _ => False) rfl rfl ?aP (fun _ hk => hk.elim) ?aF ?aO ?aB ?aS ?aL ?_; (case aP => exact rfl); (case aB => exact HB.out); (case aF => exact (fun k_ hk => ⟨(.inr (Nat.le_trans (by first | exact HK.out.1 | exact (show Kept w _ (fun k_ => P0_ k_) from by repeat (first | (with_reducible first | exact HK.out | apply Kept.alloc | apply Kept.drewN | apply Kept.drew) | exact HK.out)).1) hk)), Kd.fresh' (Kd.R_lt HO_0.out) k_ hk⟩)); (case aO => exact HO142.out); (case aS => exact (below_size HB.out)); (case aL => have := LMc27.out; omega); intro v144 w36 ho hb hg hat; rw [← Ny143.out] at ho; have n0_ := Aside0.mk (Kd.R_after (ok := (fun k_ => (P0_ k_ ∨ w.heap.size ≤ k_))) HO_0.out hg hat); have n1_ := Aside0.mk (hb); have n2_ := Aside0.mk (Kept.of_grown (S := (fun k_ => P0_ k_)) hg HK.out (fun k_ e_ => (HO142.out.1 k_ e_).1)); have n3_ := Aside0.mk ((show Kd.C (Kd.int .i64) w36 Ao31 y136.length y136 from by rw [Ny136.out]; exact Kd.C_take (m := (x5_1 : Int).toNat) ((Kd.R_reads' (Kd.R_after (ok := (fun k_ => (P0_ k_ ∨ w.heap.size ≤ k_))) HO_0.out hg hat)).2.2) KL34.out)); have n4_ := Aside0.mk (ho); clear HO_0; clear HB; clear HK; clear HR139; clear HO142; have HO_0 := n0_; have HB := n1_; have HK := n2_; have HR139 := n3_; have HO145 := n4_; clear n0_ n1_ n2_ n3_ n4_; clear ho hb hg hat; have q37 : (x5_1 : Int) ≤ ((l0.length : Int) : Int) := of_decide_eq_true (by first | (with_reducible assumption) | assumption); obtain ⟨i037, hi037, _, hsz37, _⟩ := info_parts info2; have hroom37 : l0.length ≤ co31 := (Kd.R_reads' HO_0.out).2.1; have hC37 : Kd.C (Kd.int .i64) _ Ao31 l0.length l0 := (Kd.R_reads' HO_0.out).2.2; have q037 : (0 : Int) ≤ (x5_1 : Int) := of_decide_eq_true (by first | (with_reducible assumption) | assumption); have hcut37 := cut_from (P := Try.prog) 34 2 .i64 Try.underlying34 hi037 1 hsz37 Ao31 l0.length co31 x5_1 q037 q37; have hr37 := Kd.C_drop (m := (x5_1 : Int).toNat) (c := co31) hC37 (by omega) hroom37; obtain ⟨A37, hA37⟩ : ∃ A1, A1 = (if co31 = (x5_1 : Int).toNat then Ao31 else (Ao31 : Option Addr).map (·.add ((x5_1 : Int).toNat * 1))) := ⟨_, rfl⟩; obtain ⟨c37, hc37⟩ : ∃ c1, c1 = co31 - (x5_1 : Int).toNat := ⟨_, rfl⟩; have hy37 : y146.length = l0.length - (x5_1 : Int).toNat := (by rw [Ny146.out, List.length_drop] <;> omega); rw [show (l0).drop (x5_1 : Int).toNat = y146 from Ny146.out.symm] at hr37; replace hr37 : Kd.C (Kd.int .i64) _ A37 y146.length y146 := (by rw [hA37]; exact hr37); rw [← hy37, ← hA37, ← hc37] at hcut37; have HR149 := Aside0.mk hr37; have HC149 := Aside0.mk (show y146.length ≤ c37 from by rw [hy37, hc37]; exact Nat.sub_le_sub_right hroom37 _); clear hr37 hC37 hroom37 hi037 hsz37 hc37; have KY37 := Aside0.mk hy37; have KA37 := Aside0.mk hA37; clear hy37 hA37; have KL37 := Aside0.mk (show (x5_1 : Int).toNat ≤ l0.length from by omega); replace q37 := eq_true q37) | ((with_reducible refine gate_builtin (b := .append) (xs := #[.tmp 43, .tmp 46]) rfl ?_); at_builtin; refine Kd.R_append_rows (Kd.int .i64) (w0 := w0) w0.heap.size rfl (.tmp 43) (.tmp 46) 34 2 (.int .i64 0) 8 rfl Try.underlying34 info2 rfl (by decide) (by omega) v144 y143 y146 _ _ _ (fun k_ => (P0_ k_ ∨ w.heap.size ≤ k_) ∧ some k_ ≠ (.slice Ao31 l0.length co31 : Value).ownBlock) (fun _ => False) rfl rfl ?aO ?aR (fun _ _ h => h) (fun _ h => h.elim) ?aF ?aB ?aS ?aL ?_; (case aR => repeat (first | exact (by repeat (first | (with_reducible exact HR149.out) | (with_reducible refine Kd.C_alloc ?_ _) | (with_reducible refine Kd.C_drewN ?_ _) | (with_reducible refine Kd.C_drew ?_) | exact HR149.out)) | (with_reducible refine Kd.C_alloc ?_ _) | (with_reducible refine Kd.C_drewN ?_ _) | (with_reducible refine Kd.C_drew ?_))); (case aB => exact HB.out); (case aF => exact (fun k_ hk => ⟨(.inr (Nat.le_trans (by first | exact HK.out.1 | exact (show Kept w _ (fun k_ => P0_ k_) from by repeat (first | (with_reducible first | exact HK.out | apply Kept.alloc | apply Kept.drewN | apply Kept.drew) | exact HK.out)).1) hk)), Kd.fresh' (Kd.R_lt HO_0.out) k_ hk⟩)); (case aO => exact HO145.out); (case aS => exact (below_size HB.out)); (case aL => have := LMc30.out; omega); intro v151 w38 ho hb hg hat; rw [← Ny150.out] at ho; have n0_ := Aside0.mk (Kd.R_after (ok := (fun k_ => (P0_ k_ ∨ w.heap.size ≤ k_))) HO_0.out hg hat); have n1_ := Aside0.mk (hb); have n2_ := Aside0.mk (Kept.of_grown (S := (fun k_ => P0_ k_)) hg HK.out (fun k_ e_ => (HO145.out.1 k_ e_).1)); have n3_ := Aside0.mk ((show Kd.C (Kd.int .i64) w38 Ao31 y136.length y136 from by rw [Ny136.out]; exact Kd.C_take (m := (x5_1 : Int).toNat) ((Kd.R_reads' (Kd.R_after (ok := (fun k_ => (P0_ k_ ∨ w.heap.size ≤ k_))) HO_0.out hg hat)).2.2) KL34.out)); have n4_ := Aside0.mk ((show Kd.C (Kd.int .i64) w38 A37 y146.length y146 from by rw [Ny146.out, KA37.out]; exact Kd.C_drop (m := (x5_1 : Int).toNat) (c := co31) ((Kd.R_reads' (Kd.R_after (ok := (fun k_ => (P0_ k_ ∨ w.heap.size ≤ k_))) HO_0.out hg hat)).2.2) KL37.out ((Kd.R_reads' (Kd.R_after (ok := (fun k_ => (P0_ k_ ∨ w.heap.size ≤ k_))) HO_0.out hg hat)).2.1))); have n5_ := Aside0.mk (ho); clear HO_0; clear HB; clear HK; clear HR139; clear HR149; clear HO145; have HO_0 := n0_; have HB := n1_; have HK := n2_; have HR139 := n3_; have HR149 := n4_; have HO152 := n5_; clear n0_ n1_ n2_ n3_ n4_ n5_; clear ho hb hg hat))
         go_ret
         exact ⟨_, by first | rfl | (simp [errW_none, errW_some] <;> rfl) | (simp [*, errW_none, errW_some] <;> rfl), by (with_reducible repeat (first | apply Kd.R_alloc | apply Kd.R_drewN | apply Kd.R_drew)); exact Kd.R_mono HO152.out (fun _ hk => hk.1), by repeat (first | (with_reducible first | exact HB.out | apply below_alloc | apply pw_below_drewN | apply below_drew1) | exact HB.out), by repeat (first | (with_reducible first | exact HK.out | apply Kept.alloc | apply Kept.drewN | apply Kept.drew) | exact HK.out)⟩
        ·
         rw [if_neg c30] at H
         exact absurd H (by simp)
       ·
        rw [if_neg c27] at H
        exact absurd H (by simp)
      ·
       rw [if_neg c26] at H
       exact absurd H (by simp)
     ·
      rw [if_neg c25] at H
      exact absurd H (by simp)
    ·
     rw [if_neg c24] at H
     exact absurd H (by simp)

/-! ### spec_Speakers: function 13 -/
def spec_Speakers.s1 (k : Nat) (x : List Int) (e : S55) : Option (List Int) := (spec_l02User.f e.f0.f2).bind fun b => if b = true then spec_l03Set.f k x e.f0.f2 else some x
def spec_Speakers.s2 (k : Nat) (x : List Int) (e : S55) : Option (List Int) := if e.f0.f3 = 2 then ((spec_l02User.f e.f0.f4).bind fun b => if b = true then spec_l03Set.f k x e.f0.f4 else some x) else some x
theorem spec_Speakers.s1_cases {k : Nat} {x y : List Int} {e : S55} (h : spec_Speakers.s1 k x e = some y) : (spec_l02User.f e.f0.f2 = some true ∧ spec_l03Set.f k x e.f0.f2 = some y) ∨ (spec_l02User.f e.f0.f2 = some false ∧ x = y) := by
  obtain ⟨b, h1, h2⟩ := Option.bind_eq_some_iff.mp h
  cases b with
  | true => exact .inl ⟨h1, h2⟩
  | false => exact .inr ⟨h1, Option.some.inj h2⟩
theorem spec_Speakers.s2_cases {k : Nat} {x y : List Int} {e : S55} (h : spec_Speakers.s2 k x e = some y) : (e.f0.f3 = 2 ∧ spec_l02User.f e.f0.f4 = some true ∧ spec_l03Set.f k x e.f0.f4 = some y) ∨ (e.f0.f3 = 2 ∧ spec_l02User.f e.f0.f4 = some false ∧ x = y) ∨ (e.f0.f3 ≠ 2 ∧ x = y) := by
  unfold spec_Speakers.s2 at h
  by_cases c : e.f0.f3 = 2
  · rw [if_pos c] at h
    obtain ⟨b, h1, h2⟩ := Option.bind_eq_some_iff.mp h
    cases b with
    | true => exact .inl ⟨c, h1, h2⟩
    | false => exact .inr (.inl ⟨c, h1, Option.some.inj h2⟩)
  · rw [if_neg c] at h
    exact .inr (.inr ⟨c, Option.some.inj h⟩)
theorem spec_Speakers.s1_mono (k : Nat) (x : List Int) (e : S55) : LeO (spec_Speakers.s1 k x e) (spec_Speakers.s1 (k + 1) x e) := LeO.bind (LeO.refl _) (fun _ => LeO.ite (spec_l03Set.mono _ _ _) (LeO.refl _))
theorem spec_Speakers.s2_mono (k : Nat) (x : List Int) (e : S55) : LeO (spec_Speakers.s2 k x e) (spec_Speakers.s2 (k + 1) x e) := LeO.ite (LeO.bind (LeO.refl _) (fun _ => LeO.ite (spec_l03Set.mono _ _ _) (LeO.refl _))) (LeO.refl _)
def spec_Speakers.l0 : Nat → List Int → List S55 → Int → Option (List Int)
  | 0, _, _, _ => none
  | k + 1, x3, l, x4 => if x4 < (l.length : Int) then (if 0 ≤ x4 then ((spec_Speakers.s1 k x3 (rd_T55 l x4)).bind fun y => ((spec_Speakers.s2 k y (rd_T55 l x4)).bind fun z => (spec_Speakers.l0 k z l (wrap64 (x4 + 1))))) else (none)) else some x3
def spec_Speakers.f (k : Nat) (a0_0 : Int) (l0_1 : List S47) (l0_2 : List S55) (a0_3 : Bool) (a0_4 : Int) : Option (List Int) := spec_Speakers.l0 k ([] : List Int) l0_2 0
theorem spec_Speakers.mono_l : ∀ k, (∀ y0 y1 y2, LeO (spec_Speakers.l0 k y0 y1 y2) (spec_Speakers.l0 (k + 1) y0 y1 y2))
  | 0 => fun _ _ _ r h => by simp [spec_Speakers.l0] at h
  | k + 1 => by
    have ih0 := spec_Speakers.mono_l k
    intro y0 y1 y2
    unfold spec_Speakers.l0
    exact LeO.ite (LeO.ite (LeO.bind (spec_Speakers.s1_mono _ _ _) (fun _ => LeO.bind (spec_Speakers.s2_mono _ _ _) (fun _ => ih0 _ _ _))) (LeO.refl _)) (LeO.refl _)
theorem spec_Speakers.mono : ∀ a0 a1 a2 a3 a4 k, LeO (spec_Speakers.f k a0 a1 a2 a3 a4) (spec_Speakers.f (k + 1) a0 a1 a2 a3 a4) := by
  intro a0 a1 a2 a3 a4 k
  exact spec_Speakers.mono_l k _ _ _
set_option maxHeartbeats 4000000 in
set_option maxRecDepth 100000 in
theorem spec_Speakers.calls (k : Nat) (a0_0 : Int) (A0_1 : Option Addr) (c0_1 : Nat) (l0_1 : List (S47)) (A0_2 : Option Addr) (c0_2 : Nat) (l0_2 : List (S55)) (a0_3 : Bool) (a0_4 : Int) (r : List Int) (w : World) (hr0_1 : Kd.C k47 w A0_1 l0_1.length l0_1) (hc0_1 : l0_1.length ≤ c0_1) (hr0_2 : Kd.C k55 w A0_2 l0_2.length l0_2) (hc0_2 : l0_2.length ≤ c0_2) (h : spec_Speakers.f k a0_0 l0_1 l0_2 a0_3 a0_4 = some r) :
    Calls Try.prog 13 #[.agg #[.int .i64 a0_0, .slice A0_1 l0_1.length c0_1, .slice A0_2 l0_2.length c0_2, .bool a0_3, .int .i64 a0_4]] w fun e w' => ∃ v0_ : Value, e = .returned (v0_) ∧ Kd.R (Kd.int .i64) 2 w' w.heap.size (fun _ => True) v0_ r ∧ Below w.heap.size w w' := by
  have hu38 := Try.underlying38
  have hu55 := Try.underlying55
  have hu53 := Try.underlying53
  have HR0_2 := Aside0.mk hr0_2
  clear hr0_1 hc0_1 hr0_2 hc0_2
  have HB := Aside0.mk (Below.refl w.heap.size w)
  have H' := Aside0.mk (show spec_Speakers.l0 k ([] : List Int) l0_2 0 = some r from h)
  clear h
  go_enter Try.func13, Try.ntmps13
  go_wp2_with (first | ((with_reducible refine gate_dst (N := 1) rfl ?_); refine box_event ?hg (N := 1) ?hd (cs := #[.int .i64 a0_0, .slice A0_1 l0_1.length c0_1, .slice A0_2 l0_2.length c0_2, .bool a0_3, .int .i64 a0_4]) (t := 38) ?hr ?_; (case hd => rfl); (case hg => rfl); (case hr => first | (go_simp; done) | (go_simp; rfl)); intro g1 hg w2 hbox hb; have n0_ := Aside0.mk (below_step HB.out hb); have BK1 := Aside0.mk (hbox); have GE1 := Aside0.mk ((by rw [hg]; exact (below_size HB.out)) : w.heap.size ≤ g1); clear HB; have HB := n0_; clear n0_; clear hb hbox hg) | ((with_reducible refine gate_dst (N := 6) rfl ?_); refine Kd.R_lit (Kd.int .i64) _ 2 ?hg (N := 6) ?hd (xs := ([] : List Int)) (inner := []) (ok := fun _ => True) (okp := fun _ => True) ?hr ?hp (fun _ hk => hk) trivial (Below.refl _ _) (Nat.le_refl _) (by simp) ?_; (case hd => rfl); (case hg => rfl); (case hr => first | (go_simp; done) | (go_simp; rfl)); (case hp => exact (Reps.none _ _)); intro v250 w3 ho4 hb hg_ hnew_; clear hg_ hnew_; have n0_ := Aside0.mk (Kd.R_lower ho4 (below_size HB.out)); have n1_ := Aside0.mk (blk_below BK1.out hb); have n2_ := Aside0.mk (below_step HB.out hb); clear BK1 HB; have HO := n0_; have BK1 := n1_; have HB := n2_; clear n0_ n1_ n2_; clear hb ho4))
  go_loopg [3, 4] k (fun kq v3 v4 w' => ∃ (x3_1 : List Int) (x4_1 : Int), v4 = .int .i64 x4_1 ∧ Aside0 (spec_Speakers.l0 kq x3_1 l0_2 x4_1 = some r) ∧ Aside0 (kq ≤ k) ∧ Aside0 (Kd.R (Kd.int .i64) 2 w' w.heap.size (fun _ => True) v3 x3_1) ∧ Aside0 (w'.heap[g1]? = some (.cells #[.int .i64 a0_0, .slice A0_1 l0_1.length c0_1, .slice A0_2 l0_2.length c0_2, .bool a0_3, .int .i64 a0_4] 38 (0, 0))) ∧ Aside0 (Below w.heap.size w w'))
  case atStart => exact ⟨[], (0), (by first | rfl | (simp; done) | (simp [*]; done)), H', ⟨Nat.le_refl _⟩, ⟨HO.out⟩, ⟨BK1.out⟩, ⟨HB.out⟩⟩
  case round =>
    clear H' HO BK1 HB
    obtain ⟨x3_1, x4_1, rfl, HA, HK1, HO, BK1, HB⟩ := hrel
    cases gk with
    | zero => exact absurd HA.out (by simp [spec_Speakers.l0])
    | succ k1 =>
      have H := HA.out
      clear HA
      simp only [spec_Speakers.l0] at H
      obtain ⟨⟨ha0_0, ha0_1, ha0_2, ha0_3, ha0_4⟩, hb0_0, hb0_1, hb0_2, hb0_3, hb0_4⟩ := cells_5 BK1.out
      by_cases c6 : x4_1 < (l0_2.length : Int)
      · rw [if_pos c6] at H
        by_cases c7 : 0 ≤ x4_1
        · rw [if_pos c7] at H
          obtain ⟨y, AS1, H⟩ := Option.bind_eq_some_iff.mp H
          obtain ⟨z, AS2, H⟩ := Option.bind_eq_some_iff.mp H
          have H' := Aside0.mk H
          clear H
          have c6b0 : decide (x4_1 < (l0_2.length : Int)) = true := decide_eq_true c6
          have c7b0 : decide (0 ≤ x4_1) = true := decide_eq_true c7
          obtain ⟨ad, A7, c7_, e_, hx_0, hx_1, hx_2, hx_3, hx_4, hx_5, hx_6, hx_7, hx_8, hx_9, hl7, hi7⟩ := at_T55 HR0_2.out x4_1 c7 c6
          cases e_
          clear hl7 hi7
          replace hx_0 := ce_ HB.out hx_0
          replace hx_1 := ce_ HB.out hx_1
          replace hx_2 := ce_ HB.out hx_2
          replace hx_3 := ce_ HB.out hx_3
          replace hx_4 := ce_ HB.out hx_4
          replace hx_5 := ce_ HB.out hx_5
          replace hx_6 := ce_ HB.out hx_6
          replace hx_7 := ce_ HB.out hx_7
          replace hx_8 := ce_ HB.out hx_8
          replace hx_9 := ce_ HB.out hx_9
          replace c6 := eq_true c6
          replace c7 := eq_true c7
          rcases spec_Speakers.s1_cases AS1 with ⟨u1, s1⟩ | ⟨u1, rfl⟩
          · have U1 := Aside0.mk u1
            have S1 := Aside0.mk s1
            clear s1
            clear u1 AS1
            rcases spec_Speakers.s2_cases AS2 with ⟨ck, u2, s2⟩ | ⟨ck, u2, rfl⟩ | ⟨ck, rfl⟩
            · clear AS2
              have c10b0 : ((rd_T55 l0_2 x4_1).f0.f3 == 2) = true := beq_iff_eq.mpr ck
              have U2 := Aside0.mk u2
              clear u2 ck
              have S2 := Aside0.mk s2
              clear s2
              go_wp2_with (first | ((with_reducible refine gate_dst (N := 5) rfl ?_); refine box_event ?hg (N := 5) ?hd (cs := #[.int .i64 0, .int .i64 0, .int .i64 0, .int .i64 0, .int .i64 0, .int .i64 0, .string (⟨#[]⟩ : ByteArray), .slice none 0 0, .int .i64 0]) (t := 53) ?hr ?_; (case hd => rfl); (case hg => rfl); (case hr => first | (go_simp; done) | (go_simp; rfl)); intro g2 hg w12 hbox hb; have n0_ := Aside0.mk (Kd.R_below HO.out hb); have n1_ := Aside0.mk (blk_below BK1.out hb); have n2_ := Aside0.mk (below_step HB.out hb); have BK2 := Aside0.mk (hbox); have GE2 := Aside0.mk ((by rw [hg]; exact (below_size HB.out)) : w.heap.size ≤ g2); have GL := Aside0.mk ((by rw [hg]; exact blk_lt BK1.out) : g1 < g2); clear HO BK1 HB; have HO := n0_; have BK1 := n1_; have HB := n2_; clear n0_ n1_ n2_; clear hb hbox hg; (try clear ha0_0 hb0_0 ha0_1 hb0_1 ha0_2 hb0_2 ha0_3 hb0_3 ha0_4 hb0_4); (try clear hc0_0 hd0_0 hc0_1 hd0_1 hc0_2 hd0_2 hc0_3 hd0_3 hc0_4 hd0_4 hc0_5 hd0_5 hc0_6 hd0_6 hc0_7 hd0_7 hc0_8 hd0_8); obtain ⟨⟨hc1_0, hc1_1, hc1_2, hc1_3, hc1_4, hc1_5, hc1_6, hc1_7, hc1_8⟩, hd1_0, hd1_1, hd1_2, hd1_3, hd1_4, hd1_5, hd1_6, hd1_7, hd1_8⟩ := cells_9 BK2.out; have nb12 : g1 ≠ g2 := Nat.ne_of_lt GL.out; have nb21 : g2 ≠ g1 := (Nat.ne_of_lt GL.out).symm; obtain ⟨⟨ha1_0, ha1_1, ha1_2, ha1_3, ha1_4⟩, hb1_0, hb1_1, hb1_2, hb1_3, hb1_4⟩ := cells_5 BK1.out) | ((with_reducible refine gate_callee (f := 28) rfl ?_); refine goesL_ (some 22) rfl rfl Try.func28 (by kernel_rfl) rfl #[.int .i64 (rd_T55 l0_2 x4_1).f0.f2] rfl (by (try simp only [List.map_toArray, List.map_cons, List.map_nil]); first | done | rfl) ?_; (try clear ha1_0 hb1_0 ha1_1 hb1_1 ha1_2 hb1_2 ha1_3 hb1_3 ha1_4 hb1_4); (try clear hc1_0 hd1_0 hc1_1 hd1_1 hc1_2 hd1_2 hc1_3 hd1_3 hc1_4 hd1_4 hc1_5 hd1_5 hc1_6 hd1_6 hc1_7 hd1_7 hc1_8 hd1_8); (try clear hx_0 hx_1 hx_2 hx_3 hx_4 hx_5 hx_6 hx_7 hx_8 hx_9); (obtain ⟨w101, hw⟩ : ∃ w_ : World, w_ = (((((((((w12.setCell ⟨g2, 0, none⟩ (.int .i64 (rd_T55 l0_2 x4_1).f0.f0)).setCell ⟨g2, 1, none⟩ (.int .i64 (rd_T55 l0_2 x4_1).f0.f1)).setCell ⟨g2, 2, none⟩ (.int .i64 (rd_T55 l0_2 x4_1).f0.f2)).setCell ⟨g2, 3, none⟩ (.int .i64 (rd_T55 l0_2 x4_1).f0.f3)).setCell ⟨g2, 4, none⟩ (.int .i64 (rd_T55 l0_2 x4_1).f0.f4)).setCell ⟨g2, 5, none⟩ (.int .i64 (rd_T55 l0_2 x4_1).f0.f5)).setCell ⟨g2, 6, none⟩ (.string (rd_T55 l0_2 x4_1).f0.f6)).setCell ⟨g2, 7, none⟩ (.slice A7 (rd_T55 l0_2 x4_1).f0.f7.length c7_)).setCell ⟨g2, 8, none⟩ (.int .i64 (rd_T55 l0_2 x4_1).f0.f8)) := ⟨_, rfl⟩); rw [← hw]; have n0_ := Aside0.mk (show Kd.R (Kd.int .i64) 2 w101 w.heap.size (fun _ => True) u3 x3_1 from (by rw [hw]; exact Kd.R_mono (Kd.R_far (p := ⟨g2, 8, none⟩) (Kd.R_far (p := ⟨g2, 7, none⟩) (Kd.R_far (p := ⟨g2, 6, none⟩) (Kd.R_far (p := ⟨g2, 5, none⟩) (Kd.R_far (p := ⟨g2, 4, none⟩) (Kd.R_far (p := ⟨g2, 3, none⟩) (Kd.R_far (p := ⟨g2, 2, none⟩) (Kd.R_far (p := ⟨g2, 1, none⟩) (Kd.R_far (p := ⟨g2, 0, none⟩) ((Kd.R_types HO.out BK2.out (by decide))) (fun _ hk => hk.2) (.int .i64 (rd_T55 l0_2 x4_1).f0.f0)) (fun _ hk => hk.2) (.int .i64 (rd_T55 l0_2 x4_1).f0.f1)) (fun _ hk => hk.2) (.int .i64 (rd_T55 l0_2 x4_1).f0.f2)) (fun _ hk => hk.2) (.int .i64 (rd_T55 l0_2 x4_1).f0.f3)) (fun _ hk => hk.2) (.int .i64 (rd_T55 l0_2 x4_1).f0.f4)) (fun _ hk => hk.2) (.int .i64 (rd_T55 l0_2 x4_1).f0.f5)) (fun _ hk => hk.2) (.string (rd_T55 l0_2 x4_1).f0.f6)) (fun _ hk => hk.2) (.slice A7 (rd_T55 l0_2 x4_1).f0.f7.length c7_)) (fun _ hk => hk.2) (.int .i64 (rd_T55 l0_2 x4_1).f0.f8)) (fun _ _ => trivial))); have n1_ := Aside0.mk (show w101.heap[g1]? = some (.cells #[.int .i64 a0_0, .slice A0_1 l0_1.length c0_1, .slice (some ad) l0_2.length c0_2, .bool a0_3, .int .i64 a0_4] 38 (0, 0)) from (by rw [hw]; exact blk_far (blk_far (blk_far (blk_far (blk_far (blk_far (blk_far (blk_far (blk_far (BK1.out) (p := ⟨g2, 0, none⟩) nb12 (.int .i64 (rd_T55 l0_2 x4_1).f0.f0)) (p := ⟨g2, 1, none⟩) nb12 (.int .i64 (rd_T55 l0_2 x4_1).f0.f1)) (p := ⟨g2, 2, none⟩) nb12 (.int .i64 (rd_T55 l0_2 x4_1).f0.f2)) (p := ⟨g2, 3, none⟩) nb12 (.int .i64 (rd_T55 l0_2 x4_1).f0.f3)) (p := ⟨g2, 4, none⟩) nb12 (.int .i64 (rd_T55 l0_2 x4_1).f0.f4)) (p := ⟨g2, 5, none⟩) nb12 (.int .i64 (rd_T55 l0_2 x4_1).f0.f5)) (p := ⟨g2, 6, none⟩) nb12 (.string (rd_T55 l0_2 x4_1).f0.f6)) (p := ⟨g2, 7, none⟩) nb12 (.slice A7 (rd_T55 l0_2 x4_1).f0.f7.length c7_)) (p := ⟨g2, 8, none⟩) nb12 (.int .i64 (rd_T55 l0_2 x4_1).f0.f8))); have n2_ := Aside0.mk (show w101.heap[g2]? = some (.cells #[.int .i64 (rd_T55 l0_2 x4_1).f0.f0, .int .i64 (rd_T55 l0_2 x4_1).f0.f1, .int .i64 (rd_T55 l0_2 x4_1).f0.f2, .int .i64 (rd_T55 l0_2 x4_1).f0.f3, .int .i64 (rd_T55 l0_2 x4_1).f0.f4, .int .i64 (rd_T55 l0_2 x4_1).f0.f5, .string (rd_T55 l0_2 x4_1).f0.f6, .slice A7 (rd_T55 l0_2 x4_1).f0.f7.length c7_, .int .i64 (rd_T55 l0_2 x4_1).f0.f8] 53 (0, 0)) from (by rw [hw]; refine blk_put (cs := #[.int .i64 (rd_T55 l0_2 x4_1).f0.f0, .int .i64 (rd_T55 l0_2 x4_1).f0.f1, .int .i64 (rd_T55 l0_2 x4_1).f0.f2, .int .i64 (rd_T55 l0_2 x4_1).f0.f3, .int .i64 (rd_T55 l0_2 x4_1).f0.f4, .int .i64 (rd_T55 l0_2 x4_1).f0.f5, .string (rd_T55 l0_2 x4_1).f0.f6, .slice A7 (rd_T55 l0_2 x4_1).f0.f7.length c7_, .int .i64 0]) ?_ 8 _ rfl; refine blk_put (cs := #[.int .i64 (rd_T55 l0_2 x4_1).f0.f0, .int .i64 (rd_T55 l0_2 x4_1).f0.f1, .int .i64 (rd_T55 l0_2 x4_1).f0.f2, .int .i64 (rd_T55 l0_2 x4_1).f0.f3, .int .i64 (rd_T55 l0_2 x4_1).f0.f4, .int .i64 (rd_T55 l0_2 x4_1).f0.f5, .string (rd_T55 l0_2 x4_1).f0.f6, .slice none 0 0, .int .i64 0]) ?_ 7 _ rfl; refine blk_put (cs := #[.int .i64 (rd_T55 l0_2 x4_1).f0.f0, .int .i64 (rd_T55 l0_2 x4_1).f0.f1, .int .i64 (rd_T55 l0_2 x4_1).f0.f2, .int .i64 (rd_T55 l0_2 x4_1).f0.f3, .int .i64 (rd_T55 l0_2 x4_1).f0.f4, .int .i64 (rd_T55 l0_2 x4_1).f0.f5, .string (⟨#[]⟩ : ByteArray), .slice none 0 0, .int .i64 0]) ?_ 6 _ rfl; refine blk_put (cs := #[.int .i64 (rd_T55 l0_2 x4_1).f0.f0, .int .i64 (rd_T55 l0_2 x4_1).f0.f1, .int .i64 (rd_T55 l0_2 x4_1).f0.f2, .int .i64 (rd_T55 l0_2 x4_1).f0.f3, .int .i64 (rd_T55 l0_2 x4_1).f0.f4, .int .i64 0, .string (⟨#[]⟩ : ByteArray), .slice none 0 0, .int .i64 0]) ?_ 5 _ rfl; refine blk_put (cs := #[.int .i64 (rd_T55 l0_2 x4_1).f0.f0, .int .i64 (rd_T55 l0_2 x4_1).f0.f1, .int .i64 (rd_T55 l0_2 x4_1).f0.f2, .int .i64 (rd_T55 l0_2 x4_1).f0.f3, .int .i64 0, .int .i64 0, .string (⟨#[]⟩ : ByteArray), .slice none 0 0, .int .i64 0]) ?_ 4 _ rfl; refine blk_put (cs := #[.int .i64 (rd_T55 l0_2 x4_1).f0.f0, .int .i64 (rd_T55 l0_2 x4_1).f0.f1, .int .i64 (rd_T55 l0_2 x4_1).f0.f2, .int .i64 0, .int .i64 0, .int .i64 0, .string (⟨#[]⟩ : ByteArray), .slice none 0 0, .int .i64 0]) ?_ 3 _ rfl; refine blk_put (cs := #[.int .i64 (rd_T55 l0_2 x4_1).f0.f0, .int .i64 (rd_T55 l0_2 x4_1).f0.f1, .int .i64 0, .int .i64 0, .int .i64 0, .int .i64 0, .string (⟨#[]⟩ : ByteArray), .slice none 0 0, .int .i64 0]) ?_ 2 _ rfl; refine blk_put (cs := #[.int .i64 (rd_T55 l0_2 x4_1).f0.f0, .int .i64 0, .int .i64 0, .int .i64 0, .int .i64 0, .int .i64 0, .string (⟨#[]⟩ : ByteArray), .slice none 0 0, .int .i64 0]) ?_ 1 _ rfl; refine blk_put (cs := #[.int .i64 0, .int .i64 0, .int .i64 0, .int .i64 0, .int .i64 0, .int .i64 0, .string (⟨#[]⟩ : ByteArray), .slice none 0 0, .int .i64 0]) ?_ 0 _ rfl; exact BK2.out)); have n3_ := Aside0.mk (show Below w.heap.size w w101 from (by rw [hw]; exact below_set (below_set (below_set (below_set (below_set (below_set (below_set (below_set (below_set (HB.out) GE2.out) GE2.out) GE2.out) GE2.out) GE2.out) GE2.out) GE2.out) GE2.out) GE2.out)); clear HO BK1 BK2 HB hw; have HO := n0_; have BK1 := n1_; have BK2 := n2_; have HB := n3_; clear n0_ n1_ n2_ n3_; (with_reducible refine (spec_l02User.calls (rd_T55 l0_2 x4_1).f0.f2 true _ U1.out).mono ?_); rintro e w' ⟨rfl, hb_⟩; have hb := hb_.below; refine ⟨_, rfl, ?_⟩; have n0_ := Aside0.mk (Kd.R_below HO.out hb); have n1_ := Aside0.mk (blk_below BK1.out hb); have n2_ := Aside0.mk (blk_below BK2.out hb); have n3_ := Aside0.mk (below_step HB.out hb); clear HO BK1 BK2 HB hb hb_; have HO := n0_; have BK1 := n1_; have BK2 := n2_; have HB := n3_; clear n0_ n1_ n2_ n3_; obtain ⟨⟨hc2_0, hc2_1, hc2_2, hc2_3, hc2_4, hc2_5, hc2_6, hc2_7, hc2_8⟩, hd2_0, hd2_1, hd2_2, hd2_3, hd2_4, hd2_5, hd2_6, hd2_7, hd2_8⟩ := cells_9 BK2.out; obtain ⟨⟨ha2_0, ha2_1, ha2_2, ha2_3, ha2_4⟩, hb2_0, hb2_1, hb2_2, hb2_3, hb2_4⟩ := cells_5 BK1.out) | ((with_reducible refine gate_callee (f := 29) rfl ?_); refine goesL_ (some 26) rfl rfl Try.func29 (by kernel_rfl) rfl #[u3, .int .i64 (rd_T55 l0_2 x4_1).f0.f2] rfl (by (try simp only [List.map_toArray, List.map_cons, List.map_nil]); first | done | rfl) ?_; (try clear ha2_0 hb2_0 ha2_1 hb2_1 ha2_2 hb2_2 ha2_3 hb2_3 ha2_4 hb2_4); (try clear hc2_0 hd2_0 hc2_1 hd2_1 hc2_2 hd2_2 hc2_3 hd2_3 hc2_4 hd2_4 hc2_5 hd2_5 hc2_6 hd2_6 hc2_7 hd2_7 hc2_8 hd2_8); (with_reducible refine (spec_l03Set.calls k1 (fun k_ => some k_ = (u3 : Value).ownBlock) u3 x3_1 (rd_T55 l0_2 x4_1).f0.f2 y w _ HB.out (Kd.R_tight rfl HO.out) S1.out).mono ?_); rintro e w' ⟨va_, rfl, hy0, hb, hkp⟩; refine ⟨_, rfl, ?_⟩; have n0_ := Aside0.mk (Kd.R_mono (ok' := fun _ => True) hy0 (fun _ _ => trivial)); have n1_ := Aside0.mk (blk_kept BK1.out hkp (fun hs_ => (Kd.R_ne HO.out BK1.out (by decide)) hs_)); have n2_ := Aside0.mk (blk_kept BK2.out hkp (fun hs_ => (Kd.R_ne HO.out BK2.out (by decide)) hs_)); have n3_ := Aside0.mk hb; clear HO BK1 BK2 HB hb hkp hy0; have HO := n0_; have BK1 := n1_; have BK2 := n2_; have HB := n3_; clear n0_ n1_ n2_ n3_; obtain ⟨⟨hc3_0, hc3_1, hc3_2, hc3_3, hc3_4, hc3_5, hc3_6, hc3_7, hc3_8⟩, hd3_0, hd3_1, hd3_2, hd3_3, hd3_4, hd3_5, hd3_6, hd3_7, hd3_8⟩ := cells_9 BK2.out; obtain ⟨⟨ha3_0, ha3_1, ha3_2, ha3_3, ha3_4⟩, hb3_0, hb3_1, hb3_2, hb3_3, hb3_4⟩ := cells_5 BK1.out) | (go_at_call 28; (try clear ha3_0 hb3_0 ha3_1 hb3_1 ha3_2 hb3_2 ha3_3 hb3_3 ha3_4 hb3_4); (try clear hc3_0 hd3_0 hc3_1 hd3_1 hc3_2 hd3_2 hc3_3 hd3_3 hc3_4 hd3_4 hc3_5 hd3_5 hc3_6 hd3_6 hc3_7 hd3_7 hc3_8 hd3_8); (with_reducible refine (spec_l02User.calls (rd_T55 l0_2 x4_1).f0.f4 true _ U2.out).mono ?_); rintro e w' ⟨rfl, hb_⟩; have hb := hb_.below; have n0_ := Aside0.mk (Kd.R_below HO.out hb); have n1_ := Aside0.mk (blk_below BK1.out hb); have n2_ := Aside0.mk (blk_below BK2.out hb); have n3_ := Aside0.mk (below_step HB.out hb); clear HO BK1 BK2 HB hb hb_; have HO := n0_; have BK1 := n1_; have BK2 := n2_; have HB := n3_; clear n0_ n1_ n2_ n3_; obtain ⟨⟨hc4_0, hc4_1, hc4_2, hc4_3, hc4_4, hc4_5, hc4_6, hc4_7, hc4_8⟩, hd4_0, hd4_1, hd4_2, hd4_3, hd4_4, hd4_5, hd4_6, hd4_7, hd4_8⟩ := cells_9 BK2.out; obtain ⟨⟨ha4_0, ha4_1, ha4_2, ha4_3, ha4_4⟩, hb4_0, hb4_1, hb4_2, hb4_3, hb4_4⟩ := cells_5 BK1.out) | ((with_reducible refine gate_callee (f := 29) rfl ?_); refine goesL_ (some 38) rfl rfl Try.func29 (by kernel_rfl) rfl #[va_, .int .i64 (rd_T55 l0_2 x4_1).f0.f4] rfl (by (try simp only [List.map_toArray, List.map_cons, List.map_nil]); first | done | rfl) ?_; (try clear ha4_0 hb4_0 ha4_1 hb4_1 ha4_2 hb4_2 ha4_3 hb4_3 ha4_4 hb4_4); (try clear hc4_0 hd4_0 hc4_1 hd4_1 hc4_2 hd4_2 hc4_3 hd4_3 hc4_4 hd4_4 hc4_5 hd4_5 hc4_6 hd4_6 hc4_7 hd4_7 hc4_8 hd4_8); (with_reducible refine (spec_l03Set.calls k1 (fun k_ => some k_ = (va_ : Value).ownBlock) va_ y (rd_T55 l0_2 x4_1).f0.f4 z w _ HB.out (Kd.R_tight rfl HO.out) S2.out).mono ?_); rintro e w' ⟨vb_, rfl, hy0, hb, hkp⟩; refine ⟨_, rfl, ?_⟩; have n0_ := Aside0.mk (Kd.R_mono (ok' := fun _ => True) hy0 (fun _ _ => trivial)); have n1_ := Aside0.mk (blk_kept BK1.out hkp (fun hs_ => (Kd.R_ne HO.out BK1.out (by decide)) hs_)); have n2_ := Aside0.mk (blk_kept BK2.out hkp (fun hs_ => (Kd.R_ne HO.out BK2.out (by decide)) hs_)); have n3_ := Aside0.mk hb; clear HO BK1 BK2 HB hb hkp hy0; have HO := n0_; have BK1 := n1_; have BK2 := n2_; have HB := n3_; clear n0_ n1_ n2_ n3_; obtain ⟨⟨hc5_0, hc5_1, hc5_2, hc5_3, hc5_4, hc5_5, hc5_6, hc5_7, hc5_8⟩, hd5_0, hd5_1, hd5_2, hd5_3, hd5_4, hd5_5, hd5_6, hd5_7, hd5_8⟩ := cells_9 BK2.out; obtain ⟨⟨ha5_0, ha5_1, ha5_2, ha5_3, ha5_4⟩, hb5_0, hb5_1, hb5_2, hb5_3, hb5_4⟩ := cells_5 BK1.out))
              go_roundg k1
              case measure => have := HK1.out; omega
              case rel => exact ⟨_, (wrap64 (x4_1 + 1)), (by first | rfl | (simp; done) | (simp [*]; done)), H', ⟨by have := HK1.out; omega⟩, ⟨HO.out⟩, ⟨BK1.out⟩, ⟨HB.out⟩⟩
            · clear AS2
              have c10b0 : ((rd_T55 l0_2 x4_1).f0.f3 == 2) = true := beq_iff_eq.mpr ck
              have U2 := Aside0.mk u2
              clear u2 ck
              go_wp2_with (first | ((with_reducible refine gate_dst (N := 5) rfl ?_); refine box_event ?hg (N := 5) ?hd (cs := #[.int .i64 0, .int .i64 0, .int .i64 0, .int .i64 0, .int .i64 0, .int .i64 0, .string (⟨#[]⟩ : ByteArray), .slice none 0 0, .int .i64 0]) (t := 53) ?hr ?_; (case hd => rfl); (case hg => rfl); (case hr => first | (go_simp; done) | (go_simp; rfl)); intro g2 hg w12 hbox hb; have n0_ := Aside0.mk (Kd.R_below HO.out hb); have n1_ := Aside0.mk (blk_below BK1.out hb); have n2_ := Aside0.mk (below_step HB.out hb); have BK2 := Aside0.mk (hbox); have GE2 := Aside0.mk ((by rw [hg]; exact (below_size HB.out)) : w.heap.size ≤ g2); have GL := Aside0.mk ((by rw [hg]; exact blk_lt BK1.out) : g1 < g2); clear HO BK1 HB; have HO := n0_; have BK1 := n1_; have HB := n2_; clear n0_ n1_ n2_; clear hb hbox hg; (try clear ha0_0 hb0_0 ha0_1 hb0_1 ha0_2 hb0_2 ha0_3 hb0_3 ha0_4 hb0_4); (try clear hc0_0 hd0_0 hc0_1 hd0_1 hc0_2 hd0_2 hc0_3 hd0_3 hc0_4 hd0_4 hc0_5 hd0_5 hc0_6 hd0_6 hc0_7 hd0_7 hc0_8 hd0_8); obtain ⟨⟨hc1_0, hc1_1, hc1_2, hc1_3, hc1_4, hc1_5, hc1_6, hc1_7, hc1_8⟩, hd1_0, hd1_1, hd1_2, hd1_3, hd1_4, hd1_5, hd1_6, hd1_7, hd1_8⟩ := cells_9 BK2.out; have nb12 : g1 ≠ g2 := Nat.ne_of_lt GL.out; have nb21 : g2 ≠ g1 := (Nat.ne_of_lt GL.out).symm; obtain ⟨⟨ha1_0, ha1_1, ha1_2, ha1_3, ha1_4⟩, hb1_0, hb1_1, hb1_2, hb1_3, hb1_4⟩ := cells_5 BK1.out) | ((with_reducible refine gate_callee (f := 28) rfl ?_); refine goesL_ (some 22) rfl rfl Try.func28 (by kernel_rfl) rfl #[.int .i64 (rd_T55 l0_2 x4_1).f0.f2] rfl (by (try simp only [List.map_toArray, List.map_cons, List.map_nil]); first | done | rfl) ?_; (try clear ha1_0 hb1_0 ha1_1 hb1_1 ha1_2 hb1_2 ha1_3 hb1_3 ha1_4 hb1_4); (try clear hc1_0 hd1_0 hc1_1 hd1_1 hc1_2 hd1_2 hc1_3 hd1_3 hc1_4 hd1_4 hc1_5 hd1_5 hc1_6 hd1_6 hc1_7 hd1_7 hc1_8 hd1_8); (try clear hx_0 hx_1 hx_2 hx_3 hx_4 hx_5 hx_6 hx_7 hx_8 hx_9); (obtain ⟨w101, hw⟩ : ∃ w_ : World, w_ = (((((((((w12.setCell ⟨g2, 0, none⟩ (.int .i64 (rd_T55 l0_2 x4_1).f0.f0)).setCell ⟨g2, 1, none⟩ (.int .i64 (rd_T55 l0_2 x4_1).f0.f1)).setCell ⟨g2, 2, none⟩ (.int .i64 (rd_T55 l0_2 x4_1).f0.f2)).setCell ⟨g2, 3, none⟩ (.int .i64 (rd_T55 l0_2 x4_1).f0.f3)).setCell ⟨g2, 4, none⟩ (.int .i64 (rd_T55 l0_2 x4_1).f0.f4)).setCell ⟨g2, 5, none⟩ (.int .i64 (rd_T55 l0_2 x4_1).f0.f5)).setCell ⟨g2, 6, none⟩ (.string (rd_T55 l0_2 x4_1).f0.f6)).setCell ⟨g2, 7, none⟩ (.slice A7 (rd_T55 l0_2 x4_1).f0.f7.length c7_)).setCell ⟨g2, 8, none⟩ (.int .i64 (rd_T55 l0_2 x4_1).f0.f8)) := ⟨_, rfl⟩); rw [← hw]; have n0_ := Aside0.mk (show Kd.R (Kd.int .i64) 2 w101 w.heap.size (fun _ => True) u3 x3_1 from (by rw [hw]; exact Kd.R_mono (Kd.R_far (p := ⟨g2, 8, none⟩) (Kd.R_far (p := ⟨g2, 7, none⟩) (Kd.R_far (p := ⟨g2, 6, none⟩) (Kd.R_far (p := ⟨g2, 5, none⟩) (Kd.R_far (p := ⟨g2, 4, none⟩) (Kd.R_far (p := ⟨g2, 3, none⟩) (Kd.R_far (p := ⟨g2, 2, none⟩) (Kd.R_far (p := ⟨g2, 1, none⟩) (Kd.R_far (p := ⟨g2, 0, none⟩) ((Kd.R_types HO.out BK2.out (by decide))) (fun _ hk => hk.2) (.int .i64 (rd_T55 l0_2 x4_1).f0.f0)) (fun _ hk => hk.2) (.int .i64 (rd_T55 l0_2 x4_1).f0.f1)) (fun _ hk => hk.2) (.int .i64 (rd_T55 l0_2 x4_1).f0.f2)) (fun _ hk => hk.2) (.int .i64 (rd_T55 l0_2 x4_1).f0.f3)) (fun _ hk => hk.2) (.int .i64 (rd_T55 l0_2 x4_1).f0.f4)) (fun _ hk => hk.2) (.int .i64 (rd_T55 l0_2 x4_1).f0.f5)) (fun _ hk => hk.2) (.string (rd_T55 l0_2 x4_1).f0.f6)) (fun _ hk => hk.2) (.slice A7 (rd_T55 l0_2 x4_1).f0.f7.length c7_)) (fun _ hk => hk.2) (.int .i64 (rd_T55 l0_2 x4_1).f0.f8)) (fun _ _ => trivial))); have n1_ := Aside0.mk (show w101.heap[g1]? = some (.cells #[.int .i64 a0_0, .slice A0_1 l0_1.length c0_1, .slice (some ad) l0_2.length c0_2, .bool a0_3, .int .i64 a0_4] 38 (0, 0)) from (by rw [hw]; exact blk_far (blk_far (blk_far (blk_far (blk_far (blk_far (blk_far (blk_far (blk_far (BK1.out) (p := ⟨g2, 0, none⟩) nb12 (.int .i64 (rd_T55 l0_2 x4_1).f0.f0)) (p := ⟨g2, 1, none⟩) nb12 (.int .i64 (rd_T55 l0_2 x4_1).f0.f1)) (p := ⟨g2, 2, none⟩) nb12 (.int .i64 (rd_T55 l0_2 x4_1).f0.f2)) (p := ⟨g2, 3, none⟩) nb12 (.int .i64 (rd_T55 l0_2 x4_1).f0.f3)) (p := ⟨g2, 4, none⟩) nb12 (.int .i64 (rd_T55 l0_2 x4_1).f0.f4)) (p := ⟨g2, 5, none⟩) nb12 (.int .i64 (rd_T55 l0_2 x4_1).f0.f5)) (p := ⟨g2, 6, none⟩) nb12 (.string (rd_T55 l0_2 x4_1).f0.f6)) (p := ⟨g2, 7, none⟩) nb12 (.slice A7 (rd_T55 l0_2 x4_1).f0.f7.length c7_)) (p := ⟨g2, 8, none⟩) nb12 (.int .i64 (rd_T55 l0_2 x4_1).f0.f8))); have n2_ := Aside0.mk (show w101.heap[g2]? = some (.cells #[.int .i64 (rd_T55 l0_2 x4_1).f0.f0, .int .i64 (rd_T55 l0_2 x4_1).f0.f1, .int .i64 (rd_T55 l0_2 x4_1).f0.f2, .int .i64 (rd_T55 l0_2 x4_1).f0.f3, .int .i64 (rd_T55 l0_2 x4_1).f0.f4, .int .i64 (rd_T55 l0_2 x4_1).f0.f5, .string (rd_T55 l0_2 x4_1).f0.f6, .slice A7 (rd_T55 l0_2 x4_1).f0.f7.length c7_, .int .i64 (rd_T55 l0_2 x4_1).f0.f8] 53 (0, 0)) from (by rw [hw]; refine blk_put (cs := #[.int .i64 (rd_T55 l0_2 x4_1).f0.f0, .int .i64 (rd_T55 l0_2 x4_1).f0.f1, .int .i64 (rd_T55 l0_2 x4_1).f0.f2, .int .i64 (rd_T55 l0_2 x4_1).f0.f3, .int .i64 (rd_T55 l0_2 x4_1).f0.f4, .int .i64 (rd_T55 l0_2 x4_1).f0.f5, .string (rd_T55 l0_2 x4_1).f0.f6, .slice A7 (rd_T55 l0_2 x4_1).f0.f7.length c7_, .int .i64 0]) ?_ 8 _ rfl; refine blk_put (cs := #[.int .i64 (rd_T55 l0_2 x4_1).f0.f0, .int .i64 (rd_T55 l0_2 x4_1).f0.f1, .int .i64 (rd_T55 l0_2 x4_1).f0.f2, .int .i64 (rd_T55 l0_2 x4_1).f0.f3, .int .i64 (rd_T55 l0_2 x4_1).f0.f4, .int .i64 (rd_T55 l0_2 x4_1).f0.f5, .string (rd_T55 l0_2 x4_1).f0.f6, .slice none 0 0, .int .i64 0]) ?_ 7 _ rfl; refine blk_put (cs := #[.int .i64 (rd_T55 l0_2 x4_1).f0.f0, .int .i64 (rd_T55 l0_2 x4_1).f0.f1, .int .i64 (rd_T55 l0_2 x4_1).f0.f2, .int .i64 (rd_T55 l0_2 x4_1).f0.f3, .int .i64 (rd_T55 l0_2 x4_1).f0.f4, .int .i64 (rd_T55 l0_2 x4_1).f0.f5, .string (⟨#[]⟩ : ByteArray), .slice none 0 0, .int .i64 0]) ?_ 6 _ rfl; refine blk_put (cs := #[.int .i64 (rd_T55 l0_2 x4_1).f0.f0, .int .i64 (rd_T55 l0_2 x4_1).f0.f1, .int .i64 (rd_T55 l0_2 x4_1).f0.f2, .int .i64 (rd_T55 l0_2 x4_1).f0.f3, .int .i64 (rd_T55 l0_2 x4_1).f0.f4, .int .i64 0, .string (⟨#[]⟩ : ByteArray), .slice none 0 0, .int .i64 0]) ?_ 5 _ rfl; refine blk_put (cs := #[.int .i64 (rd_T55 l0_2 x4_1).f0.f0, .int .i64 (rd_T55 l0_2 x4_1).f0.f1, .int .i64 (rd_T55 l0_2 x4_1).f0.f2, .int .i64 (rd_T55 l0_2 x4_1).f0.f3, .int .i64 0, .int .i64 0, .string (⟨#[]⟩ : ByteArray), .slice none 0 0, .int .i64 0]) ?_ 4 _ rfl; refine blk_put (cs := #[.int .i64 (rd_T55 l0_2 x4_1).f0.f0, .int .i64 (rd_T55 l0_2 x4_1).f0.f1, .int .i64 (rd_T55 l0_2 x4_1).f0.f2, .int .i64 0, .int .i64 0, .int .i64 0, .string (⟨#[]⟩ : ByteArray), .slice none 0 0, .int .i64 0]) ?_ 3 _ rfl; refine blk_put (cs := #[.int .i64 (rd_T55 l0_2 x4_1).f0.f0, .int .i64 (rd_T55 l0_2 x4_1).f0.f1, .int .i64 0, .int .i64 0, .int .i64 0, .int .i64 0, .string (⟨#[]⟩ : ByteArray), .slice none 0 0, .int .i64 0]) ?_ 2 _ rfl; refine blk_put (cs := #[.int .i64 (rd_T55 l0_2 x4_1).f0.f0, .int .i64 0, .int .i64 0, .int .i64 0, .int .i64 0, .int .i64 0, .string (⟨#[]⟩ : ByteArray), .slice none 0 0, .int .i64 0]) ?_ 1 _ rfl; refine blk_put (cs := #[.int .i64 0, .int .i64 0, .int .i64 0, .int .i64 0, .int .i64 0, .int .i64 0, .string (⟨#[]⟩ : ByteArray), .slice none 0 0, .int .i64 0]) ?_ 0 _ rfl; exact BK2.out)); have n3_ := Aside0.mk (show Below w.heap.size w w101 from (by rw [hw]; exact below_set (below_set (below_set (below_set (below_set (below_set (below_set (below_set (below_set (HB.out) GE2.out) GE2.out) GE2.out) GE2.out) GE2.out) GE2.out) GE2.out) GE2.out) GE2.out)); clear HO BK1 BK2 HB hw; have HO := n0_; have BK1 := n1_; have BK2 := n2_; have HB := n3_; clear n0_ n1_ n2_ n3_; (with_reducible refine (spec_l02User.calls (rd_T55 l0_2 x4_1).f0.f2 true _ U1.out).mono ?_); rintro e w' ⟨rfl, hb_⟩; have hb := hb_.below; refine ⟨_, rfl, ?_⟩; have n0_ := Aside0.mk (Kd.R_below HO.out hb); have n1_ := Aside0.mk (blk_below BK1.out hb); have n2_ := Aside0.mk (blk_below BK2.out hb); have n3_ := Aside0.mk (below_step HB.out hb); clear HO BK1 BK2 HB hb hb_; have HO := n0_; have BK1 := n1_; have BK2 := n2_; have HB := n3_; clear n0_ n1_ n2_ n3_; obtain ⟨⟨hc2_0, hc2_1, hc2_2, hc2_3, hc2_4, hc2_5, hc2_6, hc2_7, hc2_8⟩, hd2_0, hd2_1, hd2_2, hd2_3, hd2_4, hd2_5, hd2_6, hd2_7, hd2_8⟩ := cells_9 BK2.out; obtain ⟨⟨ha2_0, ha2_1, ha2_2, ha2_3, ha2_4⟩, hb2_0, hb2_1, hb2_2, hb2_3, hb2_4⟩ := cells_5 BK1.out) | ((with_reducible refine gate_callee (f := 29) rfl ?_); refine goesL_ (some 26) rfl rfl Try.func29 (by kernel_rfl) rfl #[u3, .int .i64 (rd_T55 l0_2 x4_1).f0.f2] rfl (by (try simp only [List.map_toArray, List.map_cons, List.map_nil]); first | done | rfl) ?_; (try clear ha2_0 hb2_0 ha2_1 hb2_1 ha2_2 hb2_2 ha2_3 hb2_3 ha2_4 hb2_4); (try clear hc2_0 hd2_0 hc2_1 hd2_1 hc2_2 hd2_2 hc2_3 hd2_3 hc2_4 hd2_4 hc2_5 hd2_5 hc2_6 hd2_6 hc2_7 hd2_7 hc2_8 hd2_8); (with_reducible refine (spec_l03Set.calls k1 (fun k_ => some k_ = (u3 : Value).ownBlock) u3 x3_1 (rd_T55 l0_2 x4_1).f0.f2 y w _ HB.out (Kd.R_tight rfl HO.out) S1.out).mono ?_); rintro e w' ⟨va_, rfl, hy0, hb, hkp⟩; refine ⟨_, rfl, ?_⟩; have n0_ := Aside0.mk (Kd.R_mono (ok' := fun _ => True) hy0 (fun _ _ => trivial)); have n1_ := Aside0.mk (blk_kept BK1.out hkp (fun hs_ => (Kd.R_ne HO.out BK1.out (by decide)) hs_)); have n2_ := Aside0.mk (blk_kept BK2.out hkp (fun hs_ => (Kd.R_ne HO.out BK2.out (by decide)) hs_)); have n3_ := Aside0.mk hb; clear HO BK1 BK2 HB hb hkp hy0; have HO := n0_; have BK1 := n1_; have BK2 := n2_; have HB := n3_; clear n0_ n1_ n2_ n3_; obtain ⟨⟨hc3_0, hc3_1, hc3_2, hc3_3, hc3_4, hc3_5, hc3_6, hc3_7, hc3_8⟩, hd3_0, hd3_1, hd3_2, hd3_3, hd3_4, hd3_5, hd3_6, hd3_7, hd3_8⟩ := cells_9 BK2.out; obtain ⟨⟨ha3_0, ha3_1, ha3_2, ha3_3, ha3_4⟩, hb3_0, hb3_1, hb3_2, hb3_3, hb3_4⟩ := cells_5 BK1.out) | (go_at_call 28; (try clear ha3_0 hb3_0 ha3_1 hb3_1 ha3_2 hb3_2 ha3_3 hb3_3 ha3_4 hb3_4); (try clear hc3_0 hd3_0 hc3_1 hd3_1 hc3_2 hd3_2 hc3_3 hd3_3 hc3_4 hd3_4 hc3_5 hd3_5 hc3_6 hd3_6 hc3_7 hd3_7 hc3_8 hd3_8); (with_reducible refine (spec_l02User.calls (rd_T55 l0_2 x4_1).f0.f4 false _ U2.out).mono ?_); rintro e w' ⟨rfl, hb_⟩; have hb := hb_.below; have n0_ := Aside0.mk (Kd.R_below HO.out hb); have n1_ := Aside0.mk (blk_below BK1.out hb); have n2_ := Aside0.mk (blk_below BK2.out hb); have n3_ := Aside0.mk (below_step HB.out hb); clear HO BK1 BK2 HB hb hb_; have HO := n0_; have BK1 := n1_; have BK2 := n2_; have HB := n3_; clear n0_ n1_ n2_ n3_; obtain ⟨⟨hc4_0, hc4_1, hc4_2, hc4_3, hc4_4, hc4_5, hc4_6, hc4_7, hc4_8⟩, hd4_0, hd4_1, hd4_2, hd4_3, hd4_4, hd4_5, hd4_6, hd4_7, hd4_8⟩ := cells_9 BK2.out; obtain ⟨⟨ha4_0, ha4_1, ha4_2, ha4_3, ha4_4⟩, hb4_0, hb4_1, hb4_2, hb4_3, hb4_4⟩ := cells_5 BK1.out))
              go_roundg k1
              case measure => have := HK1.out; omega
              case rel => exact ⟨_, (wrap64 (x4_1 + 1)), (by first | rfl | (simp; done) | (simp [*]; done)), H', ⟨by have := HK1.out; omega⟩, ⟨HO.out⟩, ⟨BK1.out⟩, ⟨HB.out⟩⟩
            · clear AS2
              have c10b0 : ((rd_T55 l0_2 x4_1).f0.f3 == 2) = false := beq_eq_false_iff_ne.mpr ck
              clear ck
              go_wp2_with (first | ((with_reducible refine gate_dst (N := 5) rfl ?_); refine box_event ?hg (N := 5) ?hd (cs := #[.int .i64 0, .int .i64 0, .int .i64 0, .int .i64 0, .int .i64 0, .int .i64 0, .string (⟨#[]⟩ : ByteArray), .slice none 0 0, .int .i64 0]) (t := 53) ?hr ?_; (case hd => rfl); (case hg => rfl); (case hr => first | (go_simp; done) | (go_simp; rfl)); intro g2 hg w12 hbox hb; have n0_ := Aside0.mk (Kd.R_below HO.out hb); have n1_ := Aside0.mk (blk_below BK1.out hb); have n2_ := Aside0.mk (below_step HB.out hb); have BK2 := Aside0.mk (hbox); have GE2 := Aside0.mk ((by rw [hg]; exact (below_size HB.out)) : w.heap.size ≤ g2); have GL := Aside0.mk ((by rw [hg]; exact blk_lt BK1.out) : g1 < g2); clear HO BK1 HB; have HO := n0_; have BK1 := n1_; have HB := n2_; clear n0_ n1_ n2_; clear hb hbox hg; (try clear ha0_0 hb0_0 ha0_1 hb0_1 ha0_2 hb0_2 ha0_3 hb0_3 ha0_4 hb0_4); (try clear hc0_0 hd0_0 hc0_1 hd0_1 hc0_2 hd0_2 hc0_3 hd0_3 hc0_4 hd0_4 hc0_5 hd0_5 hc0_6 hd0_6 hc0_7 hd0_7 hc0_8 hd0_8); obtain ⟨⟨hc1_0, hc1_1, hc1_2, hc1_3, hc1_4, hc1_5, hc1_6, hc1_7, hc1_8⟩, hd1_0, hd1_1, hd1_2, hd1_3, hd1_4, hd1_5, hd1_6, hd1_7, hd1_8⟩ := cells_9 BK2.out; have nb12 : g1 ≠ g2 := Nat.ne_of_lt GL.out; have nb21 : g2 ≠ g1 := (Nat.ne_of_lt GL.out).symm; obtain ⟨⟨ha1_0, ha1_1, ha1_2, ha1_3, ha1_4⟩, hb1_0, hb1_1, hb1_2, hb1_3, hb1_4⟩ := cells_5 BK1.out) | ((with_reducible refine gate_callee (f := 28) rfl ?_); refine goesL_ (some 22) rfl rfl Try.func28 (by kernel_rfl) rfl #[.int .i64 (rd_T55 l0_2 x4_1).f0.f2] rfl (by (try simp only [List.map_toArray, List.map_cons, List.map_nil]); first | done | rfl) ?_; (try clear ha1_0 hb1_0 ha1_1 hb1_1 ha1_2 hb1_2 ha1_3 hb1_3 ha1_4 hb1_4); (try clear hc1_0 hd1_0 hc1_1 hd1_1 hc1_2 hd1_2 hc1_3 hd1_3 hc1_4 hd1_4 hc1_5 hd1_5 hc1_6 hd1_6 hc1_7 hd1_7 hc1_8 hd1_8); (try clear hx_0 hx_1 hx_2 hx_3 hx_4 hx_5 hx_6 hx_7 hx_8 hx_9); (obtain ⟨w101, hw⟩ : ∃ w_ : World, w_ = (((((((((w12.setCell ⟨g2, 0, none⟩ (.int .i64 (rd_T55 l0_2 x4_1).f0.f0)).setCell ⟨g2, 1, none⟩ (.int .i64 (rd_T55 l0_2 x4_1).f0.f1)).setCell ⟨g2, 2, none⟩ (.int .i64 (rd_T55 l0_2 x4_1).f0.f2)).setCell ⟨g2, 3, none⟩ (.int .i64 (rd_T55 l0_2 x4_1).f0.f3)).setCell ⟨g2, 4, none⟩ (.int .i64 (rd_T55 l0_2 x4_1).f0.f4)).setCell ⟨g2, 5, none⟩ (.int .i64 (rd_T55 l0_2 x4_1).f0.f5)).setCell ⟨g2, 6, none⟩ (.string (rd_T55 l0_2 x4_1).f0.f6)).setCell ⟨g2, 7, none⟩ (.slice A7 (rd_T55 l0_2 x4_1).f0.f7.length c7_)).setCell ⟨g2, 8, none⟩ (.int .i64 (rd_T55 l0_2 x4_1).f0.f8)) := ⟨_, rfl⟩); rw [← hw]; have n0_ := Aside0.mk (show Kd.R (Kd.int .i64) 2 w101 w.heap.size (fun _ => True) u3 x3_1 from (by rw [hw]; exact Kd.R_mono (Kd.R_far (p := ⟨g2, 8, none⟩) (Kd.R_far (p := ⟨g2, 7, none⟩) (Kd.R_far (p := ⟨g2, 6, none⟩) (Kd.R_far (p := ⟨g2, 5, none⟩) (Kd.R_far (p := ⟨g2, 4, none⟩) (Kd.R_far (p := ⟨g2, 3, none⟩) (Kd.R_far (p := ⟨g2, 2, none⟩) (Kd.R_far (p := ⟨g2, 1, none⟩) (Kd.R_far (p := ⟨g2, 0, none⟩) ((Kd.R_types HO.out BK2.out (by decide))) (fun _ hk => hk.2) (.int .i64 (rd_T55 l0_2 x4_1).f0.f0)) (fun _ hk => hk.2) (.int .i64 (rd_T55 l0_2 x4_1).f0.f1)) (fun _ hk => hk.2) (.int .i64 (rd_T55 l0_2 x4_1).f0.f2)) (fun _ hk => hk.2) (.int .i64 (rd_T55 l0_2 x4_1).f0.f3)) (fun _ hk => hk.2) (.int .i64 (rd_T55 l0_2 x4_1).f0.f4)) (fun _ hk => hk.2) (.int .i64 (rd_T55 l0_2 x4_1).f0.f5)) (fun _ hk => hk.2) (.string (rd_T55 l0_2 x4_1).f0.f6)) (fun _ hk => hk.2) (.slice A7 (rd_T55 l0_2 x4_1).f0.f7.length c7_)) (fun _ hk => hk.2) (.int .i64 (rd_T55 l0_2 x4_1).f0.f8)) (fun _ _ => trivial))); have n1_ := Aside0.mk (show w101.heap[g1]? = some (.cells #[.int .i64 a0_0, .slice A0_1 l0_1.length c0_1, .slice (some ad) l0_2.length c0_2, .bool a0_3, .int .i64 a0_4] 38 (0, 0)) from (by rw [hw]; exact blk_far (blk_far (blk_far (blk_far (blk_far (blk_far (blk_far (blk_far (blk_far (BK1.out) (p := ⟨g2, 0, none⟩) nb12 (.int .i64 (rd_T55 l0_2 x4_1).f0.f0)) (p := ⟨g2, 1, none⟩) nb12 (.int .i64 (rd_T55 l0_2 x4_1).f0.f1)) (p := ⟨g2, 2, none⟩) nb12 (.int .i64 (rd_T55 l0_2 x4_1).f0.f2)) (p := ⟨g2, 3, none⟩) nb12 (.int .i64 (rd_T55 l0_2 x4_1).f0.f3)) (p := ⟨g2, 4, none⟩) nb12 (.int .i64 (rd_T55 l0_2 x4_1).f0.f4)) (p := ⟨g2, 5, none⟩) nb12 (.int .i64 (rd_T55 l0_2 x4_1).f0.f5)) (p := ⟨g2, 6, none⟩) nb12 (.string (rd_T55 l0_2 x4_1).f0.f6)) (p := ⟨g2, 7, none⟩) nb12 (.slice A7 (rd_T55 l0_2 x4_1).f0.f7.length c7_)) (p := ⟨g2, 8, none⟩) nb12 (.int .i64 (rd_T55 l0_2 x4_1).f0.f8))); have n2_ := Aside0.mk (show w101.heap[g2]? = some (.cells #[.int .i64 (rd_T55 l0_2 x4_1).f0.f0, .int .i64 (rd_T55 l0_2 x4_1).f0.f1, .int .i64 (rd_T55 l0_2 x4_1).f0.f2, .int .i64 (rd_T55 l0_2 x4_1).f0.f3, .int .i64 (rd_T55 l0_2 x4_1).f0.f4, .int .i64 (rd_T55 l0_2 x4_1).f0.f5, .string (rd_T55 l0_2 x4_1).f0.f6, .slice A7 (rd_T55 l0_2 x4_1).f0.f7.length c7_, .int .i64 (rd_T55 l0_2 x4_1).f0.f8] 53 (0, 0)) from (by rw [hw]; refine blk_put (cs := #[.int .i64 (rd_T55 l0_2 x4_1).f0.f0, .int .i64 (rd_T55 l0_2 x4_1).f0.f1, .int .i64 (rd_T55 l0_2 x4_1).f0.f2, .int .i64 (rd_T55 l0_2 x4_1).f0.f3, .int .i64 (rd_T55 l0_2 x4_1).f0.f4, .int .i64 (rd_T55 l0_2 x4_1).f0.f5, .string (rd_T55 l0_2 x4_1).f0.f6, .slice A7 (rd_T55 l0_2 x4_1).f0.f7.length c7_, .int .i64 0]) ?_ 8 _ rfl; refine blk_put (cs := #[.int .i64 (rd_T55 l0_2 x4_1).f0.f0, .int .i64 (rd_T55 l0_2 x4_1).f0.f1, .int .i64 (rd_T55 l0_2 x4_1).f0.f2, .int .i64 (rd_T55 l0_2 x4_1).f0.f3, .int .i64 (rd_T55 l0_2 x4_1).f0.f4, .int .i64 (rd_T55 l0_2 x4_1).f0.f5, .string (rd_T55 l0_2 x4_1).f0.f6, .slice none 0 0, .int .i64 0]) ?_ 7 _ rfl; refine blk_put (cs := #[.int .i64 (rd_T55 l0_2 x4_1).f0.f0, .int .i64 (rd_T55 l0_2 x4_1).f0.f1, .int .i64 (rd_T55 l0_2 x4_1).f0.f2, .int .i64 (rd_T55 l0_2 x4_1).f0.f3, .int .i64 (rd_T55 l0_2 x4_1).f0.f4, .int .i64 (rd_T55 l0_2 x4_1).f0.f5, .string (⟨#[]⟩ : ByteArray), .slice none 0 0, .int .i64 0]) ?_ 6 _ rfl; refine blk_put (cs := #[.int .i64 (rd_T55 l0_2 x4_1).f0.f0, .int .i64 (rd_T55 l0_2 x4_1).f0.f1, .int .i64 (rd_T55 l0_2 x4_1).f0.f2, .int .i64 (rd_T55 l0_2 x4_1).f0.f3, .int .i64 (rd_T55 l0_2 x4_1).f0.f4, .int .i64 0, .string (⟨#[]⟩ : ByteArray), .slice none 0 0, .int .i64 0]) ?_ 5 _ rfl; refine blk_put (cs := #[.int .i64 (rd_T55 l0_2 x4_1).f0.f0, .int .i64 (rd_T55 l0_2 x4_1).f0.f1, .int .i64 (rd_T55 l0_2 x4_1).f0.f2, .int .i64 (rd_T55 l0_2 x4_1).f0.f3, .int .i64 0, .int .i64 0, .string (⟨#[]⟩ : ByteArray), .slice none 0 0, .int .i64 0]) ?_ 4 _ rfl; refine blk_put (cs := #[.int .i64 (rd_T55 l0_2 x4_1).f0.f0, .int .i64 (rd_T55 l0_2 x4_1).f0.f1, .int .i64 (rd_T55 l0_2 x4_1).f0.f2, .int .i64 0, .int .i64 0, .int .i64 0, .string (⟨#[]⟩ : ByteArray), .slice none 0 0, .int .i64 0]) ?_ 3 _ rfl; refine blk_put (cs := #[.int .i64 (rd_T55 l0_2 x4_1).f0.f0, .int .i64 (rd_T55 l0_2 x4_1).f0.f1, .int .i64 0, .int .i64 0, .int .i64 0, .int .i64 0, .string (⟨#[]⟩ : ByteArray), .slice none 0 0, .int .i64 0]) ?_ 2 _ rfl; refine blk_put (cs := #[.int .i64 (rd_T55 l0_2 x4_1).f0.f0, .int .i64 0, .int .i64 0, .int .i64 0, .int .i64 0, .int .i64 0, .string (⟨#[]⟩ : ByteArray), .slice none 0 0, .int .i64 0]) ?_ 1 _ rfl; refine blk_put (cs := #[.int .i64 0, .int .i64 0, .int .i64 0, .int .i64 0, .int .i64 0, .int .i64 0, .string (⟨#[]⟩ : ByteArray), .slice none 0 0, .int .i64 0]) ?_ 0 _ rfl; exact BK2.out)); have n3_ := Aside0.mk (show Below w.heap.size w w101 from (by rw [hw]; exact below_set (below_set (below_set (below_set (below_set (below_set (below_set (below_set (below_set (HB.out) GE2.out) GE2.out) GE2.out) GE2.out) GE2.out) GE2.out) GE2.out) GE2.out) GE2.out)); clear HO BK1 BK2 HB hw; have HO := n0_; have BK1 := n1_; have BK2 := n2_; have HB := n3_; clear n0_ n1_ n2_ n3_; (with_reducible refine (spec_l02User.calls (rd_T55 l0_2 x4_1).f0.f2 true _ U1.out).mono ?_); rintro e w' ⟨rfl, hb_⟩; have hb := hb_.below; refine ⟨_, rfl, ?_⟩; have n0_ := Aside0.mk (Kd.R_below HO.out hb); have n1_ := Aside0.mk (blk_below BK1.out hb); have n2_ := Aside0.mk (blk_below BK2.out hb); have n3_ := Aside0.mk (below_step HB.out hb); clear HO BK1 BK2 HB hb hb_; have HO := n0_; have BK1 := n1_; have BK2 := n2_; have HB := n3_; clear n0_ n1_ n2_ n3_; obtain ⟨⟨hc2_0, hc2_1, hc2_2, hc2_3, hc2_4, hc2_5, hc2_6, hc2_7, hc2_8⟩, hd2_0, hd2_1, hd2_2, hd2_3, hd2_4, hd2_5, hd2_6, hd2_7, hd2_8⟩ := cells_9 BK2.out; obtain ⟨⟨ha2_0, ha2_1, ha2_2, ha2_3, ha2_4⟩, hb2_0, hb2_1, hb2_2, hb2_3, hb2_4⟩ := cells_5 BK1.out) | ((with_reducible refine gate_callee (f := 29) rfl ?_); refine goesL_ (some 26) rfl rfl Try.func29 (by kernel_rfl) rfl #[u3, .int .i64 (rd_T55 l0_2 x4_1).f0.f2] rfl (by (try simp only [List.map_toArray, List.map_cons, List.map_nil]); first | done | rfl) ?_; (try clear ha2_0 hb2_0 ha2_1 hb2_1 ha2_2 hb2_2 ha2_3 hb2_3 ha2_4 hb2_4); (try clear hc2_0 hd2_0 hc2_1 hd2_1 hc2_2 hd2_2 hc2_3 hd2_3 hc2_4 hd2_4 hc2_5 hd2_5 hc2_6 hd2_6 hc2_7 hd2_7 hc2_8 hd2_8); (with_reducible refine (spec_l03Set.calls k1 (fun k_ => some k_ = (u3 : Value).ownBlock) u3 x3_1 (rd_T55 l0_2 x4_1).f0.f2 y w _ HB.out (Kd.R_tight rfl HO.out) S1.out).mono ?_); rintro e w' ⟨va_, rfl, hy0, hb, hkp⟩; refine ⟨_, rfl, ?_⟩; have n0_ := Aside0.mk (Kd.R_mono (ok' := fun _ => True) hy0 (fun _ _ => trivial)); have n1_ := Aside0.mk (blk_kept BK1.out hkp (fun hs_ => (Kd.R_ne HO.out BK1.out (by decide)) hs_)); have n2_ := Aside0.mk (blk_kept BK2.out hkp (fun hs_ => (Kd.R_ne HO.out BK2.out (by decide)) hs_)); have n3_ := Aside0.mk hb; clear HO BK1 BK2 HB hb hkp hy0; have HO := n0_; have BK1 := n1_; have BK2 := n2_; have HB := n3_; clear n0_ n1_ n2_ n3_; obtain ⟨⟨hc3_0, hc3_1, hc3_2, hc3_3, hc3_4, hc3_5, hc3_6, hc3_7, hc3_8⟩, hd3_0, hd3_1, hd3_2, hd3_3, hd3_4, hd3_5, hd3_6, hd3_7, hd3_8⟩ := cells_9 BK2.out; obtain ⟨⟨ha3_0, ha3_1, ha3_2, ha3_3, ha3_4⟩, hb3_0, hb3_1, hb3_2, hb3_3, hb3_4⟩ := cells_5 BK1.out))
              go_roundg k1
              case measure => have := HK1.out; omega
              case rel => exact ⟨_, (wrap64 (x4_1 + 1)), (by first | rfl | (simp; done) | (simp [*]; done)), H', ⟨by have := HK1.out; omega⟩, ⟨HO.out⟩, ⟨BK1.out⟩, ⟨HB.out⟩⟩
          · have U1 := Aside0.mk u1
            clear u1 AS1
            rcases spec_Speakers.s2_cases AS2 with ⟨ck, u2, s2⟩ | ⟨ck, u2, rfl⟩ | ⟨ck, rfl⟩
            · clear AS2
              have c10b0 : ((rd_T55 l0_2 x4_1).f0.f3 == 2) = true := beq_iff_eq.mpr ck
              have U2 := Aside0.mk u2
              clear u2 ck
              have S2 := Aside0.mk s2
              clear s2
              go_wp2_with (first | ((with_reducible refine gate_dst (N := 5) rfl ?_); refine box_event ?hg (N := 5) ?hd (cs := #[.int .i64 0, .int .i64 0, .int .i64 0, .int .i64 0, .int .i64 0, .int .i64 0, .string (⟨#[]⟩ : ByteArray), .slice none 0 0, .int .i64 0]) (t := 53) ?hr ?_; (case hd => rfl); (case hg => rfl); (case hr => first | (go_simp; done) | (go_simp; rfl)); intro g2 hg w12 hbox hb; have n0_ := Aside0.mk (Kd.R_below HO.out hb); have n1_ := Aside0.mk (blk_below BK1.out hb); have n2_ := Aside0.mk (below_step HB.out hb); have BK2 := Aside0.mk (hbox); have GE2 := Aside0.mk ((by rw [hg]; exact (below_size HB.out)) : w.heap.size ≤ g2); have GL := Aside0.mk ((by rw [hg]; exact blk_lt BK1.out) : g1 < g2); clear HO BK1 HB; have HO := n0_; have BK1 := n1_; have HB := n2_; clear n0_ n1_ n2_; clear hb hbox hg; (try clear ha0_0 hb0_0 ha0_1 hb0_1 ha0_2 hb0_2 ha0_3 hb0_3 ha0_4 hb0_4); (try clear hc0_0 hd0_0 hc0_1 hd0_1 hc0_2 hd0_2 hc0_3 hd0_3 hc0_4 hd0_4 hc0_5 hd0_5 hc0_6 hd0_6 hc0_7 hd0_7 hc0_8 hd0_8); obtain ⟨⟨hc1_0, hc1_1, hc1_2, hc1_3, hc1_4, hc1_5, hc1_6, hc1_7, hc1_8⟩, hd1_0, hd1_1, hd1_2, hd1_3, hd1_4, hd1_5, hd1_6, hd1_7, hd1_8⟩ := cells_9 BK2.out; have nb12 : g1 ≠ g2 := Nat.ne_of_lt GL.out; have nb21 : g2 ≠ g1 := (Nat.ne_of_lt GL.out).symm; obtain ⟨⟨ha1_0, ha1_1, ha1_2, ha1_3, ha1_4⟩, hb1_0, hb1_1, hb1_2, hb1_3, hb1_4⟩ := cells_5 BK1.out) | ((with_reducible refine gate_callee (f := 28) rfl ?_); refine goesL_ (some 22) rfl rfl Try.func28 (by kernel_rfl) rfl #[.int .i64 (rd_T55 l0_2 x4_1).f0.f2] rfl (by (try simp only [List.map_toArray, List.map_cons, List.map_nil]); first | done | rfl) ?_; (try clear ha1_0 hb1_0 ha1_1 hb1_1 ha1_2 hb1_2 ha1_3 hb1_3 ha1_4 hb1_4); (try clear hc1_0 hd1_0 hc1_1 hd1_1 hc1_2 hd1_2 hc1_3 hd1_3 hc1_4 hd1_4 hc1_5 hd1_5 hc1_6 hd1_6 hc1_7 hd1_7 hc1_8 hd1_8); (try clear hx_0 hx_1 hx_2 hx_3 hx_4 hx_5 hx_6 hx_7 hx_8 hx_9); (obtain ⟨w101, hw⟩ : ∃ w_ : World, w_ = (((((((((w12.setCell ⟨g2, 0, none⟩ (.int .i64 (rd_T55 l0_2 x4_1).f0.f0)).setCell ⟨g2, 1, none⟩ (.int .i64 (rd_T55 l0_2 x4_1).f0.f1)).setCell ⟨g2, 2, none⟩ (.int .i64 (rd_T55 l0_2 x4_1).f0.f2)).setCell ⟨g2, 3, none⟩ (.int .i64 (rd_T55 l0_2 x4_1).f0.f3)).setCell ⟨g2, 4, none⟩ (.int .i64 (rd_T55 l0_2 x4_1).f0.f4)).setCell ⟨g2, 5, none⟩ (.int .i64 (rd_T55 l0_2 x4_1).f0.f5)).setCell ⟨g2, 6, none⟩ (.string (rd_T55 l0_2 x4_1).f0.f6)).setCell ⟨g2, 7, none⟩ (.slice A7 (rd_T55 l0_2 x4_1).f0.f7.length c7_)).setCell ⟨g2, 8, none⟩ (.int .i64 (rd_T55 l0_2 x4_1).f0.f8)) := ⟨_, rfl⟩); rw [← hw]; have n0_ := Aside0.mk (show Kd.R (Kd.int .i64) 2 w101 w.heap.size (fun _ => True) u3 x3_1 from (by rw [hw]; exact Kd.R_mono (Kd.R_far (p := ⟨g2, 8, none⟩) (Kd.R_far (p := ⟨g2, 7, none⟩) (Kd.R_far (p := ⟨g2, 6, none⟩) (Kd.R_far (p := ⟨g2, 5, none⟩) (Kd.R_far (p := ⟨g2, 4, none⟩) (Kd.R_far (p := ⟨g2, 3, none⟩) (Kd.R_far (p := ⟨g2, 2, none⟩) (Kd.R_far (p := ⟨g2, 1, none⟩) (Kd.R_far (p := ⟨g2, 0, none⟩) ((Kd.R_types HO.out BK2.out (by decide))) (fun _ hk => hk.2) (.int .i64 (rd_T55 l0_2 x4_1).f0.f0)) (fun _ hk => hk.2) (.int .i64 (rd_T55 l0_2 x4_1).f0.f1)) (fun _ hk => hk.2) (.int .i64 (rd_T55 l0_2 x4_1).f0.f2)) (fun _ hk => hk.2) (.int .i64 (rd_T55 l0_2 x4_1).f0.f3)) (fun _ hk => hk.2) (.int .i64 (rd_T55 l0_2 x4_1).f0.f4)) (fun _ hk => hk.2) (.int .i64 (rd_T55 l0_2 x4_1).f0.f5)) (fun _ hk => hk.2) (.string (rd_T55 l0_2 x4_1).f0.f6)) (fun _ hk => hk.2) (.slice A7 (rd_T55 l0_2 x4_1).f0.f7.length c7_)) (fun _ hk => hk.2) (.int .i64 (rd_T55 l0_2 x4_1).f0.f8)) (fun _ _ => trivial))); have n1_ := Aside0.mk (show w101.heap[g1]? = some (.cells #[.int .i64 a0_0, .slice A0_1 l0_1.length c0_1, .slice (some ad) l0_2.length c0_2, .bool a0_3, .int .i64 a0_4] 38 (0, 0)) from (by rw [hw]; exact blk_far (blk_far (blk_far (blk_far (blk_far (blk_far (blk_far (blk_far (blk_far (BK1.out) (p := ⟨g2, 0, none⟩) nb12 (.int .i64 (rd_T55 l0_2 x4_1).f0.f0)) (p := ⟨g2, 1, none⟩) nb12 (.int .i64 (rd_T55 l0_2 x4_1).f0.f1)) (p := ⟨g2, 2, none⟩) nb12 (.int .i64 (rd_T55 l0_2 x4_1).f0.f2)) (p := ⟨g2, 3, none⟩) nb12 (.int .i64 (rd_T55 l0_2 x4_1).f0.f3)) (p := ⟨g2, 4, none⟩) nb12 (.int .i64 (rd_T55 l0_2 x4_1).f0.f4)) (p := ⟨g2, 5, none⟩) nb12 (.int .i64 (rd_T55 l0_2 x4_1).f0.f5)) (p := ⟨g2, 6, none⟩) nb12 (.string (rd_T55 l0_2 x4_1).f0.f6)) (p := ⟨g2, 7, none⟩) nb12 (.slice A7 (rd_T55 l0_2 x4_1).f0.f7.length c7_)) (p := ⟨g2, 8, none⟩) nb12 (.int .i64 (rd_T55 l0_2 x4_1).f0.f8))); have n2_ := Aside0.mk (show w101.heap[g2]? = some (.cells #[.int .i64 (rd_T55 l0_2 x4_1).f0.f0, .int .i64 (rd_T55 l0_2 x4_1).f0.f1, .int .i64 (rd_T55 l0_2 x4_1).f0.f2, .int .i64 (rd_T55 l0_2 x4_1).f0.f3, .int .i64 (rd_T55 l0_2 x4_1).f0.f4, .int .i64 (rd_T55 l0_2 x4_1).f0.f5, .string (rd_T55 l0_2 x4_1).f0.f6, .slice A7 (rd_T55 l0_2 x4_1).f0.f7.length c7_, .int .i64 (rd_T55 l0_2 x4_1).f0.f8] 53 (0, 0)) from (by rw [hw]; refine blk_put (cs := #[.int .i64 (rd_T55 l0_2 x4_1).f0.f0, .int .i64 (rd_T55 l0_2 x4_1).f0.f1, .int .i64 (rd_T55 l0_2 x4_1).f0.f2, .int .i64 (rd_T55 l0_2 x4_1).f0.f3, .int .i64 (rd_T55 l0_2 x4_1).f0.f4, .int .i64 (rd_T55 l0_2 x4_1).f0.f5, .string (rd_T55 l0_2 x4_1).f0.f6, .slice A7 (rd_T55 l0_2 x4_1).f0.f7.length c7_, .int .i64 0]) ?_ 8 _ rfl; refine blk_put (cs := #[.int .i64 (rd_T55 l0_2 x4_1).f0.f0, .int .i64 (rd_T55 l0_2 x4_1).f0.f1, .int .i64 (rd_T55 l0_2 x4_1).f0.f2, .int .i64 (rd_T55 l0_2 x4_1).f0.f3, .int .i64 (rd_T55 l0_2 x4_1).f0.f4, .int .i64 (rd_T55 l0_2 x4_1).f0.f5, .string (rd_T55 l0_2 x4_1).f0.f6, .slice none 0 0, .int .i64 0]) ?_ 7 _ rfl; refine blk_put (cs := #[.int .i64 (rd_T55 l0_2 x4_1).f0.f0, .int .i64 (rd_T55 l0_2 x4_1).f0.f1, .int .i64 (rd_T55 l0_2 x4_1).f0.f2, .int .i64 (rd_T55 l0_2 x4_1).f0.f3, .int .i64 (rd_T55 l0_2 x4_1).f0.f4, .int .i64 (rd_T55 l0_2 x4_1).f0.f5, .string (⟨#[]⟩ : ByteArray), .slice none 0 0, .int .i64 0]) ?_ 6 _ rfl; refine blk_put (cs := #[.int .i64 (rd_T55 l0_2 x4_1).f0.f0, .int .i64 (rd_T55 l0_2 x4_1).f0.f1, .int .i64 (rd_T55 l0_2 x4_1).f0.f2, .int .i64 (rd_T55 l0_2 x4_1).f0.f3, .int .i64 (rd_T55 l0_2 x4_1).f0.f4, .int .i64 0, .string (⟨#[]⟩ : ByteArray), .slice none 0 0, .int .i64 0]) ?_ 5 _ rfl; refine blk_put (cs := #[.int .i64 (rd_T55 l0_2 x4_1).f0.f0, .int .i64 (rd_T55 l0_2 x4_1).f0.f1, .int .i64 (rd_T55 l0_2 x4_1).f0.f2, .int .i64 (rd_T55 l0_2 x4_1).f0.f3, .int .i64 0, .int .i64 0, .string (⟨#[]⟩ : ByteArray), .slice none 0 0, .int .i64 0]) ?_ 4 _ rfl; refine blk_put (cs := #[.int .i64 (rd_T55 l0_2 x4_1).f0.f0, .int .i64 (rd_T55 l0_2 x4_1).f0.f1, .int .i64 (rd_T55 l0_2 x4_1).f0.f2, .int .i64 0, .int .i64 0, .int .i64 0, .string (⟨#[]⟩ : ByteArray), .slice none 0 0, .int .i64 0]) ?_ 3 _ rfl; refine blk_put (cs := #[.int .i64 (rd_T55 l0_2 x4_1).f0.f0, .int .i64 (rd_T55 l0_2 x4_1).f0.f1, .int .i64 0, .int .i64 0, .int .i64 0, .int .i64 0, .string (⟨#[]⟩ : ByteArray), .slice none 0 0, .int .i64 0]) ?_ 2 _ rfl; refine blk_put (cs := #[.int .i64 (rd_T55 l0_2 x4_1).f0.f0, .int .i64 0, .int .i64 0, .int .i64 0, .int .i64 0, .int .i64 0, .string (⟨#[]⟩ : ByteArray), .slice none 0 0, .int .i64 0]) ?_ 1 _ rfl; refine blk_put (cs := #[.int .i64 0, .int .i64 0, .int .i64 0, .int .i64 0, .int .i64 0, .int .i64 0, .string (⟨#[]⟩ : ByteArray), .slice none 0 0, .int .i64 0]) ?_ 0 _ rfl; exact BK2.out)); have n3_ := Aside0.mk (show Below w.heap.size w w101 from (by rw [hw]; exact below_set (below_set (below_set (below_set (below_set (below_set (below_set (below_set (below_set (HB.out) GE2.out) GE2.out) GE2.out) GE2.out) GE2.out) GE2.out) GE2.out) GE2.out) GE2.out)); clear HO BK1 BK2 HB hw; have HO := n0_; have BK1 := n1_; have BK2 := n2_; have HB := n3_; clear n0_ n1_ n2_ n3_; (with_reducible refine (spec_l02User.calls (rd_T55 l0_2 x4_1).f0.f2 false _ U1.out).mono ?_); rintro e w' ⟨rfl, hb_⟩; have hb := hb_.below; refine ⟨_, rfl, ?_⟩; have n0_ := Aside0.mk (Kd.R_below HO.out hb); have n1_ := Aside0.mk (blk_below BK1.out hb); have n2_ := Aside0.mk (blk_below BK2.out hb); have n3_ := Aside0.mk (below_step HB.out hb); clear HO BK1 BK2 HB hb hb_; have HO := n0_; have BK1 := n1_; have BK2 := n2_; have HB := n3_; clear n0_ n1_ n2_ n3_; obtain ⟨⟨hc2_0, hc2_1, hc2_2, hc2_3, hc2_4, hc2_5, hc2_6, hc2_7, hc2_8⟩, hd2_0, hd2_1, hd2_2, hd2_3, hd2_4, hd2_5, hd2_6, hd2_7, hd2_8⟩ := cells_9 BK2.out; obtain ⟨⟨ha2_0, ha2_1, ha2_2, ha2_3, ha2_4⟩, hb2_0, hb2_1, hb2_2, hb2_3, hb2_4⟩ := cells_5 BK1.out) | (go_at_call 28; (try clear ha2_0 hb2_0 ha2_1 hb2_1 ha2_2 hb2_2 ha2_3 hb2_3 ha2_4 hb2_4); (try clear hc2_0 hd2_0 hc2_1 hd2_1 hc2_2 hd2_2 hc2_3 hd2_3 hc2_4 hd2_4 hc2_5 hd2_5 hc2_6 hd2_6 hc2_7 hd2_7 hc2_8 hd2_8); (with_reducible refine (spec_l02User.calls (rd_T55 l0_2 x4_1).f0.f4 true _ U2.out).mono ?_); rintro e w' ⟨rfl, hb_⟩; have hb := hb_.below; have n0_ := Aside0.mk (Kd.R_below HO.out hb); have n1_ := Aside0.mk (blk_below BK1.out hb); have n2_ := Aside0.mk (blk_below BK2.out hb); have n3_ := Aside0.mk (below_step HB.out hb); clear HO BK1 BK2 HB hb hb_; have HO := n0_; have BK1 := n1_; have BK2 := n2_; have HB := n3_; clear n0_ n1_ n2_ n3_; obtain ⟨⟨hc3_0, hc3_1, hc3_2, hc3_3, hc3_4, hc3_5, hc3_6, hc3_7, hc3_8⟩, hd3_0, hd3_1, hd3_2, hd3_3, hd3_4, hd3_5, hd3_6, hd3_7, hd3_8⟩ := cells_9 BK2.out; obtain ⟨⟨ha3_0, ha3_1, ha3_2, ha3_3, ha3_4⟩, hb3_0, hb3_1, hb3_2, hb3_3, hb3_4⟩ := cells_5 BK1.out) | ((with_reducible refine gate_callee (f := 29) rfl ?_); refine goesL_ (some 38) rfl rfl Try.func29 (by kernel_rfl) rfl #[u3, .int .i64 (rd_T55 l0_2 x4_1).f0.f4] rfl (by (try simp only [List.map_toArray, List.map_cons, List.map_nil]); first | done | rfl) ?_; (try clear ha3_0 hb3_0 ha3_1 hb3_1 ha3_2 hb3_2 ha3_3 hb3_3 ha3_4 hb3_4); (try clear hc3_0 hd3_0 hc3_1 hd3_1 hc3_2 hd3_2 hc3_3 hd3_3 hc3_4 hd3_4 hc3_5 hd3_5 hc3_6 hd3_6 hc3_7 hd3_7 hc3_8 hd3_8); (with_reducible refine (spec_l03Set.calls k1 (fun k_ => some k_ = (u3 : Value).ownBlock) u3 x3_1 (rd_T55 l0_2 x4_1).f0.f4 z w _ HB.out (Kd.R_tight rfl HO.out) S2.out).mono ?_); rintro e w' ⟨vb_, rfl, hy0, hb, hkp⟩; refine ⟨_, rfl, ?_⟩; have n0_ := Aside0.mk (Kd.R_mono (ok' := fun _ => True) hy0 (fun _ _ => trivial)); have n1_ := Aside0.mk (blk_kept BK1.out hkp (fun hs_ => (Kd.R_ne HO.out BK1.out (by decide)) hs_)); have n2_ := Aside0.mk (blk_kept BK2.out hkp (fun hs_ => (Kd.R_ne HO.out BK2.out (by decide)) hs_)); have n3_ := Aside0.mk hb; clear HO BK1 BK2 HB hb hkp hy0; have HO := n0_; have BK1 := n1_; have BK2 := n2_; have HB := n3_; clear n0_ n1_ n2_ n3_; obtain ⟨⟨hc4_0, hc4_1, hc4_2, hc4_3, hc4_4, hc4_5, hc4_6, hc4_7, hc4_8⟩, hd4_0, hd4_1, hd4_2, hd4_3, hd4_4, hd4_5, hd4_6, hd4_7, hd4_8⟩ := cells_9 BK2.out; obtain ⟨⟨ha4_0, ha4_1, ha4_2, ha4_3, ha4_4⟩, hb4_0, hb4_1, hb4_2, hb4_3, hb4_4⟩ := cells_5 BK1.out))
              go_roundg k1
              case measure => have := HK1.out; omega
              case rel => exact ⟨_, (wrap64 (x4_1 + 1)), (by first | rfl | (simp; done) | (simp [*]; done)), H', ⟨by have := HK1.out; omega⟩, ⟨HO.out⟩, ⟨BK1.out⟩, ⟨HB.out⟩⟩
            · clear AS2
              have c10b0 : ((rd_T55 l0_2 x4_1).f0.f3 == 2) = true := beq_iff_eq.mpr ck
              have U2 := Aside0.mk u2
              clear u2 ck
              go_wp2_with (first | ((with_reducible refine gate_dst (N := 5) rfl ?_); refine box_event ?hg (N := 5) ?hd (cs := #[.int .i64 0, .int .i64 0, .int .i64 0, .int .i64 0, .int .i64 0, .int .i64 0, .string (⟨#[]⟩ : ByteArray), .slice none 0 0, .int .i64 0]) (t := 53) ?hr ?_; (case hd => rfl); (case hg => rfl); (case hr => first | (go_simp; done) | (go_simp; rfl)); intro g2 hg w12 hbox hb; have n0_ := Aside0.mk (Kd.R_below HO.out hb); have n1_ := Aside0.mk (blk_below BK1.out hb); have n2_ := Aside0.mk (below_step HB.out hb); have BK2 := Aside0.mk (hbox); have GE2 := Aside0.mk ((by rw [hg]; exact (below_size HB.out)) : w.heap.size ≤ g2); have GL := Aside0.mk ((by rw [hg]; exact blk_lt BK1.out) : g1 < g2); clear HO BK1 HB; have HO := n0_; have BK1 := n1_; have HB := n2_; clear n0_ n1_ n2_; clear hb hbox hg; (try clear ha0_0 hb0_0 ha0_1 hb0_1 ha0_2 hb0_2 ha0_3 hb0_3 ha0_4 hb0_4); (try clear hc0_0 hd0_0 hc0_1 hd0_1 hc0_2 hd0_2 hc0_3 hd0_3 hc0_4 hd0_4 hc0_5 hd0_5 hc0_6 hd0_6 hc0_7 hd0_7 hc0_8 hd0_8); obtain ⟨⟨hc1_0, hc1_1, hc1_2, hc1_3, hc1_4, hc1_5, hc1_6, hc1_7, hc1_8⟩, hd1_0, hd1_1, hd1_2, hd1_3, hd1_4, hd1_5, hd1_6, hd1_7, hd1_8⟩ := cells_9 BK2.out; have nb12 : g1 ≠ g2 := Nat.ne_of_lt GL.out; have nb21 : g2 ≠ g1 := (Nat.ne_of_lt GL.out).symm; obtain ⟨⟨ha1_0, ha1_1, ha1_2, ha1_3, ha1_4⟩, hb1_0, hb1_1, hb1_2, hb1_3, hb1_4⟩ := cells_5 BK1.out) | ((with_reducible refine gate_callee (f := 28) rfl ?_); refine goesL_ (some 22) rfl rfl Try.func28 (by kernel_rfl) rfl #[.int .i64 (rd_T55 l0_2 x4_1).f0.f2] rfl (by (try simp only [List.map_toArray, List.map_cons, List.map_nil]); first | done | rfl) ?_; (try clear ha1_0 hb1_0 ha1_1 hb1_1 ha1_2 hb1_2 ha1_3 hb1_3 ha1_4 hb1_4); (try clear hc1_0 hd1_0 hc1_1 hd1_1 hc1_2 hd1_2 hc1_3 hd1_3 hc1_4 hd1_4 hc1_5 hd1_5 hc1_6 hd1_6 hc1_7 hd1_7 hc1_8 hd1_8); (try clear hx_0 hx_1 hx_2 hx_3 hx_4 hx_5 hx_6 hx_7 hx_8 hx_9); (obtain ⟨w101, hw⟩ : ∃ w_ : World, w_ = (((((((((w12.setCell ⟨g2, 0, none⟩ (.int .i64 (rd_T55 l0_2 x4_1).f0.f0)).setCell ⟨g2, 1, none⟩ (.int .i64 (rd_T55 l0_2 x4_1).f0.f1)).setCell ⟨g2, 2, none⟩ (.int .i64 (rd_T55 l0_2 x4_1).f0.f2)).setCell ⟨g2, 3, none⟩ (.int .i64 (rd_T55 l0_2 x4_1).f0.f3)).setCell ⟨g2, 4, none⟩ (.int .i64 (rd_T55 l0_2 x4_1).f0.f4)).setCell ⟨g2, 5, none⟩ (.int .i64 (rd_T55 l0_2 x4_1).f0.f5)).setCell ⟨g2, 6, none⟩ (.string (rd_T55 l0_2 x4_1).f0.f6)).setCell ⟨g2, 7, none⟩ (.slice A7 (rd_T55 l0_2 x4_1).f0.f7.length c7_)).setCell ⟨g2, 8, none⟩ (.int .i64 (rd_T55 l0_2 x4_1).f0.f8)) := ⟨_, rfl⟩); rw [← hw]; have n0_ := Aside0.mk (show Kd.R (Kd.int .i64) 2 w101 w.heap.size (fun _ => True) u3 x3_1 from (by rw [hw]; exact Kd.R_mono (Kd.R_far (p := ⟨g2, 8, none⟩) (Kd.R_far (p := ⟨g2, 7, none⟩) (Kd.R_far (p := ⟨g2, 6, none⟩) (Kd.R_far (p := ⟨g2, 5, none⟩) (Kd.R_far (p := ⟨g2, 4, none⟩) (Kd.R_far (p := ⟨g2, 3, none⟩) (Kd.R_far (p := ⟨g2, 2, none⟩) (Kd.R_far (p := ⟨g2, 1, none⟩) (Kd.R_far (p := ⟨g2, 0, none⟩) ((Kd.R_types HO.out BK2.out (by decide))) (fun _ hk => hk.2) (.int .i64 (rd_T55 l0_2 x4_1).f0.f0)) (fun _ hk => hk.2) (.int .i64 (rd_T55 l0_2 x4_1).f0.f1)) (fun _ hk => hk.2) (.int .i64 (rd_T55 l0_2 x4_1).f0.f2)) (fun _ hk => hk.2) (.int .i64 (rd_T55 l0_2 x4_1).f0.f3)) (fun _ hk => hk.2) (.int .i64 (rd_T55 l0_2 x4_1).f0.f4)) (fun _ hk => hk.2) (.int .i64 (rd_T55 l0_2 x4_1).f0.f5)) (fun _ hk => hk.2) (.string (rd_T55 l0_2 x4_1).f0.f6)) (fun _ hk => hk.2) (.slice A7 (rd_T55 l0_2 x4_1).f0.f7.length c7_)) (fun _ hk => hk.2) (.int .i64 (rd_T55 l0_2 x4_1).f0.f8)) (fun _ _ => trivial))); have n1_ := Aside0.mk (show w101.heap[g1]? = some (.cells #[.int .i64 a0_0, .slice A0_1 l0_1.length c0_1, .slice (some ad) l0_2.length c0_2, .bool a0_3, .int .i64 a0_4] 38 (0, 0)) from (by rw [hw]; exact blk_far (blk_far (blk_far (blk_far (blk_far (blk_far (blk_far (blk_far (blk_far (BK1.out) (p := ⟨g2, 0, none⟩) nb12 (.int .i64 (rd_T55 l0_2 x4_1).f0.f0)) (p := ⟨g2, 1, none⟩) nb12 (.int .i64 (rd_T55 l0_2 x4_1).f0.f1)) (p := ⟨g2, 2, none⟩) nb12 (.int .i64 (rd_T55 l0_2 x4_1).f0.f2)) (p := ⟨g2, 3, none⟩) nb12 (.int .i64 (rd_T55 l0_2 x4_1).f0.f3)) (p := ⟨g2, 4, none⟩) nb12 (.int .i64 (rd_T55 l0_2 x4_1).f0.f4)) (p := ⟨g2, 5, none⟩) nb12 (.int .i64 (rd_T55 l0_2 x4_1).f0.f5)) (p := ⟨g2, 6, none⟩) nb12 (.string (rd_T55 l0_2 x4_1).f0.f6)) (p := ⟨g2, 7, none⟩) nb12 (.slice A7 (rd_T55 l0_2 x4_1).f0.f7.length c7_)) (p := ⟨g2, 8, none⟩) nb12 (.int .i64 (rd_T55 l0_2 x4_1).f0.f8))); have n2_ := Aside0.mk (show w101.heap[g2]? = some (.cells #[.int .i64 (rd_T55 l0_2 x4_1).f0.f0, .int .i64 (rd_T55 l0_2 x4_1).f0.f1, .int .i64 (rd_T55 l0_2 x4_1).f0.f2, .int .i64 (rd_T55 l0_2 x4_1).f0.f3, .int .i64 (rd_T55 l0_2 x4_1).f0.f4, .int .i64 (rd_T55 l0_2 x4_1).f0.f5, .string (rd_T55 l0_2 x4_1).f0.f6, .slice A7 (rd_T55 l0_2 x4_1).f0.f7.length c7_, .int .i64 (rd_T55 l0_2 x4_1).f0.f8] 53 (0, 0)) from (by rw [hw]; refine blk_put (cs := #[.int .i64 (rd_T55 l0_2 x4_1).f0.f0, .int .i64 (rd_T55 l0_2 x4_1).f0.f1, .int .i64 (rd_T55 l0_2 x4_1).f0.f2, .int .i64 (rd_T55 l0_2 x4_1).f0.f3, .int .i64 (rd_T55 l0_2 x4_1).f0.f4, .int .i64 (rd_T55 l0_2 x4_1).f0.f5, .string (rd_T55 l0_2 x4_1).f0.f6, .slice A7 (rd_T55 l0_2 x4_1).f0.f7.length c7_, .int .i64 0]) ?_ 8 _ rfl; refine blk_put (cs := #[.int .i64 (rd_T55 l0_2 x4_1).f0.f0, .int .i64 (rd_T55 l0_2 x4_1).f0.f1, .int .i64 (rd_T55 l0_2 x4_1).f0.f2, .int .i64 (rd_T55 l0_2 x4_1).f0.f3, .int .i64 (rd_T55 l0_2 x4_1).f0.f4, .int .i64 (rd_T55 l0_2 x4_1).f0.f5, .string (rd_T55 l0_2 x4_1).f0.f6, .slice none 0 0, .int .i64 0]) ?_ 7 _ rfl; refine blk_put (cs := #[.int .i64 (rd_T55 l0_2 x4_1).f0.f0, .int .i64 (rd_T55 l0_2 x4_1).f0.f1, .int .i64 (rd_T55 l0_2 x4_1).f0.f2, .int .i64 (rd_T55 l0_2 x4_1).f0.f3, .int .i64 (rd_T55 l0_2 x4_1).f0.f4, .int .i64 (rd_T55 l0_2 x4_1).f0.f5, .string (⟨#[]⟩ : ByteArray), .slice none 0 0, .int .i64 0]) ?_ 6 _ rfl; refine blk_put (cs := #[.int .i64 (rd_T55 l0_2 x4_1).f0.f0, .int .i64 (rd_T55 l0_2 x4_1).f0.f1, .int .i64 (rd_T55 l0_2 x4_1).f0.f2, .int .i64 (rd_T55 l0_2 x4_1).f0.f3, .int .i64 (rd_T55 l0_2 x4_1).f0.f4, .int .i64 0, .string (⟨#[]⟩ : ByteArray), .slice none 0 0, .int .i64 0]) ?_ 5 _ rfl; refine blk_put (cs := #[.int .i64 (rd_T55 l0_2 x4_1).f0.f0, .int .i64 (rd_T55 l0_2 x4_1).f0.f1, .int .i64 (rd_T55 l0_2 x4_1).f0.f2, .int .i64 (rd_T55 l0_2 x4_1).f0.f3, .int .i64 0, .int .i64 0, .string (⟨#[]⟩ : ByteArray), .slice none 0 0, .int .i64 0]) ?_ 4 _ rfl; refine blk_put (cs := #[.int .i64 (rd_T55 l0_2 x4_1).f0.f0, .int .i64 (rd_T55 l0_2 x4_1).f0.f1, .int .i64 (rd_T55 l0_2 x4_1).f0.f2, .int .i64 0, .int .i64 0, .int .i64 0, .string (⟨#[]⟩ : ByteArray), .slice none 0 0, .int .i64 0]) ?_ 3 _ rfl; refine blk_put (cs := #[.int .i64 (rd_T55 l0_2 x4_1).f0.f0, .int .i64 (rd_T55 l0_2 x4_1).f0.f1, .int .i64 0, .int .i64 0, .int .i64 0, .int .i64 0, .string (⟨#[]⟩ : ByteArray), .slice none 0 0, .int .i64 0]) ?_ 2 _ rfl; refine blk_put (cs := #[.int .i64 (rd_T55 l0_2 x4_1).f0.f0, .int .i64 0, .int .i64 0, .int .i64 0, .int .i64 0, .int .i64 0, .string (⟨#[]⟩ : ByteArray), .slice none 0 0, .int .i64 0]) ?_ 1 _ rfl; refine blk_put (cs := #[.int .i64 0, .int .i64 0, .int .i64 0, .int .i64 0, .int .i64 0, .int .i64 0, .string (⟨#[]⟩ : ByteArray), .slice none 0 0, .int .i64 0]) ?_ 0 _ rfl; exact BK2.out)); have n3_ := Aside0.mk (show Below w.heap.size w w101 from (by rw [hw]; exact below_set (below_set (below_set (below_set (below_set (below_set (below_set (below_set (below_set (HB.out) GE2.out) GE2.out) GE2.out) GE2.out) GE2.out) GE2.out) GE2.out) GE2.out) GE2.out)); clear HO BK1 BK2 HB hw; have HO := n0_; have BK1 := n1_; have BK2 := n2_; have HB := n3_; clear n0_ n1_ n2_ n3_; (with_reducible refine (spec_l02User.calls (rd_T55 l0_2 x4_1).f0.f2 false _ U1.out).mono ?_); rintro e w' ⟨rfl, hb_⟩; have hb := hb_.below; refine ⟨_, rfl, ?_⟩; have n0_ := Aside0.mk (Kd.R_below HO.out hb); have n1_ := Aside0.mk (blk_below BK1.out hb); have n2_ := Aside0.mk (blk_below BK2.out hb); have n3_ := Aside0.mk (below_step HB.out hb); clear HO BK1 BK2 HB hb hb_; have HO := n0_; have BK1 := n1_; have BK2 := n2_; have HB := n3_; clear n0_ n1_ n2_ n3_; obtain ⟨⟨hc2_0, hc2_1, hc2_2, hc2_3, hc2_4, hc2_5, hc2_6, hc2_7, hc2_8⟩, hd2_0, hd2_1, hd2_2, hd2_3, hd2_4, hd2_5, hd2_6, hd2_7, hd2_8⟩ := cells_9 BK2.out; obtain ⟨⟨ha2_0, ha2_1, ha2_2, ha2_3, ha2_4⟩, hb2_0, hb2_1, hb2_2, hb2_3, hb2_4⟩ := cells_5 BK1.out) | (go_at_call 28; (try clear ha2_0 hb2_0 ha2_1 hb2_1 ha2_2 hb2_2 ha2_3 hb2_3 ha2_4 hb2_4); (try clear hc2_0 hd2_0 hc2_1 hd2_1 hc2_2 hd2_2 hc2_3 hd2_3 hc2_4 hd2_4 hc2_5 hd2_5 hc2_6 hd2_6 hc2_7 hd2_7 hc2_8 hd2_8); (with_reducible refine (spec_l02User.calls (rd_T55 l0_2 x4_1).f0.f4 false _ U2.out).mono ?_); rintro e w' ⟨rfl, hb_⟩; have hb := hb_.below; have n0_ := Aside0.mk (Kd.R_below HO.out hb); have n1_ := Aside0.mk (blk_below BK1.out hb); have n2_ := Aside0.mk (blk_below BK2.out hb); have n3_ := Aside0.mk (below_step HB.out hb); clear HO BK1 BK2 HB hb hb_; have HO := n0_; have BK1 := n1_; have BK2 := n2_; have HB := n3_; clear n0_ n1_ n2_ n3_; obtain ⟨⟨hc3_0, hc3_1, hc3_2, hc3_3, hc3_4, hc3_5, hc3_6, hc3_7, hc3_8⟩, hd3_0, hd3_1, hd3_2, hd3_3, hd3_4, hd3_5, hd3_6, hd3_7, hd3_8⟩ := cells_9 BK2.out; obtain ⟨⟨ha3_0, ha3_1, ha3_2, ha3_3, ha3_4⟩, hb3_0, hb3_1, hb3_2, hb3_3, hb3_4⟩ := cells_5 BK1.out))
              go_roundg k1
              case measure => have := HK1.out; omega
              case rel => exact ⟨_, (wrap64 (x4_1 + 1)), (by first | rfl | (simp; done) | (simp [*]; done)), H', ⟨by have := HK1.out; omega⟩, ⟨HO.out⟩, ⟨BK1.out⟩, ⟨HB.out⟩⟩
            · clear AS2
              have c10b0 : ((rd_T55 l0_2 x4_1).f0.f3 == 2) = false := beq_eq_false_iff_ne.mpr ck
              clear ck
              go_wp2_with (first | ((with_reducible refine gate_dst (N := 5) rfl ?_); refine box_event ?hg (N := 5) ?hd (cs := #[.int .i64 0, .int .i64 0, .int .i64 0, .int .i64 0, .int .i64 0, .int .i64 0, .string (⟨#[]⟩ : ByteArray), .slice none 0 0, .int .i64 0]) (t := 53) ?hr ?_; (case hd => rfl); (case hg => rfl); (case hr => first | (go_simp; done) | (go_simp; rfl)); intro g2 hg w12 hbox hb; have n0_ := Aside0.mk (Kd.R_below HO.out hb); have n1_ := Aside0.mk (blk_below BK1.out hb); have n2_ := Aside0.mk (below_step HB.out hb); have BK2 := Aside0.mk (hbox); have GE2 := Aside0.mk ((by rw [hg]; exact (below_size HB.out)) : w.heap.size ≤ g2); have GL := Aside0.mk ((by rw [hg]; exact blk_lt BK1.out) : g1 < g2); clear HO BK1 HB; have HO := n0_; have BK1 := n1_; have HB := n2_; clear n0_ n1_ n2_; clear hb hbox hg; (try clear ha0_0 hb0_0 ha0_1 hb0_1 ha0_2 hb0_2 ha0_3 hb0_3 ha0_4 hb0_4); (try clear hc0_0 hd0_0 hc0_1 hd0_1 hc0_2 hd0_2 hc0_3 hd0_3 hc0_4 hd0_4 hc0_5 hd0_5 hc0_6 hd0_6 hc0_7 hd0_7 hc0_8 hd0_8); obtain ⟨⟨hc1_0, hc1_1, hc1_2, hc1_3, hc1_4, hc1_5, hc1_6, hc1_7, hc1_8⟩, hd1_0, hd1_1, hd1_2, hd1_3, hd1_4, hd1_5, hd1_6, hd1_7, hd1_8⟩ := cells_9 BK2.out; have nb12 : g1 ≠ g2 := Nat.ne_of_lt GL.out; have nb21 : g2 ≠ g1 := (Nat.ne_of_lt GL.out).symm; obtain ⟨⟨ha1_0, ha1_1, ha1_2, ha1_3, ha1_4⟩, hb1_0, hb1_1, hb1_2, hb1_3, hb1_4⟩ := cells_5 BK1.out) | ((with_reducible refine gate_callee (f := 28) rfl ?_); refine goesL_ (some 22) rfl rfl Try.func28 (by kernel_rfl) rfl #[.int .i64 (rd_T55 l0_2 x4_1).f0.f2] rfl (by (try simp only [List.map_toArray, List.map_cons, List.map_nil]); first | done | rfl) ?_; (try clear ha1_0 hb1_0 ha1_1 hb1_1 ha1_2 hb1_2 ha1_3 hb1_3 ha1_4 hb1_4); (try clear hc1_0 hd1_0 hc1_1 hd1_1 hc1_2 hd1_2 hc1_3 hd1_3 hc1_4 hd1_4 hc1_5 hd1_5 hc1_6 hd1_6 hc1_7 hd1_7 hc1_8 hd1_8); (try clear hx_0 hx_1 hx_2 hx_3 hx_4 hx_5 hx_6 hx_7 hx_8 hx_9); (obtain ⟨w101, hw⟩ : ∃ w_ : World, w_ = (((((((((w12.setCell ⟨g2, 0, none⟩ (.int .i64 (rd_T55 l0_2 x4_1).f0.f0)).setCell ⟨g2, 1, none⟩ (.int .i64 (rd_T55 l0_2 x4_1).f0.f1)).setCell ⟨g2, 2, none⟩ (.int .i64 (rd_T55 l0_2 x4_1).f0.f2)).setCell ⟨g2, 3, none⟩ (.int .i64 (rd_T55 l0_2 x4_1).f0.f3)).setCell ⟨g2, 4, none⟩ (.int .i64 (rd_T55 l0_2 x4_1).f0.f4)).setCell ⟨g2, 5, none⟩ (.int .i64 (rd_T55 l0_2 x4_1).f0.f5)).setCell ⟨g2, 6, none⟩ (.string (rd_T55 l0_2 x4_1).f0.f6)).setCell ⟨g2, 7, none⟩ (.slice A7 (rd_T55 l0_2 x4_1).f0.f7.length c7_)).setCell ⟨g2, 8, none⟩ (.int .i64 (rd_T55 l0_2 x4_1).f0.f8)) := ⟨_, rfl⟩); rw [← hw]; have n0_ := Aside0.mk (show Kd.R (Kd.int .i64) 2 w101 w.heap.size (fun _ => True) u3 x3_1 from (by rw [hw]; exact Kd.R_mono (Kd.R_far (p := ⟨g2, 8, none⟩) (Kd.R_far (p := ⟨g2, 7, none⟩) (Kd.R_far (p := ⟨g2, 6, none⟩) (Kd.R_far (p := ⟨g2, 5, none⟩) (Kd.R_far (p := ⟨g2, 4, none⟩) (Kd.R_far (p := ⟨g2, 3, none⟩) (Kd.R_far (p := ⟨g2, 2, none⟩) (Kd.R_far (p := ⟨g2, 1, none⟩) (Kd.R_far (p := ⟨g2, 0, none⟩) ((Kd.R_types HO.out BK2.out (by decide))) (fun _ hk => hk.2) (.int .i64 (rd_T55 l0_2 x4_1).f0.f0)) (fun _ hk => hk.2) (.int .i64 (rd_T55 l0_2 x4_1).f0.f1)) (fun _ hk => hk.2) (.int .i64 (rd_T55 l0_2 x4_1).f0.f2)) (fun _ hk => hk.2) (.int .i64 (rd_T55 l0_2 x4_1).f0.f3)) (fun _ hk => hk.2) (.int .i64 (rd_T55 l0_2 x4_1).f0.f4)) (fun _ hk => hk.2) (.int .i64 (rd_T55 l0_2 x4_1).f0.f5)) (fun _ hk => hk.2) (.string (rd_T55 l0_2 x4_1).f0.f6)) (fun _ hk => hk.2) (.slice A7 (rd_T55 l0_2 x4_1).f0.f7.length c7_)) (fun _ hk => hk.2) (.int .i64 (rd_T55 l0_2 x4_1).f0.f8)) (fun _ _ => trivial))); have n1_ := Aside0.mk (show w101.heap[g1]? = some (.cells #[.int .i64 a0_0, .slice A0_1 l0_1.length c0_1, .slice (some ad) l0_2.length c0_2, .bool a0_3, .int .i64 a0_4] 38 (0, 0)) from (by rw [hw]; exact blk_far (blk_far (blk_far (blk_far (blk_far (blk_far (blk_far (blk_far (blk_far (BK1.out) (p := ⟨g2, 0, none⟩) nb12 (.int .i64 (rd_T55 l0_2 x4_1).f0.f0)) (p := ⟨g2, 1, none⟩) nb12 (.int .i64 (rd_T55 l0_2 x4_1).f0.f1)) (p := ⟨g2, 2, none⟩) nb12 (.int .i64 (rd_T55 l0_2 x4_1).f0.f2)) (p := ⟨g2, 3, none⟩) nb12 (.int .i64 (rd_T55 l0_2 x4_1).f0.f3)) (p := ⟨g2, 4, none⟩) nb12 (.int .i64 (rd_T55 l0_2 x4_1).f0.f4)) (p := ⟨g2, 5, none⟩) nb12 (.int .i64 (rd_T55 l0_2 x4_1).f0.f5)) (p := ⟨g2, 6, none⟩) nb12 (.string (rd_T55 l0_2 x4_1).f0.f6)) (p := ⟨g2, 7, none⟩) nb12 (.slice A7 (rd_T55 l0_2 x4_1).f0.f7.length c7_)) (p := ⟨g2, 8, none⟩) nb12 (.int .i64 (rd_T55 l0_2 x4_1).f0.f8))); have n2_ := Aside0.mk (show w101.heap[g2]? = some (.cells #[.int .i64 (rd_T55 l0_2 x4_1).f0.f0, .int .i64 (rd_T55 l0_2 x4_1).f0.f1, .int .i64 (rd_T55 l0_2 x4_1).f0.f2, .int .i64 (rd_T55 l0_2 x4_1).f0.f3, .int .i64 (rd_T55 l0_2 x4_1).f0.f4, .int .i64 (rd_T55 l0_2 x4_1).f0.f5, .string (rd_T55 l0_2 x4_1).f0.f6, .slice A7 (rd_T55 l0_2 x4_1).f0.f7.length c7_, .int .i64 (rd_T55 l0_2 x4_1).f0.f8] 53 (0, 0)) from (by rw [hw]; refine blk_put (cs := #[.int .i64 (rd_T55 l0_2 x4_1).f0.f0, .int .i64 (rd_T55 l0_2 x4_1).f0.f1, .int .i64 (rd_T55 l0_2 x4_1).f0.f2, .int .i64 (rd_T55 l0_2 x4_1).f0.f3, .int .i64 (rd_T55 l0_2 x4_1).f0.f4, .int .i64 (rd_T55 l0_2 x4_1).f0.f5, .string (rd_T55 l0_2 x4_1).f0.f6, .slice A7 (rd_T55 l0_2 x4_1).f0.f7.length c7_, .int .i64 0]) ?_ 8 _ rfl; refine blk_put (cs := #[.int .i64 (rd_T55 l0_2 x4_1).f0.f0, .int .i64 (rd_T55 l0_2 x4_1).f0.f1, .int .i64 (rd_T55 l0_2 x4_1).f0.f2, .int .i64 (rd_T55 l0_2 x4_1).f0.f3, .int .i64 (rd_T55 l0_2 x4_1).f0.f4, .int .i64 (rd_T55 l0_2 x4_1).f0.f5, .string (rd_T55 l0_2 x4_1).f0.f6, .slice none 0 0, .int .i64 0]) ?_ 7 _ rfl; refine blk_put (cs := #[.int .i64 (rd_T55 l0_2 x4_1).f0.f0, .int .i64 (rd_T55 l0_2 x4_1).f0.f1, .int .i64 (rd_T55 l0_2 x4_1).f0.f2, .int .i64 (rd_T55 l0_2 x4_1).f0.f3, .int .i64 (rd_T55 l0_2 x4_1).f0.f4, .int .i64 (rd_T55 l0_2 x4_1).f0.f5, .string (⟨#[]⟩ : ByteArray), .slice none 0 0, .int .i64 0]) ?_ 6 _ rfl; refine blk_put (cs := #[.int .i64 (rd_T55 l0_2 x4_1).f0.f0, .int .i64 (rd_T55 l0_2 x4_1).f0.f1, .int .i64 (rd_T55 l0_2 x4_1).f0.f2, .int .i64 (rd_T55 l0_2 x4_1).f0.f3, .int .i64 (rd_T55 l0_2 x4_1).f0.f4, .int .i64 0, .string (⟨#[]⟩ : ByteArray), .slice none 0 0, .int .i64 0]) ?_ 5 _ rfl; refine blk_put (cs := #[.int .i64 (rd_T55 l0_2 x4_1).f0.f0, .int .i64 (rd_T55 l0_2 x4_1).f0.f1, .int .i64 (rd_T55 l0_2 x4_1).f0.f2, .int .i64 (rd_T55 l0_2 x4_1).f0.f3, .int .i64 0, .int .i64 0, .string (⟨#[]⟩ : ByteArray), .slice none 0 0, .int .i64 0]) ?_ 4 _ rfl; refine blk_put (cs := #[.int .i64 (rd_T55 l0_2 x4_1).f0.f0, .int .i64 (rd_T55 l0_2 x4_1).f0.f1, .int .i64 (rd_T55 l0_2 x4_1).f0.f2, .int .i64 0, .int .i64 0, .int .i64 0, .string (⟨#[]⟩ : ByteArray), .slice none 0 0, .int .i64 0]) ?_ 3 _ rfl; refine blk_put (cs := #[.int .i64 (rd_T55 l0_2 x4_1).f0.f0, .int .i64 (rd_T55 l0_2 x4_1).f0.f1, .int .i64 0, .int .i64 0, .int .i64 0, .int .i64 0, .string (⟨#[]⟩ : ByteArray), .slice none 0 0, .int .i64 0]) ?_ 2 _ rfl; refine blk_put (cs := #[.int .i64 (rd_T55 l0_2 x4_1).f0.f0, .int .i64 0, .int .i64 0, .int .i64 0, .int .i64 0, .int .i64 0, .string (⟨#[]⟩ : ByteArray), .slice none 0 0, .int .i64 0]) ?_ 1 _ rfl; refine blk_put (cs := #[.int .i64 0, .int .i64 0, .int .i64 0, .int .i64 0, .int .i64 0, .int .i64 0, .string (⟨#[]⟩ : ByteArray), .slice none 0 0, .int .i64 0]) ?_ 0 _ rfl; exact BK2.out)); have n3_ := Aside0.mk (show Below w.heap.size w w101 from (by rw [hw]; exact below_set (below_set (below_set (below_set (below_set (below_set (below_set (below_set (below_set (HB.out) GE2.out) GE2.out) GE2.out) GE2.out) GE2.out) GE2.out) GE2.out) GE2.out) GE2.out)); clear HO BK1 BK2 HB hw; have HO := n0_; have BK1 := n1_; have BK2 := n2_; have HB := n3_; clear n0_ n1_ n2_ n3_; (with_reducible refine (spec_l02User.calls (rd_T55 l0_2 x4_1).f0.f2 false _ U1.out).mono ?_); rintro e w' ⟨rfl, hb_⟩; have hb := hb_.below; refine ⟨_, rfl, ?_⟩; have n0_ := Aside0.mk (Kd.R_below HO.out hb); have n1_ := Aside0.mk (blk_below BK1.out hb); have n2_ := Aside0.mk (blk_below BK2.out hb); have n3_ := Aside0.mk (below_step HB.out hb); clear HO BK1 BK2 HB hb hb_; have HO := n0_; have BK1 := n1_; have BK2 := n2_; have HB := n3_; clear n0_ n1_ n2_ n3_; obtain ⟨⟨hc2_0, hc2_1, hc2_2, hc2_3, hc2_4, hc2_5, hc2_6, hc2_7, hc2_8⟩, hd2_0, hd2_1, hd2_2, hd2_3, hd2_4, hd2_5, hd2_6, hd2_7, hd2_8⟩ := cells_9 BK2.out; obtain ⟨⟨ha2_0, ha2_1, ha2_2, ha2_3, ha2_4⟩, hb2_0, hb2_1, hb2_2, hb2_3, hb2_4⟩ := cells_5 BK1.out))
              go_roundg k1
              case measure => have := HK1.out; omega
              case rel => exact ⟨_, (wrap64 (x4_1 + 1)), (by first | rfl | (simp; done) | (simp [*]; done)), H', ⟨by have := HK1.out; omega⟩, ⟨HO.out⟩, ⟨BK1.out⟩, ⟨HB.out⟩⟩
        · rw [if_neg c7] at H
          exact absurd H (by simp)
      · rw [if_neg c6] at H
        have c6b0 : decide (x4_1 < (l0_2.length : Int)) = false := decide_eq_false c6
        clear c6
        obtain rfl := Option.some.inj H
        go_wp2
        go_ret
        exact ⟨_, by first | rfl | (simp [errW_none, errW_some] <;> rfl) | (simp [*, errW_none, errW_some] <;> rfl), HO.out, HB.out⟩

/-! ### laws_toEntry: function 23 -/
def laws_toEntry.f (a0_0 : Int) (a0_1 : Int) (a0_2 : Int) : Option (Int × Int × Int) := some (a0_0, a0_1, a0_2)
set_option maxHeartbeats 8000000 in
set_option maxRecDepth 100000 in
theorem laws_toEntry.calls (a0_0 : Int) (a0_1 : Int) (a0_2 : Int) (r1 : Int) (r2 : Int) (r3 : Int) (w : World) (h : laws_toEntry.f a0_0 a0_1 a0_2 = some (r1, r2, r3)) :
    Calls Try.prog 23 #[.agg #[.int .i64 a0_0, .int .i64 a0_1, .int .i64 a0_2]] w fun e w' => e = .returned (.agg #[.int .i64 r1, .int .i64 r2, .int .i64 r3]) ∧ Below w.heap.size w w' := by
 have hu49 := Try.underlying49
 have hu47 := Try.underlying47
 have HB := Aside0.mk (Below.refl w.heap.size w)
 have H : (some (a0_0, a0_1, a0_2)) = some (r1, r2, r3) := h
 clear h
 simp only [Option.some.injEq, Prod.mk.injEq] at H
 obtain ⟨rfl, rfl, rfl⟩ := H
 go_enter Try.func23, Try.ntmps23
 go_wp2_with (first | ((with_reducible refine gate_dst (N := 1) rfl ?_); refine box_event ?hg (N := 1) ?hd (cs := #[.int .i64 a0_0, .int .i64 a0_1, .int .i64 a0_2]) (t := 49) ?hr ?_; (case hd => rfl); (case hg => rfl); (case hr => first | (go_simp; done) | (go_simp; rfl)); intro gb153 hg w2 hbox hb; have n0_ := Aside0.mk (below_step HB.out hb); have n1_ := Aside0.mk (hbox); have n2_ := Aside0.mk ((by rw [hg]; exact (below_size HB.out) : w.heap.size ≤ gb153)); have n3_ := Aside0.mk ((by rw [hg]; exact (below_size HB.out) : w.heap.size ≤ gb153)); clear HB; have HB := n0_; have BK153 := n1_; have GW153 := n2_; have GE153 := n3_; clear n0_ n1_ n2_ n3_; clear hb hbox hg) | ((with_reducible refine gate_dst (N := 2) rfl ?_); refine box_event ?hg (N := 2) ?hd (cs := #[.int .i64 0, .int .i64 0, .int .i64 0]) (t := 47) ?hr ?_; (case hd => rfl); (case hg => rfl); (case hr => first | (go_simp; done) | (go_simp; rfl)); intro gb154 hg w3 hbox hb; have n0_ := Aside0.mk (blk_below BK153.out hb); have n1_ := Aside0.mk (below_step HB.out hb); have n2_ := Aside0.mk (hbox); have n3_ := Aside0.mk ((by rw [hg]; exact (below_size HB.out) : w.heap.size ≤ gb154)); have n4_ := Aside0.mk ((by rw [hg]; exact (below_size HB.out) : w.heap.size ≤ gb154)); have n5_ := Aside0.mk ((by rw [hg]; exact Nat.ne_of_lt (blk_lt BK153.out) : gb153 ≠ gb154)); have n6_ := Aside0.mk ((by rw [hg]; exact Nat.ne_of_gt (blk_lt BK153.out) : gb154 ≠ gb153)); clear BK153; clear HB; have BK153 := n0_; have HB := n1_; have BK154 := n2_; have GW154 := n3_; have GE154 := n4_; have NB153_154 := n5_; have NB154_153 := n6_; clear n0_ n1_ n2_ n3_ n4_ n5_ n6_; clear hb hbox hg) | ((with_reducible refine gate_dst (N := 3) rfl ?_); refine box_event ?hg (N := 3) ?hd (cs := #[.int .i64 0, .int .i64 0, .int .i64 0]) (t := 47) ?hr ?_; (case hd => rfl); (case hg => rfl); (case hr => first | (go_simp; done) | (go_simp; rfl)); intro gb155 hg w4 hbox hb; have n0_ := Aside0.mk (blk_below BK153.out hb); have n1_ := Aside0.mk (blk_below BK154.out hb); have n2_ := Aside0.mk (below_step HB.out hb); have n3_ := Aside0.mk (hbox); have n4_ := Aside0.mk ((by rw [hg]; exact (below_size HB.out) : w.heap.size ≤ gb155)); have n5_ := Aside0.mk ((by rw [hg]; exact (below_size HB.out) : w.heap.size ≤ gb155)); have n6_ := Aside0.mk ((by rw [hg]; exact Nat.ne_of_lt (blk_lt BK153.out) : gb153 ≠ gb155)); have n7_ := Aside0.mk ((by rw [hg]; exact Nat.ne_of_gt (blk_lt BK153.out) : gb155 ≠ gb153)); have n8_ := Aside0.mk ((by rw [hg]; exact Nat.ne_of_lt (blk_lt BK154.out) : gb154 ≠ gb155)); have n9_ := Aside0.mk ((by rw [hg]; exact Nat.ne_of_gt (blk_lt BK154.out) : gb155 ≠ gb154)); clear BK153; clear BK154; clear HB; have BK153 := n0_; have BK154 := n1_; have HB := n2_; have BK155 := n3_; have GW155 := n4_; have GE155 := n5_; have NB153_155 := n6_; have NB155_153 := n7_; have NB154_155 := n8_; have NB155_154 := n9_; clear n0_ n1_ n2_ n3_ n4_ n5_ n6_ n7_ n8_ n9_; clear hb hbox hg; have hnb5 := NB153_154.out; have hnc5 := NB154_153.out; have hnb6 := NB153_155.out; have hnc6 := NB155_153.out; obtain ⟨⟨hcz7_0, hcz7_1, hcz7_2⟩, hfz7_0, hfz7_1, hfz7_2⟩ := cells_3 BK153.out; have hnb8 := NB155_154.out; have hnc8 := NB154_155.out; obtain ⟨⟨hcz9_0, hcz9_1, hcz9_2⟩, hfz9_0, hfz9_1, hfz9_2⟩ := cells_3 BK155.out; obtain ⟨⟨hcz10_0, hcz10_1, hcz10_2⟩, hfz10_0, hfz10_1, hfz10_2⟩ := cells_3 BK154.out))
 refine bodyPost_ret (results_cell_row rfl _ _ gb154 47 #[.int .i64 a0_0, .int .i64 a0_1, .int .i64 a0_2] (0, 0) _ rfl (by refine blk_put (cs := #[.int .i64 a0_0, .int .i64 a0_1, .int .i64 0]) ?_ 2 _ rfl; refine blk_put (cs := #[.int .i64 a0_0, .int .i64 0, .int .i64 0]) ?_ 1 _ rfl; refine blk_put (cs := #[.int .i64 0, .int .i64 0, .int .i64 0]) ?_ 0 _ rfl; refine blk_far ?_ NB154_155.out _; refine blk_far ?_ NB154_155.out _; refine blk_far ?_ NB154_155.out _; exact BK154.out) Try.underlying47 rfl (by kernel_rfl)) rfl ?_
 exact ⟨by first | rfl | (simp [errW_none, errW_some] <;> rfl) | (simp [*, errW_none, errW_some] <;> rfl), by repeat (first | (with_reducible first | exact HB.out | apply below_alloc | apply pw_below_drewN | apply below_drew1 | refine below_set ?_ GE153.out | refine below_set ?_ GE154.out | refine below_set ?_ GE155.out) | exact HB.out)⟩

end Go.Proofs.Ytcbfopepfhfaoaa.Print
