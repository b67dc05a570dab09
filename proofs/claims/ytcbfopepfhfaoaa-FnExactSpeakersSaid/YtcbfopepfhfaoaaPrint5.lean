-- Printed by wip/myprint.py over the kit's print, in this session's own call.
import Derived.Test.YtcbfopepfhfaoaaPrint0
import Derived.Test.YtcbfopepfhfaoaaPrint4
namespace Go.Proofs.Ytcbfopepfhfaoaa.Print
open Go.RowKit Go.Proofs.YtcbfopepfhfaoaaW.PrintWords Go.Proofs.YtcbfopepfhfaoaaW.PrintLast Go.Proofs.YtcbfopepfhfaoaaW.PrintMore
attribute [local go_sem] max2_int min2_int max_two min_two max_three min_three max_four min_four   -- for this text's walks alone
set_option linter.unusedVariables false
set_option linter.unusedSimpArgs false

/-! ### laws_eqPart: function 17 -/
def laws_eqPart.f (k : Nat) (a0_0 : Int) (l0_1 : List (S47)) (l0_2 : List (S55)) (a0_3 : Bool) (a0_4 : Int) (a1_0 : Int) (l1_1 : List (S47)) (l1_2 : List (S55)) (a1_3 : Bool) (a1_4 : Int) : Option (Bool) := if a0_0 = a1_0 then ((laws_eqEntryS.f k l0_1 l1_1).bind fun t274 => (if t274 = true then ((laws_eqShownS.f k l0_2 l1_2).bind fun t275 => (if t275 = true then (if (a0_3 != a1_3) = true then (some false) else (if a0_4 = a1_4 then (some true) else (some false))) else (some false))) else (some false))) else (some false)
theorem laws_eqPart.mono : ∀ a0 a1 a2 a3 a4 a5 a6 a7 a8 a9 k, LeO (laws_eqPart.f k a0 a1 a2 a3 a4 a5 a6 a7 a8 a9) (laws_eqPart.f (k + 1) a0 a1 a2 a3 a4 a5 a6 a7 a8 a9) := by
  intro a0 a1 a2 a3 a4 a5 a6 a7 a8 a9 k
  unfold laws_eqPart.f
  repeat' first
      | (with_reducible exact laws_eqEntryS.mono _ _ _)
      | (with_reducible exact laws_eqShownS.mono _ _ _)
      | (with_reducible exact LeO.refl _)
      | (with_reducible exact LeO.none _)
      | (with_reducible refine LeO.ite ?_ ?_)
      | (with_reducible refine LeO.bind ?_ (fun _ => ?_))
      | exact laws_eqEntryS.mono _ _ _
      | exact laws_eqShownS.mono _ _ _
      | exact LeO.none _
      | refine LeO.ite ?_ ?_
      | refine LeO.bind ?_ (fun _ => ?_)
set_option maxHeartbeats 8000000 in
set_option maxRecDepth 100000 in
theorem laws_eqPart.calls (k : Nat) (a0_0 : Int) (A0_1 : Option Addr) (c0_1 : Nat) (l0_1 : List (S47)) (A0_2 : Option Addr) (c0_2 : Nat) (l0_2 : List (S55)) (a0_3 : Bool) (a0_4 : Int) (a1_0 : Int) (A1_1 : Option Addr) (c1_1 : Nat) (l1_1 : List (S47)) (A1_2 : Option Addr) (c1_2 : Nat) (l1_2 : List (S55)) (a1_3 : Bool) (a1_4 : Int) (r : Bool) (w : World) (hr0_1 : Kd.C k47 w A0_1 l0_1.length l0_1) (hc0_1 : l0_1.length ≤ c0_1) (hr0_2 : Kd.C k55 w A0_2 l0_2.length l0_2) (hc0_2 : l0_2.length ≤ c0_2) (hr1_1 : Kd.C k47 w A1_1 l1_1.length l1_1) (hc1_1 : l1_1.length ≤ c1_1) (hr1_2 : Kd.C k55 w A1_2 l1_2.length l1_2) (hc1_2 : l1_2.length ≤ c1_2) (h : laws_eqPart.f k a0_0 l0_1 l0_2 a0_3 a0_4 a1_0 l1_1 l1_2 a1_3 a1_4 = some r) :
    Calls Try.prog 17 #[.agg #[.int .i64 a0_0, .slice A0_1 l0_1.length c0_1, .slice A0_2 l0_2.length c0_2, .bool a0_3, .int .i64 a0_4], .agg #[.int .i64 a1_0, .slice A1_1 l1_1.length c1_1, .slice A1_2 l1_2.length c1_2, .bool a1_3, .int .i64 a1_4]] w fun e w' => e = .returned (.bool r) ∧ Below w.heap.size w w' := by
 have hu38 := Try.underlying38
 have HR0_1 := Aside0.mk hr0_1
 have HC0_1 := Aside0.mk hc0_1
 clear hr0_1 hc0_1
 have HR0_2 := Aside0.mk hr0_2
 have HC0_2 := Aside0.mk hc0_2
 clear hr0_2 hc0_2
 have HR1_1 := Aside0.mk hr1_1
 have HC1_1 := Aside0.mk hc1_1
 clear hr1_1 hc1_1
 have HR1_2 := Aside0.mk hr1_2
 have HC1_2 := Aside0.mk hc1_2
 clear hr1_2 hc1_2
 have HB := Aside0.mk (Below.refl w.heap.size w)
 have H : (if a0_0 = a1_0 then ((laws_eqEntryS.f k l0_1 l1_1).bind fun t274 => (if t274 = true then ((laws_eqShownS.f k l0_2 l1_2).bind fun t275 => (if t275 = true then (if (a0_3 != a1_3) = true then (some false) else (if a0_4 = a1_4 then (some true) else (some false))) else (some false))) else (some false))) else (some false)) = some r := h
 clear h
 go_enter Try.func17, Try.ntmps17
 go_upto_if 9 with (first | ((with_reducible refine gate_dst (N := 2) rfl ?_); refine box_event ?hg (N := 2) ?hd (cs := #[.int .i64 a0_0, .slice A0_1 l0_1.length c0_1, .slice A0_2 l0_2.length c0_2, .bool a0_3, .int .i64 a0_4]) (t := 38) ?hr ?_; (case hd => rfl); (case hg => rfl); (case hr => first | (go_simp; done) | (go_simp; rfl)); intro gb272 hg w9 hbox hb; have n0_ := Aside0.mk (below_step HB.out hb); have n1_ := Aside0.mk (hbox); have n2_ := Aside0.mk ((by rw [hg]; exact (below_size HB.out) : w.heap.size ≤ gb272)); have n3_ := Aside0.mk ((by rw [hg]; exact (below_size HB.out) : w.heap.size ≤ gb272)); clear HB; have HB := n0_; have BK272 := n1_; have GW272 := n2_; have GE272 := n3_; clear n0_ n1_ n2_ n3_; clear hb hbox hg) | ((with_reducible refine gate_dst (N := 3) rfl ?_); refine box_event ?hg (N := 3) ?hd (cs := #[.int .i64 a1_0, .slice A1_1 l1_1.length c1_1, .slice A1_2 l1_2.length c1_2, .bool a1_3, .int .i64 a1_4]) (t := 38) ?hr ?_; (case hd => rfl); (case hg => rfl); (case hr => first | (go_simp; done) | (go_simp; rfl)); intro gb273 hg w10 hbox hb; have n0_ := Aside0.mk (blk_below BK272.out hb); have n1_ := Aside0.mk (below_step HB.out hb); have n2_ := Aside0.mk (hbox); have n3_ := Aside0.mk ((by rw [hg]; exact (below_size HB.out) : w.heap.size ≤ gb273)); have n4_ := Aside0.mk ((by rw [hg]; exact (below_size HB.out) : w.heap.size ≤ gb273)); have n5_ := Aside0.mk ((by rw [hg]; exact Nat.ne_of_lt (blk_lt BK272.out) : gb272 ≠ gb273)); have n6_ := Aside0.mk ((by rw [hg]; exact Nat.ne_of_gt (blk_lt BK272.out) : gb273 ≠ gb272)); clear BK272; clear HB; have BK272 := n0_; have HB := n1_; have BK273 := n2_; have GW273 := n3_; have GE273 := n4_; have NB272_273 := n5_; have NB273_272 := n6_; clear n0_ n1_ n2_ n3_ n4_ n5_ n6_; clear hb hbox hg; have hnb11 := NB272_273.out; have hnc11 := NB273_272.out; obtain ⟨⟨hcz12_0, hcz12_1, hcz12_2, hcz12_3, hcz12_4⟩, hfz12_0, hfz12_1, hfz12_2, hfz12_3, hfz12_4⟩ := cells_5 BK272.out; obtain ⟨⟨hcz13_0, hcz13_1, hcz13_2, hcz13_3, hcz13_4⟩, hfz13_0, hfz13_1, hfz13_2, hfz13_3, hfz13_4⟩ := cells_5 BK273.out))
 by_cases c3 : a0_0 = a1_0
 ·
  rw [if_pos c3] at H
  have c3b0 : (a0_0 == a1_0) = true := beq_iff_eq.mpr c3
  have c3b1 : (a0_0 != a1_0) = false := bne_eq_false_iff_eq.mpr c3
  clear c3
  replace H := Option.bind_eq_some_iff.mp H
  obtain ⟨t274, A40, H⟩ := H
  replace H : (if t274 = true then ((laws_eqShownS.f k l0_2 l1_2).bind fun t275 => (if t275 = true then (if (a0_3 != a1_3) = true then (some false) else (if a0_4 = a1_4 then (some true) else (some false))) else (some false))) else (some false)) = some r := H
  have A4 := Aside0.mk A40
  clear A40
  (try simp only [c3b0, Bool.not_true, Bool.not_false])
  (try simp only [c3b1, Bool.not_true, Bool.not_false])
  go_upto_if 15 with (first | ((with_reducible refine gate_callee (f := 9) rfl ?_); refine goesL_ (some 14) rfl rfl Try.func9 (by kernel_rfl) rfl #[.slice A0_1 l0_1.length c0_1, .slice A1_1 l1_1.length c1_1] rfl (by (try simp only [List.map_toArray, List.map_cons, List.map_nil]); first | done | rfl | (simp only [List.length_drop, List.length_take]; rfl)) ?_; (with_reducible refine (laws_eqEntryS.calls k _ _ l0_1 _ _ l1_1 t274 _ ?side1 ?side2 ?side3 ?side4 A4.out).mono ?_); (case side1 => repeat (first | exact (Kd.C_below HR0_1.out HB.out) | (with_reducible refine Kd.C_alloc ?_ _) | (with_reducible refine Kd.C_drewN ?_ _) | (with_reducible refine Kd.C_drew ?_))); (case side2 => exact HC0_1.out); (case side3 => repeat (first | exact (Kd.C_below HR1_1.out HB.out) | (with_reducible refine Kd.C_alloc ?_ _) | (with_reducible refine Kd.C_drewN ?_ _) | (with_reducible refine Kd.C_drew ?_))); (case side4 => exact HC1_1.out); rintro e w14 ⟨rfl, hb⟩; refine ⟨_, rfl, ?_⟩; have n0_ := Aside0.mk (blk_below BK272.out hb); have n1_ := Aside0.mk (blk_below BK273.out hb); have n2_ := Aside0.mk (below_step HB.out hb); clear BK272; clear BK273; clear HB; have BK272 := n0_; have BK273 := n1_; have HB := n2_; clear n0_ n1_ n2_; (try clear hb); (try clear hb2); (try clear hk); (try clear hi); obtain ⟨⟨hcz15_0, hcz15_1, hcz15_2, hcz15_3, hcz15_4⟩, hfz15_0, hfz15_1, hfz15_2, hfz15_3, hfz15_4⟩ := cells_5 BK272.out; obtain ⟨⟨hcz16_0, hcz16_1, hcz16_2, hcz16_3, hcz16_4⟩, hfz16_0, hfz16_1, hfz16_2, hfz16_3, hfz16_4⟩ := cells_5 BK273.out))
  by_cases c5 : t274 = true
  ·
   subst c5
   have H1 : ((laws_eqShownS.f k l0_2 l1_2).bind fun t275 => (if t275 = true then (if (a0_3 != a1_3) = true then (some false) else (if a0_4 = a1_4 then (some true) else (some false))) else (some false))) = some r := by rw [if_pos rfl] at H; exact H
   clear H
   have H := H1
   clear H1
   replace H := Option.bind_eq_some_iff.mp H
   obtain ⟨t275, A60, H⟩ := H
   replace H : (if t275 = true then (if (a0_3 != a1_3) = true then (some false) else (if a0_4 = a1_4 then (some true) else (some false))) else (some false)) = some r := H
   have A6 := Aside0.mk A60
   clear A60
   go_upto_if 21 with (first | ((with_reducible refine gate_callee (f := 32) rfl ?_); refine goesL_ (some 20) rfl rfl Try.func32 (by kernel_rfl) rfl #[.slice A0_2 l0_2.length c0_2, .slice A1_2 l1_2.length c1_2] rfl (by (try simp only [List.map_toArray, List.map_cons, List.map_nil]); first | done | rfl | (simp only [List.length_drop, List.length_take]; rfl)) ?_; (with_reducible refine (laws_eqShownS.calls k _ _ l0_2 _ _ l1_2 t275 _ ?side1 ?side2 ?side3 ?side4 A6.out).mono ?_); (case side1 => repeat (first | exact (Kd.C_below HR0_2.out HB.out) | (with_reducible refine Kd.C_alloc ?_ _) | (with_reducible refine Kd.C_drewN ?_ _) | (with_reducible refine Kd.C_drew ?_))); (case side2 => exact HC0_2.out); (case side3 => repeat (first | exact (Kd.C_below HR1_2.out HB.out) | (with_reducible refine Kd.C_alloc ?_ _) | (with_reducible refine Kd.C_drewN ?_ _) | (with_reducible refine Kd.C_drew ?_))); (case side4 => exact HC1_2.out); rintro e w17 ⟨rfl, hb⟩; refine ⟨_, rfl, ?_⟩; have n0_ := Aside0.mk (blk_below BK272.out hb); have n1_ := Aside0.mk (blk_below BK273.out hb); have n2_ := Aside0.mk (below_step HB.out hb); clear BK272; clear BK273; clear HB; have BK272 := n0_; have BK273 := n1_; have HB := n2_; clear n0_ n1_ n2_; (try clear hb); (try clear hb2); (try clear hk); (try clear hi); obtain ⟨⟨hcz18_0, hcz18_1, hcz18_2, hcz18_3, hcz18_4⟩, hfz18_0, hfz18_1, hfz18_2, hfz18_3, hfz18_4⟩ := cells_5 BK272.out; obtain ⟨⟨hcz19_0, hcz19_1, hcz19_2, hcz19_3, hcz19_4⟩, hfz19_0, hfz19_1, hfz19_2, hfz19_3, hfz19_4⟩ := cells_5 BK273.out))
   by_cases c7 : t275 = true
   ·
    subst c7
    have H1 : (if (a0_3 != a1_3) = true then (some false) else (if a0_4 = a1_4 then (some true) else (some false))) = some r := by rw [if_pos rfl] at H; exact H
    clear H
    have H := H1
    clear H1
    by_cases c8 : (a0_3 != a1_3) = true
    ·
     rw [if_pos c8] at H
     have c8b0 : (a0_3 != a1_3) = true := c8
     (try (have c8b1 : decide (a0_3 = a1_3) = false := by simpa using c8))
     (try (have c8b2 : (a0_3 == a1_3) = false := by simpa using c8))
     (try (have c8b3 : ¬ (a0_3 = a1_3) := by simpa using c8))
     clear c8
     obtain rfl := Option.some.inj H
     (try simp only [c8b0, Bool.not_true, Bool.not_false])
     (try simp only [c8b1, Bool.not_true, Bool.not_false])
     (try simp only [c8b2, Bool.not_true, Bool.not_false])
     go_wp2
     go_ret
     exact ⟨by first | rfl | (simp [errW_none, errW_some] <;> rfl) | (simp [*, errW_none, errW_some] <;> rfl), by repeat (first | (with_reducible first | exact HB.out | apply below_alloc | apply pw_below_drewN | apply below_drew1 | refine below_set ?_ GE272.out | refine below_set ?_ GE273.out) | exact HB.out)⟩
    ·
     rw [if_neg c8] at H
     have c8b0 : (a0_3 != a1_3) = false := by simpa using c8
     (try (have c8b3 : (!(a0_3 == a1_3)) = false := c8b0))
     (try (have c8b1 : decide (a0_3 = a1_3) = true := by simpa using c8))
     (try (have c8b2 : (a0_3 == a1_3) = true := by simpa using c8))
     clear c8
     (try simp only [c8b0, Bool.not_true, Bool.not_false])
     (try simp only [c8b1, Bool.not_true, Bool.not_false])
     (try simp only [c8b2, Bool.not_true, Bool.not_false])
     by_cases c20 : a0_4 = a1_4
     ·
      rw [if_pos c20] at H
      have c20b0 : (a0_4 == a1_4) = true := beq_iff_eq.mpr c20
      have c20b1 : (a0_4 != a1_4) = false := bne_eq_false_iff_eq.mpr c20
      clear c20
      obtain rfl := Option.some.inj H
      (try simp only [c20b0, Bool.not_true, Bool.not_false])
      (try simp only [c20b1, Bool.not_true, Bool.not_false])
      go_wp2
      go_ret
      exact ⟨by first | rfl | (simp [errW_none, errW_some] <;> rfl) | (simp [*, errW_none, errW_some] <;> rfl), by repeat (first | (with_reducible first | exact HB.out | apply below_alloc | apply pw_below_drewN | apply below_drew1 | refine below_set ?_ GE272.out | refine below_set ?_ GE273.out) | exact HB.out)⟩
     ·
      rw [if_neg c20] at H
      have c20b0 : (a0_4 == a1_4) = false := beq_eq_false_iff_ne.mpr c20
      have c20b1 : (a0_4 != a1_4) = true := bne_iff_ne.mpr c20
      obtain rfl := Option.some.inj H
      (try simp only [c20b0, Bool.not_true, Bool.not_false])
      (try simp only [c20b1, Bool.not_true, Bool.not_false])
      go_wp2
      go_ret
      exact ⟨by first | rfl | (simp [errW_none, errW_some] <;> rfl) | (simp [*, errW_none, errW_some] <;> rfl), by repeat (first | (with_reducible first | exact HB.out | apply below_alloc | apply pw_below_drewN | apply below_drew1 | refine below_set ?_ GE272.out | refine below_set ?_ GE273.out) | exact HB.out)⟩
   ·
    replace c7 := Bool.eq_false_iff.mpr c7
    subst c7
    have H1 : (some false) = some r := by rw [if_neg (show ¬ (false = true) by decide)] at H; exact H
    clear H
    have H := H1
    clear H1
    obtain rfl := Option.some.inj H
    go_wp2
    go_ret
    exact ⟨by first | rfl | (simp [errW_none, errW_some] <;> rfl) | (simp [*, errW_none, errW_some] <;> rfl), by repeat (first | (with_reducible first | exact HB.out | apply below_alloc | apply pw_below_drewN | apply below_drew1 | refine below_set ?_ GE272.out | refine below_set ?_ GE273.out) | exact HB.out)⟩
  ·
   replace c5 := Bool.eq_false_iff.mpr c5
   subst c5
   have H1 : (some false) = some r := by rw [if_neg (show ¬ (false = true) by decide)] at H; exact H
   clear H
   have H := H1
   clear H1
   obtain rfl := Option.some.inj H
   go_wp2
   go_ret
   exact ⟨by first | rfl | (simp [errW_none, errW_some] <;> rfl) | (simp [*, errW_none, errW_some] <;> rfl), by repeat (first | (with_reducible first | exact HB.out | apply below_alloc | apply pw_below_drewN | apply below_drew1 | refine below_set ?_ GE272.out | refine below_set ?_ GE273.out) | exact HB.out)⟩
 ·
  rw [if_neg c3] at H
  have c3b0 : (a0_0 == a1_0) = false := beq_eq_false_iff_ne.mpr c3
  have c3b1 : (a0_0 != a1_0) = true := bne_iff_ne.mpr c3
  obtain rfl := Option.some.inj H
  (try simp only [c3b0, Bool.not_true, Bool.not_false])
  (try simp only [c3b1, Bool.not_true, Bool.not_false])
  go_wp2
  go_ret
  exact ⟨by first | rfl | (simp [errW_none, errW_some] <;> rfl) | (simp [*, errW_none, errW_some] <;> rfl), by repeat (first | (with_reducible first | exact HB.out | apply below_alloc | apply pw_below_drewN | apply below_drew1 | refine below_set ?_ GE272.out | refine below_set ?_ GE273.out) | exact HB.out)⟩
/-! ### laws_markEntryS: function 10 -/
def laws_markEntryS.l0 : Nat → List (S47) → Int → Int → Option (Int × (List (S47)))
  | 0, _, _, _ => none
  | k + 1, x0, x1, x5 => if x5 < (x0.length : Int) then (if 0 ≤ x5 then ((some (x0.set (x5 : Int).toNat (⟨x1, (rd_T47 x0 x5).f1, (rd_T47 x0 x5).f2⟩ : S47) : List (S47))).bind fun y276 => ((some (y276.set (x5 : Int).toNat (⟨(rd_T47 y276 x5).f0, wrap64 (x1 + 1), (rd_T47 y276 x5).f2⟩ : S47) : List (S47))).bind fun y277 => (laws_markEntryS.l0 k (y277.set (x5 : Int).toNat (⟨(rd_T47 y277 x5).f0, (rd_T47 y277 x5).f1, wrap64 ((wrap64 (x1 + 1)) + 1)⟩ : S47)) (wrap64 ((wrap64 ((wrap64 (x1 + 1)) + 1)) + 1)) (wrap64 (x5 + 1))))) else (none)) else (some (x1, x0))
def laws_markEntryS.f (k : Nat) (l0 : List (S47)) (a1 : Int) : Option (Int × (List (S47))) := laws_markEntryS.l0 k l0 a1 0
theorem laws_markEntryS.mono_l : ∀ k, (∀ y0 y1 y2, LeO (laws_markEntryS.l0 k y0 y1 y2) (laws_markEntryS.l0 (k + 1) y0 y1 y2))
  | 0 => fun _ _ _ r h => by simp [laws_markEntryS.l0] at h
  | k + 1 => by
    have ih0 := laws_markEntryS.mono_l k
    · intro y0 y1 y2
      unfold laws_markEntryS.l0
      repeat' first
      | (with_reducible exact ih0 _ _ _)
      | (with_reducible exact LeO.refl _)
      | (with_reducible exact LeO.none _)
      | (with_reducible refine LeO.ite ?_ ?_)
      | (with_reducible refine LeO.bind ?_ (fun _ => ?_))
      | exact ih0 _ _ _
      | exact LeO.none _
      | refine LeO.ite ?_ ?_
      | refine LeO.bind ?_ (fun _ => ?_)
theorem laws_markEntryS.mono : ∀ a0 a1 k, LeO (laws_markEntryS.f k a0 a1) (laws_markEntryS.f (k + 1) a0 a1) := by
  intro a0 a1 k
  have ih0 := laws_markEntryS.mono_l k
  unfold laws_markEntryS.f
  repeat' first
      | (with_reducible exact ih0 _ _ _)
      | (with_reducible exact LeO.refl _)
      | (with_reducible exact LeO.none _)
      | (with_reducible refine LeO.ite ?_ ?_)
      | (with_reducible refine LeO.bind ?_ (fun _ => ?_))
      | exact ih0 _ _ _
      | exact LeO.none _
      | refine LeO.ite ?_ ?_
      | refine LeO.bind ?_ (fun _ => ?_)
set_option maxHeartbeats 8000000 in
set_option maxRecDepth 100000 in
theorem laws_markEntryS.calls (k : Nat) (P0_ : Nat → Prop) (u9000_ : Value) (l0 : List (S47)) (a1 : Int) (r1 : Int) (r2 : List (S47)) (w0 w : World) (hB : Below w0.heap.size w0 w) (ho0 : Kd.R k47 47 w w0.heap.size P0_ u9000_ l0) (h : laws_markEntryS.f k l0 a1 = some (r1, r2)) :
    Calls Try.prog 10 #[u9000_, .int .i64 a1] w fun e w' => e = .returned (.int .i64 r1) ∧ Kd.R k47 47 w' w0.heap.size (fun k_ => (P0_ k_ ∨ w.heap.size ≤ k_)) u9000_ r2 ∧ Below w0.heap.size w0 w' ∧ Kept w w' (fun k_ => P0_ k_) := by
 have HO0 := Aside0.mk (show Kd.R k47 47 w w0.heap.size (fun k_ => (P0_ k_ ∨ w.heap.size ≤ k_)) u9000_ l0 from Kd.R_mono ho0 (fun k_ hk => (.inl hk)))
 have HK := Aside0.mk (Kept.refl w (fun k_ => P0_ k_))
 have HW0 := Aside0.mk hB.size
 have HB := Aside0.mk hB
 clear hB
 have H : (laws_markEntryS.l0 k l0 a1 0) = some (r1, r2) := h
 clear h
 have H' := Aside0.mk H
 clear H
 go_enter Try.func10, Try.ntmps10
 go_wp2
 go_loopg [1, 5] k (fun kq v1 v5 w' => ∃ (x0_1 : List (S47)) (x1_1 : Int) (x5_1 : Int), v1 = .int .i64 x1_1 ∧ v5 = .int .i64 x5_1 ∧ Aside0 (laws_markEntryS.l0 kq x0_1 x1_1 x5_1 = some (r1, r2)) ∧ Aside0 (kq ≤ k) ∧ Aside0 (Kd.R k47 47 w' w0.heap.size (fun k_ => (P0_ k_ ∨ w.heap.size ≤ k_)) u9000_ x0_1) ∧ Aside0 (Kept w w' (fun k_ => P0_ k_)) ∧ Aside0 (Below w0.heap.size w0 w'))
 case atStart => exact ⟨(l0), (a1), (0), (by first | rfl | (simp; done) | (simp [*]; done)), (by first | rfl | (simp; done) | (simp [*]; done)), H', ⟨Nat.le_refl _⟩, ⟨by (with_reducible repeat (first | apply Kd.R_alloc | apply Kd.R_drewN | apply Kd.R_drew)); exact HO0.out⟩, ⟨by repeat (first | (with_reducible first | exact HK.out | apply Kept.alloc | apply Kept.drewN | apply Kept.drew) | exact HK.out)⟩, ⟨by repeat (first | (with_reducible first | exact HB.out | apply below_alloc | apply pw_below_drewN | apply below_drew1) | exact HB.out)⟩⟩
 case round =>
  clear H'
  try clear c1
  try clear p2
  obtain ⟨x0_1, x1_1, x5_1, rfl, rfl, HA, HK1, HO_0, HK, HB⟩ := hrel
  cases gk with
  | zero => exact absurd HA.out (by simp [laws_markEntryS.l0])
  | succ k1 =>
   have H := HA.out
   clear HA
   simp only [laws_markEntryS.l0] at H
   by_cases c3 : x5_1 < (x0_1.length : Int)
   ·
    rw [if_pos c3] at H
    have c3b0 : decide (x5_1 < (x0_1.length : Int)) = true := decide_eq_true c3
    clear c3
    by_cases c4 : 0 ≤ x5_1
    ·
     rw [if_pos c4] at H
     have c4b0 : decide (0 ≤ x5_1) = true := decide_eq_true c4
     clear c4
     obtain ⟨y276, hy276⟩ : ∃ y_ : List (S47), y_ = (x0_1.set (x5_1 : Int).toNat (⟨x1_1, (rd_T47 x0_1 x5_1).f1, (rd_T47 x0_1 x5_1).f2⟩ : S47)) := ⟨_, rfl⟩
     replace H : ((some (y276.set (x5_1 : Int).toNat (⟨(rd_T47 y276 x5_1).f0, wrap64 (x1_1 + 1), (rd_T47 y276 x5_1).f2⟩ : S47) : List (S47))).bind fun y277 => (laws_markEntryS.l0 k1 (y277.set (x5_1 : Int).toNat (⟨(rd_T47 y277 x5_1).f0, (rd_T47 y277 x5_1).f1, wrap64 ((wrap64 (x1_1 + 1)) + 1)⟩ : S47)) (wrap64 ((wrap64 ((wrap64 (x1_1 + 1)) + 1)) + 1)) (wrap64 (x5_1 + 1)))) = some (r1, r2) := by first | (rw [hy276]; with_reducible exact H) | (have H2_ := (Option.bind_some _ _).symm.trans H; rw [hy276]; with_reducible exact H2_) | (have H2_ := (Option.bind_some _ _).symm.trans H; with_reducible exact H2_) | with_reducible exact H | (rw [hy276]; exact H) | exact H
     have Ny276 := Aside0.mk hy276
     clear hy276
     obtain ⟨y277, hy277⟩ : ∃ y_ : List (S47), y_ = (y276.set (x5_1 : Int).toNat (⟨(rd_T47 y276 x5_1).f0, wrap64 (x1_1 + 1), (rd_T47 y276 x5_1).f2⟩ : S47)) := ⟨_, rfl⟩
     replace H : (laws_markEntryS.l0 k1 (y277.set (x5_1 : Int).toNat (⟨(rd_T47 y277 x5_1).f0, (rd_T47 y277 x5_1).f1, wrap64 ((wrap64 (x1_1 + 1)) + 1)⟩ : S47)) (wrap64 ((wrap64 ((wrap64 (x1_1 + 1)) + 1)) + 1)) (wrap64 (x5_1 + 1))) = some (r1, r2) := by first | (rw [hy277]; with_reducible exact H) | (have H2_ := (Option.bind_some _ _).symm.trans H; rw [hy277]; with_reducible exact H2_) | (have H2_ := (Option.bind_some _ _).symm.trans H; with_reducible exact H2_) | with_reducible exact H | (rw [hy277]; exact H) | exact H
     have Ny277 := Aside0.mk hy277
     clear hy277
     obtain ⟨y278, hy278⟩ : ∃ y_ : List (S47), y_ = (y277.set (x5_1 : Int).toNat (⟨(rd_T47 y277 x5_1).f0, (rd_T47 y277 x5_1).f1, wrap64 ((wrap64 (x1_1 + 1)) + 1)⟩ : S47)) := ⟨_, rfl⟩
     replace H : (laws_markEntryS.l0 k1 y278 (wrap64 ((wrap64 ((wrap64 (x1_1 + 1)) + 1)) + 1)) (wrap64 (x5_1 + 1))) = some (r1, r2) := by first | (rw [hy278]; with_reducible exact H) | (have H2_ := (Option.bind_some _ _).symm.trans H; rw [hy278]; with_reducible exact H2_) | (have H2_ := (Option.bind_some _ _).symm.trans H; with_reducible exact H2_) | with_reducible exact H | (rw [hy278]; exact H) | exact H
     have Ny278 := Aside0.mk hy278
     clear hy278
     have H' := Aside0.mk H
     clear H
     obtain ⟨Ao8, co8, eo8⟩ := Kd.R_slice HO_0.out
     subst eo8
     have p5 : 0 ≤ (x5_1 : Int) := of_decide_eq_true (by first | (with_reducible assumption) | assumption)
     have q5 : (x5_1 : Int) < ((x0_1.length : Int) : Int) := of_decide_eq_true (by first | (with_reducible assumption) | assumption)
     obtain ⟨go5, co5, eo5, gb5, gl5, cl5, HG5⟩ := Kd.R_form HO_0.out (by omega)
     (first | cases eo5 | (injection eo5 with ea_ en_ ec_; (first | subst ea_ | (injection ea_ with ea_; subst ea_)); subst ec_; clear en_))
     have GB5 := Aside0.mk gb5
     have GG5 := Aside0.mk HG5
     clear gb5 gl5 HG5
     have HMgo5 := Aside0.mk (show (P0_ go5 ∨ w.heap.size ≤ go5) from (HO_0.out.1 _ rfl))
     obtain ⟨ce5, hcl5, hM5, hcc5, hfr5⟩ := Kd.R_elem HO_0.out z47 (x5_1 : Int) p5 q5
     obtain rfl := k47_openM hM5
     have hx5_0 : wr.cell? ⟨go5, (x5_1 : Int).toNat * 3, none⟩ = some (.int .i64 ((rd_T47 x0_1 x5_1).f0)) := hcc5 0 _ rfl
     have hx5_1 : wr.cell? ⟨go5, (x5_1 : Int).toNat * 3 + 1, none⟩ = some (.int .i64 ((rd_T47 x0_1 x5_1).f1)) := hcc5 1 _ rfl
     have hx5_2 : wr.cell? ⟨go5, (x5_1 : Int).toNat * 3 + 2, none⟩ = some (.int .i64 ((rd_T47 x0_1 x5_1).f2)) := hcc5 2 _ rfl
     have hf5_0 : wr.frozen? ⟨go5, (x5_1 : Int).toNat * 3, none⟩ = false := hfr5 0
     have hf5_1 : wr.frozen? ⟨go5, (x5_1 : Int).toNat * 3 + 1, none⟩ = false := hfr5 1
     have hf5_2 : wr.frozen? ⟨go5, (x5_1 : Int).toNat * 3 + 2, none⟩ = false := hfr5 2
     clear hcl5 hcc5 hfr5 hM5
     replace p5 := eq_true p5
     replace q5 := eq_true q5
     have HX9 := Aside0.mk (show Kd.R k47 47 wr w0.heap.size (fun k_ => (P0_ k_ ∨ w.heap.size ≤ k_)) (.slice (some ⟨go5, 0, none⟩) x0_1.length co8) x0_1 from HO_0.out)
     obtain ⟨ce9, hcl9, hM9, hcc9, hfr9⟩ := Kd.R_elem HX9.out z47 (x5_1 : Int) (of_decide_eq_true (by first | (with_reducible assumption) | assumption)) (by have h_ : (x5_1 : Int) < ((x0_1.length : Int) : Int) := of_decide_eq_true (by first | (with_reducible assumption) | assumption); first | exact h_ | (have e_ := (Kd.R_reads' HO_0.out).1; omega) | simpa using h_)
     obtain rfl := k47_openM hM9
     have HP9 := Kd.R_seg HX9.out (x5_1 : Int) (of_decide_eq_true (by first | (with_reducible assumption) | assumption)) (by have h_ : (x5_1 : Int) < ((x0_1.length : Int) : Int) := of_decide_eq_true (by first | (with_reducible assumption) | assumption); first | exact h_ | (have e_ := (Kd.R_reads' HO_0.out).1; omega) | simpa using h_) (seg := [.int .i64 x1_1]) (j := 0) hcl9 hcc9 (show 1 ≤ 3 from by decide) (x' := (⟨x1_1, (rd_T47 x0_1 x5_1).f1, (rd_T47 x0_1 x5_1).f2⟩ : S47)) (k47_mkM _ _ _ (⟨x1_1, (rd_T47 x0_1 x5_1).f1, (rd_T47 x0_1 x5_1).f2⟩ : S47) ) (fun _ hk => hk)
     have hx9_0 := hcc9 0 _ rfl
     (try simp only [show (k47).sz = 3 from rfl, Nat.mul_one, Nat.add_zero] at hx9_0)
     have hf9_0 := hfr9 0
     (try simp only [show (k47).sz = 3 from rfl, Nat.mul_one, Nat.add_zero] at hf9_0)
     clear hcl9 hcc9 hfr9 hM9
     go_wp2_with (first | ((with_reducible refine gate_store (t := 2) (p := 16) rfl ?_); refine store_event (t := 2) (p := 16) (v := ?vo_w10) (w1 := (wr.setCell ⟨go5, (x5_1 : Int).toNat * 3, none⟩ (.int .i64 x1_1))) ?hg ?ho ?hn ?hr ?_; (case ho => rfl); (case hg => rfl); (case hn => rfl); (case hr => first | (go_simp; done) | (go_simp; rfl)); intro w10 hw; have hg : wr.grownBy w10 (some go5) := (by rw [hw]; exact HP9.2); have hp_ : Kd.R k47 47 w10 w0.heap.size (fun k_ => (P0_ k_ ∨ w.heap.size ≤ k_)) (.slice (some ⟨go5, 0, none⟩) x0_1.length co8) y276 := (by rw [hw, Ny276.out]; exact HP9.1); clear HP9; have n0_ := Aside0.mk (hp_); have n1_ := Aside0.mk ((by rw [hw]; exact below_set (HB.out) GB5.out : Below w0.heap.size w0 w10)); have n2_ := Aside0.mk (Kept.of_grown (S := (fun k_ => P0_ k_)) hg HK.out (fun k_ e_ => (HO_0.out.1 k_ e_))); clear HO_0; clear HB; clear HK; have HO_0 := n0_; have HB := n1_; have HK := n2_; clear n0_ n1_ n2_; clear hg hw hp_; have p6 : 0 ≤ (x5_1 : Int) := of_decide_eq_true (by first | (with_reducible assumption) | assumption); have q6 : (x5_1 : Int) < ((x0_1.length : Int) : Int) := of_decide_eq_true (by first | (with_reducible assumption) | assumption); obtain ⟨ce6, hcl6, hM6, hcc6, hfr6⟩ := Kd.R_elem HO_0.out z47 (x5_1 : Int) p6 q6; obtain rfl := k47_openM hM6; have hx6_0 : w10.cell? ⟨go5, (x5_1 : Int).toNat * 3, none⟩ = some (.int .i64 ((rd_T47 y276 x5_1).f0)) := hcc6 0 _ rfl; have hx6_1 : w10.cell? ⟨go5, (x5_1 : Int).toNat * 3 + 1, none⟩ = some (.int .i64 ((rd_T47 y276 x5_1).f1)) := hcc6 1 _ rfl; have hx6_2 : w10.cell? ⟨go5, (x5_1 : Int).toNat * 3 + 2, none⟩ = some (.int .i64 ((rd_T47 y276 x5_1).f2)) := hcc6 2 _ rfl; have hf6_0 : w10.frozen? ⟨go5, (x5_1 : Int).toNat * 3, none⟩ = false := hfr6 0; have hf6_1 : w10.frozen? ⟨go5, (x5_1 : Int).toNat * 3 + 1, none⟩ = false := hfr6 1; have hf6_2 : w10.frozen? ⟨go5, (x5_1 : Int).toNat * 3 + 2, none⟩ = false := hfr6 2; clear hcl6 hcc6 hfr6 hM6; replace p6 := eq_true p6; replace q6 := eq_true q6; have HX11 := Aside0.mk (show Kd.R k47 47 w10 w0.heap.size (fun k_ => (P0_ k_ ∨ w.heap.size ≤ k_)) (.slice (some ⟨go5, 0, none⟩) x0_1.length co8) y276 from HO_0.out); obtain ⟨ce11, hcl11, hM11, hcc11, hfr11⟩ := Kd.R_elem HX11.out z47 (x5_1 : Int) (of_decide_eq_true (by first | (with_reducible assumption) | assumption)) (by have h_ : (x5_1 : Int) < ((x0_1.length : Int) : Int) := of_decide_eq_true (by first | (with_reducible assumption) | assumption); first | exact h_ | (have e_ := (Kd.R_reads' HO_0.out).1; omega) | simpa using h_); obtain rfl := k47_openM hM11; have HP11 := Kd.R_seg HX11.out (x5_1 : Int) (of_decide_eq_true (by first | (with_reducible assumption) | assumption)) (by have h_ : (x5_1 : Int) < ((x0_1.length : Int) : Int) := of_decide_eq_true (by first | (with_reducible assumption) | assumption); first | exact h_ | (have e_ := (Kd.R_reads' HO_0.out).1; omega) | simpa using h_) (seg := [.int .i64 (wrap64 (x1_1 + 1))]) (j := 1) hcl11 hcc11 (show 2 ≤ 3 from by decide) (x' := (⟨(rd_T47 y276 x5_1).f0, wrap64 (x1_1 + 1), (rd_T47 y276 x5_1).f2⟩ : S47)) (k47_mkM _ _ _ (⟨(rd_T47 y276 x5_1).f0, wrap64 (x1_1 + 1), (rd_T47 y276 x5_1).f2⟩ : S47) ) (fun _ hk => hk); have hx11_1 := hcc11 1 _ rfl; (try simp only [show (k47).sz = 3 from rfl, Nat.mul_one, Nat.add_zero] at hx11_1); have hf11_1 := hfr11 1; (try simp only [show (k47).sz = 3 from rfl, Nat.mul_one, Nat.add_zero] at hf11_1); clear hcl11 hcc11 hfr11 hM11) | ((with_reducible refine gate_store (t := 2) (p := 23) rfl ?_); refine store_event (t := 2) (p := 23) (v := ?vo_w12) (w1 := (w10.setCell ⟨go5, (x5_1 : Int).toNat * 3 + 1, none⟩ (.int .i64 (wrap64 (x1_1 + 1))))) ?hg ?ho ?hn ?hr ?_; (case ho => rfl); (case hg => rfl); (case hn => rfl); (case hr => first | (go_simp; done) | (go_simp; rfl)); intro w12 hw; have hg : w10.grownBy w12 (some go5) := (by rw [hw]; exact HP11.2); have hp_ : Kd.R k47 47 w12 w0.heap.size (fun k_ => (P0_ k_ ∨ w.heap.size ≤ k_)) (.slice (some ⟨go5, 0, none⟩) x0_1.length co8) y277 := (by rw [hw, Ny277.out]; exact HP11.1); clear HP11; have n0_ := Aside0.mk (hp_); have n1_ := Aside0.mk ((by rw [hw]; exact below_set (HB.out) GB5.out : Below w0.heap.size w0 w12)); have n2_ := Aside0.mk (Kept.of_grown (S := (fun k_ => P0_ k_)) hg HK.out (fun k_ e_ => (HO_0.out.1 k_ e_))); clear HO_0; clear HB; clear HK; have HO_0 := n0_; have HB := n1_; have HK := n2_; clear n0_ n1_ n2_; clear hg hw hp_; have p7 : 0 ≤ (x5_1 : Int) := of_decide_eq_true (by first | (with_reducible assumption) | assumption); have q7 : (x5_1 : Int) < ((x0_1.length : Int) : Int) := of_decide_eq_true (by first | (with_reducible assumption) | assumption); obtain ⟨ce7, hcl7, hM7, hcc7, hfr7⟩ := Kd.R_elem HO_0.out z47 (x5_1 : Int) p7 q7; obtain rfl := k47_openM hM7; have hx7_0 : w12.cell? ⟨go5, (x5_1 : Int).toNat * 3, none⟩ = some (.int .i64 ((rd_T47 y277 x5_1).f0)) := hcc7 0 _ rfl; have hx7_1 : w12.cell? ⟨go5, (x5_1 : Int).toNat * 3 + 1, none⟩ = some (.int .i64 ((rd_T47 y277 x5_1).f1)) := hcc7 1 _ rfl; have hx7_2 : w12.cell? ⟨go5, (x5_1 : Int).toNat * 3 + 2, none⟩ = some (.int .i64 ((rd_T47 y277 x5_1).f2)) := hcc7 2 _ rfl; have hf7_0 : w12.frozen? ⟨go5, (x5_1 : Int).toNat * 3, none⟩ = false := hfr7 0; have hf7_1 : w12.frozen? ⟨go5, (x5_1 : Int).toNat * 3 + 1, none⟩ = false := hfr7 1; have hf7_2 : w12.frozen? ⟨go5, (x5_1 : Int).toNat * 3 + 2, none⟩ = false := hfr7 2; clear hcl7 hcc7 hfr7 hM7; replace p7 := eq_true p7; replace q7 := eq_true q7; have HX13 := Aside0.mk (show Kd.R k47 47 w12 w0.heap.size (fun k_ => (P0_ k_ ∨ w.heap.size ≤ k_)) (.slice (some ⟨go5, 0, none⟩) x0_1.length co8) y277 from HO_0.out); obtain ⟨ce13, hcl13, hM13, hcc13, hfr13⟩ := Kd.R_elem HX13.out z47 (x5_1 : Int) (of_decide_eq_true (by first | (with_reducible assumption) | assumption)) (by have h_ : (x5_1 : Int) < ((x0_1.length : Int) : Int) := of_decide_eq_true (by first | (with_reducible assumption) | assumption); first | exact h_ | (have e_ := (Kd.R_reads' HO_0.out).1; omega) | simpa using h_); obtain rfl := k47_openM hM13; have HP13 := Kd.R_seg HX13.out (x5_1 : Int) (of_decide_eq_true (by first | (with_reducible assumption) | assumption)) (by have h_ : (x5_1 : Int) < ((x0_1.length : Int) : Int) := of_decide_eq_true (by first | (with_reducible assumption) | assumption); first | exact h_ | (have e_ := (Kd.R_reads' HO_0.out).1; omega) | simpa using h_) (seg := [.int .i64 (wrap64 ((wrap64 (x1_1 + 1)) + 1))]) (j := 2) hcl13 hcc13 (show 3 ≤ 3 from by decide) (x' := (⟨(rd_T47 y277 x5_1).f0, (rd_T47 y277 x5_1).f1, wrap64 ((wrap64 (x1_1 + 1)) + 1)⟩ : S47)) (k47_mkM _ _ _ (⟨(rd_T47 y277 x5_1).f0, (rd_T47 y277 x5_1).f1, wrap64 ((wrap64 (x1_1 + 1)) + 1)⟩ : S47) ) (fun _ hk => hk); have hx13_2 := hcc13 2 _ rfl; (try simp only [show (k47).sz = 3 from rfl, Nat.mul_one, Nat.add_zero] at hx13_2); have hf13_2 := hfr13 2; (try simp only [show (k47).sz = 3 from rfl, Nat.mul_one, Nat.add_zero] at hf13_2); clear hcl13 hcc13 hfr13 hM13) | ((with_reducible refine gate_store (t := 2) (p := 30) rfl ?_); refine store_event (t := 2) (p := 30) (v := ?vo_w14) (w1 := (w12.setCell ⟨go5, (x5_1 : Int).toNat * 3 + 2, none⟩ (.int .i64 (wrap64 ((wrap64 (x1_1 + 1)) + 1))))) ?hg ?ho ?hn ?hr ?_; (case ho => rfl); (case hg => rfl); (case hn => rfl); (case hr => first | (go_simp; done) | (go_simp; rfl)); intro w14 hw; have hg : w12.grownBy w14 (some go5) := (by rw [hw]; exact HP13.2); have hp_ : Kd.R k47 47 w14 w0.heap.size (fun k_ => (P0_ k_ ∨ w.heap.size ≤ k_)) (.slice (some ⟨go5, 0, none⟩) x0_1.length co8) y278 := (by rw [hw, Ny278.out]; exact HP13.1); clear HP13; have n0_ := Aside0.mk (hp_); have n1_ := Aside0.mk ((by rw [hw]; exact below_set (HB.out) GB5.out : Below w0.heap.size w0 w14)); have n2_ := Aside0.mk (Kept.of_grown (S := (fun k_ => P0_ k_)) hg HK.out (fun k_ e_ => (HO_0.out.1 k_ e_))); clear HO_0; clear HB; clear HK; have HO_0 := n0_; have HB := n1_; have HK := n2_; clear n0_ n1_ n2_; clear hg hw hp_))
     go_roundg k1
     case measure => have := HK1.out; omega
     case rel => exact ⟨(y278), (wrap64 ((wrap64 ((wrap64 (x1_1 + 1)) + 1)) + 1)), (wrap64 (x5_1 + 1)), (by first | rfl | (simp; done) | (simp [*]; done)), (by first | rfl | (simp; done) | (simp [*]; done)), H', ⟨by have := HK1.out; omega⟩, ⟨by (with_reducible repeat (first | apply Kd.R_alloc | apply Kd.R_drewN | apply Kd.R_drew)); exact HO_0.out⟩, ⟨by repeat (first | (with_reducible first | exact HK.out | apply Kept.alloc | apply Kept.drewN | apply Kept.drew) | exact HK.out)⟩, ⟨by repeat (first | (with_reducible first | exact HB.out | apply below_alloc | apply pw_below_drewN | apply below_drew1) | exact HB.out)⟩⟩
    ·
     rw [if_neg c4] at H
     exact absurd H (by simp)
   ·
    rw [if_neg c3] at H
    have c3b0 : decide (x5_1 < (x0_1.length : Int)) = false := decide_eq_false c3
    clear c3
    simp only [Option.some.injEq, Prod.mk.injEq] at H
    obtain ⟨rfl, rfl⟩ := H
    obtain ⟨Ao15, co15, eo15⟩ := Kd.R_slice HO_0.out
    subst eo15
    go_wp2
    go_ret
    exact ⟨by first | rfl | (simp [errW_none, errW_some] <;> rfl) | (simp [*, errW_none, errW_some] <;> rfl), by (with_reducible repeat (first | apply Kd.R_alloc | apply Kd.R_drewN | apply Kd.R_drew)); exact HO_0.out, by repeat (first | (with_reducible first | exact HB.out | apply below_alloc | apply pw_below_drewN | apply below_drew1) | exact HB.out), by repeat (first | (with_reducible first | exact HK.out | apply Kept.alloc | apply Kept.drewN | apply Kept.drew) | exact HK.out)⟩

/-! ### laws_markInt64S: function 19 -/
def laws_markInt64S.l0 : Nat → List Int → Int → Int → Option (Int × List Int)
  | 0, _, _, _ => none
  | k + 1, x0, x1, x5 => if x5 < (x0.length : Int) then (if 0 ≤ x5 then (laws_markInt64S.l0 k (x0.set (x5 : Int).toNat x1) (wrap64 (x1 + 1)) (wrap64 (x5 + 1))) else (none)) else (some (x1, x0))
def laws_markInt64S.f (k : Nat) (l0 : List Int) (a1 : Int) : Option (Int × List Int) := laws_markInt64S.l0 k l0 a1 0
theorem laws_markInt64S.mono_l : ∀ k, (∀ y0 y1 y2, LeO (laws_markInt64S.l0 k y0 y1 y2) (laws_markInt64S.l0 (k + 1) y0 y1 y2))
  | 0 => fun _ _ _ r h => by simp [laws_markInt64S.l0] at h
  | k + 1 => by
    have ih0 := laws_markInt64S.mono_l k
    · intro y0 y1 y2
      unfold laws_markInt64S.l0
      repeat' first
      | (with_reducible exact ih0 _ _ _)
      | (with_reducible exact LeO.refl _)
      | (with_reducible exact LeO.none _)
      | (with_reducible refine LeO.ite ?_ ?_)
      | (with_reducible refine LeO.bind ?_ (fun _ => ?_))
      | exact ih0 _ _ _
      | exact LeO.none _
      | refine LeO.ite ?_ ?_
      | refine LeO.bind ?_ (fun _ => ?_)
theorem laws_markInt64S.mono : ∀ a0 a1 k, LeO (laws_markInt64S.f k a0 a1) (laws_markInt64S.f (k + 1) a0 a1) := by
  intro a0 a1 k
  have ih0 := laws_markInt64S.mono_l k
  unfold laws_markInt64S.f
  repeat' first
      | (with_reducible exact ih0 _ _ _)
      | (with_reducible exact LeO.refl _)
      | (with_reducible exact LeO.none _)
      | (with_reducible refine LeO.ite ?_ ?_)
      | (with_reducible refine LeO.bind ?_ (fun _ => ?_))
      | exact ih0 _ _ _
      | exact LeO.none _
      | refine LeO.ite ?_ ?_
      | refine LeO.bind ?_ (fun _ => ?_)
set_option maxHeartbeats 8000000 in
set_option maxRecDepth 100000 in
theorem laws_markInt64S.calls (k : Nat) (P0_ : Nat → Prop) (u9000_ : Value) (l0 : List Int) (a1 : Int) (r1 : Int) (r2 : List Int) (w0 w : World) (hB : Below w0.heap.size w0 w) (ho0 : Kd.R (Kd.int .i64) 2 w w0.heap.size P0_ u9000_ l0) (h : laws_markInt64S.f k l0 a1 = some (r1, r2)) :
    Calls Try.prog 19 #[u9000_, .int .i64 a1] w fun e w' => e = .returned (.int .i64 r1) ∧ Kd.R (Kd.int .i64) 2 w' w0.heap.size (fun k_ => (P0_ k_ ∨ w.heap.size ≤ k_)) u9000_ r2 ∧ Below w0.heap.size w0 w' ∧ Kept w w' (fun k_ => P0_ k_) := by
 have HO0 := Aside0.mk (show Kd.R (Kd.int .i64) 2 w w0.heap.size (fun k_ => (P0_ k_ ∨ w.heap.size ≤ k_)) u9000_ l0 from Kd.R_mono ho0 (fun k_ hk => (.inl hk)))
 have HK := Aside0.mk (Kept.refl w (fun k_ => P0_ k_))
 have HW0 := Aside0.mk hB.size
 have HB := Aside0.mk hB
 clear hB
 have H : (laws_markInt64S.l0 k l0 a1 0) = some (r1, r2) := h
 clear h
 have H' := Aside0.mk H
 clear H
 go_enter Try.func19, Try.ntmps19
 go_wp2
 go_loopg [1, 5] k (fun kq v1 v5 w' => ∃ (x0_1 : List Int) (x1_1 : Int) (x5_1 : Int), v1 = .int .i64 x1_1 ∧ v5 = .int .i64 x5_1 ∧ Aside0 (laws_markInt64S.l0 kq x0_1 x1_1 x5_1 = some (r1, r2)) ∧ Aside0 (kq ≤ k) ∧ Aside0 (Kd.R (Kd.int .i64) 2 w' w0.heap.size (fun k_ => (P0_ k_ ∨ w.heap.size ≤ k_)) u9000_ x0_1) ∧ Aside0 (Kept w w' (fun k_ => P0_ k_)) ∧ Aside0 (Below w0.heap.size w0 w'))
 case atStart => exact ⟨(l0), (a1), (0), (by first | rfl | (simp; done) | (simp [*]; done)), (by first | rfl | (simp; done) | (simp [*]; done)), H', ⟨Nat.le_refl _⟩, ⟨by (with_reducible repeat (first | apply Kd.R_alloc | apply Kd.R_drewN | apply Kd.R_drew)); exact HO0.out⟩, ⟨by repeat (first | (with_reducible first | exact HK.out | apply Kept.alloc | apply Kept.drewN | apply Kept.drew) | exact HK.out)⟩, ⟨by repeat (first | (with_reducible first | exact HB.out | apply below_alloc | apply pw_below_drewN | apply below_drew1) | exact HB.out)⟩⟩
 case round =>
  clear H'
  try clear c1
  try clear p2
  obtain ⟨x0_1, x1_1, x5_1, rfl, rfl, HA, HK1, HO_0, HK, HB⟩ := hrel
  cases gk with
  | zero => exact absurd HA.out (by simp [laws_markInt64S.l0])
  | succ k1 =>
   have H := HA.out
   clear HA
   simp only [laws_markInt64S.l0] at H
   by_cases c3 : x5_1 < (x0_1.length : Int)
   ·
    rw [if_pos c3] at H
    have c3b0 : decide (x5_1 < (x0_1.length : Int)) = true := decide_eq_true c3
    clear c3
    by_cases c4 : 0 ≤ x5_1
    ·
     rw [if_pos c4] at H
     have c4b0 : decide (0 ≤ x5_1) = true := decide_eq_true c4
     clear c4
     obtain ⟨y279, hy279⟩ : ∃ y_ : List Int, y_ = (x0_1.set (x5_1 : Int).toNat x1_1) := ⟨_, rfl⟩
     replace H : (laws_markInt64S.l0 k1 y279 (wrap64 (x1_1 + 1)) (wrap64 (x5_1 + 1))) = some (r1, r2) := by first | (rw [hy279]; with_reducible exact H) | (have H2_ := (Option.bind_some _ _).symm.trans H; rw [hy279]; with_reducible exact H2_) | (have H2_ := (Option.bind_some _ _).symm.trans H; with_reducible exact H2_) | with_reducible exact H | (rw [hy279]; exact H) | exact H
     have Ny279 := Aside0.mk hy279
     clear hy279
     have H' := Aside0.mk H
     clear H
     obtain ⟨Ao6, co6, eo6⟩ := Kd.R_slice HO_0.out
     subst eo6
     have p5 : 0 ≤ (x5_1 : Int) := of_decide_eq_true (by first | (with_reducible assumption) | assumption)
     have q5 : (x5_1 : Int) < ((x0_1.length : Int) : Int) := of_decide_eq_true (by first | (with_reducible assumption) | assumption)
     obtain ⟨go5, co5, eo5, gb5, gl5, cl5, HG5⟩ := Kd.R_form HO_0.out (by omega)
     (first | cases eo5 | (injection eo5 with ea_ en_ ec_; (first | subst ea_ | (injection ea_ with ea_; subst ea_)); subst ec_; clear en_))
     have GB5 := Aside0.mk gb5
     have GG5 := Aside0.mk HG5
     clear gb5 gl5 HG5
     have HMgo5 := Aside0.mk (show (P0_ go5 ∨ w.heap.size ≤ go5) from (HO_0.out.1 _ rfl))
     obtain ⟨hx5_0, hf5_0⟩ := Kd.R_celln 0 HO_0.out (x5_1 : Int) p5 q5
     replace p5 := eq_true p5
     replace q5 := eq_true q5
     have HP7 := Kd.R_putg HO_0.out (x5_1 : Int) x1_1
     go_wp2_with (first | ((with_reducible refine gate_store (t := 2) (p := 15) rfl ?_); refine store_event (t := 2) (p := 15) (v := ?vo_w8) (w1 := (wr.setCell ⟨go5, (x5_1 : Int).toNat, none⟩ (.int .i64 x1_1))) ?hg ?ho ?hn ?hr ?_; (case ho => rfl); (case hg => rfl); (case hn => rfl); (case hr => first | (go_simp; done) | (go_simp; rfl)); intro w8 hw; have hg : wr.grownBy w8 (some go5) := (by rw [hw]; exact HP7.2); have hp_ : Kd.R (Kd.int .i64) 2 w8 w0.heap.size (fun k_ => (P0_ k_ ∨ w.heap.size ≤ k_)) (.slice (some ⟨go5, 0, none⟩) x0_1.length co6) y279 := (by rw [hw, Ny279.out]; exact HP7.1); clear HP7; have n0_ := Aside0.mk (hp_); have n1_ := Aside0.mk ((by rw [hw]; exact below_set (HB.out) GB5.out : Below w0.heap.size w0 w8)); have n2_ := Aside0.mk (Kept.of_grown (S := (fun k_ => P0_ k_)) hg HK.out (fun k_ e_ => (HO_0.out.1 k_ e_))); clear HO_0; clear HB; clear HK; have HO_0 := n0_; have HB := n1_; have HK := n2_; clear n0_ n1_ n2_; clear hg hw hp_))
     go_roundg k1
     case measure => have := HK1.out; omega
     case rel => exact ⟨(y279), (wrap64 (x1_1 + 1)), (wrap64 (x5_1 + 1)), (by first | rfl | (simp; done) | (simp [*]; done)), (by first | rfl | (simp; done) | (simp [*]; done)), H', ⟨by have := HK1.out; omega⟩, ⟨by (with_reducible repeat (first | apply Kd.R_alloc | apply Kd.R_drewN | apply Kd.R_drew)); exact HO_0.out⟩, ⟨by repeat (first | (with_reducible first | exact HK.out | apply Kept.alloc | apply Kept.drewN | apply Kept.drew) | exact HK.out)⟩, ⟨by repeat (first | (with_reducible first | exact HB.out | apply below_alloc | apply pw_below_drewN | apply below_drew1) | exact HB.out)⟩⟩
    ·
     rw [if_neg c4] at H
     exact absurd H (by simp)
   ·
    rw [if_neg c3] at H
    have c3b0 : decide (x5_1 < (x0_1.length : Int)) = false := decide_eq_false c3
    clear c3
    simp only [Option.some.injEq, Prod.mk.injEq] at H
    obtain ⟨rfl, rfl⟩ := H
    obtain ⟨Ao9, co9, eo9⟩ := Kd.R_slice HO_0.out
    subst eo9
    go_wp2
    go_ret
    exact ⟨by first | rfl | (simp [errW_none, errW_some] <;> rfl) | (simp [*, errW_none, errW_some] <;> rfl), by (with_reducible repeat (first | apply Kd.R_alloc | apply Kd.R_drewN | apply Kd.R_drew)); exact HO_0.out, by repeat (first | (with_reducible first | exact HB.out | apply below_alloc | apply pw_below_drewN | apply below_drew1) | exact HB.out), by repeat (first | (with_reducible first | exact HK.out | apply Kept.alloc | apply Kept.drewN | apply Kept.drew) | exact HK.out)⟩

/-! ### laws_markText: function 50 -/
def laws_markText.l0 : Nat → Int → ByteArray → Option (ByteArray)
  | 0, _, _ => none
  | k + 1, x0, x3 => if x0 > 0 then ((some (([(wrap64 (48 + (Int.tmod x0 10))) % 256] : List Int) : List Int)).bind fun y280 => (if (strOfNums y280).size + x3.size ≤ 9223372036854775807 then (laws_markText.l0 k (wrap64 (Int.tdiv x0 10)) ((strOfNums y280) ++ x3)) else (none))) else (if 1 + x3.size ≤ 9223372036854775807 then (some ((⟨#[109]⟩ : ByteArray) ++ x3)) else (none))
def laws_markText.f (k : Nat) (a0 : Int) : Option (ByteArray) := if a0 ≤ 0 then (some (⟨#[109, 48]⟩ : ByteArray)) else (laws_markText.l0 k a0 (⟨#[]⟩ : ByteArray))
theorem laws_markText.mono_l : ∀ k, (∀ y0 y1, LeO (laws_markText.l0 k y0 y1) (laws_markText.l0 (k + 1) y0 y1))
  | 0 => fun _ _ r h => by simp [laws_markText.l0] at h
  | k + 1 => by
    have ih0 := laws_markText.mono_l k
    · intro y0 y1
      unfold laws_markText.l0
      repeat' first
      | (with_reducible exact ih0 _ _)
      | (with_reducible exact LeO.refl _)
      | (with_reducible exact LeO.none _)
      | (with_reducible refine LeO.ite ?_ ?_)
      | (with_reducible refine LeO.bind ?_ (fun _ => ?_))
      | exact ih0 _ _
      | exact LeO.none _
      | refine LeO.ite ?_ ?_
      | refine LeO.bind ?_ (fun _ => ?_)
theorem laws_markText.mono : ∀ a0 k, LeO (laws_markText.f k a0) (laws_markText.f (k + 1) a0) := by
  intro a0 k
  have ih0 := laws_markText.mono_l k
  unfold laws_markText.f
  repeat' first
      | (with_reducible exact ih0 _ _)
      | (with_reducible exact LeO.refl _)
      | (with_reducible exact LeO.none _)
      | (with_reducible refine LeO.ite ?_ ?_)
      | (with_reducible refine LeO.bind ?_ (fun _ => ?_))
      | exact ih0 _ _
      | exact LeO.none _
      | refine LeO.ite ?_ ?_
      | refine LeO.bind ?_ (fun _ => ?_)
set_option maxHeartbeats 8000000 in
set_option maxRecDepth 100000 in
theorem laws_markText.calls (k : Nat) (a0 : Int) (r : ByteArray) (w : World) (h : laws_markText.f k a0 = some r) :
    Calls Try.prog 50 #[.int .i64 a0] w fun e w' => e = .returned (.string r) ∧ Below w.heap.size w w' := by
 have HB := Aside0.mk (Below.refl w.heap.size w)
 have H : (if a0 ≤ 0 then (some (⟨#[109, 48]⟩ : ByteArray)) else (laws_markText.l0 k a0 (⟨#[]⟩ : ByteArray))) = some r := h
 clear h
 by_cases c2 : a0 ≤ 0
 ·
  rw [if_pos c2] at H
  have c2b0 : decide (a0 ≤ 0) = true := decide_eq_true c2
  clear c2
  obtain rfl := Option.some.inj H
  go_enter Try.func50, Try.ntmps50
  go_wp2
  go_ret
  exact ⟨by first | rfl | (simp [errW_none, errW_some] <;> rfl) | (simp [*, errW_none, errW_some] <;> rfl), by repeat (first | (with_reducible first | exact HB.out | apply below_alloc | apply pw_below_drewN | apply below_drew1) | exact HB.out)⟩
 ·
  rw [if_neg c2] at H
  have c2b0 : decide (a0 ≤ 0) = false := decide_eq_false c2
  clear c2
  have H' := Aside0.mk H
  clear H
  go_enter Try.func50, Try.ntmps50
  go_wp2
  go_loopg [0, 3] k (fun kq v0 v3 w' => ∃ (x0_1 : Int) (x3_1 : ByteArray), v0 = .int .i64 x0_1 ∧ v3 = .string x3_1 ∧ Aside0 (laws_markText.l0 kq x0_1 x3_1 = some r) ∧ Aside0 (kq ≤ k) ∧ Aside0 (Below w.heap.size w w'))
  case atStart => exact ⟨(a0), ((⟨#[]⟩ : ByteArray)), (by first | rfl | (simp; done) | (simp [*]; done)), (by first | rfl | (simp; done) | (simp [*]; done)), H', ⟨Nat.le_refl _⟩, ⟨by repeat (first | (with_reducible first | exact HB.out | apply below_alloc | apply pw_below_drewN | apply below_drew1) | exact HB.out)⟩⟩
  case round =>
   clear H'
   try clear c2
   try clear c2b0
   try clear p2
   obtain ⟨x0_1, x3_1, rfl, rfl, HA, HK1, HB⟩ := hrel
   cases gk with
   | zero => exact absurd HA.out (by simp [laws_markText.l0])
   | succ k1 =>
    have H := HA.out
    clear HA
    simp only [laws_markText.l0] at H
    by_cases c3 : x0_1 > 0
    ·
     rw [if_pos c3] at H
     have c3b0 : decide (0 < x0_1) = true := decide_eq_true c3
     clear c3
     obtain ⟨y280, hy280⟩ : ∃ y_ : List Int, y_ = (([(wrap64 (48 + (Int.tmod x0_1 10))) % 256] : List Int)) := ⟨_, rfl⟩
     replace H : (if (strOfNums y280).size + x3_1.size ≤ 9223372036854775807 then (laws_markText.l0 k1 (wrap64 (Int.tdiv x0_1 10)) ((strOfNums y280) ++ x3_1)) else (none)) = some r := by first | (rw [hy280]; with_reducible exact H) | (have H2_ := (Option.bind_some _ _).symm.trans H; rw [hy280]; with_reducible exact H2_) | (have H2_ := (Option.bind_some _ _).symm.trans H; with_reducible exact H2_) | with_reducible exact H | (rw [hy280]; exact H) | exact H
     have Ny280 := Aside0.mk hy280
     clear hy280
     by_cases c4 : (strOfNums y280).size + x3_1.size ≤ 9223372036854775807
     ·
      rw [if_pos c4] at H
      have c4b0 := eq_true c4
      have c4b1 : decide ((strOfNums y280).size + x3_1.size ≤ 9223372036854775807) = true := decide_eq_true c4
      try have c4b2 : (9223372036854775807 < (strOfNums y280).size + x3_1.size) = False := eq_false (Nat.not_lt.2 c4)
      have H' := Aside0.mk H
      clear H
      go_wp2_with (first | ((with_reducible refine gate_dst (N := 12) rfl ?_); refine Kd.R_lit (Kd.int .u8) _ 5 ?hg (N := 12) ?hd (xs := ([(wrap64 (48 + (Int.tmod x0_1 10))) % 256] : List Int)) (inner := [.int .u8 ((wrap64 (48 + (Int.tmod x0_1 10))) % 256)]) (ok := fun _ => True) (okp := fun _ => True) ?hr ?hp (fun _ hk => hk) trivial (Below.refl _ _) (Nat.le_refl _) (by simp) ?_; (case hd => rfl); (case hg => rfl); (case hr => first | (go_simp; done) | (go_simp; rfl)); (case hp => exact (Reps.one (show Kd.M (Kd.int .u8) _ _ _ ((wrap64 (48 + (Int.tmod x0_1 10))) % 256) [.int .u8 ((wrap64 (48 + (Int.tmod x0_1 10))) % 256)] from rfl) (Reps.none _ _))); intro v281 w5 ho6 hb hg_ hnew_; clear hg_ hnew_; (first | rw [← Ny280.out] at ho6 | (simp only [Int.reduceToNat] at ho6; rw [← Ny280.out] at ho6)); have n0_ := Aside0.mk (Kd.R_lower ho6 (below_size HB.out)); have n1_ := Aside0.mk (below_step HB.out hb); clear HB; have HO282 := n0_; have HB := n1_; clear n0_ n1_; clear hb ho6; have hcv7 := own_string (P := Try.prog) Try.underlying94 Try.underlying5 Try.underlying9 (Kd.own_of_R HO282.out)))
      go_roundg k1
      case measure => have := HK1.out; omega
      case rel => exact ⟨(wrap64 (Int.tdiv x0_1 10)), ((strOfNums y280) ++ x3_1), (by first | rfl | (simp; done) | (simp [*]; done)), (by first | rfl | (simp; done) | (simp [*]; done)), H', ⟨by have := HK1.out; omega⟩, ⟨by repeat (first | (with_reducible first | exact HB.out | apply below_alloc | apply pw_below_drewN | apply below_drew1) | exact HB.out)⟩⟩
     ·
      rw [if_neg c4] at H
      exact absurd H (by simp)
    ·
     rw [if_neg c3] at H
     have c3b0 : decide (0 < x0_1) = false := decide_eq_false c3
     clear c3
     by_cases c8 : 1 + x3_1.size ≤ 9223372036854775807
     ·
      rw [if_pos c8] at H
      have c8b0 := eq_true c8
      have c8b1 : decide (1 + x3_1.size ≤ 9223372036854775807) = true := decide_eq_true c8
      try have c8b2 : (9223372036854775807 < 1 + x3_1.size) = False := eq_false (Nat.not_lt.2 c8)
      obtain rfl := Option.some.inj H
      go_wp2
      go_ret
      exact ⟨by first | rfl | (simp [errW_none, errW_some] <;> rfl) | (simp [*, errW_none, errW_some] <;> rfl), by repeat (first | (with_reducible first | exact HB.out | apply below_alloc | apply pw_below_drewN | apply below_drew1) | exact HB.out)⟩
     ·
      rw [if_neg c8] at H
      exact absurd H (by simp)

/-! ### laws_markShownS: function 33 -/
def laws_markShownS.l0 : Nat → List S55 → Int → Int → Option Int
  | 0, _, _, _ => none
  | k + 1, x0, x1, x5 => if x5 < (x0.length : Int) then (if 0 ≤ x5 then ((laws_markText.f k (wrap64 ((wrap64 ((wrap64 ((wrap64 ((wrap64 ((wrap64 (x1 + 1)) + 1)) + 1)) + 1)) + 1)) + 1))).bind fun t => ((laws_markInt64S.f k (rd_T55 x0 x5).f0.f7 (wrap64 ((wrap64 ((wrap64 ((wrap64 ((wrap64 ((wrap64 ((wrap64 (x1 + 1)) + 1)) + 1)) + 1)) + 1)) + 1)) + 1))).bind fun b => (laws_markShownS.l0 k (x0.set (x5 : Int).toNat (⟨⟨x1, (wrap64 (x1 + 1)), (wrap64 ((wrap64 (x1 + 1)) + 1)), (wrap64 ((wrap64 ((wrap64 (x1 + 1)) + 1)) + 1)), (wrap64 ((wrap64 ((wrap64 ((wrap64 (x1 + 1)) + 1)) + 1)) + 1)), (wrap64 ((wrap64 ((wrap64 ((wrap64 ((wrap64 (x1 + 1)) + 1)) + 1)) + 1)) + 1)), t, b.2, b.1⟩, (Int.tmod (wrap64 (b.1 + 1)) 3 == 0)⟩ : S55)) (wrap64 ((wrap64 (b.1 + 1)) + 1)) (wrap64 (x5 + 1))))) else (none)) else (some x1)
def laws_markShownS.f (k : Nat) (l0 : List S55) (a1 : Int) : Option Int := laws_markShownS.l0 k l0 a1 0
theorem laws_markShownS.mono_l : ∀ k, (∀ y0 y1 y2, LeO (laws_markShownS.l0 k y0 y1 y2) (laws_markShownS.l0 (k + 1) y0 y1 y2))
  | 0 => fun _ _ _ r h => by simp [laws_markShownS.l0] at h
  | k + 1 => by
    have ih0 := laws_markShownS.mono_l k
    intro y0 y1 y2
    unfold laws_markShownS.l0
    repeat' first
      | (with_reducible exact ih0 _ _ _)
      | (with_reducible exact laws_markText.mono _ _)
      | (with_reducible exact laws_markInt64S.mono _ _ _)
      | (with_reducible exact LeO.refl _)
      | (with_reducible exact LeO.none _)
      | (with_reducible refine LeO.ite ?_ ?_)
      | (with_reducible refine LeO.bind ?_ (fun _ => ?_))
      | exact ih0 _ _ _
      | exact laws_markText.mono _ _
      | exact laws_markInt64S.mono _ _ _
      | exact LeO.none _
      | refine LeO.ite ?_ ?_
      | refine LeO.bind ?_ (fun _ => ?_)
theorem laws_markShownS.mono : ∀ a0 a1 k, LeO (laws_markShownS.f k a0 a1) (laws_markShownS.f (k + 1) a0 a1) := by
  intro a0 a1 k
  exact laws_markShownS.mono_l k _ _ _
theorem laws_markShownS.elem {α : Type} {d : Kd α} {e g n cap : Nat} {W : World} {base : Nat} {ok oki : Nat → Prop} {xs : List α} {i : Int} {c : List Value} (h : Kd.H d e W base ok (.slice (some ⟨g, 0, none⟩) n cap) xs i oki c) (h0 : 0 ≤ i) (h1 : i < n) :
    (∀ j u, c[j]? = some u → W.cell? ⟨g, i.toNat * d.sz + j, none⟩ = some u) ∧ (∀ j, W.frozen? ⟨g, i.toNat * d.sz + j, none⟩ = false) := by
  obtain ⟨rows, _, hraw, _, _, hcc, _⟩ := Kd.H_raw h h0 h1
  obtain ⟨_, _, _, _, hfr⟩ := Kd.R_elem hraw ([] : List Value) i h0 h1
  exact ⟨hcc, hfr⟩
set_option maxHeartbeats 8000000 in
set_option maxRecDepth 100000 in
theorem laws_markShownS.calls (k : Nat) (P0_ : Nat → Prop) (u9000_ : Value) (l0 : List S55) (a1 : Int) (r : Int) (w0 w : World) (hB : Below w0.heap.size w0 w) (ho0 : Kd.S k55 55 w w0.heap.size P0_ u9000_ l0) (h : laws_markShownS.f k l0 a1 = some r) :
    Calls Try.prog 33 #[u9000_, .int .i64 a1] w fun e w' => e = .returned (.int .i64 r) ∧ Below w0.heap.size w0 w' ∧ Kept w w' (fun k_ => P0_ k_) := by
  have hu53 := Try.underlying53
  have hu55 := Try.underlying55
  have HO0 := Aside0.mk (show Kd.S k55 55 w w0.heap.size (fun k_ => (P0_ k_ ∨ w.heap.size ≤ k_)) u9000_ l0 from Kd.S_mono ho0 (fun k_ hk => (.inl hk)))
  have HK := Aside0.mk (Kept.refl w (fun k_ => P0_ k_))
  have HB := Aside0.mk hB
  clear hB ho0
  have H' := Aside0.mk (show laws_markShownS.l0 k l0 a1 0 = some r from h)
  clear h
  go_enter Try.func33, Try.ntmps33
  go_wp2
  go_loopg [1, 5] k (fun kq v1 v5 w' => ∃ (x0_1 : List S55) (x1_1 : Int) (x5_1 : Int), v1 = .int .i64 x1_1 ∧ v5 = .int .i64 x5_1 ∧ Aside0 (laws_markShownS.l0 kq x0_1 x1_1 x5_1 = some r) ∧ Aside0 (kq ≤ k) ∧ Aside0 (Kd.S k55 55 w' w0.heap.size (fun k_ => (P0_ k_ ∨ w.heap.size ≤ k_)) u9000_ x0_1) ∧ Aside0 (Kept w w' (fun k_ => P0_ k_)) ∧ Aside0 (Below w0.heap.size w0 w'))
  case atStart => exact ⟨(l0), (a1), (0), (by first | rfl | (simp; done) | (simp [*]; done)), (by first | rfl | (simp; done) | (simp [*]; done)), H', ⟨Nat.le_refl _⟩, ⟨HO0.out⟩, ⟨HK.out⟩, ⟨HB.out⟩⟩
  case round =>
    clear H' HO0 HK HB
    obtain ⟨x0_1, x1_1, x5_1, rfl, rfl, HA, HK1, HO_0, HK, HB⟩ := hrel
    cases gk with
    | zero => exact absurd HA.out (by simp [laws_markShownS.l0])
    | succ k1 =>
      have H := HA.out
      clear HA
      simp only [laws_markShownS.l0] at H
      obtain ⟨Ao8, co8, eo8⟩ := Kd.S_slice HO_0.out
      by_cases c3 : x5_1 < (x0_1.length : Int)
      · rw [if_pos c3] at H
        by_cases c4 : 0 ≤ x5_1
        · rw [if_pos c4] at H
          obtain ⟨t, A50, H⟩ := Option.bind_eq_some_iff.mp H
          obtain ⟨⟨b1, b2⟩, A60, H⟩ := Option.bind_eq_some_iff.mp H
          have A5 := Aside0.mk A50
          have A6 := Aside0.mk A60
          have H' := Aside0.mk H
          clear A50 A60 H
          obtain ⟨go5, co5, eo5, gb5, gl5, cl5, HG5⟩ := Kd.S_form HO_0.out (by omega)
          subst eo5
          clear eo8 HG5
          have GB := Aside0.mk gb5
          have GO := Aside0.mk (show (P0_ go5 ∨ w.heap.size ≤ go5) from (Kd.S_R HO_0.out).1 _ rfl)
          clear gb5 gl5
          obtain ⟨oki, ce5, hcl5, hM5, hcc5, hfr5, hoki, hH5⟩ := Kd.S_elem HO_0.out z55 (x5_1 : Int) c4 c3
          obtain ⟨v7_, rfl, hR5⟩ := k55_openM hM5
          have hx_0 : wr.cell? ⟨go5, (x5_1 : Int).toNat * 10, none⟩ = some (.int .i64 (rd_T55 x0_1 x5_1).f0.f0) := hcc5 0 _ rfl
          have hf_0 : wr.frozen? ⟨go5, (x5_1 : Int).toNat * 10, none⟩ = false := hfr5 0
          have hx_1 : wr.cell? ⟨go5, (x5_1 : Int).toNat * 10 + 1, none⟩ = some (.int .i64 (rd_T55 x0_1 x5_1).f0.f1) := hcc5 1 _ rfl
          have hf_1 : wr.frozen? ⟨go5, (x5_1 : Int).toNat * 10 + 1, none⟩ = false := hfr5 1
          have hx_2 : wr.cell? ⟨go5, (x5_1 : Int).toNat * 10 + 2, none⟩ = some (.int .i64 (rd_T55 x0_1 x5_1).f0.f2) := hcc5 2 _ rfl
          have hf_2 : wr.frozen? ⟨go5, (x5_1 : Int).toNat * 10 + 2, none⟩ = false := hfr5 2
          have hx_3 : wr.cell? ⟨go5, (x5_1 : Int).toNat * 10 + 3, none⟩ = some (.int .i64 (rd_T55 x0_1 x5_1).f0.f3) := hcc5 3 _ rfl
          have hf_3 : wr.frozen? ⟨go5, (x5_1 : Int).toNat * 10 + 3, none⟩ = false := hfr5 3
          have hx_4 : wr.cell? ⟨go5, (x5_1 : Int).toNat * 10 + 4, none⟩ = some (.int .i64 (rd_T55 x0_1 x5_1).f0.f4) := hcc5 4 _ rfl
          have hf_4 : wr.frozen? ⟨go5, (x5_1 : Int).toNat * 10 + 4, none⟩ = false := hfr5 4
          have hx_5 : wr.cell? ⟨go5, (x5_1 : Int).toNat * 10 + 5, none⟩ = some (.int .i64 (rd_T55 x0_1 x5_1).f0.f5) := hcc5 5 _ rfl
          have hf_5 : wr.frozen? ⟨go5, (x5_1 : Int).toNat * 10 + 5, none⟩ = false := hfr5 5
          have hx_6 : wr.cell? ⟨go5, (x5_1 : Int).toNat * 10 + 6, none⟩ = some (.string (rd_T55 x0_1 x5_1).f0.f6) := hcc5 6 _ rfl
          have hf_6 : wr.frozen? ⟨go5, (x5_1 : Int).toNat * 10 + 6, none⟩ = false := hfr5 6
          have hx_7 : wr.cell? ⟨go5, (x5_1 : Int).toNat * 10 + 7, none⟩ = some (v7_) := hcc5 7 _ rfl
          have hf_7 : wr.frozen? ⟨go5, (x5_1 : Int).toNat * 10 + 7, none⟩ = false := hfr5 7
          have hx_8 : wr.cell? ⟨go5, (x5_1 : Int).toNat * 10 + 8, none⟩ = some (.int .i64 (rd_T55 x0_1 x5_1).f0.f8) := hcc5 8 _ rfl
          have hf_8 : wr.frozen? ⟨go5, (x5_1 : Int).toNat * 10 + 8, none⟩ = false := hfr5 8
          have hx_9 : wr.cell? ⟨go5, (x5_1 : Int).toNat * 10 + 9, none⟩ = some (.bool (rd_T55 x0_1 x5_1).f1) := hcc5 9 _ rfl
          have hf_9 : wr.frozen? ⟨go5, (x5_1 : Int).toNat * 10 + 9, none⟩ = false := hfr5 9
          have HR := Aside0.mk (show Kd.R (Kd.int .i64) 2 wr w0.heap.size oki v7_ ((rd_T55 x0_1 x5_1).f0.f7) from hR5)
          have HH := Aside0.mk (show Kd.H k55 55 wr w0.heap.size (fun k_ => (P0_ k_ ∨ w.heap.size ≤ k_)) (.slice (some ⟨go5, 0, none⟩) x0_1.length co5) x0_1 x5_1 oki [.int .i64 (rd_T55 x0_1 x5_1).f0.f0, .int .i64 (rd_T55 x0_1 x5_1).f0.f1, .int .i64 (rd_T55 x0_1 x5_1).f0.f2, .int .i64 (rd_T55 x0_1 x5_1).f0.f3, .int .i64 (rd_T55 x0_1 x5_1).f0.f4, .int .i64 (rd_T55 x0_1 x5_1).f0.f5, .string (rd_T55 x0_1 x5_1).f0.f6, v7_, .int .i64 (rd_T55 x0_1 x5_1).f0.f8, .bool (rd_T55 x0_1 x5_1).f1] from hH5)
          have HI := Aside0.mk hoki
          clear hR5 hH5 hoki hM5 hcc5 hfr5 hcl5
          have C3 := Aside0.mk c3
          have C4 := Aside0.mk c4
          have c3b0 : decide (x5_1 < (x0_1.length : Int)) = true := decide_eq_true c3
          have c4b0 : decide (0 ≤ x5_1) = true := decide_eq_true c4
          replace c3 := eq_true c3
          replace c4 := eq_true c4
          go_wp2_with (first | ((with_reducible refine gate_callee (f := 50) rfl ?_); refine goesL_ (some 63) rfl rfl Try.func50 (by kernel_rfl) rfl #[.int .i64 (wrap64 ((wrap64 ((wrap64 ((wrap64 ((wrap64 ((wrap64 (x1_1 + 1)) + 1)) + 1)) + 1)) + 1)) + 1))] rfl (by (try simp only [List.map_toArray, List.map_cons, List.map_nil]); first | done | rfl) ?_; (try clear hx_0 hf_0 hx_1 hf_1 hx_2 hf_2 hx_3 hf_3 hx_4 hf_4 hx_5 hf_5 hx_6 hf_6 hx_7 hf_7 hx_8 hf_8 hx_9 hf_9); (obtain ⟨w101, hw⟩ : ∃ w_ : World, w_ = ((((((wr.setCell ⟨go5, (x5_1 : Int).toNat * 10, none⟩ (.int .i64 x1_1)).setCell ⟨go5, (x5_1 : Int).toNat * 10 + 1, none⟩ (.int .i64 (wrap64 (x1_1 + 1)))).setCell ⟨go5, (x5_1 : Int).toNat * 10 + 2, none⟩ (.int .i64 (wrap64 ((wrap64 (x1_1 + 1)) + 1)))).setCell ⟨go5, (x5_1 : Int).toNat * 10 + 3, none⟩ (.int .i64 (wrap64 ((wrap64 ((wrap64 (x1_1 + 1)) + 1)) + 1)))).setCell ⟨go5, (x5_1 : Int).toNat * 10 + 4, none⟩ (.int .i64 (wrap64 ((wrap64 ((wrap64 ((wrap64 (x1_1 + 1)) + 1)) + 1)) + 1)))).setCell ⟨go5, (x5_1 : Int).toNat * 10 + 5, none⟩ (.int .i64 (wrap64 ((wrap64 ((wrap64 ((wrap64 ((wrap64 (x1_1 + 1)) + 1)) + 1)) + 1)) + 1)))) := ⟨_, rfl⟩); rw [← hw]; have n0_ := Aside0.mk (show Kd.H k55 55 w101 w0.heap.size (fun k_ => (P0_ k_ ∨ w.heap.size ≤ k_)) (.slice (some ⟨go5, 0, none⟩) x0_1.length co5) x0_1 x5_1 oki [.int .i64 x1_1, .int .i64 (wrap64 (x1_1 + 1)), .int .i64 (wrap64 ((wrap64 (x1_1 + 1)) + 1)), .int .i64 (wrap64 ((wrap64 ((wrap64 (x1_1 + 1)) + 1)) + 1)), .int .i64 (wrap64 ((wrap64 ((wrap64 ((wrap64 (x1_1 + 1)) + 1)) + 1)) + 1)), .int .i64 (wrap64 ((wrap64 ((wrap64 ((wrap64 ((wrap64 (x1_1 + 1)) + 1)) + 1)) + 1)) + 1)), .string (rd_T55 x0_1 x5_1).f0.f6, v7_, .int .i64 (rd_T55 x0_1 x5_1).f0.f8, .bool (rd_T55 x0_1 x5_1).f1] from (by rw [hw]; exact (show Kd.H k55 55 ((((((wr.setCell ⟨go5, (x5_1 : Int).toNat * 10, none⟩ (.int .i64 x1_1)).setCell ⟨go5, (x5_1 : Int).toNat * 10 + 1, none⟩ (.int .i64 (wrap64 (x1_1 + 1)))).setCell ⟨go5, (x5_1 : Int).toNat * 10 + 2, none⟩ (.int .i64 (wrap64 ((wrap64 (x1_1 + 1)) + 1)))).setCell ⟨go5, (x5_1 : Int).toNat * 10 + 3, none⟩ (.int .i64 (wrap64 ((wrap64 ((wrap64 (x1_1 + 1)) + 1)) + 1)))).setCell ⟨go5, (x5_1 : Int).toNat * 10 + 4, none⟩ (.int .i64 (wrap64 ((wrap64 ((wrap64 ((wrap64 (x1_1 + 1)) + 1)) + 1)) + 1)))).setCell ⟨go5, (x5_1 : Int).toNat * 10 + 5, none⟩ (.int .i64 (wrap64 ((wrap64 ((wrap64 ((wrap64 ((wrap64 (x1_1 + 1)) + 1)) + 1)) + 1)) + 1)))) w0.heap.size (fun k_ => (P0_ k_ ∨ w.heap.size ≤ k_)) (.slice (some ⟨go5, 0, none⟩) x0_1.length co5) x0_1 x5_1 oki [.int .i64 x1_1, .int .i64 (wrap64 (x1_1 + 1)), .int .i64 (wrap64 ((wrap64 (x1_1 + 1)) + 1)), .int .i64 (wrap64 ((wrap64 ((wrap64 (x1_1 + 1)) + 1)) + 1)), .int .i64 (wrap64 ((wrap64 ((wrap64 ((wrap64 (x1_1 + 1)) + 1)) + 1)) + 1)), .int .i64 (wrap64 ((wrap64 ((wrap64 ((wrap64 ((wrap64 (x1_1 + 1)) + 1)) + 1)) + 1)) + 1)), .string (rd_T55 x0_1 x5_1).f0.f6, v7_, .int .i64 (rd_T55 x0_1 x5_1).f0.f8, .bool (rd_T55 x0_1 x5_1).f1] from (Kd.H_seg (seg := [.int .i64 (wrap64 ((wrap64 ((wrap64 ((wrap64 ((wrap64 (x1_1 + 1)) + 1)) + 1)) + 1)) + 1))]) (j := 5) ((show Kd.H k55 55 (((((wr.setCell ⟨go5, (x5_1 : Int).toNat * 10, none⟩ (.int .i64 x1_1)).setCell ⟨go5, (x5_1 : Int).toNat * 10 + 1, none⟩ (.int .i64 (wrap64 (x1_1 + 1)))).setCell ⟨go5, (x5_1 : Int).toNat * 10 + 2, none⟩ (.int .i64 (wrap64 ((wrap64 (x1_1 + 1)) + 1)))).setCell ⟨go5, (x5_1 : Int).toNat * 10 + 3, none⟩ (.int .i64 (wrap64 ((wrap64 ((wrap64 (x1_1 + 1)) + 1)) + 1)))).setCell ⟨go5, (x5_1 : Int).toNat * 10 + 4, none⟩ (.int .i64 (wrap64 ((wrap64 ((wrap64 ((wrap64 (x1_1 + 1)) + 1)) + 1)) + 1)))) w0.heap.size (fun k_ => (P0_ k_ ∨ w.heap.size ≤ k_)) (.slice (some ⟨go5, 0, none⟩) x0_1.length co5) x0_1 x5_1 oki [.int .i64 x1_1, .int .i64 (wrap64 (x1_1 + 1)), .int .i64 (wrap64 ((wrap64 (x1_1 + 1)) + 1)), .int .i64 (wrap64 ((wrap64 ((wrap64 (x1_1 + 1)) + 1)) + 1)), .int .i64 (wrap64 ((wrap64 ((wrap64 ((wrap64 (x1_1 + 1)) + 1)) + 1)) + 1)), .int .i64 (rd_T55 x0_1 x5_1).f0.f5, .string (rd_T55 x0_1 x5_1).f0.f6, v7_, .int .i64 (rd_T55 x0_1 x5_1).f0.f8, .bool (rd_T55 x0_1 x5_1).f1] from (Kd.H_seg (seg := [.int .i64 (wrap64 ((wrap64 ((wrap64 ((wrap64 (x1_1 + 1)) + 1)) + 1)) + 1))]) (j := 4) ((show Kd.H k55 55 ((((wr.setCell ⟨go5, (x5_1 : Int).toNat * 10, none⟩ (.int .i64 x1_1)).setCell ⟨go5, (x5_1 : Int).toNat * 10 + 1, none⟩ (.int .i64 (wrap64 (x1_1 + 1)))).setCell ⟨go5, (x5_1 : Int).toNat * 10 + 2, none⟩ (.int .i64 (wrap64 ((wrap64 (x1_1 + 1)) + 1)))).setCell ⟨go5, (x5_1 : Int).toNat * 10 + 3, none⟩ (.int .i64 (wrap64 ((wrap64 ((wrap64 (x1_1 + 1)) + 1)) + 1)))) w0.heap.size (fun k_ => (P0_ k_ ∨ w.heap.size ≤ k_)) (.slice (some ⟨go5, 0, none⟩) x0_1.length co5) x0_1 x5_1 oki [.int .i64 x1_1, .int .i64 (wrap64 (x1_1 + 1)), .int .i64 (wrap64 ((wrap64 (x1_1 + 1)) + 1)), .int .i64 (wrap64 ((wrap64 ((wrap64 (x1_1 + 1)) + 1)) + 1)), .int .i64 (rd_T55 x0_1 x5_1).f0.f4, .int .i64 (rd_T55 x0_1 x5_1).f0.f5, .string (rd_T55 x0_1 x5_1).f0.f6, v7_, .int .i64 (rd_T55 x0_1 x5_1).f0.f8, .bool (rd_T55 x0_1 x5_1).f1] from (Kd.H_seg (seg := [.int .i64 (wrap64 ((wrap64 ((wrap64 (x1_1 + 1)) + 1)) + 1))]) (j := 3) ((show Kd.H k55 55 (((wr.setCell ⟨go5, (x5_1 : Int).toNat * 10, none⟩ (.int .i64 x1_1)).setCell ⟨go5, (x5_1 : Int).toNat * 10 + 1, none⟩ (.int .i64 (wrap64 (x1_1 + 1)))).setCell ⟨go5, (x5_1 : Int).toNat * 10 + 2, none⟩ (.int .i64 (wrap64 ((wrap64 (x1_1 + 1)) + 1)))) w0.heap.size (fun k_ => (P0_ k_ ∨ w.heap.size ≤ k_)) (.slice (some ⟨go5, 0, none⟩) x0_1.length co5) x0_1 x5_1 oki [.int .i64 x1_1, .int .i64 (wrap64 (x1_1 + 1)), .int .i64 (wrap64 ((wrap64 (x1_1 + 1)) + 1)), .int .i64 (rd_T55 x0_1 x5_1).f0.f3, .int .i64 (rd_T55 x0_1 x5_1).f0.f4, .int .i64 (rd_T55 x0_1 x5_1).f0.f5, .string (rd_T55 x0_1 x5_1).f0.f6, v7_, .int .i64 (rd_T55 x0_1 x5_1).f0.f8, .bool (rd_T55 x0_1 x5_1).f1] from (Kd.H_seg (seg := [.int .i64 (wrap64 ((wrap64 (x1_1 + 1)) + 1))]) (j := 2) ((show Kd.H k55 55 ((wr.setCell ⟨go5, (x5_1 : Int).toNat * 10, none⟩ (.int .i64 x1_1)).setCell ⟨go5, (x5_1 : Int).toNat * 10 + 1, none⟩ (.int .i64 (wrap64 (x1_1 + 1)))) w0.heap.size (fun k_ => (P0_ k_ ∨ w.heap.size ≤ k_)) (.slice (some ⟨go5, 0, none⟩) x0_1.length co5) x0_1 x5_1 oki [.int .i64 x1_1, .int .i64 (wrap64 (x1_1 + 1)), .int .i64 (rd_T55 x0_1 x5_1).f0.f2, .int .i64 (rd_T55 x0_1 x5_1).f0.f3, .int .i64 (rd_T55 x0_1 x5_1).f0.f4, .int .i64 (rd_T55 x0_1 x5_1).f0.f5, .string (rd_T55 x0_1 x5_1).f0.f6, v7_, .int .i64 (rd_T55 x0_1 x5_1).f0.f8, .bool (rd_T55 x0_1 x5_1).f1] from (Kd.H_seg (seg := [.int .i64 (wrap64 (x1_1 + 1))]) (j := 1) ((show Kd.H k55 55 (wr.setCell ⟨go5, (x5_1 : Int).toNat * 10, none⟩ (.int .i64 x1_1)) w0.heap.size (fun k_ => (P0_ k_ ∨ w.heap.size ≤ k_)) (.slice (some ⟨go5, 0, none⟩) x0_1.length co5) x0_1 x5_1 oki [.int .i64 x1_1, .int .i64 (rd_T55 x0_1 x5_1).f0.f1, .int .i64 (rd_T55 x0_1 x5_1).f0.f2, .int .i64 (rd_T55 x0_1 x5_1).f0.f3, .int .i64 (rd_T55 x0_1 x5_1).f0.f4, .int .i64 (rd_T55 x0_1 x5_1).f0.f5, .string (rd_T55 x0_1 x5_1).f0.f6, v7_, .int .i64 (rd_T55 x0_1 x5_1).f0.f8, .bool (rd_T55 x0_1 x5_1).f1] from (Kd.H_seg (seg := [.int .i64 x1_1]) (j := 0) (HH.out) C4.out C3.out (show 0 + 1 ≤ 10 by omega) (fun q hq => by rw [List.mem_singleton.1 hq]; rfl)).1)) C4.out C3.out (show 1 + 1 ≤ 10 by omega) (fun q hq => by rw [List.mem_singleton.1 hq]; rfl)).1)) C4.out C3.out (show 2 + 1 ≤ 10 by omega) (fun q hq => by rw [List.mem_singleton.1 hq]; rfl)).1)) C4.out C3.out (show 3 + 1 ≤ 10 by omega) (fun q hq => by rw [List.mem_singleton.1 hq]; rfl)).1)) C4.out C3.out (show 4 + 1 ≤ 10 by omega) (fun q hq => by rw [List.mem_singleton.1 hq]; rfl)).1)) C4.out C3.out (show 5 + 1 ≤ 10 by omega) (fun q hq => by rw [List.mem_singleton.1 hq]; rfl)).1))); have n1_ := Aside0.mk (show Kd.R (Kd.int .i64) 2 w101 w0.heap.size oki v7_ ((rd_T55 x0_1 x5_1).f0.f7) from (by rw [hw]; exact Kd.R_far (p := ⟨go5, (x5_1 : Int).toNat * 10 + 5, none⟩) (Kd.R_far (p := ⟨go5, (x5_1 : Int).toNat * 10 + 4, none⟩) (Kd.R_far (p := ⟨go5, (x5_1 : Int).toNat * 10 + 3, none⟩) (Kd.R_far (p := ⟨go5, (x5_1 : Int).toNat * 10 + 2, none⟩) (Kd.R_far (p := ⟨go5, (x5_1 : Int).toNat * 10 + 1, none⟩) (Kd.R_far (p := ⟨go5, (x5_1 : Int).toNat * 10, none⟩) (HR.out) (fun k_ hk_ => (HI.out k_ hk_).2) (.int .i64 x1_1)) (fun k_ hk_ => (HI.out k_ hk_).2) (.int .i64 (wrap64 (x1_1 + 1)))) (fun k_ hk_ => (HI.out k_ hk_).2) (.int .i64 (wrap64 ((wrap64 (x1_1 + 1)) + 1)))) (fun k_ hk_ => (HI.out k_ hk_).2) (.int .i64 (wrap64 ((wrap64 ((wrap64 (x1_1 + 1)) + 1)) + 1)))) (fun k_ hk_ => (HI.out k_ hk_).2) (.int .i64 (wrap64 ((wrap64 ((wrap64 ((wrap64 (x1_1 + 1)) + 1)) + 1)) + 1)))) (fun k_ hk_ => (HI.out k_ hk_).2) (.int .i64 (wrap64 ((wrap64 ((wrap64 ((wrap64 ((wrap64 (x1_1 + 1)) + 1)) + 1)) + 1)) + 1))))); have n2_ := Aside0.mk (show Kept w w101 (fun k_ => P0_ k_) from (by rw [hw]; exact Kept.setCell (p := ⟨go5, (x5_1 : Int).toNat * 10 + 5, none⟩) (Kept.setCell (p := ⟨go5, (x5_1 : Int).toNat * 10 + 4, none⟩) (Kept.setCell (p := ⟨go5, (x5_1 : Int).toNat * 10 + 3, none⟩) (Kept.setCell (p := ⟨go5, (x5_1 : Int).toNat * 10 + 2, none⟩) (Kept.setCell (p := ⟨go5, (x5_1 : Int).toNat * 10 + 1, none⟩) (Kept.setCell (p := ⟨go5, (x5_1 : Int).toNat * 10, none⟩) (HK.out) GO.out (.int .i64 x1_1)) GO.out (.int .i64 (wrap64 (x1_1 + 1)))) GO.out (.int .i64 (wrap64 ((wrap64 (x1_1 + 1)) + 1)))) GO.out (.int .i64 (wrap64 ((wrap64 ((wrap64 (x1_1 + 1)) + 1)) + 1)))) GO.out (.int .i64 (wrap64 ((wrap64 ((wrap64 ((wrap64 (x1_1 + 1)) + 1)) + 1)) + 1)))) GO.out (.int .i64 (wrap64 ((wrap64 ((wrap64 ((wrap64 ((wrap64 (x1_1 + 1)) + 1)) + 1)) + 1)) + 1))))); have n3_ := Aside0.mk (show Below w0.heap.size w0 w101 from (by rw [hw]; exact below_set (below_set (below_set (below_set (below_set (below_set (HB.out) GB.out) GB.out) GB.out) GB.out) GB.out) GB.out)); clear HH HR HK HB hw HO_0; have HH := n0_; have HR := n1_; have HK := n2_; have HB := n3_; clear n0_ n1_ n2_ n3_; (with_reducible refine (laws_markText.calls k1 (wrap64 ((wrap64 ((wrap64 ((wrap64 ((wrap64 ((wrap64 (x1_1 + 1)) + 1)) + 1)) + 1)) + 1)) + 1)) t _ A5.out).mono ?_); rintro e w102 ⟨rfl, hb⟩; refine ⟨_, rfl, ?_⟩; have n0_ := Aside0.mk (Kd.H_below HH.out hb); have n1_ := Aside0.mk (Kd.R_below HR.out hb); have n2_ := Aside0.mk (Kept.below HK.out hb); have n3_ := Aside0.mk (below_step HB.out hb); clear HH HR HK HB hb; have HH := n0_; have HR := n1_; have HK := n2_; have HB := n3_; clear n0_ n1_ n2_ n3_; have hE_ := laws_markShownS.elem HH.out C4.out C3.out; have hx_0 : w102.cell? ⟨go5, (x5_1 : Int).toNat * 10, none⟩ = some (.int .i64 x1_1) := hE_.1 0 _ rfl; have hf_0 : w102.frozen? ⟨go5, (x5_1 : Int).toNat * 10, none⟩ = false := hE_.2 0; have hx_1 : w102.cell? ⟨go5, (x5_1 : Int).toNat * 10 + 1, none⟩ = some (.int .i64 (wrap64 (x1_1 + 1))) := hE_.1 1 _ rfl; have hf_1 : w102.frozen? ⟨go5, (x5_1 : Int).toNat * 10 + 1, none⟩ = false := hE_.2 1; have hx_2 : w102.cell? ⟨go5, (x5_1 : Int).toNat * 10 + 2, none⟩ = some (.int .i64 (wrap64 ((wrap64 (x1_1 + 1)) + 1))) := hE_.1 2 _ rfl; have hf_2 : w102.frozen? ⟨go5, (x5_1 : Int).toNat * 10 + 2, none⟩ = false := hE_.2 2; have hx_3 : w102.cell? ⟨go5, (x5_1 : Int).toNat * 10 + 3, none⟩ = some (.int .i64 (wrap64 ((wrap64 ((wrap64 (x1_1 + 1)) + 1)) + 1))) := hE_.1 3 _ rfl; have hf_3 : w102.frozen? ⟨go5, (x5_1 : Int).toNat * 10 + 3, none⟩ = false := hE_.2 3; have hx_4 : w102.cell? ⟨go5, (x5_1 : Int).toNat * 10 + 4, none⟩ = some (.int .i64 (wrap64 ((wrap64 ((wrap64 ((wrap64 (x1_1 + 1)) + 1)) + 1)) + 1))) := hE_.1 4 _ rfl; have hf_4 : w102.frozen? ⟨go5, (x5_1 : Int).toNat * 10 + 4, none⟩ = false := hE_.2 4; have hx_5 : w102.cell? ⟨go5, (x5_1 : Int).toNat * 10 + 5, none⟩ = some (.int .i64 (wrap64 ((wrap64 ((wrap64 ((wrap64 ((wrap64 (x1_1 + 1)) + 1)) + 1)) + 1)) + 1))) := hE_.1 5 _ rfl; have hf_5 : w102.frozen? ⟨go5, (x5_1 : Int).toNat * 10 + 5, none⟩ = false := hE_.2 5; have hx_6 : w102.cell? ⟨go5, (x5_1 : Int).toNat * 10 + 6, none⟩ = some (.string (rd_T55 x0_1 x5_1).f0.f6) := hE_.1 6 _ rfl; have hf_6 : w102.frozen? ⟨go5, (x5_1 : Int).toNat * 10 + 6, none⟩ = false := hE_.2 6; have hx_7 : w102.cell? ⟨go5, (x5_1 : Int).toNat * 10 + 7, none⟩ = some (v7_) := hE_.1 7 _ rfl; have hf_7 : w102.frozen? ⟨go5, (x5_1 : Int).toNat * 10 + 7, none⟩ = false := hE_.2 7; have hx_8 : w102.cell? ⟨go5, (x5_1 : Int).toNat * 10 + 8, none⟩ = some (.int .i64 (rd_T55 x0_1 x5_1).f0.f8) := hE_.1 8 _ rfl; have hf_8 : w102.frozen? ⟨go5, (x5_1 : Int).toNat * 10 + 8, none⟩ = false := hE_.2 8; have hx_9 : w102.cell? ⟨go5, (x5_1 : Int).toNat * 10 + 9, none⟩ = some (.bool (rd_T55 x0_1 x5_1).f1) := hE_.1 9 _ rfl; have hf_9 : w102.frozen? ⟨go5, (x5_1 : Int).toNat * 10 + 9, none⟩ = false := hE_.2 9; clear hE_) | ((with_reducible refine gate_callee (f := 19) rfl ?_); refine goesL_ (some 76) rfl rfl Try.func19 (by kernel_rfl) rfl #[v7_, .int .i64 (wrap64 ((wrap64 ((wrap64 ((wrap64 ((wrap64 ((wrap64 ((wrap64 (x1_1 + 1)) + 1)) + 1)) + 1)) + 1)) + 1)) + 1))] rfl (by (try simp only [List.map_toArray, List.map_cons, List.map_nil]); first | done | rfl) ?_; (try clear hx_0 hf_0 hx_1 hf_1 hx_2 hf_2 hx_3 hf_3 hx_4 hf_4 hx_5 hf_5 hx_6 hf_6 hx_7 hf_7 hx_8 hf_8 hx_9 hf_9); (obtain ⟨w103, hw⟩ : ∃ w_ : World, w_ = (w102.setCell ⟨go5, (x5_1 : Int).toNat * 10 + 6, none⟩ (.string t)) := ⟨_, rfl⟩); rw [← hw]; have n0_ := Aside0.mk (show Kd.H k55 55 w103 w0.heap.size (fun k_ => (P0_ k_ ∨ w.heap.size ≤ k_)) (.slice (some ⟨go5, 0, none⟩) x0_1.length co5) x0_1 x5_1 oki [.int .i64 x1_1, .int .i64 (wrap64 (x1_1 + 1)), .int .i64 (wrap64 ((wrap64 (x1_1 + 1)) + 1)), .int .i64 (wrap64 ((wrap64 ((wrap64 (x1_1 + 1)) + 1)) + 1)), .int .i64 (wrap64 ((wrap64 ((wrap64 ((wrap64 (x1_1 + 1)) + 1)) + 1)) + 1)), .int .i64 (wrap64 ((wrap64 ((wrap64 ((wrap64 ((wrap64 (x1_1 + 1)) + 1)) + 1)) + 1)) + 1)), .string t, v7_, .int .i64 (rd_T55 x0_1 x5_1).f0.f8, .bool (rd_T55 x0_1 x5_1).f1] from (by rw [hw]; exact (show Kd.H k55 55 (w102.setCell ⟨go5, (x5_1 : Int).toNat * 10 + 6, none⟩ (.string t)) w0.heap.size (fun k_ => (P0_ k_ ∨ w.heap.size ≤ k_)) (.slice (some ⟨go5, 0, none⟩) x0_1.length co5) x0_1 x5_1 oki [.int .i64 x1_1, .int .i64 (wrap64 (x1_1 + 1)), .int .i64 (wrap64 ((wrap64 (x1_1 + 1)) + 1)), .int .i64 (wrap64 ((wrap64 ((wrap64 (x1_1 + 1)) + 1)) + 1)), .int .i64 (wrap64 ((wrap64 ((wrap64 ((wrap64 (x1_1 + 1)) + 1)) + 1)) + 1)), .int .i64 (wrap64 ((wrap64 ((wrap64 ((wrap64 ((wrap64 (x1_1 + 1)) + 1)) + 1)) + 1)) + 1)), .string t, v7_, .int .i64 (rd_T55 x0_1 x5_1).f0.f8, .bool (rd_T55 x0_1 x5_1).f1] from (Kd.H_seg (seg := [.string t]) (j := 6) (HH.out) C4.out C3.out (show 6 + 1 ≤ 10 by omega) (fun q hq => by rw [List.mem_singleton.1 hq]; rfl)).1))); have n1_ := Aside0.mk (show Kd.R (Kd.int .i64) 2 w103 w0.heap.size oki v7_ ((rd_T55 x0_1 x5_1).f0.f7) from (by rw [hw]; exact Kd.R_far (p := ⟨go5, (x5_1 : Int).toNat * 10 + 6, none⟩) (HR.out) (fun k_ hk_ => (HI.out k_ hk_).2) (.string t))); have n2_ := Aside0.mk (show Kept w w103 (fun k_ => P0_ k_) from (by rw [hw]; exact Kept.setCell (p := ⟨go5, (x5_1 : Int).toNat * 10 + 6, none⟩) (HK.out) GO.out (.string t))); have n3_ := Aside0.mk (show Below w0.heap.size w0 w103 from (by rw [hw]; exact below_set (HB.out) GB.out)); clear HH HR HK HB hw; have HH := n0_; have HR := n1_; have HK := n2_; have HB := n3_; clear n0_ n1_ n2_ n3_; (with_reducible refine (laws_markInt64S.calls k1 oki v7_ ((rd_T55 x0_1 x5_1).f0.f7) (wrap64 ((wrap64 ((wrap64 ((wrap64 ((wrap64 ((wrap64 ((wrap64 (x1_1 + 1)) + 1)) + 1)) + 1)) + 1)) + 1)) + 1)) b1 b2 w0 _ HB.out HR.out A6.out).mono ?_); rintro e w104 ⟨rfl, hy0, hb, hkp⟩; refine ⟨_, rfl, ?_⟩; have n1_ := Aside0.mk (Kd.R_reok rfl hy0 (fun k_ e_ => HR.out.1 k_ e_)); have n0_ := Aside0.mk (Kd.H_step HH.out (fun k_ hk_ hn_ hl_ => hkp.2 k_ hl_ hn_)); have n2_ := Aside0.mk (Kept.then_ (S := (fun k_ => P0_ k_)) HK.out hkp (fun k_ hs_ => (HI.out k_ hs_).1)); have n3_ := Aside0.mk hb; clear HH HR HK HB hb hkp hy0; have HH := n0_; have HR := n1_; have HK := n2_; have HB := n3_; clear n0_ n1_ n2_ n3_; have hE_ := laws_markShownS.elem HH.out C4.out C3.out; have hx_0 : w104.cell? ⟨go5, (x5_1 : Int).toNat * 10, none⟩ = some (.int .i64 x1_1) := hE_.1 0 _ rfl; have hf_0 : w104.frozen? ⟨go5, (x5_1 : Int).toNat * 10, none⟩ = false := hE_.2 0; have hx_1 : w104.cell? ⟨go5, (x5_1 : Int).toNat * 10 + 1, none⟩ = some (.int .i64 (wrap64 (x1_1 + 1))) := hE_.1 1 _ rfl; have hf_1 : w104.frozen? ⟨go5, (x5_1 : Int).toNat * 10 + 1, none⟩ = false := hE_.2 1; have hx_2 : w104.cell? ⟨go5, (x5_1 : Int).toNat * 10 + 2, none⟩ = some (.int .i64 (wrap64 ((wrap64 (x1_1 + 1)) + 1))) := hE_.1 2 _ rfl; have hf_2 : w104.frozen? ⟨go5, (x5_1 : Int).toNat * 10 + 2, none⟩ = false := hE_.2 2; have hx_3 : w104.cell? ⟨go5, (x5_1 : Int).toNat * 10 + 3, none⟩ = some (.int .i64 (wrap64 ((wrap64 ((wrap64 (x1_1 + 1)) + 1)) + 1))) := hE_.1 3 _ rfl; have hf_3 : w104.frozen? ⟨go5, (x5_1 : Int).toNat * 10 + 3, none⟩ = false := hE_.2 3; have hx_4 : w104.cell? ⟨go5, (x5_1 : Int).toNat * 10 + 4, none⟩ = some (.int .i64 (wrap64 ((wrap64 ((wrap64 ((wrap64 (x1_1 + 1)) + 1)) + 1)) + 1))) := hE_.1 4 _ rfl; have hf_4 : w104.frozen? ⟨go5, (x5_1 : Int).toNat * 10 + 4, none⟩ = false := hE_.2 4; have hx_5 : w104.cell? ⟨go5, (x5_1 : Int).toNat * 10 + 5, none⟩ = some (.int .i64 (wrap64 ((wrap64 ((wrap64 ((wrap64 ((wrap64 (x1_1 + 1)) + 1)) + 1)) + 1)) + 1))) := hE_.1 5 _ rfl; have hf_5 : w104.frozen? ⟨go5, (x5_1 : Int).toNat * 10 + 5, none⟩ = false := hE_.2 5; have hx_6 : w104.cell? ⟨go5, (x5_1 : Int).toNat * 10 + 6, none⟩ = some (.string t) := hE_.1 6 _ rfl; have hf_6 : w104.frozen? ⟨go5, (x5_1 : Int).toNat * 10 + 6, none⟩ = false := hE_.2 6; have hx_7 : w104.cell? ⟨go5, (x5_1 : Int).toNat * 10 + 7, none⟩ = some (v7_) := hE_.1 7 _ rfl; have hf_7 : w104.frozen? ⟨go5, (x5_1 : Int).toNat * 10 + 7, none⟩ = false := hE_.2 7; have hx_8 : w104.cell? ⟨go5, (x5_1 : Int).toNat * 10 + 8, none⟩ = some (.int .i64 (rd_T55 x0_1 x5_1).f0.f8) := hE_.1 8 _ rfl; have hf_8 : w104.frozen? ⟨go5, (x5_1 : Int).toNat * 10 + 8, none⟩ = false := hE_.2 8; have hx_9 : w104.cell? ⟨go5, (x5_1 : Int).toNat * 10 + 9, none⟩ = some (.bool (rd_T55 x0_1 x5_1).f1) := hE_.1 9 _ rfl; have hf_9 : w104.frozen? ⟨go5, (x5_1 : Int).toNat * 10 + 9, none⟩ = false := hE_.2 9; clear hE_))
          go_roundg k1
          case measure => have := HK1.out; omega
          case rel =>
            refine ⟨_, (wrap64 ((wrap64 (b1 + 1)) + 1)), (wrap64 (x5_1 + 1)), (by first | rfl | (simp; done) | (simp [*]; done)), (by first | rfl | (simp; done) | (simp [*]; done)), H', ⟨by have := HK1.out; omega⟩, ⟨?_⟩, ⟨?_⟩, ⟨?_⟩⟩
            · exact Kd.H_back (x' := (⟨⟨x1_1, (wrap64 (x1_1 + 1)), (wrap64 ((wrap64 (x1_1 + 1)) + 1)), (wrap64 ((wrap64 ((wrap64 (x1_1 + 1)) + 1)) + 1)), (wrap64 ((wrap64 ((wrap64 ((wrap64 (x1_1 + 1)) + 1)) + 1)) + 1)), (wrap64 ((wrap64 ((wrap64 ((wrap64 ((wrap64 (x1_1 + 1)) + 1)) + 1)) + 1)) + 1)), t, b2, b1⟩, (Int.tmod (wrap64 (b1 + 1)) 3 == 0)⟩ : S55)) (show Kd.H k55 55 ((w104.setCell ⟨go5, (x5_1 : Int).toNat * 10 + 8, none⟩ (.int .i64 b1)).setCell ⟨go5, (x5_1 : Int).toNat * 10 + 9, none⟩ (.bool (Int.tmod (wrap64 (b1 + 1)) 3 == 0))) w0.heap.size (fun k_ => (P0_ k_ ∨ w.heap.size ≤ k_)) (.slice (some ⟨go5, 0, none⟩) x0_1.length co5) x0_1 x5_1 oki [.int .i64 x1_1, .int .i64 (wrap64 (x1_1 + 1)), .int .i64 (wrap64 ((wrap64 (x1_1 + 1)) + 1)), .int .i64 (wrap64 ((wrap64 ((wrap64 (x1_1 + 1)) + 1)) + 1)), .int .i64 (wrap64 ((wrap64 ((wrap64 ((wrap64 (x1_1 + 1)) + 1)) + 1)) + 1)), .int .i64 (wrap64 ((wrap64 ((wrap64 ((wrap64 ((wrap64 (x1_1 + 1)) + 1)) + 1)) + 1)) + 1)), .string t, v7_, .int .i64 b1, .bool (Int.tmod (wrap64 (b1 + 1)) 3 == 0)] from (Kd.H_seg (seg := [.bool (Int.tmod (wrap64 (b1 + 1)) 3 == 0)]) (j := 9) ((show Kd.H k55 55 (w104.setCell ⟨go5, (x5_1 : Int).toNat * 10 + 8, none⟩ (.int .i64 b1)) w0.heap.size (fun k_ => (P0_ k_ ∨ w.heap.size ≤ k_)) (.slice (some ⟨go5, 0, none⟩) x0_1.length co5) x0_1 x5_1 oki [.int .i64 x1_1, .int .i64 (wrap64 (x1_1 + 1)), .int .i64 (wrap64 ((wrap64 (x1_1 + 1)) + 1)), .int .i64 (wrap64 ((wrap64 ((wrap64 (x1_1 + 1)) + 1)) + 1)), .int .i64 (wrap64 ((wrap64 ((wrap64 ((wrap64 (x1_1 + 1)) + 1)) + 1)) + 1)), .int .i64 (wrap64 ((wrap64 ((wrap64 ((wrap64 ((wrap64 (x1_1 + 1)) + 1)) + 1)) + 1)) + 1)), .string t, v7_, .int .i64 b1, .bool (rd_T55 x0_1 x5_1).f1] from (Kd.H_seg (seg := [.int .i64 b1]) (j := 8) (HH.out) C4.out C3.out (show 8 + 1 ≤ 10 by omega) (fun q hq => by rw [List.mem_singleton.1 hq]; rfl)).1)) C4.out C3.out (show 9 + 1 ≤ 10 by omega) (fun q hq => by rw [List.mem_singleton.1 hq]; rfl)).1) (k55_mkM _ w0.heap.size oki (⟨⟨x1_1, (wrap64 (x1_1 + 1)), (wrap64 ((wrap64 (x1_1 + 1)) + 1)), (wrap64 ((wrap64 ((wrap64 (x1_1 + 1)) + 1)) + 1)), (wrap64 ((wrap64 ((wrap64 ((wrap64 (x1_1 + 1)) + 1)) + 1)) + 1)), (wrap64 ((wrap64 ((wrap64 ((wrap64 ((wrap64 (x1_1 + 1)) + 1)) + 1)) + 1)) + 1)), t, b2, b1⟩, (Int.tmod (wrap64 (b1 + 1)) 3 == 0)⟩ : S55) (Kd.R_far (p := ⟨go5, (x5_1 : Int).toNat * 10 + 9, none⟩) (Kd.R_far (p := ⟨go5, (x5_1 : Int).toNat * 10 + 8, none⟩) (HR.out) (fun k_ hk_ => (HI.out k_ hk_).2) (.int .i64 b1)) (fun k_ hk_ => (HI.out k_ hk_).2) (.bool (Int.tmod (wrap64 (b1 + 1)) 3 == 0)))) (fun _ hk_ => hk_)
            · exact Kept.setCell (p := ⟨go5, (x5_1 : Int).toNat * 10 + 9, none⟩) (Kept.setCell (p := ⟨go5, (x5_1 : Int).toNat * 10 + 8, none⟩) (HK.out) GO.out (.int .i64 b1)) GO.out (.bool (Int.tmod (wrap64 (b1 + 1)) 3 == 0))
            · exact below_set (below_set (HB.out) GB.out) GB.out
        · rw [if_neg c4] at H
          exact absurd H (by simp)
      · rw [if_neg c3] at H
        have c3b0 : decide (x5_1 < (x0_1.length : Int)) = false := decide_eq_false c3
        clear c3
        obtain rfl := Option.some.inj H
        subst eo8
        go_wp2
        go_ret
        exact ⟨by first | rfl | (simp [errW_none, errW_some] <;> rfl) | (simp [*, errW_none, errW_some] <;> rfl), HB.out, HK.out⟩

/-! ### laws_markPart: function 18 -/
def laws_markPart.f (k : Nat) (a0_0 : Int) (l0_1 : List S47) (l0_2 : List S55) (a0_3 : Bool) (a0_4 : Int) (a1 : Int) : Option Int := (laws_markEntryS.f k l0_1 a1).bind fun b => laws_markShownS.f k l0_2 b.1
theorem laws_markPart.mono : ∀ a0 a1 a2 a3 a4 a5 k, LeO (laws_markPart.f k a0 a1 a2 a3 a4 a5) (laws_markPart.f (k + 1) a0 a1 a2 a3 a4 a5) := by
  intro a0 a1 a2 a3 a4 a5 k
  exact LeO.bind (laws_markEntryS.mono _ _ _) (fun _ => laws_markShownS.mono _ _ _)
set_option maxHeartbeats 8000000 in
set_option maxRecDepth 100000 in
theorem laws_markPart.calls (k : Nat) (P1_ : Nat → Prop) (u1_ : Value) (l0_1 : List S47) (P2_ : Nat → Prop) (u2_ : Value) (l0_2 : List S55) (a0_0 : Int) (a0_3 : Bool) (a0_4 : Int) (a1 : Int) (r : Int) (w0 w : World) (hB : Below w0.heap.size w0 w) (ho1 : Kd.R k47 47 w w0.heap.size P1_ u1_ l0_1) (ho2 : Kd.S k55 55 w w0.heap.size P2_ u2_ l0_2) (hd : ∀ k_, P1_ k_ → ¬ P2_ k_) (h : laws_markPart.f k a0_0 l0_1 l0_2 a0_3 a0_4 a1 = some r) :
    Calls Try.prog 18 #[.agg #[.int .i64 a0_0, u1_, u2_, .bool a0_3, .int .i64 a0_4], .int .i64 a1] w fun e w' => e = .returned (.int .i64 r) ∧ Below w0.heap.size w0 w' ∧ Kept w w' (fun k_ => P1_ k_ ∨ P2_ k_) := by
  have hu38 := Try.underlying38
  have HO1 := Aside0.mk (show Kd.R k47 47 w w0.heap.size (fun k_ => P1_ k_ ∧ k_ < w.heap.size) u1_ l0_1 from Kd.R_mono (Kd.R_bound ho1) (fun k_ hk => ⟨hk.1, hk.2.2.1⟩))
  have HO2 := Aside0.mk (show Kd.S k55 55 w w0.heap.size (fun k_ => P2_ k_ ∧ k_ < w.heap.size) u2_ l0_2 from Kd.S_mono (Kd.S_bound ho2) (fun k_ hk => ⟨hk.1, hk.2.2.1⟩))
  have HK := Aside0.mk (Kept.refl w (fun k_ => P1_ k_ ∨ P2_ k_))
  have HB := Aside0.mk hB
  have HD := Aside0.mk hd
  clear hB ho1 ho2 hd
  obtain ⟨⟨t1, t2⟩, A30, A40⟩ := Option.bind_eq_some_iff.mp (show ((laws_markEntryS.f k l0_1 a1).bind fun b => laws_markShownS.f k l0_2 b.1) = some r from h)
  clear h
  have A3 := Aside0.mk A30
  have A4 := Aside0.mk (show laws_markShownS.f k l0_2 t1 = some r from A40)
  clear A30 A40
  obtain ⟨Ao5, co5, eo5⟩ := Kd.R_slice HO1.out
  subst eo5
  obtain ⟨Ao6, co6, eo6⟩ := Kd.S_slice HO2.out
  subst eo6
  go_enter Try.func18, Try.ntmps18
  go_wp2_with (first | ((with_reducible refine gate_dst (N := 2) rfl ?_); refine box_event ?hg (N := 2) ?hd (cs := #[.int .i64 a0_0, .slice Ao5 l0_1.length co5, .slice Ao6 l0_2.length co6, .bool a0_3, .int .i64 a0_4]) (t := 38) ?hr ?_; (case hd => rfl); (case hg => rfl); (case hr => first | (go_simp; done) | (go_simp; rfl)); intro gb hg w7 hbox hb; have n0_ := Aside0.mk (Kd.R_below HO1.out hb); have n1_ := Aside0.mk (Kd.S_below HO2.out hb); have n2_ := Aside0.mk (Kept.below (S := (fun k_ => P1_ k_ ∨ P2_ k_)) HK.out hb); have n3_ := Aside0.mk (below_step HB.out hb); have BK := Aside0.mk (hbox); have GW := Aside0.mk ((by rw [hg]; exact HK.out.1) : w.heap.size ≤ gb); clear HO1 HO2 HK HB; have HO1 := n0_; have HO2 := n1_; have HK := n2_; have HB := n3_; clear n0_ n1_ n2_ n3_; clear hb hbox hg; obtain ⟨⟨ha_0, ha_1, ha_2, ha_3, ha_4⟩, hb_0, hb_1, hb_2, hb_3, hb_4⟩ := cells_5 BK.out) | ((with_reducible refine gate_callee (f := 10) rfl ?_); refine goesL_ (some 8) rfl rfl Try.func10 (by kernel_rfl) rfl #[.slice Ao5 l0_1.length co5, .int .i64 a1] rfl (by (try simp only [List.map_toArray, List.map_cons, List.map_nil]); first | done | rfl) ?_; (with_reducible refine (laws_markEntryS.calls k (fun k_ => P1_ k_ ∧ k_ < w.heap.size) _ l0_1 a1 t1 t2 w0 _ HB.out HO1.out A3.out).mono ?_); rintro e w9 ⟨rfl, hy0, hb, hkp⟩; refine ⟨_, rfl, ?_⟩; have n1_ := Aside0.mk (Kd.S_step HO2.out (fun k_ hk_ hl_ => hkp.2 k_ hl_ (fun hs_ => HD.out k_ hs_.1 hk_.1))); have n2_ := Aside0.mk (Kept.then_ (S := (fun k_ => P1_ k_ ∨ P2_ k_)) HK.out hkp (fun k_ hs_ => .inl (.inl hs_.1))); have n3_ := Aside0.mk hb; have n4_ := Aside0.mk (blk_kept BK.out hkp (fun hs_ => Nat.not_lt.2 GW.out hs_.2)); clear HO1 HO2 HK HB BK hb hkp hy0; have HO2 := n1_; have HK := n2_; have HB := n3_; have BK := n4_; clear n1_ n2_ n3_ n4_; (try clear ha_0 ha_1 ha_2 ha_3 ha_4 hb_0 hb_1 hb_2 hb_3 hb_4); obtain ⟨⟨hc_0, hc_1, hc_2, hc_3, hc_4⟩, hd_0, hd_1, hd_2, hd_3, hd_4⟩ := cells_5 BK.out) | ((with_reducible refine gate_callee (f := 33) rfl ?_); refine goesL_ (some 12) rfl rfl Try.func33 (by kernel_rfl) rfl #[.slice Ao6 l0_2.length co6, .int .i64 t1] rfl (by (try simp only [List.map_toArray, List.map_cons, List.map_nil]); first | done | rfl) ?_; (with_reducible refine (laws_markShownS.calls k (fun k_ => P2_ k_ ∧ k_ < w.heap.size) _ l0_2 t1 r w0 _ HB.out HO2.out A4.out).mono ?_); rintro e w11 ⟨rfl, hb, hkp⟩; refine ⟨_, rfl, ?_⟩; have n2_ := Aside0.mk (Kept.then_ (S := (fun k_ => P1_ k_ ∨ P2_ k_)) HK.out hkp (fun k_ hs_ => .inl (.inr hs_.1))); have n3_ := Aside0.mk hb; clear HO2 HK HB hb hkp; have HK := n2_; have HB := n3_; clear n2_ n3_))
  go_ret
  exact ⟨by first | rfl | (simp [errW_none, errW_some] <;> rfl) | (simp [*, errW_none, errW_some] <;> rfl), HB.out, HK.out⟩

/-! ### laws_heldInt64S: function 20 -/
def laws_heldInt64S.l0 : Nat → List Int → Int → Int → Option (Int)
  | 0, _, _, _ => none
  | k + 1, x0, x1, x5 => if x5 < (x0.length : Int) then (if 0 ≤ x5 then (if (rd x0 x5) = x1 then (laws_heldInt64S.l0 k x0 (wrap64 (x1 + 1)) (wrap64 (x5 + 1))) else (some (-1))) else (none)) else (some x1)
def laws_heldInt64S.f (k : Nat) (l0 : List Int) (a1 : Int) : Option (Int) := laws_heldInt64S.l0 k l0 a1 0
theorem laws_heldInt64S.mono_l : ∀ k, (∀ y0 y1 y2, LeO (laws_heldInt64S.l0 k y0 y1 y2) (laws_heldInt64S.l0 (k + 1) y0 y1 y2))
  | 0 => fun _ _ _ r h => by simp [laws_heldInt64S.l0] at h
  | k + 1 => by
    have ih0 := laws_heldInt64S.mono_l k
    · intro y0 y1 y2
      unfold laws_heldInt64S.l0
      repeat' first
      | (with_reducible exact ih0 _ _ _)
      | (with_reducible exact LeO.refl _)
      | (with_reducible exact LeO.none _)
      | (with_reducible refine LeO.ite ?_ ?_)
      | (with_reducible refine LeO.bind ?_ (fun _ => ?_))
      | exact ih0 _ _ _
      | exact LeO.none _
      | refine LeO.ite ?_ ?_
      | refine LeO.bind ?_ (fun _ => ?_)
theorem laws_heldInt64S.mono : ∀ a0 a1 k, LeO (laws_heldInt64S.f k a0 a1) (laws_heldInt64S.f (k + 1) a0 a1) := by
  intro a0 a1 k
  have ih0 := laws_heldInt64S.mono_l k
  unfold laws_heldInt64S.f
  repeat' first
      | (with_reducible exact ih0 _ _ _)
      | (with_reducible exact LeO.refl _)
      | (with_reducible exact LeO.none _)
      | (with_reducible refine LeO.ite ?_ ?_)
      | (with_reducible refine LeO.bind ?_ (fun _ => ?_))
      | exact ih0 _ _ _
      | exact LeO.none _
      | refine LeO.ite ?_ ?_
      | refine LeO.bind ?_ (fun _ => ?_)
set_option maxHeartbeats 8000000 in
set_option maxRecDepth 100000 in
theorem laws_heldInt64S.calls (k : Nat) (A0 : Option Addr) (c0 : Nat) (l0 : List Int) (a1 : Int) (r : Int) (w : World) (hr0 : Kd.C (Kd.int .i64) w A0 l0.length l0) (hc0 : l0.length ≤ c0) (h : laws_heldInt64S.f k l0 a1 = some r) :
    Calls Try.prog 20 #[.slice A0 l0.length c0, .int .i64 a1] w fun e w' => e = .returned (.int .i64 r) ∧ Drawn0 w w' := by
 have HR0 := Aside0.mk hr0
 have HC0 := Aside0.mk hc0
 clear hr0 hc0
 have H : (laws_heldInt64S.l0 k l0 a1 0) = some r := h
 clear h
 have H' := Aside0.mk H
 clear H
 go_enter Try.func20, Try.ntmps20
 go_wp2
 go_loopg [1, 5] k (fun kq v1 v5 w' => ∃ (x1_1 : Int) (x5_1 : Int), v1 = .int .i64 x1_1 ∧ v5 = .int .i64 x5_1 ∧ Aside0 (laws_heldInt64S.l0 kq l0 x1_1 x5_1 = some r) ∧ Aside0 (kq ≤ k) ∧ Drawn0 w w')
 case atStart => exact ⟨(a1), (0), (by first | rfl | (simp; done) | (simp [*]; done)), (by first | rfl | (simp; done) | (simp [*]; done)), H', ⟨Nat.le_refl _⟩, by repeat (first | exact Drawn0.refl _ | apply Drawn0.step)⟩
 case round =>
  clear H'
  try clear c2
  try clear p2
  obtain ⟨x1_1, x5_1, rfl, rfl, HA, HK1, ⟨m1, rfl⟩⟩ := hrel
  cases gk with
  | zero => exact absurd HA.out (by simp [laws_heldInt64S.l0])
  | succ k1 =>
   have H := HA.out
   clear HA
   simp only [laws_heldInt64S.l0] at H
   by_cases c3 : x5_1 < (l0.length : Int)
   ·
    rw [if_pos c3] at H
    have c3b0 : decide (x5_1 < (l0.length : Int)) = true := decide_eq_true c3
    clear c3
    by_cases c4 : 0 ≤ x5_1
    ·
     rw [if_pos c4] at H
     have c4b0 : decide (0 ≤ x5_1) = true := decide_eq_true c4
     clear c4
     by_cases c5 : (rd l0 x5_1) = x1_1
     ·
      rw [if_pos c5] at H
      have c5b0 : ((rd l0 x5_1) == x1_1) = true := beq_iff_eq.mpr c5
      have c5b1 : ((rd l0 x5_1) != x1_1) = false := bne_eq_false_iff_eq.mpr c5
      clear c5
      have H' := Aside0.mk H
      clear H
      have p283 : 0 ≤ (x5_1 : Int) := of_decide_eq_true (by first | (with_reducible assumption) | assumption)
      have q283 : x5_1 < (l0.length : Int) := of_decide_eq_true (by first | (with_reducible assumption) | assumption)
      obtain ⟨ad283, e283, hx283_0⟩ := Kd.at_int HR0.out x5_1 p283 q283
      cases e283
      replace p283 := eq_true p283
      replace q283 := eq_true q283
      go_wp2
      go_roundg k1
      case measure => have := HK1.out; omega
      case rel => exact ⟨(wrap64 (x1_1 + 1)), (wrap64 (x5_1 + 1)), (by first | rfl | (simp; done) | (simp [*]; done)), (by first | rfl | (simp; done) | (simp [*]; done)), H', ⟨by have := HK1.out; omega⟩, by repeat (first | exact Drawn0.refl _ | apply Drawn0.step)⟩
     ·
      rw [if_neg c5] at H
      have c5b0 : ((rd l0 x5_1) == x1_1) = false := beq_eq_false_iff_ne.mpr c5
      have c5b1 : ((rd l0 x5_1) != x1_1) = true := bne_iff_ne.mpr c5
      obtain rfl := Option.some.inj H
      have p283 : 0 ≤ (x5_1 : Int) := of_decide_eq_true (by first | (with_reducible assumption) | assumption)
      have q283 : x5_1 < (l0.length : Int) := of_decide_eq_true (by first | (with_reducible assumption) | assumption)
      obtain ⟨ad283, e283, hx283_0⟩ := Kd.at_int HR0.out x5_1 p283 q283
      cases e283
      replace p283 := eq_true p283
      replace q283 := eq_true q283
      go_wp2
      go_ret
      exact ⟨by first | rfl | (simp; done) | (simp [*]; done), by repeat (first | exact Drawn0.refl _ | apply Drawn0.step)⟩
    ·
     rw [if_neg c4] at H
     exact absurd H (by simp)
   ·
    rw [if_neg c3] at H
    have c3b0 : decide (x5_1 < (l0.length : Int)) = false := decide_eq_false c3
    clear c3
    obtain rfl := Option.some.inj H
    go_wp2
    go_ret
    exact ⟨by first | rfl | (simp; done) | (simp [*]; done), by repeat (first | exact Drawn0.refl _ | apply Drawn0.step)⟩

end Go.Proofs.Ytcbfopepfhfaoaa.Print
