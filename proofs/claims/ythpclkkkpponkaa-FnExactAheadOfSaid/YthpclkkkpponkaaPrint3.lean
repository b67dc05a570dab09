-- Printed by wip/myprint.py over the kit's print, in this session's own call.
import Derived.Test.YthpclkkkpponkaaPrint0
import Derived.Test.YthpclkkkpponkaaPrint1
import Derived.Test.YthpclkkkpponkaaPrint2
namespace Go.Proofs.Ythpclkkkpponkaa.Print
open Go.RowKit Go.Proofs.YthpclkkkpponkaaW.PrintWords Go.Proofs.YthpclkkkpponkaaW.PrintLast Go.Proofs.YthpclkkkpponkaaW.PrintMore
attribute [local go_sem] max2_int min2_int max_two min_two max_three min_three max_four min_four   -- for this text's walks alone
set_option maxHeartbeats 8000000
set_option maxRecDepth 100000
set_option linter.unusedVariables false
set_option linter.unusedSimpArgs false

/-! ### spec_l02Body: function 53 -/
def spec_l02Body.f (a0_0 : Int) (a0_1 : Int) (a0_2 : Int) (a0_3 : Int) (a0_4 : Int) (a0_5 : Int) (a0_6 : ByteArray) (l0_7 : List Int) (a0_8 : Int) : Option (Bool) := if a0_3 = 1 then (if a0_4 = 0 then (if a0_5 = 0 then (some (a0_6.toList == ([] : List UInt8))) else (some false)) else (some false)) else (if a0_3 = 2 then ((spec_l02User.f a0_4).bind fun t117 => (if t117 = true then ((spec_l02Is.f a0_5 1 4).bind fun t118 => (if t118 = true then (some (a0_6.toList == ([] : List UInt8))) else (some false))) else (some false))) else (if a0_3 = 3 then ((spec_l02User.f a0_4).bind fun t119 => (if t119 = true then ((spec_l02Is.f a0_5 0 100).bind fun t120 => (if t120 = true then (some (a0_6.toList == ([] : List UInt8))) else (some false))) else (some false))) else (if a0_3 = 4 then (if a0_4 = 0 then (if a0_5 = 0 then (some (decide ((a0_6.size : Int) ≤ 30))) else (some false)) else (some false)) else (if a0_3 = 5 then (if a0_4 = 0 then ((spec_l02Is.f a0_5 1 2).bind fun t121 => (if t121 = true then (some (a0_6.toList == ([] : List UInt8))) else (some false))) else (some false)) else (if a0_3 = 6 then (if a0_4 = 0 then ((spec_l02Is.f a0_5 1 3).bind fun t122 => (if t122 = true then (some (a0_6.toList == ([] : List UInt8))) else (some false))) else (some false)) else (if a0_3 = 7 then (if a0_4 = 0 then (if a0_5 = 0 then (if (a0_6.size : Int) ≥ 1 then (some (decide ((a0_6.size : Int) ≤ 30))) else (some false)) else (some false)) else (some false)) else (if a0_3 = 8 then ((spec_l02Id.f a0_4).bind fun t123 => (if t123 = true then (if a0_5 = 0 then (some (a0_6.toList == ([] : List UInt8))) else (some false)) else (some false))) else (some false))))))))
theorem spec_l02Body.calls (a0_0 : Int) (a0_1 : Int) (a0_2 : Int) (a0_3 : Int) (a0_4 : Int) (a0_5 : Int) (a0_6 : ByteArray) (A0_7 : Option Addr) (c0_7 : Nat) (l0_7 : List Int) (a0_8 : Int) (r : Bool) (w : World) (hr0_7 : Kd.C (Kd.int .i64) w A0_7 l0_7.length l0_7) (hc0_7 : l0_7.length ≤ c0_7) (h : spec_l02Body.f a0_0 a0_1 a0_2 a0_3 a0_4 a0_5 a0_6 l0_7 a0_8 = some r) :
    Calls Try.prog 53 #[.agg #[.int .i64 a0_0, .int .i64 a0_1, .int .i64 a0_2, .int .i64 a0_3, .int .i64 a0_4, .int .i64 a0_5, .string a0_6, .slice A0_7 l0_7.length c0_7, .int .i64 a0_8]] w fun e w' => e = .returned (.bool r) ∧ Below w.heap.size w w' := by
 have hu39 := Try.underlying39; have HR0_7 := Aside0.mk hr0_7; have HC0_7 := Aside0.mk hc0_7; clear hr0_7 hc0_7; have HB := Aside0.mk (Below.refl w.heap.size w); have H : (if a0_3 = 1 then (if a0_4 = 0 then (if a0_5 = 0 then (some (a0_6.toList == ([] : List UInt8))) else (some false)) else (some false)) else (if a0_3 = 2 then ((spec_l02User.f a0_4).bind fun t117 => (if t117 = true then ((spec_l02Is.f a0_5 1 4).bind fun t118 => (if t118 = true then (some (a0_6.toList == ([] : List UInt8))) else (some false))) else (some false))) else (if a0_3 = 3 then ((spec_l02User.f a0_4).bind fun t119 => (if t119 = true then ((spec_l02Is.f a0_5 0 100).bind fun t120 => (if t120 = true then (some (a0_6.toList == ([] : List UInt8))) else (some false))) else (some false))) else (if a0_3 = 4 then (if a0_4 = 0 then (if a0_5 = 0 then (some (decide ((a0_6.size : Int) ≤ 30))) else (some false)) else (some false)) else (if a0_3 = 5 then (if a0_4 = 0 then ((spec_l02Is.f a0_5 1 2).bind fun t121 => (if t121 = true then (some (a0_6.toList == ([] : List UInt8))) else (some false))) else (some false)) else (if a0_3 = 6 then (if a0_4 = 0 then ((spec_l02Is.f a0_5 1 3).bind fun t122 => (if t122 = true then (some (a0_6.toList == ([] : List UInt8))) else (some false))) else (some false)) else (if a0_3 = 7 then (if a0_4 = 0 then (if a0_5 = 0 then (if (a0_6.size : Int) ≥ 1 then (some (decide ((a0_6.size : Int) ≤ 30))) else (some false)) else (some false)) else (some false)) else (if a0_3 = 8 then ((spec_l02Id.f a0_4).bind fun t123 => (if t123 = true then (if a0_5 = 0 then (some (a0_6.toList == ([] : List UInt8))) else (some false)) else (some false))) else (some false))))))))) = some r := h
 clear h; go_enter Try.func53, Try.ntmps53; go_upto_if 17 with (first | ((with_reducible refine gate_dst (N := 1) rfl ?_); (try (refine gate_guard (by rfl) ?_; dsimp only)); refine be_ 1 #[.int .i64 a0_0, .int .i64 a0_1, .int .i64 a0_2, .int .i64 a0_3, .int .i64 a0_4, .int .i64 a0_5, .string a0_6, .slice A0_7 l0_7.length c0_7, .int .i64 a0_8] 39 ?_; intro gb116 hg w5 hbox hb; have BK116 := Aside0.mk (hbox); have GW116 := Aside0.mk ((by rw [hg]; exact (below_size (a1_ HB.out)) : w.heap.size ≤ gb116)); replace HB := Aside0.mk (below_step (a1_ HB.out) hb); have GE116 := GW116; clear hb hbox hg; obtain ⟨⟨hcz6_0, hcz6_1, hcz6_2, hcz6_3, hcz6_4, hcz6_5, hcz6_6, hcz6_7, hcz6_8⟩, hfz6_0, hfz6_1, hfz6_2, hfz6_3, hfz6_4, hfz6_5, hfz6_6, hfz6_7, hfz6_8⟩ := cells_9 BK116.out))
 by_cases c2 : a0_3 = 1
 ·
  rw [if_pos c2] at H; have c2b0 : (a0_3 == 1) = true := beq_iff_eq.mpr c2; have c2b1 : (a0_3 != 1) = false := bne_eq_false_iff_eq.mpr c2; clear c2; (try simp only [c2b0, Bool.not_true, Bool.not_false])
  (try simp only [c2b1, Bool.not_true, Bool.not_false])
  by_cases c3 : a0_4 = 0
  ·
   rw [if_pos c3] at H; have c3b0 : (a0_4 == 0) = true := beq_iff_eq.mpr c3; have c3b1 : (a0_4 != 0) = false := bne_eq_false_iff_eq.mpr c3; clear c3; by_cases c4 : a0_5 = 0
   ·
    rw [if_pos c4] at H; have c4b0 : (a0_5 == 0) = true := beq_iff_eq.mpr c4; have c4b1 : (a0_5 != 0) = false := bne_eq_false_iff_eq.mpr c4; clear c4; obtain rfl := Option.some.inj H; go_wp2
    repeat (go_quiet (fail); try go_wp2)
    go_ret
    exact ⟨a2_, (a3_ HB.out GE116.out)⟩
   ·
    rw [if_neg c4] at H; have c4b0 : (a0_5 == 0) = false := beq_eq_false_iff_ne.mpr c4; have c4b1 : (a0_5 != 0) = true := bne_iff_ne.mpr c4; obtain rfl := Option.some.inj H; go_wp2
    repeat (go_quiet (fail); try go_wp2)
    go_ret
    exact ⟨a2_, (a3_ HB.out GE116.out)⟩
  ·
   rw [if_neg c3] at H; have c3b0 : (a0_4 == 0) = false := beq_eq_false_iff_ne.mpr c3; have c3b1 : (a0_4 != 0) = true := bne_iff_ne.mpr c3; obtain rfl := Option.some.inj H; go_wp2
   repeat (go_quiet (fail); try go_wp2)
   go_ret
   exact ⟨a2_, (a3_ HB.out GE116.out)⟩
 ·
  rw [if_neg c2] at H; have c2b0 : (a0_3 == 1) = false := beq_eq_false_iff_ne.mpr c2; have c2b1 : (a0_3 != 1) = true := bne_iff_ne.mpr c2; (try simp only [c2b0, Bool.not_true, Bool.not_false])
  (try simp only [c2b1, Bool.not_true, Bool.not_false])
  by_cases c11 : a0_3 = 2
  ·
   rw [if_pos c11] at H; have c11b0 : (a0_3 == 2) = true := beq_iff_eq.mpr c11; have c11b1 : (a0_3 != 2) = false := bne_eq_false_iff_eq.mpr c11; clear c11; replace H := Option.bind_eq_some_iff.mp H; obtain ⟨t117, A120, H⟩ := H; have A12 := Aside0.mk A120; clear A120; by_cases c13 : t117 = true
   ·
    subst c13; rw [if_pos rfl] at H; replace H := Option.bind_eq_some_iff.mp H; obtain ⟨t118, A140, H⟩ := H; have A14 := Aside0.mk A140; clear A140; by_cases c15 : t118 = true
    ·
     subst c15; rw [if_pos rfl] at H; obtain rfl := Option.some.inj H; go_wp2_with (first | (go_at_call 50; (with_reducible refine (spec_l02User.calls a0_4 true _ A12.out).mono ?_); rintro e w' ⟨rfl, ⟨nd, rfl⟩⟩; (try exact dd_)) | (go_at_call 19; (with_reducible refine (spec_l02Is.calls a0_5 1 4 true _ A14.out).mono ?_); rintro e w' ⟨rfl, ⟨nd, rfl⟩⟩; (try exact dd_)))
     repeat (go_quiet (first | (go_at_call 50; (with_reducible refine (spec_l02User.calls a0_4 true _ A12.out).mono ?_); rintro e w' ⟨rfl, ⟨nd, rfl⟩⟩; (try exact dd_)) | (go_at_call 19; (with_reducible refine (spec_l02Is.calls a0_5 1 4 true _ A14.out).mono ?_); rintro e w' ⟨rfl, ⟨nd, rfl⟩⟩; (try exact dd_))); try go_wp2_with (first | (go_at_call 50; (with_reducible refine (spec_l02User.calls a0_4 true _ A12.out).mono ?_); rintro e w' ⟨rfl, ⟨nd, rfl⟩⟩; (try exact dd_)) | (go_at_call 19; (with_reducible refine (spec_l02Is.calls a0_5 1 4 true _ A14.out).mono ?_); rintro e w' ⟨rfl, ⟨nd, rfl⟩⟩; (try exact dd_))))
     go_ret
     exact ⟨a2_, (a3_ HB.out GE116.out)⟩
    ·
     replace c15 := Bool.eq_false_iff.mpr c15; subst c15; rw [if_neg (show ¬ (false = true) by decide)] at H; obtain rfl := Option.some.inj H; go_wp2_with (first | (go_at_call 50; (with_reducible refine (spec_l02User.calls a0_4 true _ A12.out).mono ?_); rintro e w' ⟨rfl, ⟨nd, rfl⟩⟩; (try exact dd_)) | (go_at_call 19; (with_reducible refine (spec_l02Is.calls a0_5 1 4 false _ A14.out).mono ?_); rintro e w' ⟨rfl, ⟨nd, rfl⟩⟩; (try exact dd_)))
     repeat (go_quiet (first | (go_at_call 50; (with_reducible refine (spec_l02User.calls a0_4 true _ A12.out).mono ?_); rintro e w' ⟨rfl, ⟨nd, rfl⟩⟩; (try exact dd_)) | (go_at_call 19; (with_reducible refine (spec_l02Is.calls a0_5 1 4 false _ A14.out).mono ?_); rintro e w' ⟨rfl, ⟨nd, rfl⟩⟩; (try exact dd_))); try go_wp2_with (first | (go_at_call 50; (with_reducible refine (spec_l02User.calls a0_4 true _ A12.out).mono ?_); rintro e w' ⟨rfl, ⟨nd, rfl⟩⟩; (try exact dd_)) | (go_at_call 19; (with_reducible refine (spec_l02Is.calls a0_5 1 4 false _ A14.out).mono ?_); rintro e w' ⟨rfl, ⟨nd, rfl⟩⟩; (try exact dd_))))
     go_ret
     exact ⟨a2_, (a3_ HB.out GE116.out)⟩
   ·
    replace c13 := Bool.eq_false_iff.mpr c13; subst c13; rw [if_neg (show ¬ (false = true) by decide)] at H; obtain rfl := Option.some.inj H; go_wp2_with (first | (go_at_call 50; (with_reducible refine (spec_l02User.calls a0_4 false _ A12.out).mono ?_); rintro e w' ⟨rfl, ⟨nd, rfl⟩⟩; (try exact dd_)))
    repeat (go_quiet (first | (go_at_call 50; (with_reducible refine (spec_l02User.calls a0_4 false _ A12.out).mono ?_); rintro e w' ⟨rfl, ⟨nd, rfl⟩⟩; (try exact dd_))); try go_wp2_with (first | (go_at_call 50; (with_reducible refine (spec_l02User.calls a0_4 false _ A12.out).mono ?_); rintro e w' ⟨rfl, ⟨nd, rfl⟩⟩; (try exact dd_))))
    go_ret
    exact ⟨a2_, (a3_ HB.out GE116.out)⟩
  ·
   rw [if_neg c11] at H; have c11b0 : (a0_3 == 2) = false := beq_eq_false_iff_ne.mpr c11; have c11b1 : (a0_3 != 2) = true := bne_iff_ne.mpr c11; by_cases c22 : a0_3 = 3
   ·
    rw [if_pos c22] at H; have c22b0 : (a0_3 == 3) = true := beq_iff_eq.mpr c22; have c22b1 : (a0_3 != 3) = false := bne_eq_false_iff_eq.mpr c22; clear c22; replace H := Option.bind_eq_some_iff.mp H; obtain ⟨t119, A230, H⟩ := H; have A23 := Aside0.mk A230; clear A230; by_cases c24 : t119 = true
    ·
     subst c24; rw [if_pos rfl] at H; replace H := Option.bind_eq_some_iff.mp H; obtain ⟨t120, A250, H⟩ := H; have A25 := Aside0.mk A250; clear A250; by_cases c26 : t120 = true
     ·
      subst c26; rw [if_pos rfl] at H; obtain rfl := Option.some.inj H; go_wp2_with (first | (go_at_call 50; (with_reducible refine (spec_l02User.calls a0_4 true _ A23.out).mono ?_); rintro e w' ⟨rfl, ⟨nd, rfl⟩⟩; (try exact dd_)) | (go_at_call 19; (with_reducible refine (spec_l02Is.calls a0_5 0 100 true _ A25.out).mono ?_); rintro e w' ⟨rfl, ⟨nd, rfl⟩⟩; (try exact dd_)))
      repeat (go_quiet (first | (go_at_call 50; (with_reducible refine (spec_l02User.calls a0_4 true _ A23.out).mono ?_); rintro e w' ⟨rfl, ⟨nd, rfl⟩⟩; (try exact dd_)) | (go_at_call 19; (with_reducible refine (spec_l02Is.calls a0_5 0 100 true _ A25.out).mono ?_); rintro e w' ⟨rfl, ⟨nd, rfl⟩⟩; (try exact dd_))); try go_wp2_with (first | (go_at_call 50; (with_reducible refine (spec_l02User.calls a0_4 true _ A23.out).mono ?_); rintro e w' ⟨rfl, ⟨nd, rfl⟩⟩; (try exact dd_)) | (go_at_call 19; (with_reducible refine (spec_l02Is.calls a0_5 0 100 true _ A25.out).mono ?_); rintro e w' ⟨rfl, ⟨nd, rfl⟩⟩; (try exact dd_))))
      go_ret
      exact ⟨a2_, (a3_ HB.out GE116.out)⟩
     ·
      replace c26 := Bool.eq_false_iff.mpr c26; subst c26; rw [if_neg (show ¬ (false = true) by decide)] at H; obtain rfl := Option.some.inj H; go_wp2_with (first | (go_at_call 50; (with_reducible refine (spec_l02User.calls a0_4 true _ A23.out).mono ?_); rintro e w' ⟨rfl, ⟨nd, rfl⟩⟩; (try exact dd_)) | (go_at_call 19; (with_reducible refine (spec_l02Is.calls a0_5 0 100 false _ A25.out).mono ?_); rintro e w' ⟨rfl, ⟨nd, rfl⟩⟩; (try exact dd_)))
      repeat (go_quiet (first | (go_at_call 50; (with_reducible refine (spec_l02User.calls a0_4 true _ A23.out).mono ?_); rintro e w' ⟨rfl, ⟨nd, rfl⟩⟩; (try exact dd_)) | (go_at_call 19; (with_reducible refine (spec_l02Is.calls a0_5 0 100 false _ A25.out).mono ?_); rintro e w' ⟨rfl, ⟨nd, rfl⟩⟩; (try exact dd_))); try go_wp2_with (first | (go_at_call 50; (with_reducible refine (spec_l02User.calls a0_4 true _ A23.out).mono ?_); rintro e w' ⟨rfl, ⟨nd, rfl⟩⟩; (try exact dd_)) | (go_at_call 19; (with_reducible refine (spec_l02Is.calls a0_5 0 100 false _ A25.out).mono ?_); rintro e w' ⟨rfl, ⟨nd, rfl⟩⟩; (try exact dd_))))
      go_ret
      exact ⟨a2_, (a3_ HB.out GE116.out)⟩
    ·
     replace c24 := Bool.eq_false_iff.mpr c24; subst c24; rw [if_neg (show ¬ (false = true) by decide)] at H; obtain rfl := Option.some.inj H; go_wp2_with (first | (go_at_call 50; (with_reducible refine (spec_l02User.calls a0_4 false _ A23.out).mono ?_); rintro e w' ⟨rfl, ⟨nd, rfl⟩⟩; (try exact dd_)))
     repeat (go_quiet (first | (go_at_call 50; (with_reducible refine (spec_l02User.calls a0_4 false _ A23.out).mono ?_); rintro e w' ⟨rfl, ⟨nd, rfl⟩⟩; (try exact dd_))); try go_wp2_with (first | (go_at_call 50; (with_reducible refine (spec_l02User.calls a0_4 false _ A23.out).mono ?_); rintro e w' ⟨rfl, ⟨nd, rfl⟩⟩; (try exact dd_))))
     go_ret
     exact ⟨a2_, (a3_ HB.out GE116.out)⟩
   ·
    rw [if_neg c22] at H; have c22b0 : (a0_3 == 3) = false := beq_eq_false_iff_ne.mpr c22; have c22b1 : (a0_3 != 3) = true := bne_iff_ne.mpr c22; by_cases c33 : a0_3 = 4
    ·
     rw [if_pos c33] at H; have c33b0 : (a0_3 == 4) = true := beq_iff_eq.mpr c33; have c33b1 : (a0_3 != 4) = false := bne_eq_false_iff_eq.mpr c33; clear c33; by_cases c34 : a0_4 = 0
     ·
      rw [if_pos c34] at H; have c34b0 : (a0_4 == 0) = true := beq_iff_eq.mpr c34; have c34b1 : (a0_4 != 0) = false := bne_eq_false_iff_eq.mpr c34; clear c34; by_cases c35 : a0_5 = 0
      ·
       rw [if_pos c35] at H; have c35b0 : (a0_5 == 0) = true := beq_iff_eq.mpr c35; have c35b1 : (a0_5 != 0) = false := bne_eq_false_iff_eq.mpr c35; clear c35; obtain rfl := Option.some.inj H; go_wp2
       repeat (go_quiet (fail); try go_wp2)
       go_ret
       exact ⟨a2_, (a3_ HB.out GE116.out)⟩
      ·
       rw [if_neg c35] at H; have c35b0 : (a0_5 == 0) = false := beq_eq_false_iff_ne.mpr c35; have c35b1 : (a0_5 != 0) = true := bne_iff_ne.mpr c35; obtain rfl := Option.some.inj H; go_wp2
       repeat (go_quiet (fail); try go_wp2)
       go_ret
       exact ⟨a2_, (a3_ HB.out GE116.out)⟩
     ·
      rw [if_neg c34] at H; have c34b0 : (a0_4 == 0) = false := beq_eq_false_iff_ne.mpr c34; have c34b1 : (a0_4 != 0) = true := bne_iff_ne.mpr c34; obtain rfl := Option.some.inj H; go_wp2
      repeat (go_quiet (fail); try go_wp2)
      go_ret
      exact ⟨a2_, (a3_ HB.out GE116.out)⟩
    ·
     rw [if_neg c33] at H; have c33b0 : (a0_3 == 4) = false := beq_eq_false_iff_ne.mpr c33; have c33b1 : (a0_3 != 4) = true := bne_iff_ne.mpr c33; by_cases c42 : a0_3 = 5
     ·
      rw [if_pos c42] at H; have c42b0 : (a0_3 == 5) = true := beq_iff_eq.mpr c42; have c42b1 : (a0_3 != 5) = false := bne_eq_false_iff_eq.mpr c42; clear c42; by_cases c43 : a0_4 = 0
      ·
       rw [if_pos c43] at H; have c43b0 : (a0_4 == 0) = true := beq_iff_eq.mpr c43; have c43b1 : (a0_4 != 0) = false := bne_eq_false_iff_eq.mpr c43; clear c43; replace H := Option.bind_eq_some_iff.mp H; obtain ⟨t121, A440, H⟩ := H; have A44 := Aside0.mk A440; clear A440; by_cases c45 : t121 = true
       ·
        subst c45; rw [if_pos rfl] at H; obtain rfl := Option.some.inj H; go_wp2_with (first | (go_at_call 19; (with_reducible refine (spec_l02Is.calls a0_5 1 2 true _ A44.out).mono ?_); rintro e w' ⟨rfl, ⟨nd, rfl⟩⟩; (try exact dd_)))
        repeat (go_quiet (first | (go_at_call 19; (with_reducible refine (spec_l02Is.calls a0_5 1 2 true _ A44.out).mono ?_); rintro e w' ⟨rfl, ⟨nd, rfl⟩⟩; (try exact dd_))); try go_wp2_with (first | (go_at_call 19; (with_reducible refine (spec_l02Is.calls a0_5 1 2 true _ A44.out).mono ?_); rintro e w' ⟨rfl, ⟨nd, rfl⟩⟩; (try exact dd_))))
        go_ret
        exact ⟨a2_, (a3_ HB.out GE116.out)⟩
       ·
        replace c45 := Bool.eq_false_iff.mpr c45; subst c45; rw [if_neg (show ¬ (false = true) by decide)] at H; obtain rfl := Option.some.inj H; go_wp2_with (first | (go_at_call 19; (with_reducible refine (spec_l02Is.calls a0_5 1 2 false _ A44.out).mono ?_); rintro e w' ⟨rfl, ⟨nd, rfl⟩⟩; (try exact dd_)))
        repeat (go_quiet (first | (go_at_call 19; (with_reducible refine (spec_l02Is.calls a0_5 1 2 false _ A44.out).mono ?_); rintro e w' ⟨rfl, ⟨nd, rfl⟩⟩; (try exact dd_))); try go_wp2_with (first | (go_at_call 19; (with_reducible refine (spec_l02Is.calls a0_5 1 2 false _ A44.out).mono ?_); rintro e w' ⟨rfl, ⟨nd, rfl⟩⟩; (try exact dd_))))
        go_ret
        exact ⟨a2_, (a3_ HB.out GE116.out)⟩
      ·
       rw [if_neg c43] at H; have c43b0 : (a0_4 == 0) = false := beq_eq_false_iff_ne.mpr c43; have c43b1 : (a0_4 != 0) = true := bne_iff_ne.mpr c43; obtain rfl := Option.some.inj H; go_wp2
       repeat (go_quiet (fail); try go_wp2)
       go_ret
       exact ⟨a2_, (a3_ HB.out GE116.out)⟩
     ·
      rw [if_neg c42] at H; have c42b0 : (a0_3 == 5) = false := beq_eq_false_iff_ne.mpr c42; have c42b1 : (a0_3 != 5) = true := bne_iff_ne.mpr c42; by_cases c52 : a0_3 = 6
      ·
       rw [if_pos c52] at H; have c52b0 : (a0_3 == 6) = true := beq_iff_eq.mpr c52; have c52b1 : (a0_3 != 6) = false := bne_eq_false_iff_eq.mpr c52; clear c52; by_cases c53 : a0_4 = 0
       ·
        rw [if_pos c53] at H; have c53b0 : (a0_4 == 0) = true := beq_iff_eq.mpr c53; have c53b1 : (a0_4 != 0) = false := bne_eq_false_iff_eq.mpr c53; clear c53; replace H := Option.bind_eq_some_iff.mp H; obtain ⟨t122, A540, H⟩ := H; have A54 := Aside0.mk A540; clear A540; by_cases c55 : t122 = true
        ·
         subst c55; rw [if_pos rfl] at H; obtain rfl := Option.some.inj H; go_wp2_with (first | (go_at_call 19; (with_reducible refine (spec_l02Is.calls a0_5 1 3 true _ A54.out).mono ?_); rintro e w' ⟨rfl, ⟨nd, rfl⟩⟩; (try exact dd_)))
         repeat (go_quiet (first | (go_at_call 19; (with_reducible refine (spec_l02Is.calls a0_5 1 3 true _ A54.out).mono ?_); rintro e w' ⟨rfl, ⟨nd, rfl⟩⟩; (try exact dd_))); try go_wp2_with (first | (go_at_call 19; (with_reducible refine (spec_l02Is.calls a0_5 1 3 true _ A54.out).mono ?_); rintro e w' ⟨rfl, ⟨nd, rfl⟩⟩; (try exact dd_))))
         go_ret
         exact ⟨a2_, (a3_ HB.out GE116.out)⟩
        ·
         replace c55 := Bool.eq_false_iff.mpr c55; subst c55; rw [if_neg (show ¬ (false = true) by decide)] at H; obtain rfl := Option.some.inj H; go_wp2_with (first | (go_at_call 19; (with_reducible refine (spec_l02Is.calls a0_5 1 3 false _ A54.out).mono ?_); rintro e w' ⟨rfl, ⟨nd, rfl⟩⟩; (try exact dd_)))
         repeat (go_quiet (first | (go_at_call 19; (with_reducible refine (spec_l02Is.calls a0_5 1 3 false _ A54.out).mono ?_); rintro e w' ⟨rfl, ⟨nd, rfl⟩⟩; (try exact dd_))); try go_wp2_with (first | (go_at_call 19; (with_reducible refine (spec_l02Is.calls a0_5 1 3 false _ A54.out).mono ?_); rintro e w' ⟨rfl, ⟨nd, rfl⟩⟩; (try exact dd_))))
         go_ret
         exact ⟨a2_, (a3_ HB.out GE116.out)⟩
       ·
        rw [if_neg c53] at H; have c53b0 : (a0_4 == 0) = false := beq_eq_false_iff_ne.mpr c53; have c53b1 : (a0_4 != 0) = true := bne_iff_ne.mpr c53; obtain rfl := Option.some.inj H; go_wp2
        repeat (go_quiet (fail); try go_wp2)
        go_ret
        exact ⟨a2_, (a3_ HB.out GE116.out)⟩
      ·
       rw [if_neg c52] at H; have c52b0 : (a0_3 == 6) = false := beq_eq_false_iff_ne.mpr c52; have c52b1 : (a0_3 != 6) = true := bne_iff_ne.mpr c52; by_cases c62 : a0_3 = 7
       ·
        rw [if_pos c62] at H; have c62b0 : (a0_3 == 7) = true := beq_iff_eq.mpr c62; have c62b1 : (a0_3 != 7) = false := bne_eq_false_iff_eq.mpr c62; clear c62; by_cases c63 : a0_4 = 0
        ·
         rw [if_pos c63] at H; have c63b0 : (a0_4 == 0) = true := beq_iff_eq.mpr c63; have c63b1 : (a0_4 != 0) = false := bne_eq_false_iff_eq.mpr c63; clear c63; by_cases c64 : a0_5 = 0
         ·
          rw [if_pos c64] at H; have c64b0 : (a0_5 == 0) = true := beq_iff_eq.mpr c64; have c64b1 : (a0_5 != 0) = false := bne_eq_false_iff_eq.mpr c64; clear c64; by_cases c65 : (a0_6.size : Int) ≥ 1
          ·
           rw [if_pos c65] at H; have c65b0 : decide (1 ≤ (a0_6.size : Int)) = true := decide_eq_true c65; have c65b1 : decide (1 ≤ a0_6.size) = true := decide_eq_true (by omega); clear c65; obtain rfl := Option.some.inj H; go_wp2
           repeat (go_quiet (fail); try go_wp2)
           go_ret
           exact ⟨a2_, (a3_ HB.out GE116.out)⟩
          ·
           rw [if_neg c65] at H; have c65b0 : decide (1 ≤ (a0_6.size : Int)) = false := decide_eq_false c65; have c65b1 : decide (1 ≤ a0_6.size) = false := decide_eq_false (by omega); clear c65; obtain rfl := Option.some.inj H; go_wp2
           repeat (go_quiet (fail); try go_wp2)
           go_ret
           exact ⟨a2_, (a3_ HB.out GE116.out)⟩
         ·
          rw [if_neg c64] at H; have c64b0 : (a0_5 == 0) = false := beq_eq_false_iff_ne.mpr c64; have c64b1 : (a0_5 != 0) = true := bne_iff_ne.mpr c64; obtain rfl := Option.some.inj H; go_wp2
          repeat (go_quiet (fail); try go_wp2)
          go_ret
          exact ⟨a2_, (a3_ HB.out GE116.out)⟩
        ·
         rw [if_neg c63] at H; have c63b0 : (a0_4 == 0) = false := beq_eq_false_iff_ne.mpr c63; have c63b1 : (a0_4 != 0) = true := bne_iff_ne.mpr c63; obtain rfl := Option.some.inj H; go_wp2
         repeat (go_quiet (fail); try go_wp2)
         go_ret
         exact ⟨a2_, (a3_ HB.out GE116.out)⟩
       ·
        rw [if_neg c62] at H; have c62b0 : (a0_3 == 7) = false := beq_eq_false_iff_ne.mpr c62; have c62b1 : (a0_3 != 7) = true := bne_iff_ne.mpr c62; by_cases c74 : a0_3 = 8
        ·
         rw [if_pos c74] at H; have c74b0 : (a0_3 == 8) = true := beq_iff_eq.mpr c74; have c74b1 : (a0_3 != 8) = false := bne_eq_false_iff_eq.mpr c74; clear c74; replace H := Option.bind_eq_some_iff.mp H; obtain ⟨t123, A750, H⟩ := H; have A75 := Aside0.mk A750; clear A750; by_cases c76 : t123 = true
         ·
          subst c76; rw [if_pos rfl] at H; by_cases c77 : a0_5 = 0
          ·
           rw [if_pos c77] at H; have c77b0 : (a0_5 == 0) = true := beq_iff_eq.mpr c77; have c77b1 : (a0_5 != 0) = false := bne_eq_false_iff_eq.mpr c77; clear c77; obtain rfl := Option.some.inj H; go_wp2_with (first | (go_at_call 49; (with_reducible refine (spec_l02Id.calls a0_4 true _ A75.out).mono ?_); rintro e w' ⟨rfl, ⟨nd, rfl⟩⟩; (try exact dd_)))
           repeat (go_quiet (first | (go_at_call 49; (with_reducible refine (spec_l02Id.calls a0_4 true _ A75.out).mono ?_); rintro e w' ⟨rfl, ⟨nd, rfl⟩⟩; (try exact dd_))); try go_wp2_with (first | (go_at_call 49; (with_reducible refine (spec_l02Id.calls a0_4 true _ A75.out).mono ?_); rintro e w' ⟨rfl, ⟨nd, rfl⟩⟩; (try exact dd_))))
           go_ret
           exact ⟨a2_, (a3_ HB.out GE116.out)⟩
          ·
           rw [if_neg c77] at H; have c77b0 : (a0_5 == 0) = false := beq_eq_false_iff_ne.mpr c77; have c77b1 : (a0_5 != 0) = true := bne_iff_ne.mpr c77; obtain rfl := Option.some.inj H; go_wp2_with (first | (go_at_call 49; (with_reducible refine (spec_l02Id.calls a0_4 true _ A75.out).mono ?_); rintro e w' ⟨rfl, ⟨nd, rfl⟩⟩; (try exact dd_)))
           repeat (go_quiet (first | (go_at_call 49; (with_reducible refine (spec_l02Id.calls a0_4 true _ A75.out).mono ?_); rintro e w' ⟨rfl, ⟨nd, rfl⟩⟩; (try exact dd_))); try go_wp2_with (first | (go_at_call 49; (with_reducible refine (spec_l02Id.calls a0_4 true _ A75.out).mono ?_); rintro e w' ⟨rfl, ⟨nd, rfl⟩⟩; (try exact dd_))))
           go_ret
           exact ⟨a2_, (a3_ HB.out GE116.out)⟩
         ·
          replace c76 := Bool.eq_false_iff.mpr c76; subst c76; rw [if_neg (show ¬ (false = true) by decide)] at H; obtain rfl := Option.some.inj H; go_wp2_with (first | (go_at_call 49; (with_reducible refine (spec_l02Id.calls a0_4 false _ A75.out).mono ?_); rintro e w' ⟨rfl, ⟨nd, rfl⟩⟩; (try exact dd_)))
          repeat (go_quiet (first | (go_at_call 49; (with_reducible refine (spec_l02Id.calls a0_4 false _ A75.out).mono ?_); rintro e w' ⟨rfl, ⟨nd, rfl⟩⟩; (try exact dd_))); try go_wp2_with (first | (go_at_call 49; (with_reducible refine (spec_l02Id.calls a0_4 false _ A75.out).mono ?_); rintro e w' ⟨rfl, ⟨nd, rfl⟩⟩; (try exact dd_))))
          go_ret
          exact ⟨a2_, (a3_ HB.out GE116.out)⟩
        ·
         rw [if_neg c74] at H; have c74b0 : (a0_3 == 8) = false := beq_eq_false_iff_ne.mpr c74; have c74b1 : (a0_3 != 8) = true := bne_iff_ne.mpr c74; obtain rfl := Option.some.inj H; go_wp2
         repeat (go_quiet (fail); try go_wp2)
         go_ret
         exact ⟨a2_, (a3_ HB.out GE116.out)⟩
/-! ### spec_EventRight: function 37 -/
def spec_EventRight.f (k : Nat) (a0_0 : Int) (a0_1 : Int) (a0_2 : Int) (a0_3 : Int) (a0_4 : Int) (a0_5 : Int) (a0_6 : ByteArray) (l0_7 : List Int) (a0_8 : Int) : Option (Bool) := (spec_l02Id.f a0_0).bind fun t125 => (if t125 = true then ((spec_l02Is.f a0_1 1 3).bind fun t126 => (if t126 = true then ((spec_l02User.f a0_2).bind fun t127 => (if t127 = true then ((spec_l02Time.f a0_8).bind fun t128 => (if t128 = true then ((spec_l02Prev.f k l0_7 a0_0).bind fun t129 => (if t129 = true then (if ((a0_3 == 1) == ((l0_7.length : Int) == 0)) = true then ((spec_l02Body.f a0_0 a0_1 a0_2 a0_3 a0_4 a0_5 a0_6 l0_7 a0_8).bind fun t130 => (some t130)) else (some false)) else (some false))) else (some false))) else (some false))) else (some false))) else (some false))
theorem spec_EventRight.mono : ∀ a0 a1 a2 a3 a4 a5 a6 a7 a8 k, LeO (spec_EventRight.f k a0 a1 a2 a3 a4 a5 a6 a7 a8) (spec_EventRight.f (k + 1) a0 a1 a2 a3 a4 a5 a6 a7 a8) := by
  intro a0 a1 a2 a3 a4 a5 a6 a7 a8 k
  unfold spec_EventRight.f
  repeat' first | (with_reducible exact spec_l02Prev.mono _ _ _) | (with_reducible exact LeO.refl _) | (with_reducible exact LeO.none _) | (with_reducible refine LeO.ite ?_ ?_) | (with_reducible refine LeO.bind ?_ (fun _ => ?_)) | exact spec_l02Prev.mono _ _ _ | exact LeO.none _ | refine LeO.ite ?_ ?_ | refine LeO.bind ?_ (fun _ => ?_)
theorem spec_EventRight.calls (k : Nat) (a0_0 : Int) (a0_1 : Int) (a0_2 : Int) (a0_3 : Int) (a0_4 : Int) (a0_5 : Int) (a0_6 : ByteArray) (A0_7 : Option Addr) (c0_7 : Nat) (l0_7 : List Int) (a0_8 : Int) (r : Bool) (w : World) (hr0_7 : Kd.C (Kd.int .i64) w A0_7 l0_7.length l0_7) (hc0_7 : l0_7.length ≤ c0_7) (h : spec_EventRight.f k a0_0 a0_1 a0_2 a0_3 a0_4 a0_5 a0_6 l0_7 a0_8 = some r) :
    Calls Try.prog 37 #[.agg #[.int .i64 a0_0, .int .i64 a0_1, .int .i64 a0_2, .int .i64 a0_3, .int .i64 a0_4, .int .i64 a0_5, .string a0_6, .slice A0_7 l0_7.length c0_7, .int .i64 a0_8]] w fun e w' => e = .returned (.bool r) ∧ Below w.heap.size w w' := by
 have hu39 := Try.underlying39; have HR0_7 := Aside0.mk hr0_7; have HC0_7 := Aside0.mk hc0_7; clear hr0_7 hc0_7; have HB := Aside0.mk (Below.refl w.heap.size w); have H : ((spec_l02Id.f a0_0).bind fun t125 => (if t125 = true then ((spec_l02Is.f a0_1 1 3).bind fun t126 => (if t126 = true then ((spec_l02User.f a0_2).bind fun t127 => (if t127 = true then ((spec_l02Time.f a0_8).bind fun t128 => (if t128 = true then ((spec_l02Prev.f k l0_7 a0_0).bind fun t129 => (if t129 = true then (if ((a0_3 == 1) == ((l0_7.length : Int) == 0)) = true then ((spec_l02Body.f a0_0 a0_1 a0_2 a0_3 a0_4 a0_5 a0_6 l0_7 a0_8).bind fun t130 => (some t130)) else (some false)) else (some false))) else (some false))) else (some false))) else (some false))) else (some false))) = some r := h; clear h; replace H := Option.bind_eq_some_iff.mp H; obtain ⟨t125, A20, H⟩ := H; have A2 := Aside0.mk A20; clear A20; by_cases c3 : t125 = true
 ·
  subst c3; rw [if_pos rfl] at H; replace H := Option.bind_eq_some_iff.mp H; obtain ⟨t126, A40, H⟩ := H; have A4 := Aside0.mk A40; clear A40; by_cases c5 : t126 = true
  ·
   subst c5; rw [if_pos rfl] at H; replace H := Option.bind_eq_some_iff.mp H; obtain ⟨t127, A60, H⟩ := H; have A6 := Aside0.mk A60; clear A60; by_cases c7 : t127 = true
   ·
    subst c7; rw [if_pos rfl] at H; replace H := Option.bind_eq_some_iff.mp H; obtain ⟨t128, A80, H⟩ := H; have A8 := Aside0.mk A80; clear A80; by_cases c9 : t128 = true
    ·
     subst c9; rw [if_pos rfl] at H; replace H := Option.bind_eq_some_iff.mp H; obtain ⟨t129, A100, H⟩ := H; have A10 := Aside0.mk A100; clear A100; by_cases c11 : t129 = true
     ·
      subst c11; rw [if_pos rfl] at H; by_cases c12 : ((a0_3 == 1) == ((l0_7.length : Int) == 0)) = true
      ·
       rw [if_pos c12] at H; have c12b0 : ((a0_3 == 1) == ((l0_7.length : Int) == 0)) = true := c12; (try (have c12b1 : decide ((a0_3 == 1) = ((l0_7.length : Int) == 0)) = true := by simpa using c12))
       (try (have c12b2 : ((a0_3 == 1) == ((l0_7.length : Int) == 0)) = true := by simpa using c12))
       clear c12; replace H := Option.bind_eq_some_iff.mp H; obtain ⟨t130, A130, H⟩ := H; have A13 := Aside0.mk A130; clear A130; obtain rfl := Option.some.inj H; go_enter Try.func37, Try.ntmps37; go_wp2_with (first | ((with_reducible refine gate_dst (N := 1) rfl ?_); (try (refine gate_guard (by rfl) ?_; dsimp only)); refine be_ 1 #[.int .i64 a0_0, .int .i64 a0_1, .int .i64 a0_2, .int .i64 a0_3, .int .i64 a0_4, .int .i64 a0_5, .string a0_6, .slice A0_7 l0_7.length c0_7, .int .i64 a0_8] 39 ?_; intro gb124 hg w14 hbox hb; have BK124 := Aside0.mk (hbox); have GW124 := Aside0.mk ((by rw [hg]; exact (below_size (a1_ HB.out)) : w.heap.size ≤ gb124)); replace HB := Aside0.mk (below_step (a1_ HB.out) hb); have GE124 := GW124; clear hb hbox hg; obtain ⟨⟨hcz15_0, hcz15_1, hcz15_2, hcz15_3, hcz15_4, hcz15_5, hcz15_6, hcz15_7, hcz15_8⟩, hfz15_0, hfz15_1, hfz15_2, hfz15_3, hfz15_4, hfz15_5, hfz15_6, hfz15_7, hfz15_8⟩ := cells_9 BK124.out) | ((with_reducible refine gate_callee (f := 49) rfl ?_); refine gl_ (some 5) Try.func49 #[.int .i64 a0_0] ?_; (with_reducible refine (spec_l02Id.calls a0_0 true _ A2.out).mono ?_); rintro e w' ⟨rfl, ⟨nd, rfl⟩⟩; refine ⟨_, rfl, ?_⟩) | (go_at_call 19; (with_reducible refine (spec_l02Is.calls a0_1 1 3 true _ A4.out).mono ?_); rintro e w' ⟨rfl, ⟨nd, rfl⟩⟩) | (go_at_call 50; (with_reducible refine (spec_l02User.calls a0_2 true _ A6.out).mono ?_); rintro e w' ⟨rfl, ⟨nd, rfl⟩⟩) | (go_at_call 51; (with_reducible refine (spec_l02Time.calls a0_8 true _ A8.out).mono ?_); rintro e w' ⟨rfl, ⟨nd, rfl⟩⟩) | (go_at_call 52; (with_reducible refine (spec_l02Prev.calls k _ _ l0_7 a0_0 true _ ?side1 HC0_7.out A10.out).mono ?_); (case side1 => exact (cb_ HR0_7.out (a3_ HB.out GE124.out))); rintro e w16 ⟨rfl, hb⟩; replace BK124 := Aside0.mk (blk_below (g := gb124) (o := .cells #[.int .i64 a0_0, .int .i64 a0_1, .int .i64 a0_2, .int .i64 a0_3, .int .i64 a0_4, .int .i64 a0_5, .string a0_6, .slice A0_7 l0_7.length c0_7, .int .i64 a0_8] 39 (0, 0)) (a4_ BK124.out) hb); replace HB := Aside0.mk (below_step (a3_ HB.out GE124.out) hb); (try clear hb); (try clear hb2); (try clear hk); (try clear hi); obtain ⟨⟨hcz17_0, hcz17_1, hcz17_2, hcz17_3, hcz17_4, hcz17_5, hcz17_6, hcz17_7, hcz17_8⟩, hfz17_0, hfz17_1, hfz17_2, hfz17_3, hfz17_4, hfz17_5, hfz17_6, hfz17_7, hfz17_8⟩ := cells_9 BK124.out) | (go_at_call 53; (with_reducible refine (spec_l02Body.calls a0_0 a0_1 a0_2 a0_3 a0_4 a0_5 a0_6 _ _ l0_7 a0_8 t130 _ ?side1 HC0_7.out A13.out).mono ?_); (case side1 => exact (cb_ HR0_7.out HB.out)); rintro e w18 ⟨rfl, hb⟩; replace BK124 := Aside0.mk (blk_below (g := gb124) (o := .cells #[.int .i64 a0_0, .int .i64 a0_1, .int .i64 a0_2, .int .i64 a0_3, .int .i64 a0_4, .int .i64 a0_5, .string a0_6, .slice A0_7 l0_7.length c0_7, .int .i64 a0_8] 39 (0, 0)) (a4_ BK124.out) hb); replace HB := Aside0.mk (below_step (a3_ HB.out GE124.out) hb); (try clear hb); (try clear hb2); (try clear hk); (try clear hi)))
       go_ret
       exact ⟨a2_, (a3_ HB.out GE124.out)⟩
      ·
       rw [if_neg c12] at H; have c12b0 : ((a0_3 == 1) == ((l0_7.length : Int) == 0)) = false := by simpa using c12
       (try (have c12b1 : decide ((a0_3 == 1) = ((l0_7.length : Int) == 0)) = false := by simpa using c12))
       (try (have c12b2 : ((a0_3 == 1) == ((l0_7.length : Int) == 0)) = false := by simpa using c12))
       (try (have c12b3 : ¬ ((a0_3 == 1) = ((l0_7.length : Int) == 0)) := by simpa using c12))
       clear c12; obtain rfl := Option.some.inj H; go_enter Try.func37, Try.ntmps37; go_wp2_with (first | ((with_reducible refine gate_dst (N := 1) rfl ?_); (try (refine gate_guard (by rfl) ?_; dsimp only)); refine be_ 1 #[.int .i64 a0_0, .int .i64 a0_1, .int .i64 a0_2, .int .i64 a0_3, .int .i64 a0_4, .int .i64 a0_5, .string a0_6, .slice A0_7 l0_7.length c0_7, .int .i64 a0_8] 39 ?_; intro gb124 hg w19 hbox hb; have BK124 := Aside0.mk (hbox); have GW124 := Aside0.mk ((by rw [hg]; exact (below_size (a1_ HB.out)) : w.heap.size ≤ gb124)); replace HB := Aside0.mk (below_step (a1_ HB.out) hb); have GE124 := GW124; clear hb hbox hg; obtain ⟨⟨hcz20_0, hcz20_1, hcz20_2, hcz20_3, hcz20_4, hcz20_5, hcz20_6, hcz20_7, hcz20_8⟩, hfz20_0, hfz20_1, hfz20_2, hfz20_3, hfz20_4, hfz20_5, hfz20_6, hfz20_7, hfz20_8⟩ := cells_9 BK124.out) | ((with_reducible refine gate_callee (f := 49) rfl ?_); refine gl_ (some 5) Try.func49 #[.int .i64 a0_0] ?_; (with_reducible refine (spec_l02Id.calls a0_0 true _ A2.out).mono ?_); rintro e w' ⟨rfl, ⟨nd, rfl⟩⟩; refine ⟨_, rfl, ?_⟩) | (go_at_call 19; (with_reducible refine (spec_l02Is.calls a0_1 1 3 true _ A4.out).mono ?_); rintro e w' ⟨rfl, ⟨nd, rfl⟩⟩) | (go_at_call 50; (with_reducible refine (spec_l02User.calls a0_2 true _ A6.out).mono ?_); rintro e w' ⟨rfl, ⟨nd, rfl⟩⟩) | (go_at_call 51; (with_reducible refine (spec_l02Time.calls a0_8 true _ A8.out).mono ?_); rintro e w' ⟨rfl, ⟨nd, rfl⟩⟩) | (go_at_call 52; (with_reducible refine (spec_l02Prev.calls k _ _ l0_7 a0_0 true _ ?side1 HC0_7.out A10.out).mono ?_); (case side1 => exact (cb_ HR0_7.out (a3_ HB.out GE124.out))); rintro e w21 ⟨rfl, hb⟩; replace BK124 := Aside0.mk (blk_below (g := gb124) (o := .cells #[.int .i64 a0_0, .int .i64 a0_1, .int .i64 a0_2, .int .i64 a0_3, .int .i64 a0_4, .int .i64 a0_5, .string a0_6, .slice A0_7 l0_7.length c0_7, .int .i64 a0_8] 39 (0, 0)) (a4_ BK124.out) hb); replace HB := Aside0.mk (below_step (a3_ HB.out GE124.out) hb); (try clear hb); (try clear hb2); (try clear hk); (try clear hi); obtain ⟨⟨hcz22_0, hcz22_1, hcz22_2, hcz22_3, hcz22_4, hcz22_5, hcz22_6, hcz22_7, hcz22_8⟩, hfz22_0, hfz22_1, hfz22_2, hfz22_3, hfz22_4, hfz22_5, hfz22_6, hfz22_7, hfz22_8⟩ := cells_9 BK124.out))
       go_ret
       exact ⟨a2_, (a3_ HB.out GE124.out)⟩
     ·
      replace c11 := Bool.eq_false_iff.mpr c11; subst c11; rw [if_neg (show ¬ (false = true) by decide)] at H; obtain rfl := Option.some.inj H; go_enter Try.func37, Try.ntmps37; go_wp2_with (first | ((with_reducible refine gate_dst (N := 1) rfl ?_); (try (refine gate_guard (by rfl) ?_; dsimp only)); refine be_ 1 #[.int .i64 a0_0, .int .i64 a0_1, .int .i64 a0_2, .int .i64 a0_3, .int .i64 a0_4, .int .i64 a0_5, .string a0_6, .slice A0_7 l0_7.length c0_7, .int .i64 a0_8] 39 ?_; intro gb124 hg w23 hbox hb; have BK124 := Aside0.mk (hbox); have GW124 := Aside0.mk ((by rw [hg]; exact (below_size (a1_ HB.out)) : w.heap.size ≤ gb124)); replace HB := Aside0.mk (below_step (a1_ HB.out) hb); have GE124 := GW124; clear hb hbox hg; obtain ⟨⟨hcz24_0, hcz24_1, hcz24_2, hcz24_3, hcz24_4, hcz24_5, hcz24_6, hcz24_7, hcz24_8⟩, hfz24_0, hfz24_1, hfz24_2, hfz24_3, hfz24_4, hfz24_5, hfz24_6, hfz24_7, hfz24_8⟩ := cells_9 BK124.out) | ((with_reducible refine gate_callee (f := 49) rfl ?_); refine gl_ (some 5) Try.func49 #[.int .i64 a0_0] ?_; (with_reducible refine (spec_l02Id.calls a0_0 true _ A2.out).mono ?_); rintro e w' ⟨rfl, ⟨nd, rfl⟩⟩; refine ⟨_, rfl, ?_⟩) | (go_at_call 19; (with_reducible refine (spec_l02Is.calls a0_1 1 3 true _ A4.out).mono ?_); rintro e w' ⟨rfl, ⟨nd, rfl⟩⟩) | (go_at_call 50; (with_reducible refine (spec_l02User.calls a0_2 true _ A6.out).mono ?_); rintro e w' ⟨rfl, ⟨nd, rfl⟩⟩) | (go_at_call 51; (with_reducible refine (spec_l02Time.calls a0_8 true _ A8.out).mono ?_); rintro e w' ⟨rfl, ⟨nd, rfl⟩⟩) | (go_at_call 52; (with_reducible refine (spec_l02Prev.calls k _ _ l0_7 a0_0 false _ ?side1 HC0_7.out A10.out).mono ?_); (case side1 => exact (cb_ HR0_7.out (a3_ HB.out GE124.out))); rintro e w25 ⟨rfl, hb⟩; replace BK124 := Aside0.mk (blk_below (g := gb124) (o := .cells #[.int .i64 a0_0, .int .i64 a0_1, .int .i64 a0_2, .int .i64 a0_3, .int .i64 a0_4, .int .i64 a0_5, .string a0_6, .slice A0_7 l0_7.length c0_7, .int .i64 a0_8] 39 (0, 0)) (a4_ BK124.out) hb); replace HB := Aside0.mk (below_step (a3_ HB.out GE124.out) hb); (try clear hb); (try clear hb2); (try clear hk); (try clear hi)))
      go_ret
      exact ⟨a2_, (a3_ HB.out GE124.out)⟩
    ·
     replace c9 := Bool.eq_false_iff.mpr c9; subst c9; rw [if_neg (show ¬ (false = true) by decide)] at H; obtain rfl := Option.some.inj H; go_enter Try.func37, Try.ntmps37; go_wp2_with (first | ((with_reducible refine gate_dst (N := 1) rfl ?_); (try (refine gate_guard (by rfl) ?_; dsimp only)); refine be_ 1 #[.int .i64 a0_0, .int .i64 a0_1, .int .i64 a0_2, .int .i64 a0_3, .int .i64 a0_4, .int .i64 a0_5, .string a0_6, .slice A0_7 l0_7.length c0_7, .int .i64 a0_8] 39 ?_; intro gb124 hg w26 hbox hb; have BK124 := Aside0.mk (hbox); have GW124 := Aside0.mk ((by rw [hg]; exact (below_size (a1_ HB.out)) : w.heap.size ≤ gb124)); replace HB := Aside0.mk (below_step (a1_ HB.out) hb); have GE124 := GW124; clear hb hbox hg; obtain ⟨⟨hcz27_0, hcz27_1, hcz27_2, hcz27_3, hcz27_4, hcz27_5, hcz27_6, hcz27_7, hcz27_8⟩, hfz27_0, hfz27_1, hfz27_2, hfz27_3, hfz27_4, hfz27_5, hfz27_6, hfz27_7, hfz27_8⟩ := cells_9 BK124.out) | ((with_reducible refine gate_callee (f := 49) rfl ?_); refine gl_ (some 5) Try.func49 #[.int .i64 a0_0] ?_; (with_reducible refine (spec_l02Id.calls a0_0 true _ A2.out).mono ?_); rintro e w' ⟨rfl, ⟨nd, rfl⟩⟩; refine ⟨_, rfl, ?_⟩) | (go_at_call 19; (with_reducible refine (spec_l02Is.calls a0_1 1 3 true _ A4.out).mono ?_); rintro e w' ⟨rfl, ⟨nd, rfl⟩⟩) | (go_at_call 50; (with_reducible refine (spec_l02User.calls a0_2 true _ A6.out).mono ?_); rintro e w' ⟨rfl, ⟨nd, rfl⟩⟩) | (go_at_call 51; (with_reducible refine (spec_l02Time.calls a0_8 false _ A8.out).mono ?_); rintro e w' ⟨rfl, ⟨nd, rfl⟩⟩))
     go_ret
     exact ⟨a2_, (a3_ HB.out GE124.out)⟩
   ·
    replace c7 := Bool.eq_false_iff.mpr c7; subst c7; rw [if_neg (show ¬ (false = true) by decide)] at H; obtain rfl := Option.some.inj H; go_enter Try.func37, Try.ntmps37; go_wp2_with (first | ((with_reducible refine gate_dst (N := 1) rfl ?_); (try (refine gate_guard (by rfl) ?_; dsimp only)); refine be_ 1 #[.int .i64 a0_0, .int .i64 a0_1, .int .i64 a0_2, .int .i64 a0_3, .int .i64 a0_4, .int .i64 a0_5, .string a0_6, .slice A0_7 l0_7.length c0_7, .int .i64 a0_8] 39 ?_; intro gb124 hg w28 hbox hb; have BK124 := Aside0.mk (hbox); have GW124 := Aside0.mk ((by rw [hg]; exact (below_size (a1_ HB.out)) : w.heap.size ≤ gb124)); replace HB := Aside0.mk (below_step (a1_ HB.out) hb); have GE124 := GW124; clear hb hbox hg; obtain ⟨⟨hcz29_0, hcz29_1, hcz29_2, hcz29_3, hcz29_4, hcz29_5, hcz29_6, hcz29_7, hcz29_8⟩, hfz29_0, hfz29_1, hfz29_2, hfz29_3, hfz29_4, hfz29_5, hfz29_6, hfz29_7, hfz29_8⟩ := cells_9 BK124.out) | ((with_reducible refine gate_callee (f := 49) rfl ?_); refine gl_ (some 5) Try.func49 #[.int .i64 a0_0] ?_; (with_reducible refine (spec_l02Id.calls a0_0 true _ A2.out).mono ?_); rintro e w' ⟨rfl, ⟨nd, rfl⟩⟩; refine ⟨_, rfl, ?_⟩) | (go_at_call 19; (with_reducible refine (spec_l02Is.calls a0_1 1 3 true _ A4.out).mono ?_); rintro e w' ⟨rfl, ⟨nd, rfl⟩⟩) | (go_at_call 50; (with_reducible refine (spec_l02User.calls a0_2 false _ A6.out).mono ?_); rintro e w' ⟨rfl, ⟨nd, rfl⟩⟩))
    go_ret
    exact ⟨a2_, (a3_ HB.out GE124.out)⟩
  ·
   replace c5 := Bool.eq_false_iff.mpr c5; subst c5; rw [if_neg (show ¬ (false = true) by decide)] at H; obtain rfl := Option.some.inj H; go_enter Try.func37, Try.ntmps37; go_wp2_with (first | ((with_reducible refine gate_dst (N := 1) rfl ?_); (try (refine gate_guard (by rfl) ?_; dsimp only)); refine be_ 1 #[.int .i64 a0_0, .int .i64 a0_1, .int .i64 a0_2, .int .i64 a0_3, .int .i64 a0_4, .int .i64 a0_5, .string a0_6, .slice A0_7 l0_7.length c0_7, .int .i64 a0_8] 39 ?_; intro gb124 hg w30 hbox hb; have BK124 := Aside0.mk (hbox); have GW124 := Aside0.mk ((by rw [hg]; exact (below_size (a1_ HB.out)) : w.heap.size ≤ gb124)); replace HB := Aside0.mk (below_step (a1_ HB.out) hb); have GE124 := GW124; clear hb hbox hg; obtain ⟨⟨hcz31_0, hcz31_1, hcz31_2, hcz31_3, hcz31_4, hcz31_5, hcz31_6, hcz31_7, hcz31_8⟩, hfz31_0, hfz31_1, hfz31_2, hfz31_3, hfz31_4, hfz31_5, hfz31_6, hfz31_7, hfz31_8⟩ := cells_9 BK124.out) | ((with_reducible refine gate_callee (f := 49) rfl ?_); refine gl_ (some 5) Try.func49 #[.int .i64 a0_0] ?_; (with_reducible refine (spec_l02Id.calls a0_0 true _ A2.out).mono ?_); rintro e w' ⟨rfl, ⟨nd, rfl⟩⟩; refine ⟨_, rfl, ?_⟩) | (go_at_call 19; (with_reducible refine (spec_l02Is.calls a0_1 1 3 false _ A4.out).mono ?_); rintro e w' ⟨rfl, ⟨nd, rfl⟩⟩))
   go_ret
   exact ⟨a2_, (a3_ HB.out GE124.out)⟩
 ·
  replace c3 := Bool.eq_false_iff.mpr c3; subst c3; rw [if_neg (show ¬ (false = true) by decide)] at H; obtain rfl := Option.some.inj H; go_enter Try.func37, Try.ntmps37; go_wp2_with (first | ((with_reducible refine gate_dst (N := 1) rfl ?_); (try (refine gate_guard (by rfl) ?_; dsimp only)); refine be_ 1 #[.int .i64 a0_0, .int .i64 a0_1, .int .i64 a0_2, .int .i64 a0_3, .int .i64 a0_4, .int .i64 a0_5, .string a0_6, .slice A0_7 l0_7.length c0_7, .int .i64 a0_8] 39 ?_; intro gb124 hg w32 hbox hb; have BK124 := Aside0.mk (hbox); have GW124 := Aside0.mk ((by rw [hg]; exact (below_size (a1_ HB.out)) : w.heap.size ≤ gb124)); replace HB := Aside0.mk (below_step (a1_ HB.out) hb); have GE124 := GW124; clear hb hbox hg; obtain ⟨⟨hcz33_0, hcz33_1, hcz33_2, hcz33_3, hcz33_4, hcz33_5, hcz33_6, hcz33_7, hcz33_8⟩, hfz33_0, hfz33_1, hfz33_2, hfz33_3, hfz33_4, hfz33_5, hfz33_6, hfz33_7, hfz33_8⟩ := cells_9 BK124.out) | ((with_reducible refine gate_callee (f := 49) rfl ?_); refine gl_ (some 5) Try.func49 #[.int .i64 a0_0] ?_; (with_reducible refine (spec_l02Id.calls a0_0 false _ A2.out).mono ?_); rintro e w' ⟨rfl, ⟨nd, rfl⟩⟩; refine ⟨_, rfl, ?_⟩))
  go_ret
  exact ⟨a2_, (a3_ HB.out GE124.out)⟩

end Go.Proofs.Ythpclkkkpponkaa.Print
