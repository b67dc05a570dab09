-- Printed by wip/myprint.py over the kit's print, in this session's own call.
import Derived.Test.YteimdbmfgojioaaPrint5
namespace Go.Proofs.Yteimdbmfgojioaa.Print
open Go.RowKit Go.Proofs.YteimdbmfgojioaaW.PrintWords Go.Proofs.YteimdbmfgojioaaW.PrintLast Go.Proofs.YteimdbmfgojioaaW.PrintMore
attribute [local go_sem] max2_int min2_int max_two min_two max_three min_three max_four min_four   -- for this text's walks alone
set_option maxHeartbeats 8000000
set_option maxRecDepth 100000
set_option linter.unusedVariables false
set_option linter.unusedSimpArgs false

/-! ### spec_l02Body: function 45 -/
def spec_l02Body.f (a0_0 : Int) (a0_1 : Int) (a0_2 : Int) (a0_3 : Int) (a0_4 : Int) (a0_5 : Int) (a0_6 : ByteArray) (l0_7 : List Int) (a0_8 : Int) : Option (Bool) := if a0_3 = 1 then (if a0_4 = 0 then (if a0_5 = 0 then (some (a0_6.toList == ([] : List UInt8))) else (some false)) else (some false)) else (if a0_3 = 2 then ((spec_l02User.f a0_4).bind fun t224 => (if t224 = true then ((spec_l02Is.f a0_5 1 4).bind fun t225 => (if t225 = true then (some (a0_6.toList == ([] : List UInt8))) else (some false))) else (some false))) else (if a0_3 = 3 then ((spec_l02User.f a0_4).bind fun t226 => (if t226 = true then ((spec_l02Is.f a0_5 0 100).bind fun t227 => (if t227 = true then (some (a0_6.toList == ([] : List UInt8))) else (some false))) else (some false))) else (if a0_3 = 4 then (if a0_4 = 0 then (if a0_5 = 0 then (some (decide ((a0_6.size : Int) ≤ 30))) else (some false)) else (some false)) else (if a0_3 = 5 then (if a0_4 = 0 then ((spec_l02Is.f a0_5 1 2).bind fun t228 => (if t228 = true then (some (a0_6.toList == ([] : List UInt8))) else (some false))) else (some false)) else (if a0_3 = 6 then (if a0_4 = 0 then ((spec_l02Is.f a0_5 1 3).bind fun t229 => (if t229 = true then (some (a0_6.toList == ([] : List UInt8))) else (some false))) else (some false)) else (if a0_3 = 7 then (if a0_4 = 0 then (if a0_5 = 0 then (if (a0_6.size : Int) ≥ 1 then (some (decide ((a0_6.size : Int) ≤ 30))) else (some false)) else (some false)) else (some false)) else (if a0_3 = 8 then ((spec_l02Id.f a0_4).bind fun t230 => (if t230 = true then (if a0_5 = 0 then (some (a0_6.toList == ([] : List UInt8))) else (some false)) else (some false))) else (some false))))))))
theorem spec_l02Body.calls (a0_0 : Int) (a0_1 : Int) (a0_2 : Int) (a0_3 : Int) (a0_4 : Int) (a0_5 : Int) (a0_6 : ByteArray) (A0_7 : Option Addr) (c0_7 : Nat) (l0_7 : List Int) (a0_8 : Int) (r : Bool) (w : World) (hr0_7 : Kd.C (Kd.int .i64) w A0_7 l0_7.length l0_7) (hc0_7 : l0_7.length ≤ c0_7) (h : spec_l02Body.f a0_0 a0_1 a0_2 a0_3 a0_4 a0_5 a0_6 l0_7 a0_8 = some r) :
    Calls Try.prog 45 #[.agg #[.int .i64 a0_0, .int .i64 a0_1, .int .i64 a0_2, .int .i64 a0_3, .int .i64 a0_4, .int .i64 a0_5, .string a0_6, .slice A0_7 l0_7.length c0_7, .int .i64 a0_8]] w fun e w' => e = .returned (.bool r) ∧ Below w.heap.size w w' := by
 have hu25 := Try.underlying25; have HR0_7 := Aside0.mk hr0_7; have HC0_7 := Aside0.mk hc0_7; clear hr0_7 hc0_7; have HB := Aside0.mk (Below.refl w.heap.size w); have H : (if a0_3 = 1 then (if a0_4 = 0 then (if a0_5 = 0 then (some (a0_6.toList == ([] : List UInt8))) else (some false)) else (some false)) else (if a0_3 = 2 then ((spec_l02User.f a0_4).bind fun t224 => (if t224 = true then ((spec_l02Is.f a0_5 1 4).bind fun t225 => (if t225 = true then (some (a0_6.toList == ([] : List UInt8))) else (some false))) else (some false))) else (if a0_3 = 3 then ((spec_l02User.f a0_4).bind fun t226 => (if t226 = true then ((spec_l02Is.f a0_5 0 100).bind fun t227 => (if t227 = true then (some (a0_6.toList == ([] : List UInt8))) else (some false))) else (some false))) else (if a0_3 = 4 then (if a0_4 = 0 then (if a0_5 = 0 then (some (decide ((a0_6.size : Int) ≤ 30))) else (some false)) else (some false)) else (if a0_3 = 5 then (if a0_4 = 0 then ((spec_l02Is.f a0_5 1 2).bind fun t228 => (if t228 = true then (some (a0_6.toList == ([] : List UInt8))) else (some false))) else (some false)) else (if a0_3 = 6 then (if a0_4 = 0 then ((spec_l02Is.f a0_5 1 3).bind fun t229 => (if t229 = true then (some (a0_6.toList == ([] : List UInt8))) else (some false))) else (some false)) else (if a0_3 = 7 then (if a0_4 = 0 then (if a0_5 = 0 then (if (a0_6.size : Int) ≥ 1 then (some (decide ((a0_6.size : Int) ≤ 30))) else (some false)) else (some false)) else (some false)) else (if a0_3 = 8 then ((spec_l02Id.f a0_4).bind fun t230 => (if t230 = true then (if a0_5 = 0 then (some (a0_6.toList == ([] : List UInt8))) else (some false)) else (some false))) else (some false))))))))) = some r := h
 clear h; go_enter Try.func45, Try.ntmps45; go_upto_if 17 with (first | ((with_reducible refine gate_dst (N := 1) rfl ?_); (try (refine gate_guard (by rfl) ?_; dsimp only)); refine be_ 1 #[.int .i64 a0_0, .int .i64 a0_1, .int .i64 a0_2, .int .i64 a0_3, .int .i64 a0_4, .int .i64 a0_5, .string a0_6, .slice A0_7 l0_7.length c0_7, .int .i64 a0_8] 25 ?_; intro gb223 hg w5 hbox hb; have BK223 := Aside0.mk (hbox); have GW223 := Aside0.mk ((by rw [hg]; exact (below_size (a12_ HB.out)) : w.heap.size ≤ gb223)); replace HB := Aside0.mk (below_step (a12_ HB.out) hb); have GE223 := GW223; clear hb hbox hg; obtain ⟨⟨hcz6_0, hcz6_1, hcz6_2, hcz6_3, hcz6_4, hcz6_5, hcz6_6, hcz6_7, hcz6_8⟩, hfz6_0, hfz6_1, hfz6_2, hfz6_3, hfz6_4, hfz6_5, hfz6_6, hfz6_7, hfz6_8⟩ := cells_9 BK223.out))
 by_cases c2 : a0_3 = 1
 ·
  rw [if_pos c2] at H; have c2b0 : (a0_3 == 1) = true := beq_iff_eq.mpr c2; have c2b1 : (a0_3 != 1) = false := bne_eq_false_iff_eq.mpr c2; clear c2; (try simp only [c2b0, Bool.not_true, Bool.not_false])
  (try simp only [c2b1, Bool.not_true, Bool.not_false])
  by_cases c3 : a0_4 = 0
  ·
   rw [if_pos c3] at H; have c3b0 : (a0_4 == 0) = true := beq_iff_eq.mpr c3; have c3b1 : (a0_4 != 0) = false := bne_eq_false_iff_eq.mpr c3; clear c3; by_cases c4 : a0_5 = 0
   ·
    rw [if_pos c4] at H; have c4b0 : (a0_5 == 0) = true := beq_iff_eq.mpr c4; have c4b1 : (a0_5 != 0) = false := bne_eq_false_iff_eq.mpr c4; clear c4; obtain rfl := Option.some.inj H; go_wp2
    repeat (go_quiet (fail); try go_wp2)
    go_ret
    exact ⟨a3_, (a1_ HB.out GE223.out)⟩
   ·
    rw [if_neg c4] at H; have c4b0 : (a0_5 == 0) = false := beq_eq_false_iff_ne.mpr c4; have c4b1 : (a0_5 != 0) = true := bne_iff_ne.mpr c4; obtain rfl := Option.some.inj H; go_wp2
    repeat (go_quiet (fail); try go_wp2)
    go_ret
    exact ⟨a3_, (a1_ HB.out GE223.out)⟩
  ·
   rw [if_neg c3] at H; have c3b0 : (a0_4 == 0) = false := beq_eq_false_iff_ne.mpr c3; have c3b1 : (a0_4 != 0) = true := bne_iff_ne.mpr c3; obtain rfl := Option.some.inj H; go_wp2
   repeat (go_quiet (fail); try go_wp2)
   go_ret
   exact ⟨a3_, (a1_ HB.out GE223.out)⟩
 ·
  rw [if_neg c2] at H; have c2b0 : (a0_3 == 1) = false := beq_eq_false_iff_ne.mpr c2; have c2b1 : (a0_3 != 1) = true := bne_iff_ne.mpr c2; (try simp only [c2b0, Bool.not_true, Bool.not_false])
  (try simp only [c2b1, Bool.not_true, Bool.not_false])
  by_cases c11 : a0_3 = 2
  ·
   rw [if_pos c11] at H; have c11b0 : (a0_3 == 2) = true := beq_iff_eq.mpr c11; have c11b1 : (a0_3 != 2) = false := bne_eq_false_iff_eq.mpr c11; clear c11; replace H := Option.bind_eq_some_iff.mp H; obtain ⟨t224, A120, H⟩ := H; have A12 := Aside0.mk A120; clear A120; by_cases c13 : t224 = true
   ·
    subst c13; rw [if_pos rfl] at H; replace H := Option.bind_eq_some_iff.mp H; obtain ⟨t225, A140, H⟩ := H; have A14 := Aside0.mk A140; clear A140; by_cases c15 : t225 = true
    ·
     subst c15; rw [if_pos rfl] at H; obtain rfl := Option.some.inj H; go_wp2_with (first | (go_at_call 42; (with_reducible refine (spec_l02User.calls a0_4 true _ A12.out).mono ?_); rintro e w' ⟨rfl, ⟨nd, rfl⟩⟩; (try exact dd_)) | (go_at_call 41; (with_reducible refine (spec_l02Is.calls a0_5 1 4 true _ A14.out).mono ?_); rintro e w' ⟨rfl, ⟨nd, rfl⟩⟩; (try exact dd_)))
     repeat (go_quiet (first | (go_at_call 42; (with_reducible refine (spec_l02User.calls a0_4 true _ A12.out).mono ?_); rintro e w' ⟨rfl, ⟨nd, rfl⟩⟩; (try exact dd_)) | (go_at_call 41; (with_reducible refine (spec_l02Is.calls a0_5 1 4 true _ A14.out).mono ?_); rintro e w' ⟨rfl, ⟨nd, rfl⟩⟩; (try exact dd_))); try go_wp2_with (first | (go_at_call 42; (with_reducible refine (spec_l02User.calls a0_4 true _ A12.out).mono ?_); rintro e w' ⟨rfl, ⟨nd, rfl⟩⟩; (try exact dd_)) | (go_at_call 41; (with_reducible refine (spec_l02Is.calls a0_5 1 4 true _ A14.out).mono ?_); rintro e w' ⟨rfl, ⟨nd, rfl⟩⟩; (try exact dd_))))
     go_ret
     exact ⟨a3_, (a1_ HB.out GE223.out)⟩
    ·
     replace c15 := Bool.eq_false_iff.mpr c15; subst c15; rw [if_neg (show ¬ (false = true) by decide)] at H; obtain rfl := Option.some.inj H; go_wp2_with (first | (go_at_call 42; (with_reducible refine (spec_l02User.calls a0_4 true _ A12.out).mono ?_); rintro e w' ⟨rfl, ⟨nd, rfl⟩⟩; (try exact dd_)) | (go_at_call 41; (with_reducible refine (spec_l02Is.calls a0_5 1 4 false _ A14.out).mono ?_); rintro e w' ⟨rfl, ⟨nd, rfl⟩⟩; (try exact dd_)))
     repeat (go_quiet (first | (go_at_call 42; (with_reducible refine (spec_l02User.calls a0_4 true _ A12.out).mono ?_); rintro e w' ⟨rfl, ⟨nd, rfl⟩⟩; (try exact dd_)) | (go_at_call 41; (with_reducible refine (spec_l02Is.calls a0_5 1 4 false _ A14.out).mono ?_); rintro e w' ⟨rfl, ⟨nd, rfl⟩⟩; (try exact dd_))); try go_wp2_with (first | (go_at_call 42; (with_reducible refine (spec_l02User.calls a0_4 true _ A12.out).mono ?_); rintro e w' ⟨rfl, ⟨nd, rfl⟩⟩; (try exact dd_)) | (go_at_call 41; (with_reducible refine (spec_l02Is.calls a0_5 1 4 false _ A14.out).mono ?_); rintro e w' ⟨rfl, ⟨nd, rfl⟩⟩; (try exact dd_))))
     go_ret
     exact ⟨a3_, (a1_ HB.out GE223.out)⟩
   ·
    replace c13 := Bool.eq_false_iff.mpr c13; subst c13; rw [if_neg (show ¬ (false = true) by decide)] at H; obtain rfl := Option.some.inj H; go_wp2_with (first | (go_at_call 42; (with_reducible refine (spec_l02User.calls a0_4 false _ A12.out).mono ?_); rintro e w' ⟨rfl, ⟨nd, rfl⟩⟩; (try exact dd_)))
    repeat (go_quiet (first | (go_at_call 42; (with_reducible refine (spec_l02User.calls a0_4 false _ A12.out).mono ?_); rintro e w' ⟨rfl, ⟨nd, rfl⟩⟩; (try exact dd_))); try go_wp2_with (first | (go_at_call 42; (with_reducible refine (spec_l02User.calls a0_4 false _ A12.out).mono ?_); rintro e w' ⟨rfl, ⟨nd, rfl⟩⟩; (try exact dd_))))
    go_ret
    exact ⟨a3_, (a1_ HB.out GE223.out)⟩
  ·
   rw [if_neg c11] at H; have c11b0 : (a0_3 == 2) = false := beq_eq_false_iff_ne.mpr c11; have c11b1 : (a0_3 != 2) = true := bne_iff_ne.mpr c11; by_cases c22 : a0_3 = 3
   ·
    rw [if_pos c22] at H; have c22b0 : (a0_3 == 3) = true := beq_iff_eq.mpr c22; have c22b1 : (a0_3 != 3) = false := bne_eq_false_iff_eq.mpr c22; clear c22; replace H := Option.bind_eq_some_iff.mp H; obtain ⟨t226, A230, H⟩ := H; have A23 := Aside0.mk A230; clear A230; by_cases c24 : t226 = true
    ·
     subst c24; rw [if_pos rfl] at H; replace H := Option.bind_eq_some_iff.mp H; obtain ⟨t227, A250, H⟩ := H; have A25 := Aside0.mk A250; clear A250; by_cases c26 : t227 = true
     ·
      subst c26; rw [if_pos rfl] at H; obtain rfl := Option.some.inj H; go_wp2_with (first | (go_at_call 42; (with_reducible refine (spec_l02User.calls a0_4 true _ A23.out).mono ?_); rintro e w' ⟨rfl, ⟨nd, rfl⟩⟩; (try exact dd_)) | (go_at_call 41; (with_reducible refine (spec_l02Is.calls a0_5 0 100 true _ A25.out).mono ?_); rintro e w' ⟨rfl, ⟨nd, rfl⟩⟩; (try exact dd_)))
      repeat (go_quiet (first | (go_at_call 42; (with_reducible refine (spec_l02User.calls a0_4 true _ A23.out).mono ?_); rintro e w' ⟨rfl, ⟨nd, rfl⟩⟩; (try exact dd_)) | (go_at_call 41; (with_reducible refine (spec_l02Is.calls a0_5 0 100 true _ A25.out).mono ?_); rintro e w' ⟨rfl, ⟨nd, rfl⟩⟩; (try exact dd_))); try go_wp2_with (first | (go_at_call 42; (with_reducible refine (spec_l02User.calls a0_4 true _ A23.out).mono ?_); rintro e w' ⟨rfl, ⟨nd, rfl⟩⟩; (try exact dd_)) | (go_at_call 41; (with_reducible refine (spec_l02Is.calls a0_5 0 100 true _ A25.out).mono ?_); rintro e w' ⟨rfl, ⟨nd, rfl⟩⟩; (try exact dd_))))
      go_ret
      exact ⟨a3_, (a1_ HB.out GE223.out)⟩
     ·
      replace c26 := Bool.eq_false_iff.mpr c26; subst c26; rw [if_neg (show ¬ (false = true) by decide)] at H; obtain rfl := Option.some.inj H; go_wp2_with (first | (go_at_call 42; (with_reducible refine (spec_l02User.calls a0_4 true _ A23.out).mono ?_); rintro e w' ⟨rfl, ⟨nd, rfl⟩⟩; (try exact dd_)) | (go_at_call 41; (with_reducible refine (spec_l02Is.calls a0_5 0 100 false _ A25.out).mono ?_); rintro e w' ⟨rfl, ⟨nd, rfl⟩⟩; (try exact dd_)))
      repeat (go_quiet (first | (go_at_call 42; (with_reducible refine (spec_l02User.calls a0_4 true _ A23.out).mono ?_); rintro e w' ⟨rfl, ⟨nd, rfl⟩⟩; (try exact dd_)) | (go_at_call 41; (with_reducible refine (spec_l02Is.calls a0_5 0 100 false _ A25.out).mono ?_); rintro e w' ⟨rfl, ⟨nd, rfl⟩⟩; (try exact dd_))); try go_wp2_with (first | (go_at_call 42; (with_reducible refine (spec_l02User.calls a0_4 true _ A23.out).mono ?_); rintro e w' ⟨rfl, ⟨nd, rfl⟩⟩; (try exact dd_)) | (go_at_call 41; (with_reducible refine (spec_l02Is.calls a0_5 0 100 false _ A25.out).mono ?_); rintro e w' ⟨rfl, ⟨nd, rfl⟩⟩; (try exact dd_))))
      go_ret
      exact ⟨a3_, (a1_ HB.out GE223.out)⟩
    ·
     replace c24 := Bool.eq_false_iff.mpr c24; subst c24; rw [if_neg (show ¬ (false = true) by decide)] at H; obtain rfl := Option.some.inj H; go_wp2_with (first | (go_at_call 42; (with_reducible refine (spec_l02User.calls a0_4 false _ A23.out).mono ?_); rintro e w' ⟨rfl, ⟨nd, rfl⟩⟩; (try exact dd_)))
     repeat (go_quiet (first | (go_at_call 42; (with_reducible refine (spec_l02User.calls a0_4 false _ A23.out).mono ?_); rintro e w' ⟨rfl, ⟨nd, rfl⟩⟩; (try exact dd_))); try go_wp2_with (first | (go_at_call 42; (with_reducible refine (spec_l02User.calls a0_4 false _ A23.out).mono ?_); rintro e w' ⟨rfl, ⟨nd, rfl⟩⟩; (try exact dd_))))
     go_ret
     exact ⟨a3_, (a1_ HB.out GE223.out)⟩
   ·
    rw [if_neg c22] at H; have c22b0 : (a0_3 == 3) = false := beq_eq_false_iff_ne.mpr c22; have c22b1 : (a0_3 != 3) = true := bne_iff_ne.mpr c22; by_cases c33 : a0_3 = 4
    ·
     rw [if_pos c33] at H; have c33b0 : (a0_3 == 4) = true := beq_iff_eq.mpr c33; have c33b1 : (a0_3 != 4) = false := bne_eq_false_iff_eq.mpr c33; clear c33; by_cases c34 : a0_4 = 0
     ·
      rw [if_pos c34] at H; have c34b0 : (a0_4 == 0) = true := beq_iff_eq.mpr c34; have c34b1 : (a0_4 != 0) = false := bne_eq_false_iff_eq.mpr c34; clear c34; by_cases c35 : a0_5 = 0
      ·
       rw [if_pos c35] at H; have c35b0 : (a0_5 == 0) = true := beq_iff_eq.mpr c35; have c35b1 : (a0_5 != 0) = false := bne_eq_false_iff_eq.mpr c35; clear c35; obtain rfl := Option.some.inj H; go_wp2
       repeat (go_quiet (fail); try go_wp2)
       go_ret
       exact ⟨a3_, (a1_ HB.out GE223.out)⟩
      ·
       rw [if_neg c35] at H; have c35b0 : (a0_5 == 0) = false := beq_eq_false_iff_ne.mpr c35; have c35b1 : (a0_5 != 0) = true := bne_iff_ne.mpr c35; obtain rfl := Option.some.inj H; go_wp2
       repeat (go_quiet (fail); try go_wp2)
       go_ret
       exact ⟨a3_, (a1_ HB.out GE223.out)⟩
     ·
      rw [if_neg c34] at H; have c34b0 : (a0_4 == 0) = false := beq_eq_false_iff_ne.mpr c34; have c34b1 : (a0_4 != 0) = true := bne_iff_ne.mpr c34; obtain rfl := Option.some.inj H; go_wp2
      repeat (go_quiet (fail); try go_wp2)
      go_ret
      exact ⟨a3_, (a1_ HB.out GE223.out)⟩
    ·
     rw [if_neg c33] at H; have c33b0 : (a0_3 == 4) = false := beq_eq_false_iff_ne.mpr c33; have c33b1 : (a0_3 != 4) = true := bne_iff_ne.mpr c33; by_cases c42 : a0_3 = 5
     ·
      rw [if_pos c42] at H; have c42b0 : (a0_3 == 5) = true := beq_iff_eq.mpr c42; have c42b1 : (a0_3 != 5) = false := bne_eq_false_iff_eq.mpr c42; clear c42; by_cases c43 : a0_4 = 0
      ·
       rw [if_pos c43] at H; have c43b0 : (a0_4 == 0) = true := beq_iff_eq.mpr c43; have c43b1 : (a0_4 != 0) = false := bne_eq_false_iff_eq.mpr c43; clear c43; replace H := Option.bind_eq_some_iff.mp H; obtain ⟨t228, A440, H⟩ := H; have A44 := Aside0.mk A440; clear A440; by_cases c45 : t228 = true
       ·
        subst c45; rw [if_pos rfl] at H; obtain rfl := Option.some.inj H; go_wp2_with (first | (go_at_call 41; (with_reducible refine (spec_l02Is.calls a0_5 1 2 true _ A44.out).mono ?_); rintro e w' ⟨rfl, ⟨nd, rfl⟩⟩; (try exact dd_)))
        repeat (go_quiet (first | (go_at_call 41; (with_reducible refine (spec_l02Is.calls a0_5 1 2 true _ A44.out).mono ?_); rintro e w' ⟨rfl, ⟨nd, rfl⟩⟩; (try exact dd_))); try go_wp2_with (first | (go_at_call 41; (with_reducible refine (spec_l02Is.calls a0_5 1 2 true _ A44.out).mono ?_); rintro e w' ⟨rfl, ⟨nd, rfl⟩⟩; (try exact dd_))))
        go_ret
        exact ⟨a3_, (a1_ HB.out GE223.out)⟩
       ·
        replace c45 := Bool.eq_false_iff.mpr c45; subst c45; rw [if_neg (show ¬ (false = true) by decide)] at H; obtain rfl := Option.some.inj H; go_wp2_with (first | (go_at_call 41; (with_reducible refine (spec_l02Is.calls a0_5 1 2 false _ A44.out).mono ?_); rintro e w' ⟨rfl, ⟨nd, rfl⟩⟩; (try exact dd_)))
        repeat (go_quiet (first | (go_at_call 41; (with_reducible refine (spec_l02Is.calls a0_5 1 2 false _ A44.out).mono ?_); rintro e w' ⟨rfl, ⟨nd, rfl⟩⟩; (try exact dd_))); try go_wp2_with (first | (go_at_call 41; (with_reducible refine (spec_l02Is.calls a0_5 1 2 false _ A44.out).mono ?_); rintro e w' ⟨rfl, ⟨nd, rfl⟩⟩; (try exact dd_))))
        go_ret
        exact ⟨a3_, (a1_ HB.out GE223.out)⟩
      ·
       rw [if_neg c43] at H; have c43b0 : (a0_4 == 0) = false := beq_eq_false_iff_ne.mpr c43; have c43b1 : (a0_4 != 0) = true := bne_iff_ne.mpr c43; obtain rfl := Option.some.inj H; go_wp2
       repeat (go_quiet (fail); try go_wp2)
       go_ret
       exact ⟨a3_, (a1_ HB.out GE223.out)⟩
     ·
      rw [if_neg c42] at H; have c42b0 : (a0_3 == 5) = false := beq_eq_false_iff_ne.mpr c42; have c42b1 : (a0_3 != 5) = true := bne_iff_ne.mpr c42; by_cases c52 : a0_3 = 6
      ·
       rw [if_pos c52] at H; have c52b0 : (a0_3 == 6) = true := beq_iff_eq.mpr c52; have c52b1 : (a0_3 != 6) = false := bne_eq_false_iff_eq.mpr c52; clear c52; by_cases c53 : a0_4 = 0
       ·
        rw [if_pos c53] at H; have c53b0 : (a0_4 == 0) = true := beq_iff_eq.mpr c53; have c53b1 : (a0_4 != 0) = false := bne_eq_false_iff_eq.mpr c53; clear c53; replace H := Option.bind_eq_some_iff.mp H; obtain ⟨t229, A540, H⟩ := H; have A54 := Aside0.mk A540; clear A540; by_cases c55 : t229 = true
        ·
         subst c55; rw [if_pos rfl] at H; obtain rfl := Option.some.inj H; go_wp2_with (first | (go_at_call 41; (with_reducible refine (spec_l02Is.calls a0_5 1 3 true _ A54.out).mono ?_); rintro e w' ⟨rfl, ⟨nd, rfl⟩⟩; (try exact dd_)))
         repeat (go_quiet (first | (go_at_call 41; (with_reducible refine (spec_l02Is.calls a0_5 1 3 true _ A54.out).mono ?_); rintro e w' ⟨rfl, ⟨nd, rfl⟩⟩; (try exact dd_))); try go_wp2_with (first | (go_at_call 41; (with_reducible refine (spec_l02Is.calls a0_5 1 3 true _ A54.out).mono ?_); rintro e w' ⟨rfl, ⟨nd, rfl⟩⟩; (try exact dd_))))
         go_ret
         exact ⟨a3_, (a1_ HB.out GE223.out)⟩
        ·
         replace c55 := Bool.eq_false_iff.mpr c55; subst c55; rw [if_neg (show ¬ (false = true) by decide)] at H; obtain rfl := Option.some.inj H; go_wp2_with (first | (go_at_call 41; (with_reducible refine (spec_l02Is.calls a0_5 1 3 false _ A54.out).mono ?_); rintro e w' ⟨rfl, ⟨nd, rfl⟩⟩; (try exact dd_)))
         repeat (go_quiet (first | (go_at_call 41; (with_reducible refine (spec_l02Is.calls a0_5 1 3 false _ A54.out).mono ?_); rintro e w' ⟨rfl, ⟨nd, rfl⟩⟩; (try exact dd_))); try go_wp2_with (first | (go_at_call 41; (with_reducible refine (spec_l02Is.calls a0_5 1 3 false _ A54.out).mono ?_); rintro e w' ⟨rfl, ⟨nd, rfl⟩⟩; (try exact dd_))))
         go_ret
         exact ⟨a3_, (a1_ HB.out GE223.out)⟩
       ·
        rw [if_neg c53] at H; have c53b0 : (a0_4 == 0) = false := beq_eq_false_iff_ne.mpr c53; have c53b1 : (a0_4 != 0) = true := bne_iff_ne.mpr c53; obtain rfl := Option.some.inj H; go_wp2
        repeat (go_quiet (fail); try go_wp2)
        go_ret
        exact ⟨a3_, (a1_ HB.out GE223.out)⟩
      ·
       rw [if_neg c52] at H; have c52b0 : (a0_3 == 6) = false := beq_eq_false_iff_ne.mpr c52; have c52b1 : (a0_3 != 6) = true := bne_iff_ne.mpr c52; by_cases c62 : a0_3 = 7
       ·
        rw [if_pos c62] at H; have c62b0 : (a0_3 == 7) = true := beq_iff_eq.mpr c62; have c62b1 : (a0_3 != 7) = false := bne_eq_false_iff_eq.mpr c62; clear c62; by_cases c63 : a0_4 = 0
        ·
         rw [if_pos c63] at H; have c63b0 : (a0_4 == 0) = true := beq_iff_eq.mpr c63; have c63b1 : (a0_4 != 0) = false := bne_eq_false_iff_eq.mpr c63; clear c63; by_cases c64 : a0_5 = 0
         ·
          rw [if_pos c64] at H; have c64b0 : (a0_5 == 0) = true := beq_iff_eq.mpr c64; have c64b1 : (a0_5 != 0) = false := bne_eq_false_iff_eq.mpr c64; clear c64; by_cases c65 : (a0_6.size : Int) ≥ 1
          ·
           rw [if_pos c65] at H; have c65b0 : decide (1 ≤ (a0_6.size : Int)) = true := decide_eq_true c65; have c65b1 : decide (1 ≤ a0_6.size) = true := decide_eq_true (by omega); clear c65; obtain rfl := Option.some.inj H; go_wp2
           repeat (go_quiet (fail); try go_wp2)
           go_ret
           exact ⟨a3_, (a1_ HB.out GE223.out)⟩
          ·
           rw [if_neg c65] at H; have c65b0 : decide (1 ≤ (a0_6.size : Int)) = false := decide_eq_false c65; have c65b1 : decide (1 ≤ a0_6.size) = false := decide_eq_false (by omega); clear c65; obtain rfl := Option.some.inj H; go_wp2
           repeat (go_quiet (fail); try go_wp2)
           go_ret
           exact ⟨a3_, (a1_ HB.out GE223.out)⟩
         ·
          rw [if_neg c64] at H; have c64b0 : (a0_5 == 0) = false := beq_eq_false_iff_ne.mpr c64; have c64b1 : (a0_5 != 0) = true := bne_iff_ne.mpr c64; obtain rfl := Option.some.inj H; go_wp2
          repeat (go_quiet (fail); try go_wp2)
          go_ret
          exact ⟨a3_, (a1_ HB.out GE223.out)⟩
        ·
         rw [if_neg c63] at H; have c63b0 : (a0_4 == 0) = false := beq_eq_false_iff_ne.mpr c63; have c63b1 : (a0_4 != 0) = true := bne_iff_ne.mpr c63; obtain rfl := Option.some.inj H; go_wp2
         repeat (go_quiet (fail); try go_wp2)
         go_ret
         exact ⟨a3_, (a1_ HB.out GE223.out)⟩
       ·
        rw [if_neg c62] at H; have c62b0 : (a0_3 == 7) = false := beq_eq_false_iff_ne.mpr c62; have c62b1 : (a0_3 != 7) = true := bne_iff_ne.mpr c62; by_cases c74 : a0_3 = 8
        ·
         rw [if_pos c74] at H; have c74b0 : (a0_3 == 8) = true := beq_iff_eq.mpr c74; have c74b1 : (a0_3 != 8) = false := bne_eq_false_iff_eq.mpr c74; clear c74; replace H := Option.bind_eq_some_iff.mp H; obtain ⟨t230, A750, H⟩ := H; have A75 := Aside0.mk A750; clear A750; by_cases c76 : t230 = true
         ·
          subst c76; rw [if_pos rfl] at H; by_cases c77 : a0_5 = 0
          ·
           rw [if_pos c77] at H; have c77b0 : (a0_5 == 0) = true := beq_iff_eq.mpr c77; have c77b1 : (a0_5 != 0) = false := bne_eq_false_iff_eq.mpr c77; clear c77; obtain rfl := Option.some.inj H; go_wp2_with (first | (go_at_call 40; (with_reducible refine (spec_l02Id.calls a0_4 true _ A75.out).mono ?_); rintro e w' ⟨rfl, ⟨nd, rfl⟩⟩; (try exact dd_)))
           repeat (go_quiet (first | (go_at_call 40; (with_reducible refine (spec_l02Id.calls a0_4 true _ A75.out).mono ?_); rintro e w' ⟨rfl, ⟨nd, rfl⟩⟩; (try exact dd_))); try go_wp2_with (first | (go_at_call 40; (with_reducible refine (spec_l02Id.calls a0_4 true _ A75.out).mono ?_); rintro e w' ⟨rfl, ⟨nd, rfl⟩⟩; (try exact dd_))))
           go_ret
           exact ⟨a3_, (a1_ HB.out GE223.out)⟩
          ·
           rw [if_neg c77] at H; have c77b0 : (a0_5 == 0) = false := beq_eq_false_iff_ne.mpr c77; have c77b1 : (a0_5 != 0) = true := bne_iff_ne.mpr c77; obtain rfl := Option.some.inj H; go_wp2_with (first | (go_at_call 40; (with_reducible refine (spec_l02Id.calls a0_4 true _ A75.out).mono ?_); rintro e w' ⟨rfl, ⟨nd, rfl⟩⟩; (try exact dd_)))
           repeat (go_quiet (first | (go_at_call 40; (with_reducible refine (spec_l02Id.calls a0_4 true _ A75.out).mono ?_); rintro e w' ⟨rfl, ⟨nd, rfl⟩⟩; (try exact dd_))); try go_wp2_with (first | (go_at_call 40; (with_reducible refine (spec_l02Id.calls a0_4 true _ A75.out).mono ?_); rintro e w' ⟨rfl, ⟨nd, rfl⟩⟩; (try exact dd_))))
           go_ret
           exact ⟨a3_, (a1_ HB.out GE223.out)⟩
         ·
          replace c76 := Bool.eq_false_iff.mpr c76; subst c76; rw [if_neg (show ¬ (false = true) by decide)] at H; obtain rfl := Option.some.inj H; go_wp2_with (first | (go_at_call 40; (with_reducible refine (spec_l02Id.calls a0_4 false _ A75.out).mono ?_); rintro e w' ⟨rfl, ⟨nd, rfl⟩⟩; (try exact dd_)))
          repeat (go_quiet (first | (go_at_call 40; (with_reducible refine (spec_l02Id.calls a0_4 false _ A75.out).mono ?_); rintro e w' ⟨rfl, ⟨nd, rfl⟩⟩; (try exact dd_))); try go_wp2_with (first | (go_at_call 40; (with_reducible refine (spec_l02Id.calls a0_4 false _ A75.out).mono ?_); rintro e w' ⟨rfl, ⟨nd, rfl⟩⟩; (try exact dd_))))
          go_ret
          exact ⟨a3_, (a1_ HB.out GE223.out)⟩
        ·
         rw [if_neg c74] at H; have c74b0 : (a0_3 == 8) = false := beq_eq_false_iff_ne.mpr c74; have c74b1 : (a0_3 != 8) = true := bne_iff_ne.mpr c74; obtain rfl := Option.some.inj H; go_wp2
         repeat (go_quiet (fail); try go_wp2)
         go_ret
         exact ⟨a3_, (a1_ HB.out GE223.out)⟩
/-! ### spec_EventRight: function 15 -/
def spec_EventRight.f (k : Nat) (a0_0 : Int) (a0_1 : Int) (a0_2 : Int) (a0_3 : Int) (a0_4 : Int) (a0_5 : Int) (a0_6 : ByteArray) (l0_7 : List Int) (a0_8 : Int) : Option (Bool) := (spec_l02Id.f a0_0).bind fun t232 => (if t232 = true then ((spec_l02Is.f a0_1 1 3).bind fun t233 => (if t233 = true then ((spec_l02User.f a0_2).bind fun t234 => (if t234 = true then ((spec_l02Time.f a0_8).bind fun t235 => (if t235 = true then ((spec_l02Prev.f k l0_7 a0_0).bind fun t236 => (if t236 = true then (if ((a0_3 == 1) == ((l0_7.length : Int) == 0)) = true then ((spec_l02Body.f a0_0 a0_1 a0_2 a0_3 a0_4 a0_5 a0_6 l0_7 a0_8).bind fun t237 => (some t237)) else (some false)) else (some false))) else (some false))) else (some false))) else (some false))) else (some false))
theorem spec_EventRight.mono : ∀ a0 a1 a2 a3 a4 a5 a6 a7 a8 k, LeO (spec_EventRight.f k a0 a1 a2 a3 a4 a5 a6 a7 a8) (spec_EventRight.f (k + 1) a0 a1 a2 a3 a4 a5 a6 a7 a8) := by
  intro a0 a1 a2 a3 a4 a5 a6 a7 a8 k
  unfold spec_EventRight.f
  repeat' first | (with_reducible exact spec_l02Prev.mono _ _ _) | (with_reducible exact LeO.refl _) | (with_reducible exact LeO.none _) | (with_reducible refine LeO.ite ?_ ?_) | (with_reducible refine LeO.bind ?_ (fun _ => ?_)) | exact spec_l02Prev.mono _ _ _ | exact LeO.none _ | refine LeO.ite ?_ ?_ | refine LeO.bind ?_ (fun _ => ?_)
theorem spec_EventRight.calls (k : Nat) (a0_0 : Int) (a0_1 : Int) (a0_2 : Int) (a0_3 : Int) (a0_4 : Int) (a0_5 : Int) (a0_6 : ByteArray) (A0_7 : Option Addr) (c0_7 : Nat) (l0_7 : List Int) (a0_8 : Int) (r : Bool) (w : World) (hr0_7 : Kd.C (Kd.int .i64) w A0_7 l0_7.length l0_7) (hc0_7 : l0_7.length ≤ c0_7) (h : spec_EventRight.f k a0_0 a0_1 a0_2 a0_3 a0_4 a0_5 a0_6 l0_7 a0_8 = some r) :
    Calls Try.prog 15 #[.agg #[.int .i64 a0_0, .int .i64 a0_1, .int .i64 a0_2, .int .i64 a0_3, .int .i64 a0_4, .int .i64 a0_5, .string a0_6, .slice A0_7 l0_7.length c0_7, .int .i64 a0_8]] w fun e w' => e = .returned (.bool r) ∧ Below w.heap.size w w' := by
 have hu25 := Try.underlying25; have HR0_7 := Aside0.mk hr0_7; have HC0_7 := Aside0.mk hc0_7; clear hr0_7 hc0_7; have HB := Aside0.mk (Below.refl w.heap.size w); have H : ((spec_l02Id.f a0_0).bind fun t232 => (if t232 = true then ((spec_l02Is.f a0_1 1 3).bind fun t233 => (if t233 = true then ((spec_l02User.f a0_2).bind fun t234 => (if t234 = true then ((spec_l02Time.f a0_8).bind fun t235 => (if t235 = true then ((spec_l02Prev.f k l0_7 a0_0).bind fun t236 => (if t236 = true then (if ((a0_3 == 1) == ((l0_7.length : Int) == 0)) = true then ((spec_l02Body.f a0_0 a0_1 a0_2 a0_3 a0_4 a0_5 a0_6 l0_7 a0_8).bind fun t237 => (some t237)) else (some false)) else (some false))) else (some false))) else (some false))) else (some false))) else (some false))) = some r := h; clear h; replace H := Option.bind_eq_some_iff.mp H; obtain ⟨t232, A20, H⟩ := H; have A2 := Aside0.mk A20; clear A20; by_cases c3 : t232 = true
 ·
  subst c3; rw [if_pos rfl] at H; replace H := Option.bind_eq_some_iff.mp H; obtain ⟨t233, A40, H⟩ := H; have A4 := Aside0.mk A40; clear A40; by_cases c5 : t233 = true
  ·
   subst c5; rw [if_pos rfl] at H; replace H := Option.bind_eq_some_iff.mp H; obtain ⟨t234, A60, H⟩ := H; have A6 := Aside0.mk A60; clear A60; by_cases c7 : t234 = true
   ·
    subst c7; rw [if_pos rfl] at H; replace H := Option.bind_eq_some_iff.mp H; obtain ⟨t235, A80, H⟩ := H; have A8 := Aside0.mk A80; clear A80; by_cases c9 : t235 = true
    ·
     subst c9; rw [if_pos rfl] at H; replace H := Option.bind_eq_some_iff.mp H; obtain ⟨t236, A100, H⟩ := H; have A10 := Aside0.mk A100; clear A100; by_cases c11 : t236 = true
     ·
      subst c11; rw [if_pos rfl] at H; by_cases c12 : ((a0_3 == 1) == ((l0_7.length : Int) == 0)) = true
      ·
       rw [if_pos c12] at H; have c12b0 : ((a0_3 == 1) == ((l0_7.length : Int) == 0)) = true := c12; (try (have c12b1 : decide ((a0_3 == 1) = ((l0_7.length : Int) == 0)) = true := by simpa using c12))
       (try (have c12b2 : ((a0_3 == 1) == ((l0_7.length : Int) == 0)) = true := by simpa using c12))
       clear c12; replace H := Option.bind_eq_some_iff.mp H; obtain ⟨t237, A130, H⟩ := H; have A13 := Aside0.mk A130; clear A130; obtain rfl := Option.some.inj H; go_enter Try.func15, Try.ntmps15; go_wp2_with (first | ((with_reducible refine gate_dst (N := 1) rfl ?_); (try (refine gate_guard (by rfl) ?_; dsimp only)); refine be_ 1 #[.int .i64 a0_0, .int .i64 a0_1, .int .i64 a0_2, .int .i64 a0_3, .int .i64 a0_4, .int .i64 a0_5, .string a0_6, .slice A0_7 l0_7.length c0_7, .int .i64 a0_8] 25 ?_; intro gb231 hg w14 hbox hb; have BK231 := Aside0.mk (hbox); have GW231 := Aside0.mk ((by rw [hg]; exact (below_size (a12_ HB.out)) : w.heap.size ≤ gb231)); replace HB := Aside0.mk (below_step (a12_ HB.out) hb); have GE231 := GW231; clear hb hbox hg; obtain ⟨⟨hcz15_0, hcz15_1, hcz15_2, hcz15_3, hcz15_4, hcz15_5, hcz15_6, hcz15_7, hcz15_8⟩, hfz15_0, hfz15_1, hfz15_2, hfz15_3, hfz15_4, hfz15_5, hfz15_6, hfz15_7, hfz15_8⟩ := cells_9 BK231.out) | ((with_reducible refine gate_callee (f := 40) rfl ?_); refine gl_ (some 5) Try.func40 #[.int .i64 a0_0] ?_; (with_reducible refine (spec_l02Id.calls a0_0 true _ A2.out).mono ?_); rintro e w' ⟨rfl, ⟨nd, rfl⟩⟩; refine ⟨_, rfl, ?_⟩) | (go_at_call 41; (with_reducible refine (spec_l02Is.calls a0_1 1 3 true _ A4.out).mono ?_); rintro e w' ⟨rfl, ⟨nd, rfl⟩⟩) | (go_at_call 42; (with_reducible refine (spec_l02User.calls a0_2 true _ A6.out).mono ?_); rintro e w' ⟨rfl, ⟨nd, rfl⟩⟩) | (go_at_call 43; (with_reducible refine (spec_l02Time.calls a0_8 true _ A8.out).mono ?_); rintro e w' ⟨rfl, ⟨nd, rfl⟩⟩) | (go_at_call 44; (with_reducible refine (spec_l02Prev.calls k _ _ l0_7 a0_0 true _ ?side1 HC0_7.out A10.out).mono ?_); (case side1 => exact (cb_ HR0_7.out (a1_ HB.out GE231.out))); rintro e w16 ⟨rfl, hb⟩; replace BK231 := Aside0.mk (blk_below (g := gb231) (o := .cells #[.int .i64 a0_0, .int .i64 a0_1, .int .i64 a0_2, .int .i64 a0_3, .int .i64 a0_4, .int .i64 a0_5, .string a0_6, .slice A0_7 l0_7.length c0_7, .int .i64 a0_8] 25 (0, 0)) (a13_ BK231.out) hb); replace HB := Aside0.mk (below_step (a1_ HB.out GE231.out) hb); (try clear hb); (try clear hb2); (try clear hk); (try clear hi); obtain ⟨⟨hcz17_0, hcz17_1, hcz17_2, hcz17_3, hcz17_4, hcz17_5, hcz17_6, hcz17_7, hcz17_8⟩, hfz17_0, hfz17_1, hfz17_2, hfz17_3, hfz17_4, hfz17_5, hfz17_6, hfz17_7, hfz17_8⟩ := cells_9 BK231.out) | (go_at_call 45; (with_reducible refine (spec_l02Body.calls a0_0 a0_1 a0_2 a0_3 a0_4 a0_5 a0_6 _ _ l0_7 a0_8 t237 _ ?side1 HC0_7.out A13.out).mono ?_); (case side1 => exact (cb_ HR0_7.out HB.out)); rintro e w18 ⟨rfl, hb⟩; replace BK231 := Aside0.mk (blk_below (g := gb231) (o := .cells #[.int .i64 a0_0, .int .i64 a0_1, .int .i64 a0_2, .int .i64 a0_3, .int .i64 a0_4, .int .i64 a0_5, .string a0_6, .slice A0_7 l0_7.length c0_7, .int .i64 a0_8] 25 (0, 0)) (a13_ BK231.out) hb); replace HB := Aside0.mk (below_step (a1_ HB.out GE231.out) hb); (try clear hb); (try clear hb2); (try clear hk); (try clear hi)))
       go_ret
       exact ⟨a3_, (a1_ HB.out GE231.out)⟩
      ·
       rw [if_neg c12] at H; have c12b0 : ((a0_3 == 1) == ((l0_7.length : Int) == 0)) = false := by simpa using c12
       (try (have c12b1 : decide ((a0_3 == 1) = ((l0_7.length : Int) == 0)) = false := by simpa using c12))
       (try (have c12b2 : ((a0_3 == 1) == ((l0_7.length : Int) == 0)) = false := by simpa using c12))
       (try (have c12b3 : ¬ ((a0_3 == 1) = ((l0_7.length : Int) == 0)) := by simpa using c12))
       clear c12; obtain rfl := Option.some.inj H; go_enter Try.func15, Try.ntmps15; go_wp2_with (first | ((with_reducible refine gate_dst (N := 1) rfl ?_); (try (refine gate_guard (by rfl) ?_; dsimp only)); refine be_ 1 #[.int .i64 a0_0, .int .i64 a0_1, .int .i64 a0_2, .int .i64 a0_3, .int .i64 a0_4, .int .i64 a0_5, .string a0_6, .slice A0_7 l0_7.length c0_7, .int .i64 a0_8] 25 ?_; intro gb231 hg w19 hbox hb; have BK231 := Aside0.mk (hbox); have GW231 := Aside0.mk ((by rw [hg]; exact (below_size (a12_ HB.out)) : w.heap.size ≤ gb231)); replace HB := Aside0.mk (below_step (a12_ HB.out) hb); have GE231 := GW231; clear hb hbox hg; obtain ⟨⟨hcz20_0, hcz20_1, hcz20_2, hcz20_3, hcz20_4, hcz20_5, hcz20_6, hcz20_7, hcz20_8⟩, hfz20_0, hfz20_1, hfz20_2, hfz20_3, hfz20_4, hfz20_5, hfz20_6, hfz20_7, hfz20_8⟩ := cells_9 BK231.out) | ((with_reducible refine gate_callee (f := 40) rfl ?_); refine gl_ (some 5) Try.func40 #[.int .i64 a0_0] ?_; (with_reducible refine (spec_l02Id.calls a0_0 true _ A2.out).mono ?_); rintro e w' ⟨rfl, ⟨nd, rfl⟩⟩; refine ⟨_, rfl, ?_⟩) | (go_at_call 41; (with_reducible refine (spec_l02Is.calls a0_1 1 3 true _ A4.out).mono ?_); rintro e w' ⟨rfl, ⟨nd, rfl⟩⟩) | (go_at_call 42; (with_reducible refine (spec_l02User.calls a0_2 true _ A6.out).mono ?_); rintro e w' ⟨rfl, ⟨nd, rfl⟩⟩) | (go_at_call 43; (with_reducible refine (spec_l02Time.calls a0_8 true _ A8.out).mono ?_); rintro e w' ⟨rfl, ⟨nd, rfl⟩⟩) | (go_at_call 44; (with_reducible refine (spec_l02Prev.calls k _ _ l0_7 a0_0 true _ ?side1 HC0_7.out A10.out).mono ?_); (case side1 => exact (cb_ HR0_7.out (a1_ HB.out GE231.out))); rintro e w21 ⟨rfl, hb⟩; replace BK231 := Aside0.mk (blk_below (g := gb231) (o := .cells #[.int .i64 a0_0, .int .i64 a0_1, .int .i64 a0_2, .int .i64 a0_3, .int .i64 a0_4, .int .i64 a0_5, .string a0_6, .slice A0_7 l0_7.length c0_7, .int .i64 a0_8] 25 (0, 0)) (a13_ BK231.out) hb); replace HB := Aside0.mk (below_step (a1_ HB.out GE231.out) hb); (try clear hb); (try clear hb2); (try clear hk); (try clear hi); obtain ⟨⟨hcz22_0, hcz22_1, hcz22_2, hcz22_3, hcz22_4, hcz22_5, hcz22_6, hcz22_7, hcz22_8⟩, hfz22_0, hfz22_1, hfz22_2, hfz22_3, hfz22_4, hfz22_5, hfz22_6, hfz22_7, hfz22_8⟩ := cells_9 BK231.out))
       go_ret
       exact ⟨a3_, (a1_ HB.out GE231.out)⟩
     ·
      replace c11 := Bool.eq_false_iff.mpr c11; subst c11; rw [if_neg (show ¬ (false = true) by decide)] at H; obtain rfl := Option.some.inj H; go_enter Try.func15, Try.ntmps15; go_wp2_with (first | ((with_reducible refine gate_dst (N := 1) rfl ?_); (try (refine gate_guard (by rfl) ?_; dsimp only)); refine be_ 1 #[.int .i64 a0_0, .int .i64 a0_1, .int .i64 a0_2, .int .i64 a0_3, .int .i64 a0_4, .int .i64 a0_5, .string a0_6, .slice A0_7 l0_7.length c0_7, .int .i64 a0_8] 25 ?_; intro gb231 hg w23 hbox hb; have BK231 := Aside0.mk (hbox); have GW231 := Aside0.mk ((by rw [hg]; exact (below_size (a12_ HB.out)) : w.heap.size ≤ gb231)); replace HB := Aside0.mk (below_step (a12_ HB.out) hb); have GE231 := GW231; clear hb hbox hg; obtain ⟨⟨hcz24_0, hcz24_1, hcz24_2, hcz24_3, hcz24_4, hcz24_5, hcz24_6, hcz24_7, hcz24_8⟩, hfz24_0, hfz24_1, hfz24_2, hfz24_3, hfz24_4, hfz24_5, hfz24_6, hfz24_7, hfz24_8⟩ := cells_9 BK231.out) | ((with_reducible refine gate_callee (f := 40) rfl ?_); refine gl_ (some 5) Try.func40 #[.int .i64 a0_0] ?_; (with_reducible refine (spec_l02Id.calls a0_0 true _ A2.out).mono ?_); rintro e w' ⟨rfl, ⟨nd, rfl⟩⟩; refine ⟨_, rfl, ?_⟩) | (go_at_call 41; (with_reducible refine (spec_l02Is.calls a0_1 1 3 true _ A4.out).mono ?_); rintro e w' ⟨rfl, ⟨nd, rfl⟩⟩) | (go_at_call 42; (with_reducible refine (spec_l02User.calls a0_2 true _ A6.out).mono ?_); rintro e w' ⟨rfl, ⟨nd, rfl⟩⟩) | (go_at_call 43; (with_reducible refine (spec_l02Time.calls a0_8 true _ A8.out).mono ?_); rintro e w' ⟨rfl, ⟨nd, rfl⟩⟩) | (go_at_call 44; (with_reducible refine (spec_l02Prev.calls k _ _ l0_7 a0_0 false _ ?side1 HC0_7.out A10.out).mono ?_); (case side1 => exact (cb_ HR0_7.out (a1_ HB.out GE231.out))); rintro e w25 ⟨rfl, hb⟩; replace BK231 := Aside0.mk (blk_below (g := gb231) (o := .cells #[.int .i64 a0_0, .int .i64 a0_1, .int .i64 a0_2, .int .i64 a0_3, .int .i64 a0_4, .int .i64 a0_5, .string a0_6, .slice A0_7 l0_7.length c0_7, .int .i64 a0_8] 25 (0, 0)) (a13_ BK231.out) hb); replace HB := Aside0.mk (below_step (a1_ HB.out GE231.out) hb); (try clear hb); (try clear hb2); (try clear hk); (try clear hi)))
      go_ret
      exact ⟨a3_, (a1_ HB.out GE231.out)⟩
    ·
     replace c9 := Bool.eq_false_iff.mpr c9; subst c9; rw [if_neg (show ¬ (false = true) by decide)] at H; obtain rfl := Option.some.inj H; go_enter Try.func15, Try.ntmps15; go_wp2_with (first | ((with_reducible refine gate_dst (N := 1) rfl ?_); (try (refine gate_guard (by rfl) ?_; dsimp only)); refine be_ 1 #[.int .i64 a0_0, .int .i64 a0_1, .int .i64 a0_2, .int .i64 a0_3, .int .i64 a0_4, .int .i64 a0_5, .string a0_6, .slice A0_7 l0_7.length c0_7, .int .i64 a0_8] 25 ?_; intro gb231 hg w26 hbox hb; have BK231 := Aside0.mk (hbox); have GW231 := Aside0.mk ((by rw [hg]; exact (below_size (a12_ HB.out)) : w.heap.size ≤ gb231)); replace HB := Aside0.mk (below_step (a12_ HB.out) hb); have GE231 := GW231; clear hb hbox hg; obtain ⟨⟨hcz27_0, hcz27_1, hcz27_2, hcz27_3, hcz27_4, hcz27_5, hcz27_6, hcz27_7, hcz27_8⟩, hfz27_0, hfz27_1, hfz27_2, hfz27_3, hfz27_4, hfz27_5, hfz27_6, hfz27_7, hfz27_8⟩ := cells_9 BK231.out) | ((with_reducible refine gate_callee (f := 40) rfl ?_); refine gl_ (some 5) Try.func40 #[.int .i64 a0_0] ?_; (with_reducible refine (spec_l02Id.calls a0_0 true _ A2.out).mono ?_); rintro e w' ⟨rfl, ⟨nd, rfl⟩⟩; refine ⟨_, rfl, ?_⟩) | (go_at_call 41; (with_reducible refine (spec_l02Is.calls a0_1 1 3 true _ A4.out).mono ?_); rintro e w' ⟨rfl, ⟨nd, rfl⟩⟩) | (go_at_call 42; (with_reducible refine (spec_l02User.calls a0_2 true _ A6.out).mono ?_); rintro e w' ⟨rfl, ⟨nd, rfl⟩⟩) | (go_at_call 43; (with_reducible refine (spec_l02Time.calls a0_8 false _ A8.out).mono ?_); rintro e w' ⟨rfl, ⟨nd, rfl⟩⟩))
     go_ret
     exact ⟨a3_, (a1_ HB.out GE231.out)⟩
   ·
    replace c7 := Bool.eq_false_iff.mpr c7; subst c7; rw [if_neg (show ¬ (false = true) by decide)] at H; obtain rfl := Option.some.inj H; go_enter Try.func15, Try.ntmps15; go_wp2_with (first | ((with_reducible refine gate_dst (N := 1) rfl ?_); (try (refine gate_guard (by rfl) ?_; dsimp only)); refine be_ 1 #[.int .i64 a0_0, .int .i64 a0_1, .int .i64 a0_2, .int .i64 a0_3, .int .i64 a0_4, .int .i64 a0_5, .string a0_6, .slice A0_7 l0_7.length c0_7, .int .i64 a0_8] 25 ?_; intro gb231 hg w28 hbox hb; have BK231 := Aside0.mk (hbox); have GW231 := Aside0.mk ((by rw [hg]; exact (below_size (a12_ HB.out)) : w.heap.size ≤ gb231)); replace HB := Aside0.mk (below_step (a12_ HB.out) hb); have GE231 := GW231; clear hb hbox hg; obtain ⟨⟨hcz29_0, hcz29_1, hcz29_2, hcz29_3, hcz29_4, hcz29_5, hcz29_6, hcz29_7, hcz29_8⟩, hfz29_0, hfz29_1, hfz29_2, hfz29_3, hfz29_4, hfz29_5, hfz29_6, hfz29_7, hfz29_8⟩ := cells_9 BK231.out) | ((with_reducible refine gate_callee (f := 40) rfl ?_); refine gl_ (some 5) Try.func40 #[.int .i64 a0_0] ?_; (with_reducible refine (spec_l02Id.calls a0_0 true _ A2.out).mono ?_); rintro e w' ⟨rfl, ⟨nd, rfl⟩⟩; refine ⟨_, rfl, ?_⟩) | (go_at_call 41; (with_reducible refine (spec_l02Is.calls a0_1 1 3 true _ A4.out).mono ?_); rintro e w' ⟨rfl, ⟨nd, rfl⟩⟩) | (go_at_call 42; (with_reducible refine (spec_l02User.calls a0_2 false _ A6.out).mono ?_); rintro e w' ⟨rfl, ⟨nd, rfl⟩⟩))
    go_ret
    exact ⟨a3_, (a1_ HB.out GE231.out)⟩
  ·
   replace c5 := Bool.eq_false_iff.mpr c5; subst c5; rw [if_neg (show ¬ (false = true) by decide)] at H; obtain rfl := Option.some.inj H; go_enter Try.func15, Try.ntmps15; go_wp2_with (first | ((with_reducible refine gate_dst (N := 1) rfl ?_); (try (refine gate_guard (by rfl) ?_; dsimp only)); refine be_ 1 #[.int .i64 a0_0, .int .i64 a0_1, .int .i64 a0_2, .int .i64 a0_3, .int .i64 a0_4, .int .i64 a0_5, .string a0_6, .slice A0_7 l0_7.length c0_7, .int .i64 a0_8] 25 ?_; intro gb231 hg w30 hbox hb; have BK231 := Aside0.mk (hbox); have GW231 := Aside0.mk ((by rw [hg]; exact (below_size (a12_ HB.out)) : w.heap.size ≤ gb231)); replace HB := Aside0.mk (below_step (a12_ HB.out) hb); have GE231 := GW231; clear hb hbox hg; obtain ⟨⟨hcz31_0, hcz31_1, hcz31_2, hcz31_3, hcz31_4, hcz31_5, hcz31_6, hcz31_7, hcz31_8⟩, hfz31_0, hfz31_1, hfz31_2, hfz31_3, hfz31_4, hfz31_5, hfz31_6, hfz31_7, hfz31_8⟩ := cells_9 BK231.out) | ((with_reducible refine gate_callee (f := 40) rfl ?_); refine gl_ (some 5) Try.func40 #[.int .i64 a0_0] ?_; (with_reducible refine (spec_l02Id.calls a0_0 true _ A2.out).mono ?_); rintro e w' ⟨rfl, ⟨nd, rfl⟩⟩; refine ⟨_, rfl, ?_⟩) | (go_at_call 41; (with_reducible refine (spec_l02Is.calls a0_1 1 3 false _ A4.out).mono ?_); rintro e w' ⟨rfl, ⟨nd, rfl⟩⟩))
   go_ret
   exact ⟨a3_, (a1_ HB.out GE231.out)⟩
 ·
  replace c3 := Bool.eq_false_iff.mpr c3; subst c3; rw [if_neg (show ¬ (false = true) by decide)] at H; obtain rfl := Option.some.inj H; go_enter Try.func15, Try.ntmps15; go_wp2_with (first | ((with_reducible refine gate_dst (N := 1) rfl ?_); (try (refine gate_guard (by rfl) ?_; dsimp only)); refine be_ 1 #[.int .i64 a0_0, .int .i64 a0_1, .int .i64 a0_2, .int .i64 a0_3, .int .i64 a0_4, .int .i64 a0_5, .string a0_6, .slice A0_7 l0_7.length c0_7, .int .i64 a0_8] 25 ?_; intro gb231 hg w32 hbox hb; have BK231 := Aside0.mk (hbox); have GW231 := Aside0.mk ((by rw [hg]; exact (below_size (a12_ HB.out)) : w.heap.size ≤ gb231)); replace HB := Aside0.mk (below_step (a12_ HB.out) hb); have GE231 := GW231; clear hb hbox hg; obtain ⟨⟨hcz33_0, hcz33_1, hcz33_2, hcz33_3, hcz33_4, hcz33_5, hcz33_6, hcz33_7, hcz33_8⟩, hfz33_0, hfz33_1, hfz33_2, hfz33_3, hfz33_4, hfz33_5, hfz33_6, hfz33_7, hfz33_8⟩ := cells_9 BK231.out) | ((with_reducible refine gate_callee (f := 40) rfl ?_); refine gl_ (some 5) Try.func40 #[.int .i64 a0_0] ?_; (with_reducible refine (spec_l02Id.calls a0_0 false _ A2.out).mono ?_); rintro e w' ⟨rfl, ⟨nd, rfl⟩⟩; refine ⟨_, rfl, ?_⟩))
  go_ret
  exact ⟨a3_, (a1_ HB.out GE231.out)⟩

/-! ### spec_l01Four: function 51 -/
def spec_l01Four.f (a0 : Int) : Option (ByteArray) := some (strOfNums (([(a0) % 256, (a0 / 256) % 256, (a0 / 65536) % 256, (a0 / 16777216) % 256] : List Int)))
theorem spec_l01Four.calls (a0 : Int) (r : ByteArray) (w : World) (h : spec_l01Four.f a0 = some r) :
    Calls Try.prog 51 #[.int .i64 a0] w fun e w' => e = .returned (.string r) ∧ Below w.heap.size w w' := by
 have HB := Aside0.mk (Below.refl w.heap.size w); have H : (some (strOfNums (([(a0) % 256, (a0 / 256) % 256, (a0 / 65536) % 256, (a0 / 16777216) % 256] : List Int)))) = some r := h; clear h; obtain ⟨y238, hy238⟩ : ∃ y_ : List Int, y_ = (([(a0) % 256, (a0 / 256) % 256, (a0 / 65536) % 256, (a0 / 16777216) % 256] : List Int)) := ⟨_, rfl⟩; replace H : (some (strOfNums y238)) = some r := by first | (rw [hy238]; exact H) | exact H
 have Ny238 := Aside0.mk hy238; clear hy238; obtain rfl := Option.some.inj H; go_enter Try.func51, Try.ntmps51; go_wp2_with (first | ((with_reducible refine gate_dst (N := 14) rfl ?_); refine Kd.R_lit (Kd.int .u8) _ 5 ?hg (N := 14) ?hd (xs := ([(a0) % 256, (a0 / 256) % 256, (a0 / 65536) % 256, (a0 / 16777216) % 256] : List Int)) (inner := [.int .u8 ((a0) % 256), .int .u8 ((a0 / 256) % 256), .int .u8 ((a0 / 65536) % 256), .int .u8 ((a0 / 16777216) % 256)]) (ok := fun _ => True) (okp := fun _ => True) ?hr ?hp (fun _ hk => hk) trivial (Below.refl _ _) (Nat.le_refl _) (by simp) ?_; (case hd => rfl); (case hg => rfl); (case hr => first | (go_simp; done) | (go_simp; rfl)); (case hp => exact (Reps.one (show Kd.M (Kd.int .u8) _ _ _ ((a0) % 256) [.int .u8 ((a0) % 256)] from rfl) (Reps.one (show Kd.M (Kd.int .u8) _ _ _ ((a0 / 256) % 256) [.int .u8 ((a0 / 256) % 256)] from rfl) (Reps.one (show Kd.M (Kd.int .u8) _ _ _ ((a0 / 65536) % 256) [.int .u8 ((a0 / 65536) % 256)] from rfl) (Reps.one (show Kd.M (Kd.int .u8) _ _ _ ((a0 / 16777216) % 256) [.int .u8 ((a0 / 16777216) % 256)] from rfl) (Reps.none _ _)))))); intro v239 w2 ho3 hb hg_ hnew_; clear hg_ hnew_; (first | rw [← Ny238.out] at ho3 | (simp only [Int.reduceToNat] at ho3; rw [← Ny238.out] at ho3)); have HO240 := Aside0.mk (Kd.R_lower ho3 (below_size HB.out)); replace HB := Aside0.mk (below_step HB.out hb); clear hb ho3; have hcv4 := own_string (P := Try.prog) Try.underlying22 Try.underlying5 Try.underlying9 (Kd.own_of_R HO240.out)))
 go_ret
 exact ⟨a3_, (a12_ HB.out)⟩

/-! ### spec_l01Crc: function 52 -/
mutual
def spec_l01Crc.l0 : Nat → ByteArray → Int → Int → Option (Int)
  | 0, _, _, _ => none
  | k + 1, x1, x5, x6 => if x6 < (x1.size : Int) then (if 0 ≤ x6 then (spec_l01Crc.l1 k x1 (Go.bits .xor .u32 x5 ((bt x1 x6) % 4294967296)) x6 0) else (none)) else (some (wrap64 (Go.bits .xor .u32 x5 4294967295)))
def spec_l01Crc.l1 : Nat → ByteArray → Int → Int → Int → Option (Int)
  | 0, _, _, _, _ => none
  | k + 1, x1, x5, x6, x7 => if x7 < 8 then (if (Go.bits .and .u32 x5 1) = 1 then (spec_l01Crc.l1 k x1 (Go.bits .xor .u32 (x5 / 2) 3988292384) x6 (wrap64 (x7 + 1))) else (spec_l01Crc.l1 k x1 (x5 / 2) x6 (wrap64 (x7 + 1)))) else (spec_l01Crc.l0 k x1 x5 (wrap64 (x6 + 1)))
end
def spec_l01Crc.f (k : Nat) (a0 : Int) (a1 : ByteArray) : Option (Int) := spec_l01Crc.l0 k a1 (Go.bits .xor .u32 ((a0) % 4294967296) 4294967295) 0
theorem spec_l01Crc.mono_l : ∀ k, (∀ y0 y1 y2, LeO (spec_l01Crc.l0 k y0 y1 y2) (spec_l01Crc.l0 (k + 1) y0 y1 y2)) ∧ (∀ y0 y1 y2 y3, LeO (spec_l01Crc.l1 k y0 y1 y2 y3) (spec_l01Crc.l1 (k + 1) y0 y1 y2 y3))
  | 0 => ⟨fun _ _ _ r h => by simp [spec_l01Crc.l0] at h, fun _ _ _ _ r h => by simp [spec_l01Crc.l1] at h⟩
  | k + 1 => by
    obtain ⟨ih0, ih1⟩ := spec_l01Crc.mono_l k
    refine ⟨?_, ?_⟩
    (intro y0 y1 y2; unfold spec_l01Crc.l0); rotate_left
    (intro y0 y1 y2 y3; unfold spec_l01Crc.l1); rotate_left
    all_goals (repeat' first | (with_reducible exact ih0 _ _ _) | (with_reducible exact ih1 _ _ _ _) | (with_reducible exact LeO.refl _) | (with_reducible exact LeO.none _) | (with_reducible refine LeO.ite ?_ ?_) | (with_reducible refine LeO.bind ?_ (fun _ => ?_)) | exact ih0 _ _ _ | exact ih1 _ _ _ _ | exact LeO.none _ | refine LeO.ite ?_ ?_ | refine LeO.bind ?_ (fun _ => ?_))
theorem spec_l01Crc.mono : ∀ a0 a1 k, LeO (spec_l01Crc.f k a0 a1) (spec_l01Crc.f (k + 1) a0 a1) := by
  intro a0 a1 k
  obtain ⟨ih0, ih1⟩ := spec_l01Crc.mono_l k
  unfold spec_l01Crc.f
  repeat' first | (with_reducible exact ih0 _ _ _) | (with_reducible exact ih1 _ _ _ _) | (with_reducible exact LeO.refl _) | (with_reducible exact LeO.none _) | (with_reducible refine LeO.ite ?_ ?_) | (with_reducible refine LeO.bind ?_ (fun _ => ?_)) | exact ih0 _ _ _ | exact ih1 _ _ _ _ | exact LeO.none _ | refine LeO.ite ?_ ?_ | refine LeO.bind ?_ (fun _ => ?_)
theorem spec_l01Crc.calls (k : Nat) (a0 : Int) (a1 : ByteArray) (r : Int) (w : World) (h : spec_l01Crc.f k a0 a1 = some r) :
    Calls Try.prog 52 #[.int .i64 a0, .string a1] w fun e w' => e = .returned (.int .i64 r) ∧ Drawn0 w w' := by
 have H : (spec_l01Crc.l0 k a1 (Go.bits .xor .u32 ((a0) % 4294967296) 4294967295) 0) = some r := h; clear h; have H' := Aside0.mk H; clear H; go_enter Try.func52, Try.ntmps52; go_wp2
 go_loopg [5, 6] k (fun kq v5 v6 w' => ∃ (x5_1 : Int) (x6_1 : Int), v5 = .int .u32 x5_1 ∧ v6 = .int .i64 x6_1 ∧ Aside0 (spec_l01Crc.l0 kq a1 x5_1 x6_1 = some r) ∧ Aside0 (kq ≤ k) ∧ Drawn0 w w')
 case atStart => exact ⟨(Go.bits .xor .u32 ((a0) % 4294967296) 4294967295), (0), (by first | rfl | (simp; done) | (simp [*]; done)), (by first | rfl | (simp; done) | (simp [*]; done)), H', ⟨Nat.le_refl _⟩, by repeat (first | exact Drawn0.refl _ | apply Drawn0.step)⟩
 case round =>
  clear H'; (try clear p2); obtain ⟨x5_1, x6_1, rfl, rfl, HA, HK1, ⟨m1, rfl⟩⟩ := hrel
  cases gk with
  | zero => exact absurd HA.out (by simp [spec_l01Crc.l0])
  | succ k1 =>
   have H := HA.out; clear HA; simp only [spec_l01Crc.l0] at H; by_cases c3 : x6_1 < (a1.size : Int)
   ·
    rw [if_pos c3] at H; have c3b0 : decide (x6_1 < (a1.size : Int)) = true := decide_eq_true c3; clear c3; by_cases c4 : 0 ≤ x6_1
    ·
     rw [if_pos c4] at H; have c4b0 : decide (0 ≤ x6_1) = true := decide_eq_true c4; clear c4; have H' := Aside0.mk H; clear H; have p5 : 0 ≤ (x6_1 : Int) := d_; have q5 : x6_1 < (a1.size : Int) := d_; have hx5 := bt_at a1 x6_1; replace p5 := eq_true p5; replace q5 := eq_true q5; go_wp2
     go_loopg [5, 7] k1 (fun kq v5 v7 w' => ∃ (x5_2 : Int) (x7_2 : Int), v5 = .int .u32 x5_2 ∧ v7 = .int .i64 x7_2 ∧ Aside0 (spec_l01Crc.l1 kq a1 x5_2 x6_1 x7_2 = some r) ∧ Aside0 (kq ≤ k1) ∧ Drawn0 w w')
     case atStart => exact ⟨(Go.bits .xor .u32 x5_1 ((bt a1 x6_1) % 4294967296)), (0), (by first | rfl | (simp; done) | (simp [*]; done)), (by first | rfl | (simp; done) | (simp [*]; done)), H', ⟨Nat.le_refl _⟩, by repeat (first | exact Drawn0.refl _ | apply Drawn0.step)⟩
     case round =>
      clear H'; (try clear p2); (try clear c3); (try clear c3b0); (try clear c4); (try clear c4b0); (try clear c5); (try clear p5); (try clear q5); (try clear hx5); (try clear p2); (try clear p5); (try clear q5); obtain ⟨x5_2, x7_2, rfl, rfl, HA, HK2, ⟨m2, rfl⟩⟩ := hrel
      cases gk with
      | zero => exact absurd HA.out (by simp [spec_l01Crc.l1])
      | succ k2 =>
       have H := HA.out; clear HA; simp only [spec_l01Crc.l1] at H; by_cases c6 : x7_2 < 8
       ·
        rw [if_pos c6] at H; have c6b0 : decide (x7_2 < 8) = true := decide_eq_true c6; clear c6; by_cases c7 : (Go.bits .and .u32 x5_2 1) = 1
        ·
         rw [if_pos c7] at H; have c7b0 : ((Go.bits .and .u32 x5_2 1) == 1) = true := beq_iff_eq.mpr c7; have c7b1 : ((Go.bits .and .u32 x5_2 1) != 1) = false := bne_eq_false_iff_eq.mpr c7; clear c7; have H' := Aside0.mk H; clear H; go_wp2
         go_roundg k2
         case measure => have := HK1.out; have := HK2.out; omega
         case rel => exact ⟨(Go.bits .xor .u32 (x5_2 / 2) 3988292384), (wrap64 (x7_2 + 1)), (by first | rfl | (simp; done) | (simp [*]; done)), (by first | rfl | (simp; done) | (simp [*]; done)), H', ⟨by have := HK1.out; have := HK2.out; omega⟩, by repeat (first | exact Drawn0.refl _ | apply Drawn0.step)⟩
        ·
         rw [if_neg c7] at H; have c7b0 : ((Go.bits .and .u32 x5_2 1) == 1) = false := beq_eq_false_iff_ne.mpr c7; have c7b1 : ((Go.bits .and .u32 x5_2 1) != 1) = true := bne_iff_ne.mpr c7; have H' := Aside0.mk H; clear H; go_wp2
         go_roundg k2
         case measure => have := HK1.out; have := HK2.out; omega
         case rel => exact ⟨(x5_2 / 2), (wrap64 (x7_2 + 1)), (by first | rfl | (simp; done) | (simp [*]; done)), (by first | rfl | (simp; done) | (simp [*]; done)), H', ⟨by have := HK1.out; have := HK2.out; omega⟩, by repeat (first | exact Drawn0.refl _ | apply Drawn0.step)⟩
       ·
        rw [if_neg c6] at H; have c6b0 : decide (x7_2 < 8) = false := decide_eq_false c6; clear c6; have H' := Aside0.mk H; clear H; go_wp2
        go_roundg k2
        case measure => have := HK1.out; have := HK2.out; omega
        case rel => exact ⟨(x5_2), (wrap64 (x6_1 + 1)), (by first | rfl | (simp; done) | (simp [*]; done)), (by first | rfl | (simp; done) | (simp [*]; done)), H', ⟨by have := HK1.out; have := HK2.out; omega⟩, by repeat (first | exact Drawn0.refl _ | apply Drawn0.step)⟩
    ·
     rw [if_neg c4] at H; exact absurd H (by simp)
   ·
    rw [if_neg c3] at H; have c3b0 : decide (x6_1 < (a1.size : Int)) = false := decide_eq_false c3; clear c3; obtain rfl := Option.some.inj H; go_wp2
    go_ret
    exact ⟨by first | rfl | (simp; done) | (simp [*]; done), by repeat (first | exact Drawn0.refl _ | apply Drawn0.step)⟩

/-! ### spec_Seal: function 26 -/
def spec_Seal.f (k : Nat) (a0 : ByteArray) : Option (ByteArray) := if (a0.size : Int) > 7996 then (some (⟨#[]⟩ : ByteArray)) else ((spec_l01Crc.f k 0 a0).bind fun t241 => ((spec_l01Four.f t241).bind fun t242 => (if a0.size + t242.size ≤ 9223372036854775807 then (some (a0 ++ t242)) else (none))))
theorem spec_Seal.mono : ∀ a0 k, LeO (spec_Seal.f k a0) (spec_Seal.f (k + 1) a0) := by
  intro a0 k
  unfold spec_Seal.f
  repeat' first | (with_reducible exact spec_l01Crc.mono _ _ _) | (with_reducible exact LeO.refl _) | (with_reducible exact LeO.none _) | (with_reducible refine LeO.ite ?_ ?_) | (with_reducible refine LeO.bind ?_ (fun _ => ?_)) | exact spec_l01Crc.mono _ _ _ | exact LeO.none _ | refine LeO.ite ?_ ?_ | refine LeO.bind ?_ (fun _ => ?_)
theorem spec_Seal.calls (k : Nat) (a0 : ByteArray) (r : ByteArray) (w : World) (h : spec_Seal.f k a0 = some r) :
    Calls Try.prog 26 #[.string a0] w fun e w' => e = .returned (.string r) ∧ Below w.heap.size w w' := by
 have HB := Aside0.mk (Below.refl w.heap.size w); have H : (if (a0.size : Int) > 7996 then (some (⟨#[]⟩ : ByteArray)) else ((spec_l01Crc.f k 0 a0).bind fun t241 => ((spec_l01Four.f t241).bind fun t242 => (if a0.size + t242.size ≤ 9223372036854775807 then (some (a0 ++ t242)) else (none))))) = some r := h; clear h; by_cases c2 : (a0.size : Int) > 7996
 ·
  rw [if_pos c2] at H; have c2b0 : decide (7996 < (a0.size : Int)) = true := decide_eq_true c2; have c2b1 : decide (7996 < a0.size) = true := decide_eq_true (by omega); clear c2; obtain rfl := Option.some.inj H; go_enter Try.func26, Try.ntmps26; go_wp2
  go_ret
  exact ⟨a3_, (a12_ HB.out)⟩
 ·
  rw [if_neg c2] at H; have c2b0 : decide (7996 < (a0.size : Int)) = false := decide_eq_false c2; have c2b1 : decide (7996 < a0.size) = false := decide_eq_false (by omega); clear c2; replace H := Option.bind_eq_some_iff.mp H; obtain ⟨t241, A30, H⟩ := H; have A3 := Aside0.mk A30; clear A30; replace H := Option.bind_eq_some_iff.mp H; obtain ⟨t242, A40, H⟩ := H; have A4 := Aside0.mk A40; clear A40; by_cases c5 : a0.size + t242.size ≤ 9223372036854775807
  ·
   rw [if_pos c5] at H; have c5b0 := eq_true c5; have c5b1 : decide (a0.size + t242.size ≤ 9223372036854775807) = true := decide_eq_true c5; try have c5b2 : (9223372036854775807 < a0.size + t242.size) = False := eq_false (Nat.not_lt.2 c5)
   obtain rfl := Option.some.inj H; go_enter Try.func26, Try.ntmps26; go_wp2_with (first | ((with_reducible refine gate_callee (f := 52) rfl ?_); refine gl_ (some 8) Try.func52 #[.int .i64 0, .string a0] ?_; (with_reducible refine (spec_l01Crc.calls k 0 a0 t241 _ A3.out).mono ?_); rintro e w' ⟨rfl, ⟨nd, rfl⟩⟩; refine ⟨_, rfl, ?_⟩) | ((with_reducible refine gate_callee (f := 51) rfl ?_); refine gl_ (some 9) Try.func51 #[.int .i64 t241] ?_; (with_reducible refine (spec_l01Four.calls t241 t242 _ A4.out).mono ?_); rintro e w6 ⟨rfl, hb⟩; refine ⟨_, rfl, ?_⟩; replace HB := Aside0.mk (below_step (a12_ HB.out) hb); (try clear hb); (try clear hb2); (try clear hk); (try clear hi)))
   go_ret
   exact ⟨a3_, (a12_ HB.out)⟩
  ·
   rw [if_neg c5] at H; exact absurd H (by simp)

end Go.Proofs.Yteimdbmfgojioaa.Print
