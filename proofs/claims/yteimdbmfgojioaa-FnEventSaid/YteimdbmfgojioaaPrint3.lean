-- Printed by wip/myprint.py over the kit's print, in this session's own call.
import Derived.Test.YteimdbmfgojioaaPrint2
namespace Go.Proofs.Yteimdbmfgojioaa.Print
open Go.RowKit Go.Proofs.YteimdbmfgojioaaW.PrintWords Go.Proofs.YteimdbmfgojioaaW.PrintLast Go.Proofs.YteimdbmfgojioaaW.PrintMore
attribute [local go_sem] max2_int min2_int max_two min_two max_three min_three max_four min_four   -- for this text's walks alone
set_option maxHeartbeats 8000000
set_option maxRecDepth 100000
set_option linter.unusedVariables false
set_option linter.unusedSimpArgs false

/-! ### impl_Event_fieldsRight: function 65 -/
def impl_Event_fieldsRight.f (a0_0 : Int) (a0_1 : Int) (a0_2 : Int) (a0_3 : Int) (a0_4 : Int) (a0_5 : Int) (a0_6 : ByteArray) (l0_7 : List Int) (a0_8 : Int) : Option (Bool) := if a0_3 = 1 then (if a0_4 = 0 then (if a0_5 = 0 then (some ((a0_6.size : Int) == 0)) else (some false)) else (some false)) else (if a0_3 = 2 then ((impl_isUser.f a0_4).bind fun t141 => (if t141 = true then ((impl_in.f a0_5 1 4).bind fun t142 => (if t142 = true then (some ((a0_6.size : Int) == 0)) else (some false))) else (some false))) else (if a0_3 = 3 then ((impl_isUser.f a0_4).bind fun t143 => (if t143 = true then ((impl_in.f a0_5 0 100).bind fun t144 => (if t144 = true then (some ((a0_6.size : Int) == 0)) else (some false))) else (some false))) else (if a0_3 = 4 then (if a0_4 = 0 then (if a0_5 = 0 then (some (decide ((a0_6.size : Int) ≤ 30))) else (some false)) else (some false)) else (if a0_3 = 5 then (if a0_4 = 0 then ((impl_in.f a0_5 1 2).bind fun t145 => (if t145 = true then (some ((a0_6.size : Int) == 0)) else (some false))) else (some false)) else (if a0_3 = 6 then (if a0_4 = 0 then ((impl_in.f a0_5 1 3).bind fun t146 => (if t146 = true then (some ((a0_6.size : Int) == 0)) else (some false))) else (some false)) else (if a0_3 = 7 then (if a0_4 = 0 then (if a0_5 = 0 then ((impl_in.f (a0_6.size : Int) 1 30).bind fun t147 => (some t147)) else (some false)) else (some false)) else (if a0_3 = 8 then ((impl_isId.f a0_4).bind fun t148 => (if t148 = true then (if a0_5 = 0 then (some ((a0_6.size : Int) == 0)) else (some false)) else (some false))) else (some false))))))))
theorem impl_Event_fieldsRight.calls (a0_0 : Int) (a0_1 : Int) (a0_2 : Int) (a0_3 : Int) (a0_4 : Int) (a0_5 : Int) (a0_6 : ByteArray) (A0_7 : Option Addr) (c0_7 : Nat) (l0_7 : List Int) (a0_8 : Int) (r : Bool) (w : World) (hr0_7 : Kd.C (Kd.int .i64) w A0_7 l0_7.length l0_7) (hc0_7 : l0_7.length ≤ c0_7) (h : impl_Event_fieldsRight.f a0_0 a0_1 a0_2 a0_3 a0_4 a0_5 a0_6 l0_7 a0_8 = some r) :
    Calls Try.prog 65 #[.agg #[.int .i64 a0_0, .int .i64 a0_1, .int .i64 a0_2, .int .i64 a0_3, .int .i64 a0_4, .int .i64 a0_5, .string a0_6, .slice A0_7 l0_7.length c0_7, .int .i64 a0_8]] w fun e w' => e = .returned (.bool r) ∧ Below w.heap.size w w' := by
 have hu25 := Try.underlying25; have HR0_7 := Aside0.mk hr0_7; have HC0_7 := Aside0.mk hc0_7; clear hr0_7 hc0_7; have HB := Aside0.mk (Below.refl w.heap.size w); have H : (if a0_3 = 1 then (if a0_4 = 0 then (if a0_5 = 0 then (some ((a0_6.size : Int) == 0)) else (some false)) else (some false)) else (if a0_3 = 2 then ((impl_isUser.f a0_4).bind fun t141 => (if t141 = true then ((impl_in.f a0_5 1 4).bind fun t142 => (if t142 = true then (some ((a0_6.size : Int) == 0)) else (some false))) else (some false))) else (if a0_3 = 3 then ((impl_isUser.f a0_4).bind fun t143 => (if t143 = true then ((impl_in.f a0_5 0 100).bind fun t144 => (if t144 = true then (some ((a0_6.size : Int) == 0)) else (some false))) else (some false))) else (if a0_3 = 4 then (if a0_4 = 0 then (if a0_5 = 0 then (some (decide ((a0_6.size : Int) ≤ 30))) else (some false)) else (some false)) else (if a0_3 = 5 then (if a0_4 = 0 then ((impl_in.f a0_5 1 2).bind fun t145 => (if t145 = true then (some ((a0_6.size : Int) == 0)) else (some false))) else (some false)) else (if a0_3 = 6 then (if a0_4 = 0 then ((impl_in.f a0_5 1 3).bind fun t146 => (if t146 = true then (some ((a0_6.size : Int) == 0)) else (some false))) else (some false)) else (if a0_3 = 7 then (if a0_4 = 0 then (if a0_5 = 0 then ((impl_in.f (a0_6.size : Int) 1 30).bind fun t147 => (some t147)) else (some false)) else (some false)) else (if a0_3 = 8 then ((impl_isId.f a0_4).bind fun t148 => (if t148 = true then (if a0_5 = 0 then (some ((a0_6.size : Int) == 0)) else (some false)) else (some false))) else (some false))))))))) = some r := h
 clear h; go_enter Try.func65, Try.ntmps65; go_upto_if 17 with (first | ((with_reducible refine gate_dst (N := 1) rfl ?_); refine be_ 1 #[.int .i64 a0_0, .int .i64 a0_1, .int .i64 a0_2, .int .i64 a0_3, .int .i64 a0_4, .int .i64 a0_5, .string a0_6, .slice A0_7 l0_7.length c0_7, .int .i64 a0_8] 25 ?_; intro gb140 hg w5 hbox hb; have BK140 := Aside0.mk (hbox); have GW140 := Aside0.mk ((by rw [hg]; exact (below_size (a12_ HB.out)) : w.heap.size ≤ gb140)); replace HB := Aside0.mk (below_step (a12_ HB.out) hb); have GE140 := GW140; clear hb hbox hg; obtain ⟨⟨hcz6_0, hcz6_1, hcz6_2, hcz6_3, hcz6_4, hcz6_5, hcz6_6, hcz6_7, hcz6_8⟩, hfz6_0, hfz6_1, hfz6_2, hfz6_3, hfz6_4, hfz6_5, hfz6_6, hfz6_7, hfz6_8⟩ := cells_9 BK140.out))
 by_cases c2 : a0_3 = 1
 ·
  rw [if_pos c2] at H; have c2b0 : (a0_3 == 1) = true := beq_iff_eq.mpr c2; have c2b1 : (a0_3 != 1) = false := bne_eq_false_iff_eq.mpr c2; clear c2; (try simp only [c2b0, Bool.not_true, Bool.not_false])
  (try simp only [c2b1, Bool.not_true, Bool.not_false])
  by_cases c3 : a0_4 = 0
  ·
   rw [if_pos c3] at H; have c3b0 : (a0_4 == 0) = true := beq_iff_eq.mpr c3; have c3b1 : (a0_4 != 0) = false := bne_eq_false_iff_eq.mpr c3; clear c3; by_cases c4 : a0_5 = 0
   ·
    rw [if_pos c4] at H; have c4b0 : (a0_5 == 0) = true := beq_iff_eq.mpr c4; have c4b1 : (a0_5 != 0) = false := bne_eq_false_iff_eq.mpr c4; clear c4; obtain rfl := Option.some.inj H; go_wp2
    repeat (go_quiet (fail); try go_wp2)
    go_ret
    exact ⟨a3_, (a1_ HB.out GE140.out)⟩
   ·
    rw [if_neg c4] at H; have c4b0 : (a0_5 == 0) = false := beq_eq_false_iff_ne.mpr c4; have c4b1 : (a0_5 != 0) = true := bne_iff_ne.mpr c4; obtain rfl := Option.some.inj H; go_wp2
    repeat (go_quiet (fail); try go_wp2)
    go_ret
    exact ⟨a3_, (a1_ HB.out GE140.out)⟩
  ·
   rw [if_neg c3] at H; have c3b0 : (a0_4 == 0) = false := beq_eq_false_iff_ne.mpr c3; have c3b1 : (a0_4 != 0) = true := bne_iff_ne.mpr c3; obtain rfl := Option.some.inj H; go_wp2
   repeat (go_quiet (fail); try go_wp2)
   go_ret
   exact ⟨a3_, (a1_ HB.out GE140.out)⟩
 ·
  rw [if_neg c2] at H; have c2b0 : (a0_3 == 1) = false := beq_eq_false_iff_ne.mpr c2; have c2b1 : (a0_3 != 1) = true := bne_iff_ne.mpr c2; (try simp only [c2b0, Bool.not_true, Bool.not_false])
  (try simp only [c2b1, Bool.not_true, Bool.not_false])
  by_cases c11 : a0_3 = 2
  ·
   rw [if_pos c11] at H; have c11b0 : (a0_3 == 2) = true := beq_iff_eq.mpr c11; have c11b1 : (a0_3 != 2) = false := bne_eq_false_iff_eq.mpr c11; clear c11; replace H := Option.bind_eq_some_iff.mp H; obtain ⟨t141, A120, H⟩ := H; have A12 := Aside0.mk A120; clear A120; by_cases c13 : t141 = true
   ·
    subst c13; rw [if_pos rfl] at H; replace H := Option.bind_eq_some_iff.mp H; obtain ⟨t142, A140, H⟩ := H; have A14 := Aside0.mk A140; clear A140; by_cases c15 : t142 = true
    ·
     subst c15; rw [if_pos rfl] at H; obtain rfl := Option.some.inj H; go_wp2_with (first | (go_at_call 61; (with_reducible refine (impl_isUser.calls a0_4 true _ A12.out).mono ?_); rintro e w' ⟨rfl, ⟨nd, rfl⟩⟩; (try exact dd_)) | (go_at_call 46; (with_reducible refine (impl_in.calls a0_5 1 4 true _ A14.out).mono ?_); rintro e w' ⟨rfl, ⟨nd, rfl⟩⟩; (try exact dd_)))
     repeat (go_quiet (first | (go_at_call 61; (with_reducible refine (impl_isUser.calls a0_4 true _ A12.out).mono ?_); rintro e w' ⟨rfl, ⟨nd, rfl⟩⟩; (try exact dd_)) | (go_at_call 46; (with_reducible refine (impl_in.calls a0_5 1 4 true _ A14.out).mono ?_); rintro e w' ⟨rfl, ⟨nd, rfl⟩⟩; (try exact dd_))); try go_wp2_with (first | (go_at_call 61; (with_reducible refine (impl_isUser.calls a0_4 true _ A12.out).mono ?_); rintro e w' ⟨rfl, ⟨nd, rfl⟩⟩; (try exact dd_)) | (go_at_call 46; (with_reducible refine (impl_in.calls a0_5 1 4 true _ A14.out).mono ?_); rintro e w' ⟨rfl, ⟨nd, rfl⟩⟩; (try exact dd_))))
     go_ret
     exact ⟨a3_, (a1_ HB.out GE140.out)⟩
    ·
     replace c15 := Bool.eq_false_iff.mpr c15; subst c15; rw [if_neg (show ¬ (false = true) by decide)] at H; obtain rfl := Option.some.inj H; go_wp2_with (first | (go_at_call 61; (with_reducible refine (impl_isUser.calls a0_4 true _ A12.out).mono ?_); rintro e w' ⟨rfl, ⟨nd, rfl⟩⟩; (try exact dd_)) | (go_at_call 46; (with_reducible refine (impl_in.calls a0_5 1 4 false _ A14.out).mono ?_); rintro e w' ⟨rfl, ⟨nd, rfl⟩⟩; (try exact dd_)))
     repeat (go_quiet (first | (go_at_call 61; (with_reducible refine (impl_isUser.calls a0_4 true _ A12.out).mono ?_); rintro e w' ⟨rfl, ⟨nd, rfl⟩⟩; (try exact dd_)) | (go_at_call 46; (with_reducible refine (impl_in.calls a0_5 1 4 false _ A14.out).mono ?_); rintro e w' ⟨rfl, ⟨nd, rfl⟩⟩; (try exact dd_))); try go_wp2_with (first | (go_at_call 61; (with_reducible refine (impl_isUser.calls a0_4 true _ A12.out).mono ?_); rintro e w' ⟨rfl, ⟨nd, rfl⟩⟩; (try exact dd_)) | (go_at_call 46; (with_reducible refine (impl_in.calls a0_5 1 4 false _ A14.out).mono ?_); rintro e w' ⟨rfl, ⟨nd, rfl⟩⟩; (try exact dd_))))
     go_ret
     exact ⟨a3_, (a1_ HB.out GE140.out)⟩
   ·
    replace c13 := Bool.eq_false_iff.mpr c13; subst c13; rw [if_neg (show ¬ (false = true) by decide)] at H; obtain rfl := Option.some.inj H; go_wp2_with (first | (go_at_call 61; (with_reducible refine (impl_isUser.calls a0_4 false _ A12.out).mono ?_); rintro e w' ⟨rfl, ⟨nd, rfl⟩⟩; (try exact dd_)))
    repeat (go_quiet (first | (go_at_call 61; (with_reducible refine (impl_isUser.calls a0_4 false _ A12.out).mono ?_); rintro e w' ⟨rfl, ⟨nd, rfl⟩⟩; (try exact dd_))); try go_wp2_with (first | (go_at_call 61; (with_reducible refine (impl_isUser.calls a0_4 false _ A12.out).mono ?_); rintro e w' ⟨rfl, ⟨nd, rfl⟩⟩; (try exact dd_))))
    go_ret
    exact ⟨a3_, (a1_ HB.out GE140.out)⟩
  ·
   rw [if_neg c11] at H; have c11b0 : (a0_3 == 2) = false := beq_eq_false_iff_ne.mpr c11; have c11b1 : (a0_3 != 2) = true := bne_iff_ne.mpr c11; by_cases c22 : a0_3 = 3
   ·
    rw [if_pos c22] at H; have c22b0 : (a0_3 == 3) = true := beq_iff_eq.mpr c22; have c22b1 : (a0_3 != 3) = false := bne_eq_false_iff_eq.mpr c22; clear c22; replace H := Option.bind_eq_some_iff.mp H; obtain ⟨t143, A230, H⟩ := H; have A23 := Aside0.mk A230; clear A230; by_cases c24 : t143 = true
    ·
     subst c24; rw [if_pos rfl] at H; replace H := Option.bind_eq_some_iff.mp H; obtain ⟨t144, A250, H⟩ := H; have A25 := Aside0.mk A250; clear A250; by_cases c26 : t144 = true
     ·
      subst c26; rw [if_pos rfl] at H; obtain rfl := Option.some.inj H; go_wp2_with (first | (go_at_call 61; (with_reducible refine (impl_isUser.calls a0_4 true _ A23.out).mono ?_); rintro e w' ⟨rfl, ⟨nd, rfl⟩⟩; (try exact dd_)) | (go_at_call 46; (with_reducible refine (impl_in.calls a0_5 0 100 true _ A25.out).mono ?_); rintro e w' ⟨rfl, ⟨nd, rfl⟩⟩; (try exact dd_)))
      repeat (go_quiet (first | (go_at_call 61; (with_reducible refine (impl_isUser.calls a0_4 true _ A23.out).mono ?_); rintro e w' ⟨rfl, ⟨nd, rfl⟩⟩; (try exact dd_)) | (go_at_call 46; (with_reducible refine (impl_in.calls a0_5 0 100 true _ A25.out).mono ?_); rintro e w' ⟨rfl, ⟨nd, rfl⟩⟩; (try exact dd_))); try go_wp2_with (first | (go_at_call 61; (with_reducible refine (impl_isUser.calls a0_4 true _ A23.out).mono ?_); rintro e w' ⟨rfl, ⟨nd, rfl⟩⟩; (try exact dd_)) | (go_at_call 46; (with_reducible refine (impl_in.calls a0_5 0 100 true _ A25.out).mono ?_); rintro e w' ⟨rfl, ⟨nd, rfl⟩⟩; (try exact dd_))))
      go_ret
      exact ⟨a3_, (a1_ HB.out GE140.out)⟩
     ·
      replace c26 := Bool.eq_false_iff.mpr c26; subst c26; rw [if_neg (show ¬ (false = true) by decide)] at H; obtain rfl := Option.some.inj H; go_wp2_with (first | (go_at_call 61; (with_reducible refine (impl_isUser.calls a0_4 true _ A23.out).mono ?_); rintro e w' ⟨rfl, ⟨nd, rfl⟩⟩; (try exact dd_)) | (go_at_call 46; (with_reducible refine (impl_in.calls a0_5 0 100 false _ A25.out).mono ?_); rintro e w' ⟨rfl, ⟨nd, rfl⟩⟩; (try exact dd_)))
      repeat (go_quiet (first | (go_at_call 61; (with_reducible refine (impl_isUser.calls a0_4 true _ A23.out).mono ?_); rintro e w' ⟨rfl, ⟨nd, rfl⟩⟩; (try exact dd_)) | (go_at_call 46; (with_reducible refine (impl_in.calls a0_5 0 100 false _ A25.out).mono ?_); rintro e w' ⟨rfl, ⟨nd, rfl⟩⟩; (try exact dd_))); try go_wp2_with (first | (go_at_call 61; (with_reducible refine (impl_isUser.calls a0_4 true _ A23.out).mono ?_); rintro e w' ⟨rfl, ⟨nd, rfl⟩⟩; (try exact dd_)) | (go_at_call 46; (with_reducible refine (impl_in.calls a0_5 0 100 false _ A25.out).mono ?_); rintro e w' ⟨rfl, ⟨nd, rfl⟩⟩; (try exact dd_))))
      go_ret
      exact ⟨a3_, (a1_ HB.out GE140.out)⟩
    ·
     replace c24 := Bool.eq_false_iff.mpr c24; subst c24; rw [if_neg (show ¬ (false = true) by decide)] at H; obtain rfl := Option.some.inj H; go_wp2_with (first | (go_at_call 61; (with_reducible refine (impl_isUser.calls a0_4 false _ A23.out).mono ?_); rintro e w' ⟨rfl, ⟨nd, rfl⟩⟩; (try exact dd_)))
     repeat (go_quiet (first | (go_at_call 61; (with_reducible refine (impl_isUser.calls a0_4 false _ A23.out).mono ?_); rintro e w' ⟨rfl, ⟨nd, rfl⟩⟩; (try exact dd_))); try go_wp2_with (first | (go_at_call 61; (with_reducible refine (impl_isUser.calls a0_4 false _ A23.out).mono ?_); rintro e w' ⟨rfl, ⟨nd, rfl⟩⟩; (try exact dd_))))
     go_ret
     exact ⟨a3_, (a1_ HB.out GE140.out)⟩
   ·
    rw [if_neg c22] at H; have c22b0 : (a0_3 == 3) = false := beq_eq_false_iff_ne.mpr c22; have c22b1 : (a0_3 != 3) = true := bne_iff_ne.mpr c22; by_cases c33 : a0_3 = 4
    ·
     rw [if_pos c33] at H; have c33b0 : (a0_3 == 4) = true := beq_iff_eq.mpr c33; have c33b1 : (a0_3 != 4) = false := bne_eq_false_iff_eq.mpr c33; clear c33; by_cases c34 : a0_4 = 0
     ·
      rw [if_pos c34] at H; have c34b0 : (a0_4 == 0) = true := beq_iff_eq.mpr c34; have c34b1 : (a0_4 != 0) = false := bne_eq_false_iff_eq.mpr c34; clear c34; by_cases c35 : a0_5 = 0
      ·
       rw [if_pos c35] at H; have c35b0 : (a0_5 == 0) = true := beq_iff_eq.mpr c35; have c35b1 : (a0_5 != 0) = false := bne_eq_false_iff_eq.mpr c35; clear c35; obtain rfl := Option.some.inj H; go_wp2
       repeat (go_quiet (fail); try go_wp2)
       go_ret
       exact ⟨a3_, (a1_ HB.out GE140.out)⟩
      ·
       rw [if_neg c35] at H; have c35b0 : (a0_5 == 0) = false := beq_eq_false_iff_ne.mpr c35; have c35b1 : (a0_5 != 0) = true := bne_iff_ne.mpr c35; obtain rfl := Option.some.inj H; go_wp2
       repeat (go_quiet (fail); try go_wp2)
       go_ret
       exact ⟨a3_, (a1_ HB.out GE140.out)⟩
     ·
      rw [if_neg c34] at H; have c34b0 : (a0_4 == 0) = false := beq_eq_false_iff_ne.mpr c34; have c34b1 : (a0_4 != 0) = true := bne_iff_ne.mpr c34; obtain rfl := Option.some.inj H; go_wp2
      repeat (go_quiet (fail); try go_wp2)
      go_ret
      exact ⟨a3_, (a1_ HB.out GE140.out)⟩
    ·
     rw [if_neg c33] at H; have c33b0 : (a0_3 == 4) = false := beq_eq_false_iff_ne.mpr c33; have c33b1 : (a0_3 != 4) = true := bne_iff_ne.mpr c33; by_cases c42 : a0_3 = 5
     ·
      rw [if_pos c42] at H; have c42b0 : (a0_3 == 5) = true := beq_iff_eq.mpr c42; have c42b1 : (a0_3 != 5) = false := bne_eq_false_iff_eq.mpr c42; clear c42; by_cases c43 : a0_4 = 0
      ·
       rw [if_pos c43] at H; have c43b0 : (a0_4 == 0) = true := beq_iff_eq.mpr c43; have c43b1 : (a0_4 != 0) = false := bne_eq_false_iff_eq.mpr c43; clear c43; replace H := Option.bind_eq_some_iff.mp H; obtain ⟨t145, A440, H⟩ := H; have A44 := Aside0.mk A440; clear A440; by_cases c45 : t145 = true
       ·
        subst c45; rw [if_pos rfl] at H; obtain rfl := Option.some.inj H; go_wp2_with (first | (go_at_call 46; (with_reducible refine (impl_in.calls a0_5 1 2 true _ A44.out).mono ?_); rintro e w' ⟨rfl, ⟨nd, rfl⟩⟩; (try exact dd_)))
        repeat (go_quiet (first | (go_at_call 46; (with_reducible refine (impl_in.calls a0_5 1 2 true _ A44.out).mono ?_); rintro e w' ⟨rfl, ⟨nd, rfl⟩⟩; (try exact dd_))); try go_wp2_with (first | (go_at_call 46; (with_reducible refine (impl_in.calls a0_5 1 2 true _ A44.out).mono ?_); rintro e w' ⟨rfl, ⟨nd, rfl⟩⟩; (try exact dd_))))
        go_ret
        exact ⟨a3_, (a1_ HB.out GE140.out)⟩
       ·
        replace c45 := Bool.eq_false_iff.mpr c45; subst c45; rw [if_neg (show ¬ (false = true) by decide)] at H; obtain rfl := Option.some.inj H; go_wp2_with (first | (go_at_call 46; (with_reducible refine (impl_in.calls a0_5 1 2 false _ A44.out).mono ?_); rintro e w' ⟨rfl, ⟨nd, rfl⟩⟩; (try exact dd_)))
        repeat (go_quiet (first | (go_at_call 46; (with_reducible refine (impl_in.calls a0_5 1 2 false _ A44.out).mono ?_); rintro e w' ⟨rfl, ⟨nd, rfl⟩⟩; (try exact dd_))); try go_wp2_with (first | (go_at_call 46; (with_reducible refine (impl_in.calls a0_5 1 2 false _ A44.out).mono ?_); rintro e w' ⟨rfl, ⟨nd, rfl⟩⟩; (try exact dd_))))
        go_ret
        exact ⟨a3_, (a1_ HB.out GE140.out)⟩
      ·
       rw [if_neg c43] at H; have c43b0 : (a0_4 == 0) = false := beq_eq_false_iff_ne.mpr c43; have c43b1 : (a0_4 != 0) = true := bne_iff_ne.mpr c43; obtain rfl := Option.some.inj H; go_wp2
       repeat (go_quiet (fail); try go_wp2)
       go_ret
       exact ⟨a3_, (a1_ HB.out GE140.out)⟩
     ·
      rw [if_neg c42] at H; have c42b0 : (a0_3 == 5) = false := beq_eq_false_iff_ne.mpr c42; have c42b1 : (a0_3 != 5) = true := bne_iff_ne.mpr c42; by_cases c52 : a0_3 = 6
      ·
       rw [if_pos c52] at H; have c52b0 : (a0_3 == 6) = true := beq_iff_eq.mpr c52; have c52b1 : (a0_3 != 6) = false := bne_eq_false_iff_eq.mpr c52; clear c52; by_cases c53 : a0_4 = 0
       ·
        rw [if_pos c53] at H; have c53b0 : (a0_4 == 0) = true := beq_iff_eq.mpr c53; have c53b1 : (a0_4 != 0) = false := bne_eq_false_iff_eq.mpr c53; clear c53; replace H := Option.bind_eq_some_iff.mp H; obtain ⟨t146, A540, H⟩ := H; have A54 := Aside0.mk A540; clear A540; by_cases c55 : t146 = true
        ·
         subst c55; rw [if_pos rfl] at H; obtain rfl := Option.some.inj H; go_wp2_with (first | (go_at_call 46; (with_reducible refine (impl_in.calls a0_5 1 3 true _ A54.out).mono ?_); rintro e w' ⟨rfl, ⟨nd, rfl⟩⟩; (try exact dd_)))
         repeat (go_quiet (first | (go_at_call 46; (with_reducible refine (impl_in.calls a0_5 1 3 true _ A54.out).mono ?_); rintro e w' ⟨rfl, ⟨nd, rfl⟩⟩; (try exact dd_))); try go_wp2_with (first | (go_at_call 46; (with_reducible refine (impl_in.calls a0_5 1 3 true _ A54.out).mono ?_); rintro e w' ⟨rfl, ⟨nd, rfl⟩⟩; (try exact dd_))))
         go_ret
         exact ⟨a3_, (a1_ HB.out GE140.out)⟩
        ·
         replace c55 := Bool.eq_false_iff.mpr c55; subst c55; rw [if_neg (show ¬ (false = true) by decide)] at H; obtain rfl := Option.some.inj H; go_wp2_with (first | (go_at_call 46; (with_reducible refine (impl_in.calls a0_5 1 3 false _ A54.out).mono ?_); rintro e w' ⟨rfl, ⟨nd, rfl⟩⟩; (try exact dd_)))
         repeat (go_quiet (first | (go_at_call 46; (with_reducible refine (impl_in.calls a0_5 1 3 false _ A54.out).mono ?_); rintro e w' ⟨rfl, ⟨nd, rfl⟩⟩; (try exact dd_))); try go_wp2_with (first | (go_at_call 46; (with_reducible refine (impl_in.calls a0_5 1 3 false _ A54.out).mono ?_); rintro e w' ⟨rfl, ⟨nd, rfl⟩⟩; (try exact dd_))))
         go_ret
         exact ⟨a3_, (a1_ HB.out GE140.out)⟩
       ·
        rw [if_neg c53] at H; have c53b0 : (a0_4 == 0) = false := beq_eq_false_iff_ne.mpr c53; have c53b1 : (a0_4 != 0) = true := bne_iff_ne.mpr c53; obtain rfl := Option.some.inj H; go_wp2
        repeat (go_quiet (fail); try go_wp2)
        go_ret
        exact ⟨a3_, (a1_ HB.out GE140.out)⟩
      ·
       rw [if_neg c52] at H; have c52b0 : (a0_3 == 6) = false := beq_eq_false_iff_ne.mpr c52; have c52b1 : (a0_3 != 6) = true := bne_iff_ne.mpr c52; by_cases c62 : a0_3 = 7
       ·
        rw [if_pos c62] at H; have c62b0 : (a0_3 == 7) = true := beq_iff_eq.mpr c62; have c62b1 : (a0_3 != 7) = false := bne_eq_false_iff_eq.mpr c62; clear c62; by_cases c63 : a0_4 = 0
        ·
         rw [if_pos c63] at H; have c63b0 : (a0_4 == 0) = true := beq_iff_eq.mpr c63; have c63b1 : (a0_4 != 0) = false := bne_eq_false_iff_eq.mpr c63; clear c63; by_cases c64 : a0_5 = 0
         ·
          rw [if_pos c64] at H; have c64b0 : (a0_5 == 0) = true := beq_iff_eq.mpr c64; have c64b1 : (a0_5 != 0) = false := bne_eq_false_iff_eq.mpr c64; clear c64; replace H := Option.bind_eq_some_iff.mp H; obtain ⟨t147, A650, H⟩ := H; have A65 := Aside0.mk A650; clear A650; obtain rfl := Option.some.inj H; go_wp2_with (first | (go_at_call 46; (with_reducible refine (impl_in.calls (a0_6.size : Int) 1 30 t147 _ A65.out).mono ?_); rintro e w' ⟨rfl, ⟨nd, rfl⟩⟩; (try exact dd_)))
          repeat (go_quiet (first | (go_at_call 46; (with_reducible refine (impl_in.calls (a0_6.size : Int) 1 30 t147 _ A65.out).mono ?_); rintro e w' ⟨rfl, ⟨nd, rfl⟩⟩; (try exact dd_))); try go_wp2_with (first | (go_at_call 46; (with_reducible refine (impl_in.calls (a0_6.size : Int) 1 30 t147 _ A65.out).mono ?_); rintro e w' ⟨rfl, ⟨nd, rfl⟩⟩; (try exact dd_))))
          go_ret
          exact ⟨a3_, (a1_ HB.out GE140.out)⟩
         ·
          rw [if_neg c64] at H; have c64b0 : (a0_5 == 0) = false := beq_eq_false_iff_ne.mpr c64; have c64b1 : (a0_5 != 0) = true := bne_iff_ne.mpr c64; obtain rfl := Option.some.inj H; go_wp2
          repeat (go_quiet (fail); try go_wp2)
          go_ret
          exact ⟨a3_, (a1_ HB.out GE140.out)⟩
        ·
         rw [if_neg c63] at H; have c63b0 : (a0_4 == 0) = false := beq_eq_false_iff_ne.mpr c63; have c63b1 : (a0_4 != 0) = true := bne_iff_ne.mpr c63; obtain rfl := Option.some.inj H; go_wp2
         repeat (go_quiet (fail); try go_wp2)
         go_ret
         exact ⟨a3_, (a1_ HB.out GE140.out)⟩
       ·
        rw [if_neg c62] at H; have c62b0 : (a0_3 == 7) = false := beq_eq_false_iff_ne.mpr c62; have c62b1 : (a0_3 != 7) = true := bne_iff_ne.mpr c62; by_cases c72 : a0_3 = 8
        ·
         rw [if_pos c72] at H; have c72b0 : (a0_3 == 8) = true := beq_iff_eq.mpr c72; have c72b1 : (a0_3 != 8) = false := bne_eq_false_iff_eq.mpr c72; clear c72; replace H := Option.bind_eq_some_iff.mp H; obtain ⟨t148, A730, H⟩ := H; have A73 := Aside0.mk A730; clear A730; by_cases c74 : t148 = true
         ·
          subst c74; rw [if_pos rfl] at H; by_cases c75 : a0_5 = 0
          ·
           rw [if_pos c75] at H; have c75b0 : (a0_5 == 0) = true := beq_iff_eq.mpr c75; have c75b1 : (a0_5 != 0) = false := bne_eq_false_iff_eq.mpr c75; clear c75; obtain rfl := Option.some.inj H; go_wp2_with (first | (go_at_call 59; (with_reducible refine (impl_isId.calls a0_4 true _ A73.out).mono ?_); rintro e w' ⟨rfl, ⟨nd, rfl⟩⟩; (try exact dd_)))
           repeat (go_quiet (first | (go_at_call 59; (with_reducible refine (impl_isId.calls a0_4 true _ A73.out).mono ?_); rintro e w' ⟨rfl, ⟨nd, rfl⟩⟩; (try exact dd_))); try go_wp2_with (first | (go_at_call 59; (with_reducible refine (impl_isId.calls a0_4 true _ A73.out).mono ?_); rintro e w' ⟨rfl, ⟨nd, rfl⟩⟩; (try exact dd_))))
           go_ret
           exact ⟨a3_, (a1_ HB.out GE140.out)⟩
          ·
           rw [if_neg c75] at H; have c75b0 : (a0_5 == 0) = false := beq_eq_false_iff_ne.mpr c75; have c75b1 : (a0_5 != 0) = true := bne_iff_ne.mpr c75; obtain rfl := Option.some.inj H; go_wp2_with (first | (go_at_call 59; (with_reducible refine (impl_isId.calls a0_4 true _ A73.out).mono ?_); rintro e w' ⟨rfl, ⟨nd, rfl⟩⟩; (try exact dd_)))
           repeat (go_quiet (first | (go_at_call 59; (with_reducible refine (impl_isId.calls a0_4 true _ A73.out).mono ?_); rintro e w' ⟨rfl, ⟨nd, rfl⟩⟩; (try exact dd_))); try go_wp2_with (first | (go_at_call 59; (with_reducible refine (impl_isId.calls a0_4 true _ A73.out).mono ?_); rintro e w' ⟨rfl, ⟨nd, rfl⟩⟩; (try exact dd_))))
           go_ret
           exact ⟨a3_, (a1_ HB.out GE140.out)⟩
         ·
          replace c74 := Bool.eq_false_iff.mpr c74; subst c74; rw [if_neg (show ¬ (false = true) by decide)] at H; obtain rfl := Option.some.inj H; go_wp2_with (first | (go_at_call 59; (with_reducible refine (impl_isId.calls a0_4 false _ A73.out).mono ?_); rintro e w' ⟨rfl, ⟨nd, rfl⟩⟩; (try exact dd_)))
          repeat (go_quiet (first | (go_at_call 59; (with_reducible refine (impl_isId.calls a0_4 false _ A73.out).mono ?_); rintro e w' ⟨rfl, ⟨nd, rfl⟩⟩; (try exact dd_))); try go_wp2_with (first | (go_at_call 59; (with_reducible refine (impl_isId.calls a0_4 false _ A73.out).mono ?_); rintro e w' ⟨rfl, ⟨nd, rfl⟩⟩; (try exact dd_))))
          go_ret
          exact ⟨a3_, (a1_ HB.out GE140.out)⟩
        ·
         rw [if_neg c72] at H; have c72b0 : (a0_3 == 8) = false := beq_eq_false_iff_ne.mpr c72; have c72b1 : (a0_3 != 8) = true := bne_iff_ne.mpr c72; obtain rfl := Option.some.inj H; go_wp2
         repeat (go_quiet (fail); try go_wp2)
         go_ret
         exact ⟨a3_, (a1_ HB.out GE140.out)⟩
/-! ### impl_Event_right: function 39 -/
def impl_Event_right.f (k : Nat) (a0_0 : Int) (a0_1 : Int) (a0_2 : Int) (a0_3 : Int) (a0_4 : Int) (a0_5 : Int) (a0_6 : ByteArray) (l0_7 : List Int) (a0_8 : Int) : Option (Bool) := (impl_isId.f a0_0).bind fun t150 => (if t150 = true then ((impl_isRoom.f a0_1).bind fun t151 => (if t151 = true then ((impl_isUser.f a0_2).bind fun t152 => (if t152 = true then ((impl_isTime.f a0_8).bind fun t153 => (if t153 = true then (if (l0_7.length : Int) ≤ 4 then ((impl_increasing.f k l0_7 1 1000000).bind fun t154 => (if t154 = true then ((slices_Contains_int64_int64.f k l0_7 a0_0).bind fun t155 => (if t155 = true then (some false) else ((impl_Event_fieldsRight.f a0_0 a0_1 a0_2 a0_3 a0_4 a0_5 a0_6 l0_7 a0_8).bind fun t156 => (some t156)))) else (some false))) else (some false)) else (some false))) else (some false))) else (some false))) else (some false))
theorem impl_Event_right.mono : ∀ a0 a1 a2 a3 a4 a5 a6 a7 a8 k, LeO (impl_Event_right.f k a0 a1 a2 a3 a4 a5 a6 a7 a8) (impl_Event_right.f (k + 1) a0 a1 a2 a3 a4 a5 a6 a7 a8) := by
  intro a0 a1 a2 a3 a4 a5 a6 a7 a8 k
  unfold impl_Event_right.f
  repeat' first | (with_reducible exact impl_increasing.mono _ _ _ _) | (with_reducible exact slices_Contains_int64_int64.mono _ _ _) | (with_reducible exact LeO.refl _) | (with_reducible exact LeO.none _) | (with_reducible refine LeO.ite ?_ ?_) | (with_reducible refine LeO.bind ?_ (fun _ => ?_)) | exact impl_increasing.mono _ _ _ _ | exact slices_Contains_int64_int64.mono _ _ _ | exact LeO.none _ | refine LeO.ite ?_ ?_ | refine LeO.bind ?_ (fun _ => ?_)
theorem impl_Event_right.calls (k : Nat) (a0_0 : Int) (a0_1 : Int) (a0_2 : Int) (a0_3 : Int) (a0_4 : Int) (a0_5 : Int) (a0_6 : ByteArray) (A0_7 : Option Addr) (c0_7 : Nat) (l0_7 : List Int) (a0_8 : Int) (r : Bool) (w : World) (hr0_7 : Kd.C (Kd.int .i64) w A0_7 l0_7.length l0_7) (hc0_7 : l0_7.length ≤ c0_7) (h : impl_Event_right.f k a0_0 a0_1 a0_2 a0_3 a0_4 a0_5 a0_6 l0_7 a0_8 = some r) :
    Calls Try.prog 39 #[.agg #[.int .i64 a0_0, .int .i64 a0_1, .int .i64 a0_2, .int .i64 a0_3, .int .i64 a0_4, .int .i64 a0_5, .string a0_6, .slice A0_7 l0_7.length c0_7, .int .i64 a0_8]] w fun e w' => e = .returned (.bool r) ∧ Below w.heap.size w w' := by
 have hu25 := Try.underlying25; have HR0_7 := Aside0.mk hr0_7; have HC0_7 := Aside0.mk hc0_7; clear hr0_7 hc0_7; have HB := Aside0.mk (Below.refl w.heap.size w); have H : ((impl_isId.f a0_0).bind fun t150 => (if t150 = true then ((impl_isRoom.f a0_1).bind fun t151 => (if t151 = true then ((impl_isUser.f a0_2).bind fun t152 => (if t152 = true then ((impl_isTime.f a0_8).bind fun t153 => (if t153 = true then (if (l0_7.length : Int) ≤ 4 then ((impl_increasing.f k l0_7 1 1000000).bind fun t154 => (if t154 = true then ((slices_Contains_int64_int64.f k l0_7 a0_0).bind fun t155 => (if t155 = true then (some false) else ((impl_Event_fieldsRight.f a0_0 a0_1 a0_2 a0_3 a0_4 a0_5 a0_6 l0_7 a0_8).bind fun t156 => (some t156)))) else (some false))) else (some false)) else (some false))) else (some false))) else (some false))) else (some false))) = some r := h; clear h; replace H := Option.bind_eq_some_iff.mp H; obtain ⟨t150, A20, H⟩ := H
 have A2 := Aside0.mk A20; clear A20; by_cases c3 : t150 = true
 ·
  subst c3; rw [if_pos rfl] at H; replace H := Option.bind_eq_some_iff.mp H; obtain ⟨t151, A40, H⟩ := H; have A4 := Aside0.mk A40; clear A40; by_cases c5 : t151 = true
  ·
   subst c5; rw [if_pos rfl] at H; replace H := Option.bind_eq_some_iff.mp H; obtain ⟨t152, A60, H⟩ := H; have A6 := Aside0.mk A60; clear A60; by_cases c7 : t152 = true
   ·
    subst c7; rw [if_pos rfl] at H; replace H := Option.bind_eq_some_iff.mp H; obtain ⟨t153, A80, H⟩ := H; have A8 := Aside0.mk A80; clear A80; by_cases c9 : t153 = true
    ·
     subst c9; rw [if_pos rfl] at H; by_cases c10 : (l0_7.length : Int) ≤ 4
     ·
      rw [if_pos c10] at H; have c10b0 : decide ((l0_7.length : Int) ≤ 4) = true := decide_eq_true c10; have c10b1 : decide (l0_7.length ≤ 4) = true := decide_eq_true (by omega); clear c10; replace H := Option.bind_eq_some_iff.mp H; obtain ⟨t154, A110, H⟩ := H; have A11 := Aside0.mk A110; clear A110; by_cases c12 : t154 = true
      ·
       subst c12; rw [if_pos rfl] at H; replace H := Option.bind_eq_some_iff.mp H; obtain ⟨t155, A130, H⟩ := H; have A13 := Aside0.mk A130; clear A130; by_cases c14 : t155 = true
       ·
        subst c14; rw [if_pos rfl] at H; obtain rfl := Option.some.inj H; go_enter Try.func39, Try.ntmps39; go_wp2_with (first | ((with_reducible refine gate_dst (N := 1) rfl ?_); (try (refine gate_guard (by rfl) ?_; dsimp only)); refine be_ 1 #[.int .i64 a0_0, .int .i64 a0_1, .int .i64 a0_2, .int .i64 a0_3, .int .i64 a0_4, .int .i64 a0_5, .string a0_6, .slice A0_7 l0_7.length c0_7, .int .i64 a0_8] 25 ?_; intro gb149 hg w15 hbox hb; have BK149 := Aside0.mk (hbox); have GW149 := Aside0.mk ((by rw [hg]; exact (below_size (a12_ HB.out)) : w.heap.size ≤ gb149)); replace HB := Aside0.mk (below_step (a12_ HB.out) hb); have GE149 := GW149; clear hb hbox hg; obtain ⟨⟨hcz16_0, hcz16_1, hcz16_2, hcz16_3, hcz16_4, hcz16_5, hcz16_6, hcz16_7, hcz16_8⟩, hfz16_0, hfz16_1, hfz16_2, hfz16_3, hfz16_4, hfz16_5, hfz16_6, hfz16_7, hfz16_8⟩ := cells_9 BK149.out) | ((with_reducible refine gate_callee (f := 59) rfl ?_); refine gl_ (some 5) Try.func59 #[.int .i64 a0_0] ?_; (with_reducible refine (impl_isId.calls a0_0 true _ A2.out).mono ?_); rintro e w' ⟨rfl, ⟨nd, rfl⟩⟩; refine ⟨_, rfl, ?_⟩) | (go_at_call 60; (with_reducible refine (impl_isRoom.calls a0_1 true _ A4.out).mono ?_); rintro e w' ⟨rfl, ⟨nd, rfl⟩⟩) | (go_at_call 61; (with_reducible refine (impl_isUser.calls a0_2 true _ A6.out).mono ?_); rintro e w' ⟨rfl, ⟨nd, rfl⟩⟩) | (go_at_call 62; (with_reducible refine (impl_isTime.calls a0_8 true _ A8.out).mono ?_); rintro e w' ⟨rfl, ⟨nd, rfl⟩⟩) | (go_at_call 63; (with_reducible refine (impl_increasing.calls k _ _ l0_7 1 1000000 true _ ?side1 HC0_7.out A11.out).mono ?_); (case side1 => exact (cb_ HR0_7.out (a1_ HB.out GE149.out))); rintro e w' ⟨rfl, ⟨nd, rfl⟩⟩) | (go_at_call 64; (with_reducible refine (slices_Contains_int64_int64.calls k _ _ l0_7 a0_0 true _ ?side1 HC0_7.out A13.out).mono ?_); (case side1 => exact (cb_ HR0_7.out (a1_ HB.out GE149.out))); rintro e w' ⟨rfl, ⟨nd, rfl⟩⟩))
        go_ret
        exact ⟨a3_, (a1_ HB.out GE149.out)⟩
       ·
        replace c14 := Bool.eq_false_iff.mpr c14; subst c14; rw [if_neg (show ¬ (false = true) by decide)] at H; replace H := Option.bind_eq_some_iff.mp H; obtain ⟨t156, A170, H⟩ := H; have A17 := Aside0.mk A170; clear A170; obtain rfl := Option.some.inj H; go_enter Try.func39, Try.ntmps39; go_wp2_with (first | ((with_reducible refine gate_dst (N := 1) rfl ?_); (try (refine gate_guard (by rfl) ?_; dsimp only)); refine be_ 1 #[.int .i64 a0_0, .int .i64 a0_1, .int .i64 a0_2, .int .i64 a0_3, .int .i64 a0_4, .int .i64 a0_5, .string a0_6, .slice A0_7 l0_7.length c0_7, .int .i64 a0_8] 25 ?_; intro gb149 hg w18 hbox hb; have BK149 := Aside0.mk (hbox); have GW149 := Aside0.mk ((by rw [hg]; exact (below_size (a12_ HB.out)) : w.heap.size ≤ gb149)); replace HB := Aside0.mk (below_step (a12_ HB.out) hb); have GE149 := GW149; clear hb hbox hg; obtain ⟨⟨hcz19_0, hcz19_1, hcz19_2, hcz19_3, hcz19_4, hcz19_5, hcz19_6, hcz19_7, hcz19_8⟩, hfz19_0, hfz19_1, hfz19_2, hfz19_3, hfz19_4, hfz19_5, hfz19_6, hfz19_7, hfz19_8⟩ := cells_9 BK149.out) | ((with_reducible refine gate_callee (f := 59) rfl ?_); refine gl_ (some 5) Try.func59 #[.int .i64 a0_0] ?_; (with_reducible refine (impl_isId.calls a0_0 true _ A2.out).mono ?_); rintro e w' ⟨rfl, ⟨nd, rfl⟩⟩; refine ⟨_, rfl, ?_⟩) | (go_at_call 60; (with_reducible refine (impl_isRoom.calls a0_1 true _ A4.out).mono ?_); rintro e w' ⟨rfl, ⟨nd, rfl⟩⟩) | (go_at_call 61; (with_reducible refine (impl_isUser.calls a0_2 true _ A6.out).mono ?_); rintro e w' ⟨rfl, ⟨nd, rfl⟩⟩) | (go_at_call 62; (with_reducible refine (impl_isTime.calls a0_8 true _ A8.out).mono ?_); rintro e w' ⟨rfl, ⟨nd, rfl⟩⟩) | (go_at_call 63; (with_reducible refine (impl_increasing.calls k _ _ l0_7 1 1000000 true _ ?side1 HC0_7.out A11.out).mono ?_); (case side1 => exact (cb_ HR0_7.out (a1_ HB.out GE149.out))); rintro e w' ⟨rfl, ⟨nd, rfl⟩⟩) | (go_at_call 64; (with_reducible refine (slices_Contains_int64_int64.calls k _ _ l0_7 a0_0 false _ ?side1 HC0_7.out A13.out).mono ?_); (case side1 => exact (cb_ HR0_7.out (a1_ HB.out GE149.out))); rintro e w' ⟨rfl, ⟨nd, rfl⟩⟩) | (go_at_call 65; (with_reducible refine (impl_Event_fieldsRight.calls a0_0 a0_1 a0_2 a0_3 a0_4 a0_5 a0_6 _ _ l0_7 a0_8 t156 _ ?side1 HC0_7.out A17.out).mono ?_); (case side1 => exact (cb_ HR0_7.out (a1_ HB.out GE149.out))); rintro e w20 ⟨rfl, hb⟩; replace BK149 := Aside0.mk (blk_below (g := gb149) (o := .cells #[.int .i64 a0_0, .int .i64 a0_1, .int .i64 a0_2, .int .i64 a0_3, .int .i64 a0_4, .int .i64 a0_5, .string a0_6, .slice A0_7 l0_7.length c0_7, .int .i64 a0_8] 25 (0, 0)) (a13_ BK149.out) hb); replace HB := Aside0.mk (below_step (a1_ HB.out GE149.out) hb); (try clear hb); (try clear hb2); (try clear hk); (try clear hi)))
        go_ret
        exact ⟨a3_, (a1_ HB.out GE149.out)⟩
      ·
       replace c12 := Bool.eq_false_iff.mpr c12; subst c12; rw [if_neg (show ¬ (false = true) by decide)] at H; obtain rfl := Option.some.inj H; go_enter Try.func39, Try.ntmps39; go_wp2_with (first | ((with_reducible refine gate_dst (N := 1) rfl ?_); (try (refine gate_guard (by rfl) ?_; dsimp only)); refine be_ 1 #[.int .i64 a0_0, .int .i64 a0_1, .int .i64 a0_2, .int .i64 a0_3, .int .i64 a0_4, .int .i64 a0_5, .string a0_6, .slice A0_7 l0_7.length c0_7, .int .i64 a0_8] 25 ?_; intro gb149 hg w21 hbox hb; have BK149 := Aside0.mk (hbox); have GW149 := Aside0.mk ((by rw [hg]; exact (below_size (a12_ HB.out)) : w.heap.size ≤ gb149)); replace HB := Aside0.mk (below_step (a12_ HB.out) hb); have GE149 := GW149; clear hb hbox hg; obtain ⟨⟨hcz22_0, hcz22_1, hcz22_2, hcz22_3, hcz22_4, hcz22_5, hcz22_6, hcz22_7, hcz22_8⟩, hfz22_0, hfz22_1, hfz22_2, hfz22_3, hfz22_4, hfz22_5, hfz22_6, hfz22_7, hfz22_8⟩ := cells_9 BK149.out) | ((with_reducible refine gate_callee (f := 59) rfl ?_); refine gl_ (some 5) Try.func59 #[.int .i64 a0_0] ?_; (with_reducible refine (impl_isId.calls a0_0 true _ A2.out).mono ?_); rintro e w' ⟨rfl, ⟨nd, rfl⟩⟩; refine ⟨_, rfl, ?_⟩) | (go_at_call 60; (with_reducible refine (impl_isRoom.calls a0_1 true _ A4.out).mono ?_); rintro e w' ⟨rfl, ⟨nd, rfl⟩⟩) | (go_at_call 61; (with_reducible refine (impl_isUser.calls a0_2 true _ A6.out).mono ?_); rintro e w' ⟨rfl, ⟨nd, rfl⟩⟩) | (go_at_call 62; (with_reducible refine (impl_isTime.calls a0_8 true _ A8.out).mono ?_); rintro e w' ⟨rfl, ⟨nd, rfl⟩⟩) | (go_at_call 63; (with_reducible refine (impl_increasing.calls k _ _ l0_7 1 1000000 false _ ?side1 HC0_7.out A11.out).mono ?_); (case side1 => exact (cb_ HR0_7.out (a1_ HB.out GE149.out))); rintro e w' ⟨rfl, ⟨nd, rfl⟩⟩))
       go_ret
       exact ⟨a3_, (a1_ HB.out GE149.out)⟩
     ·
      rw [if_neg c10] at H; have c10b0 : decide ((l0_7.length : Int) ≤ 4) = false := decide_eq_false c10; have c10b1 : decide (l0_7.length ≤ 4) = false := decide_eq_false (by omega); clear c10; obtain rfl := Option.some.inj H; go_enter Try.func39, Try.ntmps39; go_wp2_with (first | ((with_reducible refine gate_dst (N := 1) rfl ?_); (try (refine gate_guard (by rfl) ?_; dsimp only)); refine be_ 1 #[.int .i64 a0_0, .int .i64 a0_1, .int .i64 a0_2, .int .i64 a0_3, .int .i64 a0_4, .int .i64 a0_5, .string a0_6, .slice A0_7 l0_7.length c0_7, .int .i64 a0_8] 25 ?_; intro gb149 hg w23 hbox hb; have BK149 := Aside0.mk (hbox); have GW149 := Aside0.mk ((by rw [hg]; exact (below_size (a12_ HB.out)) : w.heap.size ≤ gb149)); replace HB := Aside0.mk (below_step (a12_ HB.out) hb); have GE149 := GW149; clear hb hbox hg; obtain ⟨⟨hcz24_0, hcz24_1, hcz24_2, hcz24_3, hcz24_4, hcz24_5, hcz24_6, hcz24_7, hcz24_8⟩, hfz24_0, hfz24_1, hfz24_2, hfz24_3, hfz24_4, hfz24_5, hfz24_6, hfz24_7, hfz24_8⟩ := cells_9 BK149.out) | ((with_reducible refine gate_callee (f := 59) rfl ?_); refine gl_ (some 5) Try.func59 #[.int .i64 a0_0] ?_; (with_reducible refine (impl_isId.calls a0_0 true _ A2.out).mono ?_); rintro e w' ⟨rfl, ⟨nd, rfl⟩⟩; refine ⟨_, rfl, ?_⟩) | (go_at_call 60; (with_reducible refine (impl_isRoom.calls a0_1 true _ A4.out).mono ?_); rintro e w' ⟨rfl, ⟨nd, rfl⟩⟩) | (go_at_call 61; (with_reducible refine (impl_isUser.calls a0_2 true _ A6.out).mono ?_); rintro e w' ⟨rfl, ⟨nd, rfl⟩⟩) | (go_at_call 62; (with_reducible refine (impl_isTime.calls a0_8 true _ A8.out).mono ?_); rintro e w' ⟨rfl, ⟨nd, rfl⟩⟩))
      go_ret
      exact ⟨a3_, (a1_ HB.out GE149.out)⟩
    ·
     replace c9 := Bool.eq_false_iff.mpr c9; subst c9; rw [if_neg (show ¬ (false = true) by decide)] at H; obtain rfl := Option.some.inj H; go_enter Try.func39, Try.ntmps39; go_wp2_with (first | ((with_reducible refine gate_dst (N := 1) rfl ?_); (try (refine gate_guard (by rfl) ?_; dsimp only)); refine be_ 1 #[.int .i64 a0_0, .int .i64 a0_1, .int .i64 a0_2, .int .i64 a0_3, .int .i64 a0_4, .int .i64 a0_5, .string a0_6, .slice A0_7 l0_7.length c0_7, .int .i64 a0_8] 25 ?_; intro gb149 hg w25 hbox hb; have BK149 := Aside0.mk (hbox); have GW149 := Aside0.mk ((by rw [hg]; exact (below_size (a12_ HB.out)) : w.heap.size ≤ gb149)); replace HB := Aside0.mk (below_step (a12_ HB.out) hb); have GE149 := GW149; clear hb hbox hg; obtain ⟨⟨hcz26_0, hcz26_1, hcz26_2, hcz26_3, hcz26_4, hcz26_5, hcz26_6, hcz26_7, hcz26_8⟩, hfz26_0, hfz26_1, hfz26_2, hfz26_3, hfz26_4, hfz26_5, hfz26_6, hfz26_7, hfz26_8⟩ := cells_9 BK149.out) | ((with_reducible refine gate_callee (f := 59) rfl ?_); refine gl_ (some 5) Try.func59 #[.int .i64 a0_0] ?_; (with_reducible refine (impl_isId.calls a0_0 true _ A2.out).mono ?_); rintro e w' ⟨rfl, ⟨nd, rfl⟩⟩; refine ⟨_, rfl, ?_⟩) | (go_at_call 60; (with_reducible refine (impl_isRoom.calls a0_1 true _ A4.out).mono ?_); rintro e w' ⟨rfl, ⟨nd, rfl⟩⟩) | (go_at_call 61; (with_reducible refine (impl_isUser.calls a0_2 true _ A6.out).mono ?_); rintro e w' ⟨rfl, ⟨nd, rfl⟩⟩) | (go_at_call 62; (with_reducible refine (impl_isTime.calls a0_8 false _ A8.out).mono ?_); rintro e w' ⟨rfl, ⟨nd, rfl⟩⟩))
     go_ret
     exact ⟨a3_, (a1_ HB.out GE149.out)⟩
   ·
    replace c7 := Bool.eq_false_iff.mpr c7; subst c7; rw [if_neg (show ¬ (false = true) by decide)] at H; obtain rfl := Option.some.inj H; go_enter Try.func39, Try.ntmps39; go_wp2_with (first | ((with_reducible refine gate_dst (N := 1) rfl ?_); (try (refine gate_guard (by rfl) ?_; dsimp only)); refine be_ 1 #[.int .i64 a0_0, .int .i64 a0_1, .int .i64 a0_2, .int .i64 a0_3, .int .i64 a0_4, .int .i64 a0_5, .string a0_6, .slice A0_7 l0_7.length c0_7, .int .i64 a0_8] 25 ?_; intro gb149 hg w27 hbox hb; have BK149 := Aside0.mk (hbox); have GW149 := Aside0.mk ((by rw [hg]; exact (below_size (a12_ HB.out)) : w.heap.size ≤ gb149)); replace HB := Aside0.mk (below_step (a12_ HB.out) hb); have GE149 := GW149; clear hb hbox hg; obtain ⟨⟨hcz28_0, hcz28_1, hcz28_2, hcz28_3, hcz28_4, hcz28_5, hcz28_6, hcz28_7, hcz28_8⟩, hfz28_0, hfz28_1, hfz28_2, hfz28_3, hfz28_4, hfz28_5, hfz28_6, hfz28_7, hfz28_8⟩ := cells_9 BK149.out) | ((with_reducible refine gate_callee (f := 59) rfl ?_); refine gl_ (some 5) Try.func59 #[.int .i64 a0_0] ?_; (with_reducible refine (impl_isId.calls a0_0 true _ A2.out).mono ?_); rintro e w' ⟨rfl, ⟨nd, rfl⟩⟩; refine ⟨_, rfl, ?_⟩) | (go_at_call 60; (with_reducible refine (impl_isRoom.calls a0_1 true _ A4.out).mono ?_); rintro e w' ⟨rfl, ⟨nd, rfl⟩⟩) | (go_at_call 61; (with_reducible refine (impl_isUser.calls a0_2 false _ A6.out).mono ?_); rintro e w' ⟨rfl, ⟨nd, rfl⟩⟩))
    go_ret
    exact ⟨a3_, (a1_ HB.out GE149.out)⟩
  ·
   replace c5 := Bool.eq_false_iff.mpr c5; subst c5; rw [if_neg (show ¬ (false = true) by decide)] at H; obtain rfl := Option.some.inj H; go_enter Try.func39, Try.ntmps39; go_wp2_with (first | ((with_reducible refine gate_dst (N := 1) rfl ?_); (try (refine gate_guard (by rfl) ?_; dsimp only)); refine be_ 1 #[.int .i64 a0_0, .int .i64 a0_1, .int .i64 a0_2, .int .i64 a0_3, .int .i64 a0_4, .int .i64 a0_5, .string a0_6, .slice A0_7 l0_7.length c0_7, .int .i64 a0_8] 25 ?_; intro gb149 hg w29 hbox hb; have BK149 := Aside0.mk (hbox); have GW149 := Aside0.mk ((by rw [hg]; exact (below_size (a12_ HB.out)) : w.heap.size ≤ gb149)); replace HB := Aside0.mk (below_step (a12_ HB.out) hb); have GE149 := GW149; clear hb hbox hg; obtain ⟨⟨hcz30_0, hcz30_1, hcz30_2, hcz30_3, hcz30_4, hcz30_5, hcz30_6, hcz30_7, hcz30_8⟩, hfz30_0, hfz30_1, hfz30_2, hfz30_3, hfz30_4, hfz30_5, hfz30_6, hfz30_7, hfz30_8⟩ := cells_9 BK149.out) | ((with_reducible refine gate_callee (f := 59) rfl ?_); refine gl_ (some 5) Try.func59 #[.int .i64 a0_0] ?_; (with_reducible refine (impl_isId.calls a0_0 true _ A2.out).mono ?_); rintro e w' ⟨rfl, ⟨nd, rfl⟩⟩; refine ⟨_, rfl, ?_⟩) | (go_at_call 60; (with_reducible refine (impl_isRoom.calls a0_1 false _ A4.out).mono ?_); rintro e w' ⟨rfl, ⟨nd, rfl⟩⟩))
   go_ret
   exact ⟨a3_, (a1_ HB.out GE149.out)⟩
 ·
  replace c3 := Bool.eq_false_iff.mpr c3; subst c3; rw [if_neg (show ¬ (false = true) by decide)] at H; obtain rfl := Option.some.inj H; go_enter Try.func39, Try.ntmps39; go_wp2_with (first | ((with_reducible refine gate_dst (N := 1) rfl ?_); (try (refine gate_guard (by rfl) ?_; dsimp only)); refine be_ 1 #[.int .i64 a0_0, .int .i64 a0_1, .int .i64 a0_2, .int .i64 a0_3, .int .i64 a0_4, .int .i64 a0_5, .string a0_6, .slice A0_7 l0_7.length c0_7, .int .i64 a0_8] 25 ?_; intro gb149 hg w31 hbox hb; have BK149 := Aside0.mk (hbox); have GW149 := Aside0.mk ((by rw [hg]; exact (below_size (a12_ HB.out)) : w.heap.size ≤ gb149)); replace HB := Aside0.mk (below_step (a12_ HB.out) hb); have GE149 := GW149; clear hb hbox hg; obtain ⟨⟨hcz32_0, hcz32_1, hcz32_2, hcz32_3, hcz32_4, hcz32_5, hcz32_6, hcz32_7, hcz32_8⟩, hfz32_0, hfz32_1, hfz32_2, hfz32_3, hfz32_4, hfz32_5, hfz32_6, hfz32_7, hfz32_8⟩ := cells_9 BK149.out) | ((with_reducible refine gate_callee (f := 59) rfl ?_); refine gl_ (some 5) Try.func59 #[.int .i64 a0_0] ?_; (with_reducible refine (impl_isId.calls a0_0 false _ A2.out).mono ?_); rintro e w' ⟨rfl, ⟨nd, rfl⟩⟩; refine ⟨_, rfl, ?_⟩))
  go_ret
  exact ⟨a3_, (a1_ HB.out GE149.out)⟩

/-! ### impl_EventRight: function 14 -/
def impl_EventRight.f (k : Nat) (a0_0 : Int) (a0_1 : Int) (a0_2 : Int) (a0_3 : Int) (a0_4 : Int) (a0_5 : Int) (a0_6 : ByteArray) (l0_7 : List Int) (a0_8 : Int) : Option (Bool) := (impl_Event_right.f k a0_0 a0_1 a0_2 a0_3 a0_4 a0_5 a0_6 l0_7 a0_8).bind fun t158 => (if t158 = true then (some ((a0_3 == 1) == ((l0_7.length : Int) == 0))) else (some false))
theorem impl_EventRight.mono : ∀ a0 a1 a2 a3 a4 a5 a6 a7 a8 k, LeO (impl_EventRight.f k a0 a1 a2 a3 a4 a5 a6 a7 a8) (impl_EventRight.f (k + 1) a0 a1 a2 a3 a4 a5 a6 a7 a8) := by
  intro a0 a1 a2 a3 a4 a5 a6 a7 a8 k
  unfold impl_EventRight.f
  repeat' first | (with_reducible exact impl_Event_right.mono _ _ _ _ _ _ _ _ _ _) | (with_reducible exact LeO.refl _) | (with_reducible exact LeO.none _) | (with_reducible refine LeO.ite ?_ ?_) | (with_reducible refine LeO.bind ?_ (fun _ => ?_)) | exact impl_Event_right.mono _ _ _ _ _ _ _ _ _ _ | exact LeO.none _ | refine LeO.ite ?_ ?_ | refine LeO.bind ?_ (fun _ => ?_)
theorem impl_EventRight.calls (k : Nat) (a0_0 : Int) (a0_1 : Int) (a0_2 : Int) (a0_3 : Int) (a0_4 : Int) (a0_5 : Int) (a0_6 : ByteArray) (A0_7 : Option Addr) (c0_7 : Nat) (l0_7 : List Int) (a0_8 : Int) (r : Bool) (w : World) (hr0_7 : Kd.C (Kd.int .i64) w A0_7 l0_7.length l0_7) (hc0_7 : l0_7.length ≤ c0_7) (h : impl_EventRight.f k a0_0 a0_1 a0_2 a0_3 a0_4 a0_5 a0_6 l0_7 a0_8 = some r) :
    Calls Try.prog 14 #[.agg #[.int .i64 a0_0, .int .i64 a0_1, .int .i64 a0_2, .int .i64 a0_3, .int .i64 a0_4, .int .i64 a0_5, .string a0_6, .slice A0_7 l0_7.length c0_7, .int .i64 a0_8]] w fun e w' => e = .returned (.bool r) ∧ Below w.heap.size w w' := by
 have hu25 := Try.underlying25; have HR0_7 := Aside0.mk hr0_7; have HC0_7 := Aside0.mk hc0_7; clear hr0_7 hc0_7; have HB := Aside0.mk (Below.refl w.heap.size w); have H : ((impl_Event_right.f k a0_0 a0_1 a0_2 a0_3 a0_4 a0_5 a0_6 l0_7 a0_8).bind fun t158 => (if t158 = true then (some ((a0_3 == 1) == ((l0_7.length : Int) == 0))) else (some false))) = some r := h; clear h; replace H := Option.bind_eq_some_iff.mp H; obtain ⟨t158, A20, H⟩ := H; have A2 := Aside0.mk A20; clear A20; by_cases c3 : t158 = true
 ·
  subst c3; rw [if_pos rfl] at H; obtain rfl := Option.some.inj H; go_enter Try.func14, Try.ntmps14; go_wp2_with (first | ((with_reducible refine gate_dst (N := 1) rfl ?_); (try (refine gate_guard (by rfl) ?_; dsimp only)); refine be_ 1 #[.int .i64 a0_0, .int .i64 a0_1, .int .i64 a0_2, .int .i64 a0_3, .int .i64 a0_4, .int .i64 a0_5, .string a0_6, .slice A0_7 l0_7.length c0_7, .int .i64 a0_8] 25 ?_; intro gb157 hg w4 hbox hb; have BK157 := Aside0.mk (hbox); have GW157 := Aside0.mk ((by rw [hg]; exact (below_size HB.out) : w.heap.size ≤ gb157)); replace HB := Aside0.mk (below_step HB.out hb); have GE157 := GW157; clear hb hbox hg; obtain ⟨⟨hcz5_0, hcz5_1, hcz5_2, hcz5_3, hcz5_4, hcz5_5, hcz5_6, hcz5_7, hcz5_8⟩, hfz5_0, hfz5_1, hfz5_2, hfz5_3, hfz5_4, hfz5_5, hfz5_6, hfz5_7, hfz5_8⟩ := cells_9 BK157.out) | ((with_reducible refine gate_callee (f := 39) rfl ?_); refine gl_ (some 4) Try.func39 #[.agg #[.int .i64 a0_0, .int .i64 a0_1, .int .i64 a0_2, .int .i64 a0_3, .int .i64 a0_4, .int .i64 a0_5, .string a0_6, .slice A0_7 l0_7.length c0_7, .int .i64 a0_8]] ?_; (with_reducible refine (impl_Event_right.calls k a0_0 a0_1 a0_2 a0_3 a0_4 a0_5 a0_6 _ _ l0_7 a0_8 true _ ?side1 HC0_7.out A2.out).mono ?_); (case side1 => exact (cb_ HR0_7.out HB.out)); rintro e w6 ⟨rfl, hb⟩; refine ⟨_, rfl, ?_⟩; replace BK157 := Aside0.mk (blk_below BK157.out hb); replace HB := Aside0.mk (below_step HB.out hb); (try clear hb); (try clear hb2); (try clear hk); (try clear hi); obtain ⟨⟨hcz7_0, hcz7_1, hcz7_2, hcz7_3, hcz7_4, hcz7_5, hcz7_6, hcz7_7, hcz7_8⟩, hfz7_0, hfz7_1, hfz7_2, hfz7_3, hfz7_4, hfz7_5, hfz7_6, hfz7_7, hfz7_8⟩ := cells_9 BK157.out))
  go_ret
  exact ⟨a3_, (a1_ HB.out GE157.out)⟩
 ·
  replace c3 := Bool.eq_false_iff.mpr c3; subst c3; rw [if_neg (show ¬ (false = true) by decide)] at H; obtain rfl := Option.some.inj H; go_enter Try.func14, Try.ntmps14; go_wp2_with (first | ((with_reducible refine gate_dst (N := 1) rfl ?_); (try (refine gate_guard (by rfl) ?_; dsimp only)); refine be_ 1 #[.int .i64 a0_0, .int .i64 a0_1, .int .i64 a0_2, .int .i64 a0_3, .int .i64 a0_4, .int .i64 a0_5, .string a0_6, .slice A0_7 l0_7.length c0_7, .int .i64 a0_8] 25 ?_; intro gb157 hg w8 hbox hb; have BK157 := Aside0.mk (hbox); have GW157 := Aside0.mk ((by rw [hg]; exact (below_size HB.out) : w.heap.size ≤ gb157)); replace HB := Aside0.mk (below_step HB.out hb); have GE157 := GW157; clear hb hbox hg; obtain ⟨⟨hcz9_0, hcz9_1, hcz9_2, hcz9_3, hcz9_4, hcz9_5, hcz9_6, hcz9_7, hcz9_8⟩, hfz9_0, hfz9_1, hfz9_2, hfz9_3, hfz9_4, hfz9_5, hfz9_6, hfz9_7, hfz9_8⟩ := cells_9 BK157.out) | ((with_reducible refine gate_callee (f := 39) rfl ?_); refine gl_ (some 4) Try.func39 #[.agg #[.int .i64 a0_0, .int .i64 a0_1, .int .i64 a0_2, .int .i64 a0_3, .int .i64 a0_4, .int .i64 a0_5, .string a0_6, .slice A0_7 l0_7.length c0_7, .int .i64 a0_8]] ?_; (with_reducible refine (impl_Event_right.calls k a0_0 a0_1 a0_2 a0_3 a0_4 a0_5 a0_6 _ _ l0_7 a0_8 false _ ?side1 HC0_7.out A2.out).mono ?_); (case side1 => exact (cb_ HR0_7.out HB.out)); rintro e w10 ⟨rfl, hb⟩; refine ⟨_, rfl, ?_⟩; replace BK157 := Aside0.mk (blk_below BK157.out hb); replace HB := Aside0.mk (below_step HB.out hb); (try clear hb); (try clear hb2); (try clear hk); (try clear hi)))
  go_ret
  exact ⟨a3_, (a1_ HB.out GE157.out)⟩

/-! ### impl_numBytes: function 21 -/
def impl_numBytes.l0 : Nat → Int → List Int → Option (List Int)
  | 0, _, _ => none
  | k + 1, x3, x4 => if x3 > 127 then (if x4.length < 140737488355328 then (impl_numBytes.l0 k (x3 / 128) (x4 ++ [Go.bits .or .u8 ((x3) % 256) 128])) else (none)) else (if x4.length < 140737488355328 then (some (x4 ++ [(x3) % 256])) else (none))
def impl_numBytes.f (k : Nat) (a0 : Int) : Option (List Int) := impl_numBytes.l0 k (Go.bits .xor .u64 (IntKind.u64.wrap ((IntKind.u64.wrap (a0)) * 2)) (IntKind.u64.wrap (a0 / 9223372036854775808))) (([] : List Int))
theorem impl_numBytes.mono_l : ∀ k, (∀ y0 y1, LeO (impl_numBytes.l0 k y0 y1) (impl_numBytes.l0 (k + 1) y0 y1))
  | 0 => fun _ _ r h => by simp [impl_numBytes.l0] at h
  | k + 1 => by
    have ih0 := impl_numBytes.mono_l k
    · intro y0 y1
      unfold impl_numBytes.l0
      repeat' first | (with_reducible exact ih0 _ _) | (with_reducible exact LeO.refl _) | (with_reducible exact LeO.none _) | (with_reducible refine LeO.ite ?_ ?_) | (with_reducible refine LeO.bind ?_ (fun _ => ?_)) | exact ih0 _ _ | exact LeO.none _ | refine LeO.ite ?_ ?_ | refine LeO.bind ?_ (fun _ => ?_)
theorem impl_numBytes.mono : ∀ a0 k, LeO (impl_numBytes.f k a0) (impl_numBytes.f (k + 1) a0) := by
  intro a0 k
  have ih0 := impl_numBytes.mono_l k
  unfold impl_numBytes.f
  repeat' first | (with_reducible exact ih0 _ _) | (with_reducible exact LeO.refl _) | (with_reducible exact LeO.none _) | (with_reducible refine LeO.ite ?_ ?_) | (with_reducible refine LeO.bind ?_ (fun _ => ?_)) | exact ih0 _ _ | exact LeO.none _ | refine LeO.ite ?_ ?_ | refine LeO.bind ?_ (fun _ => ?_)
theorem impl_numBytes.calls (k : Nat) (a0 : Int) (r : List Int) (w : World) (h : impl_numBytes.f k a0 = some r) :
    Calls Try.prog 21 #[.int .i64 a0] w fun e w' => ∃ v0_ : Value, e = .returned (v0_) ∧ Kd.R (Kd.int .u8) 5 w' w.heap.size (fun _ => True) v0_ r ∧ Below w.heap.size w w' := by
 have HB := Aside0.mk (Below.refl w.heap.size w); have H : (impl_numBytes.l0 k (Go.bits .xor .u64 (IntKind.u64.wrap ((IntKind.u64.wrap (a0)) * 2)) (IntKind.u64.wrap (a0 / 9223372036854775808))) (([] : List Int))) = some r := h; clear h; obtain ⟨y159, hy159⟩ : ∃ y_ : List Int, y_ = (([] : List Int)) := ⟨_, rfl⟩; replace H : (impl_numBytes.l0 k (Go.bits .xor .u64 (IntKind.u64.wrap ((IntKind.u64.wrap (a0)) * 2)) (IntKind.u64.wrap (a0 / 9223372036854775808))) y159) = some r := by first | (rw [hy159]; exact H) | exact H
 have Ny159 := Aside0.mk hy159; clear hy159; have H' := Aside0.mk H; clear H; go_enter Try.func21, Try.ntmps21; go_wp2_with (first | ((with_reducible refine gate_dst (N := 12) rfl ?_); refine Kd.R_lit (Kd.int .u8) _ 5 ?hg (N := 12) ?hd (xs := ([] : List Int)) (inner := []) (ok := fun _ => True) (okp := fun _ => True) ?hr ?hp (fun _ hk => hk) trivial (Below.refl _ _) (Nat.le_refl _) (by simp) ?_; (case hd => rfl); (case hg => rfl); (case hr => first | (go_simp; done) | (go_simp; rfl)); (case hp => exact (Reps.none _ _)); intro v160 w2 ho3 hb hg_ hnew_; clear hg_ hnew_; (first | rw [← Ny159.out] at ho3 | (simp only [Int.reduceToNat] at ho3; rw [← Ny159.out] at ho3)); have HO161 := Aside0.mk (Kd.R_lower ho3 (below_size HB.out)); replace HB := Aside0.mk (below_step HB.out hb); clear hb ho3))
 go_loopg [3, 4] k (fun kq v3 v4 w' => ∃ (x3_1 : Int) (x4_1 : List Int), v3 = .int .u64 x3_1 ∧ Aside0 (impl_numBytes.l0 kq x3_1 x4_1 = some r) ∧ Aside0 (kq ≤ k) ∧ Aside0 (Kd.R (Kd.int .u8) 5 w' w.heap.size (fun _ => True) v4 x4_1) ∧ Aside0 (Below w.heap.size w w'))
 case atStart => exact ⟨(Go.bits .xor .u64 (IntKind.u64.wrap ((IntKind.u64.wrap (a0)) * 2)) (IntKind.u64.wrap (a0 / 9223372036854775808))), (y159), (by first | rfl | (simp; done) | (simp [*]; done)), H', ⟨Nat.le_refl _⟩, ⟨(a19_ HO161.out)⟩, ⟨(a12_ HB.out)⟩⟩
 case round =>
  clear H'; (try clear c2); (try clear p2); obtain ⟨x3_1, x4_1, rfl, HA, HK1, HO_4, HB⟩ := hrel
  cases gk with
  | zero => exact absurd HA.out (by simp [impl_numBytes.l0])
  | succ k1 =>
   have H := HA.out; clear HA; simp only [impl_numBytes.l0] at H; by_cases c4 : x3_1 > 127
   ·
    rw [if_pos c4] at H; have c4b0 : decide (127 < x3_1) = true := decide_eq_true c4; clear c4; by_cases c5 : x4_1.length < 140737488355328
    ·
     rw [if_pos c5] at H; have LMc5 := Aside0.mk c5; clear c5; obtain ⟨y162, hy162⟩ : ∃ y_ : List Int, y_ = (x4_1 ++ [Go.bits .or .u8 ((x3_1) % 256) 128]) := ⟨_, rfl⟩; replace H : (impl_numBytes.l0 k1 (x3_1 / 128) y162) = some r := by first | (rw [hy162]; exact H) | exact H
     have Ny162 := Aside0.mk hy162; clear hy162; have H' := Aside0.mk H; clear H; go_wp2_with (first | ((with_reducible refine gate_builtin (b := .append) (xs := #[.tmp 15, .tmp 19]) rfl ?_); at_builtin; refine Kd.R_append (Kd.int .u8) (w0 := w) w.heap.size rfl (.tmp 15) (.tmp 19) 22 5 (.int .u8 0) 1 rfl Try.underlying22 info5 rfl (by decide) (by omega) u4 x4_1 (Go.bits .or .u8 ((x3_1) % 256) 128) [.int .u8 (Go.bits .or .u8 ((x3_1) % 256) 128)] (fun _ => True) (fun _ => False) rfl rfl ?aP (fun _ hk => hk.elim) ?aF ?aO ?aB ?aS ?aL ?_; (case aP => exact rfl); (case aB => exact HB.out); (case aF => exact (fun _ _ => trivial)); (case aO => exact HO_4.out); (case aS => exact (below_size HB.out)); (case aL => have := LMc5.out; omega); intro v163 w6 ho hb hg hat; rw [← Ny162.out] at ho; have n0_ := Aside0.mk (hb); have n1_ := Aside0.mk (ho); clear HB; clear HO_4; have HB := n0_; have HO164 := n1_; clear n0_ n1_; clear ho hb hg hat))
     go_roundg k1
     case measure => have := HK1.out; omega
     case rel => exact ⟨(x3_1 / 128), (y162), (by first | rfl | (simp; done) | (simp [*]; done)), H', ⟨by have := HK1.out; omega⟩, ⟨(a19_ HO164.out)⟩, ⟨(a12_ HB.out)⟩⟩
    ·
     rw [if_neg c5] at H; exact absurd H (by simp)
   ·
    rw [if_neg c4] at H; have c4b0 : decide (127 < x3_1) = false := decide_eq_false c4; clear c4; by_cases c7 : x4_1.length < 140737488355328
    ·
     rw [if_pos c7] at H; have LMc7 := Aside0.mk c7; clear c7; obtain ⟨y165, hy165⟩ : ∃ y_ : List Int, y_ = (x4_1 ++ [(x3_1) % 256]) := ⟨_, rfl⟩; replace H : (some y165) = some r := by first | (rw [hy165]; exact H) | exact H
     have Ny165 := Aside0.mk hy165; clear hy165; obtain rfl := Option.some.inj H; go_wp2_with (first | ((with_reducible refine gate_builtin (b := .append) (xs := #[.tmp 23, .tmp 26]) rfl ?_); at_builtin; refine Kd.R_append (Kd.int .u8) (w0 := w) w.heap.size rfl (.tmp 23) (.tmp 26) 22 5 (.int .u8 0) 1 rfl Try.underlying22 info5 rfl (by decide) (by omega) u4 x4_1 ((x3_1) % 256) [.int .u8 ((x3_1) % 256)] (fun _ => True) (fun _ => False) rfl rfl ?aP (fun _ hk => hk.elim) ?aF ?aO ?aB ?aS ?aL ?_; (case aP => exact rfl); (case aB => exact HB.out); (case aF => exact (fun _ _ => trivial)); (case aO => exact HO_4.out); (case aS => exact (below_size HB.out)); (case aL => have := LMc7.out; omega); intro v166 w8 ho hb hg hat; rw [← Ny165.out] at ho; have n0_ := Aside0.mk (hb); have n1_ := Aside0.mk (ho); clear HB; clear HO_4; have HB := n0_; have HO167 := n1_; clear n0_ n1_; clear ho hb hg hat))
     go_ret
     exact ⟨_, a3_, (a19_ HO167.out), (a12_ HB.out)⟩
    ·
     rw [if_neg c7] at H; exact absurd H (by simp)

/-! ### impl_PutNum: function 49 -/
def impl_PutNum.f (k : Nat) (a0 : Int) : Option (ByteArray) := (impl_numBytes.f k a0).bind fun t168 => (some (strOfNums t168))
theorem impl_PutNum.mono : ∀ a0 k, LeO (impl_PutNum.f k a0) (impl_PutNum.f (k + 1) a0) := by
  intro a0 k
  unfold impl_PutNum.f
  repeat' first | (with_reducible exact impl_numBytes.mono _ _) | (with_reducible exact LeO.refl _) | (with_reducible exact LeO.none _) | (with_reducible refine LeO.ite ?_ ?_) | (with_reducible refine LeO.bind ?_ (fun _ => ?_)) | exact impl_numBytes.mono _ _ | exact LeO.none _ | refine LeO.ite ?_ ?_ | refine LeO.bind ?_ (fun _ => ?_)
theorem impl_PutNum.calls (k : Nat) (a0 : Int) (r : ByteArray) (w : World) (h : impl_PutNum.f k a0 = some r) :
    Calls Try.prog 49 #[.int .i64 a0] w fun e w' => e = .returned (.string r) ∧ Below w.heap.size w w' := by
 have HB := Aside0.mk (Below.refl w.heap.size w); have H : ((impl_numBytes.f k a0).bind fun t168 => (some (strOfNums t168))) = some r := h; clear h; replace H := Option.bind_eq_some_iff.mp H; obtain ⟨t168, A20, H⟩ := H; have A2 := Aside0.mk A20; clear A20; obtain rfl := Option.some.inj H; go_enter Try.func49, Try.ntmps49; go_wp2_with (first | ((with_reducible refine gate_callee (f := 21) rfl ?_); refine gl_ (some 4) Try.func21 #[.int .i64 a0] ?_; (with_reducible refine (impl_numBytes.calls k a0 t168 _ A2.out).mono ?_); rintro e w3 ⟨v169, rfl, ho0, hb⟩; refine ⟨_, rfl, ?_⟩; have HO170 := Aside0.mk (Kd.R_lower ho0 (below_size HB.out)); replace HB := Aside0.mk (below_step HB.out hb); (try clear hb); (try clear hb2); (try clear hk); (try clear hi); (try clear ho0); have hcv4 := own_string (P := Try.prog) Try.underlying22 Try.underlying5 Try.underlying9 (Kd.own_of_R HO170.out)))
 go_ret
 exact ⟨a3_, (a12_ HB.out)⟩

/-! ### impl_PutText: function 22 -/
def impl_PutText.f (k : Nat) (a0 : ByteArray) : Option (ByteArray) := if (a0.size : Int) > 8000 then (some (⟨#[]⟩ : ByteArray)) else ((impl_PutNum.f k (a0.size : Int)).bind fun t171 => (if t171.size + a0.size ≤ 9223372036854775807 then (some (t171 ++ a0)) else (none)))
theorem impl_PutText.mono : ∀ a0 k, LeO (impl_PutText.f k a0) (impl_PutText.f (k + 1) a0) := by
  intro a0 k
  unfold impl_PutText.f
  repeat' first | (with_reducible exact impl_PutNum.mono _ _) | (with_reducible exact LeO.refl _) | (with_reducible exact LeO.none _) | (with_reducible refine LeO.ite ?_ ?_) | (with_reducible refine LeO.bind ?_ (fun _ => ?_)) | exact impl_PutNum.mono _ _ | exact LeO.none _ | refine LeO.ite ?_ ?_ | refine LeO.bind ?_ (fun _ => ?_)
theorem impl_PutText.calls (k : Nat) (a0 : ByteArray) (r : ByteArray) (w : World) (h : impl_PutText.f k a0 = some r) :
    Calls Try.prog 22 #[.string a0] w fun e w' => e = .returned (.string r) ∧ Below w.heap.size w w' := by
 have HB := Aside0.mk (Below.refl w.heap.size w); have H : (if (a0.size : Int) > 8000 then (some (⟨#[]⟩ : ByteArray)) else ((impl_PutNum.f k (a0.size : Int)).bind fun t171 => (if t171.size + a0.size ≤ 9223372036854775807 then (some (t171 ++ a0)) else (none)))) = some r := h; clear h; by_cases c2 : (a0.size : Int) > 8000
 ·
  rw [if_pos c2] at H; have c2b0 : decide (8000 < (a0.size : Int)) = true := decide_eq_true c2; have c2b1 : decide (8000 < a0.size) = true := decide_eq_true (by omega); clear c2; obtain rfl := Option.some.inj H; go_enter Try.func22, Try.ntmps22; go_wp2
  go_ret
  exact ⟨a3_, (a12_ HB.out)⟩
 ·
  rw [if_neg c2] at H; have c2b0 : decide (8000 < (a0.size : Int)) = false := decide_eq_false c2; have c2b1 : decide (8000 < a0.size) = false := decide_eq_false (by omega); clear c2; replace H := Option.bind_eq_some_iff.mp H; obtain ⟨t171, A30, H⟩ := H; have A3 := Aside0.mk A30; clear A30; by_cases c4 : t171.size + a0.size ≤ 9223372036854775807
  ·
   rw [if_pos c4] at H; have c4b0 := eq_true c4; have c4b1 : decide (t171.size + a0.size ≤ 9223372036854775807) = true := decide_eq_true c4; try have c4b2 : (9223372036854775807 < t171.size + a0.size) = False := eq_false (Nat.not_lt.2 c4)
   obtain rfl := Option.some.inj H; go_enter Try.func22, Try.ntmps22; go_wp2_with (first | ((with_reducible refine gate_callee (f := 49) rfl ?_); refine gl_ (some 8) Try.func49 #[.int .i64 (a0.size : Int)] ?_; (with_reducible refine (impl_PutNum.calls k (a0.size : Int) t171 _ A3.out).mono ?_); rintro e w5 ⟨rfl, hb⟩; refine ⟨_, rfl, ?_⟩; replace HB := Aside0.mk (below_step HB.out hb); (try clear hb); (try clear hb2); (try clear hk); (try clear hi)))
   go_ret
   exact ⟨a3_, (a12_ HB.out)⟩
  ·
   rw [if_neg c4] at H; exact absurd H (by simp)

end Go.Proofs.Yteimdbmfgojioaa.Print
