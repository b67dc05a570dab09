-- Printed by wip/myprint.py over the kit's print, in this session's own call.
import Derived.Test.YtpkeddplfnannaaPrint0
import Derived.Test.YtpkeddplfnannaaPrint10
namespace Go.Proofs.Ytpkeddplfnannaa.Print
open Go.RowKit Go.Proofs.YtpkeddplfnannaaW.PrintWords Go.Proofs.YtpkeddplfnannaaW.PrintLast Go.Proofs.YtpkeddplfnannaaW.PrintMore
attribute [local go_sem] max2_int min2_int max_two min_two max_three min_three max_four min_four   -- for this text's walks alone
set_option linter.unusedVariables false
set_option linter.unusedSimpArgs false

/-! ### impl_Event_fieldsRight: function 90 -/
def impl_Event_fieldsRight.f (a0_0 : Int) (a0_1 : Int) (a0_2 : Int) (a0_3 : Int) (a0_4 : Int) (a0_5 : Int) (a0_6 : ByteArray) (l0_7 : List Int) (a0_8 : Int) : Option (Bool) := if a0_3 = 1 then (if a0_4 = 0 then (if a0_5 = 0 then (some ((a0_6.size : Int) == 0)) else (some false)) else (some false)) else (if a0_3 = 2 then ((impl_isUser.f a0_4).bind fun t266 => (if t266 = true then ((impl_in.f a0_5 1 4).bind fun t267 => (if t267 = true then (some ((a0_6.size : Int) == 0)) else (some false))) else (some false))) else (if a0_3 = 3 then ((impl_isUser.f a0_4).bind fun t268 => (if t268 = true then ((impl_in.f a0_5 0 100).bind fun t269 => (if t269 = true then (some ((a0_6.size : Int) == 0)) else (some false))) else (some false))) else (if a0_3 = 4 then (if a0_4 = 0 then (if a0_5 = 0 then (some (decide ((a0_6.size : Int) ≤ 30))) else (some false)) else (some false)) else (if a0_3 = 5 then (if a0_4 = 0 then ((impl_in.f a0_5 1 2).bind fun t270 => (if t270 = true then (some ((a0_6.size : Int) == 0)) else (some false))) else (some false)) else (if a0_3 = 6 then (if a0_4 = 0 then ((impl_in.f a0_5 1 3).bind fun t271 => (if t271 = true then (some ((a0_6.size : Int) == 0)) else (some false))) else (some false)) else (if a0_3 = 7 then (if a0_4 = 0 then (if a0_5 = 0 then ((impl_in.f (a0_6.size : Int) 1 30).bind fun t272 => (some t272)) else (some false)) else (some false)) else (if a0_3 = 8 then ((impl_isId.f a0_4).bind fun t273 => (if t273 = true then (if a0_5 = 0 then (some ((a0_6.size : Int) == 0)) else (some false)) else (some false))) else (some false))))))))
set_option maxHeartbeats 8000000 in
set_option maxRecDepth 100000 in
theorem impl_Event_fieldsRight.calls (a0_0 : Int) (a0_1 : Int) (a0_2 : Int) (a0_3 : Int) (a0_4 : Int) (a0_5 : Int) (a0_6 : ByteArray) (A0_7 : Option Addr) (c0_7 : Nat) (l0_7 : List Int) (a0_8 : Int) (r : Bool) (w : World) (hr0_7 : Kd.C (Kd.int .i64) w A0_7 l0_7.length l0_7) (hc0_7 : l0_7.length ≤ c0_7) (h : impl_Event_fieldsRight.f a0_0 a0_1 a0_2 a0_3 a0_4 a0_5 a0_6 l0_7 a0_8 = some r) :
    Calls Try.prog 90 #[.agg #[.int .i64 a0_0, .int .i64 a0_1, .int .i64 a0_2, .int .i64 a0_3, .int .i64 a0_4, .int .i64 a0_5, .string a0_6, .slice A0_7 l0_7.length c0_7, .int .i64 a0_8]] w fun e w' => e = .returned (.bool r) ∧ Below w.heap.size w w' := by
 have hu61 := Try.underlying61; have HR0_7 := Aside0.mk hr0_7; have HC0_7 := Aside0.mk hc0_7; clear hr0_7 hc0_7; have HB := Aside0.mk (Below.refl w.heap.size w); have H : (if a0_3 = 1 then (if a0_4 = 0 then (if a0_5 = 0 then (some ((a0_6.size : Int) == 0)) else (some false)) else (some false)) else (if a0_3 = 2 then ((impl_isUser.f a0_4).bind fun t266 => (if t266 = true then ((impl_in.f a0_5 1 4).bind fun t267 => (if t267 = true then (some ((a0_6.size : Int) == 0)) else (some false))) else (some false))) else (if a0_3 = 3 then ((impl_isUser.f a0_4).bind fun t268 => (if t268 = true then ((impl_in.f a0_5 0 100).bind fun t269 => (if t269 = true then (some ((a0_6.size : Int) == 0)) else (some false))) else (some false))) else (if a0_3 = 4 then (if a0_4 = 0 then (if a0_5 = 0 then (some (decide ((a0_6.size : Int) ≤ 30))) else (some false)) else (some false)) else (if a0_3 = 5 then (if a0_4 = 0 then ((impl_in.f a0_5 1 2).bind fun t270 => (if t270 = true then (some ((a0_6.size : Int) == 0)) else (some false))) else (some false)) else (if a0_3 = 6 then (if a0_4 = 0 then ((impl_in.f a0_5 1 3).bind fun t271 => (if t271 = true then (some ((a0_6.size : Int) == 0)) else (some false))) else (some false)) else (if a0_3 = 7 then (if a0_4 = 0 then (if a0_5 = 0 then ((impl_in.f (a0_6.size : Int) 1 30).bind fun t272 => (some t272)) else (some false)) else (some false)) else (if a0_3 = 8 then ((impl_isId.f a0_4).bind fun t273 => (if t273 = true then (if a0_5 = 0 then (some ((a0_6.size : Int) == 0)) else (some false)) else (some false))) else (some false))))))))) = some r := h
 clear h; go_enter Try.func90, Try.ntmps90; go_upto_if 17 with (first | ((with_reducible refine gate_dst (N := 1) rfl ?_); refine be_ 1 #[.int .i64 a0_0, .int .i64 a0_1, .int .i64 a0_2, .int .i64 a0_3, .int .i64 a0_4, .int .i64 a0_5, .string a0_6, .slice A0_7 l0_7.length c0_7, .int .i64 a0_8] 61 ?_; intro gb265 hg w5 hbox hb; have n0_ := Aside0.mk (below_step (a1_ HB.out) hb); have n1_ := Aside0.mk (hbox); have n2_ := Aside0.mk ((by rw [hg]; exact (below_size (a1_ HB.out)) : w.heap.size ≤ gb265)); have n3_ := n2_; clear HB; have HB := n0_; have BK265 := n1_; have GW265 := n2_; have GE265 := n3_; clear n0_ n1_ n2_ n3_; clear hb hbox hg; obtain ⟨⟨hcz6_0, hcz6_1, hcz6_2, hcz6_3, hcz6_4, hcz6_5, hcz6_6, hcz6_7, hcz6_8⟩, hfz6_0, hfz6_1, hfz6_2, hfz6_3, hfz6_4, hfz6_5, hfz6_6, hfz6_7, hfz6_8⟩ := cells_9 BK265.out))
 by_cases c2 : a0_3 = 1
 ·
  rw [if_pos c2] at H; have c2b0 : (a0_3 == 1) = true := beq_iff_eq.mpr c2; have c2b1 : (a0_3 != 1) = false := bne_eq_false_iff_eq.mpr c2; clear c2; (try simp only [c2b0, Bool.not_true, Bool.not_false])
  (try simp only [c2b1, Bool.not_true, Bool.not_false])
  by_cases c3 : a0_4 = 0
  ·
   rw [if_pos c3] at H; have c3b0 : (a0_4 == 0) = true := beq_iff_eq.mpr c3; have c3b1 : (a0_4 != 0) = false := bne_eq_false_iff_eq.mpr c3; clear c3; by_cases c4 : a0_5 = 0
   ·
    rw [if_pos c4] at H; have c4b0 : (a0_5 == 0) = true := beq_iff_eq.mpr c4; have c4b1 : (a0_5 != 0) = false := bne_eq_false_iff_eq.mpr c4; clear c4; obtain rfl := Option.some.inj H; go_wp2
    repeat (go_quiet (fail); try go_wp2)
    go_ret
    exact ⟨a2_, (a3_ HB.out GE265.out)⟩
   ·
    rw [if_neg c4] at H; have c4b0 : (a0_5 == 0) = false := beq_eq_false_iff_ne.mpr c4; have c4b1 : (a0_5 != 0) = true := bne_iff_ne.mpr c4; obtain rfl := Option.some.inj H; go_wp2
    repeat (go_quiet (fail); try go_wp2)
    go_ret
    exact ⟨a2_, (a3_ HB.out GE265.out)⟩
  ·
   rw [if_neg c3] at H; have c3b0 : (a0_4 == 0) = false := beq_eq_false_iff_ne.mpr c3; have c3b1 : (a0_4 != 0) = true := bne_iff_ne.mpr c3; obtain rfl := Option.some.inj H; go_wp2
   repeat (go_quiet (fail); try go_wp2)
   go_ret
   exact ⟨a2_, (a3_ HB.out GE265.out)⟩
 ·
  rw [if_neg c2] at H; have c2b0 : (a0_3 == 1) = false := beq_eq_false_iff_ne.mpr c2; have c2b1 : (a0_3 != 1) = true := bne_iff_ne.mpr c2; (try simp only [c2b0, Bool.not_true, Bool.not_false])
  (try simp only [c2b1, Bool.not_true, Bool.not_false])
  by_cases c11 : a0_3 = 2
  ·
   rw [if_pos c11] at H; have c11b0 : (a0_3 == 2) = true := beq_iff_eq.mpr c11; have c11b1 : (a0_3 != 2) = false := bne_eq_false_iff_eq.mpr c11; clear c11; replace H := Option.bind_eq_some_iff.mp H; obtain ⟨t266, A120, H⟩ := H; replace H : (if t266 = true then ((impl_in.f a0_5 1 4).bind fun t267 => (if t267 = true then (some ((a0_6.size : Int) == 0)) else (some false))) else (some false)) = some r := H; have A12 := Aside0.mk A120; clear A120; by_cases c13 : t266 = true
   ·
    subst c13; have H1 : ((impl_in.f a0_5 1 4).bind fun t267 => (if t267 = true then (some ((a0_6.size : Int) == 0)) else (some false))) = some r := by rw [if_pos rfl] at H; exact H
    clear H; have H := H1; clear H1; replace H := Option.bind_eq_some_iff.mp H; obtain ⟨t267, A140, H⟩ := H; replace H : (if t267 = true then (some ((a0_6.size : Int) == 0)) else (some false)) = some r := H; have A14 := Aside0.mk A140; clear A140; by_cases c15 : t267 = true
    ·
     subst c15; have H1 : (some ((a0_6.size : Int) == 0)) = some r := by rw [if_pos rfl] at H; exact H
     clear H; have H := H1; clear H1; obtain rfl := Option.some.inj H; go_wp2_with (first | (go_at_call 25; (with_reducible refine (impl_isUser.calls a0_4 true _ A12.out).mono ?_); rintro e w' ⟨rfl, ⟨nd, rfl⟩⟩; (try exact dd_)) | (go_at_call 44; (with_reducible refine (impl_in.calls a0_5 1 4 true _ A14.out).mono ?_); rintro e w' ⟨rfl, ⟨nd, rfl⟩⟩; (try exact dd_)))
     repeat (go_quiet (first | (go_at_call 25; (with_reducible refine (impl_isUser.calls a0_4 true _ A12.out).mono ?_); rintro e w' ⟨rfl, ⟨nd, rfl⟩⟩; (try exact dd_)) | (go_at_call 44; (with_reducible refine (impl_in.calls a0_5 1 4 true _ A14.out).mono ?_); rintro e w' ⟨rfl, ⟨nd, rfl⟩⟩; (try exact dd_))); try go_wp2_with (first | (go_at_call 25; (with_reducible refine (impl_isUser.calls a0_4 true _ A12.out).mono ?_); rintro e w' ⟨rfl, ⟨nd, rfl⟩⟩; (try exact dd_)) | (go_at_call 44; (with_reducible refine (impl_in.calls a0_5 1 4 true _ A14.out).mono ?_); rintro e w' ⟨rfl, ⟨nd, rfl⟩⟩; (try exact dd_))))
     go_ret
     exact ⟨a2_, (a3_ HB.out GE265.out)⟩
    ·
     replace c15 := Bool.eq_false_iff.mpr c15; subst c15; have H1 : (some false) = some r := by rw [if_neg (show ¬ (false = true) by decide)] at H; exact H
     clear H; have H := H1; clear H1; obtain rfl := Option.some.inj H; go_wp2_with (first | (go_at_call 25; (with_reducible refine (impl_isUser.calls a0_4 true _ A12.out).mono ?_); rintro e w' ⟨rfl, ⟨nd, rfl⟩⟩; (try exact dd_)) | (go_at_call 44; (with_reducible refine (impl_in.calls a0_5 1 4 false _ A14.out).mono ?_); rintro e w' ⟨rfl, ⟨nd, rfl⟩⟩; (try exact dd_)))
     repeat (go_quiet (first | (go_at_call 25; (with_reducible refine (impl_isUser.calls a0_4 true _ A12.out).mono ?_); rintro e w' ⟨rfl, ⟨nd, rfl⟩⟩; (try exact dd_)) | (go_at_call 44; (with_reducible refine (impl_in.calls a0_5 1 4 false _ A14.out).mono ?_); rintro e w' ⟨rfl, ⟨nd, rfl⟩⟩; (try exact dd_))); try go_wp2_with (first | (go_at_call 25; (with_reducible refine (impl_isUser.calls a0_4 true _ A12.out).mono ?_); rintro e w' ⟨rfl, ⟨nd, rfl⟩⟩; (try exact dd_)) | (go_at_call 44; (with_reducible refine (impl_in.calls a0_5 1 4 false _ A14.out).mono ?_); rintro e w' ⟨rfl, ⟨nd, rfl⟩⟩; (try exact dd_))))
     go_ret
     exact ⟨a2_, (a3_ HB.out GE265.out)⟩
   ·
    replace c13 := Bool.eq_false_iff.mpr c13; subst c13; have H1 : (some false) = some r := by rw [if_neg (show ¬ (false = true) by decide)] at H; exact H
    clear H; have H := H1; clear H1; obtain rfl := Option.some.inj H; go_wp2_with (first | (go_at_call 25; (with_reducible refine (impl_isUser.calls a0_4 false _ A12.out).mono ?_); rintro e w' ⟨rfl, ⟨nd, rfl⟩⟩; (try exact dd_)))
    repeat (go_quiet (first | (go_at_call 25; (with_reducible refine (impl_isUser.calls a0_4 false _ A12.out).mono ?_); rintro e w' ⟨rfl, ⟨nd, rfl⟩⟩; (try exact dd_))); try go_wp2_with (first | (go_at_call 25; (with_reducible refine (impl_isUser.calls a0_4 false _ A12.out).mono ?_); rintro e w' ⟨rfl, ⟨nd, rfl⟩⟩; (try exact dd_))))
    go_ret
    exact ⟨a2_, (a3_ HB.out GE265.out)⟩
  ·
   rw [if_neg c11] at H; have c11b0 : (a0_3 == 2) = false := beq_eq_false_iff_ne.mpr c11; have c11b1 : (a0_3 != 2) = true := bne_iff_ne.mpr c11; by_cases c22 : a0_3 = 3
   ·
    rw [if_pos c22] at H; have c22b0 : (a0_3 == 3) = true := beq_iff_eq.mpr c22; have c22b1 : (a0_3 != 3) = false := bne_eq_false_iff_eq.mpr c22; clear c22; replace H := Option.bind_eq_some_iff.mp H; obtain ⟨t268, A230, H⟩ := H; replace H : (if t268 = true then ((impl_in.f a0_5 0 100).bind fun t269 => (if t269 = true then (some ((a0_6.size : Int) == 0)) else (some false))) else (some false)) = some r := H; have A23 := Aside0.mk A230; clear A230; by_cases c24 : t268 = true
    ·
     subst c24; have H1 : ((impl_in.f a0_5 0 100).bind fun t269 => (if t269 = true then (some ((a0_6.size : Int) == 0)) else (some false))) = some r := by rw [if_pos rfl] at H; exact H
     clear H; have H := H1; clear H1; replace H := Option.bind_eq_some_iff.mp H; obtain ⟨t269, A250, H⟩ := H; replace H : (if t269 = true then (some ((a0_6.size : Int) == 0)) else (some false)) = some r := H; have A25 := Aside0.mk A250; clear A250; by_cases c26 : t269 = true
     ·
      subst c26; have H1 : (some ((a0_6.size : Int) == 0)) = some r := by rw [if_pos rfl] at H; exact H
      clear H; have H := H1; clear H1; obtain rfl := Option.some.inj H; go_wp2_with (first | (go_at_call 25; (with_reducible refine (impl_isUser.calls a0_4 true _ A23.out).mono ?_); rintro e w' ⟨rfl, ⟨nd, rfl⟩⟩; (try exact dd_)) | (go_at_call 44; (with_reducible refine (impl_in.calls a0_5 0 100 true _ A25.out).mono ?_); rintro e w' ⟨rfl, ⟨nd, rfl⟩⟩; (try exact dd_)))
      repeat (go_quiet (first | (go_at_call 25; (with_reducible refine (impl_isUser.calls a0_4 true _ A23.out).mono ?_); rintro e w' ⟨rfl, ⟨nd, rfl⟩⟩; (try exact dd_)) | (go_at_call 44; (with_reducible refine (impl_in.calls a0_5 0 100 true _ A25.out).mono ?_); rintro e w' ⟨rfl, ⟨nd, rfl⟩⟩; (try exact dd_))); try go_wp2_with (first | (go_at_call 25; (with_reducible refine (impl_isUser.calls a0_4 true _ A23.out).mono ?_); rintro e w' ⟨rfl, ⟨nd, rfl⟩⟩; (try exact dd_)) | (go_at_call 44; (with_reducible refine (impl_in.calls a0_5 0 100 true _ A25.out).mono ?_); rintro e w' ⟨rfl, ⟨nd, rfl⟩⟩; (try exact dd_))))
      go_ret
      exact ⟨a2_, (a3_ HB.out GE265.out)⟩
     ·
      replace c26 := Bool.eq_false_iff.mpr c26; subst c26; have H1 : (some false) = some r := by rw [if_neg (show ¬ (false = true) by decide)] at H; exact H
      clear H; have H := H1; clear H1; obtain rfl := Option.some.inj H; go_wp2_with (first | (go_at_call 25; (with_reducible refine (impl_isUser.calls a0_4 true _ A23.out).mono ?_); rintro e w' ⟨rfl, ⟨nd, rfl⟩⟩; (try exact dd_)) | (go_at_call 44; (with_reducible refine (impl_in.calls a0_5 0 100 false _ A25.out).mono ?_); rintro e w' ⟨rfl, ⟨nd, rfl⟩⟩; (try exact dd_)))
      repeat (go_quiet (first | (go_at_call 25; (with_reducible refine (impl_isUser.calls a0_4 true _ A23.out).mono ?_); rintro e w' ⟨rfl, ⟨nd, rfl⟩⟩; (try exact dd_)) | (go_at_call 44; (with_reducible refine (impl_in.calls a0_5 0 100 false _ A25.out).mono ?_); rintro e w' ⟨rfl, ⟨nd, rfl⟩⟩; (try exact dd_))); try go_wp2_with (first | (go_at_call 25; (with_reducible refine (impl_isUser.calls a0_4 true _ A23.out).mono ?_); rintro e w' ⟨rfl, ⟨nd, rfl⟩⟩; (try exact dd_)) | (go_at_call 44; (with_reducible refine (impl_in.calls a0_5 0 100 false _ A25.out).mono ?_); rintro e w' ⟨rfl, ⟨nd, rfl⟩⟩; (try exact dd_))))
      go_ret
      exact ⟨a2_, (a3_ HB.out GE265.out)⟩
    ·
     replace c24 := Bool.eq_false_iff.mpr c24; subst c24; have H1 : (some false) = some r := by rw [if_neg (show ¬ (false = true) by decide)] at H; exact H
     clear H; have H := H1; clear H1; obtain rfl := Option.some.inj H; go_wp2_with (first | (go_at_call 25; (with_reducible refine (impl_isUser.calls a0_4 false _ A23.out).mono ?_); rintro e w' ⟨rfl, ⟨nd, rfl⟩⟩; (try exact dd_)))
     repeat (go_quiet (first | (go_at_call 25; (with_reducible refine (impl_isUser.calls a0_4 false _ A23.out).mono ?_); rintro e w' ⟨rfl, ⟨nd, rfl⟩⟩; (try exact dd_))); try go_wp2_with (first | (go_at_call 25; (with_reducible refine (impl_isUser.calls a0_4 false _ A23.out).mono ?_); rintro e w' ⟨rfl, ⟨nd, rfl⟩⟩; (try exact dd_))))
     go_ret
     exact ⟨a2_, (a3_ HB.out GE265.out)⟩
   ·
    rw [if_neg c22] at H; have c22b0 : (a0_3 == 3) = false := beq_eq_false_iff_ne.mpr c22; have c22b1 : (a0_3 != 3) = true := bne_iff_ne.mpr c22; by_cases c33 : a0_3 = 4
    ·
     rw [if_pos c33] at H; have c33b0 : (a0_3 == 4) = true := beq_iff_eq.mpr c33; have c33b1 : (a0_3 != 4) = false := bne_eq_false_iff_eq.mpr c33; clear c33; by_cases c34 : a0_4 = 0
     ·
      rw [if_pos c34] at H; have c34b0 : (a0_4 == 0) = true := beq_iff_eq.mpr c34; have c34b1 : (a0_4 != 0) = false := bne_eq_false_iff_eq.mpr c34; clear c34; by_cases c35 : a0_5 = 0
      ·
       rw [if_pos c35] at H; have c35b0 : (a0_5 == 0) = true := beq_iff_eq.mpr c35; have c35b1 : (a0_5 != 0) = false := bne_eq_false_iff_eq.mpr c35; clear c35; obtain rfl := Option.some.inj H; go_wp2
       repeat (go_quiet (fail); try go_wp2)
       go_ret
       exact ⟨a2_, (a3_ HB.out GE265.out)⟩
      ·
       rw [if_neg c35] at H; have c35b0 : (a0_5 == 0) = false := beq_eq_false_iff_ne.mpr c35; have c35b1 : (a0_5 != 0) = true := bne_iff_ne.mpr c35; obtain rfl := Option.some.inj H; go_wp2
       repeat (go_quiet (fail); try go_wp2)
       go_ret
       exact ⟨a2_, (a3_ HB.out GE265.out)⟩
     ·
      rw [if_neg c34] at H; have c34b0 : (a0_4 == 0) = false := beq_eq_false_iff_ne.mpr c34; have c34b1 : (a0_4 != 0) = true := bne_iff_ne.mpr c34; obtain rfl := Option.some.inj H; go_wp2
      repeat (go_quiet (fail); try go_wp2)
      go_ret
      exact ⟨a2_, (a3_ HB.out GE265.out)⟩
    ·
     rw [if_neg c33] at H; have c33b0 : (a0_3 == 4) = false := beq_eq_false_iff_ne.mpr c33; have c33b1 : (a0_3 != 4) = true := bne_iff_ne.mpr c33; by_cases c42 : a0_3 = 5
     ·
      rw [if_pos c42] at H; have c42b0 : (a0_3 == 5) = true := beq_iff_eq.mpr c42; have c42b1 : (a0_3 != 5) = false := bne_eq_false_iff_eq.mpr c42; clear c42; by_cases c43 : a0_4 = 0
      ·
       rw [if_pos c43] at H; have c43b0 : (a0_4 == 0) = true := beq_iff_eq.mpr c43; have c43b1 : (a0_4 != 0) = false := bne_eq_false_iff_eq.mpr c43; clear c43; replace H := Option.bind_eq_some_iff.mp H; obtain ⟨t270, A440, H⟩ := H; replace H : (if t270 = true then (some ((a0_6.size : Int) == 0)) else (some false)) = some r := H; have A44 := Aside0.mk A440; clear A440; by_cases c45 : t270 = true
       ·
        subst c45; have H1 : (some ((a0_6.size : Int) == 0)) = some r := by rw [if_pos rfl] at H; exact H
        clear H; have H := H1; clear H1; obtain rfl := Option.some.inj H; go_wp2_with (first | (go_at_call 44; (with_reducible refine (impl_in.calls a0_5 1 2 true _ A44.out).mono ?_); rintro e w' ⟨rfl, ⟨nd, rfl⟩⟩; (try exact dd_)))
        repeat (go_quiet (first | (go_at_call 44; (with_reducible refine (impl_in.calls a0_5 1 2 true _ A44.out).mono ?_); rintro e w' ⟨rfl, ⟨nd, rfl⟩⟩; (try exact dd_))); try go_wp2_with (first | (go_at_call 44; (with_reducible refine (impl_in.calls a0_5 1 2 true _ A44.out).mono ?_); rintro e w' ⟨rfl, ⟨nd, rfl⟩⟩; (try exact dd_))))
        go_ret
        exact ⟨a2_, (a3_ HB.out GE265.out)⟩
       ·
        replace c45 := Bool.eq_false_iff.mpr c45; subst c45; have H1 : (some false) = some r := by rw [if_neg (show ¬ (false = true) by decide)] at H; exact H
        clear H; have H := H1; clear H1; obtain rfl := Option.some.inj H; go_wp2_with (first | (go_at_call 44; (with_reducible refine (impl_in.calls a0_5 1 2 false _ A44.out).mono ?_); rintro e w' ⟨rfl, ⟨nd, rfl⟩⟩; (try exact dd_)))
        repeat (go_quiet (first | (go_at_call 44; (with_reducible refine (impl_in.calls a0_5 1 2 false _ A44.out).mono ?_); rintro e w' ⟨rfl, ⟨nd, rfl⟩⟩; (try exact dd_))); try go_wp2_with (first | (go_at_call 44; (with_reducible refine (impl_in.calls a0_5 1 2 false _ A44.out).mono ?_); rintro e w' ⟨rfl, ⟨nd, rfl⟩⟩; (try exact dd_))))
        go_ret
        exact ⟨a2_, (a3_ HB.out GE265.out)⟩
      ·
       rw [if_neg c43] at H; have c43b0 : (a0_4 == 0) = false := beq_eq_false_iff_ne.mpr c43; have c43b1 : (a0_4 != 0) = true := bne_iff_ne.mpr c43; obtain rfl := Option.some.inj H; go_wp2
       repeat (go_quiet (fail); try go_wp2)
       go_ret
       exact ⟨a2_, (a3_ HB.out GE265.out)⟩
     ·
      rw [if_neg c42] at H; have c42b0 : (a0_3 == 5) = false := beq_eq_false_iff_ne.mpr c42; have c42b1 : (a0_3 != 5) = true := bne_iff_ne.mpr c42; by_cases c52 : a0_3 = 6
      ·
       rw [if_pos c52] at H; have c52b0 : (a0_3 == 6) = true := beq_iff_eq.mpr c52; have c52b1 : (a0_3 != 6) = false := bne_eq_false_iff_eq.mpr c52; clear c52; by_cases c53 : a0_4 = 0
       ·
        rw [if_pos c53] at H; have c53b0 : (a0_4 == 0) = true := beq_iff_eq.mpr c53; have c53b1 : (a0_4 != 0) = false := bne_eq_false_iff_eq.mpr c53; clear c53; replace H := Option.bind_eq_some_iff.mp H; obtain ⟨t271, A540, H⟩ := H; replace H : (if t271 = true then (some ((a0_6.size : Int) == 0)) else (some false)) = some r := H; have A54 := Aside0.mk A540; clear A540; by_cases c55 : t271 = true
        ·
         subst c55; have H1 : (some ((a0_6.size : Int) == 0)) = some r := by rw [if_pos rfl] at H; exact H
         clear H; have H := H1; clear H1; obtain rfl := Option.some.inj H; go_wp2_with (first | (go_at_call 44; (with_reducible refine (impl_in.calls a0_5 1 3 true _ A54.out).mono ?_); rintro e w' ⟨rfl, ⟨nd, rfl⟩⟩; (try exact dd_)))
         repeat (go_quiet (first | (go_at_call 44; (with_reducible refine (impl_in.calls a0_5 1 3 true _ A54.out).mono ?_); rintro e w' ⟨rfl, ⟨nd, rfl⟩⟩; (try exact dd_))); try go_wp2_with (first | (go_at_call 44; (with_reducible refine (impl_in.calls a0_5 1 3 true _ A54.out).mono ?_); rintro e w' ⟨rfl, ⟨nd, rfl⟩⟩; (try exact dd_))))
         go_ret
         exact ⟨a2_, (a3_ HB.out GE265.out)⟩
        ·
         replace c55 := Bool.eq_false_iff.mpr c55; subst c55; have H1 : (some false) = some r := by rw [if_neg (show ¬ (false = true) by decide)] at H; exact H
         clear H; have H := H1; clear H1; obtain rfl := Option.some.inj H; go_wp2_with (first | (go_at_call 44; (with_reducible refine (impl_in.calls a0_5 1 3 false _ A54.out).mono ?_); rintro e w' ⟨rfl, ⟨nd, rfl⟩⟩; (try exact dd_)))
         repeat (go_quiet (first | (go_at_call 44; (with_reducible refine (impl_in.calls a0_5 1 3 false _ A54.out).mono ?_); rintro e w' ⟨rfl, ⟨nd, rfl⟩⟩; (try exact dd_))); try go_wp2_with (first | (go_at_call 44; (with_reducible refine (impl_in.calls a0_5 1 3 false _ A54.out).mono ?_); rintro e w' ⟨rfl, ⟨nd, rfl⟩⟩; (try exact dd_))))
         go_ret
         exact ⟨a2_, (a3_ HB.out GE265.out)⟩
       ·
        rw [if_neg c53] at H; have c53b0 : (a0_4 == 0) = false := beq_eq_false_iff_ne.mpr c53; have c53b1 : (a0_4 != 0) = true := bne_iff_ne.mpr c53; obtain rfl := Option.some.inj H; go_wp2
        repeat (go_quiet (fail); try go_wp2)
        go_ret
        exact ⟨a2_, (a3_ HB.out GE265.out)⟩
      ·
       rw [if_neg c52] at H; have c52b0 : (a0_3 == 6) = false := beq_eq_false_iff_ne.mpr c52; have c52b1 : (a0_3 != 6) = true := bne_iff_ne.mpr c52; by_cases c62 : a0_3 = 7
       ·
        rw [if_pos c62] at H; have c62b0 : (a0_3 == 7) = true := beq_iff_eq.mpr c62; have c62b1 : (a0_3 != 7) = false := bne_eq_false_iff_eq.mpr c62; clear c62; by_cases c63 : a0_4 = 0
        ·
         rw [if_pos c63] at H; have c63b0 : (a0_4 == 0) = true := beq_iff_eq.mpr c63; have c63b1 : (a0_4 != 0) = false := bne_eq_false_iff_eq.mpr c63; clear c63; by_cases c64 : a0_5 = 0
         ·
          rw [if_pos c64] at H; have c64b0 : (a0_5 == 0) = true := beq_iff_eq.mpr c64; have c64b1 : (a0_5 != 0) = false := bne_eq_false_iff_eq.mpr c64; clear c64; replace H := Option.bind_eq_some_iff.mp H; obtain ⟨t272, A650, H⟩ := H; replace H : (some t272) = some r := H; have A65 := Aside0.mk A650; clear A650; obtain rfl := Option.some.inj H; go_wp2_with (first | (go_at_call 44; (with_reducible refine (impl_in.calls (a0_6.size : Int) 1 30 t272 _ A65.out).mono ?_); rintro e w' ⟨rfl, ⟨nd, rfl⟩⟩; (try exact dd_)))
          repeat (go_quiet (first | (go_at_call 44; (with_reducible refine (impl_in.calls (a0_6.size : Int) 1 30 t272 _ A65.out).mono ?_); rintro e w' ⟨rfl, ⟨nd, rfl⟩⟩; (try exact dd_))); try go_wp2_with (first | (go_at_call 44; (with_reducible refine (impl_in.calls (a0_6.size : Int) 1 30 t272 _ A65.out).mono ?_); rintro e w' ⟨rfl, ⟨nd, rfl⟩⟩; (try exact dd_))))
          go_ret
          exact ⟨a2_, (a3_ HB.out GE265.out)⟩
         ·
          rw [if_neg c64] at H; have c64b0 : (a0_5 == 0) = false := beq_eq_false_iff_ne.mpr c64; have c64b1 : (a0_5 != 0) = true := bne_iff_ne.mpr c64; obtain rfl := Option.some.inj H; go_wp2
          repeat (go_quiet (fail); try go_wp2)
          go_ret
          exact ⟨a2_, (a3_ HB.out GE265.out)⟩
        ·
         rw [if_neg c63] at H; have c63b0 : (a0_4 == 0) = false := beq_eq_false_iff_ne.mpr c63; have c63b1 : (a0_4 != 0) = true := bne_iff_ne.mpr c63; obtain rfl := Option.some.inj H; go_wp2
         repeat (go_quiet (fail); try go_wp2)
         go_ret
         exact ⟨a2_, (a3_ HB.out GE265.out)⟩
       ·
        rw [if_neg c62] at H; have c62b0 : (a0_3 == 7) = false := beq_eq_false_iff_ne.mpr c62; have c62b1 : (a0_3 != 7) = true := bne_iff_ne.mpr c62; by_cases c72 : a0_3 = 8
        ·
         rw [if_pos c72] at H; have c72b0 : (a0_3 == 8) = true := beq_iff_eq.mpr c72; have c72b1 : (a0_3 != 8) = false := bne_eq_false_iff_eq.mpr c72; clear c72; replace H := Option.bind_eq_some_iff.mp H; obtain ⟨t273, A730, H⟩ := H; replace H : (if t273 = true then (if a0_5 = 0 then (some ((a0_6.size : Int) == 0)) else (some false)) else (some false)) = some r := H; have A73 := Aside0.mk A730; clear A730; by_cases c74 : t273 = true
         ·
          subst c74; have H1 : (if a0_5 = 0 then (some ((a0_6.size : Int) == 0)) else (some false)) = some r := by rw [if_pos rfl] at H; exact H
          clear H; have H := H1; clear H1; by_cases c75 : a0_5 = 0
          ·
           rw [if_pos c75] at H; have c75b0 : (a0_5 == 0) = true := beq_iff_eq.mpr c75; have c75b1 : (a0_5 != 0) = false := bne_eq_false_iff_eq.mpr c75; clear c75; obtain rfl := Option.some.inj H; go_wp2_with (first | (go_at_call 86; (with_reducible refine (impl_isId.calls a0_4 true _ A73.out).mono ?_); rintro e w' ⟨rfl, ⟨nd, rfl⟩⟩; (try exact dd_)))
           repeat (go_quiet (first | (go_at_call 86; (with_reducible refine (impl_isId.calls a0_4 true _ A73.out).mono ?_); rintro e w' ⟨rfl, ⟨nd, rfl⟩⟩; (try exact dd_))); try go_wp2_with (first | (go_at_call 86; (with_reducible refine (impl_isId.calls a0_4 true _ A73.out).mono ?_); rintro e w' ⟨rfl, ⟨nd, rfl⟩⟩; (try exact dd_))))
           go_ret
           exact ⟨a2_, (a3_ HB.out GE265.out)⟩
          ·
           rw [if_neg c75] at H; have c75b0 : (a0_5 == 0) = false := beq_eq_false_iff_ne.mpr c75; have c75b1 : (a0_5 != 0) = true := bne_iff_ne.mpr c75; obtain rfl := Option.some.inj H; go_wp2_with (first | (go_at_call 86; (with_reducible refine (impl_isId.calls a0_4 true _ A73.out).mono ?_); rintro e w' ⟨rfl, ⟨nd, rfl⟩⟩; (try exact dd_)))
           repeat (go_quiet (first | (go_at_call 86; (with_reducible refine (impl_isId.calls a0_4 true _ A73.out).mono ?_); rintro e w' ⟨rfl, ⟨nd, rfl⟩⟩; (try exact dd_))); try go_wp2_with (first | (go_at_call 86; (with_reducible refine (impl_isId.calls a0_4 true _ A73.out).mono ?_); rintro e w' ⟨rfl, ⟨nd, rfl⟩⟩; (try exact dd_))))
           go_ret
           exact ⟨a2_, (a3_ HB.out GE265.out)⟩
         ·
          replace c74 := Bool.eq_false_iff.mpr c74; subst c74; have H1 : (some false) = some r := by rw [if_neg (show ¬ (false = true) by decide)] at H; exact H
          clear H; have H := H1; clear H1; obtain rfl := Option.some.inj H; go_wp2_with (first | (go_at_call 86; (with_reducible refine (impl_isId.calls a0_4 false _ A73.out).mono ?_); rintro e w' ⟨rfl, ⟨nd, rfl⟩⟩; (try exact dd_)))
          repeat (go_quiet (first | (go_at_call 86; (with_reducible refine (impl_isId.calls a0_4 false _ A73.out).mono ?_); rintro e w' ⟨rfl, ⟨nd, rfl⟩⟩; (try exact dd_))); try go_wp2_with (first | (go_at_call 86; (with_reducible refine (impl_isId.calls a0_4 false _ A73.out).mono ?_); rintro e w' ⟨rfl, ⟨nd, rfl⟩⟩; (try exact dd_))))
          go_ret
          exact ⟨a2_, (a3_ HB.out GE265.out)⟩
        ·
         rw [if_neg c72] at H; have c72b0 : (a0_3 == 8) = false := beq_eq_false_iff_ne.mpr c72; have c72b1 : (a0_3 != 8) = true := bne_iff_ne.mpr c72; obtain rfl := Option.some.inj H; go_wp2
         repeat (go_quiet (fail); try go_wp2)
         go_ret
         exact ⟨a2_, (a3_ HB.out GE265.out)⟩
/-! ### impl_Event_right: function 79 -/
def impl_Event_right.f (k : Nat) (a0_0 : Int) (a0_1 : Int) (a0_2 : Int) (a0_3 : Int) (a0_4 : Int) (a0_5 : Int) (a0_6 : ByteArray) (l0_7 : List Int) (a0_8 : Int) : Option (Bool) := (impl_isId.f a0_0).bind fun t275 => (if t275 = true then ((impl_isRoom.f a0_1).bind fun t276 => (if t276 = true then ((impl_isUser.f a0_2).bind fun t277 => (if t277 = true then ((impl_isTime.f a0_8).bind fun t278 => (if t278 = true then (if (l0_7.length : Int) ≤ 4 then ((impl_increasing.f k l0_7 1 1000000).bind fun t279 => (if t279 = true then ((slices_Contains_int64_int64.f k l0_7 a0_0).bind fun t280 => (if t280 = true then (some false) else ((impl_Event_fieldsRight.f a0_0 a0_1 a0_2 a0_3 a0_4 a0_5 a0_6 l0_7 a0_8).bind fun t281 => (some t281)))) else (some false))) else (some false)) else (some false))) else (some false))) else (some false))) else (some false))
theorem impl_Event_right.mono : ∀ a0 a1 a2 a3 a4 a5 a6 a7 a8 k, LeO (impl_Event_right.f k a0 a1 a2 a3 a4 a5 a6 a7 a8) (impl_Event_right.f (k + 1) a0 a1 a2 a3 a4 a5 a6 a7 a8) := by
  intro a0 a1 a2 a3 a4 a5 a6 a7 a8 k
  unfold impl_Event_right.f
  repeat' first | (with_reducible exact impl_increasing.mono _ _ _ _) | (with_reducible exact slices_Contains_int64_int64.mono _ _ _) | (with_reducible exact LeO.refl _) | (with_reducible exact LeO.none _) | (with_reducible refine LeO.ite ?_ ?_) | (with_reducible refine LeO.bind ?_ (fun _ => ?_)) | exact impl_increasing.mono _ _ _ _ | exact slices_Contains_int64_int64.mono _ _ _ | exact LeO.none _ | refine LeO.ite ?_ ?_ | refine LeO.bind ?_ (fun _ => ?_)
set_option maxHeartbeats 8000000 in
set_option maxRecDepth 100000 in
theorem impl_Event_right.calls (k : Nat) (a0_0 : Int) (a0_1 : Int) (a0_2 : Int) (a0_3 : Int) (a0_4 : Int) (a0_5 : Int) (a0_6 : ByteArray) (A0_7 : Option Addr) (c0_7 : Nat) (l0_7 : List Int) (a0_8 : Int) (r : Bool) (w : World) (hr0_7 : Kd.C (Kd.int .i64) w A0_7 l0_7.length l0_7) (hc0_7 : l0_7.length ≤ c0_7) (h : impl_Event_right.f k a0_0 a0_1 a0_2 a0_3 a0_4 a0_5 a0_6 l0_7 a0_8 = some r) :
    Calls Try.prog 79 #[.agg #[.int .i64 a0_0, .int .i64 a0_1, .int .i64 a0_2, .int .i64 a0_3, .int .i64 a0_4, .int .i64 a0_5, .string a0_6, .slice A0_7 l0_7.length c0_7, .int .i64 a0_8]] w fun e w' => e = .returned (.bool r) ∧ Below w.heap.size w w' := by
 have hu61 := Try.underlying61; have HR0_7 := Aside0.mk hr0_7; have HC0_7 := Aside0.mk hc0_7; clear hr0_7 hc0_7; have HB := Aside0.mk (Below.refl w.heap.size w); have H : ((impl_isId.f a0_0).bind fun t275 => (if t275 = true then ((impl_isRoom.f a0_1).bind fun t276 => (if t276 = true then ((impl_isUser.f a0_2).bind fun t277 => (if t277 = true then ((impl_isTime.f a0_8).bind fun t278 => (if t278 = true then (if (l0_7.length : Int) ≤ 4 then ((impl_increasing.f k l0_7 1 1000000).bind fun t279 => (if t279 = true then ((slices_Contains_int64_int64.f k l0_7 a0_0).bind fun t280 => (if t280 = true then (some false) else ((impl_Event_fieldsRight.f a0_0 a0_1 a0_2 a0_3 a0_4 a0_5 a0_6 l0_7 a0_8).bind fun t281 => (some t281)))) else (some false))) else (some false)) else (some false))) else (some false))) else (some false))) else (some false))) = some r := h; clear h; replace H := Option.bind_eq_some_iff.mp H; obtain ⟨t275, A20, H⟩ := H; replace H : (if t275 = true then ((impl_isRoom.f a0_1).bind fun t276 => (if t276 = true then ((impl_isUser.f a0_2).bind fun t277 => (if t277 = true then ((impl_isTime.f a0_8).bind fun t278 => (if t278 = true then (if (l0_7.length : Int) ≤ 4 then ((impl_increasing.f k l0_7 1 1000000).bind fun t279 => (if t279 = true then ((slices_Contains_int64_int64.f k l0_7 a0_0).bind fun t280 => (if t280 = true then (some false) else ((impl_Event_fieldsRight.f a0_0 a0_1 a0_2 a0_3 a0_4 a0_5 a0_6 l0_7 a0_8).bind fun t281 => (some t281)))) else (some false))) else (some false)) else (some false))) else (some false))) else (some false))) else (some false)) = some r := H
 have A2 := Aside0.mk A20; clear A20; by_cases c3 : t275 = true
 ·
  subst c3; have H1 : ((impl_isRoom.f a0_1).bind fun t276 => (if t276 = true then ((impl_isUser.f a0_2).bind fun t277 => (if t277 = true then ((impl_isTime.f a0_8).bind fun t278 => (if t278 = true then (if (l0_7.length : Int) ≤ 4 then ((impl_increasing.f k l0_7 1 1000000).bind fun t279 => (if t279 = true then ((slices_Contains_int64_int64.f k l0_7 a0_0).bind fun t280 => (if t280 = true then (some false) else ((impl_Event_fieldsRight.f a0_0 a0_1 a0_2 a0_3 a0_4 a0_5 a0_6 l0_7 a0_8).bind fun t281 => (some t281)))) else (some false))) else (some false)) else (some false))) else (some false))) else (some false))) = some r := by rw [if_pos rfl] at H; exact H
  clear H; have H := H1; clear H1; replace H := Option.bind_eq_some_iff.mp H; obtain ⟨t276, A40, H⟩ := H; replace H : (if t276 = true then ((impl_isUser.f a0_2).bind fun t277 => (if t277 = true then ((impl_isTime.f a0_8).bind fun t278 => (if t278 = true then (if (l0_7.length : Int) ≤ 4 then ((impl_increasing.f k l0_7 1 1000000).bind fun t279 => (if t279 = true then ((slices_Contains_int64_int64.f k l0_7 a0_0).bind fun t280 => (if t280 = true then (some false) else ((impl_Event_fieldsRight.f a0_0 a0_1 a0_2 a0_3 a0_4 a0_5 a0_6 l0_7 a0_8).bind fun t281 => (some t281)))) else (some false))) else (some false)) else (some false))) else (some false))) else (some false)) = some r := H; have A4 := Aside0.mk A40; clear A40; by_cases c5 : t276 = true
  ·
   subst c5; have H1 : ((impl_isUser.f a0_2).bind fun t277 => (if t277 = true then ((impl_isTime.f a0_8).bind fun t278 => (if t278 = true then (if (l0_7.length : Int) ≤ 4 then ((impl_increasing.f k l0_7 1 1000000).bind fun t279 => (if t279 = true then ((slices_Contains_int64_int64.f k l0_7 a0_0).bind fun t280 => (if t280 = true then (some false) else ((impl_Event_fieldsRight.f a0_0 a0_1 a0_2 a0_3 a0_4 a0_5 a0_6 l0_7 a0_8).bind fun t281 => (some t281)))) else (some false))) else (some false)) else (some false))) else (some false))) = some r := by rw [if_pos rfl] at H; exact H
   clear H; have H := H1; clear H1; replace H := Option.bind_eq_some_iff.mp H; obtain ⟨t277, A60, H⟩ := H; replace H : (if t277 = true then ((impl_isTime.f a0_8).bind fun t278 => (if t278 = true then (if (l0_7.length : Int) ≤ 4 then ((impl_increasing.f k l0_7 1 1000000).bind fun t279 => (if t279 = true then ((slices_Contains_int64_int64.f k l0_7 a0_0).bind fun t280 => (if t280 = true then (some false) else ((impl_Event_fieldsRight.f a0_0 a0_1 a0_2 a0_3 a0_4 a0_5 a0_6 l0_7 a0_8).bind fun t281 => (some t281)))) else (some false))) else (some false)) else (some false))) else (some false)) = some r := H; have A6 := Aside0.mk A60; clear A60; by_cases c7 : t277 = true
   ·
    subst c7; have H1 : ((impl_isTime.f a0_8).bind fun t278 => (if t278 = true then (if (l0_7.length : Int) ≤ 4 then ((impl_increasing.f k l0_7 1 1000000).bind fun t279 => (if t279 = true then ((slices_Contains_int64_int64.f k l0_7 a0_0).bind fun t280 => (if t280 = true then (some false) else ((impl_Event_fieldsRight.f a0_0 a0_1 a0_2 a0_3 a0_4 a0_5 a0_6 l0_7 a0_8).bind fun t281 => (some t281)))) else (some false))) else (some false)) else (some false))) = some r := by rw [if_pos rfl] at H; exact H
    clear H; have H := H1; clear H1; replace H := Option.bind_eq_some_iff.mp H; obtain ⟨t278, A80, H⟩ := H; replace H : (if t278 = true then (if (l0_7.length : Int) ≤ 4 then ((impl_increasing.f k l0_7 1 1000000).bind fun t279 => (if t279 = true then ((slices_Contains_int64_int64.f k l0_7 a0_0).bind fun t280 => (if t280 = true then (some false) else ((impl_Event_fieldsRight.f a0_0 a0_1 a0_2 a0_3 a0_4 a0_5 a0_6 l0_7 a0_8).bind fun t281 => (some t281)))) else (some false))) else (some false)) else (some false)) = some r := H; have A8 := Aside0.mk A80; clear A80; by_cases c9 : t278 = true
    ·
     subst c9; have H1 : (if (l0_7.length : Int) ≤ 4 then ((impl_increasing.f k l0_7 1 1000000).bind fun t279 => (if t279 = true then ((slices_Contains_int64_int64.f k l0_7 a0_0).bind fun t280 => (if t280 = true then (some false) else ((impl_Event_fieldsRight.f a0_0 a0_1 a0_2 a0_3 a0_4 a0_5 a0_6 l0_7 a0_8).bind fun t281 => (some t281)))) else (some false))) else (some false)) = some r := by rw [if_pos rfl] at H; exact H
     clear H; have H := H1; clear H1; by_cases c10 : (l0_7.length : Int) ≤ 4
     ·
      rw [if_pos c10] at H; have c10b0 : decide ((l0_7.length : Int) ≤ 4) = true := decide_eq_true c10; have c10b1 : decide (l0_7.length ≤ 4) = true := decide_eq_true (by omega); clear c10; replace H := Option.bind_eq_some_iff.mp H; obtain ⟨t279, A110, H⟩ := H; replace H : (if t279 = true then ((slices_Contains_int64_int64.f k l0_7 a0_0).bind fun t280 => (if t280 = true then (some false) else ((impl_Event_fieldsRight.f a0_0 a0_1 a0_2 a0_3 a0_4 a0_5 a0_6 l0_7 a0_8).bind fun t281 => (some t281)))) else (some false)) = some r := H; have A11 := Aside0.mk A110; clear A110; by_cases c12 : t279 = true
      ·
       subst c12; have H1 : ((slices_Contains_int64_int64.f k l0_7 a0_0).bind fun t280 => (if t280 = true then (some false) else ((impl_Event_fieldsRight.f a0_0 a0_1 a0_2 a0_3 a0_4 a0_5 a0_6 l0_7 a0_8).bind fun t281 => (some t281)))) = some r := by rw [if_pos rfl] at H; exact H
       clear H; have H := H1; clear H1; replace H := Option.bind_eq_some_iff.mp H; obtain ⟨t280, A130, H⟩ := H; replace H : (if t280 = true then (some false) else ((impl_Event_fieldsRight.f a0_0 a0_1 a0_2 a0_3 a0_4 a0_5 a0_6 l0_7 a0_8).bind fun t281 => (some t281))) = some r := H; have A13 := Aside0.mk A130; clear A130; by_cases c14 : t280 = true
       ·
        subst c14; have H1 : (some false) = some r := by rw [if_pos rfl] at H; exact H
        clear H; have H := H1; clear H1; obtain rfl := Option.some.inj H; go_enter Try.func79, Try.ntmps79; go_wp2_with (first | ((with_reducible refine gate_dst (N := 1) rfl ?_); (try (refine gate_guard (by rfl) ?_; dsimp only)); refine be_ 1 #[.int .i64 a0_0, .int .i64 a0_1, .int .i64 a0_2, .int .i64 a0_3, .int .i64 a0_4, .int .i64 a0_5, .string a0_6, .slice A0_7 l0_7.length c0_7, .int .i64 a0_8] 61 ?_; intro gb274 hg w15 hbox hb; have n0_ := Aside0.mk (below_step (a1_ HB.out) hb); have n1_ := Aside0.mk (hbox); have n2_ := Aside0.mk ((by rw [hg]; exact (below_size (a1_ HB.out)) : w.heap.size ≤ gb274)); have n3_ := n2_; clear HB; have HB := n0_; have BK274 := n1_; have GW274 := n2_; have GE274 := n3_; clear n0_ n1_ n2_ n3_; clear hb hbox hg; obtain ⟨⟨hcz16_0, hcz16_1, hcz16_2, hcz16_3, hcz16_4, hcz16_5, hcz16_6, hcz16_7, hcz16_8⟩, hfz16_0, hfz16_1, hfz16_2, hfz16_3, hfz16_4, hfz16_5, hfz16_6, hfz16_7, hfz16_8⟩ := cells_9 BK274.out) | ((with_reducible refine gate_callee (f := 86) rfl ?_); refine gl_ (some 5) Try.func86 #[.int .i64 a0_0] ?_; (with_reducible refine (impl_isId.calls a0_0 true _ A2.out).mono ?_); rintro e w' ⟨rfl, ⟨nd, rfl⟩⟩; refine ⟨_, rfl, ?_⟩) | (go_at_call 45; (with_reducible refine (impl_isRoom.calls a0_1 true _ A4.out).mono ?_); rintro e w' ⟨rfl, ⟨nd, rfl⟩⟩) | (go_at_call 25; (with_reducible refine (impl_isUser.calls a0_2 true _ A6.out).mono ?_); rintro e w' ⟨rfl, ⟨nd, rfl⟩⟩) | (go_at_call 87; (with_reducible refine (impl_isTime.calls a0_8 true _ A8.out).mono ?_); rintro e w' ⟨rfl, ⟨nd, rfl⟩⟩) | (go_at_call 88; (with_reducible refine (impl_increasing.calls k _ _ l0_7 1 1000000 true _ ?side1 ?side2 A11.out).mono ?_); (case side1 => exact (cb_ HR0_7.out (a3_ HB.out GE274.out))); (case side2 => exact HC0_7.out); rintro e w' ⟨rfl, ⟨nd, rfl⟩⟩) | (go_at_call 89; (with_reducible refine (slices_Contains_int64_int64.calls k _ _ l0_7 a0_0 true _ ?side1 ?side2 A13.out).mono ?_); (case side1 => exact (cb_ HR0_7.out (a3_ HB.out GE274.out))); (case side2 => exact HC0_7.out); rintro e w' ⟨rfl, ⟨nd, rfl⟩⟩))
        go_ret
        exact ⟨a2_, (a3_ HB.out GE274.out)⟩
       ·
        replace c14 := Bool.eq_false_iff.mpr c14; subst c14; have H1 : ((impl_Event_fieldsRight.f a0_0 a0_1 a0_2 a0_3 a0_4 a0_5 a0_6 l0_7 a0_8).bind fun t281 => (some t281)) = some r := by rw [if_neg (show ¬ (false = true) by decide)] at H; exact H
        clear H; have H := H1; clear H1; replace H := Option.bind_eq_some_iff.mp H; obtain ⟨t281, A170, H⟩ := H; replace H : (some t281) = some r := H; have A17 := Aside0.mk A170; clear A170; obtain rfl := Option.some.inj H; go_enter Try.func79, Try.ntmps79; go_wp2_with (first | ((with_reducible refine gate_dst (N := 1) rfl ?_); (try (refine gate_guard (by rfl) ?_; dsimp only)); refine be_ 1 #[.int .i64 a0_0, .int .i64 a0_1, .int .i64 a0_2, .int .i64 a0_3, .int .i64 a0_4, .int .i64 a0_5, .string a0_6, .slice A0_7 l0_7.length c0_7, .int .i64 a0_8] 61 ?_; intro gb274 hg w18 hbox hb; have n0_ := Aside0.mk (below_step (a1_ HB.out) hb); have n1_ := Aside0.mk (hbox); have n2_ := Aside0.mk ((by rw [hg]; exact (below_size (a1_ HB.out)) : w.heap.size ≤ gb274)); have n3_ := n2_; clear HB; have HB := n0_; have BK274 := n1_; have GW274 := n2_; have GE274 := n3_; clear n0_ n1_ n2_ n3_; clear hb hbox hg; obtain ⟨⟨hcz19_0, hcz19_1, hcz19_2, hcz19_3, hcz19_4, hcz19_5, hcz19_6, hcz19_7, hcz19_8⟩, hfz19_0, hfz19_1, hfz19_2, hfz19_3, hfz19_4, hfz19_5, hfz19_6, hfz19_7, hfz19_8⟩ := cells_9 BK274.out) | ((with_reducible refine gate_callee (f := 86) rfl ?_); refine gl_ (some 5) Try.func86 #[.int .i64 a0_0] ?_; (with_reducible refine (impl_isId.calls a0_0 true _ A2.out).mono ?_); rintro e w' ⟨rfl, ⟨nd, rfl⟩⟩; refine ⟨_, rfl, ?_⟩) | (go_at_call 45; (with_reducible refine (impl_isRoom.calls a0_1 true _ A4.out).mono ?_); rintro e w' ⟨rfl, ⟨nd, rfl⟩⟩) | (go_at_call 25; (with_reducible refine (impl_isUser.calls a0_2 true _ A6.out).mono ?_); rintro e w' ⟨rfl, ⟨nd, rfl⟩⟩) | (go_at_call 87; (with_reducible refine (impl_isTime.calls a0_8 true _ A8.out).mono ?_); rintro e w' ⟨rfl, ⟨nd, rfl⟩⟩) | (go_at_call 88; (with_reducible refine (impl_increasing.calls k _ _ l0_7 1 1000000 true _ ?side1 ?side2 A11.out).mono ?_); (case side1 => exact (cb_ HR0_7.out (a3_ HB.out GE274.out))); (case side2 => exact HC0_7.out); rintro e w' ⟨rfl, ⟨nd, rfl⟩⟩) | (go_at_call 89; (with_reducible refine (slices_Contains_int64_int64.calls k _ _ l0_7 a0_0 false _ ?side1 ?side2 A13.out).mono ?_); (case side1 => exact (cb_ HR0_7.out (a3_ HB.out GE274.out))); (case side2 => exact HC0_7.out); rintro e w' ⟨rfl, ⟨nd, rfl⟩⟩) | (go_at_call 90; (with_reducible refine (impl_Event_fieldsRight.calls a0_0 a0_1 a0_2 a0_3 a0_4 a0_5 a0_6 _ _ l0_7 a0_8 t281 _ ?side1 ?side2 A17.out).mono ?_); (case side1 => exact (cb_ HR0_7.out (a3_ HB.out GE274.out))); (case side2 => exact HC0_7.out); rintro e w20 ⟨rfl, hb⟩; have n0_ := Aside0.mk (blk_below (g := gb274) (o := .cells #[.int .i64 a0_0, .int .i64 a0_1, .int .i64 a0_2, .int .i64 a0_3, .int .i64 a0_4, .int .i64 a0_5, .string a0_6, .slice A0_7 l0_7.length c0_7, .int .i64 a0_8] 61 (0, 0)) (a4_ BK274.out) hb); have n1_ := Aside0.mk (below_step (a3_ HB.out GE274.out) hb); clear BK274; clear HB; have BK274 := n0_; have HB := n1_; clear n0_ n1_; (try clear hb); (try clear hb2); (try clear hk); (try clear hi)))
        go_ret
        exact ⟨a2_, (a3_ HB.out GE274.out)⟩
      ·
       replace c12 := Bool.eq_false_iff.mpr c12; subst c12; have H1 : (some false) = some r := by rw [if_neg (show ¬ (false = true) by decide)] at H; exact H
       clear H; have H := H1; clear H1; obtain rfl := Option.some.inj H; go_enter Try.func79, Try.ntmps79; go_wp2_with (first | ((with_reducible refine gate_dst (N := 1) rfl ?_); (try (refine gate_guard (by rfl) ?_; dsimp only)); refine be_ 1 #[.int .i64 a0_0, .int .i64 a0_1, .int .i64 a0_2, .int .i64 a0_3, .int .i64 a0_4, .int .i64 a0_5, .string a0_6, .slice A0_7 l0_7.length c0_7, .int .i64 a0_8] 61 ?_; intro gb274 hg w21 hbox hb; have n0_ := Aside0.mk (below_step (a1_ HB.out) hb); have n1_ := Aside0.mk (hbox); have n2_ := Aside0.mk ((by rw [hg]; exact (below_size (a1_ HB.out)) : w.heap.size ≤ gb274)); have n3_ := n2_; clear HB; have HB := n0_; have BK274 := n1_; have GW274 := n2_; have GE274 := n3_; clear n0_ n1_ n2_ n3_; clear hb hbox hg; obtain ⟨⟨hcz22_0, hcz22_1, hcz22_2, hcz22_3, hcz22_4, hcz22_5, hcz22_6, hcz22_7, hcz22_8⟩, hfz22_0, hfz22_1, hfz22_2, hfz22_3, hfz22_4, hfz22_5, hfz22_6, hfz22_7, hfz22_8⟩ := cells_9 BK274.out) | ((with_reducible refine gate_callee (f := 86) rfl ?_); refine gl_ (some 5) Try.func86 #[.int .i64 a0_0] ?_; (with_reducible refine (impl_isId.calls a0_0 true _ A2.out).mono ?_); rintro e w' ⟨rfl, ⟨nd, rfl⟩⟩; refine ⟨_, rfl, ?_⟩) | (go_at_call 45; (with_reducible refine (impl_isRoom.calls a0_1 true _ A4.out).mono ?_); rintro e w' ⟨rfl, ⟨nd, rfl⟩⟩) | (go_at_call 25; (with_reducible refine (impl_isUser.calls a0_2 true _ A6.out).mono ?_); rintro e w' ⟨rfl, ⟨nd, rfl⟩⟩) | (go_at_call 87; (with_reducible refine (impl_isTime.calls a0_8 true _ A8.out).mono ?_); rintro e w' ⟨rfl, ⟨nd, rfl⟩⟩) | (go_at_call 88; (with_reducible refine (impl_increasing.calls k _ _ l0_7 1 1000000 false _ ?side1 ?side2 A11.out).mono ?_); (case side1 => exact (cb_ HR0_7.out (a3_ HB.out GE274.out))); (case side2 => exact HC0_7.out); rintro e w' ⟨rfl, ⟨nd, rfl⟩⟩))
       go_ret
       exact ⟨a2_, (a3_ HB.out GE274.out)⟩
     ·
      rw [if_neg c10] at H; have c10b0 : decide ((l0_7.length : Int) ≤ 4) = false := decide_eq_false c10; have c10b1 : decide (l0_7.length ≤ 4) = false := decide_eq_false (by omega); clear c10; obtain rfl := Option.some.inj H; go_enter Try.func79, Try.ntmps79; go_wp2_with (first | ((with_reducible refine gate_dst (N := 1) rfl ?_); (try (refine gate_guard (by rfl) ?_; dsimp only)); refine be_ 1 #[.int .i64 a0_0, .int .i64 a0_1, .int .i64 a0_2, .int .i64 a0_3, .int .i64 a0_4, .int .i64 a0_5, .string a0_6, .slice A0_7 l0_7.length c0_7, .int .i64 a0_8] 61 ?_; intro gb274 hg w23 hbox hb; have n0_ := Aside0.mk (below_step (a1_ HB.out) hb); have n1_ := Aside0.mk (hbox); have n2_ := Aside0.mk ((by rw [hg]; exact (below_size (a1_ HB.out)) : w.heap.size ≤ gb274)); have n3_ := n2_; clear HB; have HB := n0_; have BK274 := n1_; have GW274 := n2_; have GE274 := n3_; clear n0_ n1_ n2_ n3_; clear hb hbox hg; obtain ⟨⟨hcz24_0, hcz24_1, hcz24_2, hcz24_3, hcz24_4, hcz24_5, hcz24_6, hcz24_7, hcz24_8⟩, hfz24_0, hfz24_1, hfz24_2, hfz24_3, hfz24_4, hfz24_5, hfz24_6, hfz24_7, hfz24_8⟩ := cells_9 BK274.out) | ((with_reducible refine gate_callee (f := 86) rfl ?_); refine gl_ (some 5) Try.func86 #[.int .i64 a0_0] ?_; (with_reducible refine (impl_isId.calls a0_0 true _ A2.out).mono ?_); rintro e w' ⟨rfl, ⟨nd, rfl⟩⟩; refine ⟨_, rfl, ?_⟩) | (go_at_call 45; (with_reducible refine (impl_isRoom.calls a0_1 true _ A4.out).mono ?_); rintro e w' ⟨rfl, ⟨nd, rfl⟩⟩) | (go_at_call 25; (with_reducible refine (impl_isUser.calls a0_2 true _ A6.out).mono ?_); rintro e w' ⟨rfl, ⟨nd, rfl⟩⟩) | (go_at_call 87; (with_reducible refine (impl_isTime.calls a0_8 true _ A8.out).mono ?_); rintro e w' ⟨rfl, ⟨nd, rfl⟩⟩))
      go_ret
      exact ⟨a2_, (a3_ HB.out GE274.out)⟩
    ·
     replace c9 := Bool.eq_false_iff.mpr c9; subst c9; have H1 : (some false) = some r := by rw [if_neg (show ¬ (false = true) by decide)] at H; exact H
     clear H; have H := H1; clear H1; obtain rfl := Option.some.inj H; go_enter Try.func79, Try.ntmps79; go_wp2_with (first | ((with_reducible refine gate_dst (N := 1) rfl ?_); (try (refine gate_guard (by rfl) ?_; dsimp only)); refine be_ 1 #[.int .i64 a0_0, .int .i64 a0_1, .int .i64 a0_2, .int .i64 a0_3, .int .i64 a0_4, .int .i64 a0_5, .string a0_6, .slice A0_7 l0_7.length c0_7, .int .i64 a0_8] 61 ?_; intro gb274 hg w25 hbox hb; have n0_ := Aside0.mk (below_step (a1_ HB.out) hb); have n1_ := Aside0.mk (hbox); have n2_ := Aside0.mk ((by rw [hg]; exact (below_size (a1_ HB.out)) : w.heap.size ≤ gb274)); have n3_ := n2_; clear HB; have HB := n0_; have BK274 := n1_; have GW274 := n2_; have GE274 := n3_; clear n0_ n1_ n2_ n3_; clear hb hbox hg; obtain ⟨⟨hcz26_0, hcz26_1, hcz26_2, hcz26_3, hcz26_4, hcz26_5, hcz26_6, hcz26_7, hcz26_8⟩, hfz26_0, hfz26_1, hfz26_2, hfz26_3, hfz26_4, hfz26_5, hfz26_6, hfz26_7, hfz26_8⟩ := cells_9 BK274.out) | ((with_reducible refine gate_callee (f := 86) rfl ?_); refine gl_ (some 5) Try.func86 #[.int .i64 a0_0] ?_; (with_reducible refine (impl_isId.calls a0_0 true _ A2.out).mono ?_); rintro e w' ⟨rfl, ⟨nd, rfl⟩⟩; refine ⟨_, rfl, ?_⟩) | (go_at_call 45; (with_reducible refine (impl_isRoom.calls a0_1 true _ A4.out).mono ?_); rintro e w' ⟨rfl, ⟨nd, rfl⟩⟩) | (go_at_call 25; (with_reducible refine (impl_isUser.calls a0_2 true _ A6.out).mono ?_); rintro e w' ⟨rfl, ⟨nd, rfl⟩⟩) | (go_at_call 87; (with_reducible refine (impl_isTime.calls a0_8 false _ A8.out).mono ?_); rintro e w' ⟨rfl, ⟨nd, rfl⟩⟩))
     go_ret
     exact ⟨a2_, (a3_ HB.out GE274.out)⟩
   ·
    replace c7 := Bool.eq_false_iff.mpr c7; subst c7; have H1 : (some false) = some r := by rw [if_neg (show ¬ (false = true) by decide)] at H; exact H
    clear H; have H := H1; clear H1; obtain rfl := Option.some.inj H; go_enter Try.func79, Try.ntmps79; go_wp2_with (first | ((with_reducible refine gate_dst (N := 1) rfl ?_); (try (refine gate_guard (by rfl) ?_; dsimp only)); refine be_ 1 #[.int .i64 a0_0, .int .i64 a0_1, .int .i64 a0_2, .int .i64 a0_3, .int .i64 a0_4, .int .i64 a0_5, .string a0_6, .slice A0_7 l0_7.length c0_7, .int .i64 a0_8] 61 ?_; intro gb274 hg w27 hbox hb; have n0_ := Aside0.mk (below_step (a1_ HB.out) hb); have n1_ := Aside0.mk (hbox); have n2_ := Aside0.mk ((by rw [hg]; exact (below_size (a1_ HB.out)) : w.heap.size ≤ gb274)); have n3_ := n2_; clear HB; have HB := n0_; have BK274 := n1_; have GW274 := n2_; have GE274 := n3_; clear n0_ n1_ n2_ n3_; clear hb hbox hg; obtain ⟨⟨hcz28_0, hcz28_1, hcz28_2, hcz28_3, hcz28_4, hcz28_5, hcz28_6, hcz28_7, hcz28_8⟩, hfz28_0, hfz28_1, hfz28_2, hfz28_3, hfz28_4, hfz28_5, hfz28_6, hfz28_7, hfz28_8⟩ := cells_9 BK274.out) | ((with_reducible refine gate_callee (f := 86) rfl ?_); refine gl_ (some 5) Try.func86 #[.int .i64 a0_0] ?_; (with_reducible refine (impl_isId.calls a0_0 true _ A2.out).mono ?_); rintro e w' ⟨rfl, ⟨nd, rfl⟩⟩; refine ⟨_, rfl, ?_⟩) | (go_at_call 45; (with_reducible refine (impl_isRoom.calls a0_1 true _ A4.out).mono ?_); rintro e w' ⟨rfl, ⟨nd, rfl⟩⟩) | (go_at_call 25; (with_reducible refine (impl_isUser.calls a0_2 false _ A6.out).mono ?_); rintro e w' ⟨rfl, ⟨nd, rfl⟩⟩))
    go_ret
    exact ⟨a2_, (a3_ HB.out GE274.out)⟩
  ·
   replace c5 := Bool.eq_false_iff.mpr c5; subst c5; have H1 : (some false) = some r := by rw [if_neg (show ¬ (false = true) by decide)] at H; exact H
   clear H; have H := H1; clear H1; obtain rfl := Option.some.inj H; go_enter Try.func79, Try.ntmps79; go_wp2_with (first | ((with_reducible refine gate_dst (N := 1) rfl ?_); (try (refine gate_guard (by rfl) ?_; dsimp only)); refine be_ 1 #[.int .i64 a0_0, .int .i64 a0_1, .int .i64 a0_2, .int .i64 a0_3, .int .i64 a0_4, .int .i64 a0_5, .string a0_6, .slice A0_7 l0_7.length c0_7, .int .i64 a0_8] 61 ?_; intro gb274 hg w29 hbox hb; have n0_ := Aside0.mk (below_step (a1_ HB.out) hb); have n1_ := Aside0.mk (hbox); have n2_ := Aside0.mk ((by rw [hg]; exact (below_size (a1_ HB.out)) : w.heap.size ≤ gb274)); have n3_ := n2_; clear HB; have HB := n0_; have BK274 := n1_; have GW274 := n2_; have GE274 := n3_; clear n0_ n1_ n2_ n3_; clear hb hbox hg; obtain ⟨⟨hcz30_0, hcz30_1, hcz30_2, hcz30_3, hcz30_4, hcz30_5, hcz30_6, hcz30_7, hcz30_8⟩, hfz30_0, hfz30_1, hfz30_2, hfz30_3, hfz30_4, hfz30_5, hfz30_6, hfz30_7, hfz30_8⟩ := cells_9 BK274.out) | ((with_reducible refine gate_callee (f := 86) rfl ?_); refine gl_ (some 5) Try.func86 #[.int .i64 a0_0] ?_; (with_reducible refine (impl_isId.calls a0_0 true _ A2.out).mono ?_); rintro e w' ⟨rfl, ⟨nd, rfl⟩⟩; refine ⟨_, rfl, ?_⟩) | (go_at_call 45; (with_reducible refine (impl_isRoom.calls a0_1 false _ A4.out).mono ?_); rintro e w' ⟨rfl, ⟨nd, rfl⟩⟩))
   go_ret
   exact ⟨a2_, (a3_ HB.out GE274.out)⟩
 ·
  replace c3 := Bool.eq_false_iff.mpr c3; subst c3; have H1 : (some false) = some r := by rw [if_neg (show ¬ (false = true) by decide)] at H; exact H
  clear H; have H := H1; clear H1; obtain rfl := Option.some.inj H; go_enter Try.func79, Try.ntmps79; go_wp2_with (first | ((with_reducible refine gate_dst (N := 1) rfl ?_); (try (refine gate_guard (by rfl) ?_; dsimp only)); refine be_ 1 #[.int .i64 a0_0, .int .i64 a0_1, .int .i64 a0_2, .int .i64 a0_3, .int .i64 a0_4, .int .i64 a0_5, .string a0_6, .slice A0_7 l0_7.length c0_7, .int .i64 a0_8] 61 ?_; intro gb274 hg w31 hbox hb; have n0_ := Aside0.mk (below_step (a1_ HB.out) hb); have n1_ := Aside0.mk (hbox); have n2_ := Aside0.mk ((by rw [hg]; exact (below_size (a1_ HB.out)) : w.heap.size ≤ gb274)); have n3_ := n2_; clear HB; have HB := n0_; have BK274 := n1_; have GW274 := n2_; have GE274 := n3_; clear n0_ n1_ n2_ n3_; clear hb hbox hg; obtain ⟨⟨hcz32_0, hcz32_1, hcz32_2, hcz32_3, hcz32_4, hcz32_5, hcz32_6, hcz32_7, hcz32_8⟩, hfz32_0, hfz32_1, hfz32_2, hfz32_3, hfz32_4, hfz32_5, hfz32_6, hfz32_7, hfz32_8⟩ := cells_9 BK274.out) | ((with_reducible refine gate_callee (f := 86) rfl ?_); refine gl_ (some 5) Try.func86 #[.int .i64 a0_0] ?_; (with_reducible refine (impl_isId.calls a0_0 false _ A2.out).mono ?_); rintro e w' ⟨rfl, ⟨nd, rfl⟩⟩; refine ⟨_, rfl, ?_⟩))
  go_ret
  exact ⟨a2_, (a3_ HB.out GE274.out)⟩

/-! ### impl_EventRight: function 64 -/
def impl_EventRight.f (k : Nat) (a0_0 : Int) (a0_1 : Int) (a0_2 : Int) (a0_3 : Int) (a0_4 : Int) (a0_5 : Int) (a0_6 : ByteArray) (l0_7 : List Int) (a0_8 : Int) : Option (Bool) := (impl_Event_right.f k a0_0 a0_1 a0_2 a0_3 a0_4 a0_5 a0_6 l0_7 a0_8).bind fun t283 => (if t283 = true then (some ((a0_3 == 1) == ((l0_7.length : Int) == 0))) else (some false))
theorem impl_EventRight.mono : ∀ a0 a1 a2 a3 a4 a5 a6 a7 a8 k, LeO (impl_EventRight.f k a0 a1 a2 a3 a4 a5 a6 a7 a8) (impl_EventRight.f (k + 1) a0 a1 a2 a3 a4 a5 a6 a7 a8) := by
  intro a0 a1 a2 a3 a4 a5 a6 a7 a8 k
  unfold impl_EventRight.f
  repeat' first | (with_reducible exact impl_Event_right.mono _ _ _ _ _ _ _ _ _ _) | (with_reducible exact LeO.refl _) | (with_reducible exact LeO.none _) | (with_reducible refine LeO.ite ?_ ?_) | (with_reducible refine LeO.bind ?_ (fun _ => ?_)) | exact impl_Event_right.mono _ _ _ _ _ _ _ _ _ _ | exact LeO.none _ | refine LeO.ite ?_ ?_ | refine LeO.bind ?_ (fun _ => ?_)
set_option maxHeartbeats 8000000 in
set_option maxRecDepth 100000 in
theorem impl_EventRight.calls (k : Nat) (a0_0 : Int) (a0_1 : Int) (a0_2 : Int) (a0_3 : Int) (a0_4 : Int) (a0_5 : Int) (a0_6 : ByteArray) (A0_7 : Option Addr) (c0_7 : Nat) (l0_7 : List Int) (a0_8 : Int) (r : Bool) (w : World) (hr0_7 : Kd.C (Kd.int .i64) w A0_7 l0_7.length l0_7) (hc0_7 : l0_7.length ≤ c0_7) (h : impl_EventRight.f k a0_0 a0_1 a0_2 a0_3 a0_4 a0_5 a0_6 l0_7 a0_8 = some r) :
    Calls Try.prog 64 #[.agg #[.int .i64 a0_0, .int .i64 a0_1, .int .i64 a0_2, .int .i64 a0_3, .int .i64 a0_4, .int .i64 a0_5, .string a0_6, .slice A0_7 l0_7.length c0_7, .int .i64 a0_8]] w fun e w' => e = .returned (.bool r) ∧ Below w.heap.size w w' := by
 have hu61 := Try.underlying61; have HR0_7 := Aside0.mk hr0_7; have HC0_7 := Aside0.mk hc0_7; clear hr0_7 hc0_7; have HB := Aside0.mk (Below.refl w.heap.size w); have H : ((impl_Event_right.f k a0_0 a0_1 a0_2 a0_3 a0_4 a0_5 a0_6 l0_7 a0_8).bind fun t283 => (if t283 = true then (some ((a0_3 == 1) == ((l0_7.length : Int) == 0))) else (some false))) = some r := h; clear h; replace H := Option.bind_eq_some_iff.mp H; obtain ⟨t283, A20, H⟩ := H; replace H : (if t283 = true then (some ((a0_3 == 1) == ((l0_7.length : Int) == 0))) else (some false)) = some r := H; have A2 := Aside0.mk A20; clear A20; by_cases c3 : t283 = true
 ·
  subst c3; have H1 : (some ((a0_3 == 1) == ((l0_7.length : Int) == 0))) = some r := by rw [if_pos rfl] at H; exact H
  clear H; have H := H1; clear H1; obtain rfl := Option.some.inj H; go_enter Try.func64, Try.ntmps64; go_wp2_with (first | ((with_reducible refine gate_dst (N := 1) rfl ?_); (try (refine gate_guard (by rfl) ?_; dsimp only)); refine be_ 1 #[.int .i64 a0_0, .int .i64 a0_1, .int .i64 a0_2, .int .i64 a0_3, .int .i64 a0_4, .int .i64 a0_5, .string a0_6, .slice A0_7 l0_7.length c0_7, .int .i64 a0_8] 61 ?_; intro gb282 hg w4 hbox hb; have n0_ := Aside0.mk (below_step HB.out hb); have n1_ := Aside0.mk (hbox); have n2_ := Aside0.mk ((by rw [hg]; exact (below_size HB.out) : w.heap.size ≤ gb282)); have n3_ := n2_; clear HB; have HB := n0_; have BK282 := n1_; have GW282 := n2_; have GE282 := n3_; clear n0_ n1_ n2_ n3_; clear hb hbox hg; obtain ⟨⟨hcz5_0, hcz5_1, hcz5_2, hcz5_3, hcz5_4, hcz5_5, hcz5_6, hcz5_7, hcz5_8⟩, hfz5_0, hfz5_1, hfz5_2, hfz5_3, hfz5_4, hfz5_5, hfz5_6, hfz5_7, hfz5_8⟩ := cells_9 BK282.out) | ((with_reducible refine gate_callee (f := 79) rfl ?_); refine gl_ (some 4) Try.func79 #[.agg #[.int .i64 a0_0, .int .i64 a0_1, .int .i64 a0_2, .int .i64 a0_3, .int .i64 a0_4, .int .i64 a0_5, .string a0_6, .slice A0_7 l0_7.length c0_7, .int .i64 a0_8]] ?_; (with_reducible refine (impl_Event_right.calls k a0_0 a0_1 a0_2 a0_3 a0_4 a0_5 a0_6 _ _ l0_7 a0_8 true _ ?side1 ?side2 A2.out).mono ?_); (case side1 => exact (cb_ HR0_7.out HB.out)); (case side2 => exact HC0_7.out); rintro e w6 ⟨rfl, hb⟩; refine ⟨_, rfl, ?_⟩; have n0_ := Aside0.mk (blk_below BK282.out hb); have n1_ := Aside0.mk (below_step HB.out hb); clear BK282; clear HB; have BK282 := n0_; have HB := n1_; clear n0_ n1_; (try clear hb); (try clear hb2); (try clear hk); (try clear hi); obtain ⟨⟨hcz7_0, hcz7_1, hcz7_2, hcz7_3, hcz7_4, hcz7_5, hcz7_6, hcz7_7, hcz7_8⟩, hfz7_0, hfz7_1, hfz7_2, hfz7_3, hfz7_4, hfz7_5, hfz7_6, hfz7_7, hfz7_8⟩ := cells_9 BK282.out))
  go_ret
  exact ⟨a2_, (a3_ HB.out GE282.out)⟩
 ·
  replace c3 := Bool.eq_false_iff.mpr c3; subst c3; have H1 : (some false) = some r := by rw [if_neg (show ¬ (false = true) by decide)] at H; exact H
  clear H; have H := H1; clear H1; obtain rfl := Option.some.inj H; go_enter Try.func64, Try.ntmps64; go_wp2_with (first | ((with_reducible refine gate_dst (N := 1) rfl ?_); (try (refine gate_guard (by rfl) ?_; dsimp only)); refine be_ 1 #[.int .i64 a0_0, .int .i64 a0_1, .int .i64 a0_2, .int .i64 a0_3, .int .i64 a0_4, .int .i64 a0_5, .string a0_6, .slice A0_7 l0_7.length c0_7, .int .i64 a0_8] 61 ?_; intro gb282 hg w8 hbox hb; have n0_ := Aside0.mk (below_step HB.out hb); have n1_ := Aside0.mk (hbox); have n2_ := Aside0.mk ((by rw [hg]; exact (below_size HB.out) : w.heap.size ≤ gb282)); have n3_ := n2_; clear HB; have HB := n0_; have BK282 := n1_; have GW282 := n2_; have GE282 := n3_; clear n0_ n1_ n2_ n3_; clear hb hbox hg; obtain ⟨⟨hcz9_0, hcz9_1, hcz9_2, hcz9_3, hcz9_4, hcz9_5, hcz9_6, hcz9_7, hcz9_8⟩, hfz9_0, hfz9_1, hfz9_2, hfz9_3, hfz9_4, hfz9_5, hfz9_6, hfz9_7, hfz9_8⟩ := cells_9 BK282.out) | ((with_reducible refine gate_callee (f := 79) rfl ?_); refine gl_ (some 4) Try.func79 #[.agg #[.int .i64 a0_0, .int .i64 a0_1, .int .i64 a0_2, .int .i64 a0_3, .int .i64 a0_4, .int .i64 a0_5, .string a0_6, .slice A0_7 l0_7.length c0_7, .int .i64 a0_8]] ?_; (with_reducible refine (impl_Event_right.calls k a0_0 a0_1 a0_2 a0_3 a0_4 a0_5 a0_6 _ _ l0_7 a0_8 false _ ?side1 ?side2 A2.out).mono ?_); (case side1 => exact (cb_ HR0_7.out HB.out)); (case side2 => exact HC0_7.out); rintro e w10 ⟨rfl, hb⟩; refine ⟨_, rfl, ?_⟩; have n0_ := Aside0.mk (blk_below BK282.out hb); have n1_ := Aside0.mk (below_step HB.out hb); clear BK282; clear HB; have BK282 := n0_; have HB := n1_; clear n0_ n1_; (try clear hb); (try clear hb2); (try clear hk); (try clear hi)))
  go_ret
  exact ⟨a2_, (a3_ HB.out GE282.out)⟩

end Go.Proofs.Ytpkeddplfnannaa.Print
