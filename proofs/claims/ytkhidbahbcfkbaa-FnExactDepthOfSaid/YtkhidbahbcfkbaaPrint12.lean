-- Printed by wip/myprint.py over the kit's print, in this session's own call.
import Derived.Test.YtkhidbahbcfkbaaPrint0
namespace Go.Proofs.Ytkhidbahbcfkbaa.Print
open Go.RowKit Go.Proofs.YtkhidbahbcfkbaaW.PrintWords Go.Proofs.YtkhidbahbcfkbaaW.PrintLast Go.Proofs.YtkhidbahbcfkbaaW.PrintMore
attribute [local go_sem] max2_int min2_int max_two min_two max_three min_three max_four min_four   -- for this text's walks alone
set_option linter.unusedVariables false
set_option linter.unusedSimpArgs false

/-! ### impl_Event_40: function 40 -/
def impl_Event_40.r (p : S43 → Bool) (l : List S43) : Int := if l.any p = true then (l.findIdx p : Int) else -1
set_option maxHeartbeats 4000000 in
set_option maxRecDepth 100000 in
theorem impl_Event_40.callsF (g : Nat) (lb : Array Value) (p : S43 → Bool) (A : Option Addr) (c : Nat) (l : List S43) (w : World)
    (eg : ∀ args w, (callFunc g args).run Try.prog w = .ok (.enter g args) w)
    (hr : Kd.C k43 w A l.length l)
    (hp : ∀ (W : World) (i : Nat) (x : S43) (A7 : Option Addr) (c7 : Nat), l[i]? = some x → Kd.C (Kd.int .i64) w A7 x.f7.length x.f7 → x.f7.length ≤ c7 → Below w.heap.size w W → Calls Try.prog g (#[.agg #[.int .i64 x.f0, .int .i64 x.f1, .int .i64 x.f2, .int .i64 x.f3, .int .i64 x.f4, .int .i64 x.f5, .string x.f6, .slice A7 x.f7.length c7, .int .i64 x.f8]] ++ lb) W fun e w' => e = .returned (.bool (p x)) ∧ Below w.heap.size w w') :
    Calls Try.prog 40 #[.slice A l.length c, .func (.func g) #[] lb] w fun e w' => e = .returned (.int .i64 (impl_Event_40.r p l)) ∧ Below w.heap.size w w' := by
  have HR := Aside0.mk hr
  have HP := Aside0.mk hp
  have hlen : l.length ≤ 9223372036854775807 := hr.2.1
  clear hr hp
  go_enter Try.func40, Try.ntmps40
  go_wp2
  go_loopg [5, 8] l.length (fun gg _ s8 wr => ∃ kk : Nat, kk ≤ l.length ∧ l.length - kk ≤ gg ∧ s8 = .int .i64 kk ∧ Aside0 (Below w.heap.size w wr) ∧ Aside0 (∀ j x, l[j]? = some x → j < kk → p x = false))
  case atStart => exact ⟨0, Nat.zero_le _, by omega, rfl, ⟨Below.refl _ w⟩, ⟨fun j x _ hj => absurd hj (Nat.not_lt_zero _)⟩⟩
  case round =>
    obtain ⟨kk, hkk, hg, rfl, BW, AA⟩ := hrel
    by_cases hlt : kk < l.length
    · have hltz : (kk : Int) < (l.length : Int) := by omega
      have hge : (0 : Int) ≤ (kk : Int) := by omega
      obtain ⟨ad, A7, c7, rfl, hx, hx1, hx2, hx3, hx4, hx5, hx6, hx7, hx8, hl7, hk7⟩ := at_T43 HR.out (kk : Int) hge hltz
      have hx := (BW.out.cell (World.block_lt_of_cell? _ _ hx)).trans hx
      have hx1 := (BW.out.cell (World.block_lt_of_cell? _ _ hx1)).trans hx1
      have hx2 := (BW.out.cell (World.block_lt_of_cell? _ _ hx2)).trans hx2
      have hx3 := (BW.out.cell (World.block_lt_of_cell? _ _ hx3)).trans hx3
      have hx4 := (BW.out.cell (World.block_lt_of_cell? _ _ hx4)).trans hx4
      have hx5 := (BW.out.cell (World.block_lt_of_cell? _ _ hx5)).trans hx5
      have hx6 := (BW.out.cell (World.block_lt_of_cell? _ _ hx6)).trans hx6
      have hx7 := (BW.out.cell (World.block_lt_of_cell? _ _ hx7)).trans hx7
      have hx8 := (BW.out.cell (World.block_lt_of_cell? _ _ hx8)).trans hx8
      have hget : l[kk]? = some (rd_T43 l (kk : Int)) := by
        unfold rd_T43; rw [Int.toNat_natCast, List.getD_eq_getElem?_getD, List.getElem?_eq_getElem hlt]; rfl
      have hcall := HP.out wr kk _ A7 c7 hget hk7 hl7 BW.out
      clear hk7 hl7
      have G := Aside0.mk hget
      clear hget
      generalize rd_T43 l (kk : Int) = y at hx hx1 hx2 hx3 hx4 hx5 hx6 hx7 hx8 hcall G
      rw [Int.toNat_natCast] at hx hx1 hx2 hx3 hx4 hx5 hx6 hx7 hx8
      cases hq : p y with
      | true =>
        rw [hq] at hcall
        have HQ := Aside0.mk hq
        clear hq
        go_wp2_with (go_at_fn g; refine hcall.mono ?_; rintro e w' ⟨rfl, hb'⟩)
        go_ret
        refine ⟨?_, hb'⟩
        have h1 : l.any p = true := List.any_eq_true.2 ⟨y, List.mem_of_getElem? G.out, HQ.out⟩
        have h2 : l.findIdx p = kk := by
          have e1 : l.findIdx p ≤ kk := by
            rw [← Nat.not_lt]
            intro hh
            have := List.not_of_lt_findIdx hh
            have e2 := List.getElem?_eq_some_iff.1 G.out
            rw [e2.2, HQ.out] at this
            simp at this
          have e3 : ¬ l.findIdx p < kk := by
            intro hh
            have hlt2 : l.findIdx p < l.length := by omega
            have h4 := AA.out _ _ (List.getElem?_eq_getElem hlt2) hh
            have h5 := List.findIdx_getElem (w := hlt2)
            rw [h4] at h5
            simp at h5
          omega
        have h3 : impl_Event_40.r p l = (kk : Int) := by unfold impl_Event_40.r; rw [if_pos h1, h2]
        rw [h3]; rfl
      | false =>
        rw [hq] at hcall
        have HQ := Aside0.mk hq
        clear hq
        go_wp2_with (go_at_fn g; refine hcall.mono ?_; rintro e w' ⟨rfl, hb'⟩)
        go_roundg (l.length - (kk + 1))
        case measure => omega
        case rel =>
          refine ⟨kk + 1, by omega, by omega, by go_num, ⟨hb'⟩, ⟨fun j x hj hjk => ?_⟩⟩
          by_cases e : j = kk
          · subst e
            rw [G.out] at hj
            cases hj
            exact HQ.out
          · exact AA.out j x hj (by omega)
    · have hltz : ¬ (kk : Int) < (l.length : Int) := by omega
      have hkl : kk = l.length := by omega
      subst hkl
      go_wp2
      go_ret
      refine ⟨?_, BW.out⟩
      have h1 : ¬ l.any p = true := by
        intro h
        obtain ⟨x, hx, hpx⟩ := List.any_eq_true.1 h
        obtain ⟨j, hj, rfl⟩ := List.getElem_of_mem hx
        have := AA.out j _ (List.getElem?_eq_getElem hj) hj
        rw [this] at hpx
        cases hpx
      have h3 : impl_Event_40.r p l = -1 := by unfold impl_Event_40.r; rw [if_neg h1]
      rw [h3]; rfl

/-! ### impl_Event_24: function 24 -/
set_option maxHeartbeats 4000000 in
set_option maxRecDepth 100000 in
theorem impl_Event_24.callsF (g : Nat) (lb : Array Value) (p : S43 → Bool) (A : Option Addr) (c : Nat) (l : List S43) (w : World)
    (eg : ∀ args w, (callFunc g args).run Try.prog w = .ok (.enter g args) w)
    (hr : Kd.C k43 w A l.length l)
    (hp : ∀ (W : World) (i : Nat) (x : S43) (A7 : Option Addr) (c7 : Nat), l[i]? = some x → Kd.C (Kd.int .i64) w A7 x.f7.length x.f7 → x.f7.length ≤ c7 → Below w.heap.size w W → Calls Try.prog g (#[.agg #[.int .i64 x.f0, .int .i64 x.f1, .int .i64 x.f2, .int .i64 x.f3, .int .i64 x.f4, .int .i64 x.f5, .string x.f6, .slice A7 x.f7.length c7, .int .i64 x.f8]] ++ lb) W fun e w' => e = .returned (.bool (p x)) ∧ Below w.heap.size w w') :
    Calls Try.prog 24 #[.slice A l.length c, .func (.func g) #[] lb] w fun e w' => e = .returned (.bool (l.any p)) ∧ Below w.heap.size w w' := by
  have HI := Aside0.mk (impl_Event_40.callsF g lb p A c l w eg hr hp)
  clear hr hp eg
  go_enter Try.func24, Try.ntmps24
  go_wp2_with (go_at_call 40; refine HI.out.mono ?_; rintro e w' ⟨rfl, hb'⟩)
  go_ret
  refine ⟨?_, hb'⟩
  have h3 : decide (0 ≤ impl_Event_40.r p l) = l.any p := by
    unfold impl_Event_40.r
    by_cases h : l.any p = true
    · rw [if_pos h, h]; exact decide_eq_true (Int.natCast_nonneg _)
    · rw [if_neg h, Bool.eq_false_iff.2 h]; rfl
  rw [← h3]; rfl

/-! ### cmp_isNaN_int64: function 59 -/
def cmp_isNaN_int64.f (a0 : Int) : Option (Bool) := some (a0 != a0)
set_option maxHeartbeats 8000000 in
set_option maxRecDepth 100000 in
theorem cmp_isNaN_int64.calls (a0 : Int) (r : Bool) (w : World) (h : cmp_isNaN_int64.f a0 = some r) :
    Calls Try.prog 59 #[.int .i64 a0] w fun e w' => e = .returned (.bool r) ∧ Drawn0 w w' := by
 have H : (some (a0 != a0)) = some r := h
 clear h
 obtain rfl := Option.some.inj H
 go_enter Try.func59, Try.ntmps59
 go_wp2
 go_ret
 exact ⟨by first | rfl | (simp; done) | (simp [*]; done), by repeat (first | exact Drawn0.refl _ | apply Drawn0.step)⟩

/-! ### cmp_Compare_int64: function 46 -/
def cmp_Compare_int64.f (a0 : Int) (a1 : Int) : Option (Int) := (cmp_isNaN_int64.f a0).bind fun t253 => ((cmp_isNaN_int64.f a1).bind fun t254 => (if t253 = true then (if t254 = true then (some 0) else (some (-1))) else (if t254 = true then (some 1) else (if a0 < a1 then (some (-1)) else (if a0 > a1 then (some 1) else (some 0))))))
set_option maxHeartbeats 8000000 in
set_option maxRecDepth 100000 in
theorem cmp_Compare_int64.calls (a0 : Int) (a1 : Int) (r : Int) (w : World) (h : cmp_Compare_int64.f a0 a1 = some r) :
    Calls Try.prog 46 #[.int .i64 a0, .int .i64 a1] w fun e w' => e = .returned (.int .i64 r) ∧ Drawn0 w w' := by
 have H : ((cmp_isNaN_int64.f a0).bind fun t253 => ((cmp_isNaN_int64.f a1).bind fun t254 => (if t253 = true then (if t254 = true then (some 0) else (some (-1))) else (if t254 = true then (some 1) else (if a0 < a1 then (some (-1)) else (if a0 > a1 then (some 1) else (some 0))))))) = some r := h
 clear h
 replace H := Option.bind_eq_some_iff.mp H
 obtain ⟨t253, A30, H⟩ := H
 replace H : ((cmp_isNaN_int64.f a1).bind fun t254 => (if t253 = true then (if t254 = true then (some 0) else (some (-1))) else (if t254 = true then (some 1) else (if a0 < a1 then (some (-1)) else (if a0 > a1 then (some 1) else (some 0)))))) = some r := H
 have A3 := Aside0.mk A30
 clear A30
 replace H := Option.bind_eq_some_iff.mp H
 obtain ⟨t254, A40, H⟩ := H
 replace H : (if t253 = true then (if t254 = true then (some 0) else (some (-1))) else (if t254 = true then (some 1) else (if a0 < a1 then (some (-1)) else (if a0 > a1 then (some 1) else (some 0))))) = some r := H
 have A4 := Aside0.mk A40
 clear A40
 by_cases c5 : t253 = true
 ·
  subst c5
  have H1 : (if t254 = true then (some 0) else (some (-1))) = some r := by rw [if_pos rfl] at H; exact H
  clear H
  have H := H1
  clear H1
  by_cases c6 : t254 = true
  ·
   subst c6
   have H1 : (some 0) = some r := by rw [if_pos rfl] at H; exact H
   clear H
   have H := H1
   clear H1
   obtain rfl := Option.some.inj H
   go_enter Try.func46, Try.ntmps46
   go_wp2_with (first | ((with_reducible refine gate_callee (f := 59) rfl ?_); refine goesL_ (some 8) rfl rfl Try.func59 (by kernel_rfl) rfl #[.int .i64 a0] rfl (by (try simp only [List.map_toArray, List.map_cons, List.map_nil]); first | done | rfl | (simp only [List.length_drop, List.length_take]; rfl)) ?_; (with_reducible refine (cmp_isNaN_int64.calls a0 true _ A3.out).mono ?_); rintro e w' ⟨rfl, ⟨nd, rfl⟩⟩; refine ⟨_, rfl, ?_⟩) | ((with_reducible refine gate_callee (f := 59) rfl ?_); refine goesL_ (some 10) rfl rfl Try.func59 (by kernel_rfl) rfl #[.int .i64 a1] rfl (by (try simp only [List.map_toArray, List.map_cons, List.map_nil]); first | done | rfl | (simp only [List.length_drop, List.length_take]; rfl)) ?_; (with_reducible refine (cmp_isNaN_int64.calls a1 true _ A4.out).mono ?_); rintro e w' ⟨rfl, ⟨nd, rfl⟩⟩; refine ⟨_, rfl, ?_⟩))
   go_ret
   exact ⟨by first | rfl | (simp; done) | (simp [*]; done), by repeat (first | exact Drawn0.refl _ | apply Drawn0.step)⟩
  ·
   replace c6 := Bool.eq_false_iff.mpr c6
   subst c6
   have H1 : (some (-1)) = some r := by rw [if_neg (show ¬ (false = true) by decide)] at H; exact H
   clear H
   have H := H1
   clear H1
   obtain rfl := Option.some.inj H
   go_enter Try.func46, Try.ntmps46
   go_wp2_with (first | ((with_reducible refine gate_callee (f := 59) rfl ?_); refine goesL_ (some 8) rfl rfl Try.func59 (by kernel_rfl) rfl #[.int .i64 a0] rfl (by (try simp only [List.map_toArray, List.map_cons, List.map_nil]); first | done | rfl | (simp only [List.length_drop, List.length_take]; rfl)) ?_; (with_reducible refine (cmp_isNaN_int64.calls a0 true _ A3.out).mono ?_); rintro e w' ⟨rfl, ⟨nd, rfl⟩⟩; refine ⟨_, rfl, ?_⟩) | ((with_reducible refine gate_callee (f := 59) rfl ?_); refine goesL_ (some 10) rfl rfl Try.func59 (by kernel_rfl) rfl #[.int .i64 a1] rfl (by (try simp only [List.map_toArray, List.map_cons, List.map_nil]); first | done | rfl | (simp only [List.length_drop, List.length_take]; rfl)) ?_; (with_reducible refine (cmp_isNaN_int64.calls a1 false _ A4.out).mono ?_); rintro e w' ⟨rfl, ⟨nd, rfl⟩⟩; refine ⟨_, rfl, ?_⟩))
   go_ret
   exact ⟨by first | rfl | (simp; done) | (simp [*]; done), by repeat (first | exact Drawn0.refl _ | apply Drawn0.step)⟩
 ·
  replace c5 := Bool.eq_false_iff.mpr c5
  subst c5
  have H1 : (if t254 = true then (some 1) else (if a0 < a1 then (some (-1)) else (if a0 > a1 then (some 1) else (some 0)))) = some r := by rw [if_neg (show ¬ (false = true) by decide)] at H; exact H
  clear H
  have H := H1
  clear H1
  by_cases c7 : t254 = true
  ·
   subst c7
   have H1 : (some 1) = some r := by rw [if_pos rfl] at H; exact H
   clear H
   have H := H1
   clear H1
   obtain rfl := Option.some.inj H
   go_enter Try.func46, Try.ntmps46
   go_wp2_with (first | ((with_reducible refine gate_callee (f := 59) rfl ?_); refine goesL_ (some 8) rfl rfl Try.func59 (by kernel_rfl) rfl #[.int .i64 a0] rfl (by (try simp only [List.map_toArray, List.map_cons, List.map_nil]); first | done | rfl | (simp only [List.length_drop, List.length_take]; rfl)) ?_; (with_reducible refine (cmp_isNaN_int64.calls a0 false _ A3.out).mono ?_); rintro e w' ⟨rfl, ⟨nd, rfl⟩⟩; refine ⟨_, rfl, ?_⟩) | ((with_reducible refine gate_callee (f := 59) rfl ?_); refine goesL_ (some 10) rfl rfl Try.func59 (by kernel_rfl) rfl #[.int .i64 a1] rfl (by (try simp only [List.map_toArray, List.map_cons, List.map_nil]); first | done | rfl | (simp only [List.length_drop, List.length_take]; rfl)) ?_; (with_reducible refine (cmp_isNaN_int64.calls a1 true _ A4.out).mono ?_); rintro e w' ⟨rfl, ⟨nd, rfl⟩⟩; refine ⟨_, rfl, ?_⟩))
   go_ret
   exact ⟨by first | rfl | (simp; done) | (simp [*]; done), by repeat (first | exact Drawn0.refl _ | apply Drawn0.step)⟩
  ·
   replace c7 := Bool.eq_false_iff.mpr c7
   subst c7
   have H1 : (if a0 < a1 then (some (-1)) else (if a0 > a1 then (some 1) else (some 0))) = some r := by rw [if_neg (show ¬ (false = true) by decide)] at H; exact H
   clear H
   have H := H1
   clear H1
   by_cases c8 : a0 < a1
   ·
    rw [if_pos c8] at H
    have c8b0 : decide (a0 < a1) = true := decide_eq_true c8
    clear c8
    obtain rfl := Option.some.inj H
    go_enter Try.func46, Try.ntmps46
    go_wp2_with (first | ((with_reducible refine gate_callee (f := 59) rfl ?_); refine goesL_ (some 8) rfl rfl Try.func59 (by kernel_rfl) rfl #[.int .i64 a0] rfl (by (try simp only [List.map_toArray, List.map_cons, List.map_nil]); first | done | rfl | (simp only [List.length_drop, List.length_take]; rfl)) ?_; (with_reducible refine (cmp_isNaN_int64.calls a0 false _ A3.out).mono ?_); rintro e w' ⟨rfl, ⟨nd, rfl⟩⟩; refine ⟨_, rfl, ?_⟩) | ((with_reducible refine gate_callee (f := 59) rfl ?_); refine goesL_ (some 10) rfl rfl Try.func59 (by kernel_rfl) rfl #[.int .i64 a1] rfl (by (try simp only [List.map_toArray, List.map_cons, List.map_nil]); first | done | rfl | (simp only [List.length_drop, List.length_take]; rfl)) ?_; (with_reducible refine (cmp_isNaN_int64.calls a1 false _ A4.out).mono ?_); rintro e w' ⟨rfl, ⟨nd, rfl⟩⟩; refine ⟨_, rfl, ?_⟩))
    go_ret
    exact ⟨by first | rfl | (simp; done) | (simp [*]; done), by repeat (first | exact Drawn0.refl _ | apply Drawn0.step)⟩
   ·
    rw [if_neg c8] at H
    have c8b0 : decide (a0 < a1) = false := decide_eq_false c8
    clear c8
    by_cases c9 : a0 > a1
    ·
     rw [if_pos c9] at H
     have c9b0 : decide (a1 < a0) = true := decide_eq_true c9
     clear c9
     obtain rfl := Option.some.inj H
     go_enter Try.func46, Try.ntmps46
     go_wp2_with (first | ((with_reducible refine gate_callee (f := 59) rfl ?_); refine goesL_ (some 8) rfl rfl Try.func59 (by kernel_rfl) rfl #[.int .i64 a0] rfl (by (try simp only [List.map_toArray, List.map_cons, List.map_nil]); first | done | rfl | (simp only [List.length_drop, List.length_take]; rfl)) ?_; (with_reducible refine (cmp_isNaN_int64.calls a0 false _ A3.out).mono ?_); rintro e w' ⟨rfl, ⟨nd, rfl⟩⟩; refine ⟨_, rfl, ?_⟩) | ((with_reducible refine gate_callee (f := 59) rfl ?_); refine goesL_ (some 10) rfl rfl Try.func59 (by kernel_rfl) rfl #[.int .i64 a1] rfl (by (try simp only [List.map_toArray, List.map_cons, List.map_nil]); first | done | rfl | (simp only [List.length_drop, List.length_take]; rfl)) ?_; (with_reducible refine (cmp_isNaN_int64.calls a1 false _ A4.out).mono ?_); rintro e w' ⟨rfl, ⟨nd, rfl⟩⟩; refine ⟨_, rfl, ?_⟩))
     go_ret
     exact ⟨by first | rfl | (simp; done) | (simp [*]; done), by repeat (first | exact Drawn0.refl _ | apply Drawn0.step)⟩
    ·
     rw [if_neg c9] at H
     have c9b0 : decide (a1 < a0) = false := decide_eq_false c9
     clear c9
     obtain rfl := Option.some.inj H
     go_enter Try.func46, Try.ntmps46
     go_wp2_with (first | ((with_reducible refine gate_callee (f := 59) rfl ?_); refine goesL_ (some 8) rfl rfl Try.func59 (by kernel_rfl) rfl #[.int .i64 a0] rfl (by (try simp only [List.map_toArray, List.map_cons, List.map_nil]); first | done | rfl | (simp only [List.length_drop, List.length_take]; rfl)) ?_; (with_reducible refine (cmp_isNaN_int64.calls a0 false _ A3.out).mono ?_); rintro e w' ⟨rfl, ⟨nd, rfl⟩⟩; refine ⟨_, rfl, ?_⟩) | ((with_reducible refine gate_callee (f := 59) rfl ?_); refine goesL_ (some 10) rfl rfl Try.func59 (by kernel_rfl) rfl #[.int .i64 a1] rfl (by (try simp only [List.map_toArray, List.map_cons, List.map_nil]); first | done | rfl | (simp only [List.length_drop, List.length_take]; rfl)) ?_; (with_reducible refine (cmp_isNaN_int64.calls a1 false _ A4.out).mono ?_); rintro e w' ⟨rfl, ⟨nd, rfl⟩⟩; refine ⟨_, rfl, ?_⟩))
     go_ret
     exact ⟨by first | rfl | (simp; done) | (simp [*]; done), by repeat (first | exact Drawn0.refl _ | apply Drawn0.step)⟩

/-! ### impl_find_1: function 45 -/
def impl_find_1.f (a0_0 : Int) (a0_1 : Int) (a0_2 : Int) (a0_3 : Int) (a0_4 : Int) (a0_5 : Int) (a0_6 : ByteArray) (l0_7 : List Int) (a0_8 : Int) (a1 : Int) : Option (Int) := (cmp_Compare_int64.f a0_0 a1).bind fun t256 => (some t256)
set_option maxHeartbeats 8000000 in
set_option maxRecDepth 100000 in
theorem impl_find_1.calls (a0_0 : Int) (a0_1 : Int) (a0_2 : Int) (a0_3 : Int) (a0_4 : Int) (a0_5 : Int) (a0_6 : ByteArray) (A0_7 : Option Addr) (c0_7 : Nat) (l0_7 : List Int) (a0_8 : Int) (a1 : Int) (r : Int) (w : World) (hr0_7 : Kd.C (Kd.int .i64) w A0_7 l0_7.length l0_7) (hc0_7 : l0_7.length ≤ c0_7) (h : impl_find_1.f a0_0 a0_1 a0_2 a0_3 a0_4 a0_5 a0_6 l0_7 a0_8 a1 = some r) :
    Calls Try.prog 45 #[.agg #[.int .i64 a0_0, .int .i64 a0_1, .int .i64 a0_2, .int .i64 a0_3, .int .i64 a0_4, .int .i64 a0_5, .string a0_6, .slice A0_7 l0_7.length c0_7, .int .i64 a0_8], .int .i64 a1] w fun e w' => e = .returned (.int .i64 r) ∧ Below w.heap.size w w' := by
 have hu43 := Try.underlying43
 have HR0_7 := Aside0.mk hr0_7
 have HC0_7 := Aside0.mk hc0_7
 clear hr0_7 hc0_7
 have HB := Aside0.mk (Below.refl w.heap.size w)
 have H : ((cmp_Compare_int64.f a0_0 a1).bind fun t256 => (some t256)) = some r := h
 clear h
 replace H := Option.bind_eq_some_iff.mp H
 obtain ⟨t256, A30, H⟩ := H
 replace H : (some t256) = some r := H
 have A3 := Aside0.mk A30
 clear A30
 obtain rfl := Option.some.inj H
 go_enter Try.func45, Try.ntmps45
 go_wp2_with (first | ((with_reducible refine gate_dst (N := 2) rfl ?_); refine box_event ?hg (N := 2) ?hd (cs := #[.int .i64 a0_0, .int .i64 a0_1, .int .i64 a0_2, .int .i64 a0_3, .int .i64 a0_4, .int .i64 a0_5, .string a0_6, .slice A0_7 l0_7.length c0_7, .int .i64 a0_8]) (t := 43) ?hr ?_; (case hd => rfl); (case hg => rfl); (case hr => first | (go_simp; done) | (go_simp; rfl)); intro gb255 hg w4 hbox hb; have n0_ := Aside0.mk (below_step (a1_ HB.out) hb); have n1_ := Aside0.mk (hbox); have n2_ := Aside0.mk ((by rw [hg]; exact (below_size (a1_ HB.out)) : w.heap.size ≤ gb255)); have n3_ := Aside0.mk ((by rw [hg]; exact (below_size (a1_ HB.out)) : w.heap.size ≤ gb255)); clear HB; have HB := n0_; have BK255 := n1_; have GW255 := n2_; have GE255 := n3_; clear n0_ n1_ n2_ n3_; clear hb hbox hg; obtain ⟨⟨hcz5_0, hcz5_1, hcz5_2, hcz5_3, hcz5_4, hcz5_5, hcz5_6, hcz5_7, hcz5_8⟩, hfz5_0, hfz5_1, hfz5_2, hfz5_3, hfz5_4, hfz5_5, hfz5_6, hfz5_7, hfz5_8⟩ := cells_9 BK255.out) | ((with_reducible refine gate_callee (f := 46) rfl ?_); refine goesL_ (some 8) rfl rfl Try.func46 (by kernel_rfl) rfl #[.int .i64 a0_0, .int .i64 a1] rfl (by (try simp only [List.map_toArray, List.map_cons, List.map_nil]); first | done | rfl | (simp only [List.length_drop, List.length_take]; rfl)) ?_; (with_reducible refine (cmp_Compare_int64.calls a0_0 a1 t256 _ A3.out).mono ?_); rintro e w' ⟨rfl, ⟨nd, rfl⟩⟩; refine ⟨_, rfl, ?_⟩))
 go_ret
 exact ⟨a2_, (a3_ HB.out GE255.out)⟩

/-! ### impl_Event_int64: function 44 -/
def impl_Event_int64.l0 : Nat → List (S43) → Int → Int → Int → Int → Option (Int × Bool)
  | 0, _, _, _, _, _ => none
  | k + 1, x0, x1, x8, x9, x10 => if x9 < x10 then (if 0 ≤ (wrap64 ((IntKind.u64.wrap (wrap64 (x9 + x10))) / 2)) then (if (wrap64 ((IntKind.u64.wrap (wrap64 (x9 + x10))) / 2)) < (x0.length : Int) then ((impl_find_1.f ((rd_T43 x0 (wrap64 ((IntKind.u64.wrap (wrap64 (x9 + x10))) / 2))).f0) ((rd_T43 x0 (wrap64 ((IntKind.u64.wrap (wrap64 (x9 + x10))) / 2))).f1) ((rd_T43 x0 (wrap64 ((IntKind.u64.wrap (wrap64 (x9 + x10))) / 2))).f2) ((rd_T43 x0 (wrap64 ((IntKind.u64.wrap (wrap64 (x9 + x10))) / 2))).f3) ((rd_T43 x0 (wrap64 ((IntKind.u64.wrap (wrap64 (x9 + x10))) / 2))).f4) ((rd_T43 x0 (wrap64 ((IntKind.u64.wrap (wrap64 (x9 + x10))) / 2))).f5) ((rd_T43 x0 (wrap64 ((IntKind.u64.wrap (wrap64 (x9 + x10))) / 2))).f6) ((rd_T43 x0 (wrap64 ((IntKind.u64.wrap (wrap64 (x9 + x10))) / 2))).f7) ((rd_T43 x0 (wrap64 ((IntKind.u64.wrap (wrap64 (x9 + x10))) / 2))).f8) x1).bind fun t258 => (if t258 < 0 then (impl_Event_int64.l0 k x0 x1 x8 (wrap64 ((wrap64 ((IntKind.u64.wrap (wrap64 (x9 + x10))) / 2)) + 1)) x10) else (impl_Event_int64.l0 k x0 x1 x8 x9 (wrap64 ((IntKind.u64.wrap (wrap64 (x9 + x10))) / 2))))) else (none)) else (none)) else (if x9 < x8 then (if 0 ≤ x9 then (if x9 < (x0.length : Int) then ((impl_find_1.f ((rd_T43 x0 x9).f0) ((rd_T43 x0 x9).f1) ((rd_T43 x0 x9).f2) ((rd_T43 x0 x9).f3) ((rd_T43 x0 x9).f4) ((rd_T43 x0 x9).f5) ((rd_T43 x0 x9).f6) ((rd_T43 x0 x9).f7) ((rd_T43 x0 x9).f8) x1).bind fun t260 => (some (x9, (t260 == 0)))) else (none)) else (none)) else (some (x9, false)))
def impl_Event_int64.f (k : Nat) (l0 : List (S43)) (a1 : Int)  : Option (Int × Bool) := impl_Event_int64.l0 k l0 a1 (l0.length : Int) 0 (l0.length : Int)
theorem impl_Event_int64.mono_l : ∀ k, (∀ y0 y1 y2 y3 y4, LeO (impl_Event_int64.l0 k y0 y1 y2 y3 y4) (impl_Event_int64.l0 (k + 1) y0 y1 y2 y3 y4))
  | 0 => fun _ _ _ _ _ r h => by simp [impl_Event_int64.l0] at h
  | k + 1 => by
    have ih0 := impl_Event_int64.mono_l k
    · intro y0 y1 y2 y3 y4
      unfold impl_Event_int64.l0
      repeat' first
      | (with_reducible exact ih0 _ _ _ _ _)
      | (with_reducible exact LeO.refl _)
      | (with_reducible exact LeO.none _)
      | (with_reducible refine LeO.ite ?_ ?_)
      | (with_reducible refine LeO.bind ?_ (fun _ => ?_))
      | exact ih0 _ _ _ _ _
      | exact LeO.none _
      | refine LeO.ite ?_ ?_
      | refine LeO.bind ?_ (fun _ => ?_)
theorem impl_Event_int64.mono : ∀ a0 a1 k, LeO (impl_Event_int64.f k a0 a1) (impl_Event_int64.f (k + 1) a0 a1) := by
  intro a0 a1 k
  have ih0 := impl_Event_int64.mono_l k
  unfold impl_Event_int64.f
  repeat' first
      | (with_reducible exact ih0 _ _ _ _ _)
      | (with_reducible exact LeO.refl _)
      | (with_reducible exact LeO.none _)
      | (with_reducible refine LeO.ite ?_ ?_)
      | (with_reducible refine LeO.bind ?_ (fun _ => ?_))
      | exact ih0 _ _ _ _ _
      | exact LeO.none _
      | refine LeO.ite ?_ ?_
      | refine LeO.bind ?_ (fun _ => ?_)
set_option maxHeartbeats 8000000 in
set_option maxRecDepth 100000 in
theorem impl_Event_int64.calls (k : Nat) (A0 : Option Addr) (c0 : Nat) (l0 : List (S43)) (a1 : Int)  (r1 : Int) (r2 : Bool) (w : World) (hr0 : Kd.C k43 w A0 l0.length l0) (hc0 : l0.length ≤ c0) (h : impl_Event_int64.f k l0 a1 = some (r1, r2)) :
    Calls Try.prog 44 #[.slice A0 l0.length c0, .int .i64 a1, .func (.func 45) #[] #[]] w fun e w' => e = .returned (.tuple #[.int .i64 r1, .bool r2]) ∧ Below w.heap.size w w' := by
 have hu43 := Try.underlying43
 have HR0 := Aside0.mk hr0
 have HC0 := Aside0.mk hc0
 clear hr0 hc0
 have HB := Aside0.mk (Below.refl w.heap.size w)
 have H : (impl_Event_int64.l0 k l0 a1 (l0.length : Int) 0 (l0.length : Int)) = some (r1, r2) := h
 clear h
 have H' := Aside0.mk H
 clear H
 go_enter Try.func44, Try.ntmps44
 go_wp2
 go_loopg [9, 10] k (fun kq v9 v10 w' => ∃ (x9_1 : Int) (x10_1 : Int), v9 = .int .i64 x9_1 ∧ v10 = .int .i64 x10_1 ∧ Aside0 (impl_Event_int64.l0 kq l0 a1 (l0.length : Int) x9_1 x10_1 = some (r1, r2)) ∧ Aside0 (kq ≤ k) ∧ Aside0 (Below w.heap.size w w'))
 case atStart => exact ⟨(0), ((l0.length : Int)), (by first | rfl | (simp; done) | (simp [*]; done)), (by first | rfl | (simp; done) | (simp [*]; done)), H', ⟨Nat.le_refl _⟩, ⟨(a1_ HB.out)⟩⟩
 case round =>
  clear H'
  try clear p2
  obtain ⟨x9_1, x10_1, rfl, rfl, HA, HK1, HB⟩ := hrel
  cases gk with
  | zero => exact absurd HA.out (by simp [impl_Event_int64.l0])
  | succ k1 =>
   have H := HA.out
   clear HA
   simp only [impl_Event_int64.l0] at H
   by_cases c4 : x9_1 < x10_1
   ·
    rw [if_pos c4] at H
    have c4b0 : decide (x9_1 < x10_1) = true := decide_eq_true c4
    clear c4
    obtain ⟨ji5, hji5⟩ : ∃ j_ : Int, (wrap64 ((IntKind.u64.wrap (wrap64 (x9_1 + x10_1))) / 2)) = j_ := ⟨_, rfl⟩
    replace H : (if 0 ≤ (ji5) then (if (ji5) < (l0.length : Int) then ((impl_find_1.f ((rd_T43 l0 (ji5)).f0) ((rd_T43 l0 (ji5)).f1) ((rd_T43 l0 (ji5)).f2) ((rd_T43 l0 (ji5)).f3) ((rd_T43 l0 (ji5)).f4) ((rd_T43 l0 (ji5)).f5) ((rd_T43 l0 (ji5)).f6) ((rd_T43 l0 (ji5)).f7) ((rd_T43 l0 (ji5)).f8) a1).bind fun t258 => (if t258 < 0 then (impl_Event_int64.l0 k1 l0 a1 (l0.length : Int) (wrap64 ((ji5) + 1)) x10_1) else (impl_Event_int64.l0 k1 l0 a1 (l0.length : Int) x9_1 ji5))) else (none)) else (none)) = some (r1, r2) := by first | (rw [hji5] at H; exact H) | (simp only [hji5] at H ⊢; exact H)
    have hji5w : (IntKind.i64.wrap ((IntKind.u64.wrap (wrap64 (x9_1 + x10_1))) / 2)) = ji5 := (i64_w _).trans hji5
    by_cases c6 : 0 ≤ (ji5)
    ·
     rw [if_pos c6] at H
     have c6b0 : decide (0 ≤ (ji5)) = true := decide_eq_true c6
     clear c6
     by_cases c7 : (ji5) < (l0.length : Int)
     ·
      rw [if_pos c7] at H
      have c7b0 : decide ((ji5) < (l0.length : Int)) = true := decide_eq_true c7
      clear c7
      replace H := Option.bind_eq_some_iff.mp H
      obtain ⟨t258, A80, H⟩ := H
      replace H : (if t258 < 0 then (impl_Event_int64.l0 k1 l0 a1 (l0.length : Int) (wrap64 ((ji5) + 1)) x10_1) else (impl_Event_int64.l0 k1 l0 a1 (l0.length : Int) x9_1 ji5)) = some (r1, r2) := H
      have A8 := Aside0.mk A80
      clear A80
      by_cases c9 : t258 < 0
      ·
       rw [if_pos c9] at H
       have c9b0 : decide (t258 < 0) = true := decide_eq_true c9
       clear c9
       have H' := Aside0.mk H
       clear H
       have p257 : 0 ≤ ((ji5) : Int) := of_decide_eq_true (by first | (with_reducible assumption) | assumption)
       have q257 : (ji5) < (l0.length : Int) := of_decide_eq_true (by first | (with_reducible assumption) | assumption)
       obtain ⟨ad257, A257_7, c257_7, e257, hx257_0, hx257_1, hx257_2, hx257_3, hx257_4, hx257_5, hx257_6, hx257_7, hx257_8, hl257_7, hi257_7⟩ := at_T43 HR0.out (ji5) p257 q257
       cases e257
       replace hx257_0 := ce_ HB.out hx257_0
       replace hx257_1 := ce_ HB.out hx257_1
       replace hx257_2 := ce_ HB.out hx257_2
       replace hx257_3 := ce_ HB.out hx257_3
       replace hx257_4 := ce_ HB.out hx257_4
       replace hx257_5 := ce_ HB.out hx257_5
       replace hx257_6 := ce_ HB.out hx257_6
       replace hx257_7 := ce_ HB.out hx257_7
       replace hx257_8 := ce_ HB.out hx257_8
       have HR257_7 := Aside0.mk hi257_7
       have HC257_7 := Aside0.mk hl257_7
       clear hi257_7 hl257_7
       replace p257 := eq_true p257
       replace q257 := eq_true q257
       go_wp2_with (first | (go_at_call 45; (with_reducible refine (impl_find_1.calls ((rd_T43 l0 (ji5)).f0) ((rd_T43 l0 (ji5)).f1) ((rd_T43 l0 (ji5)).f2) ((rd_T43 l0 (ji5)).f3) ((rd_T43 l0 (ji5)).f4) ((rd_T43 l0 (ji5)).f5) ((rd_T43 l0 (ji5)).f6) _ _ ((rd_T43 l0 (ji5)).f7) ((rd_T43 l0 (ji5)).f8) a1 t258 _ ?side1 ?side2 A8.out).mono ?_); (case side1 => repeat (first | exact (Kd.C_below HR257_7.out HB.out) | (with_reducible refine Kd.C_alloc ?_ _) | (with_reducible refine Kd.C_drewN ?_ _) | (with_reducible refine Kd.C_drew ?_))); (case side2 => exact HC257_7.out); rintro e w10 ⟨rfl, hb⟩; have n0_ := Aside0.mk (below_step HB.out hb); clear HB; have HB := n0_; clear n0_; (try clear hb); (try clear hb2); (try clear hk); (try clear hi)))
       go_roundg k1
       case measure => have := HK1.out; omega
       case rel => exact ⟨(wrap64 ((ji5) + 1)), (x10_1), (by first | rfl | (simp; done) | (simp only [← hji5] <;> (first | rfl | simp)) | (simp [*]; done)), (by first | rfl | (simp; done) | (simp [*]; done)), H', ⟨by have := HK1.out; omega⟩, ⟨(a1_ HB.out)⟩⟩
      ·
       rw [if_neg c9] at H
       have c9b0 : decide (t258 < 0) = false := decide_eq_false c9
       clear c9
       have H' := Aside0.mk H
       clear H
       have p257 : 0 ≤ ((ji5) : Int) := of_decide_eq_true (by first | (with_reducible assumption) | assumption)
       have q257 : (ji5) < (l0.length : Int) := of_decide_eq_true (by first | (with_reducible assumption) | assumption)
       obtain ⟨ad257, A257_7, c257_7, e257, hx257_0, hx257_1, hx257_2, hx257_3, hx257_4, hx257_5, hx257_6, hx257_7, hx257_8, hl257_7, hi257_7⟩ := at_T43 HR0.out (ji5) p257 q257
       cases e257
       replace hx257_0 := ce_ HB.out hx257_0
       replace hx257_1 := ce_ HB.out hx257_1
       replace hx257_2 := ce_ HB.out hx257_2
       replace hx257_3 := ce_ HB.out hx257_3
       replace hx257_4 := ce_ HB.out hx257_4
       replace hx257_5 := ce_ HB.out hx257_5
       replace hx257_6 := ce_ HB.out hx257_6
       replace hx257_7 := ce_ HB.out hx257_7
       replace hx257_8 := ce_ HB.out hx257_8
       have HR257_7 := Aside0.mk hi257_7
       have HC257_7 := Aside0.mk hl257_7
       clear hi257_7 hl257_7
       replace p257 := eq_true p257
       replace q257 := eq_true q257
       go_wp2_with (first | (go_at_call 45; (with_reducible refine (impl_find_1.calls ((rd_T43 l0 (ji5)).f0) ((rd_T43 l0 (ji5)).f1) ((rd_T43 l0 (ji5)).f2) ((rd_T43 l0 (ji5)).f3) ((rd_T43 l0 (ji5)).f4) ((rd_T43 l0 (ji5)).f5) ((rd_T43 l0 (ji5)).f6) _ _ ((rd_T43 l0 (ji5)).f7) ((rd_T43 l0 (ji5)).f8) a1 t258 _ ?side1 ?side2 A8.out).mono ?_); (case side1 => repeat (first | exact (Kd.C_below HR257_7.out HB.out) | (with_reducible refine Kd.C_alloc ?_ _) | (with_reducible refine Kd.C_drewN ?_ _) | (with_reducible refine Kd.C_drew ?_))); (case side2 => exact HC257_7.out); rintro e w11 ⟨rfl, hb⟩; have n0_ := Aside0.mk (below_step HB.out hb); clear HB; have HB := n0_; clear n0_; (try clear hb); (try clear hb2); (try clear hk); (try clear hi)))
       go_roundg k1
       case measure => have := HK1.out; omega
       case rel => exact ⟨(x9_1), (ji5), (by first | rfl | (simp; done) | (simp [*]; done)), (by first | rfl | (simp; done) | (simp only [← hji5] <;> (first | rfl | simp)) | (simp [*]; done)), H', ⟨by have := HK1.out; omega⟩, ⟨(a1_ HB.out)⟩⟩
     ·
      rw [if_neg c7] at H
      exact absurd H (by simp)
    ·
     rw [if_neg c6] at H
     exact absurd H (by simp)
   ·
    rw [if_neg c4] at H
    have c4b0 : decide (x9_1 < x10_1) = false := decide_eq_false c4
    clear c4
    by_cases c12 : x9_1 < (l0.length : Int)
    ·
     rw [if_pos c12] at H
     have c12b0 : decide (x9_1 < (l0.length : Int)) = true := decide_eq_true c12
     clear c12
     by_cases c13 : 0 ≤ x9_1
     ·
      rw [if_pos c13] at H
      have c13b0 : decide (0 ≤ x9_1) = true := decide_eq_true c13
      clear c13
      by_cases c14 : x9_1 < (l0.length : Int)
      ·
       rw [if_pos c14] at H
       have c14b0 : decide (x9_1 < (l0.length : Int)) = true := decide_eq_true c14
       clear c14
       replace H := Option.bind_eq_some_iff.mp H
       obtain ⟨t260, A150, H⟩ := H
       replace H : (some (x9_1, (t260 == 0))) = some (r1, r2) := H
       have A15 := Aside0.mk A150
       clear A150
       simp only [Option.some.injEq, Prod.mk.injEq] at H
       obtain ⟨rfl, rfl⟩ := H
       have p259 : 0 ≤ (x9_1 : Int) := of_decide_eq_true (by first | (with_reducible assumption) | assumption)
       have q259 : x9_1 < (l0.length : Int) := of_decide_eq_true (by first | (with_reducible assumption) | assumption)
       obtain ⟨ad259, A259_7, c259_7, e259, hx259_0, hx259_1, hx259_2, hx259_3, hx259_4, hx259_5, hx259_6, hx259_7, hx259_8, hl259_7, hi259_7⟩ := at_T43 HR0.out x9_1 p259 q259
       cases e259
       replace hx259_0 := ce_ HB.out hx259_0
       replace hx259_1 := ce_ HB.out hx259_1
       replace hx259_2 := ce_ HB.out hx259_2
       replace hx259_3 := ce_ HB.out hx259_3
       replace hx259_4 := ce_ HB.out hx259_4
       replace hx259_5 := ce_ HB.out hx259_5
       replace hx259_6 := ce_ HB.out hx259_6
       replace hx259_7 := ce_ HB.out hx259_7
       replace hx259_8 := ce_ HB.out hx259_8
       have HR259_7 := Aside0.mk hi259_7
       have HC259_7 := Aside0.mk hl259_7
       clear hi259_7 hl259_7
       replace p259 := eq_true p259
       replace q259 := eq_true q259
       go_wp2_with (first | (go_at_call 45; (with_reducible refine (impl_find_1.calls ((rd_T43 l0 x9_1).f0) ((rd_T43 l0 x9_1).f1) ((rd_T43 l0 x9_1).f2) ((rd_T43 l0 x9_1).f3) ((rd_T43 l0 x9_1).f4) ((rd_T43 l0 x9_1).f5) ((rd_T43 l0 x9_1).f6) _ _ ((rd_T43 l0 x9_1).f7) ((rd_T43 l0 x9_1).f8) a1 t260 _ ?side1 ?side2 A15.out).mono ?_); (case side1 => repeat (first | exact (Kd.C_below HR259_7.out HB.out) | (with_reducible refine Kd.C_alloc ?_ _) | (with_reducible refine Kd.C_drewN ?_ _) | (with_reducible refine Kd.C_drew ?_))); (case side2 => exact HC259_7.out); rintro e w16 ⟨rfl, hb⟩; have n0_ := Aside0.mk (below_step HB.out hb); clear HB; have HB := n0_; clear n0_; (try clear hb); (try clear hb2); (try clear hk); (try clear hi)))
       go_ret2
       exact ⟨a2_, (a1_ HB.out)⟩
      ·
       rw [if_neg c14] at H
       exact absurd H (by simp)
     ·
      rw [if_neg c13] at H
      exact absurd H (by simp)
    ·
     rw [if_neg c12] at H
     have c12b0 : decide (x9_1 < (l0.length : Int)) = false := decide_eq_false c12
     clear c12
     simp only [Option.some.injEq, Prod.mk.injEq] at H
     obtain ⟨rfl, rfl⟩ := H
     go_wp2
     go_ret2
     exact ⟨a2_, (a1_ HB.out)⟩

/-! ### impl_find: function 31 -/
def impl_find.f (k : Nat) (l0 : List (S43)) (a1 : Int) : Option (Int × Bool) := (impl_Event_int64.f k l0 a1).bind fun bt261 => (some (bt261.1, bt261.2))
theorem impl_find.mono : ∀ a0 a1 k, LeO (impl_find.f k a0 a1) (impl_find.f (k + 1) a0 a1) := by
  intro a0 a1 k
  unfold impl_find.f
  repeat' first
      | (with_reducible exact impl_Event_int64.mono _ _ _)
      | (with_reducible exact LeO.refl _)
      | (with_reducible exact LeO.none _)
      | (with_reducible refine LeO.ite ?_ ?_)
      | (with_reducible refine LeO.bind ?_ (fun _ => ?_))
      | exact impl_Event_int64.mono _ _ _
      | exact LeO.none _
      | refine LeO.ite ?_ ?_
      | refine LeO.bind ?_ (fun _ => ?_)
set_option maxHeartbeats 8000000 in
set_option maxRecDepth 100000 in
theorem impl_find.calls (k : Nat) (A0 : Option Addr) (c0 : Nat) (l0 : List (S43)) (a1 : Int) (r1 : Int) (r2 : Bool) (w : World) (hr0 : Kd.C k43 w A0 l0.length l0) (hc0 : l0.length ≤ c0) (h : impl_find.f k l0 a1 = some (r1, r2)) :
    Calls Try.prog 31 #[.slice A0 l0.length c0, .int .i64 a1] w fun e w' => e = .returned (.tuple #[.int .i64 r1, .bool r2]) ∧ Below w.heap.size w w' := by
 have HR0 := Aside0.mk hr0
 have HC0 := Aside0.mk hc0
 clear hr0 hc0
 have HB := Aside0.mk (Below.refl w.heap.size w)
 have H : ((impl_Event_int64.f k l0 a1).bind fun bt261 => (some (bt261.1, bt261.2))) = some (r1, r2) := h
 clear h
 replace H := Option.bind_eq_some_iff.mp H
 obtain ⟨⟨t261, t262⟩, A30, H⟩ := H
 replace H : (some (t261, t262)) = some (r1, r2) := H
 have A3 := Aside0.mk A30
 clear A30
 simp only [Option.some.injEq, Prod.mk.injEq] at H
 obtain ⟨rfl, rfl⟩ := H
 go_enter Try.func31, Try.ntmps31
 go_wp2_with (first | ((with_reducible refine gate_callee (f := 44) rfl ?_); refine goesL_ (some 8) rfl rfl Try.func44 (by kernel_rfl) rfl #[.slice A0 l0.length c0, .int .i64 a1, .func (.func 45) #[] #[]] rfl (by (try simp only [List.map_toArray, List.map_cons, List.map_nil]); first | done | rfl | (simp only [List.length_drop, List.length_take]; rfl)) ?_; (with_reducible refine (impl_Event_int64.calls k _ _ l0 a1 t261 t262 _ ?side1 ?side2 A3.out).mono ?_); (case side1 => repeat (first | exact HR0.out | (with_reducible refine Kd.C_alloc ?_ _) | (with_reducible refine Kd.C_drewN ?_ _) | (with_reducible refine Kd.C_drew ?_))); (case side2 => exact HC0.out); rintro e w4 ⟨rfl, hb⟩; refine ⟨_, rfl, ?_⟩; have n0_ := Aside0.mk (below_step HB.out hb); clear HB; have HB := n0_; clear n0_; (try clear hb); (try clear hb2); (try clear hk); (try clear hi)))
 go_ret2
 exact ⟨a2_, (a1_ HB.out)⟩

/-! ### impl_Graph_has: function 28 -/
def impl_Graph_has.f (k : Nat) (a0_0 : Int) (l0_1 : List (S43)) (l0_2 : List (S43)) (a1 : Int) : Option (Bool) := (impl_find.f k l0_1 a1).bind fun bt264 => (some bt264.2)
theorem impl_Graph_has.mono : ∀ a0 a1 a2 a3 k, LeO (impl_Graph_has.f k a0 a1 a2 a3) (impl_Graph_has.f (k + 1) a0 a1 a2 a3) := by
  intro a0 a1 a2 a3 k
  unfold impl_Graph_has.f
  repeat' first
      | (with_reducible exact impl_find.mono _ _ _)
      | (with_reducible exact LeO.refl _)
      | (with_reducible exact LeO.none _)
      | (with_reducible refine LeO.ite ?_ ?_)
      | (with_reducible refine LeO.bind ?_ (fun _ => ?_))
      | exact impl_find.mono _ _ _
      | exact LeO.none _
      | refine LeO.ite ?_ ?_
      | refine LeO.bind ?_ (fun _ => ?_)
set_option maxHeartbeats 8000000 in
set_option maxRecDepth 100000 in
theorem impl_Graph_has.calls (k : Nat) (a0_0 : Int) (A0_1 : Option Addr) (c0_1 : Nat) (l0_1 : List (S43)) (A0_2 : Option Addr) (c0_2 : Nat) (l0_2 : List (S43)) (a1 : Int) (r : Bool) (w : World) (hr0_1 : Kd.C k43 w A0_1 l0_1.length l0_1) (hc0_1 : l0_1.length ≤ c0_1) (hr0_2 : Kd.C k43 w A0_2 l0_2.length l0_2) (hc0_2 : l0_2.length ≤ c0_2) (h : impl_Graph_has.f k a0_0 l0_1 l0_2 a1 = some r) :
    Calls Try.prog 28 #[.agg #[.int .i64 a0_0, .slice A0_1 l0_1.length c0_1, .slice A0_2 l0_2.length c0_2], .int .i64 a1] w fun e w' => e = .returned (.bool r) ∧ Below w.heap.size w w' := by
 have hu29 := Try.underlying29
 have HR0_1 := Aside0.mk hr0_1
 have HC0_1 := Aside0.mk hc0_1
 clear hr0_1 hc0_1
 have HR0_2 := Aside0.mk hr0_2
 have HC0_2 := Aside0.mk hc0_2
 clear hr0_2 hc0_2
 have HB := Aside0.mk (Below.refl w.heap.size w)
 have H : ((impl_find.f k l0_1 a1).bind fun bt264 => (some bt264.2)) = some r := h
 clear h
 replace H := Option.bind_eq_some_iff.mp H
 obtain ⟨⟨t264, t265⟩, A30, H⟩ := H
 replace H : (some t265) = some r := H
 have A3 := Aside0.mk A30
 clear A30
 obtain rfl := Option.some.inj H
 go_enter Try.func28, Try.ntmps28
 go_wp2_with (first | ((with_reducible refine gate_dst (N := 2) rfl ?_); refine box_event ?hg (N := 2) ?hd (cs := #[.int .i64 a0_0, .slice A0_1 l0_1.length c0_1, .slice A0_2 l0_2.length c0_2]) (t := 29) ?hr ?_; (case hd => rfl); (case hg => rfl); (case hr => first | (go_simp; done) | (go_simp; rfl)); intro gb263 hg w4 hbox hb; have n0_ := Aside0.mk (below_step HB.out hb); have n1_ := Aside0.mk (hbox); have n2_ := Aside0.mk ((by rw [hg]; exact (below_size HB.out) : w.heap.size ≤ gb263)); have n3_ := Aside0.mk ((by rw [hg]; exact (below_size HB.out) : w.heap.size ≤ gb263)); clear HB; have HB := n0_; have BK263 := n1_; have GW263 := n2_; have GE263 := n3_; clear n0_ n1_ n2_ n3_; clear hb hbox hg; obtain ⟨⟨hcz5_0, hcz5_1, hcz5_2⟩, hfz5_0, hfz5_1, hfz5_2⟩ := cells_3 BK263.out) | ((with_reducible refine gate_callee (f := 31) rfl ?_); refine goesL_ (some 11) rfl rfl Try.func31 (by kernel_rfl) rfl #[.slice A0_1 l0_1.length c0_1, .int .i64 a1] rfl (by (try simp only [List.map_toArray, List.map_cons, List.map_nil]); first | done | rfl | (simp only [List.length_drop, List.length_take]; rfl)) ?_; (with_reducible refine (impl_find.calls k _ _ l0_1 a1 t264 t265 _ ?side1 ?side2 A3.out).mono ?_); (case side1 => repeat (first | exact (Kd.C_below HR0_1.out HB.out) | (with_reducible refine Kd.C_alloc ?_ _) | (with_reducible refine Kd.C_drewN ?_ _) | (with_reducible refine Kd.C_drew ?_))); (case side2 => exact HC0_1.out); rintro e w6 ⟨rfl, hb⟩; refine ⟨_, rfl, ?_⟩; have n0_ := Aside0.mk (blk_below BK263.out hb); have n1_ := Aside0.mk (below_step HB.out hb); clear BK263; clear HB; have BK263 := n0_; have HB := n1_; clear n0_ n1_; (try clear hb); (try clear hb2); (try clear hk); (try clear hi)))
 go_ret
 exact ⟨a2_, (a3_ HB.out GE263.out)⟩

/-! ### slices_IndexFunc_int64_int64: function 57 -/
def slices_IndexFunc_int64_int64.r (p : Int → Bool) (l : List Int) : Int := if l.any p = true then (l.findIdx p : Int) else -1
set_option maxHeartbeats 4000000 in
set_option maxRecDepth 100000 in
theorem slices_IndexFunc_int64_int64.callsF (g : Nat) (lb : Array Value) (p : Int → Bool) (A : Option Addr) (c : Nat) (l : List Int) (w : World)
    (eg : ∀ args w, (callFunc g args).run Try.prog w = .ok (.enter g args) w)
    (hr : Kd.C (Kd.int .i64) w A l.length l)
    (hp : ∀ (W : World) (i : Nat) (x : Int), l[i]? = some x → Below w.heap.size w W → Calls Try.prog g (#[.int .i64 x] ++ lb) W fun e w' => e = .returned (.bool (p x)) ∧ Below w.heap.size w w') :
    Calls Try.prog 57 #[.slice A l.length c, .func (.func g) #[] lb] w fun e w' => e = .returned (.int .i64 (slices_IndexFunc_int64_int64.r p l)) ∧ Below w.heap.size w w' := by
  have HR := Aside0.mk hr
  have HP := Aside0.mk hp
  have hlen : l.length ≤ 9223372036854775807 := hr.2.1
  clear hr hp
  go_enter Try.func57, Try.ntmps57
  go_wp2
  go_loopg [5, 8] l.length (fun gg _ s8 wr => ∃ kk : Nat, kk ≤ l.length ∧ l.length - kk ≤ gg ∧ s8 = .int .i64 kk ∧ Aside0 (Below w.heap.size w wr) ∧ Aside0 (∀ j x, l[j]? = some x → j < kk → p x = false))
  case atStart => exact ⟨0, Nat.zero_le _, by omega, rfl, ⟨Below.refl _ w⟩, ⟨fun j x _ hj => absurd hj (Nat.not_lt_zero _)⟩⟩
  case round =>
    obtain ⟨kk, hkk, hg, rfl, BW, AA⟩ := hrel
    by_cases hlt : kk < l.length
    · have hltz : (kk : Int) < (l.length : Int) := by omega
      have hge : (0 : Int) ≤ (kk : Int) := by omega
      obtain ⟨ad, rfl, hx⟩ := Kd.at_int HR.out (kk : Int) hge hltz
      have hx := (BW.out.cell (World.block_lt_of_cell? _ _ hx)).trans hx
      have hget : l[kk]? = some (rd l (kk : Int)) := by
        unfold rd; rw [Int.toNat_natCast, List.getD_eq_getElem?_getD, List.getElem?_eq_getElem hlt]; rfl
      have hcall := HP.out wr kk _ hget BW.out
      have G := Aside0.mk hget
      clear hget
      generalize rd l (kk : Int) = y at hx hcall G
      rw [Int.toNat_natCast] at hx
      cases hq : p y with
      | true =>
        rw [hq] at hcall
        have HQ := Aside0.mk hq
        clear hq
        go_wp2_with (go_at_fn g; refine hcall.mono ?_; rintro e w' ⟨rfl, hb'⟩)
        go_ret
        refine ⟨?_, hb'⟩
        have h1 : l.any p = true := List.any_eq_true.2 ⟨y, List.mem_of_getElem? G.out, HQ.out⟩
        have h2 : l.findIdx p = kk := by
          have e1 : l.findIdx p ≤ kk := by
            rw [← Nat.not_lt]
            intro hh
            have := List.not_of_lt_findIdx hh
            have e2 := List.getElem?_eq_some_iff.1 G.out
            rw [e2.2, HQ.out] at this
            simp at this
          have e3 : ¬ l.findIdx p < kk := by
            intro hh
            have hlt2 : l.findIdx p < l.length := by omega
            have h4 := AA.out _ _ (List.getElem?_eq_getElem hlt2) hh
            have h5 := List.findIdx_getElem (w := hlt2)
            rw [h4] at h5
            simp at h5
          omega
        have h3 : slices_IndexFunc_int64_int64.r p l = (kk : Int) := by unfold slices_IndexFunc_int64_int64.r; rw [if_pos h1, h2]
        rw [h3]; rfl
      | false =>
        rw [hq] at hcall
        have HQ := Aside0.mk hq
        clear hq
        go_wp2_with (go_at_fn g; refine hcall.mono ?_; rintro e w' ⟨rfl, hb'⟩)
        go_roundg (l.length - (kk + 1))
        case measure => omega
        case rel =>
          refine ⟨kk + 1, by omega, by omega, by go_num, ⟨hb'⟩, ⟨fun j x hj hjk => ?_⟩⟩
          by_cases e : j = kk
          · subst e
            rw [G.out] at hj
            cases hj
            exact HQ.out
          · exact AA.out j x hj (by omega)
    · have hltz : ¬ (kk : Int) < (l.length : Int) := by omega
      have hkl : kk = l.length := by omega
      subst hkl
      go_wp2
      go_ret
      refine ⟨?_, BW.out⟩
      have h1 : ¬ l.any p = true := by
        intro h
        obtain ⟨x, hx, hpx⟩ := List.any_eq_true.1 h
        obtain ⟨j, hj, rfl⟩ := List.getElem_of_mem hx
        have := AA.out j _ (List.getElem?_eq_getElem hj) hj
        rw [this] at hpx
        cases hpx
      have h3 : slices_IndexFunc_int64_int64.r p l = -1 := by unfold slices_IndexFunc_int64_int64.r; rw [if_neg h1]
      rw [h3]; rfl

/-! ### slices_ContainsFunc_int64_int64: function 41 -/
set_option maxHeartbeats 4000000 in
set_option maxRecDepth 100000 in
theorem slices_ContainsFunc_int64_int64.callsF (g : Nat) (lb : Array Value) (p : Int → Bool) (A : Option Addr) (c : Nat) (l : List Int) (w : World)
    (eg : ∀ args w, (callFunc g args).run Try.prog w = .ok (.enter g args) w)
    (hr : Kd.C (Kd.int .i64) w A l.length l)
    (hp : ∀ (W : World) (i : Nat) (x : Int), l[i]? = some x → Below w.heap.size w W → Calls Try.prog g (#[.int .i64 x] ++ lb) W fun e w' => e = .returned (.bool (p x)) ∧ Below w.heap.size w w') :
    Calls Try.prog 41 #[.slice A l.length c, .func (.func g) #[] lb] w fun e w' => e = .returned (.bool (l.any p)) ∧ Below w.heap.size w w' := by
  have HI := Aside0.mk (slices_IndexFunc_int64_int64.callsF g lb p A c l w eg hr hp)
  clear hr hp eg
  go_enter Try.func41, Try.ntmps41
  go_wp2_with (go_at_call 57; refine HI.out.mono ?_; rintro e w' ⟨rfl, hb'⟩)
  go_ret
  refine ⟨?_, hb'⟩
  have h3 : decide (0 ≤ slices_IndexFunc_int64_int64.r p l) = l.any p := by
    unfold slices_IndexFunc_int64_int64.r
    by_cases h : l.any p = true
    · rw [if_pos h, h]; exact decide_eq_true (Int.natCast_nonneg _)
    · rw [if_neg h, Bool.eq_false_iff.2 h]; rfl
  rw [← h3]; rfl

/-! ### impl_Graph_complete: function 26 -/
def anyQ {α : Type} (q : α → Option Bool) : List α → Option Bool
  | [] => some false
  | x :: l => (q x).bind fun b => (anyQ q l).bind fun c => some (b || c)
theorem anyQ_mono {α : Type} {q q' : α → Option Bool} (h : ∀ x, LeO (q x) (q' x)) : ∀ l, LeO (anyQ q l) (anyQ q' l)
  | [] => LeO.refl _
  | x :: l => LeO.bind (h x) (fun _ => LeO.bind (anyQ_mono h l) (fun _ => LeO.refl _))
theorem anyQ_all {α : Type} {q : α → Option Bool} : ∀ {l : List α} {b : Bool}, anyQ q l = some b → (∀ x ∈ l, q x = some ((q x).getD false)) ∧ l.any (fun x => (q x).getD false) = b
  | [], b, h => by
    simp only [anyQ, Option.some.injEq] at h
    subst h
    exact ⟨fun x hx => absurd hx (by simp), rfl⟩
  | x :: l, b, h => by
    simp only [anyQ] at h
    obtain ⟨b1, h1, h⟩ := Option.bind_eq_some_iff.mp h
    obtain ⟨b2, h2, h⟩ := Option.bind_eq_some_iff.mp h
    obtain rfl := Option.some.inj h
    obtain ⟨i1, i2⟩ := anyQ_all h2
    refine ⟨fun y hy => ?_, ?_⟩
    · rcases List.mem_cons.1 hy with rfl | hy
      · rw [h1]; rfl
      · exact i1 y hy
    · rw [List.any_cons, i2, h1]; rfl
def impl_Graph_complete.q (k : Nat) (g0 : Int) (g1 g2 : List S43) (id : Int) : Option Bool := (impl_Graph_has.f k g0 g1 g2 id).bind fun b => some (!b)
def impl_Graph_complete.f (k : Nat) (g0 : Int) (g1 g2 : List S43) (e7 : List Int) : Option Bool := (anyQ (impl_Graph_complete.q k g0 g1 g2) e7).bind fun b => some (!b)
theorem impl_Graph_complete.mono : ∀ g0 g1 g2 e7 k, LeO (impl_Graph_complete.f k g0 g1 g2 e7) (impl_Graph_complete.f (k + 1) g0 g1 g2 e7) := by
  intro g0 g1 g2 e7 k
  exact LeO.bind (anyQ_mono (fun id => LeO.bind (impl_Graph_has.mono _ _ _ _ _) (fun _ => LeO.refl _)) _) (fun _ => LeO.refl _)
set_option maxHeartbeats 4000000 in
set_option maxRecDepth 100000 in
theorem impl_Graph_complete.closure (k : Nat) (g0 : Int) (A1 : Option Addr) (c1 : Nat) (g1 : List S43) (A2 : Option Addr) (c2 : Nat) (g2 : List S43) (id : Int) (b : Bool) (B : Nat) (w : World) (hr1 : Kd.C k43 w A1 g1.length g1) (hc1 : g1.length ≤ c1) (hr2 : Kd.C k43 w A2 g2.length g2) (hc2 : g2.length ≤ c2)
    (x0 : w.cell? ⟨B, 0, none⟩ = some (.int .i64 g0)) (x1 : w.cell? ⟨B, 1, none⟩ = some (.slice A1 g1.length c1)) (x2 : w.cell? ⟨B, 2, none⟩ = some (.slice A2 g2.length c2)) (h : impl_Graph_complete.q k g0 g1 g2 id = some b) :
    Calls Try.prog 42 #[.int .i64 id, .pointer (some ⟨B, 0, none⟩)] w fun e w' => e = .returned (.bool b) ∧ Below w.heap.size w w' := by
  have HB := Aside0.mk (Below.refl w.heap.size w)
  obtain ⟨b1, h1, h2⟩ := Option.bind_eq_some_iff.mp h
  obtain rfl := Option.some.inj h2
  have H1 := Aside0.mk h1
  have HR1 := Aside0.mk hr1
  have HR2 := Aside0.mk hr2
  have HC1 := Aside0.mk hc1
  have HC2 := Aside0.mk hc2
  clear h h1 h2 hr1 hr2 hc1 hc2
  go_enter Try.func42, Try.ntmps42
  go_wp2_with (go_at_call 28; refine (impl_Graph_has.calls k g0 A1 c1 g1 A2 c2 g2 id b1 _ ?side1 ?side2 ?side3 ?side4 H1.out).mono ?_; (case side1 => exact HR1.out); (case side2 => exact HC1.out); (case side3 => exact HR2.out); (case side4 => exact HC2.out); rintro e w' ⟨rfl, hb⟩; have HB1 := Aside0.mk (below_step HB.out (by first | exact hb | exact hb.below)); clear hb)
  go_ret
  exact ⟨by first | rfl | simp, HB1.out⟩
set_option maxHeartbeats 4000000 in
set_option maxRecDepth 100000 in
theorem impl_Graph_complete.calls (k : Nat) (g0 : Int) (A1 : Option Addr) (c1 : Nat) (g1 : List S43) (A2 : Option Addr) (c2 : Nat) (g2 : List S43) (e0 e1 e2 e3 e4 e5 : Int) (e6 : ByteArray) (A7 : Option Addr) (c7 : Nat) (e7 : List Int) (e8 : Int) (r : Bool) (w : World) (hr1 : Kd.C k43 w A1 g1.length g1) (hc1 : g1.length ≤ c1) (hr2 : Kd.C k43 w A2 g2.length g2) (hc2 : g2.length ≤ c2) (hr7 : Kd.C (Kd.int .i64) w A7 e7.length e7) (hc7 : e7.length ≤ c7) (h : impl_Graph_complete.f k g0 g1 g2 e7 = some r) :
    Calls Try.prog 26 #[.agg #[.int .i64 g0, .slice A1 g1.length c1, .slice A2 g2.length c2], .agg #[.int .i64 e0, .int .i64 e1, .int .i64 e2, .int .i64 e3, .int .i64 e4, .int .i64 e5, .string e6, .slice A7 e7.length c7, .int .i64 e8]] w fun e w' => e = .returned (.bool r) ∧ Below w.heap.size w w' := by
  obtain ⟨b, h1, h2⟩ := Option.bind_eq_some_iff.mp h
  obtain rfl := Option.some.inj h2
  obtain ⟨h3, rfl⟩ := anyQ_all h1
  have HB := Aside0.mk (Below.refl w.heap.size w)
  have HC := Aside0.mk (slices_ContainsFunc_int64_int64.callsF 42 #[.pointer (some ⟨w.heap.size, 0, none⟩)] (fun id => (impl_Graph_complete.q k g0 g1 g2 id).getD false) A7 c7 e7 ((w.alloc (.cells #[.int .i64 g0, .slice A1 g1.length c1, .slice A2 g2.length c2] 29)).alloc (.cells #[.int .i64 e0, .int .i64 e1, .int .i64 e2, .int .i64 e3, .int .i64 e4, .int .i64 e5, .string e6, .slice A7 e7.length c7, .int .i64 e8] 43)) (enters_of Try.func42 (by kernel_rfl) rfl)
    (Kd.C_below hr7 (below_alloc (below_alloc (Below.refl _ _) _) _))
    (fun W i x hx hb => (impl_Graph_complete.closure k g0 A1 c1 g1 A2 c2 g2 x _ w.heap.size W (Kd.C_below hr1 (below_then (below_alloc (below_alloc (Below.refl _ _) _) _) (by simp; try omega) hb)) hc1 (Kd.C_below hr2 (below_then (below_alloc (below_alloc (Below.refl _ _) _) _) (by simp; try omega) hb)) hc2
      ((hb.cell (p := ⟨w.heap.size, 0, none⟩) (by simp; try omega)).trans ((World.cell?_alloc_lt (w.alloc (.cells #[.int .i64 g0, .slice A1 g1.length c1, .slice A2 g2.length c2] 29)) (.cells #[.int .i64 e0, .int .i64 e1, .int .i64 e2, .int .i64 e3, .int .i64 e4, .int .i64 e5, .string e6, .slice A7 e7.length c7, .int .i64 e8] 43) ⟨w.heap.size, 0, none⟩ (by simp; try omega)).trans (by simp))) ((hb.cell (p := ⟨w.heap.size, 1, none⟩) (by simp; try omega)).trans ((World.cell?_alloc_lt (w.alloc (.cells #[.int .i64 g0, .slice A1 g1.length c1, .slice A2 g2.length c2] 29)) (.cells #[.int .i64 e0, .int .i64 e1, .int .i64 e2, .int .i64 e3, .int .i64 e4, .int .i64 e5, .string e6, .slice A7 e7.length c7, .int .i64 e8] 43) ⟨w.heap.size, 1, none⟩ (by simp; try omega)).trans (by simp))) ((hb.cell (p := ⟨w.heap.size, 2, none⟩) (by simp; try omega)).trans ((World.cell?_alloc_lt (w.alloc (.cells #[.int .i64 g0, .slice A1 g1.length c1, .slice A2 g2.length c2] 29)) (.cells #[.int .i64 e0, .int .i64 e1, .int .i64 e2, .int .i64 e3, .int .i64 e4, .int .i64 e5, .string e6, .slice A7 e7.length c7, .int .i64 e8] 43) ⟨w.heap.size, 2, none⟩ (by simp; try omega)).trans (by simp))) (h3 x (List.mem_of_getElem? hx))).mono (fun _ _ h2 => ⟨h2.1, below_step hb h2.2⟩)))
  clear hr1 hr2 hr7 h h1 h2 h3
  go_enter Try.func26, Try.ntmps26
  go_wp2_with (go_at_call 41; (with_reducible refine HC.out.mono ?_); rintro e w' ⟨rfl, hb⟩)
  go_ret
  exact ⟨by first | rfl | simp, below_step (a1_ HB.out) hb⟩

end Go.Proofs.Ytkhidbahbcfkbaa.Print
