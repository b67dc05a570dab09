-- Printed by wip/myprint.py over the kit's print, in this session's own call.
import Derived.Test.YtkhidbahbcfkbaaPrint0
import Derived.Test.YtkhidbahbcfkbaaPrint4
namespace Go.Proofs.Ytkhidbahbcfkbaa.Print
open Go.RowKit Go.Proofs.YtkhidbahbcfkbaaW.PrintWords Go.Proofs.YtkhidbahbcfkbaaW.PrintLast Go.Proofs.YtkhidbahbcfkbaaW.PrintMore
attribute [local go_sem] max2_int min2_int max_two min_two max_three min_three max_four min_four   -- for this text's walks alone
set_option linter.unusedVariables false
set_option linter.unusedSimpArgs false

/-! ### spec_l03Row: function 17 -/
def spec_l03Row.l0 : Nat → List (S43) → Int → Int → Option (Bool)
  | 0, _, _, _ => none
  | k + 1, x0, x1, x7 => if x7 < (x0.length : Int) then (if 0 ≤ x7 then ((spec_EventRight.f k ((rd_T43 x0 x7).f0) ((rd_T43 x0 x7).f1) ((rd_T43 x0 x7).f2) ((rd_T43 x0 x7).f3) ((rd_T43 x0 x7).f4) ((rd_T43 x0 x7).f5) ((rd_T43 x0 x7).f6) ((rd_T43 x0 x7).f7) ((rd_T43 x0 x7).f8)).bind fun t180 => (if t180 = true then (if ((rd_T43 x0 x7).f1) = x1 then (if x7 > 0 then (if 0 ≤ (wrap64 (x7 - 1)) then (if (wrap64 (x7 - 1)) < (x0.length : Int) then (if ((rd_T43 x0 (wrap64 (x7 - 1))).f0) ≥ ((rd_T43 x0 x7).f0) then (some false) else (spec_l03Row.l0 k x0 x1 (wrap64 (x7 + 1)))) else (none)) else (none)) else (spec_l03Row.l0 k x0 x1 (wrap64 (x7 + 1)))) else (some false)) else (some false))) else (none)) else (some true)
def spec_l03Row.f (k : Nat) (l0 : List (S43)) (a1 : Int) (a2 : Int) : Option (Bool) := if (l0.length : Int) > a2 then (some false) else (spec_l03Row.l0 k l0 a1 0)
theorem spec_l03Row.mono_l : ∀ k, (∀ y0 y1 y2, LeO (spec_l03Row.l0 k y0 y1 y2) (spec_l03Row.l0 (k + 1) y0 y1 y2))
  | 0 => fun _ _ _ r h => by simp [spec_l03Row.l0] at h
  | k + 1 => by
    have ih0 := spec_l03Row.mono_l k
    · intro y0 y1 y2
      unfold spec_l03Row.l0
      repeat' first
      | (with_reducible exact ih0 _ _ _)
      | (with_reducible exact spec_EventRight.mono _ _ _ _ _ _ _ _ _ _)
      | (with_reducible exact LeO.refl _)
      | (with_reducible exact LeO.none _)
      | (with_reducible refine LeO.ite ?_ ?_)
      | (with_reducible refine LeO.bind ?_ (fun _ => ?_))
      | exact ih0 _ _ _
      | exact spec_EventRight.mono _ _ _ _ _ _ _ _ _ _
      | exact LeO.none _
      | refine LeO.ite ?_ ?_
      | refine LeO.bind ?_ (fun _ => ?_)
theorem spec_l03Row.mono : ∀ a0 a1 a2 k, LeO (spec_l03Row.f k a0 a1 a2) (spec_l03Row.f (k + 1) a0 a1 a2) := by
  intro a0 a1 a2 k
  have ih0 := spec_l03Row.mono_l k
  unfold spec_l03Row.f
  repeat' first
      | (with_reducible exact ih0 _ _ _)
      | (with_reducible exact spec_EventRight.mono _ _ _ _ _ _ _ _ _ _)
      | (with_reducible exact LeO.refl _)
      | (with_reducible exact LeO.none _)
      | (with_reducible refine LeO.ite ?_ ?_)
      | (with_reducible refine LeO.bind ?_ (fun _ => ?_))
      | exact ih0 _ _ _
      | exact spec_EventRight.mono _ _ _ _ _ _ _ _ _ _
      | exact LeO.none _
      | refine LeO.ite ?_ ?_
      | refine LeO.bind ?_ (fun _ => ?_)
def spec_l03Row.T6 : Bool × List (List Nat × List Nat) := (true, [([], []), ([], []), ([0, 1], [0, 1]), ([2], [2]), ([3], [3]), ([4], [4]), ([5, 4], [5]), ([6], [6]), ([6], [6]), ([7, 8, 6], [6, 7, 8]), ([9, 6], [6, 9]), ([10, 6], [6, 10]), ([6], [6]), ([11, 12, 6], [6, 11, 12]), ([6, 13], [6, 13]), ([14, 6], [14]), ([15], [15]), ([16, 15], [15, 16]), ([17, 15, 15], [15, 17]), ([18], [18]), ([18], [18]), ([20, 18], [18, 20]), ([19, 21, 18], [18, 19, 21]), ([22, 18], [18, 22]), ([23, 18], [18, 23]), ([18], [18]), ([18], [18]), ([25, 26, 18], [18, 25, 26]), ([27, 18], [18, 27]), ([28, 18], [18, 28]), ([24, 29, 18], [18, 24, 29]), ([18, 30, 15], [15, 18, 30]), ([15, 31], [15, 31])])
def spec_l03Row.B6 : List Nat := [0, 0, 3, 7, 15, 31, 63, 127, 127, 511, 1023, 2047, 127, 8191, 16383, 32767, 65535, 131071, 262143, 524287, 524287, 1572863, 4194303, 8388607, 16777215, 524287, 524287, 101187583, 235405311, 503840767, 1073741823, 2147483647, 4294967295]
theorem spec_l03Row.tab6 : rtab .any (opsOf Try.f17 6) = spec_l03Row.T6 := by kernel_rfl
theorem spec_l03Row.bits6 : waitsOk spec_l03Row.T6.2 spec_l03Row.B6 = true := by kernel_rfl
set_option maxHeartbeats 8000000 in
set_option maxRecDepth 100000 in
theorem spec_l03Row.calls (k : Nat) (A0 : Option Addr) (c0 : Nat) (l0 : List (S43)) (a1 : Int) (a2 : Int) (r : Bool) (w : World) (hr0 : Kd.C k43 w A0 l0.length l0) (hc0 : l0.length ≤ c0) (h : spec_l03Row.f k l0 a1 a2 = some r) :
    Calls Try.prog 17 #[.slice A0 l0.length c0, .int .i64 a1, .int .i64 a2] w fun e w' => e = .returned (.bool r) ∧ Below w.heap.size w w' := by
 have hu43 := Try.underlying43
 have HR0 := Aside0.mk hr0
 have HC0 := Aside0.mk hc0
 clear hr0 hc0
 have HB := Aside0.mk (Below.refl w.heap.size w)
 have H : (if (l0.length : Int) > a2 then (some false) else (spec_l03Row.l0 k l0 a1 0)) = some r := h
 clear h
 go_enter Try.func17, Try.ntmps17
 by_cases c4 : (l0.length : Int) > a2
 ·
  rw [if_pos c4] at H
  have c4b0 : decide (a2 < (l0.length : Int)) = true := decide_eq_true c4
  clear c4
  obtain rfl := Option.some.inj H
  (try simp only [c4b0, Bool.not_true, Bool.not_false])
  go_wp2
  go_ret
  exact ⟨a2_, (a1_ HB.out)⟩
 ·
  rw [if_neg c4] at H
  have c4b0 : decide (a2 < (l0.length : Int)) = false := decide_eq_false c4
  clear c4
  have H' := Aside0.mk H
  clear H
  (try simp only [c4b0, Bool.not_true, Bool.not_false])
  go_wp2
  go_loopg [7] k (fun kq v7 w' => ∃ (x7_1 : Int), v7 = .int .i64 x7_1 ∧ Aside0 (spec_l03Row.l0 kq l0 a1 x7_1 = some r) ∧ Aside0 (kq ≤ k) ∧ Aside0 (Below w.heap.size w w'))
  case atStart => exact ⟨(0), (by first | rfl | (simp; done) | (simp [*]; done)), H', ⟨Nat.le_refl _⟩, ⟨(a1_ HB.out)⟩⟩
  case round =>
   clear H'
   try clear c1
   try clear p2
   try clear c4
   try clear c4b0
   obtain ⟨x7_1, rfl, HA, HK1, HB⟩ := hrel
   cases gk with
   | zero => exact absurd HA.out (by simp [spec_l03Row.l0])
   | succ k1 =>
    have H := HA.out
    clear HA
    simp only [spec_l03Row.l0] at H
    by_cases c5 : x7_1 < (l0.length : Int)
    ·
     rw [if_pos c5] at H
     have c5b0 : decide (x7_1 < (l0.length : Int)) = true := decide_eq_true c5
     clear c5
     by_cases c6 : 0 ≤ x7_1
     ·
      rw [if_pos c6] at H
      have c6b0 : decide (0 ≤ x7_1) = true := decide_eq_true c6
      clear c6
      replace H := Option.bind_eq_some_iff.mp H
      obtain ⟨t180, A70, H⟩ := H
      replace H : (if t180 = true then (if ((rd_T43 l0 x7_1).f1) = a1 then (if x7_1 > 0 then (if 0 ≤ (wrap64 (x7_1 - 1)) then (if (wrap64 (x7_1 - 1)) < (l0.length : Int) then (if ((rd_T43 l0 (wrap64 (x7_1 - 1))).f0) ≥ ((rd_T43 l0 x7_1).f0) then (some false) else (spec_l03Row.l0 k1 l0 a1 (wrap64 (x7_1 + 1)))) else (none)) else (none)) else (spec_l03Row.l0 k1 l0 a1 (wrap64 (x7_1 + 1)))) else (some false)) else (some false)) = some r := H
      have A7 := Aside0.mk A70
      clear A70
      by_cases c8 : t180 = true
      ·
       subst c8
       have H1 : (if ((rd_T43 l0 x7_1).f1) = a1 then (if x7_1 > 0 then (if 0 ≤ (wrap64 (x7_1 - 1)) then (if (wrap64 (x7_1 - 1)) < (l0.length : Int) then (if ((rd_T43 l0 (wrap64 (x7_1 - 1))).f0) ≥ ((rd_T43 l0 x7_1).f0) then (some false) else (spec_l03Row.l0 k1 l0 a1 (wrap64 (x7_1 + 1)))) else (none)) else (none)) else (spec_l03Row.l0 k1 l0 a1 (wrap64 (x7_1 + 1)))) else (some false)) = some r := by rw [if_pos rfl] at H; exact H
       clear H
       have H := H1
       clear H1
       by_cases c9 : ((rd_T43 l0 x7_1).f1) = a1
       ·
        rw [if_pos c9] at H
        have c9b0 : (((rd_T43 l0 x7_1).f1) == a1) = true := beq_iff_eq.mpr c9
        have c9b1 : (((rd_T43 l0 x7_1).f1) != a1) = false := bne_eq_false_iff_eq.mpr c9
        clear c9
        by_cases c10 : x7_1 > 0
        ·
         rw [if_pos c10] at H
         have c10b0 : decide (0 < x7_1) = true := decide_eq_true c10
         clear c10
         obtain ⟨ji11, hji11⟩ : ∃ j_ : Int, (wrap64 (x7_1 - 1)) = j_ := ⟨_, rfl⟩
         replace H : (if 0 ≤ (ji11) then (if (ji11) < (l0.length : Int) then (if ((rd_T43 l0 (ji11)).f0) ≥ ((rd_T43 l0 x7_1).f0) then (some false) else (spec_l03Row.l0 k1 l0 a1 (wrap64 (x7_1 + 1)))) else (none)) else (none)) = some r := by first | (rw [hji11] at H; exact H) | (simp only [hji11] at H ⊢; exact H)
         (try rw [hji11] at A7)
         have hji11w : (IntKind.i64.wrap (x7_1 - 1)) = ji11 := (i64_w _).trans hji11
         by_cases c12 : 0 ≤ (ji11)
         ·
          rw [if_pos c12] at H
          have c12b0 : decide (0 ≤ (ji11)) = true := decide_eq_true c12
          clear c12
          by_cases c13 : (ji11) < (l0.length : Int)
          ·
           rw [if_pos c13] at H
           have c13b0 : decide ((ji11) < (l0.length : Int)) = true := decide_eq_true c13
           clear c13
           by_cases c14 : ((rd_T43 l0 (ji11)).f0) ≥ ((rd_T43 l0 x7_1).f0)
           ·
            rw [if_pos c14] at H
            have c14b0 : decide (((rd_T43 l0 x7_1).f0) ≤ ((rd_T43 l0 (ji11)).f0)) = true := decide_eq_true c14
            clear c14
            obtain rfl := Option.some.inj H
            try go_wp2
            have n0_ := Aside0.mk (below_drew1 HB.out)
            clear HB
            have HB := n0_
            clear n0_
            have p179 : 0 ≤ (x7_1 : Int) := of_decide_eq_true (by first | (with_reducible assumption) | assumption)
            have q179 : x7_1 < (l0.length : Int) := of_decide_eq_true (by first | (with_reducible assumption) | assumption)
            obtain ⟨ad179, A179_7, c179_7, e179, hx179_0, hx179_1, hx179_2, hx179_3, hx179_4, hx179_5, hx179_6, hx179_7, hx179_8, hl179_7, hi179_7⟩ := at_T43 HR0.out x7_1 p179 q179
            have hw179_8 := hx179_8
            have hw179_7 := hx179_7
            have hw179_6 := hx179_6
            have hw179_5 := hx179_5
            have hw179_4 := hx179_4
            have hw179_3 := hx179_3
            have hw179_2 := hx179_2
            have hw179_1 := hx179_1
            have hw179_0 := hx179_0
            cases e179
            replace hx179_0 := ce_ HB.out hx179_0
            replace hx179_1 := ce_ HB.out hx179_1
            replace hx179_2 := ce_ HB.out hx179_2
            replace hx179_3 := ce_ HB.out hx179_3
            replace hx179_4 := ce_ HB.out hx179_4
            replace hx179_5 := ce_ HB.out hx179_5
            replace hx179_6 := ce_ HB.out hx179_6
            replace hx179_7 := ce_ HB.out hx179_7
            replace hx179_8 := ce_ HB.out hx179_8
            have HR179_7 := Aside0.mk hi179_7
            have HC179_7 := Aside0.mk hl179_7
            clear hi179_7 hl179_7
            replace p179 := eq_true p179
            replace q179 := eq_true q179
            have p181 : 0 ≤ (x7_1 : Int) := of_decide_eq_true (by first | (with_reducible assumption) | assumption)
            have q181 : x7_1 < (l0.length : Int) := of_decide_eq_true (by first | (with_reducible assumption) | assumption)
            obtain ⟨ad181, A181_7, c181_7, e181, hx181_0, hx181_1, hx181_2, hx181_3, hx181_4, hx181_5, hx181_6, hx181_7, hx181_8, hl181_7, hi181_7⟩ := at_T43 HR0.out x7_1 p181 q181
            have hw181_8 := hx181_8
            have hw181_7 := hx181_7
            have hw181_6 := hx181_6
            have hw181_5 := hx181_5
            have hw181_4 := hx181_4
            have hw181_3 := hx181_3
            have hw181_2 := hx181_2
            have hw181_1 := hx181_1
            have hw181_0 := hx181_0
            obtain rfl : ad179 = ad181 := (by injection e181)
            replace hx181_0 := ce_ HB.out hx181_0
            replace hx181_1 := ce_ HB.out hx181_1
            replace hx181_2 := ce_ HB.out hx181_2
            replace hx181_3 := ce_ HB.out hx181_3
            replace hx181_4 := ce_ HB.out hx181_4
            replace hx181_5 := ce_ HB.out hx181_5
            replace hx181_6 := ce_ HB.out hx181_6
            replace hx181_7 := ce_ HB.out hx181_7
            replace hx181_8 := ce_ HB.out hx181_8
            have HR181_7 := Aside0.mk hi181_7
            have HC181_7 := Aside0.mk hl181_7
            clear hi181_7 hl181_7
            replace p181 := eq_true p181
            replace q181 := eq_true q181
            have p182 : 0 ≤ ((ji11) : Int) := of_decide_eq_true (by first | (with_reducible assumption) | assumption)
            have q182 : (ji11) < (l0.length : Int) := of_decide_eq_true (by first | (with_reducible assumption) | assumption)
            obtain ⟨ad182, A182_7, c182_7, e182, hx182_0, hx182_1, hx182_2, hx182_3, hx182_4, hx182_5, hx182_6, hx182_7, hx182_8, hl182_7, hi182_7⟩ := at_T43 HR0.out (ji11) p182 q182
            have hw182_8 := hx182_8
            have hw182_7 := hx182_7
            have hw182_6 := hx182_6
            have hw182_5 := hx182_5
            have hw182_4 := hx182_4
            have hw182_3 := hx182_3
            have hw182_2 := hx182_2
            have hw182_1 := hx182_1
            have hw182_0 := hx182_0
            obtain rfl : ad179 = ad182 := (by injection e182)
            replace hx182_0 := ce_ HB.out hx182_0
            replace hx182_1 := ce_ HB.out hx182_1
            replace hx182_2 := ce_ HB.out hx182_2
            replace hx182_3 := ce_ HB.out hx182_3
            replace hx182_4 := ce_ HB.out hx182_4
            replace hx182_5 := ce_ HB.out hx182_5
            replace hx182_6 := ce_ HB.out hx182_6
            replace hx182_7 := ce_ HB.out hx182_7
            replace hx182_8 := ce_ HB.out hx182_8
            have HR182_7 := Aside0.mk hi182_7
            have HC182_7 := Aside0.mk hl182_7
            clear hi182_7 hl182_7
            replace p182 := eq_true p182
            replace q182 := eq_true q182
            have p183 : 0 ≤ (x7_1 : Int) := of_decide_eq_true (by first | (with_reducible assumption) | assumption)
            have q183 : x7_1 < (l0.length : Int) := of_decide_eq_true (by first | (with_reducible assumption) | assumption)
            obtain ⟨ad183, A183_7, c183_7, e183, hx183_0, hx183_1, hx183_2, hx183_3, hx183_4, hx183_5, hx183_6, hx183_7, hx183_8, hl183_7, hi183_7⟩ := at_T43 HR0.out x7_1 p183 q183
            have hw183_8 := hx183_8
            have hw183_7 := hx183_7
            have hw183_6 := hx183_6
            have hw183_5 := hx183_5
            have hw183_4 := hx183_4
            have hw183_3 := hx183_3
            have hw183_2 := hx183_2
            have hw183_1 := hx183_1
            have hw183_0 := hx183_0
            obtain rfl : ad179 = ad183 := (by injection e183)
            replace hx183_0 := ce_ HB.out hx183_0
            replace hx183_1 := ce_ HB.out hx183_1
            replace hx183_2 := ce_ HB.out hx183_2
            replace hx183_3 := ce_ HB.out hx183_3
            replace hx183_4 := ce_ HB.out hx183_4
            replace hx183_5 := ce_ HB.out hx183_5
            replace hx183_6 := ce_ HB.out hx183_6
            replace hx183_7 := ce_ HB.out hx183_7
            replace hx183_8 := ce_ HB.out hx183_8
            have HR183_7 := Aside0.mk hi183_7
            have HC183_7 := Aside0.mk hl183_7
            clear hi183_7 hl183_7
            replace p183 := eq_true p183
            replace q183 := eq_true q183
            have ea_ := Option.some.inj (hx181_7.symm.trans hx183_7)
            injection ea_ with ea_ en_ ec_
            subst ea_
            subst ec_
            clear en_
            refine start_ (n := 33) (S := fun w' => w'.cell? (ad179.add ((x7_1).toNat * 9)) = some (.int .i64 ((rd_T43 l0 x7_1).f0)) ∧ w'.cell? ⟨(ad179.add ((x7_1).toNat * 9)).block, (ad179.add ((x7_1).toNat * 9)).off + 1, none⟩ = some (.int .i64 ((rd_T43 l0 x7_1).f1)) ∧ w'.cell? ⟨(ad179.add ((x7_1).toNat * 9)).block, (ad179.add ((x7_1).toNat * 9)).off + 2, none⟩ = some (.int .i64 ((rd_T43 l0 x7_1).f2)) ∧ w'.cell? ⟨(ad179.add ((x7_1).toNat * 9)).block, (ad179.add ((x7_1).toNat * 9)).off + 3, none⟩ = some (.int .i64 ((rd_T43 l0 x7_1).f3)) ∧ w'.cell? ⟨(ad179.add ((x7_1).toNat * 9)).block, (ad179.add ((x7_1).toNat * 9)).off + 4, none⟩ = some (.int .i64 ((rd_T43 l0 x7_1).f4)) ∧ w'.cell? ⟨(ad179.add ((x7_1).toNat * 9)).block, (ad179.add ((x7_1).toNat * 9)).off + 5, none⟩ = some (.int .i64 ((rd_T43 l0 x7_1).f5)) ∧ w'.cell? ⟨(ad179.add ((x7_1).toNat * 9)).block, (ad179.add ((x7_1).toNat * 9)).off + 6, none⟩ = some (.string ((rd_T43 l0 x7_1).f6)) ∧ w'.cell? ⟨(ad179.add ((x7_1).toNat * 9)).block, (ad179.add ((x7_1).toNat * 9)).off + 7, none⟩ = some (.slice A179_7 ((rd_T43 l0 x7_1).f7).length c179_7) ∧ w'.cell? ⟨(ad179.add ((x7_1).toNat * 9)).block, (ad179.add ((x7_1).toNat * 9)).off + 8, none⟩ = some (.int .i64 ((rd_T43 l0 x7_1).f8)) ∧ w'.cell? (ad179.add ((x7_1).toNat * 9)) = some (.int .i64 ((rd_T43 l0 x7_1).f0)) ∧ w'.cell? ⟨(ad179.add ((x7_1).toNat * 9)).block, (ad179.add ((x7_1).toNat * 9)).off + 1, none⟩ = some (.int .i64 ((rd_T43 l0 x7_1).f1)) ∧ w'.cell? ⟨(ad179.add ((x7_1).toNat * 9)).block, (ad179.add ((x7_1).toNat * 9)).off + 2, none⟩ = some (.int .i64 ((rd_T43 l0 x7_1).f2)) ∧ w'.cell? ⟨(ad179.add ((x7_1).toNat * 9)).block, (ad179.add ((x7_1).toNat * 9)).off + 3, none⟩ = some (.int .i64 ((rd_T43 l0 x7_1).f3)) ∧ w'.cell? ⟨(ad179.add ((x7_1).toNat * 9)).block, (ad179.add ((x7_1).toNat * 9)).off + 4, none⟩ = some (.int .i64 ((rd_T43 l0 x7_1).f4)) ∧ w'.cell? ⟨(ad179.add ((x7_1).toNat * 9)).block, (ad179.add ((x7_1).toNat * 9)).off + 5, none⟩ = some (.int .i64 ((rd_T43 l0 x7_1).f5)) ∧ w'.cell? ⟨(ad179.add ((x7_1).toNat * 9)).block, (ad179.add ((x7_1).toNat * 9)).off + 6, none⟩ = some (.string ((rd_T43 l0 x7_1).f6)) ∧ w'.cell? ⟨(ad179.add ((x7_1).toNat * 9)).block, (ad179.add ((x7_1).toNat * 9)).off + 7, none⟩ = some (.slice A181_7 ((rd_T43 l0 x7_1).f7).length c181_7) ∧ w'.cell? ⟨(ad179.add ((x7_1).toNat * 9)).block, (ad179.add ((x7_1).toNat * 9)).off + 8, none⟩ = some (.int .i64 ((rd_T43 l0 x7_1).f8)) ∧ w'.cell? (ad179.add (((ji11)).toNat * 9)) = some (.int .i64 ((rd_T43 l0 (ji11)).f0)) ∧ w'.cell? ⟨(ad179.add (((ji11)).toNat * 9)).block, (ad179.add (((ji11)).toNat * 9)).off + 1, none⟩ = some (.int .i64 ((rd_T43 l0 (ji11)).f1)) ∧ w'.cell? ⟨(ad179.add (((ji11)).toNat * 9)).block, (ad179.add (((ji11)).toNat * 9)).off + 2, none⟩ = some (.int .i64 ((rd_T43 l0 (ji11)).f2)) ∧ w'.cell? ⟨(ad179.add (((ji11)).toNat * 9)).block, (ad179.add (((ji11)).toNat * 9)).off + 3, none⟩ = some (.int .i64 ((rd_T43 l0 (ji11)).f3)) ∧ w'.cell? ⟨(ad179.add (((ji11)).toNat * 9)).block, (ad179.add (((ji11)).toNat * 9)).off + 4, none⟩ = some (.int .i64 ((rd_T43 l0 (ji11)).f4)) ∧ w'.cell? ⟨(ad179.add (((ji11)).toNat * 9)).block, (ad179.add (((ji11)).toNat * 9)).off + 5, none⟩ = some (.int .i64 ((rd_T43 l0 (ji11)).f5)) ∧ w'.cell? ⟨(ad179.add (((ji11)).toNat * 9)).block, (ad179.add (((ji11)).toNat * 9)).off + 6, none⟩ = some (.string ((rd_T43 l0 (ji11)).f6)) ∧ w'.cell? ⟨(ad179.add (((ji11)).toNat * 9)).block, (ad179.add (((ji11)).toNat * 9)).off + 7, none⟩ = some (.slice A182_7 ((rd_T43 l0 (ji11)).f7).length c182_7) ∧ w'.cell? ⟨(ad179.add (((ji11)).toNat * 9)).block, (ad179.add (((ji11)).toNat * 9)).off + 8, none⟩ = some (.int .i64 ((rd_T43 l0 (ji11)).f8)) ∧ w'.cell? (ad179.add ((x7_1).toNat * 9)) = some (.int .i64 ((rd_T43 l0 x7_1).f0)) ∧ w'.cell? ⟨(ad179.add ((x7_1).toNat * 9)).block, (ad179.add ((x7_1).toNat * 9)).off + 1, none⟩ = some (.int .i64 ((rd_T43 l0 x7_1).f1)) ∧ w'.cell? ⟨(ad179.add ((x7_1).toNat * 9)).block, (ad179.add ((x7_1).toNat * 9)).off + 2, none⟩ = some (.int .i64 ((rd_T43 l0 x7_1).f2)) ∧ w'.cell? ⟨(ad179.add ((x7_1).toNat * 9)).block, (ad179.add ((x7_1).toNat * 9)).off + 3, none⟩ = some (.int .i64 ((rd_T43 l0 x7_1).f3)) ∧ w'.cell? ⟨(ad179.add ((x7_1).toNat * 9)).block, (ad179.add ((x7_1).toNat * 9)).off + 4, none⟩ = some (.int .i64 ((rd_T43 l0 x7_1).f4)) ∧ w'.cell? ⟨(ad179.add ((x7_1).toNat * 9)).block, (ad179.add ((x7_1).toNat * 9)).off + 5, none⟩ = some (.int .i64 ((rd_T43 l0 x7_1).f5)) ∧ w'.cell? ⟨(ad179.add ((x7_1).toNat * 9)).block, (ad179.add ((x7_1).toNat * 9)).off + 6, none⟩ = some (.string ((rd_T43 l0 x7_1).f6)) ∧ w'.cell? ⟨(ad179.add ((x7_1).toNat * 9)).block, (ad179.add ((x7_1).toNat * 9)).off + 7, none⟩ = some (.slice A181_7 ((rd_T43 l0 x7_1).f7).length c181_7) ∧ w'.cell? ⟨(ad179.add ((x7_1).toNat * 9)).block, (ad179.add ((x7_1).toNat * 9)).off + 8, none⟩ = some (.int .i64 ((rd_T43 l0 x7_1).f8))) (ds := []) #[false, false, false, false, false, false, false, false, false, false, false, false, false, false, false, false, false, false, false, false, false, false, false, false, false, false, false, false, false, false, false, false, false] (by kernel_rfl) rfl rfl ⟨(ce_ HB.out hw179_0 :), (ce_ HB.out hw179_1 :), (ce_ HB.out hw179_2 :), (ce_ HB.out hw179_3 :), (ce_ HB.out hw179_4 :), (ce_ HB.out hw179_5 :), (ce_ HB.out hw179_6 :), (ce_ HB.out hw179_7 :), (ce_ HB.out hw179_8 :), (ce_ HB.out hw181_0 :), (ce_ HB.out hw181_1 :), (ce_ HB.out hw181_2 :), (ce_ HB.out hw181_3 :), (ce_ HB.out hw181_4 :), (ce_ HB.out hw181_5 :), (ce_ HB.out hw181_6 :), (ce_ HB.out hw181_7 :), (ce_ HB.out hw181_8 :), (ce_ HB.out hw182_0 :), (ce_ HB.out hw182_1 :), (ce_ HB.out hw182_2 :), (ce_ HB.out hw182_3 :), (ce_ HB.out hw182_4 :), (ce_ HB.out hw182_5 :), (ce_ HB.out hw182_6 :), (ce_ HB.out hw182_7 :), (ce_ HB.out hw182_8 :), (ce_ HB.out hw183_0 :), (ce_ HB.out hw183_1 :), (ce_ HB.out hw183_2 :), (ce_ HB.out hw183_3 :), (ce_ HB.out hw183_4 :), (ce_ HB.out hw183_5 :), (ce_ HB.out hw183_6 :), (ce_ HB.out hw183_7 :), (ce_ HB.out hw183_8 :)⟩ (fun hHeld => ?_); refine with_tabW spec_l03Row.tab6 spec_l03Row.bits6 (fun HT_ HW_ => ?_)
            generalize wr.drew = w15 at HB HR179_7 HR181_7 HR182_7 HR183_7 hx179_0 hx179_1 hx179_2 hx179_3 hx179_4 hx179_5 hx179_6 hx179_7 hx179_8 hx181_0 hx181_1 hx181_2 hx181_3 hx181_4 hx181_5 hx181_6 hx181_7 hx181_8 hx182_0 hx182_1 hx182_2 hx182_3 hx182_4 hx182_5 hx182_6 hx182_7 hx182_8 hx183_0 hx183_1 hx183_2 hx183_3 hx183_4 hx183_5 hx183_6 hx183_7 hx183_8 hHeld ⊢
            refine pure_ (i := 0) (N := some 18) (v := ?_) (a' := ?_) #[true, false, false, false, false, false, false, false, false, false, false, false, false, false, false, false, false, false, false, false, false, false, false, false, false, false, false, false, false, false, false, false, false] rfl rfl (any_of HT_.out (by kernel_rfl)) (fun _ _ _ h => h) (Or.inl ⟨by rfl, ?_⟩) ?_ ?_
            rotate_left
            ·
             intro w'
             go_simp
             with_reducible rfl
            rotate_left
            ·
             simp only [Act.put, lS, l0_, l1_, i64_w, i32_w]
             rfl
            refine pure_ (i := 1) (N := some 19) (v := ?_) (a' := ?_) #[true, true, false, false, false, false, false, false, false, false, false, false, false, false, false, false, false, false, false, false, false, false, false, false, false, false, false, false, false, false, false, false, false] rfl rfl (any_of HT_.out (by kernel_rfl)) (fun _ _ _ h => h) (Or.inl ⟨by rfl, ?_⟩) ?_ ?_
            rotate_left
            ·
             intro w'
             go_simp
             with_reducible rfl
            rotate_left
            ·
             simp only [Act.put, lS, l0_, l1_, i64_w, i32_w]
             rfl
            refine pure_ (i := 2) (N := some 20) (v := ?_) (a' := ?_) #[true, true, true, false, false, false, false, false, false, false, false, false, false, false, false, false, false, false, false, false, false, false, false, false, false, false, false, false, false, false, false, false, false] rfl rfl (any_of HT_.out (by kernel_rfl)) (fun _ _ _ h => h) (Or.inl ⟨by rfl, ?_⟩) ?_ ?_
            rotate_left
            ·
             intro w'
             go_simp
             with_reducible rfl
            rotate_left
            ·
             simp only [Act.put, lS, l0_, l1_, i64_w, i32_w]
             rfl
            refine take_ (i := 3) (N := some 21) (v := ?_) (a' := ?_) #[true, true, true, true, false, false, false, false, false, false, false, false, false, false, false, false, false, false, false, false, false, false, false, false, false, false, false, false, false, false, false, false, false] rfl rfl (take_ofW HT_.out HW_.out (by kernel_rfl)) (fun _ _ _ h => h) (Or.inl ⟨by rfl, ?_⟩) hHeld ?_ ?_
            rotate_left
            ·
             rintro w' ⟨s0, s1, s2, s3, s4, s5, s6, s7, s8, s9, s10, s11, s12, s13, s14, s15, s16, s17, s18, s19, s20, s21, s22, s23, s24, s25, s26, s27, s28, s29, s30, s31, s32, s33, s34, s35⟩
             go_simp
             with_reducible rfl
            rotate_left
            ·
             simp only [Act.put, lS, l0_, l1_, i64_w, i32_w]
             rfl
            refine one_ (i := 4) (N := some 22) #[true, true, true, true, true, false, false, false, false, false, false, false, false, false, false, false, false, false, false, false, false, false, false, false, false, false, false, false, false, false, false, false, false] rfl rfl (one_of HT_.out (by kernel_rfl)) (by decide) (fun K hK => ?_)
            refine goes_ Try.func36 (by kernel_rfl) rfl #[.agg #[.int .i64 ((rd_T43 l0 x7_1).f0), .int .i64 ((rd_T43 l0 x7_1).f1), .int .i64 ((rd_T43 l0 x7_1).f2), .int .i64 ((rd_T43 l0 x7_1).f3), .int .i64 ((rd_T43 l0 x7_1).f4), .int .i64 ((rd_T43 l0 x7_1).f5), .string ((rd_T43 l0 x7_1).f6), .slice A179_7 ((rd_T43 l0 x7_1).f7).length c179_7, .int .i64 ((rd_T43 l0 x7_1).f8)]] (by rfl) rfl rfl (by (try simp only [List.map_toArray, List.map_cons, List.map_nil]); first | done | rfl | (simp only [List.length_drop, List.length_take]; rfl)) ?_
            with_reducible refine (spec_EventRight.calls k1 ((rd_T43 l0 x7_1).f0) ((rd_T43 l0 x7_1).f1) ((rd_T43 l0 x7_1).f2) ((rd_T43 l0 x7_1).f3) ((rd_T43 l0 x7_1).f4) ((rd_T43 l0 x7_1).f5) ((rd_T43 l0 x7_1).f6) _ _ ((rd_T43 l0 x7_1).f7) ((rd_T43 l0 x7_1).f8) true _ ?side1 ?side2 A7.out).mono ?_
            (case side1 => repeat (first | exact (Kd.C_below HR179_7.out HB.out) | (with_reducible refine Kd.C_alloc ?_ _) | (with_reducible refine Kd.C_drewN ?_ _) | (with_reducible refine Kd.C_drew ?_)))
            (case side2 => exact HC179_7.out)
            rintro e w16 ⟨rfl, hb⟩
            refine ⟨_, rfl, ?_⟩
            have n0_ := Aside0.mk (below_step HB.out hb)
            clear HB
            have HB := n0_
            clear n0_
            (try clear hb)
            (try clear hb2)
            (try clear hk)
            (try clear hi)
            refine hK.out _ _ ⟨(ce_ HB.out hw179_0 :), (ce_ HB.out hw179_1 :), (ce_ HB.out hw179_2 :), (ce_ HB.out hw179_3 :), (ce_ HB.out hw179_4 :), (ce_ HB.out hw179_5 :), (ce_ HB.out hw179_6 :), (ce_ HB.out hw179_7 :), (ce_ HB.out hw179_8 :), (ce_ HB.out hw181_0 :), (ce_ HB.out hw181_1 :), (ce_ HB.out hw181_2 :), (ce_ HB.out hw181_3 :), (ce_ HB.out hw181_4 :), (ce_ HB.out hw181_5 :), (ce_ HB.out hw181_6 :), (ce_ HB.out hw181_7 :), (ce_ HB.out hw181_8 :), (ce_ HB.out hw182_0 :), (ce_ HB.out hw182_1 :), (ce_ HB.out hw182_2 :), (ce_ HB.out hw182_3 :), (ce_ HB.out hw182_4 :), (ce_ HB.out hw182_5 :), (ce_ HB.out hw182_6 :), (ce_ HB.out hw182_7 :), (ce_ HB.out hw182_8 :), (ce_ HB.out hw183_0 :), (ce_ HB.out hw183_1 :), (ce_ HB.out hw183_2 :), (ce_ HB.out hw183_3 :), (ce_ HB.out hw183_4 :), (ce_ HB.out hw183_5 :), (ce_ HB.out hw183_6 :), (ce_ HB.out hw183_7 :), (ce_ HB.out hw183_8 :)⟩ (fun hHeld => ?_)
            clear hK K
            refine norm_ (a' := ?_) ?_ ?_
            rotate_left
            ·
             show Act.put _ (some 22) _ = _
             simp only [Act.put, lS, l0_, l1_, i64_w, i32_w]
             rfl
            refine pure_ (i := 5) (N := some 23) (v := ?_) (a' := ?_) #[true, true, true, true, true, true, false, false, false, false, false, false, false, false, false, false, false, false, false, false, false, false, false, false, false, false, false, false, false, false, false, false, false] rfl rfl (any_of HT_.out (by kernel_rfl)) (fun _ _ _ h => h) (Or.inl ⟨by rfl, ?_⟩) ?_ ?_
            rotate_left
            ·
             intro w'
             go_simp
             with_reducible rfl
            rotate_left
            ·
             simp only [Act.put, lS, l0_, l1_, i64_w, i32_w]
             rfl
            refine pure_ (i := 6) (N := some 24) (v := ?_) (a' := ?_) #[true, true, true, true, true, true, true, false, false, false, false, false, false, false, false, false, false, false, false, false, false, false, false, false, false, false, false, false, false, false, false, false, false] rfl rfl (any_of HT_.out (by kernel_rfl)) (fun _ _ _ h => h) (Or.inl ⟨by rfl, ?_⟩) ?_ ?_
            rotate_left
            ·
             intro w'
             go_simp
             with_reducible rfl
            rotate_left
            ·
             simp only [Act.put, lS, l0_, l1_, i64_w, i32_w]
             rfl
            refine pure_ (i := 7) (N := some 25) (v := ?_) (a' := ?_) #[true, true, true, true, true, true, true, true, false, false, false, false, false, false, false, false, false, false, false, false, false, false, false, false, false, false, false, false, false, false, false, false, false] rfl rfl (any_of HT_.out (by kernel_rfl)) (fun _ _ _ h => h) (Or.inl ⟨by rfl, ?_⟩) ?_ ?_
            rotate_left
            ·
             intro w'
             go_simp
             with_reducible rfl
            rotate_left
            ·
             simp only [Act.put, lS, l0_, l1_, i64_w, i32_w]
             rfl
            refine pure_ (i := 8) (N := some 26) (v := ?_) (a' := ?_) #[true, true, true, true, true, true, true, true, true, false, false, false, false, false, false, false, false, false, false, false, false, false, false, false, false, false, false, false, false, false, false, false, false] rfl rfl (any_of HT_.out (by kernel_rfl)) (fun _ _ _ h => h) (Or.inl ⟨by rfl, ?_⟩) ?_ ?_
            rotate_left
            ·
             intro w'
             go_simp
             with_reducible rfl
            rotate_left
            ·
             simp only [Act.put, lS, l0_, l1_, i64_w, i32_w]
             rfl
            refine pure_ (i := 9) (N := some 27) (v := ?_) (a' := ?_) #[true, true, true, true, true, true, true, true, true, true, false, false, false, false, false, false, false, false, false, false, false, false, false, false, false, false, false, false, false, false, false, false, false] rfl rfl (any_of HT_.out (by kernel_rfl)) (fun _ _ _ h => h) (Or.inl ⟨by rfl, ?_⟩) ?_ ?_
            rotate_left
            ·
             intro w'
             go_simp
             with_reducible rfl
            rotate_left
            ·
             simp only [Act.put, lS, l0_, l1_, i64_w, i32_w]
             rfl
            refine pure_ (i := 10) (N := some 28) (v := ?_) (a' := ?_) #[true, true, true, true, true, true, true, true, true, true, true, false, false, false, false, false, false, false, false, false, false, false, false, false, false, false, false, false, false, false, false, false, false] rfl rfl (any_of HT_.out (by kernel_rfl)) (fun _ _ _ h => h) (Or.inl ⟨by rfl, ?_⟩) ?_ ?_
            rotate_left
            ·
             intro w'
             go_simp
             with_reducible rfl
            rotate_left
            ·
             simp only [Act.put, lS, l0_, l1_, i64_w, i32_w]
             rfl
            refine pure_ (i := 12) (N := some 30) (v := ?_) (a' := ?_) #[true, true, true, true, true, true, true, true, true, true, true, false, true, false, false, false, false, false, false, false, false, false, false, false, false, false, false, false, false, false, false, false, false] rfl rfl (any_of HT_.out (by kernel_rfl)) (fun _ _ _ h => h) (Or.inl ⟨by rfl, ?_⟩) ?_ ?_
            rotate_left
            ·
             intro w'
             go_simp
             with_reducible rfl
            rotate_left
            ·
             simp only [Act.put, lS, l0_, l1_, i64_w, i32_w]
             rfl
            refine take_ (i := 11) (N := some 29) (v := ?_) (a' := ?_) #[true, true, true, true, true, true, true, true, true, true, true, true, true, false, false, false, false, false, false, false, false, false, false, false, false, false, false, false, false, false, false, false, false] rfl rfl (take_ofW HT_.out HW_.out (by kernel_rfl)) (fun _ _ _ h => h) (Or.inl ⟨by rfl, ?_⟩) hHeld ?_ ?_
            rotate_left
            ·
             rintro w' ⟨s0, s1, s2, s3, s4, s5, s6, s7, s8, s9, s10, s11, s12, s13, s14, s15, s16, s17, s18, s19, s20, s21, s22, s23, s24, s25, s26, s27, s28, s29, s30, s31, s32, s33, s34, s35⟩
             go_simp
             with_reducible rfl
            rotate_left
            ·
             simp only [Act.put, lS, l0_, l1_, i64_w, i32_w]
             rfl
            refine pure_ (i := 13) (N := some 31) (v := ?_) (a' := ?_) #[true, true, true, true, true, true, true, true, true, true, true, true, true, true, false, false, false, false, false, false, false, false, false, false, false, false, false, false, false, false, false, false, false] rfl rfl (any_of HT_.out (by kernel_rfl)) (fun _ _ _ h => h) (Or.inl ⟨by rfl, ?_⟩) ?_ ?_
            rotate_left
            ·
             intro w'
             go_simp
             with_reducible rfl
            rotate_left
            ·
             simp only [Act.put, lS, l0_, l1_, i64_w, i32_w]
             rfl
            refine pure_ (i := 14) (N := some 32) (v := ?_) (a' := ?_) #[true, true, true, true, true, true, true, true, true, true, true, true, true, true, true, false, false, false, false, false, false, false, false, false, false, false, false, false, false, false, false, false, false] rfl rfl (any_of HT_.out (by kernel_rfl)) (fun _ _ _ h => h) (Or.inl ⟨by rfl, ?_⟩) ?_ ?_
            rotate_left
            ·
             intro w'
             go_simp
             with_reducible rfl
            rotate_left
            ·
             simp only [Act.put, lS, l0_, l1_, i64_w, i32_w]
             rfl
            refine pure_ (i := 15) (N := some 33) (v := ?_) (a' := ?_) #[true, true, true, true, true, true, true, true, true, true, true, true, true, true, true, true, false, false, false, false, false, false, false, false, false, false, false, false, false, false, false, false, false] rfl rfl (any_of HT_.out (by kernel_rfl)) (fun _ _ _ h => h) (Or.inl ⟨by rfl, ?_⟩) ?_ ?_
            rotate_left
            ·
             intro w'
             go_simp
             with_reducible rfl
            rotate_left
            ·
             simp only [Act.put, lS, l0_, l1_, i64_w, i32_w]
             rfl
            refine pure_ (i := 16) (N := some 34) (v := ?_) (a' := ?_) #[true, true, true, true, true, true, true, true, true, true, true, true, true, true, true, true, true, false, false, false, false, false, false, false, false, false, false, false, false, false, false, false, false] rfl rfl (any_of HT_.out (by kernel_rfl)) (fun _ _ _ h => h) (Or.inl ⟨by rfl, ?_⟩) ?_ ?_
            rotate_left
            ·
             intro w'
             go_simp
             with_reducible rfl
            rotate_left
            ·
             simp only [Act.put, lS, l0_, l1_, i64_w, i32_w]
             rfl
            refine pure_ (i := 17) (N := some 35) (v := ?_) (a' := ?_) #[true, true, true, true, true, true, true, true, true, true, true, true, true, true, true, true, true, true, false, false, false, false, false, false, false, false, false, false, false, false, false, false, false] rfl rfl (any_of HT_.out (by kernel_rfl)) (fun _ _ _ h => h) (Or.inl ⟨by rfl, ?_⟩) ?_ ?_
            rotate_left
            ·
             intro w'
             go_simp
             with_reducible rfl
            rotate_left
            ·
             simp only [Act.put, lS, l0_, l1_, i64_w, i32_w]
             rfl
            refine pure_ (i := 18) (N := some 36) (v := ?_) (a' := ?_) #[true, true, true, true, true, true, true, true, true, true, true, true, true, true, true, true, true, true, true, false, false, false, false, false, false, false, false, false, false, false, false, false, false] rfl rfl (any_of HT_.out (by kernel_rfl)) (fun _ _ _ h => h) (Or.inl ⟨by rfl, ?_⟩) ?_ ?_
            rotate_left
            ·
             intro w'
             go_simp
             with_reducible rfl
            rotate_left
            ·
             simp only [Act.put, lS, l0_, l1_, i64_w, i32_w]
             rfl
            refine pure_ (i := 19) (N := some 37) (v := ?_) (a' := ?_) #[true, true, true, true, true, true, true, true, true, true, true, true, true, true, true, true, true, true, true, true, false, false, false, false, false, false, false, false, false, false, false, false, false] rfl rfl (any_of HT_.out (by kernel_rfl)) (fun _ _ _ h => h) (Or.inl ⟨by rfl, ?_⟩) ?_ ?_
            rotate_left
            ·
             intro w'
             go_simp
             with_reducible rfl
            rotate_left
            ·
             simp only [Act.put, lS, l0_, l1_, i64_w, i32_w]
             rfl
            refine pure_ (i := 20) (N := some 38) (v := ?_) (a' := ?_) #[true, true, true, true, true, true, true, true, true, true, true, true, true, true, true, true, true, true, true, true, true, false, false, false, false, false, false, false, false, false, false, false, false] rfl rfl (any_of HT_.out (by kernel_rfl)) (fun _ _ _ h => h) (Or.inl ⟨by rfl, ?_⟩) ?_ ?_
            rotate_left
            ·
             intro w'
             go_simp
             with_reducible rfl
            rotate_left
            ·
             simp only [Act.put, lS, l0_, l1_, i64_w, i32_w]
             rfl
            refine pure_ (i := 21) (N := some 39) (v := ?_) (a' := ?_) #[true, true, true, true, true, true, true, true, true, true, true, true, true, true, true, true, true, true, true, true, true, true, false, false, false, false, false, false, false, false, false, false, false] rfl rfl (any_of HT_.out (by kernel_rfl)) (fun _ _ _ h => h) (Or.inl ⟨by rfl, ?_⟩) ?_ ?_
            rotate_left
            ·
             intro w'
             go_simp
             with_reducible rfl
            rotate_left
            ·
             simp only [Act.put, lS, l0_, l1_, i64_w, i32_w]
             rfl
            refine pure_ (i := 22) (N := some 40) (v := ?_) (a' := ?_) #[true, true, true, true, true, true, true, true, true, true, true, true, true, true, true, true, true, true, true, true, true, true, true, false, false, false, false, false, false, false, false, false, false] rfl rfl (any_of HT_.out (by kernel_rfl)) (fun _ _ _ h => h) (Or.inl ⟨by rfl, ?_⟩) ?_ ?_
            rotate_left
            ·
             intro w'
             go_simp
             with_reducible rfl
            rotate_left
            ·
             simp only [Act.put, lS, l0_, l1_, i64_w, i32_w]
             rfl
            refine pure_ (i := 23) (N := some 41) (v := ?_) (a' := ?_) #[true, true, true, true, true, true, true, true, true, true, true, true, true, true, true, true, true, true, true, true, true, true, true, true, false, false, false, false, false, false, false, false, false] rfl rfl (any_of HT_.out (by kernel_rfl)) (fun _ _ _ h => h) (Or.inl ⟨by rfl, ?_⟩) ?_ ?_
            rotate_left
            ·
             intro w'
             go_simp
             with_reducible rfl
            rotate_left
            ·
             simp only [Act.put, lS, l0_, l1_, i64_w, i32_w]
             rfl
            refine pure_ (i := 25) (N := some 43) (v := ?_) (a' := ?_) #[true, true, true, true, true, true, true, true, true, true, true, true, true, true, true, true, true, true, true, true, true, true, true, true, false, true, false, false, false, false, false, false, false] rfl rfl (any_of HT_.out (by kernel_rfl)) (fun _ _ _ h => h) (Or.inl ⟨by rfl, ?_⟩) ?_ ?_
            rotate_left
            ·
             intro w'
             go_simp
             with_reducible rfl
            rotate_left
            ·
             simp only [Act.put, lS, l0_, l1_, i64_w, i32_w]
             rfl
            refine pure_ (i := 26) (N := some 44) (v := ?_) (a' := ?_) #[true, true, true, true, true, true, true, true, true, true, true, true, true, true, true, true, true, true, true, true, true, true, true, true, false, true, true, false, false, false, false, false, false] rfl rfl (any_of HT_.out (by kernel_rfl)) (fun _ _ _ h => h) (Or.inl ⟨by rfl, ?_⟩) ?_ ?_
            rotate_left
            ·
             intro w'
             go_simp
             with_reducible rfl
            rotate_left
            ·
             simp only [Act.put, lS, l0_, l1_, i64_w, i32_w]
             rfl
            refine pure_ (i := 27) (N := some 45) (v := ?_) (a' := ?_) #[true, true, true, true, true, true, true, true, true, true, true, true, true, true, true, true, true, true, true, true, true, true, true, true, false, true, true, true, false, false, false, false, false] rfl rfl (any_of HT_.out (by kernel_rfl)) (fun _ _ _ h => h) (Or.inl ⟨by rfl, ?_⟩) ?_ ?_
            rotate_left
            ·
             intro w'
             go_simp
             with_reducible rfl
            rotate_left
            ·
             simp only [Act.put, lS, l0_, l1_, i64_w, i32_w]
             rfl
            refine pure_ (i := 28) (N := some 46) (v := ?_) (a' := ?_) #[true, true, true, true, true, true, true, true, true, true, true, true, true, true, true, true, true, true, true, true, true, true, true, true, false, true, true, true, true, false, false, false, false] rfl rfl (any_of HT_.out (by kernel_rfl)) (fun _ _ _ h => h) (Or.inl ⟨by rfl, ?_⟩) ?_ ?_
            rotate_left
            ·
             intro w'
             go_simp
             with_reducible rfl
            rotate_left
            ·
             simp only [Act.put, lS, l0_, l1_, i64_w, i32_w]
             rfl
            refine take_ (i := 24) (N := some 42) (v := ?_) (a' := ?_) #[true, true, true, true, true, true, true, true, true, true, true, true, true, true, true, true, true, true, true, true, true, true, true, true, true, true, true, true, true, false, false, false, false] rfl rfl (take_ofW HT_.out HW_.out (by kernel_rfl)) (fun _ _ _ h => h) (Or.inl ⟨by rfl, ?_⟩) hHeld ?_ ?_
            rotate_left
            ·
             rintro w' ⟨s0, s1, s2, s3, s4, s5, s6, s7, s8, s9, s10, s11, s12, s13, s14, s15, s16, s17, s18, s19, s20, s21, s22, s23, s24, s25, s26, s27, s28, s29, s30, s31, s32, s33, s34, s35⟩
             go_simp
             with_reducible rfl
            rotate_left
            ·
             simp only [Act.put, lS, l0_, l1_, i64_w, i32_w]
             rfl
            refine take_ (i := 29) (N := some 47) (v := ?_) (a' := ?_) #[true, true, true, true, true, true, true, true, true, true, true, true, true, true, true, true, true, true, true, true, true, true, true, true, true, true, true, true, true, true, false, false, false] rfl rfl (take_ofW HT_.out HW_.out (by kernel_rfl)) (fun _ _ _ h => h) (Or.inl ⟨by rfl, ?_⟩) hHeld ?_ ?_
            rotate_left
            ·
             rintro w' ⟨s0, s1, s2, s3, s4, s5, s6, s7, s8, s9, s10, s11, s12, s13, s14, s15, s16, s17, s18, s19, s20, s21, s22, s23, s24, s25, s26, s27, s28, s29, s30, s31, s32, s33, s34, s35⟩
             go_simp
             with_reducible rfl
            rotate_left
            ·
             simp only [Act.put, lS, l0_, l1_, i64_w, i32_w]
             rfl
            refine pure_ (i := 30) (N := some 48) (v := ?_) (a' := ?_) #[true, true, true, true, true, true, true, true, true, true, true, true, true, true, true, true, true, true, true, true, true, true, true, true, true, true, true, true, true, true, true, false, false] rfl rfl (any_of HT_.out (by kernel_rfl)) (fun _ _ _ h => h) (Or.inl ⟨by rfl, ?_⟩) ?_ ?_
            rotate_left
            ·
             intro w'
             go_simp
             with_reducible rfl
            rotate_left
            ·
             simp only [Act.put, lS, l0_, l1_, i64_w, i32_w]
             rfl
            refine pure_ (i := 31) (N := some 49) (v := ?_) (a' := ?_) #[true, true, true, true, true, true, true, true, true, true, true, true, true, true, true, true, true, true, true, true, true, true, true, true, true, true, true, true, true, true, true, true, false] rfl rfl (any_of HT_.out (by kernel_rfl)) (fun _ _ _ h => h) (Or.inl ⟨by rfl, ?_⟩) ?_ ?_
            rotate_left
            ·
             intro w'
             go_simp
             with_reducible rfl
            rotate_left
            ·
             simp only [Act.put, lS, l0_, l1_, i64_w, i32_w]
             rfl
            refine pure_ (i := 32) (N := some 50) (v := ?_) (a' := ?_) #[true, true, true, true, true, true, true, true, true, true, true, true, true, true, true, true, true, true, true, true, true, true, true, true, true, true, true, true, true, true, true, true, true] rfl rfl (any_of HT_.out (by kernel_rfl)) (fun _ _ _ h => h) (Or.inl ⟨by rfl, ?_⟩) ?_ ?_
            rotate_left
            ·
             intro w'
             go_simp
             with_reducible rfl
            rotate_left
            ·
             simp only [Act.put, lS, l0_, l1_, i64_w, i32_w]
             rfl
            refine done_ (done_of HT_.out (by kernel_rfl)) ?_
            try go_wp2
            go_ret
            exact ⟨by first | rfl | (simp [errW_none, errW_some] <;> rfl) | (simp only [← hji11]; first | rfl | (simp [errW_none, errW_some] <;> rfl)) | (simp [*, errW_none, errW_some] <;> rfl), (a1_ HB.out)⟩
           ·
            rw [if_neg c14] at H
            have c14b0 : decide (((rd_T43 l0 x7_1).f0) ≤ ((rd_T43 l0 (ji11)).f0)) = false := decide_eq_false c14
            clear c14
            have H' := Aside0.mk H
            clear H
            try go_wp2
            have n0_ := Aside0.mk (below_drew1 HB.out)
            clear HB
            have HB := n0_
            clear n0_
            have p179 : 0 ≤ (x7_1 : Int) := of_decide_eq_true (by first | (with_reducible assumption) | assumption)
            have q179 : x7_1 < (l0.length : Int) := of_decide_eq_true (by first | (with_reducible assumption) | assumption)
            obtain ⟨ad179, A179_7, c179_7, e179, hx179_0, hx179_1, hx179_2, hx179_3, hx179_4, hx179_5, hx179_6, hx179_7, hx179_8, hl179_7, hi179_7⟩ := at_T43 HR0.out x7_1 p179 q179
            have hw179_8 := hx179_8
            have hw179_7 := hx179_7
            have hw179_6 := hx179_6
            have hw179_5 := hx179_5
            have hw179_4 := hx179_4
            have hw179_3 := hx179_3
            have hw179_2 := hx179_2
            have hw179_1 := hx179_1
            have hw179_0 := hx179_0
            cases e179
            replace hx179_0 := ce_ HB.out hx179_0
            replace hx179_1 := ce_ HB.out hx179_1
            replace hx179_2 := ce_ HB.out hx179_2
            replace hx179_3 := ce_ HB.out hx179_3
            replace hx179_4 := ce_ HB.out hx179_4
            replace hx179_5 := ce_ HB.out hx179_5
            replace hx179_6 := ce_ HB.out hx179_6
            replace hx179_7 := ce_ HB.out hx179_7
            replace hx179_8 := ce_ HB.out hx179_8
            have HR179_7 := Aside0.mk hi179_7
            have HC179_7 := Aside0.mk hl179_7
            clear hi179_7 hl179_7
            replace p179 := eq_true p179
            replace q179 := eq_true q179
            have p181 : 0 ≤ (x7_1 : Int) := of_decide_eq_true (by first | (with_reducible assumption) | assumption)
            have q181 : x7_1 < (l0.length : Int) := of_decide_eq_true (by first | (with_reducible assumption) | assumption)
            obtain ⟨ad181, A181_7, c181_7, e181, hx181_0, hx181_1, hx181_2, hx181_3, hx181_4, hx181_5, hx181_6, hx181_7, hx181_8, hl181_7, hi181_7⟩ := at_T43 HR0.out x7_1 p181 q181
            have hw181_8 := hx181_8
            have hw181_7 := hx181_7
            have hw181_6 := hx181_6
            have hw181_5 := hx181_5
            have hw181_4 := hx181_4
            have hw181_3 := hx181_3
            have hw181_2 := hx181_2
            have hw181_1 := hx181_1
            have hw181_0 := hx181_0
            obtain rfl : ad179 = ad181 := (by injection e181)
            replace hx181_0 := ce_ HB.out hx181_0
            replace hx181_1 := ce_ HB.out hx181_1
            replace hx181_2 := ce_ HB.out hx181_2
            replace hx181_3 := ce_ HB.out hx181_3
            replace hx181_4 := ce_ HB.out hx181_4
            replace hx181_5 := ce_ HB.out hx181_5
            replace hx181_6 := ce_ HB.out hx181_6
            replace hx181_7 := ce_ HB.out hx181_7
            replace hx181_8 := ce_ HB.out hx181_8
            have HR181_7 := Aside0.mk hi181_7
            have HC181_7 := Aside0.mk hl181_7
            clear hi181_7 hl181_7
            replace p181 := eq_true p181
            replace q181 := eq_true q181
            have p182 : 0 ≤ ((ji11) : Int) := of_decide_eq_true (by first | (with_reducible assumption) | assumption)
            have q182 : (ji11) < (l0.length : Int) := of_decide_eq_true (by first | (with_reducible assumption) | assumption)
            obtain ⟨ad182, A182_7, c182_7, e182, hx182_0, hx182_1, hx182_2, hx182_3, hx182_4, hx182_5, hx182_6, hx182_7, hx182_8, hl182_7, hi182_7⟩ := at_T43 HR0.out (ji11) p182 q182
            have hw182_8 := hx182_8
            have hw182_7 := hx182_7
            have hw182_6 := hx182_6
            have hw182_5 := hx182_5
            have hw182_4 := hx182_4
            have hw182_3 := hx182_3
            have hw182_2 := hx182_2
            have hw182_1 := hx182_1
            have hw182_0 := hx182_0
            obtain rfl : ad179 = ad182 := (by injection e182)
            replace hx182_0 := ce_ HB.out hx182_0
            replace hx182_1 := ce_ HB.out hx182_1
            replace hx182_2 := ce_ HB.out hx182_2
            replace hx182_3 := ce_ HB.out hx182_3
            replace hx182_4 := ce_ HB.out hx182_4
            replace hx182_5 := ce_ HB.out hx182_5
            replace hx182_6 := ce_ HB.out hx182_6
            replace hx182_7 := ce_ HB.out hx182_7
            replace hx182_8 := ce_ HB.out hx182_8
            have HR182_7 := Aside0.mk hi182_7
            have HC182_7 := Aside0.mk hl182_7
            clear hi182_7 hl182_7
            replace p182 := eq_true p182
            replace q182 := eq_true q182
            have p183 : 0 ≤ (x7_1 : Int) := of_decide_eq_true (by first | (with_reducible assumption) | assumption)
            have q183 : x7_1 < (l0.length : Int) := of_decide_eq_true (by first | (with_reducible assumption) | assumption)
            obtain ⟨ad183, A183_7, c183_7, e183, hx183_0, hx183_1, hx183_2, hx183_3, hx183_4, hx183_5, hx183_6, hx183_7, hx183_8, hl183_7, hi183_7⟩ := at_T43 HR0.out x7_1 p183 q183
            have hw183_8 := hx183_8
            have hw183_7 := hx183_7
            have hw183_6 := hx183_6
            have hw183_5 := hx183_5
            have hw183_4 := hx183_4
            have hw183_3 := hx183_3
            have hw183_2 := hx183_2
            have hw183_1 := hx183_1
            have hw183_0 := hx183_0
            obtain rfl : ad179 = ad183 := (by injection e183)
            replace hx183_0 := ce_ HB.out hx183_0
            replace hx183_1 := ce_ HB.out hx183_1
            replace hx183_2 := ce_ HB.out hx183_2
            replace hx183_3 := ce_ HB.out hx183_3
            replace hx183_4 := ce_ HB.out hx183_4
            replace hx183_5 := ce_ HB.out hx183_5
            replace hx183_6 := ce_ HB.out hx183_6
            replace hx183_7 := ce_ HB.out hx183_7
            replace hx183_8 := ce_ HB.out hx183_8
            have HR183_7 := Aside0.mk hi183_7
            have HC183_7 := Aside0.mk hl183_7
            clear hi183_7 hl183_7
            replace p183 := eq_true p183
            replace q183 := eq_true q183
            have ea_ := Option.some.inj (hx181_7.symm.trans hx183_7)
            injection ea_ with ea_ en_ ec_
            subst ea_
            subst ec_
            clear en_
            refine start_ (n := 33) (S := fun w' => w'.cell? (ad179.add ((x7_1).toNat * 9)) = some (.int .i64 ((rd_T43 l0 x7_1).f0)) ∧ w'.cell? ⟨(ad179.add ((x7_1).toNat * 9)).block, (ad179.add ((x7_1).toNat * 9)).off + 1, none⟩ = some (.int .i64 ((rd_T43 l0 x7_1).f1)) ∧ w'.cell? ⟨(ad179.add ((x7_1).toNat * 9)).block, (ad179.add ((x7_1).toNat * 9)).off + 2, none⟩ = some (.int .i64 ((rd_T43 l0 x7_1).f2)) ∧ w'.cell? ⟨(ad179.add ((x7_1).toNat * 9)).block, (ad179.add ((x7_1).toNat * 9)).off + 3, none⟩ = some (.int .i64 ((rd_T43 l0 x7_1).f3)) ∧ w'.cell? ⟨(ad179.add ((x7_1).toNat * 9)).block, (ad179.add ((x7_1).toNat * 9)).off + 4, none⟩ = some (.int .i64 ((rd_T43 l0 x7_1).f4)) ∧ w'.cell? ⟨(ad179.add ((x7_1).toNat * 9)).block, (ad179.add ((x7_1).toNat * 9)).off + 5, none⟩ = some (.int .i64 ((rd_T43 l0 x7_1).f5)) ∧ w'.cell? ⟨(ad179.add ((x7_1).toNat * 9)).block, (ad179.add ((x7_1).toNat * 9)).off + 6, none⟩ = some (.string ((rd_T43 l0 x7_1).f6)) ∧ w'.cell? ⟨(ad179.add ((x7_1).toNat * 9)).block, (ad179.add ((x7_1).toNat * 9)).off + 7, none⟩ = some (.slice A179_7 ((rd_T43 l0 x7_1).f7).length c179_7) ∧ w'.cell? ⟨(ad179.add ((x7_1).toNat * 9)).block, (ad179.add ((x7_1).toNat * 9)).off + 8, none⟩ = some (.int .i64 ((rd_T43 l0 x7_1).f8)) ∧ w'.cell? (ad179.add ((x7_1).toNat * 9)) = some (.int .i64 ((rd_T43 l0 x7_1).f0)) ∧ w'.cell? ⟨(ad179.add ((x7_1).toNat * 9)).block, (ad179.add ((x7_1).toNat * 9)).off + 1, none⟩ = some (.int .i64 ((rd_T43 l0 x7_1).f1)) ∧ w'.cell? ⟨(ad179.add ((x7_1).toNat * 9)).block, (ad179.add ((x7_1).toNat * 9)).off + 2, none⟩ = some (.int .i64 ((rd_T43 l0 x7_1).f2)) ∧ w'.cell? ⟨(ad179.add ((x7_1).toNat * 9)).block, (ad179.add ((x7_1).toNat * 9)).off + 3, none⟩ = some (.int .i64 ((rd_T43 l0 x7_1).f3)) ∧ w'.cell? ⟨(ad179.add ((x7_1).toNat * 9)).block, (ad179.add ((x7_1).toNat * 9)).off + 4, none⟩ = some (.int .i64 ((rd_T43 l0 x7_1).f4)) ∧ w'.cell? ⟨(ad179.add ((x7_1).toNat * 9)).block, (ad179.add ((x7_1).toNat * 9)).off + 5, none⟩ = some (.int .i64 ((rd_T43 l0 x7_1).f5)) ∧ w'.cell? ⟨(ad179.add ((x7_1).toNat * 9)).block, (ad179.add ((x7_1).toNat * 9)).off + 6, none⟩ = some (.string ((rd_T43 l0 x7_1).f6)) ∧ w'.cell? ⟨(ad179.add ((x7_1).toNat * 9)).block, (ad179.add ((x7_1).toNat * 9)).off + 7, none⟩ = some (.slice A181_7 ((rd_T43 l0 x7_1).f7).length c181_7) ∧ w'.cell? ⟨(ad179.add ((x7_1).toNat * 9)).block, (ad179.add ((x7_1).toNat * 9)).off + 8, none⟩ = some (.int .i64 ((rd_T43 l0 x7_1).f8)) ∧ w'.cell? (ad179.add (((ji11)).toNat * 9)) = some (.int .i64 ((rd_T43 l0 (ji11)).f0)) ∧ w'.cell? ⟨(ad179.add (((ji11)).toNat * 9)).block, (ad179.add (((ji11)).toNat * 9)).off + 1, none⟩ = some (.int .i64 ((rd_T43 l0 (ji11)).f1)) ∧ w'.cell? ⟨(ad179.add (((ji11)).toNat * 9)).block, (ad179.add (((ji11)).toNat * 9)).off + 2, none⟩ = some (.int .i64 ((rd_T43 l0 (ji11)).f2)) ∧ w'.cell? ⟨(ad179.add (((ji11)).toNat * 9)).block, (ad179.add (((ji11)).toNat * 9)).off + 3, none⟩ = some (.int .i64 ((rd_T43 l0 (ji11)).f3)) ∧ w'.cell? ⟨(ad179.add (((ji11)).toNat * 9)).block, (ad179.add (((ji11)).toNat * 9)).off + 4, none⟩ = some (.int .i64 ((rd_T43 l0 (ji11)).f4)) ∧ w'.cell? ⟨(ad179.add (((ji11)).toNat * 9)).block, (ad179.add (((ji11)).toNat * 9)).off + 5, none⟩ = some (.int .i64 ((rd_T43 l0 (ji11)).f5)) ∧ w'.cell? ⟨(ad179.add (((ji11)).toNat * 9)).block, (ad179.add (((ji11)).toNat * 9)).off + 6, none⟩ = some (.string ((rd_T43 l0 (ji11)).f6)) ∧ w'.cell? ⟨(ad179.add (((ji11)).toNat * 9)).block, (ad179.add (((ji11)).toNat * 9)).off + 7, none⟩ = some (.slice A182_7 ((rd_T43 l0 (ji11)).f7).length c182_7) ∧ w'.cell? ⟨(ad179.add (((ji11)).toNat * 9)).block, (ad179.add (((ji11)).toNat * 9)).off + 8, none⟩ = some (.int .i64 ((rd_T43 l0 (ji11)).f8)) ∧ w'.cell? (ad179.add ((x7_1).toNat * 9)) = some (.int .i64 ((rd_T43 l0 x7_1).f0)) ∧ w'.cell? ⟨(ad179.add ((x7_1).toNat * 9)).block, (ad179.add ((x7_1).toNat * 9)).off + 1, none⟩ = some (.int .i64 ((rd_T43 l0 x7_1).f1)) ∧ w'.cell? ⟨(ad179.add ((x7_1).toNat * 9)).block, (ad179.add ((x7_1).toNat * 9)).off + 2, none⟩ = some (.int .i64 ((rd_T43 l0 x7_1).f2)) ∧ w'.cell? ⟨(ad179.add ((x7_1).toNat * 9)).block, (ad179.add ((x7_1).toNat * 9)).off + 3, none⟩ = some (.int .i64 ((rd_T43 l0 x7_1).f3)) ∧ w'.cell? ⟨(ad179.add ((x7_1).toNat * 9)).block, (ad179.add ((x7_1).toNat * 9)).off + 4, none⟩ = some (.int .i64 ((rd_T43 l0 x7_1).f4)) ∧ w'.cell? ⟨(ad179.add ((x7_1).toNat * 9)).block, (ad179.add ((x7_1).toNat * 9)).off + 5, none⟩ = some (.int .i64 ((rd_T43 l0 x7_1).f5)) ∧ w'.cell? ⟨(ad179.add ((x7_1).toNat * 9)).block, (ad179.add ((x7_1).toNat * 9)).off + 6, none⟩ = some (.string ((rd_T43 l0 x7_1).f6)) ∧ w'.cell? ⟨(ad179.add ((x7_1).toNat * 9)).block, (ad179.add ((x7_1).toNat * 9)).off + 7, none⟩ = some (.slice A181_7 ((rd_T43 l0 x7_1).f7).length c181_7) ∧ w'.cell? ⟨(ad179.add ((x7_1).toNat * 9)).block, (ad179.add ((x7_1).toNat * 9)).off + 8, none⟩ = some (.int .i64 ((rd_T43 l0 x7_1).f8))) (ds := []) #[false, false, false, false, false, false, false, false, false, false, false, false, false, false, false, false, false, false, false, false, false, false, false, false, false, false, false, false, false, false, false, false, false] (by kernel_rfl) rfl rfl ⟨(ce_ HB.out hw179_0 :), (ce_ HB.out hw179_1 :), (ce_ HB.out hw179_2 :), (ce_ HB.out hw179_3 :), (ce_ HB.out hw179_4 :), (ce_ HB.out hw179_5 :), (ce_ HB.out hw179_6 :), (ce_ HB.out hw179_7 :), (ce_ HB.out hw179_8 :), (ce_ HB.out hw181_0 :), (ce_ HB.out hw181_1 :), (ce_ HB.out hw181_2 :), (ce_ HB.out hw181_3 :), (ce_ HB.out hw181_4 :), (ce_ HB.out hw181_5 :), (ce_ HB.out hw181_6 :), (ce_ HB.out hw181_7 :), (ce_ HB.out hw181_8 :), (ce_ HB.out hw182_0 :), (ce_ HB.out hw182_1 :), (ce_ HB.out hw182_2 :), (ce_ HB.out hw182_3 :), (ce_ HB.out hw182_4 :), (ce_ HB.out hw182_5 :), (ce_ HB.out hw182_6 :), (ce_ HB.out hw182_7 :), (ce_ HB.out hw182_8 :), (ce_ HB.out hw183_0 :), (ce_ HB.out hw183_1 :), (ce_ HB.out hw183_2 :), (ce_ HB.out hw183_3 :), (ce_ HB.out hw183_4 :), (ce_ HB.out hw183_5 :), (ce_ HB.out hw183_6 :), (ce_ HB.out hw183_7 :), (ce_ HB.out hw183_8 :)⟩ (fun hHeld => ?_); refine with_tabW spec_l03Row.tab6 spec_l03Row.bits6 (fun HT_ HW_ => ?_)
            generalize wr.drew = w17 at HB HR179_7 HR181_7 HR182_7 HR183_7 hx179_0 hx179_1 hx179_2 hx179_3 hx179_4 hx179_5 hx179_6 hx179_7 hx179_8 hx181_0 hx181_1 hx181_2 hx181_3 hx181_4 hx181_5 hx181_6 hx181_7 hx181_8 hx182_0 hx182_1 hx182_2 hx182_3 hx182_4 hx182_5 hx182_6 hx182_7 hx182_8 hx183_0 hx183_1 hx183_2 hx183_3 hx183_4 hx183_5 hx183_6 hx183_7 hx183_8 hHeld ⊢
            refine pure_ (i := 0) (N := some 18) (v := ?_) (a' := ?_) #[true, false, false, false, false, false, false, false, false, false, false, false, false, false, false, false, false, false, false, false, false, false, false, false, false, false, false, false, false, false, false, false, false] rfl rfl (any_of HT_.out (by kernel_rfl)) (fun _ _ _ h => h) (Or.inl ⟨by rfl, ?_⟩) ?_ ?_
            rotate_left
            ·
             intro w'
             go_simp
             with_reducible rfl
            rotate_left
            ·
             simp only [Act.put, lS, l0_, l1_, i64_w, i32_w]
             rfl
            refine pure_ (i := 1) (N := some 19) (v := ?_) (a' := ?_) #[true, true, false, false, false, false, false, false, false, false, false, false, false, false, false, false, false, false, false, false, false, false, false, false, false, false, false, false, false, false, false, false, false] rfl rfl (any_of HT_.out (by kernel_rfl)) (fun _ _ _ h => h) (Or.inl ⟨by rfl, ?_⟩) ?_ ?_
            rotate_left
            ·
             intro w'
             go_simp
             with_reducible rfl
            rotate_left
            ·
             simp only [Act.put, lS, l0_, l1_, i64_w, i32_w]
             rfl
            refine pure_ (i := 2) (N := some 20) (v := ?_) (a' := ?_) #[true, true, true, false, false, false, false, false, false, false, false, false, false, false, false, false, false, false, false, false, false, false, false, false, false, false, false, false, false, false, false, false, false] rfl rfl (any_of HT_.out (by kernel_rfl)) (fun _ _ _ h => h) (Or.inl ⟨by rfl, ?_⟩) ?_ ?_
            rotate_left
            ·
             intro w'
             go_simp
             with_reducible rfl
            rotate_left
            ·
             simp only [Act.put, lS, l0_, l1_, i64_w, i32_w]
             rfl
            refine take_ (i := 3) (N := some 21) (v := ?_) (a' := ?_) #[true, true, true, true, false, false, false, false, false, false, false, false, false, false, false, false, false, false, false, false, false, false, false, false, false, false, false, false, false, false, false, false, false] rfl rfl (take_ofW HT_.out HW_.out (by kernel_rfl)) (fun _ _ _ h => h) (Or.inl ⟨by rfl, ?_⟩) hHeld ?_ ?_
            rotate_left
            ·
             rintro w' ⟨s0, s1, s2, s3, s4, s5, s6, s7, s8, s9, s10, s11, s12, s13, s14, s15, s16, s17, s18, s19, s20, s21, s22, s23, s24, s25, s26, s27, s28, s29, s30, s31, s32, s33, s34, s35⟩
             go_simp
             with_reducible rfl
            rotate_left
            ·
             simp only [Act.put, lS, l0_, l1_, i64_w, i32_w]
             rfl
            refine one_ (i := 4) (N := some 22) #[true, true, true, true, true, false, false, false, false, false, false, false, false, false, false, false, false, false, false, false, false, false, false, false, false, false, false, false, false, false, false, false, false] rfl rfl (one_of HT_.out (by kernel_rfl)) (by decide) (fun K hK => ?_)
            refine goes_ Try.func36 (by kernel_rfl) rfl #[.agg #[.int .i64 ((rd_T43 l0 x7_1).f0), .int .i64 ((rd_T43 l0 x7_1).f1), .int .i64 ((rd_T43 l0 x7_1).f2), .int .i64 ((rd_T43 l0 x7_1).f3), .int .i64 ((rd_T43 l0 x7_1).f4), .int .i64 ((rd_T43 l0 x7_1).f5), .string ((rd_T43 l0 x7_1).f6), .slice A179_7 ((rd_T43 l0 x7_1).f7).length c179_7, .int .i64 ((rd_T43 l0 x7_1).f8)]] (by rfl) rfl rfl (by (try simp only [List.map_toArray, List.map_cons, List.map_nil]); first | done | rfl | (simp only [List.length_drop, List.length_take]; rfl)) ?_
            with_reducible refine (spec_EventRight.calls k1 ((rd_T43 l0 x7_1).f0) ((rd_T43 l0 x7_1).f1) ((rd_T43 l0 x7_1).f2) ((rd_T43 l0 x7_1).f3) ((rd_T43 l0 x7_1).f4) ((rd_T43 l0 x7_1).f5) ((rd_T43 l0 x7_1).f6) _ _ ((rd_T43 l0 x7_1).f7) ((rd_T43 l0 x7_1).f8) true _ ?side1 ?side2 A7.out).mono ?_
            (case side1 => repeat (first | exact (Kd.C_below HR179_7.out HB.out) | (with_reducible refine Kd.C_alloc ?_ _) | (with_reducible refine Kd.C_drewN ?_ _) | (with_reducible refine Kd.C_drew ?_)))
            (case side2 => exact HC179_7.out)
            rintro e w18 ⟨rfl, hb⟩
            refine ⟨_, rfl, ?_⟩
            have n0_ := Aside0.mk (below_step HB.out hb)
            clear HB
            have HB := n0_
            clear n0_
            (try clear hb)
            (try clear hb2)
            (try clear hk)
            (try clear hi)
            refine hK.out _ _ ⟨(ce_ HB.out hw179_0 :), (ce_ HB.out hw179_1 :), (ce_ HB.out hw179_2 :), (ce_ HB.out hw179_3 :), (ce_ HB.out hw179_4 :), (ce_ HB.out hw179_5 :), (ce_ HB.out hw179_6 :), (ce_ HB.out hw179_7 :), (ce_ HB.out hw179_8 :), (ce_ HB.out hw181_0 :), (ce_ HB.out hw181_1 :), (ce_ HB.out hw181_2 :), (ce_ HB.out hw181_3 :), (ce_ HB.out hw181_4 :), (ce_ HB.out hw181_5 :), (ce_ HB.out hw181_6 :), (ce_ HB.out hw181_7 :), (ce_ HB.out hw181_8 :), (ce_ HB.out hw182_0 :), (ce_ HB.out hw182_1 :), (ce_ HB.out hw182_2 :), (ce_ HB.out hw182_3 :), (ce_ HB.out hw182_4 :), (ce_ HB.out hw182_5 :), (ce_ HB.out hw182_6 :), (ce_ HB.out hw182_7 :), (ce_ HB.out hw182_8 :), (ce_ HB.out hw183_0 :), (ce_ HB.out hw183_1 :), (ce_ HB.out hw183_2 :), (ce_ HB.out hw183_3 :), (ce_ HB.out hw183_4 :), (ce_ HB.out hw183_5 :), (ce_ HB.out hw183_6 :), (ce_ HB.out hw183_7 :), (ce_ HB.out hw183_8 :)⟩ (fun hHeld => ?_)
            clear hK K
            refine norm_ (a' := ?_) ?_ ?_
            rotate_left
            ·
             show Act.put _ (some 22) _ = _
             simp only [Act.put, lS, l0_, l1_, i64_w, i32_w]
             rfl
            refine pure_ (i := 5) (N := some 23) (v := ?_) (a' := ?_) #[true, true, true, true, true, true, false, false, false, false, false, false, false, false, false, false, false, false, false, false, false, false, false, false, false, false, false, false, false, false, false, false, false] rfl rfl (any_of HT_.out (by kernel_rfl)) (fun _ _ _ h => h) (Or.inl ⟨by rfl, ?_⟩) ?_ ?_
            rotate_left
            ·
             intro w'
             go_simp
             with_reducible rfl
            rotate_left
            ·
             simp only [Act.put, lS, l0_, l1_, i64_w, i32_w]
             rfl
            refine pure_ (i := 6) (N := some 24) (v := ?_) (a' := ?_) #[true, true, true, true, true, true, true, false, false, false, false, false, false, false, false, false, false, false, false, false, false, false, false, false, false, false, false, false, false, false, false, false, false] rfl rfl (any_of HT_.out (by kernel_rfl)) (fun _ _ _ h => h) (Or.inl ⟨by rfl, ?_⟩) ?_ ?_
            rotate_left
            ·
             intro w'
             go_simp
             with_reducible rfl
            rotate_left
            ·
             simp only [Act.put, lS, l0_, l1_, i64_w, i32_w]
             rfl
            refine pure_ (i := 7) (N := some 25) (v := ?_) (a' := ?_) #[true, true, true, true, true, true, true, true, false, false, false, false, false, false, false, false, false, false, false, false, false, false, false, false, false, false, false, false, false, false, false, false, false] rfl rfl (any_of HT_.out (by kernel_rfl)) (fun _ _ _ h => h) (Or.inl ⟨by rfl, ?_⟩) ?_ ?_
            rotate_left
            ·
             intro w'
             go_simp
             with_reducible rfl
            rotate_left
            ·
             simp only [Act.put, lS, l0_, l1_, i64_w, i32_w]
             rfl
            refine pure_ (i := 8) (N := some 26) (v := ?_) (a' := ?_) #[true, true, true, true, true, true, true, true, true, false, false, false, false, false, false, false, false, false, false, false, false, false, false, false, false, false, false, false, false, false, false, false, false] rfl rfl (any_of HT_.out (by kernel_rfl)) (fun _ _ _ h => h) (Or.inl ⟨by rfl, ?_⟩) ?_ ?_
            rotate_left
            ·
             intro w'
             go_simp
             with_reducible rfl
            rotate_left
            ·
             simp only [Act.put, lS, l0_, l1_, i64_w, i32_w]
             rfl
            refine pure_ (i := 9) (N := some 27) (v := ?_) (a' := ?_) #[true, true, true, true, true, true, true, true, true, true, false, false, false, false, false, false, false, false, false, false, false, false, false, false, false, false, false, false, false, false, false, false, false] rfl rfl (any_of HT_.out (by kernel_rfl)) (fun _ _ _ h => h) (Or.inl ⟨by rfl, ?_⟩) ?_ ?_
            rotate_left
            ·
             intro w'
             go_simp
             with_reducible rfl
            rotate_left
            ·
             simp only [Act.put, lS, l0_, l1_, i64_w, i32_w]
             rfl
            refine pure_ (i := 10) (N := some 28) (v := ?_) (a' := ?_) #[true, true, true, true, true, true, true, true, true, true, true, false, false, false, false, false, false, false, false, false, false, false, false, false, false, false, false, false, false, false, false, false, false] rfl rfl (any_of HT_.out (by kernel_rfl)) (fun _ _ _ h => h) (Or.inl ⟨by rfl, ?_⟩) ?_ ?_
            rotate_left
            ·
             intro w'
             go_simp
             with_reducible rfl
            rotate_left
            ·
             simp only [Act.put, lS, l0_, l1_, i64_w, i32_w]
             rfl
            refine pure_ (i := 12) (N := some 30) (v := ?_) (a' := ?_) #[true, true, true, true, true, true, true, true, true, true, true, false, true, false, false, false, false, false, false, false, false, false, false, false, false, false, false, false, false, false, false, false, false] rfl rfl (any_of HT_.out (by kernel_rfl)) (fun _ _ _ h => h) (Or.inl ⟨by rfl, ?_⟩) ?_ ?_
            rotate_left
            ·
             intro w'
             go_simp
             with_reducible rfl
            rotate_left
            ·
             simp only [Act.put, lS, l0_, l1_, i64_w, i32_w]
             rfl
            refine take_ (i := 11) (N := some 29) (v := ?_) (a' := ?_) #[true, true, true, true, true, true, true, true, true, true, true, true, true, false, false, false, false, false, false, false, false, false, false, false, false, false, false, false, false, false, false, false, false] rfl rfl (take_ofW HT_.out HW_.out (by kernel_rfl)) (fun _ _ _ h => h) (Or.inl ⟨by rfl, ?_⟩) hHeld ?_ ?_
            rotate_left
            ·
             rintro w' ⟨s0, s1, s2, s3, s4, s5, s6, s7, s8, s9, s10, s11, s12, s13, s14, s15, s16, s17, s18, s19, s20, s21, s22, s23, s24, s25, s26, s27, s28, s29, s30, s31, s32, s33, s34, s35⟩
             go_simp
             with_reducible rfl
            rotate_left
            ·
             simp only [Act.put, lS, l0_, l1_, i64_w, i32_w]
             rfl
            refine pure_ (i := 13) (N := some 31) (v := ?_) (a' := ?_) #[true, true, true, true, true, true, true, true, true, true, true, true, true, true, false, false, false, false, false, false, false, false, false, false, false, false, false, false, false, false, false, false, false] rfl rfl (any_of HT_.out (by kernel_rfl)) (fun _ _ _ h => h) (Or.inl ⟨by rfl, ?_⟩) ?_ ?_
            rotate_left
            ·
             intro w'
             go_simp
             with_reducible rfl
            rotate_left
            ·
             simp only [Act.put, lS, l0_, l1_, i64_w, i32_w]
             rfl
            refine pure_ (i := 14) (N := some 32) (v := ?_) (a' := ?_) #[true, true, true, true, true, true, true, true, true, true, true, true, true, true, true, false, false, false, false, false, false, false, false, false, false, false, false, false, false, false, false, false, false] rfl rfl (any_of HT_.out (by kernel_rfl)) (fun _ _ _ h => h) (Or.inl ⟨by rfl, ?_⟩) ?_ ?_
            rotate_left
            ·
             intro w'
             go_simp
             with_reducible rfl
            rotate_left
            ·
             simp only [Act.put, lS, l0_, l1_, i64_w, i32_w]
             rfl
            refine pure_ (i := 15) (N := some 33) (v := ?_) (a' := ?_) #[true, true, true, true, true, true, true, true, true, true, true, true, true, true, true, true, false, false, false, false, false, false, false, false, false, false, false, false, false, false, false, false, false] rfl rfl (any_of HT_.out (by kernel_rfl)) (fun _ _ _ h => h) (Or.inl ⟨by rfl, ?_⟩) ?_ ?_
            rotate_left
            ·
             intro w'
             go_simp
             with_reducible rfl
            rotate_left
            ·
             simp only [Act.put, lS, l0_, l1_, i64_w, i32_w]
             rfl
            refine pure_ (i := 16) (N := some 34) (v := ?_) (a' := ?_) #[true, true, true, true, true, true, true, true, true, true, true, true, true, true, true, true, true, false, false, false, false, false, false, false, false, false, false, false, false, false, false, false, false] rfl rfl (any_of HT_.out (by kernel_rfl)) (fun _ _ _ h => h) (Or.inl ⟨by rfl, ?_⟩) ?_ ?_
            rotate_left
            ·
             intro w'
             go_simp
             with_reducible rfl
            rotate_left
            ·
             simp only [Act.put, lS, l0_, l1_, i64_w, i32_w]
             rfl
            refine pure_ (i := 17) (N := some 35) (v := ?_) (a' := ?_) #[true, true, true, true, true, true, true, true, true, true, true, true, true, true, true, true, true, true, false, false, false, false, false, false, false, false, false, false, false, false, false, false, false] rfl rfl (any_of HT_.out (by kernel_rfl)) (fun _ _ _ h => h) (Or.inl ⟨by rfl, ?_⟩) ?_ ?_
            rotate_left
            ·
             intro w'
             go_simp
             with_reducible rfl
            rotate_left
            ·
             simp only [Act.put, lS, l0_, l1_, i64_w, i32_w]
             rfl
            refine pure_ (i := 18) (N := some 36) (v := ?_) (a' := ?_) #[true, true, true, true, true, true, true, true, true, true, true, true, true, true, true, true, true, true, true, false, false, false, false, false, false, false, false, false, false, false, false, false, false] rfl rfl (any_of HT_.out (by kernel_rfl)) (fun _ _ _ h => h) (Or.inl ⟨by rfl, ?_⟩) ?_ ?_
            rotate_left
            ·
             intro w'
             go_simp
             with_reducible rfl
            rotate_left
            ·
             simp only [Act.put, lS, l0_, l1_, i64_w, i32_w]
             rfl
            refine pure_ (i := 19) (N := some 37) (v := ?_) (a' := ?_) #[true, true, true, true, true, true, true, true, true, true, true, true, true, true, true, true, true, true, true, true, false, false, false, false, false, false, false, false, false, false, false, false, false] rfl rfl (any_of HT_.out (by kernel_rfl)) (fun _ _ _ h => h) (Or.inl ⟨by rfl, ?_⟩) ?_ ?_
            rotate_left
            ·
             intro w'
             go_simp
             with_reducible rfl
            rotate_left
            ·
             simp only [Act.put, lS, l0_, l1_, i64_w, i32_w]
             rfl
            refine pure_ (i := 20) (N := some 38) (v := ?_) (a' := ?_) #[true, true, true, true, true, true, true, true, true, true, true, true, true, true, true, true, true, true, true, true, true, false, false, false, false, false, false, false, false, false, false, false, false] rfl rfl (any_of HT_.out (by kernel_rfl)) (fun _ _ _ h => h) (Or.inl ⟨by rfl, ?_⟩) ?_ ?_
            rotate_left
            ·
             intro w'
             go_simp
             with_reducible rfl
            rotate_left
            ·
             simp only [Act.put, lS, l0_, l1_, i64_w, i32_w]
             rfl
            refine pure_ (i := 21) (N := some 39) (v := ?_) (a' := ?_) #[true, true, true, true, true, true, true, true, true, true, true, true, true, true, true, true, true, true, true, true, true, true, false, false, false, false, false, false, false, false, false, false, false] rfl rfl (any_of HT_.out (by kernel_rfl)) (fun _ _ _ h => h) (Or.inl ⟨by rfl, ?_⟩) ?_ ?_
            rotate_left
            ·
             intro w'
             go_simp
             with_reducible rfl
            rotate_left
            ·
             simp only [Act.put, lS, l0_, l1_, i64_w, i32_w]
             rfl
            refine pure_ (i := 22) (N := some 40) (v := ?_) (a' := ?_) #[true, true, true, true, true, true, true, true, true, true, true, true, true, true, true, true, true, true, true, true, true, true, true, false, false, false, false, false, false, false, false, false, false] rfl rfl (any_of HT_.out (by kernel_rfl)) (fun _ _ _ h => h) (Or.inl ⟨by rfl, ?_⟩) ?_ ?_
            rotate_left
            ·
             intro w'
             go_simp
             with_reducible rfl
            rotate_left
            ·
             simp only [Act.put, lS, l0_, l1_, i64_w, i32_w]
             rfl
            refine pure_ (i := 23) (N := some 41) (v := ?_) (a' := ?_) #[true, true, true, true, true, true, true, true, true, true, true, true, true, true, true, true, true, true, true, true, true, true, true, true, false, false, false, false, false, false, false, false, false] rfl rfl (any_of HT_.out (by kernel_rfl)) (fun _ _ _ h => h) (Or.inl ⟨by rfl, ?_⟩) ?_ ?_
            rotate_left
            ·
             intro w'
             go_simp
             with_reducible rfl
            rotate_left
            ·
             simp only [Act.put, lS, l0_, l1_, i64_w, i32_w]
             rfl
            refine pure_ (i := 25) (N := some 43) (v := ?_) (a' := ?_) #[true, true, true, true, true, true, true, true, true, true, true, true, true, true, true, true, true, true, true, true, true, true, true, true, false, true, false, false, false, false, false, false, false] rfl rfl (any_of HT_.out (by kernel_rfl)) (fun _ _ _ h => h) (Or.inl ⟨by rfl, ?_⟩) ?_ ?_
            rotate_left
            ·
             intro w'
             go_simp
             with_reducible rfl
            rotate_left
            ·
             simp only [Act.put, lS, l0_, l1_, i64_w, i32_w]
             rfl
            refine pure_ (i := 26) (N := some 44) (v := ?_) (a' := ?_) #[true, true, true, true, true, true, true, true, true, true, true, true, true, true, true, true, true, true, true, true, true, true, true, true, false, true, true, false, false, false, false, false, false] rfl rfl (any_of HT_.out (by kernel_rfl)) (fun _ _ _ h => h) (Or.inl ⟨by rfl, ?_⟩) ?_ ?_
            rotate_left
            ·
             intro w'
             go_simp
             with_reducible rfl
            rotate_left
            ·
             simp only [Act.put, lS, l0_, l1_, i64_w, i32_w]
             rfl
            refine pure_ (i := 27) (N := some 45) (v := ?_) (a' := ?_) #[true, true, true, true, true, true, true, true, true, true, true, true, true, true, true, true, true, true, true, true, true, true, true, true, false, true, true, true, false, false, false, false, false] rfl rfl (any_of HT_.out (by kernel_rfl)) (fun _ _ _ h => h) (Or.inl ⟨by rfl, ?_⟩) ?_ ?_
            rotate_left
            ·
             intro w'
             go_simp
             with_reducible rfl
            rotate_left
            ·
             simp only [Act.put, lS, l0_, l1_, i64_w, i32_w]
             rfl
            refine pure_ (i := 28) (N := some 46) (v := ?_) (a' := ?_) #[true, true, true, true, true, true, true, true, true, true, true, true, true, true, true, true, true, true, true, true, true, true, true, true, false, true, true, true, true, false, false, false, false] rfl rfl (any_of HT_.out (by kernel_rfl)) (fun _ _ _ h => h) (Or.inl ⟨by rfl, ?_⟩) ?_ ?_
            rotate_left
            ·
             intro w'
             go_simp
             with_reducible rfl
            rotate_left
            ·
             simp only [Act.put, lS, l0_, l1_, i64_w, i32_w]
             rfl
            refine take_ (i := 24) (N := some 42) (v := ?_) (a' := ?_) #[true, true, true, true, true, true, true, true, true, true, true, true, true, true, true, true, true, true, true, true, true, true, true, true, true, true, true, true, true, false, false, false, false] rfl rfl (take_ofW HT_.out HW_.out (by kernel_rfl)) (fun _ _ _ h => h) (Or.inl ⟨by rfl, ?_⟩) hHeld ?_ ?_
            rotate_left
            ·
             rintro w' ⟨s0, s1, s2, s3, s4, s5, s6, s7, s8, s9, s10, s11, s12, s13, s14, s15, s16, s17, s18, s19, s20, s21, s22, s23, s24, s25, s26, s27, s28, s29, s30, s31, s32, s33, s34, s35⟩
             go_simp
             with_reducible rfl
            rotate_left
            ·
             simp only [Act.put, lS, l0_, l1_, i64_w, i32_w]
             rfl
            refine take_ (i := 29) (N := some 47) (v := ?_) (a' := ?_) #[true, true, true, true, true, true, true, true, true, true, true, true, true, true, true, true, true, true, true, true, true, true, true, true, true, true, true, true, true, true, false, false, false] rfl rfl (take_ofW HT_.out HW_.out (by kernel_rfl)) (fun _ _ _ h => h) (Or.inl ⟨by rfl, ?_⟩) hHeld ?_ ?_
            rotate_left
            ·
             rintro w' ⟨s0, s1, s2, s3, s4, s5, s6, s7, s8, s9, s10, s11, s12, s13, s14, s15, s16, s17, s18, s19, s20, s21, s22, s23, s24, s25, s26, s27, s28, s29, s30, s31, s32, s33, s34, s35⟩
             go_simp
             with_reducible rfl
            rotate_left
            ·
             simp only [Act.put, lS, l0_, l1_, i64_w, i32_w]
             rfl
            refine pure_ (i := 30) (N := some 48) (v := ?_) (a' := ?_) #[true, true, true, true, true, true, true, true, true, true, true, true, true, true, true, true, true, true, true, true, true, true, true, true, true, true, true, true, true, true, true, false, false] rfl rfl (any_of HT_.out (by kernel_rfl)) (fun _ _ _ h => h) (Or.inl ⟨by rfl, ?_⟩) ?_ ?_
            rotate_left
            ·
             intro w'
             go_simp
             with_reducible rfl
            rotate_left
            ·
             simp only [Act.put, lS, l0_, l1_, i64_w, i32_w]
             rfl
            refine pure_ (i := 31) (N := some 49) (v := ?_) (a' := ?_) #[true, true, true, true, true, true, true, true, true, true, true, true, true, true, true, true, true, true, true, true, true, true, true, true, true, true, true, true, true, true, true, true, false] rfl rfl (any_of HT_.out (by kernel_rfl)) (fun _ _ _ h => h) (Or.inl ⟨by rfl, ?_⟩) ?_ ?_
            rotate_left
            ·
             intro w'
             go_simp
             with_reducible rfl
            rotate_left
            ·
             simp only [Act.put, lS, l0_, l1_, i64_w, i32_w]
             rfl
            refine pure_ (i := 32) (N := some 50) (v := ?_) (a' := ?_) #[true, true, true, true, true, true, true, true, true, true, true, true, true, true, true, true, true, true, true, true, true, true, true, true, true, true, true, true, true, true, true, true, true] rfl rfl (any_of HT_.out (by kernel_rfl)) (fun _ _ _ h => h) (Or.inl ⟨by rfl, ?_⟩) ?_ ?_
            rotate_left
            ·
             intro w'
             go_simp
             with_reducible rfl
            rotate_left
            ·
             simp only [Act.put, lS, l0_, l1_, i64_w, i32_w]
             rfl
            refine done_ (done_of HT_.out (by kernel_rfl)) ?_
            try go_wp2
            go_roundg k1
            case measure => have := HK1.out; omega
            case rel => exact ⟨(wrap64 (x7_1 + 1)), (by first | rfl | (simp; done) | (simp [*]; done)), H', ⟨by have := HK1.out; omega⟩, ⟨(a1_ HB.out)⟩⟩
          ·
           rw [if_neg c13] at H
           exact absurd H (by simp)
         ·
          rw [if_neg c12] at H
          exact absurd H (by simp)
        ·
         rw [if_neg c10] at H
         have c10b0 : decide (0 < x7_1) = false := decide_eq_false c10
         clear c10
         have H' := Aside0.mk H
         clear H
         try go_wp2
         have n0_ := Aside0.mk (below_drew1 HB.out)
         clear HB
         have HB := n0_
         clear n0_
         have p179 : 0 ≤ (x7_1 : Int) := of_decide_eq_true (by first | (with_reducible assumption) | assumption)
         have q179 : x7_1 < (l0.length : Int) := of_decide_eq_true (by first | (with_reducible assumption) | assumption)
         obtain ⟨ad179, A179_7, c179_7, e179, hx179_0, hx179_1, hx179_2, hx179_3, hx179_4, hx179_5, hx179_6, hx179_7, hx179_8, hl179_7, hi179_7⟩ := at_T43 HR0.out x7_1 p179 q179
         have hw179_8 := hx179_8
         have hw179_7 := hx179_7
         have hw179_6 := hx179_6
         have hw179_5 := hx179_5
         have hw179_4 := hx179_4
         have hw179_3 := hx179_3
         have hw179_2 := hx179_2
         have hw179_1 := hx179_1
         have hw179_0 := hx179_0
         cases e179
         replace hx179_0 := ce_ HB.out hx179_0
         replace hx179_1 := ce_ HB.out hx179_1
         replace hx179_2 := ce_ HB.out hx179_2
         replace hx179_3 := ce_ HB.out hx179_3
         replace hx179_4 := ce_ HB.out hx179_4
         replace hx179_5 := ce_ HB.out hx179_5
         replace hx179_6 := ce_ HB.out hx179_6
         replace hx179_7 := ce_ HB.out hx179_7
         replace hx179_8 := ce_ HB.out hx179_8
         have HR179_7 := Aside0.mk hi179_7
         have HC179_7 := Aside0.mk hl179_7
         clear hi179_7 hl179_7
         replace p179 := eq_true p179
         replace q179 := eq_true q179
         have p181 : 0 ≤ (x7_1 : Int) := of_decide_eq_true (by first | (with_reducible assumption) | assumption)
         have q181 : x7_1 < (l0.length : Int) := of_decide_eq_true (by first | (with_reducible assumption) | assumption)
         obtain ⟨ad181, A181_7, c181_7, e181, hx181_0, hx181_1, hx181_2, hx181_3, hx181_4, hx181_5, hx181_6, hx181_7, hx181_8, hl181_7, hi181_7⟩ := at_T43 HR0.out x7_1 p181 q181
         have hw181_8 := hx181_8
         have hw181_7 := hx181_7
         have hw181_6 := hx181_6
         have hw181_5 := hx181_5
         have hw181_4 := hx181_4
         have hw181_3 := hx181_3
         have hw181_2 := hx181_2
         have hw181_1 := hx181_1
         have hw181_0 := hx181_0
         obtain rfl : ad179 = ad181 := (by injection e181)
         replace hx181_0 := ce_ HB.out hx181_0
         replace hx181_1 := ce_ HB.out hx181_1
         replace hx181_2 := ce_ HB.out hx181_2
         replace hx181_3 := ce_ HB.out hx181_3
         replace hx181_4 := ce_ HB.out hx181_4
         replace hx181_5 := ce_ HB.out hx181_5
         replace hx181_6 := ce_ HB.out hx181_6
         replace hx181_7 := ce_ HB.out hx181_7
         replace hx181_8 := ce_ HB.out hx181_8
         have HR181_7 := Aside0.mk hi181_7
         have HC181_7 := Aside0.mk hl181_7
         clear hi181_7 hl181_7
         replace p181 := eq_true p181
         replace q181 := eq_true q181
         refine start_ (n := 33) (S := fun w' => w'.cell? (ad179.add ((x7_1).toNat * 9)) = some (.int .i64 ((rd_T43 l0 x7_1).f0)) ∧ w'.cell? ⟨(ad179.add ((x7_1).toNat * 9)).block, (ad179.add ((x7_1).toNat * 9)).off + 1, none⟩ = some (.int .i64 ((rd_T43 l0 x7_1).f1)) ∧ w'.cell? ⟨(ad179.add ((x7_1).toNat * 9)).block, (ad179.add ((x7_1).toNat * 9)).off + 2, none⟩ = some (.int .i64 ((rd_T43 l0 x7_1).f2)) ∧ w'.cell? ⟨(ad179.add ((x7_1).toNat * 9)).block, (ad179.add ((x7_1).toNat * 9)).off + 3, none⟩ = some (.int .i64 ((rd_T43 l0 x7_1).f3)) ∧ w'.cell? ⟨(ad179.add ((x7_1).toNat * 9)).block, (ad179.add ((x7_1).toNat * 9)).off + 4, none⟩ = some (.int .i64 ((rd_T43 l0 x7_1).f4)) ∧ w'.cell? ⟨(ad179.add ((x7_1).toNat * 9)).block, (ad179.add ((x7_1).toNat * 9)).off + 5, none⟩ = some (.int .i64 ((rd_T43 l0 x7_1).f5)) ∧ w'.cell? ⟨(ad179.add ((x7_1).toNat * 9)).block, (ad179.add ((x7_1).toNat * 9)).off + 6, none⟩ = some (.string ((rd_T43 l0 x7_1).f6)) ∧ w'.cell? ⟨(ad179.add ((x7_1).toNat * 9)).block, (ad179.add ((x7_1).toNat * 9)).off + 7, none⟩ = some (.slice A179_7 ((rd_T43 l0 x7_1).f7).length c179_7) ∧ w'.cell? ⟨(ad179.add ((x7_1).toNat * 9)).block, (ad179.add ((x7_1).toNat * 9)).off + 8, none⟩ = some (.int .i64 ((rd_T43 l0 x7_1).f8)) ∧ w'.cell? (ad179.add ((x7_1).toNat * 9)) = some (.int .i64 ((rd_T43 l0 x7_1).f0)) ∧ w'.cell? ⟨(ad179.add ((x7_1).toNat * 9)).block, (ad179.add ((x7_1).toNat * 9)).off + 1, none⟩ = some (.int .i64 ((rd_T43 l0 x7_1).f1)) ∧ w'.cell? ⟨(ad179.add ((x7_1).toNat * 9)).block, (ad179.add ((x7_1).toNat * 9)).off + 2, none⟩ = some (.int .i64 ((rd_T43 l0 x7_1).f2)) ∧ w'.cell? ⟨(ad179.add ((x7_1).toNat * 9)).block, (ad179.add ((x7_1).toNat * 9)).off + 3, none⟩ = some (.int .i64 ((rd_T43 l0 x7_1).f3)) ∧ w'.cell? ⟨(ad179.add ((x7_1).toNat * 9)).block, (ad179.add ((x7_1).toNat * 9)).off + 4, none⟩ = some (.int .i64 ((rd_T43 l0 x7_1).f4)) ∧ w'.cell? ⟨(ad179.add ((x7_1).toNat * 9)).block, (ad179.add ((x7_1).toNat * 9)).off + 5, none⟩ = some (.int .i64 ((rd_T43 l0 x7_1).f5)) ∧ w'.cell? ⟨(ad179.add ((x7_1).toNat * 9)).block, (ad179.add ((x7_1).toNat * 9)).off + 6, none⟩ = some (.string ((rd_T43 l0 x7_1).f6)) ∧ w'.cell? ⟨(ad179.add ((x7_1).toNat * 9)).block, (ad179.add ((x7_1).toNat * 9)).off + 7, none⟩ = some (.slice A181_7 ((rd_T43 l0 x7_1).f7).length c181_7) ∧ w'.cell? ⟨(ad179.add ((x7_1).toNat * 9)).block, (ad179.add ((x7_1).toNat * 9)).off + 8, none⟩ = some (.int .i64 ((rd_T43 l0 x7_1).f8))) (ds := []) #[false, false, false, false, false, false, false, false, false, false, false, false, false, false, false, false, false, false, false, false, false, false, false, false, false, false, false, false, false, false, false, false, false] (by kernel_rfl) rfl rfl ⟨(ce_ HB.out hw179_0 :), (ce_ HB.out hw179_1 :), (ce_ HB.out hw179_2 :), (ce_ HB.out hw179_3 :), (ce_ HB.out hw179_4 :), (ce_ HB.out hw179_5 :), (ce_ HB.out hw179_6 :), (ce_ HB.out hw179_7 :), (ce_ HB.out hw179_8 :), (ce_ HB.out hw181_0 :), (ce_ HB.out hw181_1 :), (ce_ HB.out hw181_2 :), (ce_ HB.out hw181_3 :), (ce_ HB.out hw181_4 :), (ce_ HB.out hw181_5 :), (ce_ HB.out hw181_6 :), (ce_ HB.out hw181_7 :), (ce_ HB.out hw181_8 :)⟩ (fun hHeld => ?_); refine with_tabW spec_l03Row.tab6 spec_l03Row.bits6 (fun HT_ HW_ => ?_)
         generalize wr.drew = w19 at HB HR179_7 HR181_7 hx179_0 hx179_1 hx179_2 hx179_3 hx179_4 hx179_5 hx179_6 hx179_7 hx179_8 hx181_0 hx181_1 hx181_2 hx181_3 hx181_4 hx181_5 hx181_6 hx181_7 hx181_8 hHeld ⊢
         refine pure_ (i := 0) (N := some 18) (v := ?_) (a' := ?_) #[true, false, false, false, false, false, false, false, false, false, false, false, false, false, false, false, false, false, false, false, false, false, false, false, false, false, false, false, false, false, false, false, false] rfl rfl (any_of HT_.out (by kernel_rfl)) (fun _ _ _ h => h) (Or.inl ⟨by rfl, ?_⟩) ?_ ?_
         rotate_left
         ·
          intro w'
          go_simp
          with_reducible rfl
         rotate_left
         ·
          simp only [Act.put, lS, l0_, l1_, i64_w, i32_w]
          rfl
         refine pure_ (i := 1) (N := some 19) (v := ?_) (a' := ?_) #[true, true, false, false, false, false, false, false, false, false, false, false, false, false, false, false, false, false, false, false, false, false, false, false, false, false, false, false, false, false, false, false, false] rfl rfl (any_of HT_.out (by kernel_rfl)) (fun _ _ _ h => h) (Or.inl ⟨by rfl, ?_⟩) ?_ ?_
         rotate_left
         ·
          intro w'
          go_simp
          with_reducible rfl
         rotate_left
         ·
          simp only [Act.put, lS, l0_, l1_, i64_w, i32_w]
          rfl
         refine pure_ (i := 2) (N := some 20) (v := ?_) (a' := ?_) #[true, true, true, false, false, false, false, false, false, false, false, false, false, false, false, false, false, false, false, false, false, false, false, false, false, false, false, false, false, false, false, false, false] rfl rfl (any_of HT_.out (by kernel_rfl)) (fun _ _ _ h => h) (Or.inl ⟨by rfl, ?_⟩) ?_ ?_
         rotate_left
         ·
          intro w'
          go_simp
          with_reducible rfl
         rotate_left
         ·
          simp only [Act.put, lS, l0_, l1_, i64_w, i32_w]
          rfl
         refine take_ (i := 3) (N := some 21) (v := ?_) (a' := ?_) #[true, true, true, true, false, false, false, false, false, false, false, false, false, false, false, false, false, false, false, false, false, false, false, false, false, false, false, false, false, false, false, false, false] rfl rfl (take_ofW HT_.out HW_.out (by kernel_rfl)) (fun _ _ _ h => h) (Or.inl ⟨by rfl, ?_⟩) hHeld ?_ ?_
         rotate_left
         ·
          rintro w' ⟨s0, s1, s2, s3, s4, s5, s6, s7, s8, s9, s10, s11, s12, s13, s14, s15, s16, s17⟩
          go_simp
          with_reducible rfl
         rotate_left
         ·
          simp only [Act.put, lS, l0_, l1_, i64_w, i32_w]
          rfl
         refine one_ (i := 4) (N := some 22) #[true, true, true, true, true, false, false, false, false, false, false, false, false, false, false, false, false, false, false, false, false, false, false, false, false, false, false, false, false, false, false, false, false] rfl rfl (one_of HT_.out (by kernel_rfl)) (by decide) (fun K hK => ?_)
         refine goes_ Try.func36 (by kernel_rfl) rfl #[.agg #[.int .i64 ((rd_T43 l0 x7_1).f0), .int .i64 ((rd_T43 l0 x7_1).f1), .int .i64 ((rd_T43 l0 x7_1).f2), .int .i64 ((rd_T43 l0 x7_1).f3), .int .i64 ((rd_T43 l0 x7_1).f4), .int .i64 ((rd_T43 l0 x7_1).f5), .string ((rd_T43 l0 x7_1).f6), .slice A179_7 ((rd_T43 l0 x7_1).f7).length c179_7, .int .i64 ((rd_T43 l0 x7_1).f8)]] (by rfl) rfl rfl (by (try simp only [List.map_toArray, List.map_cons, List.map_nil]); first | done | rfl | (simp only [List.length_drop, List.length_take]; rfl)) ?_
         with_reducible refine (spec_EventRight.calls k1 ((rd_T43 l0 x7_1).f0) ((rd_T43 l0 x7_1).f1) ((rd_T43 l0 x7_1).f2) ((rd_T43 l0 x7_1).f3) ((rd_T43 l0 x7_1).f4) ((rd_T43 l0 x7_1).f5) ((rd_T43 l0 x7_1).f6) _ _ ((rd_T43 l0 x7_1).f7) ((rd_T43 l0 x7_1).f8) true _ ?side1 ?side2 A7.out).mono ?_
         (case side1 => repeat (first | exact (Kd.C_below HR179_7.out HB.out) | (with_reducible refine Kd.C_alloc ?_ _) | (with_reducible refine Kd.C_drewN ?_ _) | (with_reducible refine Kd.C_drew ?_)))
         (case side2 => exact HC179_7.out)
         rintro e w20 ⟨rfl, hb⟩
         refine ⟨_, rfl, ?_⟩
         have n0_ := Aside0.mk (below_step HB.out hb)
         clear HB
         have HB := n0_
         clear n0_
         (try clear hb)
         (try clear hb2)
         (try clear hk)
         (try clear hi)
         refine hK.out _ _ ⟨(ce_ HB.out hw179_0 :), (ce_ HB.out hw179_1 :), (ce_ HB.out hw179_2 :), (ce_ HB.out hw179_3 :), (ce_ HB.out hw179_4 :), (ce_ HB.out hw179_5 :), (ce_ HB.out hw179_6 :), (ce_ HB.out hw179_7 :), (ce_ HB.out hw179_8 :), (ce_ HB.out hw181_0 :), (ce_ HB.out hw181_1 :), (ce_ HB.out hw181_2 :), (ce_ HB.out hw181_3 :), (ce_ HB.out hw181_4 :), (ce_ HB.out hw181_5 :), (ce_ HB.out hw181_6 :), (ce_ HB.out hw181_7 :), (ce_ HB.out hw181_8 :)⟩ (fun hHeld => ?_)
         clear hK K
         refine norm_ (a' := ?_) ?_ ?_
         rotate_left
         ·
          show Act.put _ (some 22) _ = _
          simp only [Act.put, lS, l0_, l1_, i64_w, i32_w]
          rfl
         refine pure_ (i := 5) (N := some 23) (v := ?_) (a' := ?_) #[true, true, true, true, true, true, false, false, false, false, false, false, false, false, false, false, false, false, false, false, false, false, false, false, false, false, false, false, false, false, false, false, false] rfl rfl (any_of HT_.out (by kernel_rfl)) (fun _ _ _ h => h) (Or.inl ⟨by rfl, ?_⟩) ?_ ?_
         rotate_left
         ·
          intro w'
          go_simp
          with_reducible rfl
         rotate_left
         ·
          simp only [Act.put, lS, l0_, l1_, i64_w, i32_w]
          rfl
         refine pure_ (i := 6) (N := some 24) (v := ?_) (a' := ?_) #[true, true, true, true, true, true, true, false, false, false, false, false, false, false, false, false, false, false, false, false, false, false, false, false, false, false, false, false, false, false, false, false, false] rfl rfl (any_of HT_.out (by kernel_rfl)) (fun _ _ _ h => h) (Or.inl ⟨by rfl, ?_⟩) ?_ ?_
         rotate_left
         ·
          intro w'
          go_simp
          with_reducible rfl
         rotate_left
         ·
          simp only [Act.put, lS, l0_, l1_, i64_w, i32_w]
          rfl
         refine pure_ (i := 7) (N := some 25) (v := ?_) (a' := ?_) #[true, true, true, true, true, true, true, true, false, false, false, false, false, false, false, false, false, false, false, false, false, false, false, false, false, false, false, false, false, false, false, false, false] rfl rfl (any_of HT_.out (by kernel_rfl)) (fun _ _ _ h => h) (Or.inl ⟨by rfl, ?_⟩) ?_ ?_
         rotate_left
         ·
          intro w'
          go_simp
          with_reducible rfl
         rotate_left
         ·
          simp only [Act.put, lS, l0_, l1_, i64_w, i32_w]
          rfl
         refine pure_ (i := 8) (N := some 26) (v := ?_) (a' := ?_) #[true, true, true, true, true, true, true, true, true, false, false, false, false, false, false, false, false, false, false, false, false, false, false, false, false, false, false, false, false, false, false, false, false] rfl rfl (any_of HT_.out (by kernel_rfl)) (fun _ _ _ h => h) (Or.inl ⟨by rfl, ?_⟩) ?_ ?_
         rotate_left
         ·
          intro w'
          go_simp
          with_reducible rfl
         rotate_left
         ·
          simp only [Act.put, lS, l0_, l1_, i64_w, i32_w]
          rfl
         refine pure_ (i := 9) (N := some 27) (v := ?_) (a' := ?_) #[true, true, true, true, true, true, true, true, true, true, false, false, false, false, false, false, false, false, false, false, false, false, false, false, false, false, false, false, false, false, false, false, false] rfl rfl (any_of HT_.out (by kernel_rfl)) (fun _ _ _ h => h) (Or.inl ⟨by rfl, ?_⟩) ?_ ?_
         rotate_left
         ·
          intro w'
          go_simp
          with_reducible rfl
         rotate_left
         ·
          simp only [Act.put, lS, l0_, l1_, i64_w, i32_w]
          rfl
         refine pure_ (i := 10) (N := some 28) (v := ?_) (a' := ?_) #[true, true, true, true, true, true, true, true, true, true, true, false, false, false, false, false, false, false, false, false, false, false, false, false, false, false, false, false, false, false, false, false, false] rfl rfl (any_of HT_.out (by kernel_rfl)) (fun _ _ _ h => h) (Or.inl ⟨by rfl, ?_⟩) ?_ ?_
         rotate_left
         ·
          intro w'
          go_simp
          with_reducible rfl
         rotate_left
         ·
          simp only [Act.put, lS, l0_, l1_, i64_w, i32_w]
          rfl
         refine pure_ (i := 12) (N := some 30) (v := ?_) (a' := ?_) #[true, true, true, true, true, true, true, true, true, true, true, false, true, false, false, false, false, false, false, false, false, false, false, false, false, false, false, false, false, false, false, false, false] rfl rfl (any_of HT_.out (by kernel_rfl)) (fun _ _ _ h => h) (Or.inl ⟨by rfl, ?_⟩) ?_ ?_
         rotate_left
         ·
          intro w'
          go_simp
          with_reducible rfl
         rotate_left
         ·
          simp only [Act.put, lS, l0_, l1_, i64_w, i32_w]
          rfl
         refine take_ (i := 11) (N := some 29) (v := ?_) (a' := ?_) #[true, true, true, true, true, true, true, true, true, true, true, true, true, false, false, false, false, false, false, false, false, false, false, false, false, false, false, false, false, false, false, false, false] rfl rfl (take_ofW HT_.out HW_.out (by kernel_rfl)) (fun _ _ _ h => h) (Or.inl ⟨by rfl, ?_⟩) hHeld ?_ ?_
         rotate_left
         ·
          rintro w' ⟨s0, s1, s2, s3, s4, s5, s6, s7, s8, s9, s10, s11, s12, s13, s14, s15, s16, s17⟩
          go_simp
          with_reducible rfl
         rotate_left
         ·
          simp only [Act.put, lS, l0_, l1_, i64_w, i32_w]
          rfl
         refine pure_ (i := 13) (N := some 31) (v := ?_) (a' := ?_) #[true, true, true, true, true, true, true, true, true, true, true, true, true, true, false, false, false, false, false, false, false, false, false, false, false, false, false, false, false, false, false, false, false] rfl rfl (any_of HT_.out (by kernel_rfl)) (fun _ _ _ h => h) (Or.inl ⟨by rfl, ?_⟩) ?_ ?_
         rotate_left
         ·
          intro w'
          go_simp
          with_reducible rfl
         rotate_left
         ·
          simp only [Act.put, lS, l0_, l1_, i64_w, i32_w]
          rfl
         refine pure_ (i := 14) (N := some 32) (v := ?_) (a' := ?_) #[true, true, true, true, true, true, true, true, true, true, true, true, true, true, true, false, false, false, false, false, false, false, false, false, false, false, false, false, false, false, false, false, false] rfl rfl (any_of HT_.out (by kernel_rfl)) (fun _ _ _ h => h) (Or.inl ⟨by rfl, ?_⟩) ?_ ?_
         rotate_left
         ·
          intro w'
          go_simp
          with_reducible rfl
         rotate_left
         ·
          simp only [Act.put, lS, l0_, l1_, i64_w, i32_w]
          rfl
         refine pure_ (i := 15) (N := some 33) (v := ?_) (a' := ?_) #[true, true, true, true, true, true, true, true, true, true, true, true, true, true, true, true, false, false, false, false, false, false, false, false, false, false, false, false, false, false, false, false, false] rfl rfl (any_of HT_.out (by kernel_rfl)) (fun _ _ _ h => h) (Or.inl ⟨by rfl, ?_⟩) ?_ ?_
         rotate_left
         ·
          intro w'
          go_simp
          with_reducible rfl
         rotate_left
         ·
          simp only [Act.put, lS, l0_, l1_, i64_w, i32_w]
          rfl
         refine pure_ (i := 16) (N := some 34) (v := ?_) (a' := ?_) #[true, true, true, true, true, true, true, true, true, true, true, true, true, true, true, true, true, false, false, false, false, false, false, false, false, false, false, false, false, false, false, false, false] rfl rfl (any_of HT_.out (by kernel_rfl)) (fun _ _ _ h => h) (Or.inl ⟨by rfl, ?_⟩) ?_ ?_
         rotate_left
         ·
          intro w'
          go_simp
          with_reducible rfl
         rotate_left
         ·
          simp only [Act.put, lS, l0_, l1_, i64_w, i32_w]
          rfl
         refine pure_ (i := 17) (N := some 35) (v := ?_) (a' := ?_) #[true, true, true, true, true, true, true, true, true, true, true, true, true, true, true, true, true, true, false, false, false, false, false, false, false, false, false, false, false, false, false, false, false] rfl rfl (any_of HT_.out (by kernel_rfl)) (fun _ _ _ h => h) (Or.inl ⟨by rfl, ?_⟩) ?_ ?_
         rotate_left
         ·
          intro w'
          go_simp
          with_reducible rfl
         rotate_left
         ·
          simp only [Act.put, lS, l0_, l1_, i64_w, i32_w]
          rfl
         refine pure_ (i := 18) (N := some 36) (v := ?_) (a' := ?_) #[true, true, true, true, true, true, true, true, true, true, true, true, true, true, true, true, true, true, true, false, false, false, false, false, false, false, false, false, false, false, false, false, false] rfl rfl (any_of HT_.out (by kernel_rfl)) (fun _ _ _ h => h) (Or.inl ⟨by rfl, ?_⟩) ?_ ?_
         rotate_left
         ·
          intro w'
          go_simp
          with_reducible rfl
         rotate_left
         ·
          simp only [Act.put, lS, l0_, l1_, i64_w, i32_w]
          rfl
         refine pure_ (i := 19) (N := some 37) (v := undef) (a' := ?_) #[true, true, true, true, true, true, true, true, true, true, true, true, true, true, true, true, true, true, true, true, false, false, false, false, false, false, false, false, false, false, false, false, false] rfl rfl (any_of HT_.out (by kernel_rfl)) (fun _ _ _ h => h) (Or.inr ⟨by rfl, rfl⟩) ?_ ?_
         rotate_left
         ·
          simp only [Act.put, lS, l0_, l1_, i64_w, i32_w]
          rfl
         refine pure_ (i := 20) (N := some 38) (v := undef) (a' := ?_) #[true, true, true, true, true, true, true, true, true, true, true, true, true, true, true, true, true, true, true, true, true, false, false, false, false, false, false, false, false, false, false, false, false] rfl rfl (any_of HT_.out (by kernel_rfl)) (fun _ _ _ h => h) (Or.inr ⟨by rfl, rfl⟩) ?_ ?_
         rotate_left
         ·
          simp only [Act.put, lS, l0_, l1_, i64_w, i32_w]
          rfl
         refine pure_ (i := 21) (N := some 39) (v := undef) (a' := ?_) #[true, true, true, true, true, true, true, true, true, true, true, true, true, true, true, true, true, true, true, true, true, true, false, false, false, false, false, false, false, false, false, false, false] rfl rfl (any_of HT_.out (by kernel_rfl)) (fun _ _ _ h => h) (Or.inr ⟨by rfl, rfl⟩) ?_ ?_
         rotate_left
         ·
          simp only [Act.put, lS, l0_, l1_, i64_w, i32_w]
          rfl
         refine pure_ (i := 22) (N := some 40) (v := undef) (a' := ?_) #[true, true, true, true, true, true, true, true, true, true, true, true, true, true, true, true, true, true, true, true, true, true, true, false, false, false, false, false, false, false, false, false, false] rfl rfl (any_of HT_.out (by kernel_rfl)) (fun _ _ _ h => h) (Or.inr ⟨by rfl, rfl⟩) ?_ ?_
         rotate_left
         ·
          simp only [Act.put, lS, l0_, l1_, i64_w, i32_w]
          rfl
         refine pure_ (i := 23) (N := some 41) (v := undef) (a' := ?_) #[true, true, true, true, true, true, true, true, true, true, true, true, true, true, true, true, true, true, true, true, true, true, true, true, false, false, false, false, false, false, false, false, false] rfl rfl (any_of HT_.out (by kernel_rfl)) (fun _ _ _ h => h) (Or.inr ⟨by rfl, rfl⟩) ?_ ?_
         rotate_left
         ·
          simp only [Act.put, lS, l0_, l1_, i64_w, i32_w]
          rfl
         refine pure_ (i := 24) (N := some 42) (v := undef) (a' := ?_) #[true, true, true, true, true, true, true, true, true, true, true, true, true, true, true, true, true, true, true, true, true, true, true, true, true, false, false, false, false, false, false, false, false] rfl rfl (any_of HT_.out (by kernel_rfl)) (fun _ _ _ h => h) (Or.inr ⟨by rfl, rfl⟩) ?_ ?_
         rotate_left
         ·
          simp only [Act.put, lS, l0_, l1_, i64_w, i32_w]
          rfl
         refine pure_ (i := 25) (N := some 43) (v := undef) (a' := ?_) #[true, true, true, true, true, true, true, true, true, true, true, true, true, true, true, true, true, true, true, true, true, true, true, true, true, true, false, false, false, false, false, false, false] rfl rfl (any_of HT_.out (by kernel_rfl)) (fun _ _ _ h => h) (Or.inr ⟨by rfl, rfl⟩) ?_ ?_
         rotate_left
         ·
          simp only [Act.put, lS, l0_, l1_, i64_w, i32_w]
          rfl
         refine pure_ (i := 26) (N := some 44) (v := undef) (a' := ?_) #[true, true, true, true, true, true, true, true, true, true, true, true, true, true, true, true, true, true, true, true, true, true, true, true, true, true, true, false, false, false, false, false, false] rfl rfl (any_of HT_.out (by kernel_rfl)) (fun _ _ _ h => h) (Or.inr ⟨by rfl, rfl⟩) ?_ ?_
         rotate_left
         ·
          simp only [Act.put, lS, l0_, l1_, i64_w, i32_w]
          rfl
         refine pure_ (i := 27) (N := some 45) (v := undef) (a' := ?_) #[true, true, true, true, true, true, true, true, true, true, true, true, true, true, true, true, true, true, true, true, true, true, true, true, true, true, true, true, false, false, false, false, false] rfl rfl (any_of HT_.out (by kernel_rfl)) (fun _ _ _ h => h) (Or.inr ⟨by rfl, rfl⟩) ?_ ?_
         rotate_left
         ·
          simp only [Act.put, lS, l0_, l1_, i64_w, i32_w]
          rfl
         refine pure_ (i := 28) (N := some 46) (v := undef) (a' := ?_) #[true, true, true, true, true, true, true, true, true, true, true, true, true, true, true, true, true, true, true, true, true, true, true, true, true, true, true, true, true, false, false, false, false] rfl rfl (any_of HT_.out (by kernel_rfl)) (fun _ _ _ h => h) (Or.inr ⟨by rfl, rfl⟩) ?_ ?_
         rotate_left
         ·
          simp only [Act.put, lS, l0_, l1_, i64_w, i32_w]
          rfl
         refine pure_ (i := 29) (N := some 47) (v := undef) (a' := ?_) #[true, true, true, true, true, true, true, true, true, true, true, true, true, true, true, true, true, true, true, true, true, true, true, true, true, true, true, true, true, true, false, false, false] rfl rfl (any_of HT_.out (by kernel_rfl)) (fun _ _ _ h => h) (Or.inr ⟨by rfl, rfl⟩) ?_ ?_
         rotate_left
         ·
          simp only [Act.put, lS, l0_, l1_, i64_w, i32_w]
          rfl
         refine pure_ (i := 30) (N := some 48) (v := undef) (a' := ?_) #[true, true, true, true, true, true, true, true, true, true, true, true, true, true, true, true, true, true, true, true, true, true, true, true, true, true, true, true, true, true, true, false, false] rfl rfl (any_of HT_.out (by kernel_rfl)) (fun _ _ _ h => h) (Or.inr ⟨by rfl, rfl⟩) ?_ ?_
         rotate_left
         ·
          simp only [Act.put, lS, l0_, l1_, i64_w, i32_w]
          rfl
         refine pure_ (i := 31) (N := some 49) (v := ?_) (a' := ?_) #[true, true, true, true, true, true, true, true, true, true, true, true, true, true, true, true, true, true, true, true, true, true, true, true, true, true, true, true, true, true, true, true, false] rfl rfl (any_of HT_.out (by kernel_rfl)) (fun _ _ _ h => h) (Or.inl ⟨by rfl, ?_⟩) ?_ ?_
         rotate_left
         ·
          intro w'
          go_simp
          with_reducible rfl
         rotate_left
         ·
          simp only [Act.put, lS, l0_, l1_, i64_w, i32_w]
          rfl
         refine pure_ (i := 32) (N := some 50) (v := ?_) (a' := ?_) #[true, true, true, true, true, true, true, true, true, true, true, true, true, true, true, true, true, true, true, true, true, true, true, true, true, true, true, true, true, true, true, true, true] rfl rfl (any_of HT_.out (by kernel_rfl)) (fun _ _ _ h => h) (Or.inl ⟨by rfl, ?_⟩) ?_ ?_
         rotate_left
         ·
          intro w'
          go_simp
          with_reducible rfl
         rotate_left
         ·
          simp only [Act.put, lS, l0_, l1_, i64_w, i32_w]
          rfl
         refine done_ (done_of HT_.out (by kernel_rfl)) ?_
         try go_wp2
         go_roundg k1
         case measure => have := HK1.out; omega
         case rel => exact ⟨(wrap64 (x7_1 + 1)), (by first | rfl | (simp; done) | (simp [*]; done)), H', ⟨by have := HK1.out; omega⟩, ⟨(a1_ HB.out)⟩⟩
       ·
        rw [if_neg c9] at H
        have c9b0 : (((rd_T43 l0 x7_1).f1) == a1) = false := beq_eq_false_iff_ne.mpr c9
        have c9b1 : (((rd_T43 l0 x7_1).f1) != a1) = true := bne_iff_ne.mpr c9
        obtain rfl := Option.some.inj H
        try go_wp2
        have n0_ := Aside0.mk (below_drew1 HB.out)
        clear HB
        have HB := n0_
        clear n0_
        have p179 : 0 ≤ (x7_1 : Int) := of_decide_eq_true (by first | (with_reducible assumption) | assumption)
        have q179 : x7_1 < (l0.length : Int) := of_decide_eq_true (by first | (with_reducible assumption) | assumption)
        obtain ⟨ad179, A179_7, c179_7, e179, hx179_0, hx179_1, hx179_2, hx179_3, hx179_4, hx179_5, hx179_6, hx179_7, hx179_8, hl179_7, hi179_7⟩ := at_T43 HR0.out x7_1 p179 q179
        have hw179_8 := hx179_8
        have hw179_7 := hx179_7
        have hw179_6 := hx179_6
        have hw179_5 := hx179_5
        have hw179_4 := hx179_4
        have hw179_3 := hx179_3
        have hw179_2 := hx179_2
        have hw179_1 := hx179_1
        have hw179_0 := hx179_0
        cases e179
        replace hx179_0 := ce_ HB.out hx179_0
        replace hx179_1 := ce_ HB.out hx179_1
        replace hx179_2 := ce_ HB.out hx179_2
        replace hx179_3 := ce_ HB.out hx179_3
        replace hx179_4 := ce_ HB.out hx179_4
        replace hx179_5 := ce_ HB.out hx179_5
        replace hx179_6 := ce_ HB.out hx179_6
        replace hx179_7 := ce_ HB.out hx179_7
        replace hx179_8 := ce_ HB.out hx179_8
        have HR179_7 := Aside0.mk hi179_7
        have HC179_7 := Aside0.mk hl179_7
        clear hi179_7 hl179_7
        replace p179 := eq_true p179
        replace q179 := eq_true q179
        have p181 : 0 ≤ (x7_1 : Int) := of_decide_eq_true (by first | (with_reducible assumption) | assumption)
        have q181 : x7_1 < (l0.length : Int) := of_decide_eq_true (by first | (with_reducible assumption) | assumption)
        obtain ⟨ad181, A181_7, c181_7, e181, hx181_0, hx181_1, hx181_2, hx181_3, hx181_4, hx181_5, hx181_6, hx181_7, hx181_8, hl181_7, hi181_7⟩ := at_T43 HR0.out x7_1 p181 q181
        have hw181_8 := hx181_8
        have hw181_7 := hx181_7
        have hw181_6 := hx181_6
        have hw181_5 := hx181_5
        have hw181_4 := hx181_4
        have hw181_3 := hx181_3
        have hw181_2 := hx181_2
        have hw181_1 := hx181_1
        have hw181_0 := hx181_0
        obtain rfl : ad179 = ad181 := (by injection e181)
        replace hx181_0 := ce_ HB.out hx181_0
        replace hx181_1 := ce_ HB.out hx181_1
        replace hx181_2 := ce_ HB.out hx181_2
        replace hx181_3 := ce_ HB.out hx181_3
        replace hx181_4 := ce_ HB.out hx181_4
        replace hx181_5 := ce_ HB.out hx181_5
        replace hx181_6 := ce_ HB.out hx181_6
        replace hx181_7 := ce_ HB.out hx181_7
        replace hx181_8 := ce_ HB.out hx181_8
        have HR181_7 := Aside0.mk hi181_7
        have HC181_7 := Aside0.mk hl181_7
        clear hi181_7 hl181_7
        replace p181 := eq_true p181
        replace q181 := eq_true q181
        refine start_ (n := 33) (S := fun w' => w'.cell? (ad179.add ((x7_1).toNat * 9)) = some (.int .i64 ((rd_T43 l0 x7_1).f0)) ∧ w'.cell? ⟨(ad179.add ((x7_1).toNat * 9)).block, (ad179.add ((x7_1).toNat * 9)).off + 1, none⟩ = some (.int .i64 ((rd_T43 l0 x7_1).f1)) ∧ w'.cell? ⟨(ad179.add ((x7_1).toNat * 9)).block, (ad179.add ((x7_1).toNat * 9)).off + 2, none⟩ = some (.int .i64 ((rd_T43 l0 x7_1).f2)) ∧ w'.cell? ⟨(ad179.add ((x7_1).toNat * 9)).block, (ad179.add ((x7_1).toNat * 9)).off + 3, none⟩ = some (.int .i64 ((rd_T43 l0 x7_1).f3)) ∧ w'.cell? ⟨(ad179.add ((x7_1).toNat * 9)).block, (ad179.add ((x7_1).toNat * 9)).off + 4, none⟩ = some (.int .i64 ((rd_T43 l0 x7_1).f4)) ∧ w'.cell? ⟨(ad179.add ((x7_1).toNat * 9)).block, (ad179.add ((x7_1).toNat * 9)).off + 5, none⟩ = some (.int .i64 ((rd_T43 l0 x7_1).f5)) ∧ w'.cell? ⟨(ad179.add ((x7_1).toNat * 9)).block, (ad179.add ((x7_1).toNat * 9)).off + 6, none⟩ = some (.string ((rd_T43 l0 x7_1).f6)) ∧ w'.cell? ⟨(ad179.add ((x7_1).toNat * 9)).block, (ad179.add ((x7_1).toNat * 9)).off + 7, none⟩ = some (.slice A179_7 ((rd_T43 l0 x7_1).f7).length c179_7) ∧ w'.cell? ⟨(ad179.add ((x7_1).toNat * 9)).block, (ad179.add ((x7_1).toNat * 9)).off + 8, none⟩ = some (.int .i64 ((rd_T43 l0 x7_1).f8)) ∧ w'.cell? (ad179.add ((x7_1).toNat * 9)) = some (.int .i64 ((rd_T43 l0 x7_1).f0)) ∧ w'.cell? ⟨(ad179.add ((x7_1).toNat * 9)).block, (ad179.add ((x7_1).toNat * 9)).off + 1, none⟩ = some (.int .i64 ((rd_T43 l0 x7_1).f1)) ∧ w'.cell? ⟨(ad179.add ((x7_1).toNat * 9)).block, (ad179.add ((x7_1).toNat * 9)).off + 2, none⟩ = some (.int .i64 ((rd_T43 l0 x7_1).f2)) ∧ w'.cell? ⟨(ad179.add ((x7_1).toNat * 9)).block, (ad179.add ((x7_1).toNat * 9)).off + 3, none⟩ = some (.int .i64 ((rd_T43 l0 x7_1).f3)) ∧ w'.cell? ⟨(ad179.add ((x7_1).toNat * 9)).block, (ad179.add ((x7_1).toNat * 9)).off + 4, none⟩ = some (.int .i64 ((rd_T43 l0 x7_1).f4)) ∧ w'.cell? ⟨(ad179.add ((x7_1).toNat * 9)).block, (ad179.add ((x7_1).toNat * 9)).off + 5, none⟩ = some (.int .i64 ((rd_T43 l0 x7_1).f5)) ∧ w'.cell? ⟨(ad179.add ((x7_1).toNat * 9)).block, (ad179.add ((x7_1).toNat * 9)).off + 6, none⟩ = some (.string ((rd_T43 l0 x7_1).f6)) ∧ w'.cell? ⟨(ad179.add ((x7_1).toNat * 9)).block, (ad179.add ((x7_1).toNat * 9)).off + 7, none⟩ = some (.slice A181_7 ((rd_T43 l0 x7_1).f7).length c181_7) ∧ w'.cell? ⟨(ad179.add ((x7_1).toNat * 9)).block, (ad179.add ((x7_1).toNat * 9)).off + 8, none⟩ = some (.int .i64 ((rd_T43 l0 x7_1).f8))) (ds := []) #[false, false, false, false, false, false, false, false, false, false, false, false, false, false, false, false, false, false, false, false, false, false, false, false, false, false, false, false, false, false, false, false, false] (by kernel_rfl) rfl rfl ⟨(ce_ HB.out hw179_0 :), (ce_ HB.out hw179_1 :), (ce_ HB.out hw179_2 :), (ce_ HB.out hw179_3 :), (ce_ HB.out hw179_4 :), (ce_ HB.out hw179_5 :), (ce_ HB.out hw179_6 :), (ce_ HB.out hw179_7 :), (ce_ HB.out hw179_8 :), (ce_ HB.out hw181_0 :), (ce_ HB.out hw181_1 :), (ce_ HB.out hw181_2 :), (ce_ HB.out hw181_3 :), (ce_ HB.out hw181_4 :), (ce_ HB.out hw181_5 :), (ce_ HB.out hw181_6 :), (ce_ HB.out hw181_7 :), (ce_ HB.out hw181_8 :)⟩ (fun hHeld => ?_); refine with_tabW spec_l03Row.tab6 spec_l03Row.bits6 (fun HT_ HW_ => ?_)
        generalize wr.drew = w21 at HB HR179_7 HR181_7 hx179_0 hx179_1 hx179_2 hx179_3 hx179_4 hx179_5 hx179_6 hx179_7 hx179_8 hx181_0 hx181_1 hx181_2 hx181_3 hx181_4 hx181_5 hx181_6 hx181_7 hx181_8 hHeld ⊢
        refine pure_ (i := 0) (N := some 18) (v := ?_) (a' := ?_) #[true, false, false, false, false, false, false, false, false, false, false, false, false, false, false, false, false, false, false, false, false, false, false, false, false, false, false, false, false, false, false, false, false] rfl rfl (any_of HT_.out (by kernel_rfl)) (fun _ _ _ h => h) (Or.inl ⟨by rfl, ?_⟩) ?_ ?_
        rotate_left
        ·
         intro w'
         go_simp
         with_reducible rfl
        rotate_left
        ·
         simp only [Act.put, lS, l0_, l1_, i64_w, i32_w]
         rfl
        refine pure_ (i := 1) (N := some 19) (v := ?_) (a' := ?_) #[true, true, false, false, false, false, false, false, false, false, false, false, false, false, false, false, false, false, false, false, false, false, false, false, false, false, false, false, false, false, false, false, false] rfl rfl (any_of HT_.out (by kernel_rfl)) (fun _ _ _ h => h) (Or.inl ⟨by rfl, ?_⟩) ?_ ?_
        rotate_left
        ·
         intro w'
         go_simp
         with_reducible rfl
        rotate_left
        ·
         simp only [Act.put, lS, l0_, l1_, i64_w, i32_w]
         rfl
        refine pure_ (i := 2) (N := some 20) (v := ?_) (a' := ?_) #[true, true, true, false, false, false, false, false, false, false, false, false, false, false, false, false, false, false, false, false, false, false, false, false, false, false, false, false, false, false, false, false, false] rfl rfl (any_of HT_.out (by kernel_rfl)) (fun _ _ _ h => h) (Or.inl ⟨by rfl, ?_⟩) ?_ ?_
        rotate_left
        ·
         intro w'
         go_simp
         with_reducible rfl
        rotate_left
        ·
         simp only [Act.put, lS, l0_, l1_, i64_w, i32_w]
         rfl
        refine take_ (i := 3) (N := some 21) (v := ?_) (a' := ?_) #[true, true, true, true, false, false, false, false, false, false, false, false, false, false, false, false, false, false, false, false, false, false, false, false, false, false, false, false, false, false, false, false, false] rfl rfl (take_ofW HT_.out HW_.out (by kernel_rfl)) (fun _ _ _ h => h) (Or.inl ⟨by rfl, ?_⟩) hHeld ?_ ?_
        rotate_left
        ·
         rintro w' ⟨s0, s1, s2, s3, s4, s5, s6, s7, s8, s9, s10, s11, s12, s13, s14, s15, s16, s17⟩
         go_simp
         with_reducible rfl
        rotate_left
        ·
         simp only [Act.put, lS, l0_, l1_, i64_w, i32_w]
         rfl
        refine one_ (i := 4) (N := some 22) #[true, true, true, true, true, false, false, false, false, false, false, false, false, false, false, false, false, false, false, false, false, false, false, false, false, false, false, false, false, false, false, false, false] rfl rfl (one_of HT_.out (by kernel_rfl)) (by decide) (fun K hK => ?_)
        refine goes_ Try.func36 (by kernel_rfl) rfl #[.agg #[.int .i64 ((rd_T43 l0 x7_1).f0), .int .i64 ((rd_T43 l0 x7_1).f1), .int .i64 ((rd_T43 l0 x7_1).f2), .int .i64 ((rd_T43 l0 x7_1).f3), .int .i64 ((rd_T43 l0 x7_1).f4), .int .i64 ((rd_T43 l0 x7_1).f5), .string ((rd_T43 l0 x7_1).f6), .slice A179_7 ((rd_T43 l0 x7_1).f7).length c179_7, .int .i64 ((rd_T43 l0 x7_1).f8)]] (by rfl) rfl rfl (by (try simp only [List.map_toArray, List.map_cons, List.map_nil]); first | done | rfl | (simp only [List.length_drop, List.length_take]; rfl)) ?_
        with_reducible refine (spec_EventRight.calls k1 ((rd_T43 l0 x7_1).f0) ((rd_T43 l0 x7_1).f1) ((rd_T43 l0 x7_1).f2) ((rd_T43 l0 x7_1).f3) ((rd_T43 l0 x7_1).f4) ((rd_T43 l0 x7_1).f5) ((rd_T43 l0 x7_1).f6) _ _ ((rd_T43 l0 x7_1).f7) ((rd_T43 l0 x7_1).f8) true _ ?side1 ?side2 A7.out).mono ?_
        (case side1 => repeat (first | exact (Kd.C_below HR179_7.out HB.out) | (with_reducible refine Kd.C_alloc ?_ _) | (with_reducible refine Kd.C_drewN ?_ _) | (with_reducible refine Kd.C_drew ?_)))
        (case side2 => exact HC179_7.out)
        rintro e w22 ⟨rfl, hb⟩
        refine ⟨_, rfl, ?_⟩
        have n0_ := Aside0.mk (below_step HB.out hb)
        clear HB
        have HB := n0_
        clear n0_
        (try clear hb)
        (try clear hb2)
        (try clear hk)
        (try clear hi)
        refine hK.out _ _ ⟨(ce_ HB.out hw179_0 :), (ce_ HB.out hw179_1 :), (ce_ HB.out hw179_2 :), (ce_ HB.out hw179_3 :), (ce_ HB.out hw179_4 :), (ce_ HB.out hw179_5 :), (ce_ HB.out hw179_6 :), (ce_ HB.out hw179_7 :), (ce_ HB.out hw179_8 :), (ce_ HB.out hw181_0 :), (ce_ HB.out hw181_1 :), (ce_ HB.out hw181_2 :), (ce_ HB.out hw181_3 :), (ce_ HB.out hw181_4 :), (ce_ HB.out hw181_5 :), (ce_ HB.out hw181_6 :), (ce_ HB.out hw181_7 :), (ce_ HB.out hw181_8 :)⟩ (fun hHeld => ?_)
        clear hK K
        refine norm_ (a' := ?_) ?_ ?_
        rotate_left
        ·
         show Act.put _ (some 22) _ = _
         simp only [Act.put, lS, l0_, l1_, i64_w, i32_w]
         rfl
        refine pure_ (i := 5) (N := some 23) (v := ?_) (a' := ?_) #[true, true, true, true, true, true, false, false, false, false, false, false, false, false, false, false, false, false, false, false, false, false, false, false, false, false, false, false, false, false, false, false, false] rfl rfl (any_of HT_.out (by kernel_rfl)) (fun _ _ _ h => h) (Or.inl ⟨by rfl, ?_⟩) ?_ ?_
        rotate_left
        ·
         intro w'
         go_simp
         with_reducible rfl
        rotate_left
        ·
         simp only [Act.put, lS, l0_, l1_, i64_w, i32_w]
         rfl
        refine pure_ (i := 6) (N := some 24) (v := ?_) (a' := ?_) #[true, true, true, true, true, true, true, false, false, false, false, false, false, false, false, false, false, false, false, false, false, false, false, false, false, false, false, false, false, false, false, false, false] rfl rfl (any_of HT_.out (by kernel_rfl)) (fun _ _ _ h => h) (Or.inl ⟨by rfl, ?_⟩) ?_ ?_
        rotate_left
        ·
         intro w'
         go_simp
         with_reducible rfl
        rotate_left
        ·
         simp only [Act.put, lS, l0_, l1_, i64_w, i32_w]
         rfl
        refine pure_ (i := 7) (N := some 25) (v := ?_) (a' := ?_) #[true, true, true, true, true, true, true, true, false, false, false, false, false, false, false, false, false, false, false, false, false, false, false, false, false, false, false, false, false, false, false, false, false] rfl rfl (any_of HT_.out (by kernel_rfl)) (fun _ _ _ h => h) (Or.inl ⟨by rfl, ?_⟩) ?_ ?_
        rotate_left
        ·
         intro w'
         go_simp
         with_reducible rfl
        rotate_left
        ·
         simp only [Act.put, lS, l0_, l1_, i64_w, i32_w]
         rfl
        refine pure_ (i := 8) (N := some 26) (v := ?_) (a' := ?_) #[true, true, true, true, true, true, true, true, true, false, false, false, false, false, false, false, false, false, false, false, false, false, false, false, false, false, false, false, false, false, false, false, false] rfl rfl (any_of HT_.out (by kernel_rfl)) (fun _ _ _ h => h) (Or.inl ⟨by rfl, ?_⟩) ?_ ?_
        rotate_left
        ·
         intro w'
         go_simp
         with_reducible rfl
        rotate_left
        ·
         simp only [Act.put, lS, l0_, l1_, i64_w, i32_w]
         rfl
        refine pure_ (i := 9) (N := some 27) (v := ?_) (a' := ?_) #[true, true, true, true, true, true, true, true, true, true, false, false, false, false, false, false, false, false, false, false, false, false, false, false, false, false, false, false, false, false, false, false, false] rfl rfl (any_of HT_.out (by kernel_rfl)) (fun _ _ _ h => h) (Or.inl ⟨by rfl, ?_⟩) ?_ ?_
        rotate_left
        ·
         intro w'
         go_simp
         with_reducible rfl
        rotate_left
        ·
         simp only [Act.put, lS, l0_, l1_, i64_w, i32_w]
         rfl
        refine pure_ (i := 10) (N := some 28) (v := ?_) (a' := ?_) #[true, true, true, true, true, true, true, true, true, true, true, false, false, false, false, false, false, false, false, false, false, false, false, false, false, false, false, false, false, false, false, false, false] rfl rfl (any_of HT_.out (by kernel_rfl)) (fun _ _ _ h => h) (Or.inl ⟨by rfl, ?_⟩) ?_ ?_
        rotate_left
        ·
         intro w'
         go_simp
         with_reducible rfl
        rotate_left
        ·
         simp only [Act.put, lS, l0_, l1_, i64_w, i32_w]
         rfl
        refine pure_ (i := 12) (N := some 30) (v := ?_) (a' := ?_) #[true, true, true, true, true, true, true, true, true, true, true, false, true, false, false, false, false, false, false, false, false, false, false, false, false, false, false, false, false, false, false, false, false] rfl rfl (any_of HT_.out (by kernel_rfl)) (fun _ _ _ h => h) (Or.inl ⟨by rfl, ?_⟩) ?_ ?_
        rotate_left
        ·
         intro w'
         go_simp
         with_reducible rfl
        rotate_left
        ·
         simp only [Act.put, lS, l0_, l1_, i64_w, i32_w]
         rfl
        refine take_ (i := 11) (N := some 29) (v := ?_) (a' := ?_) #[true, true, true, true, true, true, true, true, true, true, true, true, true, false, false, false, false, false, false, false, false, false, false, false, false, false, false, false, false, false, false, false, false] rfl rfl (take_ofW HT_.out HW_.out (by kernel_rfl)) (fun _ _ _ h => h) (Or.inl ⟨by rfl, ?_⟩) hHeld ?_ ?_
        rotate_left
        ·
         rintro w' ⟨s0, s1, s2, s3, s4, s5, s6, s7, s8, s9, s10, s11, s12, s13, s14, s15, s16, s17⟩
         go_simp
         with_reducible rfl
        rotate_left
        ·
         simp only [Act.put, lS, l0_, l1_, i64_w, i32_w]
         rfl
        refine pure_ (i := 13) (N := some 31) (v := ?_) (a' := ?_) #[true, true, true, true, true, true, true, true, true, true, true, true, true, true, false, false, false, false, false, false, false, false, false, false, false, false, false, false, false, false, false, false, false] rfl rfl (any_of HT_.out (by kernel_rfl)) (fun _ _ _ h => h) (Or.inl ⟨by rfl, ?_⟩) ?_ ?_
        rotate_left
        ·
         intro w'
         go_simp
         with_reducible rfl
        rotate_left
        ·
         simp only [Act.put, lS, l0_, l1_, i64_w, i32_w]
         rfl
        refine pure_ (i := 14) (N := some 32) (v := ?_) (a' := ?_) #[true, true, true, true, true, true, true, true, true, true, true, true, true, true, true, false, false, false, false, false, false, false, false, false, false, false, false, false, false, false, false, false, false] rfl rfl (any_of HT_.out (by kernel_rfl)) (fun _ _ _ h => h) (Or.inl ⟨by rfl, ?_⟩) ?_ ?_
        rotate_left
        ·
         intro w'
         go_simp
         with_reducible rfl
        rotate_left
        ·
         simp only [Act.put, lS, l0_, l1_, i64_w, i32_w]
         rfl
        refine pure_ (i := 15) (N := some 33) (v := ?_) (a' := ?_) #[true, true, true, true, true, true, true, true, true, true, true, true, true, true, true, true, false, false, false, false, false, false, false, false, false, false, false, false, false, false, false, false, false] rfl rfl (any_of HT_.out (by kernel_rfl)) (fun _ _ _ h => h) (Or.inl ⟨by rfl, ?_⟩) ?_ ?_
        rotate_left
        ·
         intro w'
         go_simp
         with_reducible rfl
        rotate_left
        ·
         simp only [Act.put, lS, l0_, l1_, i64_w, i32_w]
         rfl
        refine pure_ (i := 16) (N := some 34) (v := undef) (a' := ?_) #[true, true, true, true, true, true, true, true, true, true, true, true, true, true, true, true, true, false, false, false, false, false, false, false, false, false, false, false, false, false, false, false, false] rfl rfl (any_of HT_.out (by kernel_rfl)) (fun _ _ _ h => h) (Or.inr ⟨by rfl, rfl⟩) ?_ ?_
        rotate_left
        ·
         simp only [Act.put, lS, l0_, l1_, i64_w, i32_w]
         rfl
        refine pure_ (i := 17) (N := some 35) (v := undef) (a' := ?_) #[true, true, true, true, true, true, true, true, true, true, true, true, true, true, true, true, true, true, false, false, false, false, false, false, false, false, false, false, false, false, false, false, false] rfl rfl (any_of HT_.out (by kernel_rfl)) (fun _ _ _ h => h) (Or.inr ⟨by rfl, rfl⟩) ?_ ?_
        rotate_left
        ·
         simp only [Act.put, lS, l0_, l1_, i64_w, i32_w]
         rfl
        refine pure_ (i := 18) (N := some 36) (v := undef) (a' := ?_) #[true, true, true, true, true, true, true, true, true, true, true, true, true, true, true, true, true, true, true, false, false, false, false, false, false, false, false, false, false, false, false, false, false] rfl rfl (any_of HT_.out (by kernel_rfl)) (fun _ _ _ h => h) (Or.inr ⟨by rfl, rfl⟩) ?_ ?_
        rotate_left
        ·
         simp only [Act.put, lS, l0_, l1_, i64_w, i32_w]
         rfl
        refine pure_ (i := 19) (N := some 37) (v := undef) (a' := ?_) #[true, true, true, true, true, true, true, true, true, true, true, true, true, true, true, true, true, true, true, true, false, false, false, false, false, false, false, false, false, false, false, false, false] rfl rfl (any_of HT_.out (by kernel_rfl)) (fun _ _ _ h => h) (Or.inr ⟨by rfl, rfl⟩) ?_ ?_
        rotate_left
        ·
         simp only [Act.put, lS, l0_, l1_, i64_w, i32_w]
         rfl
        refine pure_ (i := 20) (N := some 38) (v := undef) (a' := ?_) #[true, true, true, true, true, true, true, true, true, true, true, true, true, true, true, true, true, true, true, true, true, false, false, false, false, false, false, false, false, false, false, false, false] rfl rfl (any_of HT_.out (by kernel_rfl)) (fun _ _ _ h => h) (Or.inr ⟨by rfl, rfl⟩) ?_ ?_
        rotate_left
        ·
         simp only [Act.put, lS, l0_, l1_, i64_w, i32_w]
         rfl
        refine pure_ (i := 21) (N := some 39) (v := undef) (a' := ?_) #[true, true, true, true, true, true, true, true, true, true, true, true, true, true, true, true, true, true, true, true, true, true, false, false, false, false, false, false, false, false, false, false, false] rfl rfl (any_of HT_.out (by kernel_rfl)) (fun _ _ _ h => h) (Or.inr ⟨by rfl, rfl⟩) ?_ ?_
        rotate_left
        ·
         simp only [Act.put, lS, l0_, l1_, i64_w, i32_w]
         rfl
        refine pure_ (i := 22) (N := some 40) (v := undef) (a' := ?_) #[true, true, true, true, true, true, true, true, true, true, true, true, true, true, true, true, true, true, true, true, true, true, true, false, false, false, false, false, false, false, false, false, false] rfl rfl (any_of HT_.out (by kernel_rfl)) (fun _ _ _ h => h) (Or.inr ⟨by rfl, rfl⟩) ?_ ?_
        rotate_left
        ·
         simp only [Act.put, lS, l0_, l1_, i64_w, i32_w]
         rfl
        refine pure_ (i := 23) (N := some 41) (v := undef) (a' := ?_) #[true, true, true, true, true, true, true, true, true, true, true, true, true, true, true, true, true, true, true, true, true, true, true, true, false, false, false, false, false, false, false, false, false] rfl rfl (any_of HT_.out (by kernel_rfl)) (fun _ _ _ h => h) (Or.inr ⟨by rfl, rfl⟩) ?_ ?_
        rotate_left
        ·
         simp only [Act.put, lS, l0_, l1_, i64_w, i32_w]
         rfl
        refine pure_ (i := 24) (N := some 42) (v := undef) (a' := ?_) #[true, true, true, true, true, true, true, true, true, true, true, true, true, true, true, true, true, true, true, true, true, true, true, true, true, false, false, false, false, false, false, false, false] rfl rfl (any_of HT_.out (by kernel_rfl)) (fun _ _ _ h => h) (Or.inr ⟨by rfl, rfl⟩) ?_ ?_
        rotate_left
        ·
         simp only [Act.put, lS, l0_, l1_, i64_w, i32_w]
         rfl
        refine pure_ (i := 25) (N := some 43) (v := undef) (a' := ?_) #[true, true, true, true, true, true, true, true, true, true, true, true, true, true, true, true, true, true, true, true, true, true, true, true, true, true, false, false, false, false, false, false, false] rfl rfl (any_of HT_.out (by kernel_rfl)) (fun _ _ _ h => h) (Or.inr ⟨by rfl, rfl⟩) ?_ ?_
        rotate_left
        ·
         simp only [Act.put, lS, l0_, l1_, i64_w, i32_w]
         rfl
        refine pure_ (i := 26) (N := some 44) (v := undef) (a' := ?_) #[true, true, true, true, true, true, true, true, true, true, true, true, true, true, true, true, true, true, true, true, true, true, true, true, true, true, true, false, false, false, false, false, false] rfl rfl (any_of HT_.out (by kernel_rfl)) (fun _ _ _ h => h) (Or.inr ⟨by rfl, rfl⟩) ?_ ?_
        rotate_left
        ·
         simp only [Act.put, lS, l0_, l1_, i64_w, i32_w]
         rfl
        refine pure_ (i := 27) (N := some 45) (v := undef) (a' := ?_) #[true, true, true, true, true, true, true, true, true, true, true, true, true, true, true, true, true, true, true, true, true, true, true, true, true, true, true, true, false, false, false, false, false] rfl rfl (any_of HT_.out (by kernel_rfl)) (fun _ _ _ h => h) (Or.inr ⟨by rfl, rfl⟩) ?_ ?_
        rotate_left
        ·
         simp only [Act.put, lS, l0_, l1_, i64_w, i32_w]
         rfl
        refine pure_ (i := 28) (N := some 46) (v := undef) (a' := ?_) #[true, true, true, true, true, true, true, true, true, true, true, true, true, true, true, true, true, true, true, true, true, true, true, true, true, true, true, true, true, false, false, false, false] rfl rfl (any_of HT_.out (by kernel_rfl)) (fun _ _ _ h => h) (Or.inr ⟨by rfl, rfl⟩) ?_ ?_
        rotate_left
        ·
         simp only [Act.put, lS, l0_, l1_, i64_w, i32_w]
         rfl
        refine pure_ (i := 29) (N := some 47) (v := undef) (a' := ?_) #[true, true, true, true, true, true, true, true, true, true, true, true, true, true, true, true, true, true, true, true, true, true, true, true, true, true, true, true, true, true, false, false, false] rfl rfl (any_of HT_.out (by kernel_rfl)) (fun _ _ _ h => h) (Or.inr ⟨by rfl, rfl⟩) ?_ ?_
        rotate_left
        ·
         simp only [Act.put, lS, l0_, l1_, i64_w, i32_w]
         rfl
        refine pure_ (i := 30) (N := some 48) (v := undef) (a' := ?_) #[true, true, true, true, true, true, true, true, true, true, true, true, true, true, true, true, true, true, true, true, true, true, true, true, true, true, true, true, true, true, true, false, false] rfl rfl (any_of HT_.out (by kernel_rfl)) (fun _ _ _ h => h) (Or.inr ⟨by rfl, rfl⟩) ?_ ?_
        rotate_left
        ·
         simp only [Act.put, lS, l0_, l1_, i64_w, i32_w]
         rfl
        refine pure_ (i := 31) (N := some 49) (v := undef) (a' := ?_) #[true, true, true, true, true, true, true, true, true, true, true, true, true, true, true, true, true, true, true, true, true, true, true, true, true, true, true, true, true, true, true, true, false] rfl rfl (any_of HT_.out (by kernel_rfl)) (fun _ _ _ h => h) (Or.inr ⟨by rfl, rfl⟩) ?_ ?_
        rotate_left
        ·
         simp only [Act.put, lS, l0_, l1_, i64_w, i32_w]
         rfl
        refine pure_ (i := 32) (N := some 50) (v := ?_) (a' := ?_) #[true, true, true, true, true, true, true, true, true, true, true, true, true, true, true, true, true, true, true, true, true, true, true, true, true, true, true, true, true, true, true, true, true] rfl rfl (any_of HT_.out (by kernel_rfl)) (fun _ _ _ h => h) (Or.inl ⟨by rfl, ?_⟩) ?_ ?_
        rotate_left
        ·
         intro w'
         go_simp
         with_reducible rfl
        rotate_left
        ·
         simp only [Act.put, lS, l0_, l1_, i64_w, i32_w]
         rfl
        refine done_ (done_of HT_.out (by kernel_rfl)) ?_
        try go_wp2
        go_ret
        exact ⟨a2_, (a1_ HB.out)⟩
      ·
       replace c8 := Bool.eq_false_iff.mpr c8
       subst c8
       have H1 : (some false) = some r := by rw [if_neg (show ¬ (false = true) by decide)] at H; exact H
       clear H
       have H := H1
       clear H1
       obtain rfl := Option.some.inj H
       try go_wp2
       have n0_ := Aside0.mk (below_drew1 HB.out)
       clear HB
       have HB := n0_
       clear n0_
       have p179 : 0 ≤ (x7_1 : Int) := of_decide_eq_true (by first | (with_reducible assumption) | assumption)
       have q179 : x7_1 < (l0.length : Int) := of_decide_eq_true (by first | (with_reducible assumption) | assumption)
       obtain ⟨ad179, A179_7, c179_7, e179, hx179_0, hx179_1, hx179_2, hx179_3, hx179_4, hx179_5, hx179_6, hx179_7, hx179_8, hl179_7, hi179_7⟩ := at_T43 HR0.out x7_1 p179 q179
       have hw179_8 := hx179_8
       have hw179_7 := hx179_7
       have hw179_6 := hx179_6
       have hw179_5 := hx179_5
       have hw179_4 := hx179_4
       have hw179_3 := hx179_3
       have hw179_2 := hx179_2
       have hw179_1 := hx179_1
       have hw179_0 := hx179_0
       cases e179
       replace hx179_0 := ce_ HB.out hx179_0
       replace hx179_1 := ce_ HB.out hx179_1
       replace hx179_2 := ce_ HB.out hx179_2
       replace hx179_3 := ce_ HB.out hx179_3
       replace hx179_4 := ce_ HB.out hx179_4
       replace hx179_5 := ce_ HB.out hx179_5
       replace hx179_6 := ce_ HB.out hx179_6
       replace hx179_7 := ce_ HB.out hx179_7
       replace hx179_8 := ce_ HB.out hx179_8
       have HR179_7 := Aside0.mk hi179_7
       have HC179_7 := Aside0.mk hl179_7
       clear hi179_7 hl179_7
       replace p179 := eq_true p179
       replace q179 := eq_true q179
       refine start_ (n := 33) (S := fun w' => w'.cell? (ad179.add ((x7_1).toNat * 9)) = some (.int .i64 ((rd_T43 l0 x7_1).f0)) ∧ w'.cell? ⟨(ad179.add ((x7_1).toNat * 9)).block, (ad179.add ((x7_1).toNat * 9)).off + 1, none⟩ = some (.int .i64 ((rd_T43 l0 x7_1).f1)) ∧ w'.cell? ⟨(ad179.add ((x7_1).toNat * 9)).block, (ad179.add ((x7_1).toNat * 9)).off + 2, none⟩ = some (.int .i64 ((rd_T43 l0 x7_1).f2)) ∧ w'.cell? ⟨(ad179.add ((x7_1).toNat * 9)).block, (ad179.add ((x7_1).toNat * 9)).off + 3, none⟩ = some (.int .i64 ((rd_T43 l0 x7_1).f3)) ∧ w'.cell? ⟨(ad179.add ((x7_1).toNat * 9)).block, (ad179.add ((x7_1).toNat * 9)).off + 4, none⟩ = some (.int .i64 ((rd_T43 l0 x7_1).f4)) ∧ w'.cell? ⟨(ad179.add ((x7_1).toNat * 9)).block, (ad179.add ((x7_1).toNat * 9)).off + 5, none⟩ = some (.int .i64 ((rd_T43 l0 x7_1).f5)) ∧ w'.cell? ⟨(ad179.add ((x7_1).toNat * 9)).block, (ad179.add ((x7_1).toNat * 9)).off + 6, none⟩ = some (.string ((rd_T43 l0 x7_1).f6)) ∧ w'.cell? ⟨(ad179.add ((x7_1).toNat * 9)).block, (ad179.add ((x7_1).toNat * 9)).off + 7, none⟩ = some (.slice A179_7 ((rd_T43 l0 x7_1).f7).length c179_7) ∧ w'.cell? ⟨(ad179.add ((x7_1).toNat * 9)).block, (ad179.add ((x7_1).toNat * 9)).off + 8, none⟩ = some (.int .i64 ((rd_T43 l0 x7_1).f8))) (ds := []) #[false, false, false, false, false, false, false, false, false, false, false, false, false, false, false, false, false, false, false, false, false, false, false, false, false, false, false, false, false, false, false, false, false] (by kernel_rfl) rfl rfl ⟨(ce_ HB.out hw179_0 :), (ce_ HB.out hw179_1 :), (ce_ HB.out hw179_2 :), (ce_ HB.out hw179_3 :), (ce_ HB.out hw179_4 :), (ce_ HB.out hw179_5 :), (ce_ HB.out hw179_6 :), (ce_ HB.out hw179_7 :), (ce_ HB.out hw179_8 :)⟩ (fun hHeld => ?_); refine with_tabW spec_l03Row.tab6 spec_l03Row.bits6 (fun HT_ HW_ => ?_)
       generalize wr.drew = w23 at HB HR179_7 hx179_0 hx179_1 hx179_2 hx179_3 hx179_4 hx179_5 hx179_6 hx179_7 hx179_8 hHeld ⊢
       refine pure_ (i := 0) (N := some 18) (v := ?_) (a' := ?_) #[true, false, false, false, false, false, false, false, false, false, false, false, false, false, false, false, false, false, false, false, false, false, false, false, false, false, false, false, false, false, false, false, false] rfl rfl (any_of HT_.out (by kernel_rfl)) (fun _ _ _ h => h) (Or.inl ⟨by rfl, ?_⟩) ?_ ?_
       rotate_left
       ·
        intro w'
        go_simp
        with_reducible rfl
       rotate_left
       ·
        simp only [Act.put, lS, l0_, l1_, i64_w, i32_w]
        rfl
       refine pure_ (i := 1) (N := some 19) (v := ?_) (a' := ?_) #[true, true, false, false, false, false, false, false, false, false, false, false, false, false, false, false, false, false, false, false, false, false, false, false, false, false, false, false, false, false, false, false, false] rfl rfl (any_of HT_.out (by kernel_rfl)) (fun _ _ _ h => h) (Or.inl ⟨by rfl, ?_⟩) ?_ ?_
       rotate_left
       ·
        intro w'
        go_simp
        with_reducible rfl
       rotate_left
       ·
        simp only [Act.put, lS, l0_, l1_, i64_w, i32_w]
        rfl
       refine pure_ (i := 2) (N := some 20) (v := ?_) (a' := ?_) #[true, true, true, false, false, false, false, false, false, false, false, false, false, false, false, false, false, false, false, false, false, false, false, false, false, false, false, false, false, false, false, false, false] rfl rfl (any_of HT_.out (by kernel_rfl)) (fun _ _ _ h => h) (Or.inl ⟨by rfl, ?_⟩) ?_ ?_
       rotate_left
       ·
        intro w'
        go_simp
        with_reducible rfl
       rotate_left
       ·
        simp only [Act.put, lS, l0_, l1_, i64_w, i32_w]
        rfl
       refine take_ (i := 3) (N := some 21) (v := ?_) (a' := ?_) #[true, true, true, true, false, false, false, false, false, false, false, false, false, false, false, false, false, false, false, false, false, false, false, false, false, false, false, false, false, false, false, false, false] rfl rfl (take_ofW HT_.out HW_.out (by kernel_rfl)) (fun _ _ _ h => h) (Or.inl ⟨by rfl, ?_⟩) hHeld ?_ ?_
       rotate_left
       ·
        rintro w' ⟨s0, s1, s2, s3, s4, s5, s6, s7, s8⟩
        go_simp
        with_reducible rfl
       rotate_left
       ·
        simp only [Act.put, lS, l0_, l1_, i64_w, i32_w]
        rfl
       refine one_ (i := 4) (N := some 22) #[true, true, true, true, true, false, false, false, false, false, false, false, false, false, false, false, false, false, false, false, false, false, false, false, false, false, false, false, false, false, false, false, false] rfl rfl (one_of HT_.out (by kernel_rfl)) (by decide) (fun K hK => ?_)
       refine goes_ Try.func36 (by kernel_rfl) rfl #[.agg #[.int .i64 ((rd_T43 l0 x7_1).f0), .int .i64 ((rd_T43 l0 x7_1).f1), .int .i64 ((rd_T43 l0 x7_1).f2), .int .i64 ((rd_T43 l0 x7_1).f3), .int .i64 ((rd_T43 l0 x7_1).f4), .int .i64 ((rd_T43 l0 x7_1).f5), .string ((rd_T43 l0 x7_1).f6), .slice A179_7 ((rd_T43 l0 x7_1).f7).length c179_7, .int .i64 ((rd_T43 l0 x7_1).f8)]] (by rfl) rfl rfl (by (try simp only [List.map_toArray, List.map_cons, List.map_nil]); first | done | rfl | (simp only [List.length_drop, List.length_take]; rfl)) ?_
       with_reducible refine (spec_EventRight.calls k1 ((rd_T43 l0 x7_1).f0) ((rd_T43 l0 x7_1).f1) ((rd_T43 l0 x7_1).f2) ((rd_T43 l0 x7_1).f3) ((rd_T43 l0 x7_1).f4) ((rd_T43 l0 x7_1).f5) ((rd_T43 l0 x7_1).f6) _ _ ((rd_T43 l0 x7_1).f7) ((rd_T43 l0 x7_1).f8) false _ ?side1 ?side2 A7.out).mono ?_
       (case side1 => repeat (first | exact (Kd.C_below HR179_7.out HB.out) | (with_reducible refine Kd.C_alloc ?_ _) | (with_reducible refine Kd.C_drewN ?_ _) | (with_reducible refine Kd.C_drew ?_)))
       (case side2 => exact HC179_7.out)
       rintro e w24 ⟨rfl, hb⟩
       refine ⟨_, rfl, ?_⟩
       have n0_ := Aside0.mk (below_step HB.out hb)
       clear HB
       have HB := n0_
       clear n0_
       (try clear hb)
       (try clear hb2)
       (try clear hk)
       (try clear hi)
       refine hK.out _ _ ⟨(ce_ HB.out hw179_0 :), (ce_ HB.out hw179_1 :), (ce_ HB.out hw179_2 :), (ce_ HB.out hw179_3 :), (ce_ HB.out hw179_4 :), (ce_ HB.out hw179_5 :), (ce_ HB.out hw179_6 :), (ce_ HB.out hw179_7 :), (ce_ HB.out hw179_8 :)⟩ (fun hHeld => ?_)
       clear hK K
       refine norm_ (a' := ?_) ?_ ?_
       rotate_left
       ·
        show Act.put _ (some 22) _ = _
        simp only [Act.put, lS, l0_, l1_, i64_w, i32_w]
        rfl
       refine pure_ (i := 5) (N := some 23) (v := ?_) (a' := ?_) #[true, true, true, true, true, true, false, false, false, false, false, false, false, false, false, false, false, false, false, false, false, false, false, false, false, false, false, false, false, false, false, false, false] rfl rfl (any_of HT_.out (by kernel_rfl)) (fun _ _ _ h => h) (Or.inl ⟨by rfl, ?_⟩) ?_ ?_
       rotate_left
       ·
        intro w'
        go_simp
        with_reducible rfl
       rotate_left
       ·
        simp only [Act.put, lS, l0_, l1_, i64_w, i32_w]
        rfl
       refine pure_ (i := 6) (N := some 24) (v := ?_) (a' := ?_) #[true, true, true, true, true, true, true, false, false, false, false, false, false, false, false, false, false, false, false, false, false, false, false, false, false, false, false, false, false, false, false, false, false] rfl rfl (any_of HT_.out (by kernel_rfl)) (fun _ _ _ h => h) (Or.inl ⟨by rfl, ?_⟩) ?_ ?_
       rotate_left
       ·
        intro w'
        go_simp
        with_reducible rfl
       rotate_left
       ·
        simp only [Act.put, lS, l0_, l1_, i64_w, i32_w]
        rfl
       refine pure_ (i := 7) (N := some 25) (v := undef) (a' := ?_) #[true, true, true, true, true, true, true, true, false, false, false, false, false, false, false, false, false, false, false, false, false, false, false, false, false, false, false, false, false, false, false, false, false] rfl rfl (any_of HT_.out (by kernel_rfl)) (fun _ _ _ h => h) (Or.inr ⟨by rfl, rfl⟩) ?_ ?_
       rotate_left
       ·
        simp only [Act.put, lS, l0_, l1_, i64_w, i32_w]
        rfl
       refine pure_ (i := 8) (N := some 26) (v := undef) (a' := ?_) #[true, true, true, true, true, true, true, true, true, false, false, false, false, false, false, false, false, false, false, false, false, false, false, false, false, false, false, false, false, false, false, false, false] rfl rfl (any_of HT_.out (by kernel_rfl)) (fun _ _ _ h => h) (Or.inr ⟨by rfl, rfl⟩) ?_ ?_
       rotate_left
       ·
        simp only [Act.put, lS, l0_, l1_, i64_w, i32_w]
        rfl
       refine pure_ (i := 9) (N := some 27) (v := undef) (a' := ?_) #[true, true, true, true, true, true, true, true, true, true, false, false, false, false, false, false, false, false, false, false, false, false, false, false, false, false, false, false, false, false, false, false, false] rfl rfl (any_of HT_.out (by kernel_rfl)) (fun _ _ _ h => h) (Or.inr ⟨by rfl, rfl⟩) ?_ ?_
       rotate_left
       ·
        simp only [Act.put, lS, l0_, l1_, i64_w, i32_w]
        rfl
       refine pure_ (i := 10) (N := some 28) (v := undef) (a' := ?_) #[true, true, true, true, true, true, true, true, true, true, true, false, false, false, false, false, false, false, false, false, false, false, false, false, false, false, false, false, false, false, false, false, false] rfl rfl (any_of HT_.out (by kernel_rfl)) (fun _ _ _ h => h) (Or.inr ⟨by rfl, rfl⟩) ?_ ?_
       rotate_left
       ·
        simp only [Act.put, lS, l0_, l1_, i64_w, i32_w]
        rfl
       refine pure_ (i := 11) (N := some 29) (v := undef) (a' := ?_) #[true, true, true, true, true, true, true, true, true, true, true, true, false, false, false, false, false, false, false, false, false, false, false, false, false, false, false, false, false, false, false, false, false] rfl rfl (any_of HT_.out (by kernel_rfl)) (fun _ _ _ h => h) (Or.inr ⟨by rfl, rfl⟩) ?_ ?_
       rotate_left
       ·
        simp only [Act.put, lS, l0_, l1_, i64_w, i32_w]
        rfl
       refine pure_ (i := 12) (N := some 30) (v := undef) (a' := ?_) #[true, true, true, true, true, true, true, true, true, true, true, true, true, false, false, false, false, false, false, false, false, false, false, false, false, false, false, false, false, false, false, false, false] rfl rfl (any_of HT_.out (by kernel_rfl)) (fun _ _ _ h => h) (Or.inr ⟨by rfl, rfl⟩) ?_ ?_
       rotate_left
       ·
        simp only [Act.put, lS, l0_, l1_, i64_w, i32_w]
        rfl
       refine pure_ (i := 13) (N := some 31) (v := undef) (a' := ?_) #[true, true, true, true, true, true, true, true, true, true, true, true, true, true, false, false, false, false, false, false, false, false, false, false, false, false, false, false, false, false, false, false, false] rfl rfl (any_of HT_.out (by kernel_rfl)) (fun _ _ _ h => h) (Or.inr ⟨by rfl, rfl⟩) ?_ ?_
       rotate_left
       ·
        simp only [Act.put, lS, l0_, l1_, i64_w, i32_w]
        rfl
       refine pure_ (i := 14) (N := some 32) (v := ?_) (a' := ?_) #[true, true, true, true, true, true, true, true, true, true, true, true, true, true, true, false, false, false, false, false, false, false, false, false, false, false, false, false, false, false, false, false, false] rfl rfl (any_of HT_.out (by kernel_rfl)) (fun _ _ _ h => h) (Or.inl ⟨by rfl, ?_⟩) ?_ ?_
       rotate_left
       ·
        intro w'
        go_simp
        with_reducible rfl
       rotate_left
       ·
        simp only [Act.put, lS, l0_, l1_, i64_w, i32_w]
        rfl
       refine pure_ (i := 15) (N := some 33) (v := ?_) (a' := ?_) #[true, true, true, true, true, true, true, true, true, true, true, true, true, true, true, true, false, false, false, false, false, false, false, false, false, false, false, false, false, false, false, false, false] rfl rfl (any_of HT_.out (by kernel_rfl)) (fun _ _ _ h => h) (Or.inl ⟨by rfl, ?_⟩) ?_ ?_
       rotate_left
       ·
        intro w'
        go_simp
        with_reducible rfl
       rotate_left
       ·
        simp only [Act.put, lS, l0_, l1_, i64_w, i32_w]
        rfl
       refine pure_ (i := 16) (N := some 34) (v := undef) (a' := ?_) #[true, true, true, true, true, true, true, true, true, true, true, true, true, true, true, true, true, false, false, false, false, false, false, false, false, false, false, false, false, false, false, false, false] rfl rfl (any_of HT_.out (by kernel_rfl)) (fun _ _ _ h => h) (Or.inr ⟨by rfl, rfl⟩) ?_ ?_
       rotate_left
       ·
        simp only [Act.put, lS, l0_, l1_, i64_w, i32_w]
        rfl
       refine pure_ (i := 17) (N := some 35) (v := undef) (a' := ?_) #[true, true, true, true, true, true, true, true, true, true, true, true, true, true, true, true, true, true, false, false, false, false, false, false, false, false, false, false, false, false, false, false, false] rfl rfl (any_of HT_.out (by kernel_rfl)) (fun _ _ _ h => h) (Or.inr ⟨by rfl, rfl⟩) ?_ ?_
       rotate_left
       ·
        simp only [Act.put, lS, l0_, l1_, i64_w, i32_w]
        rfl
       refine pure_ (i := 18) (N := some 36) (v := undef) (a' := ?_) #[true, true, true, true, true, true, true, true, true, true, true, true, true, true, true, true, true, true, true, false, false, false, false, false, false, false, false, false, false, false, false, false, false] rfl rfl (any_of HT_.out (by kernel_rfl)) (fun _ _ _ h => h) (Or.inr ⟨by rfl, rfl⟩) ?_ ?_
       rotate_left
       ·
        simp only [Act.put, lS, l0_, l1_, i64_w, i32_w]
        rfl
       refine pure_ (i := 19) (N := some 37) (v := undef) (a' := ?_) #[true, true, true, true, true, true, true, true, true, true, true, true, true, true, true, true, true, true, true, true, false, false, false, false, false, false, false, false, false, false, false, false, false] rfl rfl (any_of HT_.out (by kernel_rfl)) (fun _ _ _ h => h) (Or.inr ⟨by rfl, rfl⟩) ?_ ?_
       rotate_left
       ·
        simp only [Act.put, lS, l0_, l1_, i64_w, i32_w]
        rfl
       refine pure_ (i := 20) (N := some 38) (v := undef) (a' := ?_) #[true, true, true, true, true, true, true, true, true, true, true, true, true, true, true, true, true, true, true, true, true, false, false, false, false, false, false, false, false, false, false, false, false] rfl rfl (any_of HT_.out (by kernel_rfl)) (fun _ _ _ h => h) (Or.inr ⟨by rfl, rfl⟩) ?_ ?_
       rotate_left
       ·
        simp only [Act.put, lS, l0_, l1_, i64_w, i32_w]
        rfl
       refine pure_ (i := 21) (N := some 39) (v := undef) (a' := ?_) #[true, true, true, true, true, true, true, true, true, true, true, true, true, true, true, true, true, true, true, true, true, true, false, false, false, false, false, false, false, false, false, false, false] rfl rfl (any_of HT_.out (by kernel_rfl)) (fun _ _ _ h => h) (Or.inr ⟨by rfl, rfl⟩) ?_ ?_
       rotate_left
       ·
        simp only [Act.put, lS, l0_, l1_, i64_w, i32_w]
        rfl
       refine pure_ (i := 22) (N := some 40) (v := undef) (a' := ?_) #[true, true, true, true, true, true, true, true, true, true, true, true, true, true, true, true, true, true, true, true, true, true, true, false, false, false, false, false, false, false, false, false, false] rfl rfl (any_of HT_.out (by kernel_rfl)) (fun _ _ _ h => h) (Or.inr ⟨by rfl, rfl⟩) ?_ ?_
       rotate_left
       ·
        simp only [Act.put, lS, l0_, l1_, i64_w, i32_w]
        rfl
       refine pure_ (i := 23) (N := some 41) (v := undef) (a' := ?_) #[true, true, true, true, true, true, true, true, true, true, true, true, true, true, true, true, true, true, true, true, true, true, true, true, false, false, false, false, false, false, false, false, false] rfl rfl (any_of HT_.out (by kernel_rfl)) (fun _ _ _ h => h) (Or.inr ⟨by rfl, rfl⟩) ?_ ?_
       rotate_left
       ·
        simp only [Act.put, lS, l0_, l1_, i64_w, i32_w]
        rfl
       refine pure_ (i := 24) (N := some 42) (v := undef) (a' := ?_) #[true, true, true, true, true, true, true, true, true, true, true, true, true, true, true, true, true, true, true, true, true, true, true, true, true, false, false, false, false, false, false, false, false] rfl rfl (any_of HT_.out (by kernel_rfl)) (fun _ _ _ h => h) (Or.inr ⟨by rfl, rfl⟩) ?_ ?_
       rotate_left
       ·
        simp only [Act.put, lS, l0_, l1_, i64_w, i32_w]
        rfl
       refine pure_ (i := 25) (N := some 43) (v := undef) (a' := ?_) #[true, true, true, true, true, true, true, true, true, true, true, true, true, true, true, true, true, true, true, true, true, true, true, true, true, true, false, false, false, false, false, false, false] rfl rfl (any_of HT_.out (by kernel_rfl)) (fun _ _ _ h => h) (Or.inr ⟨by rfl, rfl⟩) ?_ ?_
       rotate_left
       ·
        simp only [Act.put, lS, l0_, l1_, i64_w, i32_w]
        rfl
       refine pure_ (i := 26) (N := some 44) (v := undef) (a' := ?_) #[true, true, true, true, true, true, true, true, true, true, true, true, true, true, true, true, true, true, true, true, true, true, true, true, true, true, true, false, false, false, false, false, false] rfl rfl (any_of HT_.out (by kernel_rfl)) (fun _ _ _ h => h) (Or.inr ⟨by rfl, rfl⟩) ?_ ?_
       rotate_left
       ·
        simp only [Act.put, lS, l0_, l1_, i64_w, i32_w]
        rfl
       refine pure_ (i := 27) (N := some 45) (v := undef) (a' := ?_) #[true, true, true, true, true, true, true, true, true, true, true, true, true, true, true, true, true, true, true, true, true, true, true, true, true, true, true, true, false, false, false, false, false] rfl rfl (any_of HT_.out (by kernel_rfl)) (fun _ _ _ h => h) (Or.inr ⟨by rfl, rfl⟩) ?_ ?_
       rotate_left
       ·
        simp only [Act.put, lS, l0_, l1_, i64_w, i32_w]
        rfl
       refine pure_ (i := 28) (N := some 46) (v := undef) (a' := ?_) #[true, true, true, true, true, true, true, true, true, true, true, true, true, true, true, true, true, true, true, true, true, true, true, true, true, true, true, true, true, false, false, false, false] rfl rfl (any_of HT_.out (by kernel_rfl)) (fun _ _ _ h => h) (Or.inr ⟨by rfl, rfl⟩) ?_ ?_
       rotate_left
       ·
        simp only [Act.put, lS, l0_, l1_, i64_w, i32_w]
        rfl
       refine pure_ (i := 29) (N := some 47) (v := undef) (a' := ?_) #[true, true, true, true, true, true, true, true, true, true, true, true, true, true, true, true, true, true, true, true, true, true, true, true, true, true, true, true, true, true, false, false, false] rfl rfl (any_of HT_.out (by kernel_rfl)) (fun _ _ _ h => h) (Or.inr ⟨by rfl, rfl⟩) ?_ ?_
       rotate_left
       ·
        simp only [Act.put, lS, l0_, l1_, i64_w, i32_w]
        rfl
       refine pure_ (i := 30) (N := some 48) (v := undef) (a' := ?_) #[true, true, true, true, true, true, true, true, true, true, true, true, true, true, true, true, true, true, true, true, true, true, true, true, true, true, true, true, true, true, true, false, false] rfl rfl (any_of HT_.out (by kernel_rfl)) (fun _ _ _ h => h) (Or.inr ⟨by rfl, rfl⟩) ?_ ?_
       rotate_left
       ·
        simp only [Act.put, lS, l0_, l1_, i64_w, i32_w]
        rfl
       refine pure_ (i := 31) (N := some 49) (v := undef) (a' := ?_) #[true, true, true, true, true, true, true, true, true, true, true, true, true, true, true, true, true, true, true, true, true, true, true, true, true, true, true, true, true, true, true, true, false] rfl rfl (any_of HT_.out (by kernel_rfl)) (fun _ _ _ h => h) (Or.inr ⟨by rfl, rfl⟩) ?_ ?_
       rotate_left
       ·
        simp only [Act.put, lS, l0_, l1_, i64_w, i32_w]
        rfl
       refine pure_ (i := 32) (N := some 50) (v := ?_) (a' := ?_) #[true, true, true, true, true, true, true, true, true, true, true, true, true, true, true, true, true, true, true, true, true, true, true, true, true, true, true, true, true, true, true, true, true] rfl rfl (any_of HT_.out (by kernel_rfl)) (fun _ _ _ h => h) (Or.inl ⟨by rfl, ?_⟩) ?_ ?_
       rotate_left
       ·
        intro w'
        go_simp
        with_reducible rfl
       rotate_left
       ·
        simp only [Act.put, lS, l0_, l1_, i64_w, i32_w]
        rfl
       refine done_ (done_of HT_.out (by kernel_rfl)) ?_
       try go_wp2
       go_ret
       exact ⟨a2_, (a1_ HB.out)⟩
     ·
      rw [if_neg c6] at H
      exact absurd H (by simp)
    ·
     rw [if_neg c5] at H
     have c5b0 : decide (x7_1 < (l0.length : Int)) = false := decide_eq_false c5
     clear c5
     obtain rfl := Option.some.inj H
     go_wp2
     go_ret
     exact ⟨a2_, (a1_ HB.out)⟩
end Go.Proofs.Ytkhidbahbcfkbaa.Print
