-- Printed by wip/myprint.py over the kit's print, in this session's own call.
import Derived.Test.YtpkeddplfnannaaPrint0
import Derived.Test.YtpkeddplfnannaaPrint13
import Derived.Test.YtpkeddplfnannaaPrint14
import Derived.Test.YtpkeddplfnannaaPrint16
namespace Go.Proofs.Ytpkeddplfnannaa.Print
open Go.RowKit Go.Proofs.YtpkeddplfnannaaW.PrintWords Go.Proofs.YtpkeddplfnannaaW.PrintLast Go.Proofs.YtpkeddplfnannaaW.PrintMore
attribute [local go_sem] max2_int min2_int max_two min_two max_three min_three max_four min_four   -- for this text's walks alone
set_option linter.unusedVariables false
set_option linter.unusedSimpArgs false

/-! ### impl_StateRight: function 53 -/
def impl_StateRight.f (k : Nat) (l0 : List (S46)) : Option (Bool) := (impl_entriesRight.f k l0 1).bind fun t332 => (some t332)
theorem impl_StateRight.mono : ∀ a0 k, LeO (impl_StateRight.f k a0) (impl_StateRight.f (k + 1) a0) := by
  intro a0 k
  unfold impl_StateRight.f
  repeat' first | (with_reducible exact impl_entriesRight.mono _ _ _) | (with_reducible exact LeO.refl _) | (with_reducible exact LeO.none _) | (with_reducible refine LeO.ite ?_ ?_) | (with_reducible refine LeO.bind ?_ (fun _ => ?_)) | exact impl_entriesRight.mono _ _ _ | exact LeO.none _ | refine LeO.ite ?_ ?_ | refine LeO.bind ?_ (fun _ => ?_)
set_option maxHeartbeats 8000000 in
set_option maxRecDepth 100000 in
theorem impl_StateRight.calls (k : Nat) (A0 : Option Addr) (c0 : Nat) (l0 : List (S46)) (r : Bool) (w : World) (hr0 : Kd.C k46 w A0 l0.length l0) (hc0 : l0.length ≤ c0) (h : impl_StateRight.f k l0 = some r) :
    Calls Try.prog 53 #[.slice A0 l0.length c0] w fun e w' => e = .returned (.bool r) ∧ Below w.heap.size w w' := by
 have HR0 := Aside0.mk hr0; have HC0 := Aside0.mk hc0; clear hr0 hc0; have HB := Aside0.mk (Below.refl w.heap.size w); have H : ((impl_entriesRight.f k l0 1).bind fun t332 => (some t332)) = some r := h; clear h; replace H := Option.bind_eq_some_iff.mp H; obtain ⟨t332, A20, H⟩ := H; replace H : (some t332) = some r := H; have A2 := Aside0.mk A20; clear A20; obtain rfl := Option.some.inj H; go_enter Try.func53, Try.ntmps53; go_wp2_with (first | ((with_reducible refine gate_callee (f := 69) rfl ?_); refine gl_ (some 4) Try.func69 #[.slice A0 l0.length c0, .int .i64 1] ?_; (with_reducible refine (impl_entriesRight.calls k _ _ l0 1 t332 _ ?side1 ?side2 A2.out).mono ?_); (case side1 => repeat (first | exact HR0.out | (with_reducible refine Kd.C_alloc ?_ _) | (with_reducible refine Kd.C_drewN ?_ _) | (with_reducible refine Kd.C_drew ?_))); (case side2 => exact HC0.out); rintro e w3 ⟨rfl, hb⟩; refine ⟨_, rfl, ?_⟩; have n0_ := Aside0.mk (below_step HB.out hb); clear HB; have HB := n0_; clear n0_; (try clear hb); (try clear hb2); (try clear hk); (try clear hi)))
 go_ret
 exact ⟨a2_, (a1_ HB.out)⟩

/-! ### impl_Entry_70: function 70 -/
def impl_Entry_70.r (p : S46 → Bool) (l : List S46) : Int := if l.any p = true then (l.findIdx p : Int) else -1
set_option maxHeartbeats 4000000 in
set_option maxRecDepth 100000 in
theorem impl_Entry_70.callsF (g : Nat) (lb : Array Value) (p : S46 → Bool) (A : Option Addr) (c : Nat) (l : List S46) (w : World)
    (eg : ∀ args w, (callFunc g args).run Try.prog w = .ok (.enter g args) w)
    (hr : Kd.C k46 w A l.length l)
    (hp : ∀ (W : World) (i : Nat) (x : S46), l[i]? = some x → Below w.heap.size w W → Calls Try.prog g (#[.agg #[.int .i64 x.f0, .int .i64 x.f1, .int .i64 x.f2]] ++ lb) W fun e w' => e = .returned (.bool (p x)) ∧ Below w.heap.size w w') :
    Calls Try.prog 70 #[.slice A l.length c, .func (.func g) #[] lb] w fun e w' => e = .returned (.int .i64 (impl_Entry_70.r p l)) ∧ Below w.heap.size w w' := by
  have HR := Aside0.mk hr; have HP := Aside0.mk hp; have hlen : l.length ≤ 9223372036854775807 := hr.2.1; clear hr hp; go_enter Try.func70, Try.ntmps70; go_wp2
  go_loopg [5, 8] l.length (fun gg _ s8 wr => ∃ kk : Nat, kk ≤ l.length ∧ l.length - kk ≤ gg ∧ s8 = .int .i64 kk ∧ Aside0 (Below w.heap.size w wr) ∧ Aside0 (∀ j x, l[j]? = some x → j < kk → p x = false))
  case atStart => exact ⟨0, Nat.zero_le _, by omega, rfl, ⟨Below.refl _ w⟩, ⟨fun j x _ hj => absurd hj (Nat.not_lt_zero _)⟩⟩
  case round =>
    obtain ⟨kk, hkk, hg, rfl, BW, AA⟩ := hrel; by_cases hlt : kk < l.length
    · have hltz : (kk : Int) < (l.length : Int) := by omega
      have hge : (0 : Int) ≤ (kk : Int) := by omega
      obtain ⟨ad, rfl, hx, hx1, hx2⟩ := at_T46 HR.out (kk : Int) hge hltz; have hx := (BW.out.cell (World.block_lt_of_cell? _ _ hx)).trans hx; have hx1 := (BW.out.cell (World.block_lt_of_cell? _ _ hx1)).trans hx1; have hx2 := (BW.out.cell (World.block_lt_of_cell? _ _ hx2)).trans hx2
      have hget : l[kk]? = some (rd_T46 l (kk : Int)) := by
        unfold rd_T46; rw [Int.toNat_natCast, List.getD_eq_getElem?_getD, List.getElem?_eq_getElem hlt]; rfl
      have hcall := HP.out wr kk _ hget BW.out; have G := Aside0.mk hget; clear hget; generalize rd_T46 l (kk : Int) = y at hx hx1 hx2 hcall G; rw [Int.toNat_natCast] at hx hx1 hx2
      cases hq : p y with
      | true =>
        rw [hq] at hcall; have HQ := Aside0.mk hq; clear hq; go_wp2_with (go_at_fn g; refine hcall.mono ?_; rintro e w' ⟨rfl, hb'⟩)
        go_ret
        refine ⟨?_, hb'⟩; have h1 : l.any p = true := List.any_eq_true.2 ⟨y, List.mem_of_getElem? G.out, HQ.out⟩
        have h2 : l.findIdx p = kk := by
          have e1 : l.findIdx p ≤ kk := by
            rw [← Nat.not_lt]; intro hh; have := List.not_of_lt_findIdx hh; have e2 := List.getElem?_eq_some_iff.1 G.out; rw [e2.2, HQ.out] at this; simp at this
          have e3 : ¬ l.findIdx p < kk := by
            intro hh; have hlt2 : l.findIdx p < l.length := by omega
            have h4 := AA.out _ _ (List.getElem?_eq_getElem hlt2) hh; have h5 := List.findIdx_getElem (w := hlt2); rw [h4] at h5; simp at h5
          omega
        have h3 : impl_Entry_70.r p l = (kk : Int) := by unfold impl_Entry_70.r; rw [if_pos h1, h2]
        rw [h3]; rfl
      | false =>
        rw [hq] at hcall; have HQ := Aside0.mk hq; clear hq; go_wp2_with (go_at_fn g; refine hcall.mono ?_; rintro e w' ⟨rfl, hb'⟩)
        go_roundg (l.length - (kk + 1))
        case measure => omega
        case rel =>
          refine ⟨kk + 1, by omega, by omega, by go_num, ⟨hb'⟩, ⟨fun j x hj hjk => ?_⟩⟩; by_cases e : j = kk
          · subst e
            rw [G.out] at hj; cases hj; exact HQ.out
          · exact AA.out j x hj (by omega)
    · have hltz : ¬ (kk : Int) < (l.length : Int) := by omega
      have hkl : kk = l.length := by omega
      subst hkl; go_wp2
      go_ret
      refine ⟨?_, BW.out⟩
      have h1 : ¬ l.any p = true := by
        intro h; obtain ⟨x, hx, hpx⟩ := List.any_eq_true.1 h; obtain ⟨j, hj, rfl⟩ := List.getElem_of_mem hx; have := AA.out j _ (List.getElem?_eq_getElem hj) hj; rw [this] at hpx; cases hpx
      have h3 : impl_Entry_70.r p l = -1 := by unfold impl_Entry_70.r; rw [if_neg h1]
      rw [h3]; rfl

/-! ### impl_Entry_54: function 54 -/
set_option maxHeartbeats 4000000 in
set_option maxRecDepth 100000 in
theorem impl_Entry_54.callsF (g : Nat) (lb : Array Value) (p : S46 → Bool) (A : Option Addr) (c : Nat) (l : List S46) (w : World)
    (eg : ∀ args w, (callFunc g args).run Try.prog w = .ok (.enter g args) w)
    (hr : Kd.C k46 w A l.length l)
    (hp : ∀ (W : World) (i : Nat) (x : S46), l[i]? = some x → Below w.heap.size w W → Calls Try.prog g (#[.agg #[.int .i64 x.f0, .int .i64 x.f1, .int .i64 x.f2]] ++ lb) W fun e w' => e = .returned (.bool (p x)) ∧ Below w.heap.size w w') :
    Calls Try.prog 54 #[.slice A l.length c, .func (.func g) #[] lb] w fun e w' => e = .returned (.bool (l.any p)) ∧ Below w.heap.size w w' := by
  have HI := Aside0.mk (impl_Entry_70.callsF g lb p A c l w eg hr hp); clear hr hp eg; go_enter Try.func54, Try.ntmps54; go_wp2_with (go_at_call 70; refine HI.out.mono ?_; rintro e w' ⟨rfl, hb'⟩)
  go_ret
  refine ⟨?_, hb'⟩
  have h3 : decide (0 ≤ impl_Entry_70.r p l) = l.any p := by
    unfold impl_Entry_70.r
    by_cases h : l.any p = true
    · rw [if_pos h, h]; exact decide_eq_true (Int.natCast_nonneg _)
    · rw [if_neg h, Bool.eq_false_iff.2 h]; rfl
  rw [← h3]; rfl

/-! ### impl_Graph_at: function 56 -/
def impl_Graph_at.f (k : Nat) (a0_0 : Int) (l0_1 : List (S61)) (l0_2 : List (S61)) (a1 : Int) : Option (Int × Int × Int × Int × Int × Int × ByteArray × List Int × Int × Bool) := (impl_find.f k l0_1 a1).bind fun bt335 => (if bt335.2 = true then (if 0 ≤ bt335.1 then (if bt335.1 < (l0_1.length : Int) then (some ((rd_T61 l0_1 bt335.1).f0, (rd_T61 l0_1 bt335.1).f1, (rd_T61 l0_1 bt335.1).f2, (rd_T61 l0_1 bt335.1).f3, (rd_T61 l0_1 bt335.1).f4, (rd_T61 l0_1 bt335.1).f5, (rd_T61 l0_1 bt335.1).f6, (rd_T61 l0_1 bt335.1).f7, (rd_T61 l0_1 bt335.1).f8, true)) else (none)) else (none)) else (some (0, 0, 0, 0, 0, 0, (⟨#[]⟩ : ByteArray), ([] : List Int), 0, false)))
theorem impl_Graph_at.mono : ∀ a0 a1 a2 a3 k, LeO (impl_Graph_at.f k a0 a1 a2 a3) (impl_Graph_at.f (k + 1) a0 a1 a2 a3) := by
  intro a0 a1 a2 a3 k
  unfold impl_Graph_at.f
  repeat' first | (with_reducible exact impl_find.mono _ _ _) | (with_reducible exact LeO.refl _) | (with_reducible exact LeO.none _) | (with_reducible refine LeO.ite ?_ ?_) | (with_reducible refine LeO.bind ?_ (fun _ => ?_)) | exact impl_find.mono _ _ _ | exact LeO.none _ | refine LeO.ite ?_ ?_ | refine LeO.bind ?_ (fun _ => ?_)
set_option maxHeartbeats 8000000 in
set_option maxRecDepth 100000 in
theorem impl_Graph_at.calls (k : Nat) (a0_0 : Int) (P0_1_ : Nat → Prop) (A0_1 : Option Addr) (c0_1 : Nat) (l0_1 : List (S61)) (A0_2 : Option Addr) (c0_2 : Nat) (l0_2 : List (S61)) (a1 : Int) (r1 : Int) (r2 : Int) (r3 : Int) (r4 : Int) (r5 : Int) (r6 : Int) (r7 : ByteArray) (r8 : List Int) (r9 : Int) (r10 : Bool) (w : World) (hs0_1 : Kd.V k61 61 w w.heap.size (fun k_ => P0_1_ k_) (.slice A0_1 l0_1.length c0_1) l0_1) (hr0_2 : Kd.C k61 w A0_2 l0_2.length l0_2) (hc0_2 : l0_2.length ≤ c0_2) (h : impl_Graph_at.f k a0_0 l0_1 l0_2 a1 = some (r1, r2, r3, r4, r5, r6, r7, r8, r9, r10)) :
    Calls Try.prog 56 #[.agg #[.int .i64 a0_0, .slice A0_1 l0_1.length c0_1, .slice A0_2 l0_2.length c0_2], .int .i64 a1] w fun e w' => ∃ v7_ : Value, e = .returned (.tuple #[.agg #[.int .i64 r1, .int .i64 r2, .int .i64 r3, .int .i64 r4, .int .i64 r5, .int .i64 r6, .string r7, v7_, .int .i64 r9], .bool r10]) ∧ Kd.V (Kd.int .i64) 2 w' w.heap.size (fun k_ => (P0_1_ k_ ∨ w.heap.size ≤ k_)) v7_ r8 ∧ Below w.heap.size w w' := by
 have hu31 := Try.underlying31; have hu61 := Try.underlying61; have HO0_1 := Aside0.mk (show Kd.V k61 61 w w.heap.size (fun k_ => (P0_1_ k_ ∨ w.heap.size ≤ k_)) (.slice A0_1 l0_1.length c0_1) l0_1 from Kd.V_mono hs0_1 (fun k_ hk => .inl hk)); have HR0_2 := Aside0.mk hr0_2; have HC0_2 := Aside0.mk hc0_2; clear hr0_2 hc0_2; have HB := Aside0.mk (Below.refl w.heap.size w); have H : ((impl_find.f k l0_1 a1).bind fun bt335 => (if bt335.2 = true then (if 0 ≤ bt335.1 then (if bt335.1 < (l0_1.length : Int) then (some ((rd_T61 l0_1 bt335.1).f0, (rd_T61 l0_1 bt335.1).f1, (rd_T61 l0_1 bt335.1).f2, (rd_T61 l0_1 bt335.1).f3, (rd_T61 l0_1 bt335.1).f4, (rd_T61 l0_1 bt335.1).f5, (rd_T61 l0_1 bt335.1).f6, (rd_T61 l0_1 bt335.1).f7, (rd_T61 l0_1 bt335.1).f8, true)) else (none)) else (none)) else (some (0, 0, 0, 0, 0, 0, (⟨#[]⟩ : ByteArray), ([] : List Int), 0, false)))) = some (r1, r2, r3, r4, r5, r6, r7, r8, r9, r10) := h; clear h; replace H := Option.bind_eq_some_iff.mp H; obtain ⟨⟨t335, t336⟩, A30, H⟩ := H; replace H : (if t336 = true then (if 0 ≤ t335 then (if t335 < (l0_1.length : Int) then (some ((rd_T61 l0_1 t335).f0, (rd_T61 l0_1 t335).f1, (rd_T61 l0_1 t335).f2, (rd_T61 l0_1 t335).f3, (rd_T61 l0_1 t335).f4, (rd_T61 l0_1 t335).f5, (rd_T61 l0_1 t335).f6, (rd_T61 l0_1 t335).f7, (rd_T61 l0_1 t335).f8, true)) else (none)) else (none)) else (some (0, 0, 0, 0, 0, 0, (⟨#[]⟩ : ByteArray), ([] : List Int), 0, false))) = some (r1, r2, r3, r4, r5, r6, r7, r8, r9, r10) := H; have A3 := Aside0.mk A30
 clear A30; by_cases c4 : t336 = true
 ·
  subst c4; have H1 : (if 0 ≤ t335 then (if t335 < (l0_1.length : Int) then (some ((rd_T61 l0_1 t335).f0, (rd_T61 l0_1 t335).f1, (rd_T61 l0_1 t335).f2, (rd_T61 l0_1 t335).f3, (rd_T61 l0_1 t335).f4, (rd_T61 l0_1 t335).f5, (rd_T61 l0_1 t335).f6, (rd_T61 l0_1 t335).f7, (rd_T61 l0_1 t335).f8, true)) else (none)) else (none)) = some (r1, r2, r3, r4, r5, r6, r7, r8, r9, r10) := by rw [if_pos rfl] at H; exact H
  clear H; have H := H1; clear H1; by_cases c5 : 0 ≤ t335
  ·
   rw [if_pos c5] at H; have c5b0 : decide (0 ≤ t335) = true := decide_eq_true c5; clear c5; by_cases c6 : t335 < (l0_1.length : Int)
   ·
    rw [if_pos c6] at H; have c6b0 : decide (t335 < (l0_1.length : Int)) = true := decide_eq_true c6; clear c6; simp only [Option.some.injEq, Prod.mk.injEq] at H; obtain ⟨rfl, rfl, rfl, rfl, rfl, rfl, rfl, rfl, rfl, rfl⟩ := H; go_enter Try.func56, Try.ntmps56; go_wp2_with (first | ((with_reducible refine gate_dst (N := 2) rfl ?_); refine be_ 2 #[.int .i64 a0_0, .slice A0_1 l0_1.length c0_1, .slice A0_2 l0_2.length c0_2] 31 ?_; intro gb333 hg w7 hbox hb; have n0_ := Aside0.mk (Kd.V_below (Kd.V_elderB (by (with_reducible repeat (first | apply Kd.V_alloc | apply Kd.V_drewN | apply Kd.V_drew)); exact HO0_1.out) gb333 (Nat.le_of_eq hg.symm)) hb); have n1_ := Aside0.mk (below_step HB.out hb); have n2_ := Aside0.mk (hbox); have n3_ := Aside0.mk ((by rw [hg]; exact (below_size HB.out) : w.heap.size ≤ gb333)); have n4_ := n3_; clear HO0_1; clear HB; have HO0_1 := n0_; have HB := n1_; have BK333 := n2_; have GW333 := n3_; have GE333 := n4_; clear n0_ n1_ n2_ n3_ n4_; clear hb hbox hg) | ((with_reducible refine gate_dst (N := 4) rfl ?_); refine be_ 4 #[.int .i64 0, .int .i64 0, .int .i64 0, .int .i64 0, .int .i64 0, .int .i64 0, .string (⟨#[]⟩ : ByteArray), .slice none 0 0, .int .i64 0] 61 ?_; intro gb334 hg w8 hbox hb; have n0_ := Aside0.mk (Kd.V_below (Kd.V_elderB (by (with_reducible repeat (first | apply Kd.V_alloc | apply Kd.V_drewN | apply Kd.V_drew)); exact HO0_1.out) gb334 (Nat.le_of_eq hg.symm)) hb); have n1_ := Aside0.mk (blk_below BK333.out hb); have n2_ := Aside0.mk (below_step HB.out hb); have n3_ := Aside0.mk (hbox); have n4_ := Aside0.mk ((by rw [hg]; exact (below_size HB.out) : w.heap.size ≤ gb334)); have n5_ := n4_; have n6_ := Aside0.mk ((by rw [hg]; exact Nat.ne_of_lt (blk_lt BK333.out) : gb333 ≠ gb334)); have n7_ := Aside0.mk (Ne.symm n6_.out); clear HO0_1; clear BK333; clear HB; have HO0_1 := n0_; have BK333 := n1_; have HB := n2_; have BK334 := n3_; have GW334 := n4_; have GE334 := n5_; have NB333_334 := n6_; have NB334_333 := n7_; clear n0_ n1_ n2_ n3_ n4_ n5_ n6_ n7_; clear hb hbox hg; have hnb9 := NB333_334.out; have hnc9 := NB334_333.out; obtain ⟨⟨hcz10_0, hcz10_1, hcz10_2⟩, hfz10_0, hfz10_1, hfz10_2⟩ := cells_3 BK333.out) | ((with_reducible refine gate_callee (f := 68) rfl ?_); refine gl_ (some 12) Try.func68 #[.slice A0_1 l0_1.length c0_1, .int .i64 a1] ?_; (with_reducible refine (impl_find.calls k _ _ l0_1 a1 t335 true _ ?side1 ?side2 A3.out).mono ?_); (case side1 => repeat (first | exact (Kd.V_reads' HO0_1.out).2.2 | (with_reducible refine Kd.C_alloc ?_ _) | (with_reducible refine Kd.C_drewN ?_ _) | (with_reducible refine Kd.C_drew ?_))); (case side2 => exact (Kd.V_reads' HO0_1.out).2.1); rintro e w11 ⟨rfl, hb⟩; refine ⟨_, rfl, ?_⟩; have n0_ := Aside0.mk (Kd.V_below (by (with_reducible repeat (first | apply Kd.V_alloc | apply Kd.V_drewN | apply Kd.V_drew)); exact HO0_1.out) hb); have n1_ := Aside0.mk (blk_below BK333.out hb); have n2_ := Aside0.mk (blk_below BK334.out hb); have n3_ := Aside0.mk (below_step HB.out hb); clear HO0_1; clear BK333; clear BK334; clear HB; have HO0_1 := n0_; have BK333 := n1_; have BK334 := n2_; have HB := n3_; clear n0_ n1_ n2_ n3_; (try clear hb); (try clear hb2); (try clear hk); (try clear hi); obtain ⟨⟨hcz12_0, hcz12_1, hcz12_2⟩, hfz12_0, hfz12_1, hfz12_2⟩ := cells_3 BK333.out; have p337 : 0 ≤ (t335 : Int) := d_; have q337 : t335 < (l0_1.length : Int) := d_; obtain ⟨ad337, A337_7, c337_7, e337, hx337_0, hx337_1, hx337_2, hx337_3, hx337_4, hx337_5, hx337_6, hx337_7, hx337_8, hl337_7, hi337_7⟩ := at_T61 (Kd.V_reads' HO0_1.out).2.2 t335 p337 q337; cases e337; obtain ⟨ce337, hce337, hMe337, hcc337⟩ := Kd.V_get HO0_1.out z61 t335 p337 (by first | exact q337 | exact d_ | (have e_ := (Kd.V_reads' HO0_1.out).1; omega)); obtain ⟨ua337_7, uc337_7, rfl, ul337_7, ge337_7⟩ := k61_openF hMe337; have hv337_7 := hcc337 7 _ rfl; rw [add_field _ _ 7 (by omega)] at hv337_7; replace hv337_7 := Option.some.inj (hv337_7.symm.trans hx337_7); injection hv337_7 with hva_ hvn_ hvc_; rw [hva_] at ge337_7; rw [hvc_] at ul337_7; have HL337_7 := Aside0.mk (show Kd.V (Kd.int .i64) 2 _ w.heap.size _ _ ((rd_T61 l0_1 t335).f7) from Kd.V_mk ul337_7 ge337_7); clear hva_ hvn_ hvc_ ge337_7 ul337_7; clear hcc337 hce337; have HR337_7 := Aside0.mk hi337_7; have HC337_7 := Aside0.mk hl337_7; clear hi337_7 hl337_7; replace p337 := eq_true p337; replace q337 := eq_true q337; obtain ⟨⟨hcz13_0, hcz13_1, hcz13_2, hcz13_3, hcz13_4, hcz13_5, hcz13_6, hcz13_7, hcz13_8⟩, hfz13_0, hfz13_1, hfz13_2, hfz13_3, hfz13_4, hfz13_5, hfz13_6, hfz13_7, hfz13_8⟩ := cells_9 BK334.out))
    refine bodyPost_ret (results_ct rfl _ _ gb334 61 #[.int .i64 ((rd_T61 l0_1 t335).f0), .int .i64 ((rd_T61 l0_1 t335).f1), .int .i64 ((rd_T61 l0_1 t335).f2), .int .i64 ((rd_T61 l0_1 t335).f3), .int .i64 ((rd_T61 l0_1 t335).f4), .int .i64 ((rd_T61 l0_1 t335).f5), .string ((rd_T61 l0_1 t335).f6), .slice A337_7 ((rd_T61 l0_1 t335).f7).length c337_7, .int .i64 ((rd_T61 l0_1 t335).f8)] (0, 0) _ rfl (by refine bp9_ (c0 := .int .i64 0) (c1 := .int .i64 0) (c2 := .int .i64 0) (c3 := .int .i64 0) (c4 := .int .i64 0) (c5 := .int .i64 0) (c6 := .string (⟨#[]⟩ : ByteArray)) (c7 := .slice none 0 0) (c8 := .int .i64 0) ?_; exact BK334.out) Try.underlying61 rfl (by kernel_rfl)) rfl ?_; exact ⟨_, a2_, by (with_reducible repeat (first | apply Kd.V_alloc | apply Kd.V_drewN | apply Kd.V_drew)); exact Kd.V_mono (Kd.V_far (p := ⟨gb334, 8, none⟩) (Kd.V_far (p := ⟨gb334, 7, none⟩) (Kd.V_far (p := ⟨gb334, 6, none⟩) (Kd.V_far (p := ⟨gb334, 5, none⟩) (Kd.V_far (p := ⟨gb334, 4, none⟩) (Kd.V_far (p := ⟨gb334, 3, none⟩) (Kd.V_far (p := ⟨gb334, 2, none⟩) (Kd.V_far (p := ⟨gb334, 1, none⟩) (Kd.V_far (p := ⟨gb334, 0, none⟩) (Kd.V_mono HL337_7.out (fun k_ hk => (⟨hk, hk.2⟩ : _ ∧ k_ ≠ gb334))) (fun _ hk => hk.2) (.int .i64 ((rd_T61 l0_1 t335).f0))) (fun _ hk => hk.2) (.int .i64 ((rd_T61 l0_1 t335).f1))) (fun _ hk => hk.2) (.int .i64 ((rd_T61 l0_1 t335).f2))) (fun _ hk => hk.2) (.int .i64 ((rd_T61 l0_1 t335).f3))) (fun _ hk => hk.2) (.int .i64 ((rd_T61 l0_1 t335).f4))) (fun _ hk => hk.2) (.int .i64 ((rd_T61 l0_1 t335).f5))) (fun _ hk => hk.2) (.string ((rd_T61 l0_1 t335).f6))) (fun _ hk => hk.2) (.slice A337_7 ((rd_T61 l0_1 t335).f7).length c337_7)) (fun _ hk => hk.2) (.int .i64 ((rd_T61 l0_1 t335).f8))) (fun _ hk => hk.1.1.1), (a5_ HB.out GE333.out GE334.out)⟩
   ·
    rw [if_neg c6] at H; exact absurd H (by simp)
  ·
   rw [if_neg c5] at H; exact absurd H (by simp)
 ·
  replace c4 := Bool.eq_false_iff.mpr c4; subst c4; have H1 : (some (0, 0, 0, 0, 0, 0, (⟨#[]⟩ : ByteArray), ([] : List Int), 0, false)) = some (r1, r2, r3, r4, r5, r6, r7, r8, r9, r10) := by rw [if_neg (show ¬ (false = true) by decide)] at H; exact H
  clear H; have H := H1; clear H1; simp only [Option.some.injEq, Prod.mk.injEq] at H; obtain ⟨rfl, rfl, rfl, rfl, rfl, rfl, rfl, rfl, rfl, rfl⟩ := H; go_enter Try.func56, Try.ntmps56; go_wp2_with (first | ((with_reducible refine gate_dst (N := 2) rfl ?_); refine be_ 2 #[.int .i64 a0_0, .slice A0_1 l0_1.length c0_1, .slice A0_2 l0_2.length c0_2] 31 ?_; intro gb333 hg w14 hbox hb; have n0_ := Aside0.mk (Kd.V_below (Kd.V_elderB (by (with_reducible repeat (first | apply Kd.V_alloc | apply Kd.V_drewN | apply Kd.V_drew)); exact HO0_1.out) gb333 (Nat.le_of_eq hg.symm)) hb); have n1_ := Aside0.mk (below_step HB.out hb); have n2_ := Aside0.mk (hbox); have n3_ := Aside0.mk ((by rw [hg]; exact (below_size HB.out) : w.heap.size ≤ gb333)); have n4_ := n3_; clear HO0_1; clear HB; have HO0_1 := n0_; have HB := n1_; have BK333 := n2_; have GW333 := n3_; have GE333 := n4_; clear n0_ n1_ n2_ n3_ n4_; clear hb hbox hg) | ((with_reducible refine gate_dst (N := 4) rfl ?_); refine be_ 4 #[.int .i64 0, .int .i64 0, .int .i64 0, .int .i64 0, .int .i64 0, .int .i64 0, .string (⟨#[]⟩ : ByteArray), .slice none 0 0, .int .i64 0] 61 ?_; intro gb334 hg w15 hbox hb; have n0_ := Aside0.mk (Kd.V_below (Kd.V_elderB (by (with_reducible repeat (first | apply Kd.V_alloc | apply Kd.V_drewN | apply Kd.V_drew)); exact HO0_1.out) gb334 (Nat.le_of_eq hg.symm)) hb); have n1_ := Aside0.mk (blk_below BK333.out hb); have n2_ := Aside0.mk (below_step HB.out hb); have n3_ := Aside0.mk (hbox); have n4_ := Aside0.mk ((by rw [hg]; exact (below_size HB.out) : w.heap.size ≤ gb334)); have n5_ := n4_; have n6_ := Aside0.mk ((by rw [hg]; exact Nat.ne_of_lt (blk_lt BK333.out) : gb333 ≠ gb334)); have n7_ := Aside0.mk (Ne.symm n6_.out); clear HO0_1; clear BK333; clear HB; have HO0_1 := n0_; have BK333 := n1_; have HB := n2_; have BK334 := n3_; have GW334 := n4_; have GE334 := n5_; have NB333_334 := n6_; have NB334_333 := n7_; clear n0_ n1_ n2_ n3_ n4_ n5_ n6_ n7_; clear hb hbox hg; have hnb16 := NB333_334.out; have hnc16 := NB334_333.out; obtain ⟨⟨hcz17_0, hcz17_1, hcz17_2⟩, hfz17_0, hfz17_1, hfz17_2⟩ := cells_3 BK333.out) | ((with_reducible refine gate_callee (f := 68) rfl ?_); refine gl_ (some 12) Try.func68 #[.slice A0_1 l0_1.length c0_1, .int .i64 a1] ?_; (with_reducible refine (impl_find.calls k _ _ l0_1 a1 t335 false _ ?side1 ?side2 A3.out).mono ?_); (case side1 => repeat (first | exact (Kd.V_reads' HO0_1.out).2.2 | (with_reducible refine Kd.C_alloc ?_ _) | (with_reducible refine Kd.C_drewN ?_ _) | (with_reducible refine Kd.C_drew ?_))); (case side2 => exact (Kd.V_reads' HO0_1.out).2.1); rintro e w18 ⟨rfl, hb⟩; refine ⟨_, rfl, ?_⟩; have n0_ := Aside0.mk (Kd.V_below (by (with_reducible repeat (first | apply Kd.V_alloc | apply Kd.V_drewN | apply Kd.V_drew)); exact HO0_1.out) hb); have n1_ := Aside0.mk (blk_below BK333.out hb); have n2_ := Aside0.mk (blk_below BK334.out hb); have n3_ := Aside0.mk (below_step HB.out hb); clear HO0_1; clear BK333; clear BK334; clear HB; have HO0_1 := n0_; have BK333 := n1_; have BK334 := n2_; have HB := n3_; clear n0_ n1_ n2_ n3_; (try clear hb); (try clear hb2); (try clear hk); (try clear hi); obtain ⟨⟨hcz19_0, hcz19_1, hcz19_2, hcz19_3, hcz19_4, hcz19_5, hcz19_6, hcz19_7, hcz19_8⟩, hfz19_0, hfz19_1, hfz19_2, hfz19_3, hfz19_4, hfz19_5, hfz19_6, hfz19_7, hfz19_8⟩ := cells_9 BK334.out))
  refine bodyPost_ret (results_ct rfl _ _ gb334 61 #[.int .i64 0, .int .i64 0, .int .i64 0, .int .i64 0, .int .i64 0, .int .i64 0, .string (⟨#[]⟩ : ByteArray), .slice none 0 0, .int .i64 0] (0, 0) _ rfl (by refine bp9_ (c0 := .int .i64 0) (c1 := .int .i64 0) (c2 := .int .i64 0) (c3 := .int .i64 0) (c4 := .int .i64 0) (c5 := .int .i64 0) (c6 := .string (⟨#[]⟩ : ByteArray)) (c7 := .slice none 0 0) (c8 := .int .i64 0) ?_; exact BK334.out) Try.underlying61 rfl (by kernel_rfl)) rfl ?_; exact ⟨_, a2_, Kd.V_nil _ _ _ _ _, (a5_ HB.out GE333.out GE334.out)⟩

/-! ### impl_Graph_isStateOf: function 27 -/
def impl_Graph_isStateOf.q (k : Nat) (g0 : Int) (g1 g2 : List S61) (x : S46) : Option Bool := (impl_Graph_at.f k g0 g1 g2 x.f2).bind fun e => some (!e.2.2.2.2.2.2.2.2.2 || (e.2.2.2.1 != x.f0 || e.2.2.2.2.1 != x.f1))
def impl_Graph_isStateOf.f (k : Nat) (g0 : Int) (g1 g2 : List S61) (s : List S46) : Option Bool := (impl_StateRight.f k s).bind fun b => if b = true then ((anyQ (impl_Graph_isStateOf.q k g0 g1 g2) s).bind fun c => some (!c)) else some false
theorem impl_Graph_isStateOf.mono : ∀ g0 g1 g2 s k, LeO (impl_Graph_isStateOf.f k g0 g1 g2 s) (impl_Graph_isStateOf.f (k + 1) g0 g1 g2 s) := by
  intro g0 g1 g2 s k
  exact LeO.bind (impl_StateRight.mono _ _) (fun _ => LeO.ite (LeO.bind (anyQ_mono (fun x => LeO.bind (impl_Graph_at.mono _ _ _ _ _) (fun _ => LeO.refl _)) _) (fun _ => LeO.refl _)) (LeO.refl _))
set_option maxHeartbeats 4000000 in
set_option maxRecDepth 100000 in
theorem impl_Graph_isStateOf.closure (k : Nat) (g0 : Int) (A1 : Option Addr) (c1 : Nat) (g1 : List S61) (A2 : Option Addr) (c2 : Nat) (g2 : List S61) (x : S46) (b : Bool) (B : Nat) (w : World) (hr1 : Kd.C k61 w A1 g1.length g1) (hc1 : g1.length ≤ c1) (hr2 : Kd.C k61 w A2 g2.length g2) (hc2 : g2.length ≤ c2)
    (x0 : w.cell? ⟨B, 0, none⟩ = some (.int .i64 g0)) (x1 : w.cell? ⟨B, 1, none⟩ = some (.slice A1 g1.length c1)) (x2 : w.cell? ⟨B, 2, none⟩ = some (.slice A2 g2.length c2)) (h : impl_Graph_isStateOf.q k g0 g1 g2 x = some b) :
    Calls Try.prog 55 #[.agg #[.int .i64 x.f0, .int .i64 x.f1, .int .i64 x.f2], .pointer (some ⟨B, 0, none⟩)] w fun e w' => e = .returned (.bool b) ∧ Below w.heap.size w w' := by
  have HR1 := Aside0.mk hr1; have HR2 := Aside0.mk hr2; have HC1 := Aside0.mk hc1; have HC2 := Aside0.mk hc2; have HB := Aside0.mk (below_alloc (Below.refl w.heap.size w) (.cells #[.int .i64 x.f0, .int .i64 x.f1, .int .i64 x.f2] 46)); replace x0 := (World.cell?_alloc_lt w (.cells #[.int .i64 x.f0, .int .i64 x.f1, .int .i64 x.f2] 46) ⟨B, 0, none⟩ (World.block_lt_of_cell? _ _ x0)).trans x0; replace x1 := (World.cell?_alloc_lt w (.cells #[.int .i64 x.f0, .int .i64 x.f1, .int .i64 x.f2] 46) ⟨B, 1, none⟩ (World.block_lt_of_cell? _ _ x1)).trans x1; replace x2 := (World.cell?_alloc_lt w (.cells #[.int .i64 x.f0, .int .i64 x.f1, .int .i64 x.f2] 46) ⟨B, 2, none⟩ (World.block_lt_of_cell? _ _ x2)).trans x2; obtain ⟨⟨r1, r2, r3, r4, r5, r6, r7, r8, r9, r10⟩, h1, h2⟩ := Option.bind_eq_some_iff.mp h; replace h2 : (!r10 || (r4 != x.f0 || r5 != x.f1)) = b := Option.some.inj h2; have H1 := Aside0.mk h1; clear h h1 hr1 hr2 hc1 hc2; have done_ : ∀ (b : Bool) (w' : World), Below w.heap.size w w' → (Ending.returned (.bool b) = Ending.returned (.bool b) ∧ Below w.heap.size w w') := fun _ _ h => ⟨rfl, h⟩
  cases r10 with
  | false =>
    subst h2; go_enter Try.func55, Try.ntmps55; go_wp2_with (go_at_call 56; refine (impl_Graph_at.calls k g0 (fun k_ => k_ < w.heap.size) A1 c1 g1 A2 c2 g2 x.f2 r1 r2 r3 r4 r5 r6 r7 r8 r9 false _ ?side1 ?side2 ?side3 H1.out).mono ?_; (case side1 => exact Kd.V_mk HC1.out (Kd.F_below (Kd.C_F k61_heap HR1.out) HB.out)); (case side2 => exact (Kd.C_below HR2.out HB.out)); (case side3 => exact HC2.out); rintro e w2 ⟨v7, rfl, ho0, hb⟩; have n0_ := Aside0.mk (below_step HB.out hb); have yc0 : w2.cell? ⟨w.heap.size, 0, none⟩ = some (.int .i64 x.f0) := (hb.cell (p := ⟨w.heap.size, 0, none⟩) (by simp)).trans (by simp); have yc1 : w2.cell? ⟨w.heap.size, 1, none⟩ = some (.int .i64 x.f1) := (hb.cell (p := ⟨w.heap.size, 1, none⟩) (by simp)).trans (by simp); have yd0 : ∀ o, (w2.alloc o).cell? ⟨w.heap.size, 0, none⟩ = some (.int .i64 x.f0) := fun o => (World.cell?_alloc_lt w2 o _ (World.block_lt_of_cell? _ _ yc0)).trans yc0; have yd1 : ∀ o, (w2.alloc o).cell? ⟨w.heap.size, 1, none⟩ = some (.int .i64 x.f1) := fun o => (World.cell?_alloc_lt w2 o _ (World.block_lt_of_cell? _ _ yc1)).trans yc1; clear yc0 yc1; obtain ⟨A7, c7, rfl⟩ := Kd.V_slice ho0; clear HB ho0 hb; have HB := n0_; clear n0_)
    go_ret
    exact ⟨by first | rfl | simp, (a1_ HB.out)⟩
  | true =>
    cases q4 : (r4 != x.f0) with
    | true =>
      rw [q4] at h2; have e2 : b = true := by rw [← h2]; rfl
      subst e2; clear h2; go_enter Try.func55, Try.ntmps55; go_wp2_with (go_at_call 56; refine (impl_Graph_at.calls k g0 (fun k_ => k_ < w.heap.size) A1 c1 g1 A2 c2 g2 x.f2 r1 r2 r3 r4 r5 r6 r7 r8 r9 true _ ?side1 ?side2 ?side3 H1.out).mono ?_; (case side1 => exact Kd.V_mk HC1.out (Kd.F_below (Kd.C_F k61_heap HR1.out) HB.out)); (case side2 => exact (Kd.C_below HR2.out HB.out)); (case side3 => exact HC2.out); rintro e w2 ⟨v7, rfl, ho0, hb⟩; have n0_ := Aside0.mk (below_step HB.out hb); have yc0 : w2.cell? ⟨w.heap.size, 0, none⟩ = some (.int .i64 x.f0) := (hb.cell (p := ⟨w.heap.size, 0, none⟩) (by simp)).trans (by simp); have yc1 : w2.cell? ⟨w.heap.size, 1, none⟩ = some (.int .i64 x.f1) := (hb.cell (p := ⟨w.heap.size, 1, none⟩) (by simp)).trans (by simp); have yd0 : ∀ o, (w2.alloc o).cell? ⟨w.heap.size, 0, none⟩ = some (.int .i64 x.f0) := fun o => (World.cell?_alloc_lt w2 o _ (World.block_lt_of_cell? _ _ yc0)).trans yc0; have yd1 : ∀ o, (w2.alloc o).cell? ⟨w.heap.size, 1, none⟩ = some (.int .i64 x.f1) := fun o => (World.cell?_alloc_lt w2 o _ (World.block_lt_of_cell? _ _ yc1)).trans yc1; clear yc0 yc1; obtain ⟨A7, c7, rfl⟩ := Kd.V_slice ho0; clear HB ho0 hb; have HB := n0_; clear n0_)
      go_ret
      exact ⟨by first | rfl | simp, (a1_ HB.out)⟩
    | false =>
      cases q5 : (r5 != x.f1) with
      | true =>
        rw [q4, q5] at h2; have e2 : b = true := by rw [← h2]; rfl
        subst e2; clear h2; go_enter Try.func55, Try.ntmps55; go_wp2_with (go_at_call 56; refine (impl_Graph_at.calls k g0 (fun k_ => k_ < w.heap.size) A1 c1 g1 A2 c2 g2 x.f2 r1 r2 r3 r4 r5 r6 r7 r8 r9 true _ ?side1 ?side2 ?side3 H1.out).mono ?_; (case side1 => exact Kd.V_mk HC1.out (Kd.F_below (Kd.C_F k61_heap HR1.out) HB.out)); (case side2 => exact (Kd.C_below HR2.out HB.out)); (case side3 => exact HC2.out); rintro e w2 ⟨v7, rfl, ho0, hb⟩; have n0_ := Aside0.mk (below_step HB.out hb); have yc0 : w2.cell? ⟨w.heap.size, 0, none⟩ = some (.int .i64 x.f0) := (hb.cell (p := ⟨w.heap.size, 0, none⟩) (by simp)).trans (by simp); have yc1 : w2.cell? ⟨w.heap.size, 1, none⟩ = some (.int .i64 x.f1) := (hb.cell (p := ⟨w.heap.size, 1, none⟩) (by simp)).trans (by simp); have yd0 : ∀ o, (w2.alloc o).cell? ⟨w.heap.size, 0, none⟩ = some (.int .i64 x.f0) := fun o => (World.cell?_alloc_lt w2 o _ (World.block_lt_of_cell? _ _ yc0)).trans yc0; have yd1 : ∀ o, (w2.alloc o).cell? ⟨w.heap.size, 1, none⟩ = some (.int .i64 x.f1) := fun o => (World.cell?_alloc_lt w2 o _ (World.block_lt_of_cell? _ _ yc1)).trans yc1; clear yc0 yc1; obtain ⟨A7, c7, rfl⟩ := Kd.V_slice ho0; clear HB ho0 hb; have HB := n0_; clear n0_)
        go_ret
        exact ⟨by first | rfl | simp, (a1_ HB.out)⟩
      | false =>
        rw [q4, q5] at h2; have e2 : b = false := by rw [← h2]; rfl
        subst e2; clear h2; go_enter Try.func55, Try.ntmps55; go_wp2_with (go_at_call 56; refine (impl_Graph_at.calls k g0 (fun k_ => k_ < w.heap.size) A1 c1 g1 A2 c2 g2 x.f2 r1 r2 r3 r4 r5 r6 r7 r8 r9 true _ ?side1 ?side2 ?side3 H1.out).mono ?_; (case side1 => exact Kd.V_mk HC1.out (Kd.F_below (Kd.C_F k61_heap HR1.out) HB.out)); (case side2 => exact (Kd.C_below HR2.out HB.out)); (case side3 => exact HC2.out); rintro e w2 ⟨v7, rfl, ho0, hb⟩; have n0_ := Aside0.mk (below_step HB.out hb); have yc0 : w2.cell? ⟨w.heap.size, 0, none⟩ = some (.int .i64 x.f0) := (hb.cell (p := ⟨w.heap.size, 0, none⟩) (by simp)).trans (by simp); have yc1 : w2.cell? ⟨w.heap.size, 1, none⟩ = some (.int .i64 x.f1) := (hb.cell (p := ⟨w.heap.size, 1, none⟩) (by simp)).trans (by simp); have yd0 : ∀ o, (w2.alloc o).cell? ⟨w.heap.size, 0, none⟩ = some (.int .i64 x.f0) := fun o => (World.cell?_alloc_lt w2 o _ (World.block_lt_of_cell? _ _ yc0)).trans yc0; have yd1 : ∀ o, (w2.alloc o).cell? ⟨w.heap.size, 1, none⟩ = some (.int .i64 x.f1) := fun o => (World.cell?_alloc_lt w2 o _ (World.block_lt_of_cell? _ _ yc1)).trans yc1; clear yc0 yc1; obtain ⟨A7, c7, rfl⟩ := Kd.V_slice ho0; clear HB ho0 hb; have HB := n0_; clear n0_)
        go_ret
        exact ⟨by first | rfl | simp, (a1_ HB.out)⟩
set_option maxHeartbeats 4000000 in
set_option maxRecDepth 100000 in
theorem impl_Graph_isStateOf.any (k : Nat) (g0 : Int) (A1 : Option Addr) (c1 : Nat) (g1 : List S61) (A2 : Option Addr) (c2 : Nat) (g2 : List S61) (A3 : Option Addr) (c3 : Nat) (s : List S46) (b : Bool) (B : Nat) (w : World) (hr1 : Kd.C k61 w A1 g1.length g1) (hc1 : g1.length ≤ c1) (hr2 : Kd.C k61 w A2 g2.length g2) (hc2 : g2.length ≤ c2) (hr3 : Kd.C k46 w A3 s.length s)
    (x0 : w.cell? ⟨B, 0, none⟩ = some (.int .i64 g0)) (x1 : w.cell? ⟨B, 1, none⟩ = some (.slice A1 g1.length c1)) (x2 : w.cell? ⟨B, 2, none⟩ = some (.slice A2 g2.length c2)) (h : anyQ (impl_Graph_isStateOf.q k g0 g1 g2) s = some b) :
    Calls Try.prog 54 #[.slice A3 s.length c3, .func (.func 55) #[] #[.pointer (some ⟨B, 0, none⟩)]] w fun e w' => e = .returned (.bool b) ∧ Below w.heap.size w w' := by
  obtain ⟨h3, rfl⟩ := anyQ_all h
  exact impl_Entry_54.callsF 55 #[.pointer (some ⟨B, 0, none⟩)] (fun x => (impl_Graph_isStateOf.q k g0 g1 g2 x).getD false) A3 c3 s w (enters_of Try.func55 (by kernel_rfl) rfl) hr3
    (fun W i x hx hb => (impl_Graph_isStateOf.closure k g0 A1 c1 g1 A2 c2 g2 x _ B W (Kd.C_below hr1 hb) hc1 (Kd.C_below hr2 hb) hc2 ((hb.cell (World.block_lt_of_cell? _ _ x0)).trans x0) ((hb.cell (World.block_lt_of_cell? _ _ x1)).trans x1) ((hb.cell (World.block_lt_of_cell? _ _ x2)).trans x2) (h3 x (List.mem_of_getElem? hx))).mono (fun _ _ h2 => ⟨h2.1, below_step hb h2.2⟩))
set_option maxHeartbeats 4000000 in
set_option maxRecDepth 100000 in
theorem impl_Graph_isStateOf.calls (k : Nat) (g0 : Int) (A1 : Option Addr) (c1 : Nat) (g1 : List S61) (A2 : Option Addr) (c2 : Nat) (g2 : List S61) (A3 : Option Addr) (c3 : Nat) (s : List S46) (r : Bool) (w : World) (hr1 : Kd.C k61 w A1 g1.length g1) (hc1 : g1.length ≤ c1) (hr2 : Kd.C k61 w A2 g2.length g2) (hc2 : g2.length ≤ c2) (hr3 : Kd.C k46 w A3 s.length s) (hc3 : s.length ≤ c3) (h : impl_Graph_isStateOf.f k g0 g1 g2 s = some r) :
    Calls Try.prog 27 #[.agg #[.int .i64 g0, .slice A1 g1.length c1, .slice A2 g2.length c2], .slice A3 s.length c3] w fun e w' => e = .returned (.bool r) ∧ Below w.heap.size w w' := by
  have HR1 := Aside0.mk hr1; have HR2 := Aside0.mk hr2; have HR3 := Aside0.mk hr3; have HC1 := Aside0.mk hc1; have HC2 := Aside0.mk hc2; have HC3 := Aside0.mk hc3; clear hr1 hr2 hr3 hc1 hc2 hc3; have HB := Aside0.mk (below_alloc (Below.refl w.heap.size w) (.cells #[.int .i64 g0, .slice A1 g1.length c1, .slice A2 g2.length c2] 31)); obtain ⟨b0, h0, H⟩ := Option.bind_eq_some_iff.mp h; have HS := Aside0.mk h0; clear h h0
  cases b0 with
  | false =>
    obtain rfl := Option.some.inj H; clear H; go_enter Try.func27, Try.ntmps27; go_wp2_with (go_at_call 53; (with_reducible refine (impl_StateRight.calls k _ _ s _ _ ?side1 ?side2 HS.out).mono ?_); (case side1 => exact (Kd.C_below HR3.out HB.out)); (case side2 => exact HC3.out); rintro e w2 ⟨rfl, hb⟩; have n0_ := Aside0.mk (below_step HB.out hb); clear HB hb; have HB := n0_; clear n0_)
    go_ret
    exact ⟨by first | rfl | simp, (a1_ HB.out)⟩
  | true =>
    simp only [if_true] at H; obtain ⟨c, h1, H⟩ := Option.bind_eq_some_iff.mp H; obtain rfl := Option.some.inj H; have HA := Aside0.mk h1; clear h1 H; go_enter Try.func27, Try.ntmps27; go_wp2_with (first | (go_at_call 53; (with_reducible refine (impl_StateRight.calls k _ _ s _ _ ?side1 ?side2 HS.out).mono ?_); (case side1 => exact (Kd.C_below HR3.out HB.out)); (case side2 => exact HC3.out); rintro e w2 ⟨rfl, hb⟩; have n0_ := Aside0.mk (below_step HB.out hb); have Y0 := Aside0.mk (show w2.cell? ⟨w.heap.size, 0, none⟩ = some (.int .i64 g0) from (hb.cell (p := ⟨w.heap.size, 0, none⟩) (by simp)).trans (by simp)); have Y1 := Aside0.mk (show w2.cell? ⟨w.heap.size, 1, none⟩ = some (.slice A1 g1.length c1) from (hb.cell (p := ⟨w.heap.size, 1, none⟩) (by simp)).trans (by simp)); have Y2 := Aside0.mk (show w2.cell? ⟨w.heap.size, 2, none⟩ = some (.slice A2 g2.length c2) from (hb.cell (p := ⟨w.heap.size, 2, none⟩) (by simp)).trans (by simp)); clear HB hb; have HB := n0_; clear n0_) | (go_at_call 54; (with_reducible refine (impl_Graph_isStateOf.any k g0 A1 c1 g1 A2 c2 g2 _ _ s _ _ _ (Kd.C_below HR1.out HB.out) HC1.out (Kd.C_below HR2.out HB.out) HC2.out (Kd.C_below HR3.out HB.out) Y0.out Y1.out Y2.out HA.out).mono ?_); rintro e w3 ⟨rfl, hb⟩; have n0_ := Aside0.mk (below_step HB.out hb); clear HB hb; have HB := n0_; clear n0_))
    go_ret
    exact ⟨by first | rfl | simp, (a1_ HB.out)⟩

/-! ### impl_Entry_93: function 93 -/
def impl_Entry_93.l0 : Nat → List (S46) → Int → Int → Int → Int → Int → Int → Option (Int × Bool)
  | 0, _, _, _, _, _, _, _ => none
  | k + 1, x0, x8, x9, x10, x339000, x339001, x339002 => if x9 < x10 then (if 0 ≤ (wrap64 ((IntKind.u64.wrap (wrap64 (x9 + x10))) / 2)) then (if (wrap64 ((IntKind.u64.wrap (wrap64 (x9 + x10))) / 2)) < (x0.length : Int) then ((impl_Entry_order.f k ((rd_T46 x0 (wrap64 ((IntKind.u64.wrap (wrap64 (x9 + x10))) / 2))).f0) ((rd_T46 x0 (wrap64 ((IntKind.u64.wrap (wrap64 (x9 + x10))) / 2))).f1) ((rd_T46 x0 (wrap64 ((IntKind.u64.wrap (wrap64 (x9 + x10))) / 2))).f2) x339000 x339001 x339002).bind fun t340 => (if t340 < 0 then (impl_Entry_93.l0 k x0 x8 (wrap64 ((wrap64 ((IntKind.u64.wrap (wrap64 (x9 + x10))) / 2)) + 1)) x10 x339000 x339001 x339002) else (impl_Entry_93.l0 k x0 x8 x9 (wrap64 ((IntKind.u64.wrap (wrap64 (x9 + x10))) / 2)) x339000 x339001 x339002))) else (none)) else (none)) else (if x9 < x8 then (if 0 ≤ x9 then (if x9 < (x0.length : Int) then ((impl_Entry_order.f k ((rd_T46 x0 x9).f0) ((rd_T46 x0 x9).f1) ((rd_T46 x0 x9).f2) x339000 x339001 x339002).bind fun t342 => (some (x9, (t342 == 0)))) else (none)) else (none)) else (some (x9, false)))
def impl_Entry_93.f (k : Nat) (l0 : List (S46)) (a1_0 : Int) (a1_1 : Int) (a1_2 : Int)  : Option (Int × Bool) := impl_Entry_93.l0 k l0 (l0.length : Int) 0 (l0.length : Int) a1_0 a1_1 a1_2
theorem impl_Entry_93.mono_l : ∀ k, (∀ y0 y1 y2 y3 y4 y5 y6, LeO (impl_Entry_93.l0 k y0 y1 y2 y3 y4 y5 y6) (impl_Entry_93.l0 (k + 1) y0 y1 y2 y3 y4 y5 y6))
  | 0 => fun _ _ _ _ _ _ _ r h => by simp [impl_Entry_93.l0] at h
  | k + 1 => by
    have ih0 := impl_Entry_93.mono_l k
    · intro y0 y1 y2 y3 y4 y5 y6
      unfold impl_Entry_93.l0
      repeat' first | (with_reducible exact ih0 _ _ _ _ _ _ _) | (with_reducible exact impl_Entry_order.mono _ _ _ _ _ _ _) | (with_reducible exact LeO.refl _) | (with_reducible exact LeO.none _) | (with_reducible refine LeO.ite ?_ ?_) | (with_reducible refine LeO.bind ?_ (fun _ => ?_)) | exact ih0 _ _ _ _ _ _ _ | exact impl_Entry_order.mono _ _ _ _ _ _ _ | exact LeO.none _ | refine LeO.ite ?_ ?_ | refine LeO.bind ?_ (fun _ => ?_)
theorem impl_Entry_93.mono : ∀ a0 a1 a2 a3 k, LeO (impl_Entry_93.f k a0 a1 a2 a3) (impl_Entry_93.f (k + 1) a0 a1 a2 a3) := by
  intro a0 a1 a2 a3 k
  have ih0 := impl_Entry_93.mono_l k
  unfold impl_Entry_93.f
  repeat' first | (with_reducible exact ih0 _ _ _ _ _ _ _) | (with_reducible exact impl_Entry_order.mono _ _ _ _ _ _ _) | (with_reducible exact LeO.refl _) | (with_reducible exact LeO.none _) | (with_reducible refine LeO.ite ?_ ?_) | (with_reducible refine LeO.bind ?_ (fun _ => ?_)) | exact ih0 _ _ _ _ _ _ _ | exact impl_Entry_order.mono _ _ _ _ _ _ _ | exact LeO.none _ | refine LeO.ite ?_ ?_ | refine LeO.bind ?_ (fun _ => ?_)
def impl_Entry_93.T5 : Bool × List (List Nat × List Nat) := (true, [([], []), ([], []), ([], []), ([1, 2], [1, 2]), ([3], [3]), ([], []), ([0, 4, 5], [0, 4, 5]), ([6], [6])])
def impl_Entry_93.B5 : List Nat := [0, 0, 0, 6, 14, 0, 63, 127]
theorem impl_Entry_93.tab5 : rtab .any (opsOf Try.f93 5) = impl_Entry_93.T5 := by kernel_rfl
theorem impl_Entry_93.bits5 : waitsOk impl_Entry_93.T5.2 impl_Entry_93.B5 = true := by kernel_rfl
def impl_Entry_93.T8 : Bool × List (List Nat × List Nat) := (true, [([], []), ([], []), ([], []), ([1, 2], [1, 2]), ([3], [3]), ([4], [4]), ([4], [4]), ([4], [4]), ([6, 7, 4], [4, 6, 7]), ([8, 4], [4, 8]), ([4], [4]), ([5, 9, 10, 4, 4], [4, 5, 9, 10]), ([11, 4], [4, 11]), ([4, 12], [4, 12]), ([0, 11, 0], [0]), ([13, 14, 0, 1, 2, 3, 4, 5, 6, 7, 8, 9, 10, 11, 12, 13, 14], [13])])
def impl_Entry_93.B8 : List Nat := [0, 0, 0, 6, 14, 30, 30, 30, 222, 478, 30, 2046, 4094, 8190, 4095, 32767]
theorem impl_Entry_93.tab8 : rtab .any (opsOf Try.f93 8) = impl_Entry_93.T8 := by kernel_rfl
theorem impl_Entry_93.bits8 : waitsOk impl_Entry_93.T8.2 impl_Entry_93.B8 = true := by kernel_rfl
set_option maxHeartbeats 8000000 in
set_option maxRecDepth 100000 in
theorem impl_Entry_93.calls (k : Nat) (A0 : Option Addr) (c0 : Nat) (l0 : List (S46)) (a1_0 : Int) (a1_1 : Int) (a1_2 : Int)  (r1 : Int) (r2 : Bool) (w : World) (hr0 : Kd.C k46 w A0 l0.length l0) (hc0 : l0.length ≤ c0) (h : impl_Entry_93.f k l0 a1_0 a1_1 a1_2 = some (r1, r2)) :
    Calls Try.prog 93 #[.slice A0 l0.length c0, .agg #[.int .i64 a1_0, .int .i64 a1_1, .int .i64 a1_2], .func (.func 84) #[] #[]] w fun e w' => e = .returned (.tuple #[.int .i64 r1, .bool r2]) ∧ Below w.heap.size w w' := by
 have hu46 := Try.underlying46; have HR0 := Aside0.mk hr0; have HC0 := Aside0.mk hc0; clear hr0 hc0; have HB := Aside0.mk (Below.refl w.heap.size w); have H : (impl_Entry_93.l0 k l0 (l0.length : Int) 0 (l0.length : Int) a1_0 a1_1 a1_2) = some (r1, r2) := h; clear h; have H' := Aside0.mk H; clear H; go_enter Try.func93, Try.ntmps93; go_wp2_with (first | ((with_reducible refine gate_dst (N := 4) rfl ?_); refine be_ 4 #[.int .i64 a1_0, .int .i64 a1_1, .int .i64 a1_2] 46 ?_; intro gb338 hg w4 hbox hb; have n0_ := Aside0.mk (below_step HB.out hb); have n1_ := Aside0.mk (hbox); have n2_ := Aside0.mk ((by rw [hg]; exact (below_size HB.out) : w.heap.size ≤ gb338)); have n3_ := n2_; clear HB; have HB := n0_; have BK338 := n1_; have GW338 := n2_; have GE338 := n3_; clear n0_ n1_ n2_ n3_; clear hb hbox hg))
 go_loopg [9, 10] k (fun kq v9 v10 w' => ∃ (x9_1 : Int) (x10_1 : Int), v9 = .int .i64 x9_1 ∧ v10 = .int .i64 x10_1 ∧ Aside0 (impl_Entry_93.l0 kq l0 (l0.length : Int) x9_1 x10_1 a1_0 a1_1 a1_2 = some (r1, r2)) ∧ Aside0 (kq ≤ k) ∧ Aside0 (w'.heap[gb338]? = some (.cells #[.int .i64 a1_0, .int .i64 a1_1, .int .i64 a1_2] 46 (0, 0))) ∧ Aside0 (Below w.heap.size w w'))
 case atStart => exact ⟨(0), ((l0.length : Int)), (by first | rfl | (simp; done) | (simp [*]; done)), (by first | rfl | (simp; done) | (simp [*]; done)), H', ⟨Nat.le_refl _⟩, ⟨by exact BK338.out⟩, ⟨(a3_ HB.out GE338.out)⟩⟩
 case round =>
  clear H'; try clear p2
  obtain ⟨x9_1, x10_1, rfl, rfl, HA, HK1, BK338, HB⟩ := hrel
  cases gk with
  | zero => exact absurd HA.out (by simp [impl_Entry_93.l0])
  | succ k1 =>
   have H := HA.out; clear HA; simp only [impl_Entry_93.l0] at H; by_cases c5 : x9_1 < x10_1
   ·
    rw [if_pos c5] at H; have c5b0 : decide (x9_1 < x10_1) = true := decide_eq_true c5; clear c5; obtain ⟨ji6, hji6⟩ : ∃ j_ : Int, (wrap64 ((IntKind.u64.wrap (wrap64 (x9_1 + x10_1))) / 2)) = j_ := ⟨_, rfl⟩; replace H : (if 0 ≤ (ji6) then (if (ji6) < (l0.length : Int) then ((impl_Entry_order.f k1 ((rd_T46 l0 (ji6)).f0) ((rd_T46 l0 (ji6)).f1) ((rd_T46 l0 (ji6)).f2) a1_0 a1_1 a1_2).bind fun t340 => (if t340 < 0 then (impl_Entry_93.l0 k1 l0 (l0.length : Int) (wrap64 ((ji6) + 1)) x10_1 a1_0 a1_1 a1_2) else (impl_Entry_93.l0 k1 l0 (l0.length : Int) x9_1 ji6 a1_0 a1_1 a1_2))) else (none)) else (none)) = some (r1, r2) := by first | (rw [hji6] at H; exact H) | (simp only [hji6] at H ⊢; exact H)
    have hji6w : (IntKind.i64.wrap ((IntKind.u64.wrap (wrap64 (x9_1 + x10_1))) / 2)) = ji6 := (i64_w _).trans hji6; by_cases c7 : 0 ≤ (ji6)
    ·
     rw [if_pos c7] at H; have c7b0 : decide (0 ≤ (ji6)) = true := decide_eq_true c7; clear c7; by_cases c8 : (ji6) < (l0.length : Int)
     ·
      rw [if_pos c8] at H; have c8b0 : decide ((ji6) < (l0.length : Int)) = true := decide_eq_true c8; clear c8; replace H := Option.bind_eq_some_iff.mp H; obtain ⟨t340, A90, H⟩ := H; replace H : (if t340 < 0 then (impl_Entry_93.l0 k1 l0 (l0.length : Int) (wrap64 ((ji6) + 1)) x10_1 a1_0 a1_1 a1_2) else (impl_Entry_93.l0 k1 l0 (l0.length : Int) x9_1 ji6 a1_0 a1_1 a1_2)) = some (r1, r2) := H; have A9 := Aside0.mk A90; clear A90; by_cases c10 : t340 < 0
      ·
       rw [if_pos c10] at H; have c10b0 : decide (t340 < 0) = true := decide_eq_true c10; clear c10; have H' := Aside0.mk H; clear H; try go_wp2
       have n0_ := Aside0.mk (blk_drew BK338.out); have n1_ := Aside0.mk (below_drew1 HB.out); clear BK338; clear HB; have BK338 := n0_; have HB := n1_; clear n0_ n1_; have p339 : 0 ≤ ((ji6) : Int) := d_; have q339 : (ji6) < (l0.length : Int) := d_; obtain ⟨ad339, e339, hx339_0, hx339_1, hx339_2⟩ := at_T46 HR0.out (ji6) p339 q339; have hw339_2 := hx339_2; have hw339_1 := hx339_1; have hw339_0 := hx339_0; cases e339; replace hx339_0 := ce_ HB.out hx339_0; replace hx339_1 := ce_ HB.out hx339_1; replace hx339_2 := ce_ HB.out hx339_2; replace p339 := eq_true p339; replace q339 := eq_true q339; refine start_ (n := 8) (S := fun w' => w'.cell? ⟨gb338, 0, none⟩ = some (.int .i64 a1_0) ∧ w'.cell? ⟨gb338, 1, none⟩ = some (.int .i64 a1_1) ∧ w'.cell? ⟨gb338, 2, none⟩ = some (.int .i64 a1_2) ∧ w'.cell? (ad339.add (((ji6)).toNat * 3)) = some (.int .i64 ((rd_T46 l0 (ji6)).f0)) ∧ w'.cell? ⟨(ad339.add (((ji6)).toNat * 3)).block, (ad339.add (((ji6)).toNat * 3)).off + 1, none⟩ = some (.int .i64 ((rd_T46 l0 (ji6)).f1)) ∧ w'.cell? ⟨(ad339.add (((ji6)).toNat * 3)).block, (ad339.add (((ji6)).toNat * 3)).off + 2, none⟩ = some (.int .i64 ((rd_T46 l0 (ji6)).f2))) (ds := []) #[false, false, false, false, false, false, false, false] (by kernel_rfl) rfl rfl ⟨(blk_cell BK338.out 0).trans rfl, (blk_cell BK338.out 1).trans rfl, (blk_cell BK338.out 2).trans rfl, (ce_ HB.out hw339_0 :), (ce_ HB.out hw339_1 :), (ce_ HB.out hw339_2 :)⟩ (fun hHeld => ?_); refine with_tabW impl_Entry_93.tab5 impl_Entry_93.bits5 (fun HT_ HW_ => ?_)
       generalize wr.drew = w11 at BK338 HB hx339_0 hx339_1 hx339_2 hHeld ⊢; refine p_ 0 (some 24) HT_.out (bm 8 1) ?_; refine p_ 1 (some 25) HT_.out (bm 8 3) ?_; refine p_ 2 (some 26) HT_.out (bm 8 7) ?_; refine p_ 3 (some 27) HT_.out (bm 8 15) ?_; refine t_ 4 (some 28) (bm 8 31) (take_ofW HT_.out HW_.out (by kernel_rfl)) hHeld ?_; refine t_ 5 (some 29) (bm 8 63) (take_ofW HT_.out HW_.out (by kernel_rfl)) hHeld ?_; refine one_ (i := 6) (N := some 30) (bm 8 127) rfl rfl (one_of HT_.out (by kernel_rfl)) (by decide) (fun K hK => ?_); refine goes_t Try.func84 (by kernel_rfl) rfl #[.agg #[.int .i64 ((rd_T46 l0 (ji6)).f0), .int .i64 ((rd_T46 l0 (ji6)).f1), .int .i64 ((rd_T46 l0 (ji6)).f2)], .agg #[.int .i64 a1_0, .int .i64 a1_1, .int .i64 a1_2]] (by rfl) rfl rfl rfl (by (try simp only [List.map_toArray, List.map_cons, List.map_nil]); first | done | (simp only [hji6]; rfl) | rfl | (simp only [List.length_drop, List.length_take]; rfl)) ?_; with_reducible refine (impl_Entry_order.calls k1 ((rd_T46 l0 (ji6)).f0) ((rd_T46 l0 (ji6)).f1) ((rd_T46 l0 (ji6)).f2) a1_0 a1_1 a1_2 t340 _ A9.out).mono ?_
       rintro e w12 ⟨rfl, hb⟩; refine ⟨_, rfl, ?_⟩; have n0_ := Aside0.mk (blk_below BK338.out hb); have n1_ := Aside0.mk (below_step HB.out hb); clear BK338; clear HB; have BK338 := n0_; have HB := n1_; clear n0_ n1_; (try clear hb)
       (try clear hb2)
       (try clear hk)
       (try clear hi)
       refine hK.out _ _ ⟨(blk_cell BK338.out 0).trans rfl, (blk_cell BK338.out 1).trans rfl, (blk_cell BK338.out 2).trans rfl, (ce_ HB.out hw339_0 :), (ce_ HB.out hw339_1 :), (ce_ HB.out hw339_2 :)⟩ (fun hHeld => ?_); clear hK K; refine n_ (some 30) ?_; refine p_ 7 (some 31) HT_.out (bm 8 255) ?_; refine done_ (done_of HT_.out (by kernel_rfl)) ?_; try go_wp2
       go_roundg k1
       case measure => have := HK1.out; omega
       case rel => exact ⟨(wrap64 ((ji6) + 1)), (x10_1), (by first | rfl | (simp; done) | (simp only [← hji6] <;> (first | rfl | simp)) | (simp [*]; done)), (by first | rfl | (simp; done) | (simp [*]; done)), H', ⟨by have := HK1.out; omega⟩, ⟨by exact BK338.out⟩, ⟨(a3_ HB.out GE338.out)⟩⟩
      ·
       rw [if_neg c10] at H; have c10b0 : decide (t340 < 0) = false := decide_eq_false c10; clear c10; have H' := Aside0.mk H; clear H; try go_wp2
       have n0_ := Aside0.mk (blk_drew BK338.out); have n1_ := Aside0.mk (below_drew1 HB.out); clear BK338; clear HB; have BK338 := n0_; have HB := n1_; clear n0_ n1_; have p339 : 0 ≤ ((ji6) : Int) := d_; have q339 : (ji6) < (l0.length : Int) := d_; obtain ⟨ad339, e339, hx339_0, hx339_1, hx339_2⟩ := at_T46 HR0.out (ji6) p339 q339; have hw339_2 := hx339_2; have hw339_1 := hx339_1; have hw339_0 := hx339_0; cases e339; replace hx339_0 := ce_ HB.out hx339_0; replace hx339_1 := ce_ HB.out hx339_1; replace hx339_2 := ce_ HB.out hx339_2; replace p339 := eq_true p339; replace q339 := eq_true q339; refine start_ (n := 8) (S := fun w' => w'.cell? ⟨gb338, 0, none⟩ = some (.int .i64 a1_0) ∧ w'.cell? ⟨gb338, 1, none⟩ = some (.int .i64 a1_1) ∧ w'.cell? ⟨gb338, 2, none⟩ = some (.int .i64 a1_2) ∧ w'.cell? (ad339.add (((ji6)).toNat * 3)) = some (.int .i64 ((rd_T46 l0 (ji6)).f0)) ∧ w'.cell? ⟨(ad339.add (((ji6)).toNat * 3)).block, (ad339.add (((ji6)).toNat * 3)).off + 1, none⟩ = some (.int .i64 ((rd_T46 l0 (ji6)).f1)) ∧ w'.cell? ⟨(ad339.add (((ji6)).toNat * 3)).block, (ad339.add (((ji6)).toNat * 3)).off + 2, none⟩ = some (.int .i64 ((rd_T46 l0 (ji6)).f2))) (ds := []) #[false, false, false, false, false, false, false, false] (by kernel_rfl) rfl rfl ⟨(blk_cell BK338.out 0).trans rfl, (blk_cell BK338.out 1).trans rfl, (blk_cell BK338.out 2).trans rfl, (ce_ HB.out hw339_0 :), (ce_ HB.out hw339_1 :), (ce_ HB.out hw339_2 :)⟩ (fun hHeld => ?_); refine with_tabW impl_Entry_93.tab5 impl_Entry_93.bits5 (fun HT_ HW_ => ?_)
       generalize wr.drew = w13 at BK338 HB hx339_0 hx339_1 hx339_2 hHeld ⊢; refine p_ 0 (some 24) HT_.out (bm 8 1) ?_; refine p_ 1 (some 25) HT_.out (bm 8 3) ?_; refine p_ 2 (some 26) HT_.out (bm 8 7) ?_; refine p_ 3 (some 27) HT_.out (bm 8 15) ?_; refine t_ 4 (some 28) (bm 8 31) (take_ofW HT_.out HW_.out (by kernel_rfl)) hHeld ?_; refine t_ 5 (some 29) (bm 8 63) (take_ofW HT_.out HW_.out (by kernel_rfl)) hHeld ?_; refine one_ (i := 6) (N := some 30) (bm 8 127) rfl rfl (one_of HT_.out (by kernel_rfl)) (by decide) (fun K hK => ?_); refine goes_t Try.func84 (by kernel_rfl) rfl #[.agg #[.int .i64 ((rd_T46 l0 (ji6)).f0), .int .i64 ((rd_T46 l0 (ji6)).f1), .int .i64 ((rd_T46 l0 (ji6)).f2)], .agg #[.int .i64 a1_0, .int .i64 a1_1, .int .i64 a1_2]] (by rfl) rfl rfl rfl (by (try simp only [List.map_toArray, List.map_cons, List.map_nil]); first | done | (simp only [hji6]; rfl) | rfl | (simp only [List.length_drop, List.length_take]; rfl)) ?_; with_reducible refine (impl_Entry_order.calls k1 ((rd_T46 l0 (ji6)).f0) ((rd_T46 l0 (ji6)).f1) ((rd_T46 l0 (ji6)).f2) a1_0 a1_1 a1_2 t340 _ A9.out).mono ?_
       rintro e w14 ⟨rfl, hb⟩; refine ⟨_, rfl, ?_⟩; have n0_ := Aside0.mk (blk_below BK338.out hb); have n1_ := Aside0.mk (below_step HB.out hb); clear BK338; clear HB; have BK338 := n0_; have HB := n1_; clear n0_ n1_; (try clear hb)
       (try clear hb2)
       (try clear hk)
       (try clear hi)
       refine hK.out _ _ ⟨(blk_cell BK338.out 0).trans rfl, (blk_cell BK338.out 1).trans rfl, (blk_cell BK338.out 2).trans rfl, (ce_ HB.out hw339_0 :), (ce_ HB.out hw339_1 :), (ce_ HB.out hw339_2 :)⟩ (fun hHeld => ?_); clear hK K; refine n_ (some 30) ?_; refine p_ 7 (some 31) HT_.out (bm 8 255) ?_; refine done_ (done_of HT_.out (by kernel_rfl)) ?_; try go_wp2
       go_roundg k1
       case measure => have := HK1.out; omega
       case rel => exact ⟨(x9_1), (ji6), (by first | rfl | (simp; done) | (simp [*]; done)), (by first | rfl | (simp; done) | (simp only [← hji6] <;> (first | rfl | simp)) | (simp [*]; done)), H', ⟨by have := HK1.out; omega⟩, ⟨by exact BK338.out⟩, ⟨(a3_ HB.out GE338.out)⟩⟩
     ·
      rw [if_neg c8] at H; exact absurd H (by simp)
    ·
     rw [if_neg c7] at H; exact absurd H (by simp)
   ·
    rw [if_neg c5] at H; have c5b0 : decide (x9_1 < x10_1) = false := decide_eq_false c5; clear c5; by_cases c15 : x9_1 < (l0.length : Int)
    ·
     rw [if_pos c15] at H; have c15b0 : decide (x9_1 < (l0.length : Int)) = true := decide_eq_true c15; clear c15; by_cases c16 : 0 ≤ x9_1
     ·
      rw [if_pos c16] at H; have c16b0 : decide (0 ≤ x9_1) = true := decide_eq_true c16; clear c16; by_cases c17 : x9_1 < (l0.length : Int)
      ·
       rw [if_pos c17] at H; have c17b0 : decide (x9_1 < (l0.length : Int)) = true := decide_eq_true c17; clear c17; replace H := Option.bind_eq_some_iff.mp H; obtain ⟨t342, A180, H⟩ := H; replace H : (some (x9_1, (t342 == 0))) = some (r1, r2) := H; have A18 := Aside0.mk A180; clear A180; simp only [Option.some.injEq, Prod.mk.injEq] at H; obtain ⟨rfl, rfl⟩ := H; try go_wp2
       have n0_ := Aside0.mk (blk_drew BK338.out); have n1_ := Aside0.mk (below_drew1 HB.out); clear BK338; clear HB; have BK338 := n0_; have HB := n1_; clear n0_ n1_; have p341 : 0 ≤ (x9_1 : Int) := d_; have q341 : x9_1 < (l0.length : Int) := d_; obtain ⟨ad341, e341, hx341_0, hx341_1, hx341_2⟩ := at_T46 HR0.out x9_1 p341 q341; have hw341_2 := hx341_2; have hw341_1 := hx341_1; have hw341_0 := hx341_0; cases e341; replace hx341_0 := ce_ HB.out hx341_0; replace hx341_1 := ce_ HB.out hx341_1; replace hx341_2 := ce_ HB.out hx341_2; replace p341 := eq_true p341; replace q341 := eq_true q341; refine start_ (n := 16) (S := fun w' => w'.cell? ⟨gb338, 0, none⟩ = some (.int .i64 a1_0) ∧ w'.cell? ⟨gb338, 1, none⟩ = some (.int .i64 a1_1) ∧ w'.cell? ⟨gb338, 2, none⟩ = some (.int .i64 a1_2) ∧ w'.cell? (ad341.add ((x9_1).toNat * 3)) = some (.int .i64 ((rd_T46 l0 x9_1).f0)) ∧ w'.cell? ⟨(ad341.add ((x9_1).toNat * 3)).block, (ad341.add ((x9_1).toNat * 3)).off + 1, none⟩ = some (.int .i64 ((rd_T46 l0 x9_1).f1)) ∧ w'.cell? ⟨(ad341.add ((x9_1).toNat * 3)).block, (ad341.add ((x9_1).toNat * 3)).off + 2, none⟩ = some (.int .i64 ((rd_T46 l0 x9_1).f2))) (ds := []) #[false, false, false, false, false, false, false, false, false, false, false, false, false, false, false, false] (by kernel_rfl) rfl rfl ⟨(blk_cell BK338.out 0).trans rfl, (blk_cell BK338.out 1).trans rfl, (blk_cell BK338.out 2).trans rfl, (ce_ HB.out hw341_0 :), (ce_ HB.out hw341_1 :), (ce_ HB.out hw341_2 :)⟩ (fun hHeld => ?_); refine with_tabW impl_Entry_93.tab8 impl_Entry_93.bits8 (fun HT_ HW_ => ?_)
       generalize wr.drew = w19 at BK338 HB hx341_0 hx341_1 hx341_2 hHeld ⊢; refine p_ 0 (some 35) HT_.out (bm 16 1) ?_; refine p_ 1 (some 36) HT_.out (bm 16 3) ?_; refine p_ 2 (some 37) HT_.out (bm 16 7) ?_; refine p_ 3 (some 38) HT_.out (bm 16 15) ?_; refine p_ 4 (some 39) HT_.out (bm 16 31) ?_; refine p_ 5 (some 40) HT_.out (bm 16 63) ?_; refine p_ 6 (some 41) HT_.out (bm 16 127) ?_; refine p_ 7 (some 42) HT_.out (bm 16 255) ?_; refine p_ 8 (some 43) HT_.out (bm 16 511) ?_; refine t_ 9 (some 44) (bm 16 1023) (take_ofW HT_.out HW_.out (by kernel_rfl)) hHeld ?_; refine t_ 10 (some 45) (bm 16 2047) (take_ofW HT_.out HW_.out (by kernel_rfl)) hHeld ?_; refine one_ (i := 11) (N := some 46) (bm 16 4095) rfl rfl (one_of HT_.out (by kernel_rfl)) (by decide) (fun K hK => ?_); refine goes_t Try.func84 (by kernel_rfl) rfl #[.agg #[.int .i64 ((rd_T46 l0 x9_1).f0), .int .i64 ((rd_T46 l0 x9_1).f1), .int .i64 ((rd_T46 l0 x9_1).f2)], .agg #[.int .i64 a1_0, .int .i64 a1_1, .int .i64 a1_2]] (by rfl) rfl rfl rfl (by (try simp only [List.map_toArray, List.map_cons, List.map_nil]); first | done | rfl | (simp only [List.length_drop, List.length_take]; rfl)) ?_; with_reducible refine (impl_Entry_order.calls k1 ((rd_T46 l0 x9_1).f0) ((rd_T46 l0 x9_1).f1) ((rd_T46 l0 x9_1).f2) a1_0 a1_1 a1_2 t342 _ A18.out).mono ?_
       rintro e w20 ⟨rfl, hb⟩; refine ⟨_, rfl, ?_⟩; have n0_ := Aside0.mk (blk_below BK338.out hb); have n1_ := Aside0.mk (below_step HB.out hb); clear BK338; clear HB; have BK338 := n0_; have HB := n1_; clear n0_ n1_; (try clear hb)
       (try clear hb2)
       (try clear hk)
       (try clear hi)
       refine hK.out _ _ ⟨(blk_cell BK338.out 0).trans rfl, (blk_cell BK338.out 1).trans rfl, (blk_cell BK338.out 2).trans rfl, (ce_ HB.out hw341_0 :), (ce_ HB.out hw341_1 :), (ce_ HB.out hw341_2 :)⟩ (fun hHeld => ?_); clear hK K; refine n_ (some 46) ?_; refine p_ 12 (some 47) HT_.out (bm 16 8191) ?_; refine p_ 13 (some 48) HT_.out (bm 16 16383) ?_; refine p_ 14 (some 6) HT_.out (bm 16 32767) ?_; refine p_ 15 (some 7) HT_.out (bm 16 65535) ?_; refine done_ (done_of HT_.out (by kernel_rfl)) ?_; try go_wp2
       go_ret2
       exact ⟨a2_, (a3_ HB.out GE338.out)⟩
      ·
       rw [if_neg c17] at H; exact absurd H (by simp)
     ·
      rw [if_neg c16] at H; exact absurd H (by simp)
    ·
     rw [if_neg c15] at H; have c15b0 : decide (x9_1 < (l0.length : Int)) = false := decide_eq_false c15; clear c15; simp only [Option.some.injEq, Prod.mk.injEq] at H; obtain ⟨rfl, rfl⟩ := H; try go_wp2
     have n0_ := Aside0.mk (blk_drew BK338.out); have n1_ := Aside0.mk (below_drew1 HB.out); clear BK338; clear HB; have BK338 := n0_; have HB := n1_; clear n0_ n1_; refine start_ (n := 16) (S := fun w' => True) (ds := []) #[false, false, false, false, false, false, false, false, false, false, false, false, false, false, false, false] (by kernel_rfl) rfl rfl trivial (fun hHeld => ?_); refine with_tabW impl_Entry_93.tab8 impl_Entry_93.bits8 (fun HT_ HW_ => ?_); generalize wr.drew = w21 at BK338 HB hHeld ⊢; refine p_ 0 (some 35) HT_.out (bm 16 1) ?_; refine p_ 1 (some 36) HT_.out (bm 16 3) ?_; refine p_ 2 (some 37) HT_.out (bm 16 7) ?_; refine p_ 3 (some 38) HT_.out (bm 16 15) ?_; refine p_ 4 (some 39) HT_.out (bm 16 31) ?_; refine u_ 5 (some 40) HT_.out (bm 16 63) ?_; refine u_ 6 (some 41) HT_.out (bm 16 127) ?_; refine u_ 7 (some 42) HT_.out (bm 16 255) ?_; refine u_ 8 (some 43) HT_.out (bm 16 511) ?_; refine u_ 9 (some 44) HT_.out (bm 16 1023) ?_; refine u_ 10 (some 45) HT_.out (bm 16 2047) ?_; refine u_ 11 (some 46) HT_.out (bm 16 4095) ?_; refine u_ 12 (some 47) HT_.out (bm 16 8191) ?_; refine p_ 13 (some 48) HT_.out (bm 16 16383) ?_; refine p_ 14 (some 6) HT_.out (bm 16 32767) ?_; refine p_ 15 (some 7) HT_.out (bm 16 65535) ?_; refine done_ (done_of HT_.out (by kernel_rfl)) ?_; try go_wp2
     go_ret2
     exact ⟨a2_, (a3_ HB.out GE338.out)⟩

/-! ### impl_place: function 85 -/
def impl_place.f (k : Nat) (l0 : List (S46)) (a1_0 : Int) (a1_1 : Int) (a1_2 : Int) : Option (Int × Bool) := (impl_Entry_93.f k l0 a1_0 a1_1 a1_2).bind fun bt344 => (some (bt344.1, bt344.2))
theorem impl_place.mono : ∀ a0 a1 a2 a3 k, LeO (impl_place.f k a0 a1 a2 a3) (impl_place.f (k + 1) a0 a1 a2 a3) := by
  intro a0 a1 a2 a3 k
  unfold impl_place.f
  repeat' first | (with_reducible exact impl_Entry_93.mono _ _ _ _ _) | (with_reducible exact LeO.refl _) | (with_reducible exact LeO.none _) | (with_reducible refine LeO.ite ?_ ?_) | (with_reducible refine LeO.bind ?_ (fun _ => ?_)) | exact impl_Entry_93.mono _ _ _ _ _ | exact LeO.none _ | refine LeO.ite ?_ ?_ | refine LeO.bind ?_ (fun _ => ?_)
set_option maxHeartbeats 8000000 in
set_option maxRecDepth 100000 in
theorem impl_place.calls (k : Nat) (A0 : Option Addr) (c0 : Nat) (l0 : List (S46)) (a1_0 : Int) (a1_1 : Int) (a1_2 : Int) (r1 : Int) (r2 : Bool) (w : World) (hr0 : Kd.C k46 w A0 l0.length l0) (hc0 : l0.length ≤ c0) (h : impl_place.f k l0 a1_0 a1_1 a1_2 = some (r1, r2)) :
    Calls Try.prog 85 #[.slice A0 l0.length c0, .agg #[.int .i64 a1_0, .int .i64 a1_1, .int .i64 a1_2]] w fun e w' => e = .returned (.tuple #[.int .i64 r1, .bool r2]) ∧ Below w.heap.size w w' := by
 have hu46 := Try.underlying46; have HR0 := Aside0.mk hr0; have HC0 := Aside0.mk hc0; clear hr0 hc0; have HB := Aside0.mk (Below.refl w.heap.size w); have H : ((impl_Entry_93.f k l0 a1_0 a1_1 a1_2).bind fun bt344 => (some (bt344.1, bt344.2))) = some (r1, r2) := h; clear h; replace H := Option.bind_eq_some_iff.mp H; obtain ⟨⟨t344, t345⟩, A30, H⟩ := H; replace H : (some (t344, t345)) = some (r1, r2) := H; have A3 := Aside0.mk A30; clear A30; simp only [Option.some.injEq, Prod.mk.injEq] at H; obtain ⟨rfl, rfl⟩ := H; go_enter Try.func85, Try.ntmps85; go_wp2_with (first | ((with_reducible refine gate_dst (N := 3) rfl ?_); refine be_ 3 #[.int .i64 a1_0, .int .i64 a1_1, .int .i64 a1_2] 46 ?_; intro gb343 hg w4 hbox hb; have n0_ := Aside0.mk (below_step HB.out hb); have n1_ := Aside0.mk (hbox); have n2_ := Aside0.mk ((by rw [hg]; exact (below_size HB.out) : w.heap.size ≤ gb343)); have n3_ := n2_; clear HB; have HB := n0_; have BK343 := n1_; have GW343 := n2_; have GE343 := n3_; clear n0_ n1_ n2_ n3_; clear hb hbox hg; obtain ⟨⟨hcz5_0, hcz5_1, hcz5_2⟩, hfz5_0, hfz5_1, hfz5_2⟩ := cells_3 BK343.out) | ((with_reducible refine gate_callee (f := 93) rfl ?_); refine gl_ (some 8) Try.func93 #[.slice A0 l0.length c0, .agg #[.int .i64 a1_0, .int .i64 a1_1, .int .i64 a1_2], .func (.func 84) #[] #[]] ?_; (with_reducible refine (impl_Entry_93.calls k _ _ l0 a1_0 a1_1 a1_2 t344 t345 _ ?side1 ?side2 A3.out).mono ?_); (case side1 => exact (cb_ HR0.out HB.out)); (case side2 => exact HC0.out); rintro e w6 ⟨rfl, hb⟩; refine ⟨_, rfl, ?_⟩; have n0_ := Aside0.mk (blk_below BK343.out hb); have n1_ := Aside0.mk (below_step HB.out hb); clear BK343; clear HB; have BK343 := n0_; have HB := n1_; clear n0_ n1_; (try clear hb); (try clear hb2); (try clear hk); (try clear hi)))
 go_ret2
 exact ⟨a2_, (a3_ HB.out GE343.out)⟩

/-! ### impl_idAt: function 71 -/
def impl_idAt.f (k : Nat) (l0 : List (S46)) (a1 : Int) (a2 : Int) : Option (Int) := (impl_place.f k l0 a1 a2 0).bind fun bt346 => (if bt346.2 = true then (if 0 ≤ bt346.1 then (if bt346.1 < (l0.length : Int) then (some ((rd_T46 l0 bt346.1).f2)) else (none)) else (none)) else (some 0))
theorem impl_idAt.mono : ∀ a0 a1 a2 k, LeO (impl_idAt.f k a0 a1 a2) (impl_idAt.f (k + 1) a0 a1 a2) := by
  intro a0 a1 a2 k
  unfold impl_idAt.f
  repeat' first | (with_reducible exact impl_place.mono _ _ _ _ _) | (with_reducible exact LeO.refl _) | (with_reducible exact LeO.none _) | (with_reducible refine LeO.ite ?_ ?_) | (with_reducible refine LeO.bind ?_ (fun _ => ?_)) | exact impl_place.mono _ _ _ _ _ | exact LeO.none _ | refine LeO.ite ?_ ?_ | refine LeO.bind ?_ (fun _ => ?_)
set_option maxHeartbeats 8000000 in
set_option maxRecDepth 100000 in
theorem impl_idAt.calls (k : Nat) (A0 : Option Addr) (c0 : Nat) (l0 : List (S46)) (a1 : Int) (a2 : Int) (r : Int) (w : World) (hr0 : Kd.C k46 w A0 l0.length l0) (hc0 : l0.length ≤ c0) (h : impl_idAt.f k l0 a1 a2 = some r) :
    Calls Try.prog 71 #[.slice A0 l0.length c0, .int .i64 a1, .int .i64 a2] w fun e w' => e = .returned (.int .i64 r) ∧ Below w.heap.size w w' := by
 have hu46 := Try.underlying46; have HR0 := Aside0.mk hr0; have HC0 := Aside0.mk hc0; clear hr0 hc0; have HB := Aside0.mk (Below.refl w.heap.size w); have H : ((impl_place.f k l0 a1 a2 0).bind fun bt346 => (if bt346.2 = true then (if 0 ≤ bt346.1 then (if bt346.1 < (l0.length : Int) then (some ((rd_T46 l0 bt346.1).f2)) else (none)) else (none)) else (some 0))) = some r := h; clear h; replace H := Option.bind_eq_some_iff.mp H; obtain ⟨⟨t346, t347⟩, A40, H⟩ := H; replace H : (if t347 = true then (if 0 ≤ t346 then (if t346 < (l0.length : Int) then (some ((rd_T46 l0 t346).f2)) else (none)) else (none)) else (some 0)) = some r := H; have A4 := Aside0.mk A40; clear A40; by_cases c5 : t347 = true
 ·
  subst c5; have H1 : (if 0 ≤ t346 then (if t346 < (l0.length : Int) then (some ((rd_T46 l0 t346).f2)) else (none)) else (none)) = some r := by rw [if_pos rfl] at H; exact H
  clear H; have H := H1; clear H1; by_cases c6 : 0 ≤ t346
  ·
   rw [if_pos c6] at H; have c6b0 : decide (0 ≤ t346) = true := decide_eq_true c6; clear c6; by_cases c7 : t346 < (l0.length : Int)
   ·
    rw [if_pos c7] at H; have c7b0 : decide (t346 < (l0.length : Int)) = true := decide_eq_true c7; clear c7; obtain rfl := Option.some.inj H; go_enter Try.func71, Try.ntmps71; go_wp2_with (first | ((with_reducible refine gate_callee (f := 85) rfl ?_); refine gl_ (some 14) Try.func85 #[.slice A0 l0.length c0, .agg #[.int .i64 a1, .int .i64 a2, .int .i64 0]] ?_; (with_reducible refine (impl_place.calls k _ _ l0 a1 a2 0 t346 true _ ?side1 ?side2 A4.out).mono ?_); (case side1 => repeat (first | exact HR0.out | (with_reducible refine Kd.C_alloc ?_ _) | (with_reducible refine Kd.C_drewN ?_ _) | (with_reducible refine Kd.C_drew ?_))); (case side2 => exact HC0.out); rintro e w8 ⟨rfl, hb⟩; refine ⟨_, rfl, ?_⟩; have n0_ := Aside0.mk (below_step HB.out hb); clear HB; have HB := n0_; clear n0_; (try clear hb); (try clear hb2); (try clear hk); (try clear hi); have p348 : 0 ≤ (t346 : Int) := d_; have q348 : t346 < (l0.length : Int) := d_; obtain ⟨ad348, e348, hx348_0, hx348_1, hx348_2⟩ := at_T46 HR0.out t346 p348 q348; cases e348; replace hx348_0 := ce_ HB.out hx348_0; replace hx348_1 := ce_ HB.out hx348_1; replace hx348_2 := ce_ HB.out hx348_2; replace p348 := eq_true p348; replace q348 := eq_true q348))
    go_ret
    exact ⟨a2_, (a1_ HB.out)⟩
   ·
    rw [if_neg c7] at H; exact absurd H (by simp)
  ·
   rw [if_neg c6] at H; exact absurd H (by simp)
 ·
  replace c5 := Bool.eq_false_iff.mpr c5; subst c5; have H1 : (some 0) = some r := by rw [if_neg (show ¬ (false = true) by decide)] at H; exact H
  clear H; have H := H1; clear H1; obtain rfl := Option.some.inj H; go_enter Try.func71, Try.ntmps71; go_wp2_with (first | ((with_reducible refine gate_callee (f := 85) rfl ?_); refine gl_ (some 14) Try.func85 #[.slice A0 l0.length c0, .agg #[.int .i64 a1, .int .i64 a2, .int .i64 0]] ?_; (with_reducible refine (impl_place.calls k _ _ l0 a1 a2 0 t346 false _ ?side1 ?side2 A4.out).mono ?_); (case side1 => repeat (first | exact HR0.out | (with_reducible refine Kd.C_alloc ?_ _) | (with_reducible refine Kd.C_drewN ?_ _) | (with_reducible refine Kd.C_drew ?_))); (case side2 => exact HC0.out); rintro e w9 ⟨rfl, hb⟩; refine ⟨_, rfl, ?_⟩; have n0_ := Aside0.mk (below_step HB.out hb); clear HB; have HB := n0_; clear n0_; (try clear hb); (try clear hb2); (try clear hk); (try clear hi)))
  go_ret
  exact ⟨a2_, (a1_ HB.out)⟩

end Go.Proofs.Ytpkeddplfnannaa.Print
