-- Printed by wip/myprint.py over the kit's print, in this session's own call.
import Derived.Test.YtepbkhgffjinjaaPrint5
namespace Go.Proofs.Ytepbkhgffjinjaa.Print
open Go.RowKit Go.Proofs.YtepbkhgffjinjaaW.PrintWords Go.Proofs.YtepbkhgffjinjaaW.PrintLast Go.Proofs.YtepbkhgffjinjaaW.PrintMore
attribute [local go_sem] max2_int min2_int max_two min_two max_three min_three max_four min_four   -- for this text's walks alone
set_option maxHeartbeats 8000000
set_option maxRecDepth 100000
set_option linter.unusedVariables false
set_option linter.unusedSimpArgs false

/-! ### impl_SpansLess: function 10 -/
mutual
def impl_SpansLess.j0 : Nat → List (S60) → List (S60) → Bool → Option ((List (S60)))
  | 0, _, _, _ => none
  | k + 1, x0, x1, x17 => if x17 = true then (some ([] : List (S60))) else (impl_SpansLess.l0 k x1 (([] : List (S60))) x0 (x0.length : Int) 0)
def impl_SpansLess.l0 : Nat → List (S60) → List (S60) → List (S60) → Int → Int → Option ((List (S60)))
  | 0, _, _, _, _, _ => none
  | k + 1, x1, x5, x19, x20, x21 => if x21 < x20 then (if 0 ≤ x21 then (if x21 < (x19.length : Int) then (impl_SpansLess.l1 k x1 x5 x19 x20 x21 x1 (x1.length : Int) 0 ((rd_T60 x19 x21).f0) ((rd_T60 x19 x21).f1)) else (none)) else (none)) else ((impl_short.f x5).bind fun t285 => (some t285))
def impl_SpansLess.l1 : Nat → List (S60) → List (S60) → List (S60) → Int → Int → List (S60) → Int → Int → Int → Int → Option ((List (S60)))
  | 0, _, _, _, _, _, _, _, _, _, _ => none
  | k + 1, x1, x5, x19, x20, x21, x25, x26, x27, x290000, x290001 => if x27 < x26 then (if 0 ≤ x27 then (if x27 < (x25.length : Int) then (if ((rd_T60 x25 x27).f1) < x290000 then (impl_SpansLess.j3 k x1 x5 x19 x20 x21 x25 x26 x27 true x290000 x290001 ((rd_T60 x25 x27).f0) ((rd_T60 x25 x27).f1)) else (impl_SpansLess.j3 k x1 x5 x19 x20 x21 x25 x26 x27 (decide (((rd_T60 x25 x27).f0) > x290001)) x290000 x290001 ((rd_T60 x25 x27).f0) ((rd_T60 x25 x27).f1))) else (none)) else (none)) else (if x290000 ≤ x290001 then (if x5.length < 8796093022208 then (impl_SpansLess.l0 k x1 (x5 ++ [(⟨x290000, x290001⟩ : S60)]) x19 x20 (wrap64 (x21 + 1))) else (none)) else (impl_SpansLess.l0 k x1 x5 x19 x20 (wrap64 (x21 + 1))))
def impl_SpansLess.j3 : Nat → List (S60) → List (S60) → List (S60) → Int → Int → List (S60) → Int → Int → Bool → Int → Int → Int → Int → Option ((List (S60)))
  | 0, _, _, _, _, _, _, _, _, _, _, _, _, _ => none
  | k + 1, x1, x5, x19, x20, x21, x25, x26, x27, x42, x290000, x290001, x295000, x295001 => if x42 = true then (impl_SpansLess.l1 k x1 x5 x19 x20 x21 x25 x26 (wrap64 (x27 + 1)) x290000 x290001) else (if x295000 > x290000 then (if x5.length < 8796093022208 then (impl_SpansLess.l1 k x1 (x5 ++ [(⟨x290000, wrap64 (x295000 - 1)⟩ : S60)]) x19 x20 x21 x25 x26 (wrap64 (x27 + 1)) (wrap64 (x295001 + 1)) x290001) else (none)) else (impl_SpansLess.l1 k x1 x5 x19 x20 x21 x25 x26 (wrap64 (x27 + 1)) (wrap64 (x295001 + 1)) x290001))
end
def impl_SpansLess.f (k : Nat) (l0 : List (S60)) (l1 : List (S60)) : Option ((List (S60))) := (impl_SpansRight.f k l0).bind fun t280 => (if t280 = true then ((impl_SpansRight.f k l1).bind fun t281 => (impl_SpansLess.j0 k l0 l1 (!t281))) else (impl_SpansLess.j0 k l0 l1 true))
theorem impl_SpansLess.mono_l : ∀ k, (∀ y0 y1 y2, LeO (impl_SpansLess.j0 k y0 y1 y2) (impl_SpansLess.j0 (k + 1) y0 y1 y2)) ∧ (∀ y0 y1 y2 y3 y4, LeO (impl_SpansLess.l0 k y0 y1 y2 y3 y4) (impl_SpansLess.l0 (k + 1) y0 y1 y2 y3 y4)) ∧ (∀ y0 y1 y2 y3 y4 y5 y6 y7 y8 y9, LeO (impl_SpansLess.l1 k y0 y1 y2 y3 y4 y5 y6 y7 y8 y9) (impl_SpansLess.l1 (k + 1) y0 y1 y2 y3 y4 y5 y6 y7 y8 y9)) ∧ (∀ y0 y1 y2 y3 y4 y5 y6 y7 y8 y9 y10 y11 y12, LeO (impl_SpansLess.j3 k y0 y1 y2 y3 y4 y5 y6 y7 y8 y9 y10 y11 y12) (impl_SpansLess.j3 (k + 1) y0 y1 y2 y3 y4 y5 y6 y7 y8 y9 y10 y11 y12))
  | 0 => ⟨fun _ _ _ r h => by simp [impl_SpansLess.j0] at h, fun _ _ _ _ _ r h => by simp [impl_SpansLess.l0] at h, fun _ _ _ _ _ _ _ _ _ _ r h => by simp [impl_SpansLess.l1] at h, fun _ _ _ _ _ _ _ _ _ _ _ _ _ r h => by simp [impl_SpansLess.j3] at h⟩
  | k + 1 => by
    obtain ⟨ih0, ih1, ih2, ih3⟩ := impl_SpansLess.mono_l k
    refine ⟨?_, ?_, ?_, ?_⟩
    (intro y0 y1 y2; unfold impl_SpansLess.j0); rotate_left
    (intro y0 y1 y2 y3 y4; unfold impl_SpansLess.l0); rotate_left
    (intro y0 y1 y2 y3 y4 y5 y6 y7 y8 y9; unfold impl_SpansLess.l1); rotate_left
    (intro y0 y1 y2 y3 y4 y5 y6 y7 y8 y9 y10 y11 y12; unfold impl_SpansLess.j3); rotate_left
    all_goals (repeat' first | (with_reducible exact ih0 _ _ _) | (with_reducible exact ih1 _ _ _ _ _) | (with_reducible exact ih2 _ _ _ _ _ _ _ _ _ _) | (with_reducible exact ih3 _ _ _ _ _ _ _ _ _ _ _ _ _) | (with_reducible exact impl_SpansRight.mono _ _) | (with_reducible exact LeO.refl _) | (with_reducible exact LeO.none _) | (with_reducible refine LeO.ite ?_ ?_) | (with_reducible refine LeO.bind ?_ (fun _ => ?_)) | exact ih0 _ _ _ | exact ih1 _ _ _ _ _ | exact ih2 _ _ _ _ _ _ _ _ _ _ | exact ih3 _ _ _ _ _ _ _ _ _ _ _ _ _ | exact impl_SpansRight.mono _ _ | exact LeO.none _ | refine LeO.ite ?_ ?_ | refine LeO.bind ?_ (fun _ => ?_))
theorem impl_SpansLess.mono : ∀ a0 a1 k, LeO (impl_SpansLess.f k a0 a1) (impl_SpansLess.f (k + 1) a0 a1) := by
  intro a0 a1 k
  obtain ⟨ih0, ih1, ih2, ih3⟩ := impl_SpansLess.mono_l k
  unfold impl_SpansLess.f
  repeat' first | (with_reducible exact ih0 _ _ _) | (with_reducible exact ih1 _ _ _ _ _) | (with_reducible exact ih2 _ _ _ _ _ _ _ _ _ _) | (with_reducible exact ih3 _ _ _ _ _ _ _ _ _ _ _ _ _) | (with_reducible exact impl_SpansRight.mono _ _) | (with_reducible exact LeO.refl _) | (with_reducible exact LeO.none _) | (with_reducible refine LeO.ite ?_ ?_) | (with_reducible refine LeO.bind ?_ (fun _ => ?_)) | exact ih0 _ _ _ | exact ih1 _ _ _ _ _ | exact ih2 _ _ _ _ _ _ _ _ _ _ | exact ih3 _ _ _ _ _ _ _ _ _ _ _ _ _ | exact impl_SpansRight.mono _ _ | exact LeO.none _ | refine LeO.ite ?_ ?_ | refine LeO.bind ?_ (fun _ => ?_)
theorem impl_SpansLess.calls (k : Nat) (A0 : Option Addr) (c0 : Nat) (l0 : List (S60)) (A1 : Option Addr) (c1 : Nat) (l1 : List (S60)) (r : List (S60)) (w : World) (hr0 : Kd.C k60 w A0 l0.length l0) (hc0 : l0.length ≤ c0) (hr1 : Kd.C k60 w A1 l1.length l1) (hc1 : l1.length ≤ c1) (h : impl_SpansLess.f k l0 l1 = some r) :
    Calls Try.prog 10 #[.slice A0 l0.length c0, .slice A1 l1.length c1] w fun e w' => ∃ v0_ : Value, e = .returned (v0_) ∧ Kd.R k60 60 w' w.heap.size (fun _ => True) v0_ r ∧ Below w.heap.size w w' := by
 have hu60 := Try.underlying60; have HR0 := Aside0.mk hr0; have HC0 := Aside0.mk hc0; clear hr0 hc0; have HR1 := Aside0.mk hr1; have HC1 := Aside0.mk hc1; clear hr1 hc1; have HB := Aside0.mk (Below.refl w.heap.size w); have H : ((impl_SpansRight.f k l0).bind fun t280 => (if t280 = true then ((impl_SpansRight.f k l1).bind fun t281 => (impl_SpansLess.j0 k l0 l1 (!t281))) else (impl_SpansLess.j0 k l0 l1 true))) = some r := h; clear h; have HC3 := Aside0.mk H; clear H; go_enter Try.func10, Try.ntmps10; go_upto_region 1 with (fail)
 go_cut [17] (fun v17 wc => ∃ (kq : Nat) (x17_2 : Bool), v17 = .bool x17_2 ∧ Aside0 (impl_SpansLess.j0 kq l0 l1 x17_2 = some r) ∧ Aside0 (kq ≤ k) ∧ Aside0 (Below w.heap.size w wc))
 case first =>
  have H := HC3.out; clear HC3; replace H := Option.bind_eq_some_iff.mp H; obtain ⟨t280, A40, H⟩ := H; have A4 := Aside0.mk A40; clear A40; by_cases c5 : t280 = true
  ·
   subst c5; rw [if_pos rfl] at H; replace H := Option.bind_eq_some_iff.mp H; obtain ⟨t281, A60, H⟩ := H; have A6 := Aside0.mk A60; clear A60; have H' := Aside0.mk H; clear H; go_wp2_with (first | ((with_reducible refine gate_callee (f := 24) rfl ?_); refine gl_ (some 11) Try.func24 #[.slice A0 l0.length c0] ?_; (with_reducible refine (impl_SpansRight.calls k _ _ l0 true _ ?side1 HC0.out A4.out).mono ?_); (case side1 => exact (cb_ HR0.out HB.out)); rintro e w7 ⟨rfl, hb⟩; refine ⟨_, rfl, ?_⟩; replace HB := Aside0.mk (below_step HB.out hb); (try clear hb); (try clear hb2); (try clear hk); (try clear hi)) | (go_at_call 24; (with_reducible refine (impl_SpansRight.calls k _ _ l1 t281 _ ?side1 HC1.out A6.out).mono ?_); (case side1 => exact (cb_ HR1.out HB.out)); rintro e w8 ⟨rfl, hb⟩; replace HB := Aside0.mk (below_step HB.out hb); (try clear hb); (try clear hb2); (try clear hk); (try clear hi)))
   go_meet
   case rel => exact ⟨_, (!t281), (by first | rfl | (simp; done) | (simp [*]; done)), H', ⟨by first | omega | exact Nat.le_refl _⟩, ⟨(a1_ HB.out)⟩⟩
  ·
   replace c5 := Bool.eq_false_iff.mpr c5; subst c5; rw [if_neg (show ¬ (false = true) by decide)] at H; have H' := Aside0.mk H; clear H; go_wp2_with (first | ((with_reducible refine gate_callee (f := 24) rfl ?_); refine gl_ (some 11) Try.func24 #[.slice A0 l0.length c0] ?_; (with_reducible refine (impl_SpansRight.calls k _ _ l0 false _ ?side1 HC0.out A4.out).mono ?_); (case side1 => exact (cb_ HR0.out HB.out)); rintro e w9 ⟨rfl, hb⟩; refine ⟨_, rfl, ?_⟩; replace HB := Aside0.mk (below_step HB.out hb); (try clear hb); (try clear hb2); (try clear hk); (try clear hi)))
   go_meet
   case rel => exact ⟨_, (true), (by first | rfl | (simp; done) | (simp [*]; done)), H', ⟨by first | omega | exact Nat.le_refl _⟩, ⟨(a1_ HB.out)⟩⟩
 case rest =>
  clear HC3; (try clear c1); (try clear c2); (try clear p2); (try clear c5); obtain ⟨kq, x17_2, rfl, HA, HJ2, HB⟩ := hcut
  cases kq with
  | zero => exact absurd HA.out (by simp [impl_SpansLess.j0])
  | succ kj2 =>
   have H := HA.out; clear HA; simp only [impl_SpansLess.j0] at H; by_cases c10 : x17_2 = true
   ·
    subst c10; rw [if_pos rfl] at H; obtain rfl := Option.some.inj H; go_wp2
    go_ret
    exact ⟨_, a3_, by first | exact Kd.R_nil _ _ _ _ _ | exact Kd.N_nil _ _ _ _ _ | exact Kd.V_nil _ _ _ _ _ | exact Kd.Q_nil _ _ _ _ _ | exact Kd.S_nil _ _ _ _ _, (a1_ HB.out)⟩
   ·
    replace c10 := Bool.eq_false_iff.mpr c10; subst c10; rw [if_neg (show ¬ (false = true) by decide)] at H; obtain ⟨y282, hy282⟩ : ∃ y_ : List (S60), y_ = (([] : List (S60))) := ⟨_, rfl⟩; replace H : (impl_SpansLess.l0 kj2 l1 y282 l0 (l0.length : Int) 0) = some r := by first | (rw [hy282]; exact H) | exact H
    have Ny282 := Aside0.mk hy282; clear hy282; have H' := Aside0.mk H; clear H; go_wp2_with (first | ((with_reducible refine gate_dst (N := 18) rfl ?_); refine Kd.R_lit k60 _ 60 ?hg (N := 18) ?hd (xs := ([] : List (S60))) (inner := []) (ok := fun _ => True) (okp := fun _ => True) ?hr ?hp (fun _ hk => hk) trivial (Below.refl _ _) (Nat.le_refl _) (by simp) ?_; (case hd => rfl); (case hg => rfl); (case hr => first | (go_simp; done) | (go_simp; rfl)); (case hp => exact (Reps.none _ _)); intro v283 w11 ho12 hb hg_ hnew_; clear hg_ hnew_; (first | rw [← Ny282.out] at ho12 | (simp only [Int.reduceToNat] at ho12; rw [← Ny282.out] at ho12)); have HO284 := Aside0.mk (Kd.R_lower ho12 (below_size HB.out)); replace HB := Aside0.mk (below_step HB.out hb); clear hb ho12))
    go_loopg [5, 21] kj2 (fun kq v5 v21 w' => ∃ (x5_2 : List (S60)) (x21_2 : Int), v21 = .int .i64 x21_2 ∧ Aside0 (impl_SpansLess.l0 kq l1 x5_2 l0 (l0.length : Int) x21_2 = some r) ∧ Aside0 (kq ≤ kj2) ∧ Aside0 (Kd.R k60 60 w' w.heap.size (fun _ => True) v5 x5_2) ∧ Aside0 (Below w.heap.size w w'))
    case atStart => exact ⟨(y282), (0), (by first | rfl | (simp; done) | (simp [*]; done)), H', ⟨Nat.le_refl _⟩, ⟨(a2_ HO284.out)⟩, ⟨(a1_ HB.out)⟩⟩
    case round =>
     clear H'; (try clear c1); (try clear c2); (try clear p2); (try clear c5); (try clear c10); (try clear p2); obtain ⟨x5_2, x21_2, rfl, HA, HK2, HO_5, HB⟩ := hrel
     cases gk with
     | zero => exact absurd HA.out (by simp [impl_SpansLess.l0])
     | succ k2 =>
      have H := HA.out; clear HA; simp only [impl_SpansLess.l0] at H; by_cases c13 : x21_2 < (l0.length : Int)
      ·
       rw [if_pos c13] at H; have c13b0 : decide (x21_2 < (l0.length : Int)) = true := decide_eq_true c13; clear c13; by_cases c14 : 0 ≤ x21_2
       ·
        rw [if_pos c14] at H; have c14b0 : decide (0 ≤ x21_2) = true := decide_eq_true c14; clear c14; by_cases c15 : x21_2 < (l0.length : Int)
        ·
         rw [if_pos c15] at H; have c15b0 : decide (x21_2 < (l0.length : Int)) = true := decide_eq_true c15; clear c15; have H' := Aside0.mk H; clear H; have p288 : 0 ≤ (x21_2 : Int) := d_; have q288 : x21_2 < (l0.length : Int) := d_; obtain ⟨ad288, e288, hx288_0, hx288_1⟩ := at_T60 (Kd.C_below HR0.out HB.out) x21_2 p288 q288; cases e288; replace p288 := eq_true p288; replace q288 := eq_true q288; go_wp2_with (first | ((with_reducible refine gate_dst (N := 7) rfl ?_); refine be_ 7 #[.int .i64 0, .int .i64 0] 60 ?_; intro gb289 hg w16 hbox hb; replace HO_5 := Aside0.mk (Kd.R_below (Kd.R_elderB HO_5.out gb289 (Nat.le_of_eq hg.symm)) hb); have BK289 := Aside0.mk (hbox); have GW289 := Aside0.mk ((by rw [hg]; exact (below_size HB.out) : w.heap.size ≤ gb289)); replace HB := Aside0.mk (below_step HB.out hb); have GE289 := GW289; clear hb hbox hg; obtain ⟨⟨hcz17_0, hcz17_1⟩, hfz17_0, hfz17_1⟩ := cells_2 BK289.out))
         go_loopg [5, 27] k2 (fun kq v5 v27 w' => ∃ (x5_3 : List (S60)) (x27_3 : Int) (x290000_3 : Int), v27 = .int .i64 x27_3 ∧ Aside0 (impl_SpansLess.l1 kq l1 x5_3 l0 (l0.length : Int) x21_2 l1 (l1.length : Int) x27_3 x290000_3 ((rd_T60 l0 x21_2).f1) = some r) ∧ Aside0 (kq ≤ k2) ∧ Aside0 (Kd.R k60 60 w' w.heap.size (fun k_ => k_ ≠ gb289) v5 x5_3) ∧ Aside0 (w'.heap[gb289]? = some (.cells #[.int .i64 x290000_3, .int .i64 ((rd_T60 l0 x21_2).f1)] 60 (0, 0))) ∧ Aside0 (Below w.heap.size w w'))
         case atStart => exact ⟨(x5_2), (0), ((rd_T60 l0 x21_2).f0), (by first | rfl | (simp; done) | (simp [*]; done)), H', ⟨Nat.le_refl _⟩, ⟨by (with_reducible repeat (first | apply Kd.R_alloc | apply Kd.R_drewN | apply Kd.R_drew)); exact Kd.R_mono (Kd.R_far (p := ⟨gb289, 1, none⟩) (Kd.R_far (p := ⟨gb289, 0, none⟩) (Kd.R_mono HO_5.out (fun k_ hk => (⟨hk, hk.2⟩ : _ ∧ k_ ≠ gb289))) (fun _ hk => hk.2) (.int .i64 ((rd_T60 l0 x21_2).f0))) (fun _ hk => hk.2) (.int .i64 ((rd_T60 l0 x21_2).f1))) (fun _ hk => hk.1.2)⟩, ⟨by refine bp2_ (c0 := .int .i64 0) (c1 := .int .i64 0) ?_; exact BK289.out⟩, ⟨(a7_ HB.out GE289.out)⟩⟩
         case round =>
          clear H'; (try clear c1); (try clear c2); (try clear p2); (try clear q2); (try clear hx2); (try clear c5); (try clear c10); (try clear c13); (try clear c13b0); (try clear c14); (try clear c14b0); (try clear c15); (try clear c15b0); (try clear hcz17_0); (try clear hcz17_1); (try clear hfz17_0); (try clear hfz17_1); (try clear hx288_0); (try clear hx288_1); (try clear p2); (try clear p288); (try clear q288); obtain ⟨x5_3, x27_3, x290000_3, rfl, HA, HK3, HO_5, BK289, HB⟩ := hrel
          cases gk with
          | zero => exact absurd HA.out (by simp [impl_SpansLess.l1])
          | succ k3 =>
           have H := HA.out; clear HA; simp only [impl_SpansLess.l1] at H; by_cases c18 : x27_3 < (l1.length : Int)
           ·
            rw [if_pos c18] at H; have c18b0 : decide (x27_3 < (l1.length : Int)) = true := decide_eq_true c18; clear c18; by_cases c19 : 0 ≤ x27_3
            ·
             rw [if_pos c19] at H; have c19b0 : decide (0 ≤ x27_3) = true := decide_eq_true c19; clear c19; by_cases c20 : x27_3 < (l1.length : Int)
             ·
              rw [if_pos c20] at H; have c20b0 : decide (x27_3 < (l1.length : Int)) = true := decide_eq_true c20; clear c20; have HC21 := Aside0.mk H; clear H; have p293 : 0 ≤ (x27_3 : Int) := d_; have q293 : x27_3 < (l1.length : Int) := d_; obtain ⟨ad293, e293, hx293_0, hx293_1⟩ := at_T60 (Kd.C_below HR1.out HB.out) x27_3 p293 q293; cases e293; replace p293 := eq_true p293; replace q293 := eq_true q293; go_upto_region 10 with (first | ((with_reducible refine gate_dst (N := 9) rfl ?_); refine be_ 9 #[.int .i64 0, .int .i64 0] 60 ?_; intro gb294 hg w22 hbox hb; replace HO_5 := Aside0.mk (Kd.R_below (Kd.R_elderB HO_5.out gb294 (Nat.le_of_eq hg.symm)) hb); have BK294 := Aside0.mk (hbox); have GW294 := Aside0.mk ((by rw [hg]; exact (below_size HB.out) : w.heap.size ≤ gb294)); replace HB := Aside0.mk (below_step HB.out hb); have GE294 := GW294; have NB289_294 := Aside0.mk ((by rw [hg]; exact Nat.ne_of_lt (blk_lt BK289.out) : gb289 ≠ gb294)); replace BK289 := Aside0.mk (blk_below BK289.out hb); have NB294_289 := Aside0.mk (Ne.symm NB289_294.out); clear hb hbox hg; have hnb23 := NB294_289.out; have hnc23 := NB289_294.out; obtain ⟨⟨hcz24_0, hcz24_1⟩, hfz24_0, hfz24_1⟩ := cells_2 BK294.out))
              (try simp only [Act.put, lS, l0_, l1_])
              go_cut [42] (fun v42 wc => ∃ (kq : Nat) (x42_20 : Bool), v42 = .bool x42_20 ∧ Aside0 (impl_SpansLess.j3 kq l1 x5_3 l0 (l0.length : Int) x21_2 l1 (l1.length : Int) x27_3 x42_20 x290000_3 ((rd_T60 l0 x21_2).f1) ((rd_T60 l1 x27_3).f0) ((rd_T60 l1 x27_3).f1) = some r) ∧ Aside0 (kq ≤ k3) ∧ Aside0 (Kd.R k60 60 wc w.heap.size (fun k_ => k_ ≠ gb289 ∧ k_ ≠ gb294) u5 x5_3) ∧ Aside0 (wc.heap[gb289]? = some (.cells #[.int .i64 x290000_3, .int .i64 ((rd_T60 l0 x21_2).f1)] 60 (0, 0))) ∧ Aside0 (wc.heap[gb294]? = some (.cells #[.int .i64 ((rd_T60 l1 x27_3).f0), .int .i64 ((rd_T60 l1 x27_3).f1)] 60 (0, 0))) ∧ Aside0 (Below w.heap.size w wc))
              case first =>
               have H := HC21.out; clear HC21; by_cases c25 : ((rd_T60 l1 x27_3).f1) < x290000_3
               ·
                rw [if_pos c25] at H; have c25b0 : decide (((rd_T60 l1 x27_3).f1) < x290000_3) = true := decide_eq_true c25; clear c25; (first | rw [c25b0] | rw [c25b1] | (simp only [i64_w, i32_w]; rw [c25b0]) | skip)
                have H' := Aside0.mk H; clear H; have hnb26 := NB294_289.out; have hnc26 := NB289_294.out; obtain ⟨⟨hcz27_0, hcz27_1⟩, hfz27_0, hfz27_1⟩ := cells_2 BK294.out; obtain ⟨⟨hcz28_0, hcz28_1⟩, hfz28_0, hfz28_1⟩ := cells_2 BK289.out; go_wp2
                go_meet
                case rel => exact ⟨_, (true), (by first | rfl | (simp; done) | (simp [*]; done)), H', ⟨by have := HJ2.out; have := HK2.out; have := HK3.out; first | omega | exact Nat.le_refl _⟩, ⟨by (with_reducible repeat (first | apply Kd.R_alloc | apply Kd.R_drewN | apply Kd.R_drew)); exact Kd.R_mono (Kd.R_far (p := ⟨gb294, 1, none⟩) (Kd.R_far (p := ⟨gb294, 0, none⟩) (Kd.R_mono HO_5.out (fun k_ hk => (⟨hk, hk.2⟩ : _ ∧ k_ ≠ gb294))) (fun _ hk => hk.2) (.int .i64 ((rd_T60 l1 x27_3).f0))) (fun _ hk => hk.2) (.int .i64 ((rd_T60 l1 x27_3).f1))) (fun _ hk => ⟨hk.1.1, hk.1.2⟩)⟩, ⟨by refine blk_far ?_ NB289_294.out _; refine blk_far ?_ NB289_294.out _; exact BK289.out⟩, ⟨by refine bp2_ (c0 := .int .i64 0) (c1 := .int .i64 0) ?_; exact BK294.out⟩, ⟨(a23_ HB.out GE289.out GE294.out)⟩⟩
               ·
                rw [if_neg c25] at H; have c25b0 : decide (((rd_T60 l1 x27_3).f1) < x290000_3) = false := decide_eq_false c25; clear c25; (first | rw [c25b0] | rw [c25b1] | (simp only [i64_w, i32_w]; rw [c25b0]) | skip)
                have H' := Aside0.mk H; clear H; have hnb29 := NB294_289.out; have hnc29 := NB289_294.out; obtain ⟨⟨hcz30_0, hcz30_1⟩, hfz30_0, hfz30_1⟩ := cells_2 BK294.out; obtain ⟨⟨hcz31_0, hcz31_1⟩, hfz31_0, hfz31_1⟩ := cells_2 BK289.out; go_wp2
                go_meet
                case rel => exact ⟨_, (decide (((rd_T60 l1 x27_3).f0) > ((rd_T60 l0 x21_2).f1))), (by first | rfl | (simp; done) | (simp [*]; done)), H', ⟨by have := HJ2.out; have := HK2.out; have := HK3.out; first | omega | exact Nat.le_refl _⟩, ⟨by (with_reducible repeat (first | apply Kd.R_alloc | apply Kd.R_drewN | apply Kd.R_drew)); exact Kd.R_mono (Kd.R_far (p := ⟨gb294, 1, none⟩) (Kd.R_far (p := ⟨gb294, 0, none⟩) (Kd.R_mono HO_5.out (fun k_ hk => (⟨hk, hk.2⟩ : _ ∧ k_ ≠ gb294))) (fun _ hk => hk.2) (.int .i64 ((rd_T60 l1 x27_3).f0))) (fun _ hk => hk.2) (.int .i64 ((rd_T60 l1 x27_3).f1))) (fun _ hk => ⟨hk.1.1, hk.1.2⟩)⟩, ⟨by refine blk_far ?_ NB289_294.out _; refine blk_far ?_ NB289_294.out _; exact BK289.out⟩, ⟨by refine bp2_ (c0 := .int .i64 0) (c1 := .int .i64 0) ?_; exact BK294.out⟩, ⟨(a23_ HB.out GE289.out GE294.out)⟩⟩
              case rest =>
               clear HC21; (try clear c1); (try clear c2); (try clear p2); (try clear q2); (try clear hx2); (try clear c5); (try clear c10); (try clear c13); (try clear c13b0); (try clear c14); (try clear c14b0); (try clear c15); (try clear c15b0); (try clear c18); (try clear c18b0); (try clear c19); (try clear c19b0); (try clear c20); (try clear c20b0); (try clear c23); (try clear c24); (try clear c25); (try clear c25b0); (try clear c26); (try clear p28); (try clear q28); (try clear hx28); (try clear c29); (try clear p29); (try clear q29); (try clear hx29); (try clear hcz17_0); (try clear hcz17_1); (try clear hcz24_0); (try clear hcz24_1); (try clear hcz27_0); (try clear hcz27_1); (try clear hcz28_0); (try clear hcz28_1); (try clear hcz30_0); (try clear hcz30_1); (try clear hcz31_0); (try clear hcz31_1); (try clear hfz17_0); (try clear hfz17_1); (try clear hfz24_0); (try clear hfz24_1); (try clear hfz27_0); (try clear hfz27_1); (try clear hfz28_0); (try clear hfz28_1); (try clear hfz30_0); (try clear hfz30_1); (try clear hfz31_0); (try clear hfz31_1); (try clear hx288_0); (try clear hx288_1); (try clear hx293_0); (try clear hx293_1); (try clear p2); (try clear p288); (try clear p293); (try clear q2); (try clear q288); (try clear q293); obtain ⟨kq, x42_20, rfl, HA, HJ20, HO_5, BK289, BK294, HB⟩ := hcut
               cases kq with
               | zero => exact absurd HA.out (by simp [impl_SpansLess.j3])
               | succ kj20 =>
                have H := HA.out; clear HA; simp only [impl_SpansLess.j3] at H; by_cases c32 : x42_20 = true
                ·
                 subst c32; rw [if_pos rfl] at H; have H' := Aside0.mk H; clear H; go_wp2
                 go_roundg kj20
                 case measure => have := HJ2.out; have := HK2.out; have := HK3.out; have := HJ20.out; omega
                 case rel => exact ⟨(x5_3), (wrap64 (x27_3 + 1)), (x290000_3), (by first | rfl | (simp; done) | (simp [*]; done)), H', ⟨by have := HJ2.out; have := HK2.out; have := HK3.out; have := HJ20.out; omega⟩, ⟨by (with_reducible repeat (first | apply Kd.R_alloc | apply Kd.R_drewN | apply Kd.R_drew)); exact Kd.R_mono HO_5.out (fun _ hk => hk.1)⟩, ⟨by exact BK289.out⟩, ⟨(a23_ HB.out GE289.out GE294.out)⟩⟩
                ·
                 replace c32 := Bool.eq_false_iff.mpr c32; subst c32; rw [if_neg (show ¬ (false = true) by decide)] at H; by_cases c33 : ((rd_T60 l1 x27_3).f0) > x290000_3
                 ·
                  rw [if_pos c33] at H; have c33b0 : decide (x290000_3 < ((rd_T60 l1 x27_3).f0)) = true := decide_eq_true c33; clear c33; by_cases c34 : x5_3.length < 8796093022208
                  ·
                   rw [if_pos c34] at H; have LMc34 := Aside0.mk c34; clear c34; obtain ⟨y295, hy295⟩ : ∃ y_ : List (S60), y_ = (x5_3 ++ [(⟨x290000_3, wrap64 (((rd_T60 l1 x27_3).f0) - 1)⟩ : S60)]) := ⟨_, rfl⟩; replace H : (impl_SpansLess.l1 kj20 l1 y295 l0 (l0.length : Int) x21_2 l1 (l1.length : Int) (wrap64 (x27_3 + 1)) (wrap64 (((rd_T60 l1 x27_3).f1) + 1)) ((rd_T60 l0 x21_2).f1)) = some r := by first | (rw [hy295]; exact H) | exact H
                   have Ny295 := Aside0.mk hy295; clear hy295; have H' := Aside0.mk H; clear H; have hnb35 := NB294_289.out; have hnc35 := NB289_294.out; obtain ⟨⟨hcz36_0, hcz36_1⟩, hfz36_0, hfz36_1⟩ := cells_2 BK294.out; obtain ⟨⟨hcz37_0, hcz37_1⟩, hfz37_0, hfz37_1⟩ := cells_2 BK289.out; go_wp2_with (first | ((with_reducible refine gate_builtin (b := .append) (xs := #[.tmp 48, .tmp 55]) rfl ?_); at_builtin; refine Kd.R_append k60 (w0 := w) w.heap.size rfl (.tmp 48) (.tmp 55) 25 60 (.agg #[(.int .i64 0), (.int .i64 0)]) 16 rfl Try.underlying25 info60 rfl (by decide) (by omega) u5 x5_3 (⟨x290000_3, wrap64 (((rd_T60 l1 x27_3).f0) - 1)⟩ : S60) [.int .i64 x290000_3, .int .i64 (wrap64 (((rd_T60 l1 x27_3).f0) - 1))] (fun k_ => k_ ≠ gb289 ∧ k_ ≠ gb294) (fun _ => False) rfl rfl ?aP (fun _ hk => hk.elim) ?aF ?aO ?aB ?aS ?aL ?_; (case aP => exact k60_mkM _ _ _ (⟨x290000_3, wrap64 (((rd_T60 l1 x27_3).f0) - 1)⟩ : S60)); (case aB => exact HB.out); (case aF => exact (fun k_ hk => ⟨Kd.freshB (g := gb289) (o := .cells #[.int .i64 x290000_3, .int .i64 ((rd_T60 l0 x21_2).f1)] 60 (0, 0)) BK289.out k_ hk, Kd.freshB (g := gb294) (o := .cells #[.int .i64 ((rd_T60 l1 x27_3).f0), .int .i64 ((rd_T60 l1 x27_3).f1)] 60 (0, 0)) BK294.out k_ hk⟩)); (case aO => exact HO_5.out); (case aS => exact (below_size HB.out)); (case aL => have := LMc34.out; omega); intro v296 w38 ho hb hg hat; rw [← Ny295.out] at ho; have n0_ := Aside0.mk (blk_grown BK289.out hg (Kd.R_away HO_5.out (fun _ hk => hk.1))); have n1_ := Aside0.mk (blk_grown BK294.out hg (Kd.R_away HO_5.out (fun _ hk => hk.2))); have n2_ := Aside0.mk (hb); have n3_ := Aside0.mk (ho); clear BK289; clear BK294; clear HB; clear HO_5; have BK289 := n0_; have BK294 := n1_; have HB := n2_; have HO297 := n3_; clear n0_ n1_ n2_ n3_; clear ho hb hg hat; obtain ⟨⟨hcz39_0, hcz39_1⟩, hfz39_0, hfz39_1⟩ := cells_2 BK294.out; obtain ⟨⟨hcz40_0, hcz40_1⟩, hfz40_0, hfz40_1⟩ := cells_2 BK289.out))
                   go_roundg kj20
                   case measure => have := HJ2.out; have := HK2.out; have := HK3.out; have := HJ20.out; omega
                   case rel => exact ⟨(y295), (wrap64 (x27_3 + 1)), (wrap64 (((rd_T60 l1 x27_3).f1) + 1)), (by first | rfl | (simp; done) | (simp [*]; done)), H', ⟨by have := HJ2.out; have := HK2.out; have := HK3.out; have := HJ20.out; omega⟩, ⟨by (with_reducible repeat (first | apply Kd.R_alloc | apply Kd.R_drewN | apply Kd.R_drew)); exact Kd.R_mono (Kd.R_far (p := ⟨gb289, 0, none⟩) (Kd.R_mono HO297.out (fun k_ hk => (⟨hk, hk.1⟩ : _ ∧ k_ ≠ gb289))) (fun _ hk => hk.2) (.int .i64 (wrap64 (((rd_T60 l1 x27_3).f1) + 1)))) (fun _ hk => hk.1.1)⟩, ⟨by refine blk_put (cs := #[.int .i64 x290000_3, .int .i64 ((rd_T60 l0 x21_2).f1)]) ?_ 0 _ rfl; exact BK289.out⟩, ⟨(a23_ HB.out GE289.out GE294.out)⟩⟩
                  ·
                   rw [if_neg c34] at H; exact absurd H (by simp)
                 ·
                  rw [if_neg c33] at H; have c33b0 : decide (x290000_3 < ((rd_T60 l1 x27_3).f0)) = false := decide_eq_false c33; clear c33; have H' := Aside0.mk H; clear H; have hnb41 := NB294_289.out; have hnc41 := NB289_294.out; obtain ⟨⟨hcz42_0, hcz42_1⟩, hfz42_0, hfz42_1⟩ := cells_2 BK294.out; obtain ⟨⟨hcz43_0, hcz43_1⟩, hfz43_0, hfz43_1⟩ := cells_2 BK289.out; go_wp2
                  go_roundg kj20
                  case measure => have := HJ2.out; have := HK2.out; have := HK3.out; have := HJ20.out; omega
                  case rel => exact ⟨(x5_3), (wrap64 (x27_3 + 1)), (wrap64 (((rd_T60 l1 x27_3).f1) + 1)), (by first | rfl | (simp; done) | (simp [*]; done)), H', ⟨by have := HJ2.out; have := HK2.out; have := HK3.out; have := HJ20.out; omega⟩, ⟨by (with_reducible repeat (first | apply Kd.R_alloc | apply Kd.R_drewN | apply Kd.R_drew)); exact Kd.R_mono (Kd.R_far (p := ⟨gb289, 0, none⟩) (Kd.R_mono HO_5.out (fun k_ hk => (⟨hk, hk.1⟩ : _ ∧ k_ ≠ gb289))) (fun _ hk => hk.2) (.int .i64 (wrap64 (((rd_T60 l1 x27_3).f1) + 1)))) (fun _ hk => hk.1.1)⟩, ⟨by refine blk_put (cs := #[.int .i64 x290000_3, .int .i64 ((rd_T60 l0 x21_2).f1)]) ?_ 0 _ rfl; exact BK289.out⟩, ⟨(a23_ HB.out GE289.out GE294.out)⟩⟩
             ·
              rw [if_neg c20] at H; exact absurd H (by simp)
            ·
             rw [if_neg c19] at H; exact absurd H (by simp)
           ·
            rw [if_neg c18] at H; have c18b0 : decide (x27_3 < (l1.length : Int)) = false := decide_eq_false c18; clear c18; by_cases c44 : x290000_3 ≤ ((rd_T60 l0 x21_2).f1)
            ·
             rw [if_pos c44] at H; have c44b0 : decide (x290000_3 ≤ ((rd_T60 l0 x21_2).f1)) = true := decide_eq_true c44; clear c44; by_cases c45 : x5_3.length < 8796093022208
             ·
              rw [if_pos c45] at H; have LMc45 := Aside0.mk c45; clear c45; obtain ⟨y290, hy290⟩ : ∃ y_ : List (S60), y_ = (x5_3 ++ [(⟨x290000_3, ((rd_T60 l0 x21_2).f1)⟩ : S60)]) := ⟨_, rfl⟩; replace H : (impl_SpansLess.l0 k3 l1 y290 l0 (l0.length : Int) (wrap64 (x21_2 + 1))) = some r := by first | (rw [hy290]; exact H) | exact H
              have Ny290 := Aside0.mk hy290; clear hy290; have H' := Aside0.mk H; clear H; obtain ⟨⟨hcz46_0, hcz46_1⟩, hfz46_0, hfz46_1⟩ := cells_2 BK289.out; go_wp2_with (first | ((with_reducible refine gate_builtin (b := .append) (xs := #[.tmp 67, .tmp 69]) rfl ?_); at_builtin; refine Kd.R_append k60 (w0 := w) w.heap.size rfl (.tmp 67) (.tmp 69) 25 60 (.agg #[(.int .i64 0), (.int .i64 0)]) 16 rfl Try.underlying25 info60 rfl (by decide) (by omega) u5 x5_3 (⟨x290000_3, ((rd_T60 l0 x21_2).f1)⟩ : S60) [.int .i64 x290000_3, .int .i64 ((rd_T60 l0 x21_2).f1)] (fun k_ => k_ ≠ gb289) (fun _ => False) rfl rfl ?aP (fun _ hk => hk.elim) ?aF ?aO ?aB ?aS ?aL ?_; (case aP => exact k60_mkM _ _ _ (⟨x290000_3, ((rd_T60 l0 x21_2).f1)⟩ : S60)); (case aB => exact HB.out); (case aF => exact (fun k_ hk => Kd.freshB (g := gb289) (o := .cells #[.int .i64 x290000_3, .int .i64 ((rd_T60 l0 x21_2).f1)] 60 (0, 0)) BK289.out k_ hk)); (case aO => exact HO_5.out); (case aS => exact (below_size HB.out)); (case aL => have := LMc45.out; omega); intro v291 w47 ho hb hg hat; rw [← Ny290.out] at ho; have n0_ := Aside0.mk (blk_grown BK289.out hg (Kd.R_away HO_5.out (fun _ hk => hk))); have n1_ := Aside0.mk (hb); have n2_ := Aside0.mk (ho); clear BK289; clear HB; clear HO_5; have BK289 := n0_; have HB := n1_; have HO292 := n2_; clear n0_ n1_ n2_; clear ho hb hg hat))
              go_roundg k3
              case measure => have := HJ2.out; have := HK2.out; have := HK3.out; omega
              case rel => exact ⟨(y290), (wrap64 (x21_2 + 1)), (by first | rfl | (simp; done) | (simp [*]; done)), H', ⟨by have := HJ2.out; have := HK2.out; have := HK3.out; omega⟩, ⟨by (with_reducible repeat (first | apply Kd.R_alloc | apply Kd.R_drewN | apply Kd.R_drew)); exact Kd.R_mono HO292.out (fun _ hk => trivial)⟩, ⟨(a7_ HB.out GE289.out)⟩⟩
             ·
              rw [if_neg c45] at H; exact absurd H (by simp)
            ·
             rw [if_neg c44] at H; have c44b0 : decide (x290000_3 ≤ ((rd_T60 l0 x21_2).f1)) = false := decide_eq_false c44; clear c44; have H' := Aside0.mk H; clear H; obtain ⟨⟨hcz48_0, hcz48_1⟩, hfz48_0, hfz48_1⟩ := cells_2 BK289.out; go_wp2
             go_roundg k3
             case measure => have := HJ2.out; have := HK2.out; have := HK3.out; omega
             case rel => exact ⟨(x5_3), (wrap64 (x21_2 + 1)), (by first | rfl | (simp; done) | (simp [*]; done)), H', ⟨by have := HJ2.out; have := HK2.out; have := HK3.out; omega⟩, ⟨by (with_reducible repeat (first | apply Kd.R_alloc | apply Kd.R_drewN | apply Kd.R_drew)); exact Kd.R_mono HO_5.out (fun _ hk => trivial)⟩, ⟨(a7_ HB.out GE289.out)⟩⟩
        ·
         rw [if_neg c15] at H; exact absurd H (by simp)
       ·
        rw [if_neg c14] at H; exact absurd H (by simp)
      ·
       rw [if_neg c13] at H; have c13b0 : decide (x21_2 < (l0.length : Int)) = false := decide_eq_false c13; clear c13; replace H := Option.bind_eq_some_iff.mp H; obtain ⟨t285, A490, H⟩ := H; have A49 := Aside0.mk A490; clear A490; obtain rfl := Option.some.inj H; obtain ⟨Ao50, co50, eo50⟩ := Kd.R_slice HO_5.out; subst eo50; go_wp2_with (first | ((with_reducible refine gate_callee (f := 48) rfl ?_); refine gl_ (some 73) Try.func48 #[.slice Ao50 x5_2.length co50] ?_; (with_reducible refine (impl_short.calls (fun k_ => some k_ = (.slice Ao50 x5_2.length co50 : Value).ownBlock) (.slice Ao50 x5_2.length co50) x5_2 t285 w _ ?side1 ?side2 A49.out).mono ?_); (case side1 => exact (a1_ HB.out)); (case side2 => exact Kd.R_tight rfl HO_5.out); rintro e w51 ⟨v286, rfl, ho0, hb, hkp⟩; refine ⟨_, rfl, ?_⟩; have n0_ := Aside0.mk (Kd.R_mono (ok' := fun k_ => True) ho0 (fun k_ hk_ => trivial)); have n1_ := Aside0.mk (hb); clear HB; clear HO_5; have HO287 := n0_; have HB := n1_; clear n0_ n1_; (try clear hb); (try clear hkp); (try clear ho0)))
       go_ret
       exact ⟨_, a3_, (a2_ HO287.out), (a1_ HB.out)⟩

/-! ### spec_DrawSpansBytes: function 11 -/
def spec_DrawSpansBytes.f (k : Nat) (l0 : List Int) : Option ((List (S60))) := (spec_l01Source.f k l0).bind fun bt298 => ((spec_l01Src_l15Spans.f k bt298.1 bt298.2.1 bt298.2.2.1 bt298.2.2.2).bind fun bt303 => (some bt303.1))
theorem spec_DrawSpansBytes.mono : ∀ a0 k, LeO (spec_DrawSpansBytes.f k a0) (spec_DrawSpansBytes.f (k + 1) a0) := by
  intro a0 k
  unfold spec_DrawSpansBytes.f
  repeat' first | (with_reducible exact spec_l01Source.mono _ _) | (with_reducible exact spec_l01Src_l15Spans.mono _ _ _ _ _) | (with_reducible exact LeO.refl _) | (with_reducible exact LeO.none _) | (with_reducible refine LeO.ite ?_ ?_) | (with_reducible refine LeO.bind ?_ (fun _ => ?_)) | exact spec_l01Source.mono _ _ | exact spec_l01Src_l15Spans.mono _ _ _ _ _ | exact LeO.none _ | refine LeO.ite ?_ ?_ | refine LeO.bind ?_ (fun _ => ?_)
theorem spec_DrawSpansBytes.calls (k : Nat) (A0 : Option Addr) (c0 : Nat) (l0 : List Int) (r : List (S60)) (w : World) (hr0 : Kd.C (Kd.int .u8) w A0 l0.length l0) (hc0 : l0.length ≤ c0) (h : spec_DrawSpansBytes.f k l0 = some r) :
    Calls Try.prog 11 #[.slice A0 l0.length c0] w fun e w' => ∃ v0_ : Value, e = .returned (v0_) ∧ Kd.R k60 60 w' w.heap.size (fun _ => True) v0_ r ∧ Below w.heap.size w w' := by
 have HR0 := Aside0.mk hr0; have HC0 := Aside0.mk hc0; clear hr0 hc0; have HB := Aside0.mk (Below.refl w.heap.size w); have H : ((spec_l01Source.f k l0).bind fun bt298 => ((spec_l01Src_l15Spans.f k bt298.1 bt298.2.1 bt298.2.2.1 bt298.2.2.2).bind fun bt303 => (some bt303.1))) = some r := h; clear h; replace H := Option.bind_eq_some_iff.mp H; obtain ⟨⟨t298, t299, t300, t301⟩, A20, H⟩ := H; dsimp only at H; have A2 := Aside0.mk A20; clear A20; replace H := Option.bind_eq_some_iff.mp H; obtain ⟨⟨t303, t306, t307, t308⟩, A30, H⟩ := H; dsimp only at H; have A3 := Aside0.mk A30; clear A30; obtain rfl := Option.some.inj H; go_enter Try.func11, Try.ntmps11; go_wp2_with (first | ((with_reducible refine gate_callee (f := 34) rfl ?_); refine gl_ (some 4) Try.func34 #[.slice A0 l0.length c0] ?_; (with_reducible refine (spec_l01Source.calls k _ _ l0 t298 t299 t300 t301 w _ ?side1 ?side2 HC0.out A2.out).mono ?_); (case side1 => exact (a1_ HB.out)); (case side2 => exact HR0.out); rintro e w4 ⟨g302, rfl, hi, hb, hb2⟩; refine ⟨_, rfl, ?_⟩; replace HB := Aside0.mk (hb); have HI302 := Aside0.mk (hi); (try clear hb); (try clear hb2); (try clear hk); (try clear hi)) | ((with_reducible refine gate_callee (f := 44) rfl ?_); refine gl_ (some 5) Try.func44 #[.pointer (some ⟨g302, 0, none⟩)] ?_; (with_reducible refine (spec_l01Src_l15Spans.calls k g302 t298 t299 t300 t301 t303 t306 t307 t308 w _ ?side1 ?side2 A3.out).mono ?_); (case side1 => exact (a4_ HI302.out)); (case side2 => exact (a5_ HB.out HI302.out)); rintro e w5 ⟨v304, rfl, ho0, hi, hb, hk⟩; refine ⟨_, rfl, ?_⟩; have HO305 := Aside0.mk (Kd.R_lower ho0 (below_size (a5_ HB.out HI302.out))); replace HB := Aside0.mk (hb); replace HI302 := Aside0.mk (hi); (try clear hb); (try clear hb2); (try clear hk); (try clear hi); (try clear ho0)))
 go_ret
 exact ⟨_, a3_, (a2_ HO305.out), (a5_ HB.out HI302.out)⟩

/-! ### impl_numBytes: function 49 -/
def impl_numBytes.l0 : Nat → Int → List Int → Option (List Int)
  | 0, _, _ => none
  | k + 1, x3, x4 => if x3 > 127 then (if x4.length < 140737488355328 then (impl_numBytes.l0 k (x3 / 128) (x4 ++ [Go.bits .or .u8 ((x3) % 256) 128])) else (none)) else (if x4.length < 140737488355328 then (some (x4 ++ [(x3) % 256])) else (none))
def impl_numBytes.f (k : Nat) (a0 : Int) : Option (List Int) := impl_numBytes.l0 k (Go.bits .xor .u64 (IntKind.u64.wrap ((IntKind.u64.wrap (a0)) * 2)) (IntKind.u64.wrap (a0 / 9223372036854775808))) (([] : List Int))
theorem impl_numBytes.mono_l : ∀ k, (∀ y0 y1, LeO (impl_numBytes.l0 k y0 y1) (impl_numBytes.l0 (k + 1) y0 y1))
  | 0 => fun _ _ r h => by simp [impl_numBytes.l0] at h
  | k + 1 => by
    have ih0 := impl_numBytes.mono_l k
    · intro y0 y1
      unfold impl_numBytes.l0
      repeat' first | (with_reducible exact ih0 _ _) | (with_reducible exact LeO.refl _) | (with_reducible exact LeO.none _) | (with_reducible refine LeO.ite ?_ ?_) | (with_reducible refine LeO.bind ?_ (fun _ => ?_)) | exact ih0 _ _ | exact LeO.none _ | refine LeO.ite ?_ ?_ | refine LeO.bind ?_ (fun _ => ?_)
theorem impl_numBytes.mono : ∀ a0 k, LeO (impl_numBytes.f k a0) (impl_numBytes.f (k + 1) a0) := by
  intro a0 k
  have ih0 := impl_numBytes.mono_l k
  unfold impl_numBytes.f
  repeat' first | (with_reducible exact ih0 _ _) | (with_reducible exact LeO.refl _) | (with_reducible exact LeO.none _) | (with_reducible refine LeO.ite ?_ ?_) | (with_reducible refine LeO.bind ?_ (fun _ => ?_)) | exact ih0 _ _ | exact LeO.none _ | refine LeO.ite ?_ ?_ | refine LeO.bind ?_ (fun _ => ?_)
theorem impl_numBytes.calls (k : Nat) (a0 : Int) (r : List Int) (w : World) (h : impl_numBytes.f k a0 = some r) :
    Calls Try.prog 49 #[.int .i64 a0] w fun e w' => ∃ v0_ : Value, e = .returned (v0_) ∧ Kd.R (Kd.int .u8) 5 w' w.heap.size (fun _ => True) v0_ r ∧ Below w.heap.size w w' := by
 have HB := Aside0.mk (Below.refl w.heap.size w); have H : (impl_numBytes.l0 k (Go.bits .xor .u64 (IntKind.u64.wrap ((IntKind.u64.wrap (a0)) * 2)) (IntKind.u64.wrap (a0 / 9223372036854775808))) (([] : List Int))) = some r := h; clear h; obtain ⟨y309, hy309⟩ : ∃ y_ : List Int, y_ = (([] : List Int)) := ⟨_, rfl⟩; replace H : (impl_numBytes.l0 k (Go.bits .xor .u64 (IntKind.u64.wrap ((IntKind.u64.wrap (a0)) * 2)) (IntKind.u64.wrap (a0 / 9223372036854775808))) y309) = some r := by first | (rw [hy309]; exact H) | exact H
 have Ny309 := Aside0.mk hy309; clear hy309; have H' := Aside0.mk H; clear H; go_enter Try.func49, Try.ntmps49; go_wp2_with (first | ((with_reducible refine gate_dst (N := 12) rfl ?_); refine Kd.R_lit (Kd.int .u8) _ 5 ?hg (N := 12) ?hd (xs := ([] : List Int)) (inner := []) (ok := fun _ => True) (okp := fun _ => True) ?hr ?hp (fun _ hk => hk) trivial (Below.refl _ _) (Nat.le_refl _) (by simp) ?_; (case hd => rfl); (case hg => rfl); (case hr => first | (go_simp; done) | (go_simp; rfl)); (case hp => exact (Reps.none _ _)); intro v310 w2 ho3 hb hg_ hnew_; clear hg_ hnew_; (first | rw [← Ny309.out] at ho3 | (simp only [Int.reduceToNat] at ho3; rw [← Ny309.out] at ho3)); have HO311 := Aside0.mk (Kd.R_lower ho3 (below_size HB.out)); replace HB := Aside0.mk (below_step HB.out hb); clear hb ho3))
 go_loopg [3, 4] k (fun kq v3 v4 w' => ∃ (x3_1 : Int) (x4_1 : List Int), v3 = .int .u64 x3_1 ∧ Aside0 (impl_numBytes.l0 kq x3_1 x4_1 = some r) ∧ Aside0 (kq ≤ k) ∧ Aside0 (Kd.R (Kd.int .u8) 5 w' w.heap.size (fun _ => True) v4 x4_1) ∧ Aside0 (Below w.heap.size w w'))
 case atStart => exact ⟨(Go.bits .xor .u64 (IntKind.u64.wrap ((IntKind.u64.wrap (a0)) * 2)) (IntKind.u64.wrap (a0 / 9223372036854775808))), (y309), (by first | rfl | (simp; done) | (simp [*]; done)), H', ⟨Nat.le_refl _⟩, ⟨(a2_ HO311.out)⟩, ⟨(a1_ HB.out)⟩⟩
 case round =>
  clear H'; (try clear p2); obtain ⟨x3_1, x4_1, rfl, HA, HK1, HO_4, HB⟩ := hrel
  cases gk with
  | zero => exact absurd HA.out (by simp [impl_numBytes.l0])
  | succ k1 =>
   have H := HA.out; clear HA; simp only [impl_numBytes.l0] at H; by_cases c4 : x3_1 > 127
   ·
    rw [if_pos c4] at H; have c4b0 : decide (127 < x3_1) = true := decide_eq_true c4; clear c4; by_cases c5 : x4_1.length < 140737488355328
    ·
     rw [if_pos c5] at H; have LMc5 := Aside0.mk c5; clear c5; obtain ⟨y312, hy312⟩ : ∃ y_ : List Int, y_ = (x4_1 ++ [Go.bits .or .u8 ((x3_1) % 256) 128]) := ⟨_, rfl⟩; replace H : (impl_numBytes.l0 k1 (x3_1 / 128) y312) = some r := by first | (rw [hy312]; exact H) | exact H
     have Ny312 := Aside0.mk hy312; clear hy312; have H' := Aside0.mk H; clear H; go_wp2_with (first | ((with_reducible refine gate_builtin (b := .append) (xs := #[.tmp 15, .tmp 19]) rfl ?_); at_builtin; refine Kd.R_append (Kd.int .u8) (w0 := w) w.heap.size rfl (.tmp 15) (.tmp 19) 22 5 (.int .u8 0) 1 rfl Try.underlying22 info5 rfl (by decide) (by omega) u4 x4_1 (Go.bits .or .u8 ((x3_1) % 256) 128) [.int .u8 (Go.bits .or .u8 ((x3_1) % 256) 128)] (fun _ => True) (fun _ => False) rfl rfl ?aP (fun _ hk => hk.elim) ?aF ?aO ?aB ?aS ?aL ?_; (case aP => exact rfl); (case aB => exact HB.out); (case aF => exact (fun _ _ => trivial)); (case aO => exact HO_4.out); (case aS => exact (below_size HB.out)); (case aL => have := LMc5.out; omega); intro v313 w6 ho hb hg hat; rw [← Ny312.out] at ho; have n0_ := Aside0.mk (hb); have n1_ := Aside0.mk (ho); clear HB; clear HO_4; have HB := n0_; have HO314 := n1_; clear n0_ n1_; clear ho hb hg hat))
     go_roundg k1
     case measure => have := HK1.out; omega
     case rel => exact ⟨(x3_1 / 128), (y312), (by first | rfl | (simp; done) | (simp [*]; done)), H', ⟨by have := HK1.out; omega⟩, ⟨(a2_ HO314.out)⟩, ⟨(a1_ HB.out)⟩⟩
    ·
     rw [if_neg c5] at H; exact absurd H (by simp)
   ·
    rw [if_neg c4] at H; have c4b0 : decide (127 < x3_1) = false := decide_eq_false c4; clear c4; by_cases c7 : x4_1.length < 140737488355328
    ·
     rw [if_pos c7] at H; have LMc7 := Aside0.mk c7; clear c7; obtain ⟨y315, hy315⟩ : ∃ y_ : List Int, y_ = (x4_1 ++ [(x3_1) % 256]) := ⟨_, rfl⟩; replace H : (some y315) = some r := by first | (rw [hy315]; exact H) | exact H
     have Ny315 := Aside0.mk hy315; clear hy315; obtain rfl := Option.some.inj H; go_wp2_with (first | ((with_reducible refine gate_builtin (b := .append) (xs := #[.tmp 23, .tmp 26]) rfl ?_); at_builtin; refine Kd.R_append (Kd.int .u8) (w0 := w) w.heap.size rfl (.tmp 23) (.tmp 26) 22 5 (.int .u8 0) 1 rfl Try.underlying22 info5 rfl (by decide) (by omega) u4 x4_1 ((x3_1) % 256) [.int .u8 ((x3_1) % 256)] (fun _ => True) (fun _ => False) rfl rfl ?aP (fun _ hk => hk.elim) ?aF ?aO ?aB ?aS ?aL ?_; (case aP => exact rfl); (case aB => exact HB.out); (case aF => exact (fun _ _ => trivial)); (case aO => exact HO_4.out); (case aS => exact (below_size HB.out)); (case aL => have := LMc7.out; omega); intro v316 w8 ho hb hg hat; rw [← Ny315.out] at ho; have n0_ := Aside0.mk (hb); have n1_ := Aside0.mk (ho); clear HB; clear HO_4; have HB := n0_; have HO317 := n1_; clear n0_ n1_; clear ho hb hg hat))
     go_ret
     exact ⟨_, a3_, (a2_ HO317.out), (a1_ HB.out)⟩
    ·
     rw [if_neg c7] at H; exact absurd H (by simp)

end Go.Proofs.Ytepbkhgffjinjaa.Print
