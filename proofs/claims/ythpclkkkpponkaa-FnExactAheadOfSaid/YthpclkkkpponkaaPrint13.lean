-- Printed by wip/myprint.py over the kit's print, in this session's own call.
import Derived.Test.YthpclkkkpponkaaPrint0
import Derived.Test.YthpclkkkpponkaaPrint9
namespace Go.Proofs.Ythpclkkkpponkaa.Print
open Go.RowKit Go.Proofs.YthpclkkkpponkaaW.PrintWords Go.Proofs.YthpclkkkpponkaaW.PrintLast Go.Proofs.YthpclkkkpponkaaW.PrintMore
attribute [local go_sem] max2_int min2_int max_two min_two max_three min_three max_four min_four   -- for this text's walks alone
set_option linter.unusedVariables false
set_option linter.unusedSimpArgs false

/-! ### impl_Event_42: function 42 -/
def impl_Event_42.r (p : S39 → Bool) (l : List S39) : Int := if l.any p = true then (l.findIdx p : Int) else -1
set_option maxHeartbeats 4000000 in
set_option maxRecDepth 100000 in
theorem impl_Event_42.callsF (g : Nat) (lb : Array Value) (p : S39 → Bool) (A : Option Addr) (c : Nat) (l : List S39) (w : World)
    (eg : ∀ args w, (callFunc g args).run Try.prog w = .ok (.enter g args) w)
    (hr : Kd.C k39 w A l.length l)
    (hp : ∀ (W : World) (i : Nat) (x : S39) (A7 : Option Addr) (c7 : Nat), l[i]? = some x → Kd.C (Kd.int .i64) w A7 x.f7.length x.f7 → x.f7.length ≤ c7 → Below w.heap.size w W → Calls Try.prog g (#[.agg #[.int .i64 x.f0, .int .i64 x.f1, .int .i64 x.f2, .int .i64 x.f3, .int .i64 x.f4, .int .i64 x.f5, .string x.f6, .slice A7 x.f7.length c7, .int .i64 x.f8]] ++ lb) W fun e w' => e = .returned (.bool (p x)) ∧ Below w.heap.size w w') :
    Calls Try.prog 42 #[.slice A l.length c, .func (.func g) #[] lb] w fun e w' => e = .returned (.int .i64 (impl_Event_42.r p l)) ∧ Below w.heap.size w w' := by
  have HR := Aside0.mk hr; have HP := Aside0.mk hp; have hlen : l.length ≤ 9223372036854775807 := hr.2.1; clear hr hp; go_enter Try.func42, Try.ntmps42; go_wp2
  go_loopg [5, 8] l.length (fun gg _ s8 wr => ∃ kk : Nat, kk ≤ l.length ∧ l.length - kk ≤ gg ∧ s8 = .int .i64 kk ∧ Aside0 (Below w.heap.size w wr) ∧ Aside0 (∀ j x, l[j]? = some x → j < kk → p x = false))
  case atStart => exact ⟨0, Nat.zero_le _, by omega, rfl, ⟨Below.refl _ w⟩, ⟨fun j x _ hj => absurd hj (Nat.not_lt_zero _)⟩⟩
  case round =>
    obtain ⟨kk, hkk, hg, rfl, BW, AA⟩ := hrel; by_cases hlt : kk < l.length
    · have hltz : (kk : Int) < (l.length : Int) := by omega
      have hge : (0 : Int) ≤ (kk : Int) := by omega
      obtain ⟨ad, A7, c7, rfl, hx, hx1, hx2, hx3, hx4, hx5, hx6, hx7, hx8, hl7, hk7⟩ := at_T39 HR.out (kk : Int) hge hltz; have hx := (BW.out.cell (World.block_lt_of_cell? _ _ hx)).trans hx; have hx1 := (BW.out.cell (World.block_lt_of_cell? _ _ hx1)).trans hx1; have hx2 := (BW.out.cell (World.block_lt_of_cell? _ _ hx2)).trans hx2; have hx3 := (BW.out.cell (World.block_lt_of_cell? _ _ hx3)).trans hx3; have hx4 := (BW.out.cell (World.block_lt_of_cell? _ _ hx4)).trans hx4; have hx5 := (BW.out.cell (World.block_lt_of_cell? _ _ hx5)).trans hx5; have hx6 := (BW.out.cell (World.block_lt_of_cell? _ _ hx6)).trans hx6; have hx7 := (BW.out.cell (World.block_lt_of_cell? _ _ hx7)).trans hx7; have hx8 := (BW.out.cell (World.block_lt_of_cell? _ _ hx8)).trans hx8
      have hget : l[kk]? = some (rd_T39 l (kk : Int)) := by
        unfold rd_T39; rw [Int.toNat_natCast, List.getD_eq_getElem?_getD, List.getElem?_eq_getElem hlt]; rfl
      have hcall := HP.out wr kk _ A7 c7 hget hk7 hl7 BW.out; clear hk7 hl7; have G := Aside0.mk hget; clear hget; generalize rd_T39 l (kk : Int) = y at hx hx1 hx2 hx3 hx4 hx5 hx6 hx7 hx8 hcall G; rw [Int.toNat_natCast] at hx hx1 hx2 hx3 hx4 hx5 hx6 hx7 hx8
      cases hq : p y with
      | true =>
        rw [hq] at hcall; have HQ := Aside0.mk hq; clear hq; go_wp2_with (go_at_fn g; refine hcall.mono ?_; rintro e w' ⟨rfl, hb'⟩)
        go_ret
        refine ⟨?_, hb'⟩; have h1 : l.any p = true := List.any_eq_true.2 ⟨y, List.mem_of_getElem? G.out, HQ.out⟩
        have h2 : l.findIdx p = kk := by
          have e1 : l.findIdx p ≤ kk := by
            rw [← Nat.not_lt]; intro hh; have := List.not_of_lt_findIdx hh; have e2 := List.getElem?_eq_some_iff.1 G.out; rw [e2.2, HQ.out] at this; simp at this
          have e3 : ¬ l.findIdx p < kk := by
            intro hh; have hlt2 : l.findIdx p < l.length := by omega
            have h4 := AA.out _ _ (List.getElem?_eq_getElem hlt2) hh; have h5 := List.findIdx_getElem (w := hlt2); rw [h4] at h5; simp at h5
          omega
        have h3 : impl_Event_42.r p l = (kk : Int) := by unfold impl_Event_42.r; rw [if_pos h1, h2]
        rw [h3]; rfl
      | false =>
        rw [hq] at hcall; have HQ := Aside0.mk hq; clear hq; go_wp2_with (go_at_fn g; refine hcall.mono ?_; rintro e w' ⟨rfl, hb'⟩)
        go_roundg (l.length - (kk + 1))
        case measure => omega
        case rel =>
          refine ⟨kk + 1, by omega, by omega, by go_num, ⟨hb'⟩, ⟨fun j x hj hjk => ?_⟩⟩; by_cases e : j = kk
          · subst e
            rw [G.out] at hj; cases hj; exact HQ.out
          · exact AA.out j x hj (by omega)
    · have hltz : ¬ (kk : Int) < (l.length : Int) := by omega
      have hkl : kk = l.length := by omega
      subst hkl; go_wp2
      go_ret
      refine ⟨?_, BW.out⟩
      have h1 : ¬ l.any p = true := by
        intro h; obtain ⟨x, hx, hpx⟩ := List.any_eq_true.1 h; obtain ⟨j, hj, rfl⟩ := List.getElem_of_mem hx; have := AA.out j _ (List.getElem?_eq_getElem hj) hj; rw [this] at hpx; cases hpx
      have h3 : impl_Event_42.r p l = -1 := by unfold impl_Event_42.r; rw [if_neg h1]
      rw [h3]; rfl

/-! ### impl_Event_28: function 28 -/
set_option maxHeartbeats 4000000 in
set_option maxRecDepth 100000 in
theorem impl_Event_28.callsF (g : Nat) (lb : Array Value) (p : S39 → Bool) (A : Option Addr) (c : Nat) (l : List S39) (w : World)
    (eg : ∀ args w, (callFunc g args).run Try.prog w = .ok (.enter g args) w)
    (hr : Kd.C k39 w A l.length l)
    (hp : ∀ (W : World) (i : Nat) (x : S39) (A7 : Option Addr) (c7 : Nat), l[i]? = some x → Kd.C (Kd.int .i64) w A7 x.f7.length x.f7 → x.f7.length ≤ c7 → Below w.heap.size w W → Calls Try.prog g (#[.agg #[.int .i64 x.f0, .int .i64 x.f1, .int .i64 x.f2, .int .i64 x.f3, .int .i64 x.f4, .int .i64 x.f5, .string x.f6, .slice A7 x.f7.length c7, .int .i64 x.f8]] ++ lb) W fun e w' => e = .returned (.bool (p x)) ∧ Below w.heap.size w w') :
    Calls Try.prog 28 #[.slice A l.length c, .func (.func g) #[] lb] w fun e w' => e = .returned (.bool (l.any p)) ∧ Below w.heap.size w w' := by
  have HI := Aside0.mk (impl_Event_42.callsF g lb p A c l w eg hr hp); clear hr hp eg; go_enter Try.func28, Try.ntmps28; go_wp2_with (go_at_call 42; refine HI.out.mono ?_; rintro e w' ⟨rfl, hb'⟩)
  go_ret
  refine ⟨?_, hb'⟩
  have h3 : decide (0 ≤ impl_Event_42.r p l) = l.any p := by
    unfold impl_Event_42.r
    by_cases h : l.any p = true
    · rw [if_pos h, h]; exact decide_eq_true (Int.natCast_nonneg _)
    · rw [if_neg h, Bool.eq_false_iff.2 h]; rfl
  rw [← h3]; rfl

/-! ### slices_IndexFunc_int64_int64: function 55 -/
def slices_IndexFunc_int64_int64.r (p : Int → Bool) (l : List Int) : Int := if l.any p = true then (l.findIdx p : Int) else -1
set_option maxHeartbeats 4000000 in
set_option maxRecDepth 100000 in
theorem slices_IndexFunc_int64_int64.callsF (g : Nat) (lb : Array Value) (p : Int → Bool) (A : Option Addr) (c : Nat) (l : List Int) (w : World)
    (eg : ∀ args w, (callFunc g args).run Try.prog w = .ok (.enter g args) w)
    (hr : Kd.C (Kd.int .i64) w A l.length l)
    (hp : ∀ (W : World) (i : Nat) (x : Int), l[i]? = some x → Below w.heap.size w W → Calls Try.prog g (#[.int .i64 x] ++ lb) W fun e w' => e = .returned (.bool (p x)) ∧ Below w.heap.size w w') :
    Calls Try.prog 55 #[.slice A l.length c, .func (.func g) #[] lb] w fun e w' => e = .returned (.int .i64 (slices_IndexFunc_int64_int64.r p l)) ∧ Below w.heap.size w w' := by
  have HR := Aside0.mk hr; have HP := Aside0.mk hp; have hlen : l.length ≤ 9223372036854775807 := hr.2.1; clear hr hp; go_enter Try.func55, Try.ntmps55; go_wp2
  go_loopg [5, 8] l.length (fun gg _ s8 wr => ∃ kk : Nat, kk ≤ l.length ∧ l.length - kk ≤ gg ∧ s8 = .int .i64 kk ∧ Aside0 (Below w.heap.size w wr) ∧ Aside0 (∀ j x, l[j]? = some x → j < kk → p x = false))
  case atStart => exact ⟨0, Nat.zero_le _, by omega, rfl, ⟨Below.refl _ w⟩, ⟨fun j x _ hj => absurd hj (Nat.not_lt_zero _)⟩⟩
  case round =>
    obtain ⟨kk, hkk, hg, rfl, BW, AA⟩ := hrel; by_cases hlt : kk < l.length
    · have hltz : (kk : Int) < (l.length : Int) := by omega
      have hge : (0 : Int) ≤ (kk : Int) := by omega
      obtain ⟨ad, rfl, hx⟩ := Kd.at_int HR.out (kk : Int) hge hltz; have hx := (BW.out.cell (World.block_lt_of_cell? _ _ hx)).trans hx
      have hget : l[kk]? = some (rd l (kk : Int)) := by
        unfold rd; rw [Int.toNat_natCast, List.getD_eq_getElem?_getD, List.getElem?_eq_getElem hlt]; rfl
      have hcall := HP.out wr kk _ hget BW.out; have G := Aside0.mk hget; clear hget; generalize rd l (kk : Int) = y at hx hcall G; rw [Int.toNat_natCast] at hx
      cases hq : p y with
      | true =>
        rw [hq] at hcall; have HQ := Aside0.mk hq; clear hq; go_wp2_with (go_at_fn g; refine hcall.mono ?_; rintro e w' ⟨rfl, hb'⟩)
        go_ret
        refine ⟨?_, hb'⟩; have h1 : l.any p = true := List.any_eq_true.2 ⟨y, List.mem_of_getElem? G.out, HQ.out⟩
        have h2 : l.findIdx p = kk := by
          have e1 : l.findIdx p ≤ kk := by
            rw [← Nat.not_lt]; intro hh; have := List.not_of_lt_findIdx hh; have e2 := List.getElem?_eq_some_iff.1 G.out; rw [e2.2, HQ.out] at this; simp at this
          have e3 : ¬ l.findIdx p < kk := by
            intro hh; have hlt2 : l.findIdx p < l.length := by omega
            have h4 := AA.out _ _ (List.getElem?_eq_getElem hlt2) hh; have h5 := List.findIdx_getElem (w := hlt2); rw [h4] at h5; simp at h5
          omega
        have h3 : slices_IndexFunc_int64_int64.r p l = (kk : Int) := by unfold slices_IndexFunc_int64_int64.r; rw [if_pos h1, h2]
        rw [h3]; rfl
      | false =>
        rw [hq] at hcall; have HQ := Aside0.mk hq; clear hq; go_wp2_with (go_at_fn g; refine hcall.mono ?_; rintro e w' ⟨rfl, hb'⟩)
        go_roundg (l.length - (kk + 1))
        case measure => omega
        case rel =>
          refine ⟨kk + 1, by omega, by omega, by go_num, ⟨hb'⟩, ⟨fun j x hj hjk => ?_⟩⟩; by_cases e : j = kk
          · subst e
            rw [G.out] at hj; cases hj; exact HQ.out
          · exact AA.out j x hj (by omega)
    · have hltz : ¬ (kk : Int) < (l.length : Int) := by omega
      have hkl : kk = l.length := by omega
      subst hkl; go_wp2
      go_ret
      refine ⟨?_, BW.out⟩
      have h1 : ¬ l.any p = true := by
        intro h; obtain ⟨x, hx, hpx⟩ := List.any_eq_true.1 h; obtain ⟨j, hj, rfl⟩ := List.getElem_of_mem hx; have := AA.out j _ (List.getElem?_eq_getElem hj) hj; rw [this] at hpx; cases hpx
      have h3 : slices_IndexFunc_int64_int64.r p l = -1 := by unfold slices_IndexFunc_int64_int64.r; rw [if_neg h1]
      rw [h3]; rfl

/-! ### slices_ContainsFunc_int64_int64: function 43 -/
set_option maxHeartbeats 4000000 in
set_option maxRecDepth 100000 in
theorem slices_ContainsFunc_int64_int64.callsF (g : Nat) (lb : Array Value) (p : Int → Bool) (A : Option Addr) (c : Nat) (l : List Int) (w : World)
    (eg : ∀ args w, (callFunc g args).run Try.prog w = .ok (.enter g args) w)
    (hr : Kd.C (Kd.int .i64) w A l.length l)
    (hp : ∀ (W : World) (i : Nat) (x : Int), l[i]? = some x → Below w.heap.size w W → Calls Try.prog g (#[.int .i64 x] ++ lb) W fun e w' => e = .returned (.bool (p x)) ∧ Below w.heap.size w w') :
    Calls Try.prog 43 #[.slice A l.length c, .func (.func g) #[] lb] w fun e w' => e = .returned (.bool (l.any p)) ∧ Below w.heap.size w w' := by
  have HI := Aside0.mk (slices_IndexFunc_int64_int64.callsF g lb p A c l w eg hr hp); clear hr hp eg; go_enter Try.func43, Try.ntmps43; go_wp2_with (go_at_call 55; refine HI.out.mono ?_; rintro e w' ⟨rfl, hb'⟩)
  go_ret
  refine ⟨?_, hb'⟩
  have h3 : decide (0 ≤ slices_IndexFunc_int64_int64.r p l) = l.any p := by
    unfold slices_IndexFunc_int64_int64.r
    by_cases h : l.any p = true
    · rw [if_pos h, h]; exact decide_eq_true (Int.natCast_nonneg _)
    · rw [if_neg h, Bool.eq_false_iff.2 h]; rfl
  rw [← h3]; rfl

/-! ### impl_Graph_complete: function 30 -/
def anyQ {α : Type} (q : α → Option Bool) : List α → Option Bool
  | [] => some false
  | x :: l => (q x).bind fun b => (anyQ q l).bind fun c => some (b || c)
theorem anyQ_mono {α : Type} {q q' : α → Option Bool} (h : ∀ x, LeO (q x) (q' x)) : ∀ l, LeO (anyQ q l) (anyQ q' l)
  | [] => LeO.refl _
  | x :: l => LeO.bind (h x) (fun _ => LeO.bind (anyQ_mono h l) (fun _ => LeO.refl _))
theorem anyQ_all {α : Type} {q : α → Option Bool} : ∀ {l : List α} {b : Bool}, anyQ q l = some b → (∀ x ∈ l, q x = some ((q x).getD false)) ∧ l.any (fun x => (q x).getD false) = b
  | [], b, h => by
    simp only [anyQ, Option.some.injEq] at h
    subst h
    exact ⟨fun x hx => absurd hx (by simp), rfl⟩
  | x :: l, b, h => by
    simp only [anyQ] at h
    obtain ⟨b1, h1, h⟩ := Option.bind_eq_some_iff.mp h
    obtain ⟨b2, h2, h⟩ := Option.bind_eq_some_iff.mp h
    obtain rfl := Option.some.inj h
    obtain ⟨i1, i2⟩ := anyQ_all h2
    refine ⟨fun y hy => ?_, ?_⟩
    · rcases List.mem_cons.1 hy with rfl | hy
      · rw [h1]; rfl
      · exact i1 y hy
    · rw [List.any_cons, i2, h1]; rfl
def impl_Graph_complete.q (k : Nat) (g0 : Int) (g1 g2 : List S39) (id : Int) : Option Bool := (impl_Graph_has.f k g0 g1 g2 id).bind fun b => some (!b)
def impl_Graph_complete.f (k : Nat) (g0 : Int) (g1 g2 : List S39) (e7 : List Int) : Option Bool := (anyQ (impl_Graph_complete.q k g0 g1 g2) e7).bind fun b => some (!b)
theorem impl_Graph_complete.mono : ∀ g0 g1 g2 e7 k, LeO (impl_Graph_complete.f k g0 g1 g2 e7) (impl_Graph_complete.f (k + 1) g0 g1 g2 e7) := by
  intro g0 g1 g2 e7 k
  exact LeO.bind (anyQ_mono (fun id => LeO.bind (impl_Graph_has.mono _ _ _ _ _) (fun _ => LeO.refl _)) _) (fun _ => LeO.refl _)
set_option maxHeartbeats 4000000 in
set_option maxRecDepth 100000 in
theorem impl_Graph_complete.closure (k : Nat) (g0 : Int) (A1 : Option Addr) (c1 : Nat) (g1 : List S39) (A2 : Option Addr) (c2 : Nat) (g2 : List S39) (id : Int) (b : Bool) (B : Nat) (w : World) (hr1 : Kd.C k39 w A1 g1.length g1) (hc1 : g1.length ≤ c1) (hr2 : Kd.C k39 w A2 g2.length g2) (hc2 : g2.length ≤ c2)
    (x0 : w.cell? ⟨B, 0, none⟩ = some (.int .i64 g0)) (x1 : w.cell? ⟨B, 1, none⟩ = some (.slice A1 g1.length c1)) (x2 : w.cell? ⟨B, 2, none⟩ = some (.slice A2 g2.length c2)) (h : impl_Graph_complete.q k g0 g1 g2 id = some b) :
    Calls Try.prog 44 #[.int .i64 id, .pointer (some ⟨B, 0, none⟩)] w fun e w' => e = .returned (.bool b) ∧ Below w.heap.size w w' := by
  have HB := Aside0.mk (Below.refl w.heap.size w); obtain ⟨b1, h1, h2⟩ := Option.bind_eq_some_iff.mp h; obtain rfl := Option.some.inj h2; have H1 := Aside0.mk h1; have HR1 := Aside0.mk hr1; have HR2 := Aside0.mk hr2; have HC1 := Aside0.mk hc1; have HC2 := Aside0.mk hc2; clear h h1 h2 hr1 hr2 hc1 hc2; go_enter Try.func44, Try.ntmps44; go_wp2_with (go_at_call 14; refine (impl_Graph_has.calls k g0 A1 c1 g1 A2 c2 g2 id b1 _ ?side1 HC1.out ?side3 HC2.out H1.out).mono ?_; (case side1 => exact HR1.out); (case side3 => exact HR2.out); rintro e w' ⟨rfl, hb⟩; have HB1 := Aside0.mk (below_step HB.out (by first | exact hb | exact hb.below)); clear hb)
  go_ret
  exact ⟨by first | rfl | simp, HB1.out⟩
set_option maxHeartbeats 4000000 in
set_option maxRecDepth 100000 in
theorem impl_Graph_complete.calls (k : Nat) (g0 : Int) (A1 : Option Addr) (c1 : Nat) (g1 : List S39) (A2 : Option Addr) (c2 : Nat) (g2 : List S39) (e0 e1 e2 e3 e4 e5 : Int) (e6 : ByteArray) (A7 : Option Addr) (c7 : Nat) (e7 : List Int) (e8 : Int) (r : Bool) (w : World) (hr1 : Kd.C k39 w A1 g1.length g1) (hc1 : g1.length ≤ c1) (hr2 : Kd.C k39 w A2 g2.length g2) (hc2 : g2.length ≤ c2) (hr7 : Kd.C (Kd.int .i64) w A7 e7.length e7) (hc7 : e7.length ≤ c7) (h : impl_Graph_complete.f k g0 g1 g2 e7 = some r) :
    Calls Try.prog 30 #[.agg #[.int .i64 g0, .slice A1 g1.length c1, .slice A2 g2.length c2], .agg #[.int .i64 e0, .int .i64 e1, .int .i64 e2, .int .i64 e3, .int .i64 e4, .int .i64 e5, .string e6, .slice A7 e7.length c7, .int .i64 e8]] w fun e w' => e = .returned (.bool r) ∧ Below w.heap.size w w' := by
  obtain ⟨b, h1, h2⟩ := Option.bind_eq_some_iff.mp h; obtain rfl := Option.some.inj h2; obtain ⟨h3, rfl⟩ := anyQ_all h1; have HB := Aside0.mk (Below.refl w.heap.size w)
  have HC := Aside0.mk (slices_ContainsFunc_int64_int64.callsF 44 #[.pointer (some ⟨w.heap.size, 0, none⟩)] (fun id => (impl_Graph_complete.q k g0 g1 g2 id).getD false) A7 c7 e7 ((w.alloc (.cells #[.int .i64 g0, .slice A1 g1.length c1, .slice A2 g2.length c2] 29)).alloc (.cells #[.int .i64 e0, .int .i64 e1, .int .i64 e2, .int .i64 e3, .int .i64 e4, .int .i64 e5, .string e6, .slice A7 e7.length c7, .int .i64 e8] 39)) (enters_of Try.func44 (by kernel_rfl) rfl)
    (Kd.C_below hr7 (below_alloc (below_alloc (Below.refl _ _) _) _))
    (fun W i x hx hb => (impl_Graph_complete.closure k g0 A1 c1 g1 A2 c2 g2 x _ w.heap.size W (Kd.C_below hr1 (below_then (below_alloc (below_alloc (Below.refl _ _) _) _) (by simp; try omega) hb)) hc1 (Kd.C_below hr2 (below_then (below_alloc (below_alloc (Below.refl _ _) _) _) (by simp; try omega) hb)) hc2
      ((hb.cell (p := ⟨w.heap.size, 0, none⟩) (by simp; try omega)).trans ((World.cell?_alloc_lt (w.alloc (.cells #[.int .i64 g0, .slice A1 g1.length c1, .slice A2 g2.length c2] 29)) (.cells #[.int .i64 e0, .int .i64 e1, .int .i64 e2, .int .i64 e3, .int .i64 e4, .int .i64 e5, .string e6, .slice A7 e7.length c7, .int .i64 e8] 39) ⟨w.heap.size, 0, none⟩ (by simp; try omega)).trans (by simp))) ((hb.cell (p := ⟨w.heap.size, 1, none⟩) (by simp; try omega)).trans ((World.cell?_alloc_lt (w.alloc (.cells #[.int .i64 g0, .slice A1 g1.length c1, .slice A2 g2.length c2] 29)) (.cells #[.int .i64 e0, .int .i64 e1, .int .i64 e2, .int .i64 e3, .int .i64 e4, .int .i64 e5, .string e6, .slice A7 e7.length c7, .int .i64 e8] 39) ⟨w.heap.size, 1, none⟩ (by simp; try omega)).trans (by simp))) ((hb.cell (p := ⟨w.heap.size, 2, none⟩) (by simp; try omega)).trans ((World.cell?_alloc_lt (w.alloc (.cells #[.int .i64 g0, .slice A1 g1.length c1, .slice A2 g2.length c2] 29)) (.cells #[.int .i64 e0, .int .i64 e1, .int .i64 e2, .int .i64 e3, .int .i64 e4, .int .i64 e5, .string e6, .slice A7 e7.length c7, .int .i64 e8] 39) ⟨w.heap.size, 2, none⟩ (by simp; try omega)).trans (by simp))) (h3 x (List.mem_of_getElem? hx))).mono (fun _ _ h2 => ⟨h2.1, below_step hb h2.2⟩)))
  clear hr1 hr2 hr7 h h1 h2 h3; go_enter Try.func30, Try.ntmps30; go_wp2_with (go_at_call 43; (with_reducible refine HC.out.mono ?_); rintro e w' ⟨rfl, hb⟩)
  go_ret
  exact ⟨by first | rfl | simp, below_step (a1_ HB.out) hb⟩

end Go.Proofs.Ythpclkkkpponkaa.Print
