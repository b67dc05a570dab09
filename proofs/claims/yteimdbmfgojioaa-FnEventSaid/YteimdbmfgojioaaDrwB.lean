/- What draws a text and two events, told by its kind alone. -/
import Derived.Test.YteimdbmfgojioaaDrwA
import Derived.Test.YteimdbmfgojioaaPrint12
import Derived.Test.YteimdbmfgojioaaPrint15
import Derived.Test.YteimdbmfgojioaaPrint17
namespace Go.Proofs.Yteimdbmfgojioaa.Print
open Go.RowKit Go.Proofs.YteimdbmfgojioaaW.PrintWords Go.Proofs.YteimdbmfgojioaaW.PrintLast Go.Proofs.YteimdbmfgojioaaW.PrintMore
attribute [local go_sem] max2_int min2_int max_two min_two max_three min_three max_four min_four
set_option maxHeartbeats 8000000
set_option maxRecDepth 100000
set_option linter.unusedVariables false
set_option linter.unusedSimpArgs false

theorem Dr.spoil_j0 (l : List Int) (a mix sz : Int) (t c : ByteArray) (x : Int) (b : Bool) (hl : l.length ≤ 9223372036854775806) (h0 : 0 ≤ a) (h1 : a ≤ l.length) (hs : t.size ≤ 8000) (hc : c.size ≤ 1) (hx0 : 0 ≤ x) (hx1 : x ≤ (t.size : Int)) (hb : b = false → x < (t.size : Int)) :
    ∃ k r a' mix', spec_l01Src_spoil.j0 k t x c b l a mix sz = some (r, a', mix', sz) ∧ r.size ≤ 8001 ∧ 0 ≤ a' ∧ a' ≤ l.length := by
  have z1 : (t.extract 0 (x : Int).toNat).size = x.toNat := by rw [ByteArray.size_extract]; omega
  have z2 : ∀ y : Int, (t.extract (y : Int).toNat t.size).size = t.size - y.toNat := fun y => by rw [ByteArray.size_extract]; omega
  have z3 : ((t.extract 0 (x : Int).toNat) ++ c).size ≤ x.toNat + 1 := by rw [ByteArray.size_append]; omega
  have q2 := z2 x
  cases b
  · have hb := hb rfl
    have hw : wrap64 (x + 1) = x + 1 := by unfold wrap64; omega
    have q3 := z2 (x + 1)
    obtain ⟨v, a1, m1, g, _, _, g3, g4⟩ := Dr.n_some l a mix sz 2 hl h0 h1 (by omega)
    have ho : spec_l01Src_one.f l a mix sz 2 = some (v == 0, a1, m1, sz) := by unfold spec_l01Src_one.f; rw [g]; rfl
    generalize (v == 0) = u at ho
    cases u
    · refine ⟨1, ((t.extract 0 (x : Int).toNat) ++ c) ++ (t.extract ((x + 1) : Int).toNat t.size), a1, m1, ?_, by rw [ByteArray.size_append]; omega, g3, g4⟩
      simp only [spec_l01Src_spoil.j0]
      rw [if_neg (by simp), ho]
      simp only [Option.bind_some]
      rw [if_neg (by simp), hw, if_pos hx0, if_pos hx1, if_pos (by omega), if_pos (by omega), if_pos (by omega), if_pos (by omega)]
    · refine ⟨1, (t.extract 0 (x : Int).toNat) ++ (t.extract ((x + 1) : Int).toNat t.size), a1, m1, ?_, by rw [ByteArray.size_append]; omega, g3, g4⟩
      simp only [spec_l01Src_spoil.j0]
      rw [if_neg (by simp), ho]
      simp only [Option.bind_some]
      rw [if_pos (by first | rfl | trivial), hw, if_pos hx0, if_pos hx1, if_pos (by omega), if_pos (by omega), if_pos (by omega)]
  · refine ⟨1, ((t.extract 0 (x : Int).toNat) ++ c) ++ (t.extract (x : Int).toNat t.size), a, mix, ?_, by rw [ByteArray.size_append]; omega, h0, h1⟩
    simp only [spec_l01Src_spoil.j0]
    rw [if_pos (by first | rfl | trivial), if_pos hx0, if_pos hx1, if_pos (by omega), if_pos (by omega)]
theorem Dr.spoil_f (l : List Int) (a mix sz : Int) (t : ByteArray) (hl : l.length ≤ 9223372036854775806) (h0 : 0 ≤ a) (h1 : a ≤ l.length) (hs : t.size ≤ 8000) : ∃ k r a' mix', spec_l01Src_spoil.f k l a mix sz t = some (r, a', mix', sz) ∧ r.size ≤ 8001 ∧ 0 ≤ a' ∧ a' ≤ l.length := by
  have hw : wrap64 ((t.size : Int) + 1) = (t.size : Int) + 1 := by unfold wrap64; omega
  obtain ⟨v, a1, m1, g, g1, g2, g3, g4⟩ := Dr.n_some l a mix sz ((t.size : Int) + 1) hl h0 h1 (by omega)
  obtain ⟨u, a2, m2, e, e1, e2, e3, e4⟩ := Dr.n_some l a1 m1 sz 17 hl g3 g4 (by omega)
  have hc : ∀ y : Int, (strOfNums [y]).size ≤ 1 := fun y => by rw [strOfNums_size]; exact Nat.le_refl 1
  by_cases c : v = (t.size : Int)
  · obtain ⟨k, r, a3, m3, q, z⟩ := Dr.spoil_j0 l a2 m2 sz t (strOfNums [bt (⟨#[32, 10, 48, 97, 45, 110, 44, 58, 93, 255, 40, 120, 126, 49, 128, 225, 59]⟩ : ByteArray) u]) v true hl e3 e4 hs (hc _) g1 (by omega) (fun h => by cases h)
    refine ⟨k, r, a3, m3, ?_, z⟩
    unfold spec_l01Src_spoil.f
    rw [hw, g]
    simp only [Option.bind_some]
    rw [e]
    simp only [Option.bind_some]
    rw [if_pos e1, if_pos (show u < 17 by omega), if_pos c]
    exact q
  · obtain ⟨x, a3, m3, g', _, _, k3, k4⟩ := Dr.n_some l a2 m2 sz 3 hl e3 e4 (by omega)
    have ho : spec_l01Src_one.f l a2 m2 sz 3 = some (x == 0, a3, m3, sz) := by unfold spec_l01Src_one.f; rw [g']; rfl
    obtain ⟨k, r, a4, m4, q, z⟩ := Dr.spoil_j0 l a3 m3 sz t (strOfNums [bt (⟨#[32, 10, 48, 97, 45, 110, 44, 58, 93, 255, 40, 120, 126, 49, 128, 225, 59]⟩ : ByteArray) u]) v (x == 0) hl k3 k4 hs (hc _) g1 (by omega) (fun _ => by omega)
    refine ⟨k, r, a4, m4, ?_, z⟩
    unfold spec_l01Src_spoil.f
    rw [hw, g]
    simp only [Option.bind_some]
    rw [e]
    simp only [Option.bind_some]
    rw [if_pos e1, if_pos (show u < 17 by omega), if_neg c, ho]
    exact q
theorem Dr.spoil {w0 W : World} {g : Nat} {l : List Int} (h : Dr w0 W g l) (t : ByteArray) (ht : t.size ≤ 8000) : Calls Try.prog 25 #[.pointer (some ⟨g, 0, none⟩), .string t] W fun e W' => ∃ r : ByteArray, e = .returned (.string r) ∧ r.size ≤ 8001 ∧ Dr w0 W' g l := by
  obtain ⟨hl, ⟨a, mm, z, h0, h1, hi⟩, hb⟩ := h
  obtain ⟨k, r, a', m', e, hr, h4, h5⟩ := Dr.spoil_f l a mm z t (by omega) h0 h1 ht
  refine (spec_l01Src_spoil.calls k g l a mm z t r a' m' z w0 W hi hb e).mono ?_
  rintro e w' ⟨rfl, hi', hb', hk⟩
  exact ⟨r, rfl, hr, hl, ⟨a', m', z, h4, h5, hi'⟩, hb'⟩
/-- What the functions give that these draws lean on: shown by the plain law. -/
def DrawFacts : Prop :=
  (∀ (e0 e1 e2 e3 e4 e5 : Int) (e6 : ByteArray) (l7 : List Int) (e8 : Int), e6.size ≤ 1000 → l7.length ≤ 3 → ∃ k r, spec_EventBytes.f k e0 e1 e2 e3 e4 e5 e6 l7 e8 = some r ∧ r.size ≤ 8000) ∧
  (∀ t : ByteArray, t.size ≤ 8000 → ∃ k r1 r2 r3, spec_Unseal.f k t = some (r1, r2, r3) ∧ r1.size ≤ 8000) ∧
  (∀ t : ByteArray, t.size ≤ 8001 → ∃ k r, spec_Seal.f k t = some r ∧ r.size ≤ 8001)
set_option maxHeartbeats 8000000 in
set_option maxRecDepth 100000 in
theorem spec_DrawEventRead.calls (hf : DrawFacts) (A0 : Option Addr) (c0 : Nat) (l0 : List Int) (w : World) (hl0 : l0.length ≤ 1048576) (hr0 : Kd.C (Kd.int .u8) w A0 l0.length l0) (hc0 : l0.length ≤ c0) :
    Calls Try.prog 6 #[.slice A0 l0.length c0] w fun e w' => ∃ u : ByteArray, e = .returned (.string u) ∧ u.size ≤ 8001 ∧ Below w.heap.size w w' := by
  have hu45 := Try.underlying45
  have hfd45_0 : ∀ (x0_ x1_ x2_ : Value) (w_ : World), Go.Sem.run Try.prog (Instr.field 45 (Value.agg #[x0_, x1_, x2_]) 0) w_ = Result.ok x0_ w_ := fun _ _ _ _ => by with_unfolding_all rfl
  have HR := Aside0.mk hr0
  have HC := Aside0.mk hc0
  have HL := Aside0.mk hl0
  have HF := Aside0.mk hf
  clear hr0 hc0 hl0 hf
  go_enter Try.func6, Try.ntmps6
  go_wp2_with (first | (go_at_call 19; with_reducible refine Calls.mono (Dr.source HL.out (Below.refl _ _) HR.out HC.out) ?_; rintro e w' ⟨g, rfl, hd, hb⟩; have HD := Aside0.mk hd; clear hd hb) | (go_at_call 20; with_reducible refine Calls.mono (spec_l01Src_l02Event.calls g l0 w _ HD.out) ?_; rintro e w3 ⟨y0, y1, y2, y3, y4, y5, y6, v7, l7, y8, rfl, ht, hn, ho, hk, hd⟩; have HO := Aside0.mk ho; have HT := Aside0.mk ht; have HN := Aside0.mk hn; clear ho ht hn hk; have HD_ := Aside0.mk hd; clear HD; have HD := HD_; clear HD_; clear hd; obtain ⟨A7, c7, e7⟩ := Kd.R_slice HO.out; subst e7) | (go_at_call 10; obtain ⟨k, t, he, hts⟩ := HF.out.1 y0 y1 y2 y3 y4 y5 y6 l7 y8 HT.out HN.out; with_reducible refine Calls.mono (spec_EventBytes.calls k y0 y1 y2 y3 y4 y5 y6 A7 c7 l7 y8 t _ (Kd.R_reads' HO.out).2.2 (Kd.R_reads' HO.out).2.1 he) ?_; rintro e w4 ⟨rfl, hb⟩; have HS := Aside0.mk hts; clear hts he; have HD_ := Aside0.mk (HD.out.below hb); clear HD; have HD := HD_; clear HD_; clear hb HO) | (go_at_call 24; with_reducible refine Calls.mono (HD.out.n 5 (by decide)) ?_; rintro e w5 ⟨v, rfl, hv, hk, hd⟩; clear hv hk; have HD_ := Aside0.mk hd; clear HD; have HD := HD_; clear HD_; clear hd) | (go_at_call 24; with_reducible refine Calls.mono (HD.out.n _ (by unfold wrap64; omega)) ?_; rintro e w6 ⟨v, rfl, hv, hk, hd⟩; clear hk; have p_ : 0 ≤ v := hv.1; have q_ : v ≤ (t.size : Int) := (by have h1 := hv.2; have h2 := HS.out; unfold wrap64 at h1; omega); clear hv; have p2_ : decide (0 ≤ v) = true := decide_eq_true p_; have q2_ : decide (v ≤ (t.size : Int)) = true := decide_eq_true q_; replace p_ := eq_true p_; replace q_ := eq_true q_; have HD_ := Aside0.mk hd; clear HD; have HD := HD_; clear HD_; clear hd) | (go_at_call 25; (first | with_reducible refine Calls.mono (HD.out.spoil t HS.out) ?_ | with_reducible refine Calls.mono (HD.out.spoil r1 HS1.out) ?_); rintro e w7 ⟨u, rfl, hu, hd⟩; have HU := Aside0.mk hu; clear hu; have HD_ := Aside0.mk hd; clear HD; have HD := HD_; clear HD_; clear hd) | (go_at_call 27; obtain ⟨k2, r1, r2, r3, he, hs1⟩ := HF.out.2.1 t HS.out; with_reducible refine Calls.mono (spec_Unseal.calls k2 t r1 r2 r3 _ he) ?_; rintro e w8 ⟨rfl, hb⟩; have HS1 := Aside0.mk hs1; clear hs1 he; have HD_ := Aside0.mk (HD.out.below hb); clear HD; have HD := HD_; clear HD_; clear hb) | (go_at_call 26; obtain ⟨k3, u2, he, hu2⟩ := HF.out.2.2 u HU.out; with_reducible refine Calls.mono (spec_Seal.calls k3 u u2 _ he) ?_; rintro e w9 ⟨rfl, hb⟩; (clear HU); have HU := Aside0.mk hu2; clear hu2 he; have HD_ := Aside0.mk (HD.out.below hb); clear HD; have HD := HD_; clear HD_; clear hb))
  all_goals (go_ret; first | exact ⟨_, rfl, HU.out, HD.out.bel⟩ | exact ⟨_, rfl, Nat.le_succ_of_le HS.out, HD.out.bel⟩ | exact ⟨_, rfl, (by rw [ByteArray.size_extract]; have := HS.out; omega), HD.out.bel⟩)
/-! Two events, each in a box, and two boxes for the answer. -/
structure SmE (w W : World) (g r1 r2 ga gb : Nat) (l : List Int) (a0 a1 a2 a3 a4 a5 : Int) (a6 : ByteArray) (a7 : Value) (la : List Int) (a8 : Int) (b0 b1 b2 b3 b4 b5 : Int) (b6 : ByteArray) (b7 : Value) (lb : List Int) (b8 : Int) : Prop where
  dr : Dr w W g l
  k1 : W.heap[r1]? = some (.cells #[.int .i64 0, .int .i64 0, .int .i64 0, .int .i64 0, .int .i64 0, .int .i64 0, .string (⟨#[]⟩ : ByteArray), .slice none 0 0, .int .i64 0] 25 (0, 0))
  k2 : W.heap[r2]? = some (.cells #[.int .i64 0, .int .i64 0, .int .i64 0, .int .i64 0, .int .i64 0, .int .i64 0, .string (⟨#[]⟩ : ByteArray), .slice none 0 0, .int .i64 0] 25 (0, 0))
  ka : W.heap[ga]? = some (.cells #[.int .i64 a0, .int .i64 a1, .int .i64 a2, .int .i64 a3, .int .i64 a4, .int .i64 a5, .string a6, a7, .int .i64 a8] 25 (0, 0))
  kb : W.heap[gb]? = some (.cells #[.int .i64 b0, .int .i64 b1, .int .i64 b2, .int .i64 b3, .int .i64 b4, .int .i64 b5, .string b6, b7, .int .i64 b8] 25 (0, 0))
  ra : Kd.R (Kd.int .i64) 2 W w.heap.size (fun k => some k ≠ b7.ownBlock) a7 la
  rb : Kd.R (Kd.int .i64) 2 W w.heap.size (fun k => some k ≠ a7.ownBlock) b7 lb
  h1 : w.heap.size ≤ r1
  n12 : r1 < r2
  n2a : r2 < ga
  nab : ga < gb
  t6 : a6.size ≤ 1000 ∧ b6.size ≤ 1001
  t7 : la.length ≤ 3 ∧ lb.length ≤ 4
section
variable {w W W1 : World} {g r1 r2 ga gb : Nat} {l : List Int} {a0 a1 a2 a3 a4 a5 : Int} {a6 : ByteArray} {a7 : Value} {la : List Int} {a8 : Int} {b0 b1 b2 b3 b4 b5 : Int} {b6 : ByteArray} {b7 : Value} {lb : List Int} {b8 : Int}
theorem SmE.ng (h : SmE w W g r1 r2 ga gb l a0 a1 a2 a3 a4 a5 a6 a7 la a8 b0 b1 b2 b3 b4 b5 b6 b7 lb b8) : g ≠ r1 ∧ g ≠ r2 ∧ g ≠ ga ∧ g ≠ gb := ⟨h.dr.ne_blk h.k1 (by decide), h.dr.ne_blk h.k2 (by decide), h.dr.ne_blk h.ka (by decide), h.dr.ne_blk h.kb (by decide)⟩
theorem SmE.below (h : SmE w W g r1 r2 ga gb l a0 a1 a2 a3 a4 a5 a6 a7 la a8 b0 b1 b2 b3 b4 b5 b6 b7 lb b8) (hb : Below W.heap.size W W1) : SmE w W1 g r1 r2 ga gb l a0 a1 a2 a3 a4 a5 a6 a7 la a8 b0 b1 b2 b3 b4 b5 b6 b7 lb b8 :=
  ⟨h.dr.below hb, blk_below h.k1 hb, blk_below h.k2 hb, blk_below h.ka hb, blk_below h.kb hb, Kd.R_below h.ra hb, Kd.R_below h.rb hb, h.h1, h.n12, h.n2a, h.nab, h.t6, h.t7⟩
theorem SmE.keep (h : SmE w W g r1 r2 ga gb l a0 a1 a2 a3 a4 a5 a6 a7 la a8 b0 b1 b2 b3 b4 b5 b6 b7 lb b8) (hk : KeepBut W W1 g none) (hd : Dr w W1 g l) : SmE w W1 g r1 r2 ga gb l a0 a1 a2 a3 a4 a5 a6 a7 la a8 b0 b1 b2 b3 b4 b5 b6 b7 lb b8 :=
  ⟨hd, hk.blk h.k1 (Ne.symm h.ng.1) (by simp), hk.blk h.k2 (Ne.symm h.ng.2.1) (by simp), hk.blk h.ka (Ne.symm h.ng.2.2.1) (by simp), hk.blk h.kb (Ne.symm h.ng.2.2.2) (by simp), h.dr.row h.ra (by decide) hk, h.dr.row h.rb (by decide) hk, h.h1, h.n12, h.n2a, h.nab, h.t6, h.t7⟩
theorem SmE.put (h : SmE w W g r1 r2 ga gb l a0 a1 a2 a3 a4 a5 a6 a7 la a8 b0 b1 b2 b3 b4 b5 b6 b7 lb b8) (j : Nat) (u : Value) {f0 f1 f2 f3 f4 f5 f8 : Int} {f6 : ByteArray} (t6 : f6.size ≤ 1001)
    (e : (#[.int .i64 b0, .int .i64 b1, .int .i64 b2, .int .i64 b3, .int .i64 b4, .int .i64 b5, .string b6, b7, .int .i64 b8] : Array Value).setIfInBounds j u = #[.int .i64 f0, .int .i64 f1, .int .i64 f2, .int .i64 f3, .int .i64 f4, .int .i64 f5, .string f6, b7, .int .i64 f8]) : SmE w (W.setCell ⟨gb, j, none⟩ u) g r1 r2 ga gb l a0 a1 a2 a3 a4 a5 a6 a7 la a8 f0 f1 f2 f3 f4 f5 f6 b7 lb f8 :=
  ⟨h.dr.far h.ng.2.2.2 (by have := h.h1; have := h.n12; have := h.n2a; have := h.nab; omega) u, blk_far h.k1 (by show r1 ≠ gb; have := h.n12; have := h.n2a; have := h.nab; omega) u, blk_far h.k2 (by show r2 ≠ gb; have := h.n2a; have := h.nab; omega) u, blk_far h.ka (by show ga ≠ gb; have := h.nab; omega) u, blk_put h.kb j u e, Kd.R_mono (Kd.R_far (p := ⟨gb, j, none⟩) (Kd.R_types h.ra h.kb (by decide)) (fun _ hk => hk.2) u) (fun _ hk => hk.1), Kd.R_mono (Kd.R_far (p := ⟨gb, j, none⟩) (Kd.R_types h.rb h.kb (by decide)) (fun _ hk => hk.2) u) (fun _ hk => hk.1), h.h1, h.n12, h.n2a, h.nab, ⟨h.t6.1, t6⟩, h.t7⟩
theorem SmE.set8 (h : SmE w W g r1 r2 ga gb l a0 a1 a2 a3 a4 a5 a6 a7 la a8 b0 b1 b2 b3 b4 b5 b6 b7 lb b8) (x : Int) : SmE w (W.setCell ⟨gb, 8, none⟩ (.int .i64 x)) g r1 r2 ga gb l a0 a1 a2 a3 a4 a5 a6 a7 la a8 b0 b1 b2 b3 b4 b5 b6 b7 lb x := h.put 8 _ h.t6.2 rfl
theorem SmE.set6 (h : SmE w W g r1 r2 ga gb l a0 a1 a2 a3 a4 a5 a6 a7 la a8 b0 b1 b2 b3 b4 b5 b6 b7 lb b8) (x : ByteArray) (hx : x.size ≤ 1001) : SmE w (W.setCell ⟨gb, 6, none⟩ (.string x)) g r1 r2 ga gb l a0 a1 a2 a3 a4 a5 a6 a7 la a8 b0 b1 b2 b3 b4 b5 x b7 lb b8 := h.put 6 _ hx rfl
structure SmP (w W : World) (g r1 r2 ga gb : Nat) (l : List Int) (a0 a1 a2 a3 a4 a5 : Int) (a6 : ByteArray) (a7 : Value) (la : List Int) (a8 : Int) (b0 b1 b2 b3 b4 b5 : Int) (b6 : ByteArray) (b7 : Value) (b8 : Int) : Prop where
  dr : Dr w W g l
  k1 : W.heap[r1]? = some (.cells #[.int .i64 0, .int .i64 0, .int .i64 0, .int .i64 0, .int .i64 0, .int .i64 0, .string (⟨#[]⟩ : ByteArray), .slice none 0 0, .int .i64 0] 25 (0, 0))
  k2 : W.heap[r2]? = some (.cells #[.int .i64 0, .int .i64 0, .int .i64 0, .int .i64 0, .int .i64 0, .int .i64 0, .string (⟨#[]⟩ : ByteArray), .slice none 0 0, .int .i64 0] 25 (0, 0))
  ka : W.heap[ga]? = some (.cells #[.int .i64 a0, .int .i64 a1, .int .i64 a2, .int .i64 a3, .int .i64 a4, .int .i64 a5, .string a6, a7, .int .i64 a8] 25 (0, 0))
  kb : W.heap[gb]? = some (.cells #[.int .i64 b0, .int .i64 b1, .int .i64 b2, .int .i64 b3, .int .i64 b4, .int .i64 b5, .string b6, b7, .int .i64 b8] 25 (0, 0))
  ra : Kd.R (Kd.int .i64) 2 W w.heap.size (fun _ => True) a7 la
  h1 : w.heap.size ≤ r1
  n12 : r1 < r2
  n2a : r2 < ga
  nab : ga < gb
  t6 : a6.size ≤ 1000 ∧ b6.size ≤ 1001
  t7 : la.length ≤ 3
theorem SmE.grown (h : SmE w W g r1 r2 ga gb l a0 a1 a2 a3 a4 a5 a6 a7 la a8 b0 b1 b2 b3 b4 b5 b6 b7 lb b8) (hb : Below w.heap.size W W1) (hg : W.grownBy W1 b7.ownBlock) : SmP w W1 g r1 r2 ga gb l a0 a1 a2 a3 a4 a5 a6 a7 la a8 b0 b1 b2 b3 b4 b5 b6 b7 b8 := by
  obtain ⟨d1, ⟨a, m, z, d2, d3, d4⟩, d5⟩ := h.dr
  exact ⟨⟨d1, ⟨a, m, z, d2, d3, d4.grown hg (d4.own_ne h.rb (by decide))⟩, below_weaken d5 (Nat.le_refl _) hb⟩, blk_grown h.k1 hg (Kd.R_ne h.rb h.k1 (by decide)), blk_grown h.k2 hg (Kd.R_ne h.rb h.k2 (by decide)), blk_grown h.ka hg (Kd.R_ne h.rb h.ka (by decide)), blk_grown h.kb hg (Kd.R_ne h.rb h.kb (by decide)), Kd.R_mono (Kd.R_grown h.ra hg (fun _ hk => hk)) (fun _ _ => trivial), h.h1, h.n12, h.n2a, h.nab, h.t6, h.t7.1⟩
theorem SmP.set7 (h : SmP w W g r1 r2 ga gb l a0 a1 a2 a3 a4 a5 a6 a7 la a8 b0 b1 b2 b3 b4 b5 b6 b7 b8) {v : Value} {xs : List Int} (ho : Kd.R (Kd.int .i64) 2 W w.heap.size (fun k => some k ≠ a7.ownBlock) v xs) (hx : xs.length ≤ 4) : SmE w (W.setCell ⟨gb, 7, none⟩ v) g r1 r2 ga gb l a0 a1 a2 a3 a4 a5 a6 a7 la a8 b0 b1 b2 b3 b4 b5 b6 v xs b8 :=
  ⟨h.dr.far (h.dr.ne_blk h.kb (by decide)) (by have := h.h1; have := h.n12; have := h.n2a; have := h.nab; omega) v, blk_far h.k1 (by show r1 ≠ gb; have := h.n12; have := h.n2a; have := h.nab; omega) v, blk_far h.k2 (by show r2 ≠ gb; have := h.n2a; have := h.nab; omega) v, blk_far h.ka (by show ga ≠ gb; have := h.nab; omega) v, blk_put h.kb 7 v rfl, Kd.R_mono (Kd.R_far (p := ⟨gb, 7, none⟩) (Kd.R_types (Kd.R_tight rfl h.ra) h.kb (by decide)) (fun _ hk => hk.2) v) (fun k hk he => ho.1 k he.symm hk.1), Kd.R_mono (Kd.R_far (p := ⟨gb, 7, none⟩) (Kd.R_types ho h.kb (by decide)) (fun _ hk => hk.2) v) (fun _ hk => hk.1), h.h1, h.n12, h.n2a, h.nab, h.t6, ⟨h.t7, hx⟩⟩
theorem SmE.all (h : SmE w W g r1 r2 ga gb l a0 a1 a2 a3 a4 a5 a6 a7 la a8 b0 b1 b2 b3 b4 b5 b6 b7 lb b8) {u0 u1 u2 u3 u4 u5 u8 : Int} {u6 : ByteArray} {v : Value} {xs : List Int} (ho : Kd.R (Kd.int .i64) 2 W w.heap.size (fun k => some k ≠ a7.ownBlock) v xs) (h6 : u6.size ≤ 1001) (hx : xs.length ≤ 4) : SmE w (((((((((W.setCell ⟨gb, 0, none⟩ (.int .i64 u0)).setCell ⟨gb, 1, none⟩ (.int .i64 u1)).setCell ⟨gb, 2, none⟩ (.int .i64 u2)).setCell ⟨gb, 3, none⟩ (.int .i64 u3)).setCell ⟨gb, 4, none⟩ (.int .i64 u4)).setCell ⟨gb, 5, none⟩ (.int .i64 u5)).setCell ⟨gb, 6, none⟩ (.string u6)).setCell ⟨gb, 7, none⟩ v).setCell ⟨gb, 8, none⟩ (.int .i64 u8)) g r1 r2 ga gb l a0 a1 a2 a3 a4 a5 a6 a7 la a8 u0 u1 u2 u3 u4 u5 u6 v xs u8 :=
  ⟨h.dr.put9 h.ng.2.2.2 (by have := h.h1; have := h.n12; have := h.n2a; have := h.nab; omega), blk9 h.k1 (by have := h.n12; have := h.n2a; have := h.nab; omega), blk9 h.k2 (by have := h.n2a; have := h.nab; omega), blk9 h.ka (by have := h.nab; omega), bp9_ h.kb, row9 (Kd.R_mono (Kd.R_tight rfl h.ra) (fun k hk he => ho.1 k he.symm hk)) h.kb (by decide), row9 ho h.kb (by decide), h.h1, h.n12, h.n2a, h.nab, ⟨h.t6.1, h6⟩, ⟨h.t7.1, hx⟩⟩
theorem SmE.drew (h : SmE w W g r1 r2 ga gb l a0 a1 a2 a3 a4 a5 a6 a7 la a8 b0 b1 b2 b3 b4 b5 b6 b7 lb b8) : SmE w W.drew g r1 r2 ga gb l a0 a1 a2 a3 a4 a5 a6 a7 la a8 b0 b1 b2 b3 b4 b5 b6 b7 lb b8 := by
  obtain ⟨d1, ⟨a, m, z, d2, d3, d4⟩, d5⟩ := h.dr
  exact ⟨⟨d1, ⟨a, m, z, d2, d3, d4.drew⟩, below_drew1 d5⟩, blk_drew h.k1, blk_drew h.k2, blk_drew h.ka, blk_drew h.kb, Kd.R_drew h.ra, Kd.R_drew h.rb, h.h1, h.n12, h.n2a, h.nab, h.t6, h.t7⟩
def SmX (w W : World) (g r1 r2 ga gb : Nat) (l : List Int) : Prop := ∃ (a0 a1 a2 a3 a4 a5 : Int) (a6 : ByteArray) (a7 : Value) (la : List Int) (a8 : Int) (b0 b1 b2 b3 b4 b5 : Int) (b6 : ByteArray) (b7 : Value) (lb : List Int) (b8 : Int), SmE w W g r1 r2 ga gb l a0 a1 a2 a3 a4 a5 a6 a7 la a8 b0 b1 b2 b3 b4 b5 b6 b7 lb b8
theorem SmE.x (h : SmE w W g r1 r2 ga gb l a0 a1 a2 a3 a4 a5 a6 a7 la a8 b0 b1 b2 b3 b4 b5 b6 b7 lb b8) : SmX w W g r1 r2 ga gb l := ⟨_, _, _, _, _, _, _, _, _, _, _, _, _, _, _, _, _, _, _, _, h⟩
theorem two_cells {c0 c1 c2 c3 c4 c5 c6 c7 c8 d0 d1 d2 d3 d4 d5 d6 d7 d8 : Value} {t t2 : TypeId} (h : W.heap[ga]? = some (.cells #[c0, c1, c2, c3, c4, c5, c6, c7, c8] t (0, 0))) (h2 : W.heap[gb]? = some (.cells #[d0, d1, d2, d3, d4, d5, d6, d7, d8] t2 (0, 0))) : W.cell? ⟨ga, 0, none⟩ = some c0 ∧ W.cell? ⟨ga, 1, none⟩ = some c1 ∧ W.cell? ⟨ga, 2, none⟩ = some c2 ∧ W.cell? ⟨ga, 3, none⟩ = some c3 ∧ W.cell? ⟨ga, 4, none⟩ = some c4 ∧ W.cell? ⟨ga, 5, none⟩ = some c5 ∧ W.cell? ⟨ga, 6, none⟩ = some c6 ∧ W.cell? ⟨ga, 7, none⟩ = some c7 ∧ W.cell? ⟨ga, 8, none⟩ = some c8 ∧ W.cell? ⟨gb, 0, none⟩ = some d0 ∧ W.cell? ⟨gb, 1, none⟩ = some d1 ∧ W.cell? ⟨gb, 2, none⟩ = some d2 ∧ W.cell? ⟨gb, 3, none⟩ = some d3 ∧ W.cell? ⟨gb, 4, none⟩ = some d4 ∧ W.cell? ⟨gb, 5, none⟩ = some d5 ∧ W.cell? ⟨gb, 6, none⟩ = some d6 ∧ W.cell? ⟨gb, 7, none⟩ = some d7 ∧ W.cell? ⟨gb, 8, none⟩ = some d8 := by
  obtain ⟨⟨h0, h1, h2_, h3, h4, h5, h6, h7, h8⟩, _⟩ := cells_9 h
  obtain ⟨⟨k0, k1, k2, k3, k4, k5, k6, k7, k8⟩, _⟩ := cells_9 h2
  exact ⟨h0, h1, h2_, h3, h4, h5, h6, h7, h8, k0, k1, k2, k3, k4, k5, k6, k7, k8⟩
end
def spec_DrawSameEvent.Post (w : World) (e : Ending) (w' : World) : Prop := ∃ (a0 a1 a2 a3 a4 a5 : Int) (a6 : ByteArray) (a7 : Value) (la : List Int) (a8 : Int) (b0 b1 b2 b3 b4 b5 : Int) (b6 : ByteArray) (b7 : Value) (lb : List Int) (b8 : Int), e = .returned (.tuple #[.agg #[.int .i64 a0, .int .i64 a1, .int .i64 a2, .int .i64 a3, .int .i64 a4, .int .i64 a5, .string a6, a7, .int .i64 a8], .agg #[.int .i64 b0, .int .i64 b1, .int .i64 b2, .int .i64 b3, .int .i64 b4, .int .i64 b5, .string b6, b7, .int .i64 b8]]) ∧ (a6.size ≤ 1000 ∧ b6.size ≤ 1001) ∧ (la.length ≤ 3 ∧ lb.length ≤ 4) ∧ Kd.R (Kd.int .i64) 2 w' w.heap.size (fun _ => True) a7 la ∧ Kd.R (Kd.int .i64) 2 w' w.heap.size (fun _ => True) b7 lb ∧ Below w.heap.size w w'
set_option maxHeartbeats 8000000 in
set_option maxRecDepth 100000 in
theorem spec_DrawSameEvent.calls (A0 : Option Addr) (c0 : Nat) (l0 : List Int) (w : World) (hl0 : l0.length ≤ 1048576) (hr0 : Kd.C (Kd.int .u8) w A0 l0.length l0) (hc0 : l0.length ≤ c0) :
    Calls Try.prog 9 #[.slice A0 l0.length c0] w fun e w' => spec_DrawSameEvent.Post w e w' := by
  have hu25 := Try.underlying25
  have HR := Aside0.mk hr0
  have HC := Aside0.mk hc0
  have HL := Aside0.mk hl0
  clear hr0 hc0 hl0
  go_enter Try.func9, Try.ntmps9
  go_upto_if 14 with (first | ((with_reducible refine gate_dst (N := 2) rfl ?_); refine be_ 2 #[.int .i64 0, .int .i64 0, .int .i64 0, .int .i64 0, .int .i64 0, .int .i64 0, .string (⟨#[]⟩ : ByteArray), .slice none 0 0, .int .i64 0] 25 ?_; intro r1 hg w1 hbox hb; have K1 := Aside0.mk hbox; have H1 := Aside0.mk (show w.heap.size ≤ r1 by rw [hg]; exact Nat.le_refl _); have HB := Aside0.mk hb; clear hg hbox hb) | ((with_reducible refine gate_dst (N := 3) rfl ?_); refine be_ 3 #[.int .i64 0, .int .i64 0, .int .i64 0, .int .i64 0, .int .i64 0, .int .i64 0, .string (⟨#[]⟩ : ByteArray), .slice none 0 0, .int .i64 0] 25 ?_; intro r2 hg w2 hbox hb; have N12 := Aside0.mk (show r1 < r2 by rw [hg]; exact blk_lt K1.out); have K1_ := Aside0.mk (blk_below K1.out hb); have K2 := Aside0.mk hbox; have HB_ := Aside0.mk (below_step HB.out hb); clear K1 HB hg hbox hb; have K1 := K1_; have HB := HB_; clear K1_ HB_) | (go_at_call 19; with_reducible refine Calls.mono (Dr.source HL.out HB.out HR.out HC.out) ?_; rintro e w3 ⟨g, rfl, hd, hb⟩; have K1_ := Aside0.mk (blk_below K1.out hb); have K2_ := Aside0.mk (blk_below K2.out hb); clear K1 K2 HB hb; have K1 := K1_; have K2 := K2_; clear K1_ K2_; have HD := Aside0.mk hd; clear hd) | (go_at_call 20; with_reducible refine Calls.mono (spec_l01Src_l02Event.calls g l0 w _ HD.out) ?_; rintro e w4 ⟨a0, a1, a2, a3, a4, a5, a6, v7, la, a8, rfl, ht, hn, ho, hk, hd⟩; have K1_ := Aside0.mk (hk.blk K1.out (Ne.symm (HD.out.ne_blk K1.out (by decide))) (by simp)); have K2_ := Aside0.mk (hk.blk K2.out (Ne.symm (HD.out.ne_blk K2.out (by decide))) (by simp)); have HO := Aside0.mk (Kd.R_lower ho HD.out.bel.size); have HT := Aside0.mk ht; have HN := Aside0.mk hn; clear K1 K2 HD ho ht hn hk; have K1 := K1_; have K2 := K2_; clear K1_ K2_; have HD := Aside0.mk hd; clear hd; obtain ⟨A7, c7, e7⟩ := Kd.R_slice HO.out; subst e7) | ((with_reducible refine gate_dst (N := 5) rfl ?_); refine be_ 5 #[.int .i64 0, .int .i64 0, .int .i64 0, .int .i64 0, .int .i64 0, .int .i64 0, .string (⟨#[]⟩ : ByteArray), .slice none 0 0, .int .i64 0] 25 ?_; intro ga hg w5 hbox hb; have N2A := Aside0.mk (show r2 < ga by rw [hg]; exact blk_lt K2.out); have K1_ := Aside0.mk (blk_below K1.out hb); have K2_ := Aside0.mk (blk_below K2.out hb); have HO_ := Aside0.mk (Kd.R_below HO.out hb); have HD_ := Aside0.mk (HD.out.below hb); have KA := Aside0.mk hbox; clear K1 K2 HO HD hg hbox hb; have K1 := K1_; have K2 := K2_; have HO := HO_; have HD := HD_; clear K1_ K2_ HO_ HD_; obtain ⟨⟨pa0, pa1, pa2, pa3, pa4, pa5, pa6, pa7, pa8⟩, qa0, qa1, qa2, qa3, qa4, qa5, qa6, qa7, qa8⟩ := cells_9 KA.out) | (go_at_call 33; with_reducible refine Calls.mono (spec_l02Copy.calls a0 a1 a2 a3 a4 a5 a6 A7 c7 la a8 a0 a1 a2 a3 a4 a5 a6 ([] ++ la) a8 _ (Kd.R_reads' (row9 HO.out KA.out (by decide))).2.2 (Kd.R_reads' HO.out).2.1 (by unfold spec_l02Copy.f; simp only [Option.bind_some]; rw [if_pos (by have := HN.out; simp only [List.length_nil]; omega)])) ?_; rintro e w6 ⟨vb, rfl, hv, hb⟩; have NE := Aside0.mk (Nat.ne_of_lt (Nat.lt_trans N12.out N2A.out)); have HV := Aside0.mk (Kd.R_lower (Kd.R_mono (Kd.R_new' hv (Kd.R_lt (row9 HO.out KA.out (by decide)))) (fun _ h => h.2)) (below9 HD.out.bel (Nat.le_trans H1.out (Nat.le_of_lt (Nat.lt_trans N12.out N2A.out)))).size); have K1_ := Aside0.mk (blk_below (blk9 K1.out NE.out) hb); have K2_ := Aside0.mk (blk_below (blk9 K2.out (Nat.ne_of_lt N2A.out)) hb); have KA_ := Aside0.mk (blk_below (bp9_ KA.out) hb); have HO_ := Aside0.mk (Kd.R_below (row9 HO.out KA.out (by decide)) hb); have HD_ := Aside0.mk ((HD.out.put9 (HD.out.ne_blk KA.out (by decide)) (Nat.le_trans H1.out (Nat.le_of_lt (Nat.lt_trans N12.out N2A.out)))).below hb); clear K1 K2 KA HO HD hb hv NE pa0 pa1 pa2 pa3 pa4 pa5 pa6 pa7 pa8 qa0 qa1 qa2 qa3 qa4 qa5 qa6 qa7 qa8; have K1 := K1_; have K2 := K2_; have KA := KA_; have HO := HO_; have HD := HD_; clear K1_ K2_ KA_ HO_ HD_; obtain ⟨lb, hlb⟩ : ∃ y : List Int, y = [] ++ la := ⟨_, rfl⟩; rw [← hlb] at HV; have HLB := Aside0.mk (show lb.length ≤ 3 by rw [hlb, List.nil_append]; exact HN.out); clear hlb; obtain ⟨B7, d7, f7⟩ := Kd.R_slice HV.out; subst f7) | ((with_reducible refine gate_dst (N := 6) rfl ?_); refine be_ 6 #[.int .i64 0, .int .i64 0, .int .i64 0, .int .i64 0, .int .i64 0, .int .i64 0, .string (⟨#[]⟩ : ByteArray), .slice none 0 0, .int .i64 0] 25 ?_; intro gb hg w7 hbox hb; have hs : SmE w _ g r1 r2 ga gb l0 a0 a1 a2 a3 a4 a5 a6 (.slice A7 la.length c7) la a8 0 0 0 0 0 0 (⟨#[]⟩ : ByteArray) (.slice none 0 0) [] 0 := ⟨HD.out.below hb, blk_below K1.out hb, blk_below K2.out hb, blk_below KA.out hb, hbox, Kd.R_mono (Kd.R_below HO.out hb) (fun k _ he => by cases he), Kd.R_nil _ _ _ _ _, H1.out, N12.out, N2A.out, by rw [hg]; exact blk_lt KA.out, ⟨HT.out, by decide⟩, ⟨HN.out, by decide⟩⟩; have HV_ := Aside0.mk (Kd.R_below HV.out hb); clear HV HD K1 K2 KA HO HN HT hg hbox hb; have HV := HV_; clear HV_; (try clear pa0 pa1 pa2 pa3 pa4 pa5 pa6 pa7 pa8 qa0 qa1 qa2 qa3 qa4 qa5 qa6 qa7 qa8 pb0 pb1 pb2 pb3 pb4 pb5 pb6 pb7 pb8 qb0 qb1 qb2 qb3 qb4 qb5 qb6 qb7 qb8); have ES_ := Aside0.mk hs; (try clear ES); clear hs; have ES := ES_; clear ES_; obtain ⟨⟨pa0, pa1, pa2, pa3, pa4, pa5, pa6, pa7, pa8⟩, qa0, qa1, qa2, qa3, qa4, qa5, qa6, qa7, qa8⟩ := cells_9 ES.out.ka; obtain ⟨⟨pb0, pb1, pb2, pb3, pb4, pb5, pb6, pb7, pb8⟩, qb0, qb1, qb2, qb3, qb4, qb5, qb6, qb7, qb8⟩ := cells_9 ES.out.kb) | (go_at_call 34; with_reducible refine Calls.mono ((ES.out.all HV.out (Nat.le_succ_of_le ES.out.t6.1) (Nat.le_succ_of_le HLB.out)).dr.one _ (by decide)) ?_; rintro e w8 ⟨v, rfl, hk, hd⟩; have hs := (ES.out.all HV.out (Nat.le_succ_of_le ES.out.t6.1) (Nat.le_succ_of_le HLB.out)).keep hk hd; clear HV hk hd; (try clear pa0 pa1 pa2 pa3 pa4 pa5 pa6 pa7 pa8 qa0 qa1 qa2 qa3 qa4 qa5 qa6 qa7 qa8 pb0 pb1 pb2 pb3 pb4 pb5 pb6 pb7 pb8 qb0 qb1 qb2 qb3 qb4 qb5 qb6 qb7 qb8); have ES_ := Aside0.mk hs; (try clear ES); clear hs; have ES := ES_; clear ES_; obtain ⟨⟨pa0, pa1, pa2, pa3, pa4, pa5, pa6, pa7, pa8⟩, qa0, qa1, qa2, qa3, qa4, qa5, qa6, qa7, qa8⟩ := cells_9 ES.out.ka; obtain ⟨⟨pb0, pb1, pb2, pb3, pb4, pb5, pb6, pb7, pb8⟩, qb0, qb1, qb2, qb3, qb4, qb5, qb6, qb7, qb8⟩ := cells_9 ES.out.kb))
  have hx : ∃ (a0 a1 a2 a3 a4 a5 : Int) (a6 : ByteArray) (a7 : Value) (la : List Int) (a8 : Int) (b0 b1 b2 b3 b4 b5 : Int) (b6 : ByteArray) (b7 : Value) (lb : List Int) (b8 : Int), SmE w _ g r1 r2 ga gb l0 a0 a1 a2 a3 a4 a5 a6 a7 la a8 b0 b1 b2 b3 b4 b5 b6 b7 lb b8 ∧ b6.size ≤ 1000 ∧ lb.length ≤ 3 := ⟨_, _, _, _, _, _, _, _, _, _, _, _, _, _, _, _, _, _, _, _, ES.out, ES.out.t6.1, HLB.out⟩
  clear ES HLB pa0 pa1 pa2 pa3 pa4 pa5 pa6 pa7 pa8 qa0 qa1 qa2 qa3 qa4 qa5 qa6 qa7 qa8 pb0 pb1 pb2 pb3 pb4 pb5 pb6 pb7 pb8 qb0 qb1 qb2 qb3 qb4 qb5 qb6 qb7 qb8
  obtain ⟨a0, a1, a2, a3, a4, a5, a6, a7, la, a8, b0, b1, b2, b3, b4, b5, b6, b7, lb, b8, hs, hz1, hz2⟩ := hx; obtain ⟨A7, c7, e7⟩ := Kd.R_slice hs.ra; subst e7; obtain ⟨B7, d7, f7⟩ := Kd.R_slice hs.rb; subst f7; (try clear pa0 pa1 pa2 pa3 pa4 pa5 pa6 pa7 pa8 qa0 qa1 qa2 qa3 qa4 qa5 qa6 qa7 qa8 pb0 pb1 pb2 pb3 pb4 pb5 pb6 pb7 pb8 qb0 qb1 qb2 qb3 qb4 qb5 qb6 qb7 qb8); have ES_ := Aside0.mk hs; (try clear ES); clear hs; have ES := ES_; clear ES_; obtain ⟨⟨pa0, pa1, pa2, pa3, pa4, pa5, pa6, pa7, pa8⟩, qa0, qa1, qa2, qa3, qa4, qa5, qa6, qa7, qa8⟩ := cells_9 ES.out.ka; obtain ⟨⟨pb0, pb1, pb2, pb3, pb4, pb5, pb6, pb7, pb8⟩, qb0, qb1, qb2, qb3, qb4, qb5, qb6, qb7, qb8⟩ := cells_9 ES.out.kb
  have HZ1 := Aside0.mk hz1
  have HZ2 := Aside0.mk hz2
  have zb0 := eq_true (show b6.size + 1 ≤ 9223372036854775807 by omega)
  have zb1 : decide (b6.size + 1 ≤ 9223372036854775807) = true := decide_eq_true (by omega)
  have zb2 : (9223372036854775807 < b6.size + 1) = False := eq_false (by omega)
  clear hz1 hz2
  cases v
  case true =>
    go_wp2
    have hs := ES.out.drew
    refine start_ (n := 4) (S := fun w' => w'.cell? ⟨ga, 0, none⟩ = some (.int .i64 a0) ∧ w'.cell? ⟨ga, 1, none⟩ = some (.int .i64 a1) ∧ w'.cell? ⟨ga, 2, none⟩ = some (.int .i64 a2) ∧ w'.cell? ⟨ga, 3, none⟩ = some (.int .i64 a3) ∧ w'.cell? ⟨ga, 4, none⟩ = some (.int .i64 a4) ∧ w'.cell? ⟨ga, 5, none⟩ = some (.int .i64 a5) ∧ w'.cell? ⟨ga, 6, none⟩ = some (.string a6) ∧ w'.cell? ⟨ga, 7, none⟩ = some (.slice A7 la.length c7) ∧ w'.cell? ⟨ga, 8, none⟩ = some (.int .i64 a8) ∧ w'.cell? ⟨gb, 0, none⟩ = some (.int .i64 b0) ∧ w'.cell? ⟨gb, 1, none⟩ = some (.int .i64 b1) ∧ w'.cell? ⟨gb, 2, none⟩ = some (.int .i64 b2) ∧ w'.cell? ⟨gb, 3, none⟩ = some (.int .i64 b3) ∧ w'.cell? ⟨gb, 4, none⟩ = some (.int .i64 b4) ∧ w'.cell? ⟨gb, 5, none⟩ = some (.int .i64 b5) ∧ w'.cell? ⟨gb, 6, none⟩ = some (.string b6) ∧ w'.cell? ⟨gb, 7, none⟩ = some (.slice B7 lb.length d7) ∧ w'.cell? ⟨gb, 8, none⟩ = some (.int .i64 b8)) (ds := []) #[false, false, false, false] (by kernel_rfl) rfl rfl (two_cells hs.ka hs.kb) (fun hHeld => ?_)
    generalize World.drew _ = w9 at hs hHeld ⊢
    (try clear pa0 pa1 pa2 pa3 pa4 pa5 pa6 pa7 pa8 qa0 qa1 qa2 qa3 qa4 qa5 qa6 qa7 qa8 pb0 pb1 pb2 pb3 pb4 pb5 pb6 pb7 pb8 qb0 qb1 qb2 qb3 qb4 qb5 qb6 qb7 qb8); have ES_ := Aside0.mk hs; (try clear ES); clear hs; have ES := ES_; clear ES_; obtain ⟨⟨pa0, pa1, pa2, pa3, pa4, pa5, pa6, pa7, pa8⟩, qa0, qa1, qa2, qa3, qa4, qa5, qa6, qa7, qa8⟩ := cells_9 ES.out.ka; obtain ⟨⟨pb0, pb1, pb2, pb3, pb4, pb5, pb6, pb7, pb8⟩, qb0, qb1, qb2, qb3, qb4, qb5, qb6, qb7, qb8⟩ := cells_9 ES.out.kb
    refine t_ 0 (some 15) (bm 4 1) (by kernel_rfl) hHeld ?_
    refine t_ 1 (some 16) (bm 4 3) (by kernel_rfl) hHeld ?_
    refine one_ (i := 2) (N := none) (bm 4 7) rfl rfl (by kernel_rfl) (by decide) (fun K hK => ?_)
    have n12 := Nat.ne_of_lt ES.out.n12; have n21 := Ne.symm n12; have n2a := Nat.ne_of_lt ES.out.n2a; have na2 := Ne.symm n2a; have nab := Nat.ne_of_lt ES.out.nab; have nba := Ne.symm nab; have n1a := Nat.ne_of_lt (Nat.lt_trans ES.out.n12 ES.out.n2a); have na1 := Ne.symm n1a; have n1b := Nat.ne_of_lt (Nat.lt_trans (Nat.lt_trans ES.out.n12 ES.out.n2a) ES.out.nab); have nb1 := Ne.symm n1b; have n2b := Nat.ne_of_lt (Nat.lt_trans ES.out.n2a ES.out.nab); have nb2 := Ne.symm n2b
    obtain ⟨⟨p10, p11, p12, p13, p14, p15, p16, p17, p18⟩, q10, q11, q12, q13, q14, q15, q16, q17, q18⟩ := cells_9 ES.out.k1
    refine skip_ (w1 := ?_) (by rfl) rfl ?_ ?_
    rotate_left
    · go_simp
      rfl
    refine hK.out _ _ (two_cells (blk9 ES.out.ka na1) (blk9 ES.out.kb nb1)) (fun hHeld => ?_)
    clear hK K
    generalize hgen : World.setCell _ _ _ = wz at hHeld ⊢
    have kz : wz.heap[r1]? = some (.cells #[.int .i64 a0, .int .i64 a1, .int .i64 a2, .int .i64 a3, .int .i64 a4, .int .i64 a5, .string a6, .slice A7 la.length c7, .int .i64 a8] 25 (0, 0)) ∧ wz.heap[r2]? = some (.cells #[.int .i64 0, .int .i64 0, .int .i64 0, .int .i64 0, .int .i64 0, .int .i64 0, .string (⟨#[]⟩ : ByteArray), .slice none 0 0, .int .i64 0] 25 (0, 0)) ∧ wz.heap[ga]? = some (.cells #[.int .i64 a0, .int .i64 a1, .int .i64 a2, .int .i64 a3, .int .i64 a4, .int .i64 a5, .string a6, .slice A7 la.length c7, .int .i64 a8] 25 (0, 0)) ∧ wz.heap[gb]? = some (.cells #[.int .i64 b0, .int .i64 b1, .int .i64 b2, .int .i64 b3, .int .i64 b4, .int .i64 b5, .string b6, .slice B7 lb.length d7, .int .i64 b8] 25 (0, 0)) ∧ Kd.R (Kd.int .i64) 2 wz w.heap.size (fun _ => True) (.slice A7 la.length c7) la ∧ Kd.R (Kd.int .i64) 2 wz w.heap.size (fun _ => True) (.slice B7 lb.length d7) lb ∧ Below w.heap.size w wz := by
      rw [← hgen]
      exact ⟨bp9_ ES.out.k1, blk9 ES.out.k2 n21, blk9 ES.out.ka na1, blk9 ES.out.kb nb1, row9 (Kd.R_mono ES.out.ra (fun _ _ => trivial)) ES.out.k1 (by decide), row9 (Kd.R_mono ES.out.rb (fun _ _ => trivial)) ES.out.k1 (by decide), below9 ES.out.dr.bel ES.out.h1⟩
    have KZ := Aside0.mk kz
    have H6 := Aside0.mk ES.out.t6
    have H7 := Aside0.mk ES.out.t7
    have H2 := Aside0.mk (Nat.le_trans ES.out.h1 (Nat.le_of_lt ES.out.n12))
    clear kz hgen ES pa0 pa1 pa2 pa3 pa4 pa5 pa6 pa7 pa8 qa0 qa1 qa2 qa3 qa4 qa5 qa6 qa7 qa8 pb0 pb1 pb2 pb3 pb4 pb5 pb6 pb7 pb8 qb0 qb1 qb2 qb3 qb4 qb5 qb6 qb7 qb8 p10 p11 p12 p13 p14 p15 p16 p17 p18 q10 q11 q12 q13 q14 q15 q16 q17 q18
    obtain ⟨⟨p20, p21, p22, p23, p24, p25, p26, p27, p28⟩, q20, q21, q22, q23, q24, q25, q26, q27, q28⟩ := cells_9 KZ.out.2.1
    refine one_ (i := 3) (N := none) (bm 4 15) rfl rfl (by kernel_rfl) (by decide) (fun K hK => ?_)
    refine skip_ (w1 := ?_) (by rfl) rfl ?_ ?_
    rotate_left
    · go_simp
      rfl
    refine hK.out _ _ (two_cells (blk9 KZ.out.2.2.1 na2) (blk9 KZ.out.2.2.2.1 nb2)) (fun hHeld => ?_)
    clear hK K
    refine done_ (by kernel_rfl) ?_
    try go_wp2
    refine bodyPost_ret (results_cc rfl _ _ r1 r2 25 25 #[.int .i64 a0, .int .i64 a1, .int .i64 a2, .int .i64 a3, .int .i64 a4, .int .i64 a5, .string a6, .slice A7 la.length c7, .int .i64 a8] #[.int .i64 b0, .int .i64 b1, .int .i64 b2, .int .i64 b3, .int .i64 b4, .int .i64 b5, .string b6, .slice B7 lb.length d7, .int .i64 b8] (0, 0) (0, 0) _ _ rfl (blk9 KZ.out.1 n12) Try.underlying25 rfl (by kernel_rfl) rfl (bp9_ KZ.out.2.1) Try.underlying25 rfl (by kernel_rfl)) rfl ?_
    exact ⟨a0, a1, a2, a3, a4, a5, a6, _, la, a8, b0, b1, b2, b3, b4, b5, b6, _, lb, b8, rfl, H6.out, H7.out, row9 KZ.out.2.2.2.2.1 KZ.out.2.1 (by decide), row9 KZ.out.2.2.2.2.2.1 KZ.out.2.1 (by decide), below9 KZ.out.2.2.2.2.2.2 H2.out⟩
  case false =>
    go_upto_block 0 with (first | (go_at_call 24; with_reducible refine Calls.mono (ES.out.dr.n _ (by decide)) ?_; rintro e w9 ⟨v, rfl, hv, hk, hd⟩; have hs := ES.out.keep hk hd; clear hv hk hd; (try clear pa0 pa1 pa2 pa3 pa4 pa5 pa6 pa7 pa8 qa0 qa1 qa2 qa3 qa4 qa5 qa6 qa7 qa8 pb0 pb1 pb2 pb3 pb4 pb5 pb6 pb7 pb8 qb0 qb1 qb2 qb3 qb4 qb5 qb6 qb7 qb8); have ES_ := Aside0.mk hs; (try clear ES); clear hs; have ES := ES_; clear ES_; obtain ⟨⟨pa0, pa1, pa2, pa3, pa4, pa5, pa6, pa7, pa8⟩, qa0, qa1, qa2, qa3, qa4, qa5, qa6, qa7, qa8⟩ := cells_9 ES.out.ka; obtain ⟨⟨pb0, pb1, pb2, pb3, pb4, pb5, pb6, pb7, pb8⟩, qb0, qb1, qb2, qb3, qb4, qb5, qb6, qb7, qb8⟩ := cells_9 ES.out.kb))
    go_cut [19] (fun v19 wx => SmX w wx g r1 r2 ga gb l0)
    case first =>
      go_wp2_with (first | ((with_reducible refine gate_builtin (b := .append) (xs := #[.tmp 30, .tmp 31]) rfl ?_); (try (refine gate_guard (by rfl) ?_; dsimp only)); at_builtin; refine Kd.R_append (Kd.int .i64) w.heap.size rfl (.tmp 30) (.tmp 31) 23 2 (.int .i64 0) 8 rfl Try.underlying23 info2 rfl (by decide) (by omega) (.slice B7 lb.length d7) lb 99 [.int .i64 99] (fun k => some k ≠ (Value.slice A7 la.length c7).ownBlock) (fun _ => False) rfl rfl ?aP (fun _ hk => hk.elim) ?aF ?aO (Below.refl _ _) ?aS ?aL ?_; (case aP => exact rfl); (case aF => exact (fun k hk he => Nat.not_lt.2 hk (Kd.R_lt ES.out.ra k he.symm))); (case aO => exact ES.out.rb); (case aS => exact ES.out.dr.bel.size); (case aL => have := HZ2.out; omega); intro v1 w1 ho hb hg hat; obtain ⟨yq, hyq⟩ : ∃ y : List Int, y = lb ++ [99] := ⟨_, rfl⟩; rw [← hyq] at ho; have HQ := Aside0.mk (show yq.length ≤ lb.length + 1 by rw [hyq, List.length_append]; exact Nat.le_refl _); clear hyq; have hp := SmE.grown ES.out hb hg; have HO := Aside0.mk ho; have EP := Aside0.mk hp; clear ho hb hg hat hp; (try clear pa0 pa1 pa2 pa3 pa4 pa5 pa6 pa7 pa8 qa0 qa1 qa2 qa3 qa4 qa5 qa6 qa7 qa8 pb0 pb1 pb2 pb3 pb4 pb5 pb6 pb7 pb8 qb0 qb1 qb2 qb3 qb4 qb5 qb6 qb7 qb8); obtain ⟨⟨pb0, pb1, pb2, pb3, pb4, pb5, pb6, pb7, pb8⟩, qb0, qb1, qb2, qb3, qb4, qb5, qb6, qb7, qb8⟩ := cells_9 EP.out.kb; obtain ⟨Ar, cr, er⟩ := Kd.R_slice HO.out; subst er) | (go_at_call 20; with_reducible refine Calls.mono (spec_l01Src_l02Event.calls g l0 w _ ES.out.dr) ?_; rintro e w9 ⟨z0, z1, z2, z3, z4, z5, z6, v7, l7, z8, rfl, ht, hn, ho, hk, hd⟩; have HV := Aside0.mk (Kd.R_lower (Kd.R_mono (Kd.R_new' ho (Kd.R_lt ES.out.ra)) (fun _ h => h.2)) ES.out.dr.bel.size); have HT := Aside0.mk ht; have HN := Aside0.mk hn; have hs := ES.out.keep hk hd; clear hk hd ho ht hn; (try clear pa0 pa1 pa2 pa3 pa4 pa5 pa6 pa7 pa8 qa0 qa1 qa2 qa3 qa4 qa5 qa6 qa7 qa8 pb0 pb1 pb2 pb3 pb4 pb5 pb6 pb7 pb8 qb0 qb1 qb2 qb3 qb4 qb5 qb6 qb7 qb8); have ES_ := Aside0.mk hs; (try clear ES); clear hs; have ES := ES_; clear ES_; obtain ⟨⟨pa0, pa1, pa2, pa3, pa4, pa5, pa6, pa7, pa8⟩, qa0, qa1, qa2, qa3, qa4, qa5, qa6, qa7, qa8⟩ := cells_9 ES.out.ka; obtain ⟨⟨pb0, pb1, pb2, pb3, pb4, pb5, pb6, pb7, pb8⟩, qb0, qb1, qb2, qb3, qb4, qb5, qb6, qb7, qb8⟩ := cells_9 ES.out.kb; obtain ⟨Ar, cr, er⟩ := Kd.R_slice HV.out; subst er))
      all_goals (go_meet; (case rel => first | with_reducible exact (ES.out.set8 _).x | with_reducible exact (SmP.set7 EP.out HO.out (by have := HQ.out; have := HZ2.out; omega)).x | with_reducible exact (ES.out.set6 _ (by rw [ByteArray.size_append]; have := HZ1.out; have : (⟨#[120]⟩ : ByteArray).size = 1 := rfl; omega)).x | with_reducible exact (ES.out.all HV.out (Nat.le_succ_of_le HT.out) (Nat.le_succ_of_le HN.out)).x))
    case rest =>
      clear ES HZ1 HZ2 zb0 zb1 zb2 pa0 pa1 pa2 pa3 pa4 pa5 pa6 pa7 pa8 qa0 qa1 qa2 qa3 qa4 qa5 qa6 qa7 qa8 pb0 pb1 pb2 pb3 pb4 pb5 pb6 pb7 pb8 qb0 qb1 qb2 qb3 qb4 qb5 qb6 qb7 qb8
      obtain ⟨a0, a1, a2, a3, a4, a5, a6, a7, la, a8, b0, b1, b2, b3, b4, b5, b6, b7, lb, b8, hs⟩ := hcut; obtain ⟨A7, c7, e7⟩ := Kd.R_slice hs.ra; subst e7; obtain ⟨B7, d7, f7⟩ := Kd.R_slice hs.rb; subst f7; (try clear pa0 pa1 pa2 pa3 pa4 pa5 pa6 pa7 pa8 qa0 qa1 qa2 qa3 qa4 qa5 qa6 qa7 qa8 pb0 pb1 pb2 pb3 pb4 pb5 pb6 pb7 pb8 qb0 qb1 qb2 qb3 qb4 qb5 qb6 qb7 qb8); have ES_ := Aside0.mk hs; (try clear ES); clear hs; have ES := ES_; clear ES_; obtain ⟨⟨pa0, pa1, pa2, pa3, pa4, pa5, pa6, pa7, pa8⟩, qa0, qa1, qa2, qa3, qa4, qa5, qa6, qa7, qa8⟩ := cells_9 ES.out.ka; obtain ⟨⟨pb0, pb1, pb2, pb3, pb4, pb5, pb6, pb7, pb8⟩, qb0, qb1, qb2, qb3, qb4, qb5, qb6, qb7, qb8⟩ := cells_9 ES.out.kb
      go_wp2
      have hs := ES.out.drew
      refine start_ (n := 4) (S := fun w' => w'.cell? ⟨ga, 0, none⟩ = some (.int .i64 a0) ∧ w'.cell? ⟨ga, 1, none⟩ = some (.int .i64 a1) ∧ w'.cell? ⟨ga, 2, none⟩ = some (.int .i64 a2) ∧ w'.cell? ⟨ga, 3, none⟩ = some (.int .i64 a3) ∧ w'.cell? ⟨ga, 4, none⟩ = some (.int .i64 a4) ∧ w'.cell? ⟨ga, 5, none⟩ = some (.int .i64 a5) ∧ w'.cell? ⟨ga, 6, none⟩ = some (.string a6) ∧ w'.cell? ⟨ga, 7, none⟩ = some (.slice A7 la.length c7) ∧ w'.cell? ⟨ga, 8, none⟩ = some (.int .i64 a8) ∧ w'.cell? ⟨gb, 0, none⟩ = some (.int .i64 b0) ∧ w'.cell? ⟨gb, 1, none⟩ = some (.int .i64 b1) ∧ w'.cell? ⟨gb, 2, none⟩ = some (.int .i64 b2) ∧ w'.cell? ⟨gb, 3, none⟩ = some (.int .i64 b3) ∧ w'.cell? ⟨gb, 4, none⟩ = some (.int .i64 b4) ∧ w'.cell? ⟨gb, 5, none⟩ = some (.int .i64 b5) ∧ w'.cell? ⟨gb, 6, none⟩ = some (.string b6) ∧ w'.cell? ⟨gb, 7, none⟩ = some (.slice B7 lb.length d7) ∧ w'.cell? ⟨gb, 8, none⟩ = some (.int .i64 b8)) (ds := []) #[false, false, false, false] (by kernel_rfl) rfl rfl (two_cells hs.ka hs.kb) (fun hHeld => ?_)
      generalize World.drew _ = w9 at hs hHeld ⊢
      (try clear pa0 pa1 pa2 pa3 pa4 pa5 pa6 pa7 pa8 qa0 qa1 qa2 qa3 qa4 qa5 qa6 qa7 qa8 pb0 pb1 pb2 pb3 pb4 pb5 pb6 pb7 pb8 qb0 qb1 qb2 qb3 qb4 qb5 qb6 qb7 qb8); have ES_ := Aside0.mk hs; (try clear ES); clear hs; have ES := ES_; clear ES_; obtain ⟨⟨pa0, pa1, pa2, pa3, pa4, pa5, pa6, pa7, pa8⟩, qa0, qa1, qa2, qa3, qa4, qa5, qa6, qa7, qa8⟩ := cells_9 ES.out.ka; obtain ⟨⟨pb0, pb1, pb2, pb3, pb4, pb5, pb6, pb7, pb8⟩, qb0, qb1, qb2, qb3, qb4, qb5, qb6, qb7, qb8⟩ := cells_9 ES.out.kb
      refine t_ 0 (some 40) (bm 4 1) (by kernel_rfl) hHeld ?_
      refine t_ 1 (some 41) (bm 4 3) (by kernel_rfl) hHeld ?_
      refine one_ (i := 2) (N := none) (bm 4 7) rfl rfl (by kernel_rfl) (by decide) (fun K hK => ?_)
      have n12 := Nat.ne_of_lt ES.out.n12; have n21 := Ne.symm n12; have n2a := Nat.ne_of_lt ES.out.n2a; have na2 := Ne.symm n2a; have nab := Nat.ne_of_lt ES.out.nab; have nba := Ne.symm nab; have n1a := Nat.ne_of_lt (Nat.lt_trans ES.out.n12 ES.out.n2a); have na1 := Ne.symm n1a; have n1b := Nat.ne_of_lt (Nat.lt_trans (Nat.lt_trans ES.out.n12 ES.out.n2a) ES.out.nab); have nb1 := Ne.symm n1b; have n2b := Nat.ne_of_lt (Nat.lt_trans ES.out.n2a ES.out.nab); have nb2 := Ne.symm n2b
      obtain ⟨⟨p10, p11, p12, p13, p14, p15, p16, p17, p18⟩, q10, q11, q12, q13, q14, q15, q16, q17, q18⟩ := cells_9 ES.out.k1
      refine skip_ (w1 := ?_) (by rfl) rfl ?_ ?_
      rotate_left
      · go_simp
        rfl
      refine hK.out _ _ (two_cells (blk9 ES.out.ka na1) (blk9 ES.out.kb nb1)) (fun hHeld => ?_)
      clear hK K
      generalize hgen : World.setCell _ _ _ = wz at hHeld ⊢
      have kz : wz.heap[r1]? = some (.cells #[.int .i64 a0, .int .i64 a1, .int .i64 a2, .int .i64 a3, .int .i64 a4, .int .i64 a5, .string a6, .slice A7 la.length c7, .int .i64 a8] 25 (0, 0)) ∧ wz.heap[r2]? = some (.cells #[.int .i64 0, .int .i64 0, .int .i64 0, .int .i64 0, .int .i64 0, .int .i64 0, .string (⟨#[]⟩ : ByteArray), .slice none 0 0, .int .i64 0] 25 (0, 0)) ∧ wz.heap[ga]? = some (.cells #[.int .i64 a0, .int .i64 a1, .int .i64 a2, .int .i64 a3, .int .i64 a4, .int .i64 a5, .string a6, .slice A7 la.length c7, .int .i64 a8] 25 (0, 0)) ∧ wz.heap[gb]? = some (.cells #[.int .i64 b0, .int .i64 b1, .int .i64 b2, .int .i64 b3, .int .i64 b4, .int .i64 b5, .string b6, .slice B7 lb.length d7, .int .i64 b8] 25 (0, 0)) ∧ Kd.R (Kd.int .i64) 2 wz w.heap.size (fun _ => True) (.slice A7 la.length c7) la ∧ Kd.R (Kd.int .i64) 2 wz w.heap.size (fun _ => True) (.slice B7 lb.length d7) lb ∧ Below w.heap.size w wz := by
        rw [← hgen]
        exact ⟨bp9_ ES.out.k1, blk9 ES.out.k2 n21, blk9 ES.out.ka na1, blk9 ES.out.kb nb1, row9 (Kd.R_mono ES.out.ra (fun _ _ => trivial)) ES.out.k1 (by decide), row9 (Kd.R_mono ES.out.rb (fun _ _ => trivial)) ES.out.k1 (by decide), below9 ES.out.dr.bel ES.out.h1⟩
      have KZ := Aside0.mk kz
      have H6 := Aside0.mk ES.out.t6
      have H7 := Aside0.mk ES.out.t7
      have H2 := Aside0.mk (Nat.le_trans ES.out.h1 (Nat.le_of_lt ES.out.n12))
      clear kz hgen ES pa0 pa1 pa2 pa3 pa4 pa5 pa6 pa7 pa8 qa0 qa1 qa2 qa3 qa4 qa5 qa6 qa7 qa8 pb0 pb1 pb2 pb3 pb4 pb5 pb6 pb7 pb8 qb0 qb1 qb2 qb3 qb4 qb5 qb6 qb7 qb8 p10 p11 p12 p13 p14 p15 p16 p17 p18 q10 q11 q12 q13 q14 q15 q16 q17 q18
      obtain ⟨⟨p20, p21, p22, p23, p24, p25, p26, p27, p28⟩, q20, q21, q22, q23, q24, q25, q26, q27, q28⟩ := cells_9 KZ.out.2.1
      refine one_ (i := 3) (N := none) (bm 4 15) rfl rfl (by kernel_rfl) (by decide) (fun K hK => ?_)
      refine skip_ (w1 := ?_) (by rfl) rfl ?_ ?_
      rotate_left
      · go_simp
        rfl
      refine hK.out _ _ (two_cells (blk9 KZ.out.2.2.1 na2) (blk9 KZ.out.2.2.2.1 nb2)) (fun hHeld => ?_)
      clear hK K
      refine done_ (by kernel_rfl) ?_
      try go_wp2
      refine bodyPost_ret (results_cc rfl _ _ r1 r2 25 25 #[.int .i64 a0, .int .i64 a1, .int .i64 a2, .int .i64 a3, .int .i64 a4, .int .i64 a5, .string a6, .slice A7 la.length c7, .int .i64 a8] #[.int .i64 b0, .int .i64 b1, .int .i64 b2, .int .i64 b3, .int .i64 b4, .int .i64 b5, .string b6, .slice B7 lb.length d7, .int .i64 b8] (0, 0) (0, 0) _ _ rfl (blk9 KZ.out.1 n12) Try.underlying25 rfl (by kernel_rfl) rfl (bp9_ KZ.out.2.1) Try.underlying25 rfl (by kernel_rfl)) rfl ?_
      exact ⟨a0, a1, a2, a3, a4, a5, a6, _, la, a8, b0, b1, b2, b3, b4, b5, b6, _, lb, b8, rfl, H6.out, H7.out, row9 KZ.out.2.2.2.2.1 KZ.out.2.1 (by decide), row9 KZ.out.2.2.2.2.2.1 KZ.out.2.1 (by decide), below9 KZ.out.2.2.2.2.2.2 H2.out⟩

end Go.Proofs.Yteimdbmfgojioaa.Print
