/- The law FnEvent walked by hand: an event drawn, its bytes, a text read, two events, a text turned to bytes, one byte turned, and back. -/
import Derived.Test.YteimdbmfgojioaaDrwB
namespace Go.Proofs.Yteimdbmfgojioaa.Print
open Go.RowKit Go.Proofs.YteimdbmfgojioaaW.PrintWords Go.Proofs.YteimdbmfgojioaaW.PrintLast Go.Proofs.YteimdbmfgojioaaW.PrintMore
attribute [local go_sem] max2_int min2_int max_two min_two max_three min_three max_four min_four   -- for this text's walks alone
set_option maxHeartbeats 8000000
set_option maxRecDepth 100000
set_option linter.unusedVariables false
set_option linter.unusedSimpArgs false

/-! A row of bytes that a conversion made, read and written. -/
def laws_FnEvent.Row (w : World) (g : Nat) (xs : List Int) : Prop := ∃ cs : Array Value, w.heap[g]? = some (.cells cs 5 (cs.size, cs.size + 1)) ∧ xs.length ≤ cs.size ∧ xs.length ≤ 9223372036854775807 ∧ ∀ j, j < xs.length → cs[j]? = some (.int .u8 (xs.getD j 0))
theorem laws_FnEvent.row_new (w : World) (s : ByteArray) (hs : s.size ≤ 9223372036854775807) : laws_FnEvent.Row (Lib.bytesWorld w 5 s) w.heap.size (bytesOf s) := by
  have hge := grownCap_ge w s.size 0 5
  have hz : (Lib.bytesCells w 5 s).size = grownCap w s.size 0 5 := by
    unfold Lib.bytesCells
    rw [Array.size_append, Array.size_map, Array.size_replicate, ByteArray.size_data]; omega
  refine ⟨_, Lib.bytesWorld_at_new w 5 s, by rw [bytesOf_length]; omega, by rw [bytesOf_length]; exact hs, fun j hj => ?_⟩
  rw [bytesOf_length] at hj
  have h1 := Lib.bytesWorld_cell w 5 s j hj
  have h2 : (Lib.bytesWorld w 5 s).cell? ⟨w.heap.size, j, none⟩ = (Lib.bytesCells w 5 s)[j]? := by simp [World.cell?, Lib.bytesWorld_at_new w 5 s]
  rw [← h2, h1]
  have h' : j < s.data.toList.length := by rw [data_length]; exact hj
  simp [bytesOf, List.getD_eq_getElem?_getD, List.getElem?_eq_getElem h']
theorem laws_FnEvent.row_cell {w : World} {g : Nat} {xs : List Int} (h : laws_FnEvent.Row w g xs) {j : Nat} (hj : j < xs.length) : w.cell? ⟨g, j, none⟩ = some (.int .u8 (xs.getD j 0)) := by
  obtain ⟨cs, hg, _, _, hc⟩ := h
  simp only [World.cell?, hg]
  exact hc j hj
theorem laws_FnEvent.row_frozen {w : World} {g : Nat} {xs : List Int} (h : laws_FnEvent.Row w g xs) {j : Nat} (hj : j < xs.length) : w.frozen? ⟨g, j, none⟩ = false := by
  obtain ⟨cs, hg, hl, _, _⟩ := h
  simp only [World.frozen?, hg, Bool.and_eq_false_iff, decide_eq_false_iff_not]
  left; omega
theorem laws_FnEvent.row_set {w : World} {g : Nat} {xs : List Int} (h : laws_FnEvent.Row w g xs) (i : Nat) (z : Int) : laws_FnEvent.Row (w.setCell ⟨g, i, none⟩ (.int .u8 z)) g (xs.set i z) := by
  obtain ⟨cs, hg, hl, hm, hc⟩ := h
  refine ⟨cs.setIfInBounds i (.int .u8 z), ?_, by simpa using hl, by simpa using hm, fun j hj => ?_⟩
  · rw [setCell_eq_setRow w g i cs 5 _ _ hg, Array.size_setIfInBounds]
    exact setRow_heap w g cs _ 5 _ hg
  · rw [List.length_set] at hj
    by_cases e : i = j
    · subst e
      simp [Array.getElem?_setIfInBounds, List.getD_eq_getElem?_getD, hj, show i < cs.size by omega]
    · rw [Array.getElem?_setIfInBounds_ne e, hc j hj]
      simp [List.getD_eq_getElem?_getD, List.getElem?_set_ne e]
theorem laws_FnEvent.row_below {w w' : World} {g : Nat} {xs : List Int} (h : laws_FnEvent.Row w g xs) (hb : Below w.heap.size w w') : laws_FnEvent.Row w' g xs := by
  obtain ⟨cs, hg, rest⟩ := h
  exact ⟨cs, (hb.block g (Array.getElem?_eq_some_iff.1 hg).1).trans hg, rest⟩
theorem laws_FnEvent.row_drew {w : World} {g : Nat} {xs : List Int} (h : laws_FnEvent.Row w g xs) : laws_FnEvent.Row w.drew g xs := h
theorem laws_FnEvent.row_reads {w : World} {g : Nat} {xs : List Int} (h : laws_FnEvent.Row w g xs) : ReadsInt w .u8 (some ⟨g, 0, none⟩) xs.length xs := by
  have h0 := h
  obtain ⟨cs, hg, hl, hm, hc⟩ := h
  refine ⟨rfl, hm, fun _ => ⟨_, rfl, fun j hj => ?_⟩⟩
  rw [add_plain]
  exact laws_FnEvent.row_cell h0 hj
/-- A text with one byte turned. -/
def turned (s : ByteArray) (i : Nat) (q : Int) : ByteArray := strOfNums ((bytesOf s).set i (Go.bits .xor .u8 ((bytesOf s).getD i 0) ((wrap64 (1 + q)) % 256)))
theorem laws_FnEvent.back {w : World} {g c : Nat} {s : ByteArray} {i : Nat} {q : Int} (h : laws_FnEvent.Row w g ((bytesOf s).set i (Go.bits .xor .u8 ((bytesOf s).getD i 0) ((wrap64 (1 + q)) % 256)))) : (convert 22 9 (.slice (some ⟨g, 0, none⟩) s.size c)).run Try.prog w = .ok (.string (turned s i q)) w := by
  have hr := laws_FnEvent.row_reads h
  rw [List.length_set, bytesOf_length] at hr
  exact string_of_reads (P := Try.prog) (src := 22) (e := 5) (dst := 9) (c := c) Try.underlying22 Try.underlying5 Try.underlying9 hr
/-- A row of numbers with room. -/
structure RwC (W : World) (A : Option Addr) (c : Nat) (l : List Int) : Prop where
  r : Kd.C (Kd.int .i64) W A l.length l
  c : l.length ≤ c
theorem RwC.below {W W1 : World} {A : Option Addr} {c : Nat} {l : List Int} (h : RwC W A c l) (hb : Below W.heap.size W W1) : RwC W1 A c l := ⟨Kd.C_below h.r hb, h.c⟩
theorem RwC.of {W : World} {b : Nat} {ok : Nat → Prop} {A : Option Addr} {c : Nat} {l : List Int} (h : Kd.R (Kd.int .i64) 2 W b ok (.slice A l.length c) l) : RwC W A c l := ⟨(Kd.R_reads' h).2.2, (Kd.R_reads' h).2.1⟩
section
variable {w W : World} {gr : Nat} {u0 u1 u2 u3 u4 u5 u6 u7 u8 u9 : Value}
theorem below10 (h : Below w.heap.size w W) (hg : w.heap.size ≤ gr) : Below w.heap.size w ((((((((((W.setCell ⟨gr, 0, none⟩ u0).setCell ⟨gr, 1, none⟩ u1).setCell ⟨gr, 2, none⟩ u2).setCell ⟨gr, 3, none⟩ u3).setCell ⟨gr, 4, none⟩ u4).setCell ⟨gr, 5, none⟩ u5).setCell ⟨gr, 6, none⟩ u6).setCell ⟨gr, 7, none⟩ u7).setCell ⟨gr, 8, none⟩ u8).setCell ⟨gr, 9, none⟩ u9) := below_set (below9 h hg) hg
theorem blk10 {g : Nat} {cs : Array Value} {t : TypeId} (h : W.heap[g]? = some (.cells cs t (0, 0))) (hne : g ≠ gr) : ((((((((((W.setCell ⟨gr, 0, none⟩ u0).setCell ⟨gr, 1, none⟩ u1).setCell ⟨gr, 2, none⟩ u2).setCell ⟨gr, 3, none⟩ u3).setCell ⟨gr, 4, none⟩ u4).setCell ⟨gr, 5, none⟩ u5).setCell ⟨gr, 6, none⟩ u6).setCell ⟨gr, 7, none⟩ u7).setCell ⟨gr, 8, none⟩ u8).setCell ⟨gr, 9, none⟩ u9).heap[g]? = some (.cells cs t (0, 0)) := blk_far (p := ⟨gr, 9, none⟩) (blk9 h hne) hne u9
theorem bp10 {t : TypeId} {c0 c1 c2 c3 c4 c5 c6 c7 c8 c9 : Value} (h : W.heap[gr]? = some (.cells #[c0, c1, c2, c3, c4, c5, c6, c7, c8, c9] t (0, 0))) : ((((((((((W.setCell ⟨gr, 0, none⟩ u0).setCell ⟨gr, 1, none⟩ u1).setCell ⟨gr, 2, none⟩ u2).setCell ⟨gr, 3, none⟩ u3).setCell ⟨gr, 4, none⟩ u4).setCell ⟨gr, 5, none⟩ u5).setCell ⟨gr, 6, none⟩ u6).setCell ⟨gr, 7, none⟩ u7).setCell ⟨gr, 8, none⟩ u8).setCell ⟨gr, 9, none⟩ u9).heap[gr]? = some (.cells #[u0, u1, u2, u3, u4, u5, u6, u7, u8, u9] t (0, 0)) := by
  have h1 := blk_put (cs' := #[u0, c1, c2, c3, c4, c5, c6, c7, c8, c9]) h 0 u0 rfl
  have h2 := blk_put (cs' := #[u0, u1, c2, c3, c4, c5, c6, c7, c8, c9]) h1 1 u1 rfl
  have h3 := blk_put (cs' := #[u0, u1, u2, c3, c4, c5, c6, c7, c8, c9]) h2 2 u2 rfl
  have h4 := blk_put (cs' := #[u0, u1, u2, u3, c4, c5, c6, c7, c8, c9]) h3 3 u3 rfl
  have h5 := blk_put (cs' := #[u0, u1, u2, u3, u4, c5, c6, c7, c8, c9]) h4 4 u4 rfl
  have h6 := blk_put (cs' := #[u0, u1, u2, u3, u4, u5, c6, c7, c8, c9]) h5 5 u5 rfl
  have h7 := blk_put (cs' := #[u0, u1, u2, u3, u4, u5, u6, c7, c8, c9]) h6 6 u6 rfl
  have h8 := blk_put (cs' := #[u0, u1, u2, u3, u4, u5, u6, u7, c8, c9]) h7 7 u7 rfl
  have h9 := blk_put (cs' := #[u0, u1, u2, u3, u4, u5, u6, u7, u8, c9]) h8 8 u8 rfl
  have h10 := blk_put (cs' := #[u0, u1, u2, u3, u4, u5, u6, u7, u8, u9]) h9 9 u9 rfl
  exact h10
end
/-- What the walk of the law is told: all its calls' answers. -/
def FactE (l1 : List Int) (e0 e1 e2 e3 e4 e5 : Int) (e6 : ByteArray) (le : List Int) (e8 : Int) : Prop := ∃ (k : Nat) (t : ByteArray) (r q : Bool), impl_EventBytes.f k e0 e1 e2 e3 e4 e5 e6 le e8 = some t ∧ spec_EventBytes.f k e0 e1 e2 e3 e4 e5 e6 le e8 = some t ∧ impl_EventRight.f k e0 e1 e2 e3 e4 e5 e6 le e8 = some r ∧ spec_EventRight.f k e0 e1 e2 e3 e4 e5 e6 le e8 = some r ∧ impl_IsState.f k e0 e1 e2 e3 e4 e5 e6 le e8 = some q ∧ spec_IsState.f k e0 e1 e2 e3 e4 e5 e6 le e8 = some q ∧ t.size ≤ 9223372036854775807 ∧
  (t.toList ≠ [] → ∃ (at_ v : Int) (y0 y1 y2 y3 y4 y5 : Int) (y6 : ByteArray) (ly : List Int) (y8 : Int) (yc : Int) (z0 z1 z2 z3 z4 z5 : Int) (z6 : ByteArray) (lz : List Int) (z8 : Int), laws_lwAt.f l1 0 (t.size : Int) = some at_ ∧ laws_lwAt.f l1 1 255 = some v ∧ (0 ≤ at_ ∧ at_ < (t.size : Int)) ∧ impl_EventRead.f k t = some (y0, y1, y2, y3, y4, y5, y6, ly, y8, yc) ∧ laws_lwEvent.f k y0 y1 y2 y3 y4 y5 y6 ly y8 e0 e1 e2 e3 e4 e5 e6 le e8 = some true ∧ impl_EventRead.f k (turned t at_.toNat v) = some (z0, z1, z2, z3, z4, z5, z6, lz, z8, 5))
def FactU (u : ByteArray) : Prop := ∃ (k : Nat) (x0 x1 x2 x3 x4 x5 : Int) (x6 : ByteArray) (lx : List Int) (x8 : Int) (xc : Int), impl_EventRead.f k u = some (x0, x1, x2, x3, x4, x5, x6, lx, x8, xc) ∧ spec_EventRead.f k u = some (x0, x1, x2, x3, x4, x5, x6, lx, x8, xc) ∧ laws_lwEvent.f k x0 x1 x2 x3 x4 x5 x6 lx x8 x0 x1 x2 x3 x4 x5 x6 lx x8 = some true ∧ (xc = 0 → impl_EventBytes.f k x0 x1 x2 x3 x4 x5 x6 lx x8 = some u)
def FactS (a0 a1 a2 a3 a4 a5 : Int) (a6 : ByteArray) (la : List Int) (a8 : Int) (b0 b1 b2 b3 b4 b5 : Int) (b6 : ByteArray) (lb : List Int) (b8 : Int) : Prop := ∃ (k : Nat) (s ra rb : Bool), impl_SameEvent.f k a0 a1 a2 a3 a4 a5 a6 la a8 b0 b1 b2 b3 b4 b5 b6 lb b8 = some s ∧ spec_SameEvent.f k a0 a1 a2 a3 a4 a5 a6 la a8 b0 b1 b2 b3 b4 b5 b6 lb b8 = some s ∧ spec_EventRight.f k a0 a1 a2 a3 a4 a5 a6 la a8 = some ra ∧ spec_EventRight.f k b0 b1 b2 b3 b4 b5 b6 lb b8 = some rb ∧ (ra = true → rb = true → ∃ ta tb, impl_EventBytes.f k a0 a1 a2 a3 a4 a5 a6 la a8 = some ta ∧ impl_EventBytes.f k b0 b1 b2 b3 b4 b5 b6 lb b8 = some tb ∧ s = (ta.toList == tb.toList))
def laws_FnEvent.Fact (l1 : List Int) : Prop := DrawFacts ∧ (∀ (e0 e1 e2 e3 e4 e5 : Int) (e6 : ByteArray) (le : List Int) (e8 : Int), e6.size ≤ 1000 → le.length ≤ 3 → FactE l1 e0 e1 e2 e3 e4 e5 e6 le e8) ∧ (∀ u : ByteArray, u.size ≤ 8001 → FactU u) ∧ (∀ (a0 a1 a2 a3 a4 a5 : Int) (a6 : ByteArray) (la : List Int) (a8 : Int) (b0 b1 b2 b3 b4 b5 : Int) (b6 : ByteArray) (lb : List Int) (b8 : Int), a6.size ≤ 1000 ∧ b6.size ≤ 1001 → la.length ≤ 3 ∧ lb.length ≤ 4 → FactS a0 a1 a2 a3 a4 a5 a6 la a8 b0 b1 b2 b3 b4 b5 b6 lb b8)
/-- The boxes of the law, filled, and their rows. -/
structure LwE (w W : World) (ge gx gy ga gb : Nat) (e0 e1 e2 e3 e4 e5 : Int) (e6 : ByteArray) (le : List Int) (e8 : Int) (x0 x1 x2 x3 x4 x5 : Int) (x6 : ByteArray) (lx : List Int) (x8 : Int) (a0 a1 a2 a3 a4 a5 : Int) (a6 : ByteArray) (la : List Int) (a8 : Int) (b0 b1 b2 b3 b4 b5 : Int) (b6 : ByteArray) (lb : List Int) (b8 : Int) (xc : Int) (Ae : Option Addr) (ce : Nat) (Ax : Option Addr) (cx : Nat) (Ay : Option Addr) (cy : Nat) (Aa : Option Addr) (ca : Nat) (Ab : Option Addr) (cb : Nat) : Prop where
  hb : Below w.heap.size w W
  ke : W.heap[ge]? = some (.cells #[.int .i64 e0, .int .i64 e1, .int .i64 e2, .int .i64 e3, .int .i64 e4, .int .i64 e5, .string e6, .slice Ae le.length ce, .int .i64 e8] 25 (0, 0))
  kx : W.heap[gx]? = some (.cells #[.int .i64 x0, .int .i64 x1, .int .i64 x2, .int .i64 x3, .int .i64 x4, .int .i64 x5, .string x6, .slice Ax lx.length cx, .int .i64 x8, .int .i64 xc] 30 (0, 0))
  ky : W.heap[gy]? = some (.cells #[.int .i64 x0, .int .i64 x1, .int .i64 x2, .int .i64 x3, .int .i64 x4, .int .i64 x5, .string x6, .slice Ay lx.length cy, .int .i64 x8, .int .i64 xc] 30 (0, 0))
  ka : W.heap[ga]? = some (.cells #[.int .i64 a0, .int .i64 a1, .int .i64 a2, .int .i64 a3, .int .i64 a4, .int .i64 a5, .string a6, .slice Aa la.length ca, .int .i64 a8] 25 (0, 0))
  kb : W.heap[gb]? = some (.cells #[.int .i64 b0, .int .i64 b1, .int .i64 b2, .int .i64 b3, .int .i64 b4, .int .i64 b5, .string b6, .slice Ab lb.length cb, .int .i64 b8] 25 (0, 0))
  re : RwC W Ae ce le
  rx : RwC W Ax cx lx
  ry : RwC W Ay cy lx
  ra : RwC W Aa ca la
  rb : RwC W Ab cb lb
section
variable {w W W1 : World} {ge gx gy ga gb : Nat} {e0 e1 e2 e3 e4 e5 : Int} {e6 : ByteArray} {le : List Int} {e8 : Int} {x0 x1 x2 x3 x4 x5 : Int} {x6 : ByteArray} {lx : List Int} {x8 : Int} {a0 a1 a2 a3 a4 a5 : Int} {a6 : ByteArray} {la : List Int} {a8 : Int} {b0 b1 b2 b3 b4 b5 : Int} {b6 : ByteArray} {lb : List Int} {b8 : Int} {xc : Int} {Ae : Option Addr} {ce : Nat} {Ax : Option Addr} {cx : Nat} {Ay : Option Addr} {cy : Nat} {Aa : Option Addr} {ca : Nat} {Ab : Option Addr} {cb : Nat}
theorem LwE.below (h : LwE w W ge gx gy ga gb e0 e1 e2 e3 e4 e5 e6 le e8 x0 x1 x2 x3 x4 x5 x6 lx x8 a0 a1 a2 a3 a4 a5 a6 la a8 b0 b1 b2 b3 b4 b5 b6 lb b8 xc Ae ce Ax cx Ay cy Aa ca Ab cb) (hb : Below W.heap.size W W1) : LwE w W1 ge gx gy ga gb e0 e1 e2 e3 e4 e5 e6 le e8 x0 x1 x2 x3 x4 x5 x6 lx x8 a0 a1 a2 a3 a4 a5 a6 la a8 b0 b1 b2 b3 b4 b5 b6 lb b8 xc Ae ce Ax cx Ay cy Aa ca Ab cb := ⟨below_step h.hb hb, blk_below h.ke hb, blk_below h.kx hb, blk_below h.ky hb, blk_below h.ka hb, blk_below h.kb hb, h.re.below hb, h.rx.below hb, h.ry.below hb, h.ra.below hb, h.rb.below hb⟩
theorem LwE.drew (h : LwE w W ge gx gy ga gb e0 e1 e2 e3 e4 e5 e6 le e8 x0 x1 x2 x3 x4 x5 x6 lx x8 a0 a1 a2 a3 a4 a5 a6 la a8 b0 b1 b2 b3 b4 b5 b6 lb b8 xc Ae ce Ax cx Ay cy Aa ca Ab cb) : LwE w W.drew ge gx gy ga gb e0 e1 e2 e3 e4 e5 e6 le e8 x0 x1 x2 x3 x4 x5 x6 lx x8 a0 a1 a2 a3 a4 a5 a6 la a8 b0 b1 b2 b3 b4 b5 b6 lb b8 xc Ae ce Ax cx Ay cy Aa ca Ab cb := ⟨below_drew1 h.hb, blk_drew h.ke, blk_drew h.kx, blk_drew h.ky, blk_drew h.ka, blk_drew h.kb, ⟨Kd.C_drew h.re.r, h.re.c⟩, ⟨Kd.C_drew h.rx.r, h.rx.c⟩, ⟨Kd.C_drew h.ry.r, h.ry.c⟩, ⟨Kd.C_drew h.ra.r, h.ra.c⟩, ⟨Kd.C_drew h.rb.r, h.rb.c⟩⟩
theorem LwE.cells (h : LwE w W ge gx gy ga gb e0 e1 e2 e3 e4 e5 e6 le e8 x0 x1 x2 x3 x4 x5 x6 lx x8 a0 a1 a2 a3 a4 a5 a6 la a8 b0 b1 b2 b3 b4 b5 b6 lb b8 xc Ae ce Ax cx Ay cy Aa ca Ab cb) : W.cell? ⟨ge, 0, none⟩ = some (.int .i64 e0) ∧ W.cell? ⟨ge, 1, none⟩ = some (.int .i64 e1) ∧ W.cell? ⟨ge, 2, none⟩ = some (.int .i64 e2) ∧ W.cell? ⟨ge, 3, none⟩ = some (.int .i64 e3) ∧ W.cell? ⟨ge, 4, none⟩ = some (.int .i64 e4) ∧ W.cell? ⟨ge, 5, none⟩ = some (.int .i64 e5) ∧ W.cell? ⟨ge, 6, none⟩ = some (.string e6) ∧ W.cell? ⟨ge, 7, none⟩ = some (.slice Ae le.length ce) ∧ W.cell? ⟨ge, 8, none⟩ = some (.int .i64 e8) ∧ W.cell? ⟨gx, 0, none⟩ = some (.int .i64 x0) ∧ W.cell? ⟨gx, 1, none⟩ = some (.int .i64 x1) ∧ W.cell? ⟨gx, 2, none⟩ = some (.int .i64 x2) ∧ W.cell? ⟨gx, 3, none⟩ = some (.int .i64 x3) ∧ W.cell? ⟨gx, 4, none⟩ = some (.int .i64 x4) ∧ W.cell? ⟨gx, 5, none⟩ = some (.int .i64 x5) ∧ W.cell? ⟨gx, 6, none⟩ = some (.string x6) ∧ W.cell? ⟨gx, 7, none⟩ = some (.slice Ax lx.length cx) ∧ W.cell? ⟨gx, 8, none⟩ = some (.int .i64 x8) ∧ W.cell? ⟨gx, 9, none⟩ = some (.int .i64 xc) ∧ W.cell? ⟨gy, 0, none⟩ = some (.int .i64 x0) ∧ W.cell? ⟨gy, 1, none⟩ = some (.int .i64 x1) ∧ W.cell? ⟨gy, 2, none⟩ = some (.int .i64 x2) ∧ W.cell? ⟨gy, 3, none⟩ = some (.int .i64 x3) ∧ W.cell? ⟨gy, 4, none⟩ = some (.int .i64 x4) ∧ W.cell? ⟨gy, 5, none⟩ = some (.int .i64 x5) ∧ W.cell? ⟨gy, 6, none⟩ = some (.string x6) ∧ W.cell? ⟨gy, 7, none⟩ = some (.slice Ay lx.length cy) ∧ W.cell? ⟨gy, 8, none⟩ = some (.int .i64 x8) ∧ W.cell? ⟨gy, 9, none⟩ = some (.int .i64 xc) ∧ W.cell? ⟨ga, 0, none⟩ = some (.int .i64 a0) ∧ W.cell? ⟨ga, 1, none⟩ = some (.int .i64 a1) ∧ W.cell? ⟨ga, 2, none⟩ = some (.int .i64 a2) ∧ W.cell? ⟨ga, 3, none⟩ = some (.int .i64 a3) ∧ W.cell? ⟨ga, 4, none⟩ = some (.int .i64 a4) ∧ W.cell? ⟨ga, 5, none⟩ = some (.int .i64 a5) ∧ W.cell? ⟨ga, 6, none⟩ = some (.string a6) ∧ W.cell? ⟨ga, 7, none⟩ = some (.slice Aa la.length ca) ∧ W.cell? ⟨ga, 8, none⟩ = some (.int .i64 a8) ∧ W.cell? ⟨gb, 0, none⟩ = some (.int .i64 b0) ∧ W.cell? ⟨gb, 1, none⟩ = some (.int .i64 b1) ∧ W.cell? ⟨gb, 2, none⟩ = some (.int .i64 b2) ∧ W.cell? ⟨gb, 3, none⟩ = some (.int .i64 b3) ∧ W.cell? ⟨gb, 4, none⟩ = some (.int .i64 b4) ∧ W.cell? ⟨gb, 5, none⟩ = some (.int .i64 b5) ∧ W.cell? ⟨gb, 6, none⟩ = some (.string b6) ∧ W.cell? ⟨gb, 7, none⟩ = some (.slice Ab lb.length cb) ∧ W.cell? ⟨gb, 8, none⟩ = some (.int .i64 b8) :=
  ⟨(blk_cell h.ke 0).trans rfl, (blk_cell h.ke 1).trans rfl, (blk_cell h.ke 2).trans rfl, (blk_cell h.ke 3).trans rfl, (blk_cell h.ke 4).trans rfl, (blk_cell h.ke 5).trans rfl, (blk_cell h.ke 6).trans rfl, (blk_cell h.ke 7).trans rfl, (blk_cell h.ke 8).trans rfl, (blk_cell h.kx 0).trans rfl, (blk_cell h.kx 1).trans rfl, (blk_cell h.kx 2).trans rfl, (blk_cell h.kx 3).trans rfl, (blk_cell h.kx 4).trans rfl, (blk_cell h.kx 5).trans rfl, (blk_cell h.kx 6).trans rfl, (blk_cell h.kx 7).trans rfl, (blk_cell h.kx 8).trans rfl, (blk_cell h.kx 9).trans rfl, (blk_cell h.ky 0).trans rfl, (blk_cell h.ky 1).trans rfl, (blk_cell h.ky 2).trans rfl, (blk_cell h.ky 3).trans rfl, (blk_cell h.ky 4).trans rfl, (blk_cell h.ky 5).trans rfl, (blk_cell h.ky 6).trans rfl, (blk_cell h.ky 7).trans rfl, (blk_cell h.ky 8).trans rfl, (blk_cell h.ky 9).trans rfl, (blk_cell h.ka 0).trans rfl, (blk_cell h.ka 1).trans rfl, (blk_cell h.ka 2).trans rfl, (blk_cell h.ka 3).trans rfl, (blk_cell h.ka 4).trans rfl, (blk_cell h.ka 5).trans rfl, (blk_cell h.ka 6).trans rfl, (blk_cell h.ka 7).trans rfl, (blk_cell h.ka 8).trans rfl, (blk_cell h.kb 0).trans rfl, (blk_cell h.kb 1).trans rfl, (blk_cell h.kb 2).trans rfl, (blk_cell h.kb 3).trans rfl, (blk_cell h.kb 4).trans rfl, (blk_cell h.kb 5).trans rfl, (blk_cell h.kb 6).trans rfl, (blk_cell h.kb 7).trans rfl, (blk_cell h.kb 8).trans rfl⟩
theorem LwE.cab (h : LwE w W ge gx gy ga gb e0 e1 e2 e3 e4 e5 e6 le e8 x0 x1 x2 x3 x4 x5 x6 lx x8 a0 a1 a2 a3 a4 a5 a6 la a8 b0 b1 b2 b3 b4 b5 b6 lb b8 xc Ae ce Ax cx Ay cy Aa ca Ab cb) : W.cell? ⟨ga, 0, none⟩ = some (.int .i64 a0) ∧ W.cell? ⟨ga, 1, none⟩ = some (.int .i64 a1) ∧ W.cell? ⟨ga, 2, none⟩ = some (.int .i64 a2) ∧ W.cell? ⟨ga, 3, none⟩ = some (.int .i64 a3) ∧ W.cell? ⟨ga, 4, none⟩ = some (.int .i64 a4) ∧ W.cell? ⟨ga, 5, none⟩ = some (.int .i64 a5) ∧ W.cell? ⟨ga, 6, none⟩ = some (.string a6) ∧ W.cell? ⟨ga, 7, none⟩ = some (.slice Aa la.length ca) ∧ W.cell? ⟨ga, 8, none⟩ = some (.int .i64 a8) ∧ W.cell? ⟨gb, 0, none⟩ = some (.int .i64 b0) ∧ W.cell? ⟨gb, 1, none⟩ = some (.int .i64 b1) ∧ W.cell? ⟨gb, 2, none⟩ = some (.int .i64 b2) ∧ W.cell? ⟨gb, 3, none⟩ = some (.int .i64 b3) ∧ W.cell? ⟨gb, 4, none⟩ = some (.int .i64 b4) ∧ W.cell? ⟨gb, 5, none⟩ = some (.int .i64 b5) ∧ W.cell? ⟨gb, 6, none⟩ = some (.string b6) ∧ W.cell? ⟨gb, 7, none⟩ = some (.slice Ab lb.length cb) ∧ W.cell? ⟨gb, 8, none⟩ = some (.int .i64 b8) :=
  ⟨(blk_cell h.ka 0).trans rfl, (blk_cell h.ka 1).trans rfl, (blk_cell h.ka 2).trans rfl, (blk_cell h.ka 3).trans rfl, (blk_cell h.ka 4).trans rfl, (blk_cell h.ka 5).trans rfl, (blk_cell h.ka 6).trans rfl, (blk_cell h.ka 7).trans rfl, (blk_cell h.ka 8).trans rfl, (blk_cell h.kb 0).trans rfl, (blk_cell h.kb 1).trans rfl, (blk_cell h.kb 2).trans rfl, (blk_cell h.kb 3).trans rfl, (blk_cell h.kb 4).trans rfl, (blk_cell h.kb 5).trans rfl, (blk_cell h.kb 6).trans rfl, (blk_cell h.kb 7).trans rfl, (blk_cell h.kb 8).trans rfl⟩
theorem LwE.cge (h : LwE w W ge gx gy ga gb e0 e1 e2 e3 e4 e5 e6 le e8 x0 x1 x2 x3 x4 x5 x6 lx x8 a0 a1 a2 a3 a4 a5 a6 la a8 b0 b1 b2 b3 b4 b5 b6 lb b8 xc Ae ce Ax cx Ay cy Aa ca Ab cb) : W.cell? ⟨ge, 0, none⟩ = some (.int .i64 e0) ∧ W.cell? ⟨ge, 1, none⟩ = some (.int .i64 e1) ∧ W.cell? ⟨ge, 2, none⟩ = some (.int .i64 e2) ∧ W.cell? ⟨ge, 3, none⟩ = some (.int .i64 e3) ∧ W.cell? ⟨ge, 4, none⟩ = some (.int .i64 e4) ∧ W.cell? ⟨ge, 5, none⟩ = some (.int .i64 e5) ∧ W.cell? ⟨ge, 6, none⟩ = some (.string e6) ∧ W.cell? ⟨ge, 7, none⟩ = some (.slice Ae le.length ce) ∧ W.cell? ⟨ge, 8, none⟩ = some (.int .i64 e8) :=
  ⟨(blk_cell h.ke 0).trans rfl, (blk_cell h.ke 1).trans rfl, (blk_cell h.ke 2).trans rfl, (blk_cell h.ke 3).trans rfl, (blk_cell h.ke 4).trans rfl, (blk_cell h.ke 5).trans rfl, (blk_cell h.ke 6).trans rfl, (blk_cell h.ke 7).trans rfl, (blk_cell h.ke 8).trans rfl⟩
end
theorem laws_FnEvent.calls (A0 : Option Addr) (c0 : Nat) (l0 : List Int) (A1 : Option Addr) (c1 : Nat) (l1 : List Int) (w : World) (hr0 : Kd.C (Kd.int .u8) w A0 l0.length l0) (hc0 : l0.length ≤ c0) (hr1 : Kd.C (Kd.int .u8) w A1 l1.length l1) (hc1 : l1.length ≤ c1) (h : ¬ 1048576 < l0.length → ¬ 1048576 < l1.length → laws_FnEvent.Fact l1) :
    Calls Try.prog 3 #[.slice A0 l0.length c0, .slice A1 l1.length c1] w fun e w' => e = .returned (.bool true) ∧ Below w.heap.size w w' := by
  have hu25 := Try.underlying25
  have hu30 := Try.underlying30
  have HR0 := Aside0.mk hr0
  have HC0 := Aside0.mk hc0
  have HR1 := Aside0.mk hr1
  have HC1 := Aside0.mk hc1
  clear hr0 hc0 hr1 hc1
  have HB := Aside0.mk (Below.refl w.heap.size w)
  by_cases g1 : 1048576 < l0.length
  · have g1b0 : decide (1048576 < (l0.length : Int)) = true := decide_eq_true (by omega)
    have g1b1 : decide (1048576 < l0.length) = true := decide_eq_true g1
    go_enter Try.func3, Try.ntmps3
    go_wp2
    go_ret
    exact ⟨rfl, HB.out⟩
  have g1b0 : decide (1048576 < (l0.length : Int)) = false := decide_eq_false (by omega)
  have g1b1 : decide (1048576 < l0.length) = false := decide_eq_false g1
  by_cases g2 : 1048576 < l1.length
  · have g2b0 : decide (1048576 < (l1.length : Int)) = true := decide_eq_true (by omega)
    have g2b1 : decide (1048576 < l1.length) = true := decide_eq_true g2
    go_enter Try.func3, Try.ntmps3
    go_wp2
    go_ret
    exact ⟨rfl, HB.out⟩
  have g2b0 : decide (1048576 < (l1.length : Int)) = false := decide_eq_false (by omega)
  have g2b1 : decide (1048576 < l1.length) = false := decide_eq_false g2
  obtain ⟨fd, fe, fu, fs⟩ := h g1 g2
  have HFD := Aside0.mk fd
  have HFE := Aside0.mk fe
  have HFU := Aside0.mk fu
  have HFS := Aside0.mk fs
  clear fd fe fu fs
  have HL0 := Aside0.mk (show l0.length ≤ 1048576 by omega)
  have HL1 := Aside0.mk (show l1.length ≤ 1048576 by omega)
  clear h g1 g2
  go_enter Try.func3, Try.ntmps3
  go_upto_region 8 with (first | (go_at_call 4; with_reducible refine Calls.mono (spec_DrawEventBytes.calls A0 c0 l0 _ HL0.out (Kd.C_below HR0.out HB.out) HC0.out) ?_; rintro e w1 ⟨e0, e1, e2, e3, e4, e5, e6, v7, le, e8, rfl, ht, hn, ho, hb⟩; have f0 := HFE.out e0 e1 e2 e3 e4 e5 e6 le e8 ht hn; unfold FactE at f0; obtain ⟨ke, t, r, q, f1, f2, f3, f4, f5, f6, f7, f8⟩ := f0; have E1 := Aside0.mk f1; have E2 := Aside0.mk f2; have E3 := Aside0.mk f3; have E4 := Aside0.mk f4; have E5 := Aside0.mk f5; have E6 := Aside0.mk f6; have E7 := Aside0.mk f7; have E8 := Aside0.mk f8; clear f1 f2 f3 f4 f5 f6 f7 f8 ht hn; obtain ⟨Ae, ce, er⟩ := Kd.R_slice ho; subst er; have RE := Aside0.mk (RwC.of ho); clear ho; have HB_ := Aside0.mk (below_step HB.out hb); clear HB; have HB := HB_; clear HB_; clear hb) | ((with_reducible refine gate_dst (N := 5) rfl ?_); refine be_ 5 #[.int .i64 0, .int .i64 0, .int .i64 0, .int .i64 0, .int .i64 0, .int .i64 0, .string (⟨#[]⟩ : ByteArray), .slice none 0 0, .int .i64 0] 25 ?_; intro ge hg w2 hbox hb; have KE := Aside0.mk hbox; have GE := Aside0.mk (show w1.heap.size ≤ ge by rw [hg]; exact Nat.le_refl _); have HX := Aside0.mk hb; clear hg hbox hb; obtain ⟨⟨pa0, pa1, pa2, pa3, pa4, pa5, pa6, pa7, pa8⟩, qa0, qa1, qa2, qa3, qa4, qa5, qa6, qa7, qa8⟩ := cells_9 KE.out) | (go_at_call 5; with_reducible refine Calls.mono (impl_EventBytes.calls ke e0 e1 e2 e3 e4 e5 e6 Ae ce le e8 t _ (RE.out.below (below9 HX.out GE.out)).r RE.out.c E1.out) ?_; rintro e w3 ⟨rfl, hb⟩; (try clear pa0 pa1 pa2 pa3 pa4 pa5 pa6 pa7 pa8 qa0 qa1 qa2 qa3 qa4 qa5 qa6 qa7 qa8); have RE_ := Aside0.mk ((RE.out.below (below9 HX.out GE.out)).below hb); have HB_ := Aside0.mk (below_step (below_step HB.out (below9 HX.out GE.out)) hb); have KE_ := Aside0.mk (blk_below (bp9_ KE.out) hb); clear RE HB KE; have RE := RE_; have HB := HB_; have KE := KE_; clear RE_ HB_ KE_; clear hb; clear HX GE) | (go_at_call 6; with_reducible refine Calls.mono (spec_DrawEventRead.calls HFD.out A1 c1 l1 _ HL1.out (Kd.C_below HR1.out HB.out) HC1.out) ?_; rintro e w4 ⟨u, rfl, hu, hb⟩; have f0 := HFU.out u hu; unfold FactU at f0; obtain ⟨ku, x0, x1, x2, x3, x4, x5, x6, lx, x8, xc, f1, f2, f3, f4⟩ := f0; have U1 := Aside0.mk f1; have U2 := Aside0.mk f2; have U3 := Aside0.mk f3; have U4 := Aside0.mk f4; clear f1 f2 f3 f4 hu; have RE_ := Aside0.mk (RE.out.below hb); have HB_ := Aside0.mk (below_step HB.out hb); have KE_ := Aside0.mk (blk_below KE.out hb); clear RE HB KE; have RE := RE_; have HB := HB_; have KE := KE_; clear RE_ HB_ KE_; clear hb) | (go_at_call 7; with_reducible refine Calls.mono (impl_EventRead.calls ku u x0 x1 x2 x3 x4 x5 x6 lx x8 xc _ U1.out) ?_; rintro e w5 ⟨v7, rfl, ho, hb⟩; obtain ⟨Ax, cx, er⟩ := Kd.R_slice ho; subst er; have RX := Aside0.mk (RwC.of ho); clear ho; have RE_ := Aside0.mk (RE.out.below hb); have HB_ := Aside0.mk (below_step HB.out hb); have KE_ := Aside0.mk (blk_below KE.out hb); clear RE HB KE; have RE := RE_; have HB := HB_; have KE := KE_; clear RE_ HB_ KE_; clear hb) | (go_at_call 8; with_reducible refine Calls.mono (spec_EventRead.calls ku u x0 x1 x2 x3 x4 x5 x6 lx x8 xc _ U2.out) ?_; rintro e w6 ⟨v7, rfl, ho, hb⟩; obtain ⟨Ay, cy, er⟩ := Kd.R_slice ho; subst er; have RY := Aside0.mk (RwC.of ho); clear ho; have RE_ := Aside0.mk (RE.out.below hb); have HB_ := Aside0.mk (below_step HB.out hb); have KE_ := Aside0.mk (blk_below KE.out hb); have RX_ := Aside0.mk (RX.out.below hb); clear RE HB KE RX; have RE := RE_; have HB := HB_; have KE := KE_; have RX := RX_; clear RE_ HB_ KE_ RX_; clear hb) | ((with_reducible refine gate_dst (N := 8) rfl ?_); refine be_ 8 #[.int .i64 0, .int .i64 0, .int .i64 0, .int .i64 0, .int .i64 0, .int .i64 0, .string (⟨#[]⟩ : ByteArray), .slice none 0 0, .int .i64 0, .int .i64 0] 30 ?_; intro gx hg w7 hbox hb; have KX := Aside0.mk hbox; have GX := Aside0.mk (show w6.heap.size ≤ gx by rw [hg]; exact Nat.le_refl _); have HX := Aside0.mk hb; clear hg hbox hb) | ((with_reducible refine gate_dst (N := 9) rfl ?_); refine be_ 9 #[.int .i64 0, .int .i64 0, .int .i64 0, .int .i64 0, .int .i64 0, .int .i64 0, .string (⟨#[]⟩ : ByteArray), .slice none 0 0, .int .i64 0, .int .i64 0] 30 ?_; intro gy hg w8 hbox hb; have KY := Aside0.mk hbox; have GY := Aside0.mk (show w6.heap.size ≤ gy by rw [hg]; exact HX.out.size); have NX := Aside0.mk (show gx < gy by rw [hg]; exact blk_lt KX.out); have HX_ := Aside0.mk (below_step HX.out hb); have K_ := Aside0.mk (blk_below KX.out hb); clear HX KX hg hbox hb; have HX := HX_; have KX := K_; clear HX_ K_; obtain ⟨⟨pa0, pa1, pa2, pa3, pa4, pa5, pa6, pa7, pa8, pa9⟩, qa0, qa1, qa2, qa3, qa4, qa5, qa6, qa7, qa8, qa9⟩ := cells_10 KX.out; obtain ⟨⟨pb0, pb1, pb2, pb3, pb4, pb5, pb6, pb7, pb8, pb9⟩, qb0, qb1, qb2, qb3, qb4, qb5, qb6, qb7, qb8, qb9⟩ := cells_10 KY.out; have nx1 := Nat.ne_of_lt NX.out; have nx2 := Ne.symm nx1) | (go_at_call 9; with_reducible refine Calls.mono (spec_DrawSameEvent.calls A1 c1 l1 _ HL1.out (Kd.C_below HR1.out (below_step HB.out (below10 (below10 HX.out GX.out) GY.out))) HC1.out) ?_; rintro e w9 hp; unfold spec_DrawSameEvent.Post at hp; obtain ⟨a0, a1, a2, a3, a4, a5, a6, a7, la, a8, b0, b1, b2, b3, b4, b5, b6, b7, lb, b8, rfl, h6, h7, hoa, hob, hb⟩ := hp; (try clear pa0 pa1 pa2 pa3 pa4 pa5 pa6 pa7 pa8 pa9 qa0 qa1 qa2 qa3 qa4 qa5 qa6 qa7 qa8 qa9 pb0 pb1 pb2 pb3 pb4 pb5 pb6 pb7 pb8 pb9 qb0 qb1 qb2 qb3 qb4 qb5 qb6 qb7 qb8 qb9 nx1 nx2); have f0 := HFS.out a0 a1 a2 a3 a4 a5 a6 la a8 b0 b1 b2 b3 b4 b5 b6 lb b8 h6 h7; unfold FactS at f0; obtain ⟨ks, s, ra, rb, f1, f2, f3, f4, f5⟩ := f0; have S1 := Aside0.mk f1; have S2 := Aside0.mk f2; have S3 := Aside0.mk f3; have S4 := Aside0.mk f4; have S5 := Aside0.mk f5; clear f1 f2 f3 f4 f5 h6 h7; obtain ⟨Aa, ca, er⟩ := Kd.R_slice hoa; subst er; obtain ⟨Ab, cb, er⟩ := Kd.R_slice hob; subst er; have RA := Aside0.mk (RwC.of hoa); have RB := Aside0.mk (RwC.of hob); clear hoa hob; have RE_ := Aside0.mk ((RE.out.below (below10 (below10 HX.out GX.out) GY.out)).below hb); have RX_ := Aside0.mk ((RX.out.below (below10 (below10 HX.out GX.out) GY.out)).below hb); have RY_ := Aside0.mk ((RY.out.below (below10 (below10 HX.out GX.out) GY.out)).below hb); have HB_ := Aside0.mk (below_step (below_step HB.out (below10 (below10 HX.out GX.out) GY.out)) hb); have KE_ := Aside0.mk (blk_below (blk_below KE.out (below10 (below10 HX.out GX.out) GY.out)) hb); have KX_ := Aside0.mk (blk_below (blk10 (bp10 KX.out) (Nat.ne_of_lt NX.out)) hb); have KY_ := Aside0.mk (blk_below (bp10 (blk10 KY.out (Nat.ne_of_gt NX.out))) hb); clear RE RX RY HB KE KX KY; have RE := RE_; have RX := RX_; have RY := RY_; have HB := HB_; have KE := KE_; have KX := KX_; have KY := KY_; clear RE_ RX_ RY_ HB_ KE_ KX_ KY_; clear hb; clear HX GX GY NX) | ((with_reducible refine gate_dst (N := 10) rfl ?_); refine be_ 10 #[.int .i64 0, .int .i64 0, .int .i64 0, .int .i64 0, .int .i64 0, .int .i64 0, .string (⟨#[]⟩ : ByteArray), .slice none 0 0, .int .i64 0] 25 ?_; intro ga hg w10 hbox hb; have KA := Aside0.mk hbox; have GA := Aside0.mk (show w9.heap.size ≤ ga by rw [hg]; exact Nat.le_refl _); have HX := Aside0.mk hb; clear hg hbox hb) | ((with_reducible refine gate_dst (N := 11) rfl ?_); refine be_ 11 #[.int .i64 0, .int .i64 0, .int .i64 0, .int .i64 0, .int .i64 0, .int .i64 0, .string (⟨#[]⟩ : ByteArray), .slice none 0 0, .int .i64 0] 25 ?_; intro gb hg w11 hbox hb; have KB := Aside0.mk hbox; have GB := Aside0.mk (show w9.heap.size ≤ gb by rw [hg]; exact HX.out.size); have NX := Aside0.mk (show ga < gb by rw [hg]; exact blk_lt KA.out); have HX_ := Aside0.mk (below_step HX.out hb); have K_ := Aside0.mk (blk_below KA.out hb); clear HX KA hg hbox hb; have HX := HX_; have KA := K_; clear HX_ K_; obtain ⟨⟨pa0, pa1, pa2, pa3, pa4, pa5, pa6, pa7, pa8⟩, qa0, qa1, qa2, qa3, qa4, qa5, qa6, qa7, qa8⟩ := cells_9 KA.out; obtain ⟨⟨pb0, pb1, pb2, pb3, pb4, pb5, pb6, pb7, pb8⟩, qb0, qb1, qb2, qb3, qb4, qb5, qb6, qb7, qb8⟩ := cells_9 KB.out; have nx1 := Nat.ne_of_lt NX.out; have nx2 := Ne.symm nx1))
  generalize hgen : World.setCell _ _ _ = W8
  have LS : LwE w W8 ge gx gy ga gb e0 e1 e2 e3 e4 e5 e6 le e8 x0 x1 x2 x3 x4 x5 x6 lx x8 a0 a1 a2 a3 a4 a5 a6 la a8 b0 b1 b2 b3 b4 b5 b6 lb b8 xc Ae ce Ax cx Ay cy Aa ca Ab cb := by
    rw [← hgen]
    exact ⟨below_step HB.out (below9 (below9 HX.out GA.out) GB.out), blk_below KE.out (below9 (below9 HX.out GA.out) GB.out), blk_below KX.out (below9 (below9 HX.out GA.out) GB.out), blk_below KY.out (below9 (below9 HX.out GA.out) GB.out), blk9 (bp9_ KA.out) (Nat.ne_of_lt NX.out), bp9_ (blk9 KB.out (Nat.ne_of_gt NX.out)), RE.out.below (below9 (below9 HX.out GA.out) GB.out), RX.out.below (below9 (below9 HX.out GA.out) GB.out), RY.out.below (below9 (below9 HX.out GA.out) GB.out), RA.out.below (below9 (below9 HX.out GA.out) GB.out), RB.out.below (below9 (below9 HX.out GA.out) GB.out)⟩
  replace LS := Aside0.mk LS
  clear hgen HX GA GB NX KE KX KY KA KB RE RX RY RA RB HB nx1 nx2 pa0 pa1 pa2 pa3 pa4 pa5 pa6 pa7 pa8 qa0 qa1 qa2 qa3 qa4 qa5 qa6 qa7 qa8 pb0 pb1 pb2 pb3 pb4 pb5 pb6 pb7 pb8 qb0 qb1 qb2 qb3 qb4 qb5 qb6 qb7 qb8
  have cs0 : (t.toList == t.toList) = true := by simp
  have cs1 : (t.toList != t.toList) = false := by simp
  have hs := LS.out.drew
  refine start_ (n := 42) (S := fun w' => w'.cell? ⟨ge, 0, none⟩ = some (.int .i64 e0) ∧ w'.cell? ⟨ge, 1, none⟩ = some (.int .i64 e1) ∧ w'.cell? ⟨ge, 2, none⟩ = some (.int .i64 e2) ∧ w'.cell? ⟨ge, 3, none⟩ = some (.int .i64 e3) ∧ w'.cell? ⟨ge, 4, none⟩ = some (.int .i64 e4) ∧ w'.cell? ⟨ge, 5, none⟩ = some (.int .i64 e5) ∧ w'.cell? ⟨ge, 6, none⟩ = some (.string e6) ∧ w'.cell? ⟨ge, 7, none⟩ = some (.slice Ae le.length ce) ∧ w'.cell? ⟨ge, 8, none⟩ = some (.int .i64 e8) ∧ w'.cell? ⟨gx, 0, none⟩ = some (.int .i64 x0) ∧ w'.cell? ⟨gx, 1, none⟩ = some (.int .i64 x1) ∧ w'.cell? ⟨gx, 2, none⟩ = some (.int .i64 x2) ∧ w'.cell? ⟨gx, 3, none⟩ = some (.int .i64 x3) ∧ w'.cell? ⟨gx, 4, none⟩ = some (.int .i64 x4) ∧ w'.cell? ⟨gx, 5, none⟩ = some (.int .i64 x5) ∧ w'.cell? ⟨gx, 6, none⟩ = some (.string x6) ∧ w'.cell? ⟨gx, 7, none⟩ = some (.slice Ax lx.length cx) ∧ w'.cell? ⟨gx, 8, none⟩ = some (.int .i64 x8) ∧ w'.cell? ⟨gx, 9, none⟩ = some (.int .i64 xc) ∧ w'.cell? ⟨gy, 0, none⟩ = some (.int .i64 x0) ∧ w'.cell? ⟨gy, 1, none⟩ = some (.int .i64 x1) ∧ w'.cell? ⟨gy, 2, none⟩ = some (.int .i64 x2) ∧ w'.cell? ⟨gy, 3, none⟩ = some (.int .i64 x3) ∧ w'.cell? ⟨gy, 4, none⟩ = some (.int .i64 x4) ∧ w'.cell? ⟨gy, 5, none⟩ = some (.int .i64 x5) ∧ w'.cell? ⟨gy, 6, none⟩ = some (.string x6) ∧ w'.cell? ⟨gy, 7, none⟩ = some (.slice Ay lx.length cy) ∧ w'.cell? ⟨gy, 8, none⟩ = some (.int .i64 x8) ∧ w'.cell? ⟨gy, 9, none⟩ = some (.int .i64 xc) ∧ w'.cell? ⟨ga, 0, none⟩ = some (.int .i64 a0) ∧ w'.cell? ⟨ga, 1, none⟩ = some (.int .i64 a1) ∧ w'.cell? ⟨ga, 2, none⟩ = some (.int .i64 a2) ∧ w'.cell? ⟨ga, 3, none⟩ = some (.int .i64 a3) ∧ w'.cell? ⟨ga, 4, none⟩ = some (.int .i64 a4) ∧ w'.cell? ⟨ga, 5, none⟩ = some (.int .i64 a5) ∧ w'.cell? ⟨ga, 6, none⟩ = some (.string a6) ∧ w'.cell? ⟨ga, 7, none⟩ = some (.slice Aa la.length ca) ∧ w'.cell? ⟨ga, 8, none⟩ = some (.int .i64 a8) ∧ w'.cell? ⟨gb, 0, none⟩ = some (.int .i64 b0) ∧ w'.cell? ⟨gb, 1, none⟩ = some (.int .i64 b1) ∧ w'.cell? ⟨gb, 2, none⟩ = some (.int .i64 b2) ∧ w'.cell? ⟨gb, 3, none⟩ = some (.int .i64 b3) ∧ w'.cell? ⟨gb, 4, none⟩ = some (.int .i64 b4) ∧ w'.cell? ⟨gb, 5, none⟩ = some (.int .i64 b5) ∧ w'.cell? ⟨gb, 6, none⟩ = some (.string b6) ∧ w'.cell? ⟨gb, 7, none⟩ = some (.slice Ab lb.length cb) ∧ w'.cell? ⟨gb, 8, none⟩ = some (.int .i64 b8)) (ds := []) #[false, false, false, false, false, false, false, false, false, false, false, false, false, false, false, false, false, false, false, false, false, false, false, false, false, false, false, false, false, false, false, false, false, false, false, false, false, false, false, false, false, false] (by kernel_rfl) rfl rfl (hs.cells) (fun hHeld => ?_)
  generalize World.drew _ = W9 at hs hHeld ⊢
  clear LS
  have LS := Aside0.mk hs
  clear hs
  refine p0_ 0 (some 37) (bm 42 1) ?_
  refine t_ 1 (some 38) (bm 42 3) (by kernel_rfl) hHeld ?_
  refine one_ (i := 2) (N := some 39) (bm 42 7) rfl rfl (by kernel_rfl) (by decide) (fun K hK => ?_)
  refine gs_ Try.func10 #[.agg #[.int .i64 e0, .int .i64 e1, .int .i64 e2, .int .i64 e3, .int .i64 e4, .int .i64 e5, .string e6, .slice Ae le.length ce, .int .i64 e8]] ?_
  with_reducible refine Calls.mono (spec_EventBytes.calls ke e0 e1 e2 e3 e4 e5 e6 Ae ce le e8 t _ LS.out.re.r LS.out.re.c E2.out) ?_
  rintro e W8_2 ⟨rfl, hb⟩
  refine ⟨_, rfl, ?_⟩
  have LS_ := Aside0.mk (LS.out.below hb)
  clear LS hb
  have LS := LS_
  clear LS_
  refine hK.out _ _ (LS.out.cells) (fun hHeld => ?_)
  clear hK K
  refine n_ (some 39) ?_
  refine p0_ 3 (some 40) (bm 42 15) ?_
  refine p0_ 4 (some 41) (bm 42 31) ?_
  refine p0_ 5 (some 42) (bm 42 63) ?_
  refine p0_ 7 (some 44) (bm 42 191) ?_
  refine t_ 6 (some 43) (bm 42 255) (by kernel_rfl) hHeld ?_
  refine t_ 8 (some 45) (bm 42 511) (by kernel_rfl) hHeld ?_
  refine p0_ 9 (some 46) (bm 42 1023) ?_
  refine p0_ 10 (some 47) (bm 42 2047) ?_
  refine p0_ 11 (some 48) (bm 42 4095) ?_
  refine p0_ 12 (some 49) (bm 42 8191) ?_
  refine p0_ 14 (some 51) (bm 42 24575) ?_
  refine t_ 13 (some 50) (bm 42 32767) (by kernel_rfl) hHeld ?_
  refine t_ 15 (some 52) (bm 42 65535) (by kernel_rfl) hHeld ?_
  refine one_ (i := 16) (N := some 53) (bm 42 131071) rfl rfl (by kernel_rfl) (by decide) (fun K hK => ?_)
  refine gs_ Try.func11 #[.agg #[.int .i64 x0, .int .i64 x1, .int .i64 x2, .int .i64 x3, .int .i64 x4, .int .i64 x5, .string x6, .slice Ax lx.length cx, .int .i64 x8], .agg #[.int .i64 x0, .int .i64 x1, .int .i64 x2, .int .i64 x3, .int .i64 x4, .int .i64 x5, .string x6, .slice Ay lx.length cy, .int .i64 x8]] ?_
  with_reducible refine Calls.mono (laws_lwEvent.calls ku x0 x1 x2 x3 x4 x5 x6 Ax cx lx x8 x0 x1 x2 x3 x4 x5 x6 Ay cy lx x8 true _ LS.out.rx.r LS.out.rx.c LS.out.ry.r LS.out.ry.c U3.out) ?_
  rintro e W8_16 ⟨rfl, hb⟩
  refine ⟨_, rfl, ?_⟩
  have LS_ := Aside0.mk (LS.out.below hb)
  clear LS hb
  have LS := LS_
  clear LS_
  refine hK.out _ _ (LS.out.cells) (fun hHeld => ?_)
  clear hK K
  refine n_ (some 53) ?_
  refine p0_ 17 (some 54) (bm 42 262143) ?_
  refine p0_ 18 (some 55) (bm 42 524287) ?_
  refine p0_ 19 (some 56) (bm 42 1048575) ?_
  refine t_ 20 (some 57) (bm 42 2097151) (by kernel_rfl) hHeld ?_
  refine t_ 21 (some 58) (bm 42 4194303) (by kernel_rfl) hHeld ?_
  refine t_ 23 (some 60) (bm 42 12582911) (by kernel_rfl) hHeld ?_
  refine t_ 24 (some 61) (bm 42 29360127) (by kernel_rfl) hHeld ?_
  refine one_ (i := 22) (N := some 59) (bm 42 33554431) rfl rfl (by kernel_rfl) (by decide) (fun K hK => ?_)
  refine gs_ Try.func12 #[.agg #[.int .i64 a0, .int .i64 a1, .int .i64 a2, .int .i64 a3, .int .i64 a4, .int .i64 a5, .string a6, .slice Aa la.length ca, .int .i64 a8], .agg #[.int .i64 b0, .int .i64 b1, .int .i64 b2, .int .i64 b3, .int .i64 b4, .int .i64 b5, .string b6, .slice Ab lb.length cb, .int .i64 b8]] ?_
  with_reducible refine Calls.mono (impl_SameEvent.calls ks a0 a1 a2 a3 a4 a5 a6 Aa ca la a8 b0 b1 b2 b3 b4 b5 b6 Ab cb lb b8 s _ LS.out.ra.r LS.out.ra.c LS.out.rb.r LS.out.rb.c S1.out) ?_
  rintro e W8_22 ⟨rfl, hb⟩
  refine ⟨_, rfl, ?_⟩
  have LS_ := Aside0.mk (LS.out.below hb)
  clear LS hb
  have LS := LS_
  clear LS_
  refine hK.out _ _ (LS.out.cells) (fun hHeld => ?_)
  clear hK K
  refine n_ (some 59) ?_
  refine one_ (i := 25) (N := some 62) (bm 42 67108863) rfl rfl (by kernel_rfl) (by decide) (fun K hK => ?_)
  refine gs_ Try.func13 #[.agg #[.int .i64 a0, .int .i64 a1, .int .i64 a2, .int .i64 a3, .int .i64 a4, .int .i64 a5, .string a6, .slice Aa la.length ca, .int .i64 a8], .agg #[.int .i64 b0, .int .i64 b1, .int .i64 b2, .int .i64 b3, .int .i64 b4, .int .i64 b5, .string b6, .slice Ab lb.length cb, .int .i64 b8]] ?_
  with_reducible refine Calls.mono (spec_SameEvent.calls ks a0 a1 a2 a3 a4 a5 a6 Aa ca la a8 b0 b1 b2 b3 b4 b5 b6 Ab cb lb b8 s _ LS.out.ra.r LS.out.ra.c LS.out.rb.r LS.out.rb.c S2.out) ?_
  rintro e W8_25 ⟨rfl, hb⟩
  refine ⟨_, rfl, ?_⟩
  have LS_ := Aside0.mk (LS.out.below hb)
  clear LS hb
  have LS := LS_
  clear LS_
  refine hK.out _ _ (LS.out.cells) (fun hHeld => ?_)
  clear hK K
  refine n_ (some 62) ?_
  refine p0_ 26 (some 63) (bm 42 134217727) ?_
  refine p0_ 27 (some 64) (bm 42 268435455) ?_
  refine p0_ 28 (some 65) (bm 42 536870911) ?_
  refine t_ 29 (some 66) (bm 42 1073741823) (by kernel_rfl) hHeld ?_
  refine t_ 31 (some 68) (bm 42 3221225471) (by kernel_rfl) hHeld ?_
  refine one_ (i := 30) (N := some 67) (bm 42 4294967295) rfl rfl (by kernel_rfl) (by decide) (fun K hK => ?_)
  refine gs_ Try.func14 #[.agg #[.int .i64 e0, .int .i64 e1, .int .i64 e2, .int .i64 e3, .int .i64 e4, .int .i64 e5, .string e6, .slice Ae le.length ce, .int .i64 e8]] ?_
  with_reducible refine Calls.mono (impl_EventRight.calls ke e0 e1 e2 e3 e4 e5 e6 Ae ce le e8 r _ LS.out.re.r LS.out.re.c E3.out) ?_
  rintro e W8_30 ⟨rfl, hb⟩
  refine ⟨_, rfl, ?_⟩
  have LS_ := Aside0.mk (LS.out.below hb)
  clear LS hb
  have LS := LS_
  clear LS_
  refine hK.out _ _ (LS.out.cells) (fun hHeld => ?_)
  clear hK K
  refine n_ (some 67) ?_
  refine one_ (i := 32) (N := some 69) (bm 42 8589934591) rfl rfl (by kernel_rfl) (by decide) (fun K hK => ?_)
  refine gs_ Try.func15 #[.agg #[.int .i64 e0, .int .i64 e1, .int .i64 e2, .int .i64 e3, .int .i64 e4, .int .i64 e5, .string e6, .slice Ae le.length ce, .int .i64 e8]] ?_
  with_reducible refine Calls.mono (spec_EventRight.calls ke e0 e1 e2 e3 e4 e5 e6 Ae ce le e8 r _ LS.out.re.r LS.out.re.c E4.out) ?_
  rintro e W8_32 ⟨rfl, hb⟩
  refine ⟨_, rfl, ?_⟩
  have LS_ := Aside0.mk (LS.out.below hb)
  clear LS hb
  have LS := LS_
  clear LS_
  refine hK.out _ _ (LS.out.cells) (fun hHeld => ?_)
  clear hK K
  refine n_ (some 69) ?_
  refine p0_ 33 (some 70) (bm 42 17179869183) ?_
  refine p0_ 34 (some 71) (bm 42 34359738367) ?_
  refine p0_ 35 (some 72) (bm 42 68719476735) ?_
  refine t_ 36 (some 73) (bm 42 137438953471) (by kernel_rfl) hHeld ?_
  refine t_ 38 (some 75) (bm 42 412316860415) (by kernel_rfl) hHeld ?_
  refine one_ (i := 37) (N := some 74) (bm 42 549755813887) rfl rfl (by kernel_rfl) (by decide) (fun K hK => ?_)
  refine gs_ Try.func16 #[.agg #[.int .i64 e0, .int .i64 e1, .int .i64 e2, .int .i64 e3, .int .i64 e4, .int .i64 e5, .string e6, .slice Ae le.length ce, .int .i64 e8]] ?_
  with_reducible refine Calls.mono (impl_IsState.calls ke e0 e1 e2 e3 e4 e5 e6 Ae ce le e8 q _ LS.out.re.r LS.out.re.c E5.out) ?_
  rintro e W8_37 ⟨rfl, hb⟩
  refine ⟨_, rfl, ?_⟩
  have LS_ := Aside0.mk (LS.out.below hb)
  clear LS hb
  have LS := LS_
  clear LS_
  refine hK.out _ _ (LS.out.cells) (fun hHeld => ?_)
  clear hK K
  refine n_ (some 74) ?_
  refine one_ (i := 39) (N := some 76) (bm 42 1099511627775) rfl rfl (by kernel_rfl) (by decide) (fun K hK => ?_)
  refine gs_ Try.func17 #[.agg #[.int .i64 e0, .int .i64 e1, .int .i64 e2, .int .i64 e3, .int .i64 e4, .int .i64 e5, .string e6, .slice Ae le.length ce, .int .i64 e8]] ?_
  with_reducible refine Calls.mono (spec_IsState.calls ke e0 e1 e2 e3 e4 e5 e6 Ae ce le e8 q _ LS.out.re.r LS.out.re.c E6.out) ?_
  rintro e W8_39 ⟨rfl, hb⟩
  refine ⟨_, rfl, ?_⟩
  have LS_ := Aside0.mk (LS.out.below hb)
  clear LS hb
  have LS := LS_
  clear LS_
  refine hK.out _ _ (LS.out.cells) (fun hHeld => ?_)
  clear hK K
  refine n_ (some 76) ?_
  refine p0_ 40 (some 77) (bm 42 2199023255551) ?_
  refine p0_ 41 (some 78) (bm 42 4398046511103) ?_
  refine done_ (by kernel_rfl) ?_
  clear hHeld cs0 cs1
  obtain ⟨⟨pa0, pa1, pa2, pa3, pa4, pa5, pa6, pa7, pa8, pa9⟩, qa0, qa1, qa2, qa3, qa4, qa5, qa6, qa7, qa8, qa9⟩ := cells_10 LS.out.kx
  go_upto_region 10 with fail
  go_cut [88] (fun v88 wx => v88 = .bool false ∧ LwE w wx ge gx gy ga gb e0 e1 e2 e3 e4 e5 e6 le e8 x0 x1 x2 x3 x4 x5 x6 lx x8 a0 a1 a2 a3 a4 a5 a6 la a8 b0 b1 b2 b3 b4 b5 b6 lb b8 xc Ae ce Ax cx Ay cy Aa ca Ab cb)
  case first =>
    by_cases cx : xc = 0
    · have cx0 : (xc == 0) = true := beq_iff_eq.mpr cx
      have U5 := Aside0.mk (U4.out cx)
      clear cx
      have cs0 : (u.toList == u.toList) = true := by simp
      have cs1 : (u.toList != u.toList) = false := by simp
      go_wp2_with (first | (go_at_call 5; with_reducible refine Calls.mono (impl_EventBytes.calls ku x0 x1 x2 x3 x4 x5 x6 Ax cx lx x8 u _ LS.out.rx.r LS.out.rx.c U5.out) ?_; rintro e W10 ⟨rfl, hb⟩; have LS_ := Aside0.mk (LS.out.below hb); clear LS hb; have LS := LS_; clear LS_))
      go_meet
      case rel => exact ⟨rfl, LS.out⟩
    · have cx0 : (xc == 0) = false := beq_eq_false_iff_ne.mpr cx
      clear cx
      go_wp2
      go_meet
      case rel => exact ⟨rfl, LS.out⟩
  case rest =>
    clear LS pa0 pa1 pa2 pa3 pa4 pa5 pa6 pa7 pa8 pa9 qa0 qa1 qa2 qa3 qa4 qa5 qa6 qa7 qa8 qa9
    obtain ⟨rfl, hs⟩ := hcut
    have LS := Aside0.mk hs
    clear hs
    go_upto_region 12 with fail
    go_cut [105] (fun v105 wx => v105 = .bool false ∧ LwE w wx ge gx gy ga gb e0 e1 e2 e3 e4 e5 e6 le e8 x0 x1 x2 x3 x4 x5 x6 lx x8 a0 a1 a2 a3 a4 a5 a6 la a8 b0 b1 b2 b3 b4 b5 b6 lb b8 xc Ae ce Ax cx Ay cy Aa ca Ab cb)
    case first =>
      cases ra
      case false =>
        have hs := LS.out.drew
        refine start_ (n := 17) (S := fun w' => w'.cell? ⟨ga, 0, none⟩ = some (.int .i64 a0) ∧ w'.cell? ⟨ga, 1, none⟩ = some (.int .i64 a1) ∧ w'.cell? ⟨ga, 2, none⟩ = some (.int .i64 a2) ∧ w'.cell? ⟨ga, 3, none⟩ = some (.int .i64 a3) ∧ w'.cell? ⟨ga, 4, none⟩ = some (.int .i64 a4) ∧ w'.cell? ⟨ga, 5, none⟩ = some (.int .i64 a5) ∧ w'.cell? ⟨ga, 6, none⟩ = some (.string a6) ∧ w'.cell? ⟨ga, 7, none⟩ = some (.slice Aa la.length ca) ∧ w'.cell? ⟨ga, 8, none⟩ = some (.int .i64 a8) ∧ w'.cell? ⟨gb, 0, none⟩ = some (.int .i64 b0) ∧ w'.cell? ⟨gb, 1, none⟩ = some (.int .i64 b1) ∧ w'.cell? ⟨gb, 2, none⟩ = some (.int .i64 b2) ∧ w'.cell? ⟨gb, 3, none⟩ = some (.int .i64 b3) ∧ w'.cell? ⟨gb, 4, none⟩ = some (.int .i64 b4) ∧ w'.cell? ⟨gb, 5, none⟩ = some (.int .i64 b5) ∧ w'.cell? ⟨gb, 6, none⟩ = some (.string b6) ∧ w'.cell? ⟨gb, 7, none⟩ = some (.slice Ab lb.length cb) ∧ w'.cell? ⟨gb, 8, none⟩ = some (.int .i64 b8)) (ds := []) #[false, false, false, false, false, false, false, false, false, false, false, false, false, false, false, false, false] (by kernel_rfl) rfl rfl (hs.cab) (fun hHeld => ?_)
        generalize World.drew _ = W12 at hs hHeld ⊢
        clear LS
        have LS := Aside0.mk hs
        clear hs
        refine t_ 0 (some 89) (bm 17 1) (by kernel_rfl) hHeld ?_
        refine one_ (i := 1) (N := some 90) (bm 17 3) rfl rfl (by kernel_rfl) (by decide) (fun K hK => ?_)
        refine gs_ Try.func15 #[.agg #[.int .i64 a0, .int .i64 a1, .int .i64 a2, .int .i64 a3, .int .i64 a4, .int .i64 a5, .string a6, .slice Aa la.length ca, .int .i64 a8]] ?_
        with_reducible refine Calls.mono (spec_EventRight.calls ks a0 a1 a2 a3 a4 a5 a6 Aa ca la a8 false _ LS.out.ra.r LS.out.ra.c S3.out) ?_
        rintro e W12_1 ⟨rfl, hb⟩
        refine ⟨_, rfl, ?_⟩
        have LS_ := Aside0.mk (LS.out.below hb)
        clear LS hb
        have LS := LS_
        clear LS_
        refine hK.out _ _ (LS.out.cab) (fun hHeld => ?_)
        clear hK K
        refine n_ (some 90) ?_
        refine p0_ 2 (some 91) (bm 17 7) ?_
        refine pure_ (i := 3) (N := some 92) (v := undef) (a' := ?_) #[true, true, true, true, false, false, false, false, false, false, false, false, false, false, false, false, false] rfl rfl (by kernel_rfl) (fun _ _ _ h => h) (Or.inr ⟨by rfl, rfl⟩) ?_ ?_
        rotate_left
        · simp only [Act.put, lS, l0_, l1_, i64_w, i32_w]
          rfl
        refine pure_ (i := 4) (N := some 93) (v := undef) (a' := ?_) #[true, true, true, true, true, false, false, false, false, false, false, false, false, false, false, false, false] rfl rfl (by kernel_rfl) (fun _ _ _ h => h) (Or.inr ⟨by rfl, rfl⟩) ?_ ?_
        rotate_left
        · simp only [Act.put, lS, l0_, l1_, i64_w, i32_w]
          rfl
        refine p0_ 5 (some 94) (bm 17 63) ?_
        refine p0_ 6 (some 95) (bm 17 127) ?_
        refine pure_ (i := 7) (N := some 96) (v := undef) (a' := ?_) #[true, true, true, true, true, true, true, true, false, false, false, false, false, false, false, false, false] rfl rfl (by kernel_rfl) (fun _ _ _ h => h) (Or.inr ⟨by rfl, rfl⟩) ?_ ?_
        rotate_left
        · simp only [Act.put, lS, l0_, l1_, i64_w, i32_w]
          rfl
        refine pure_ (i := 8) (N := some 97) (v := undef) (a' := ?_) #[true, true, true, true, true, true, true, true, true, false, false, false, false, false, false, false, false] rfl rfl (by kernel_rfl) (fun _ _ _ h => h) (Or.inr ⟨by rfl, rfl⟩) ?_ ?_
        rotate_left
        · simp only [Act.put, lS, l0_, l1_, i64_w, i32_w]
          rfl
        refine pure_ (i := 9) (N := some 98) (v := undef) (a' := ?_) #[true, true, true, true, true, true, true, true, true, true, false, false, false, false, false, false, false] rfl rfl (by kernel_rfl) (fun _ _ _ h => h) (Or.inr ⟨by rfl, rfl⟩) ?_ ?_
        rotate_left
        · simp only [Act.put, lS, l0_, l1_, i64_w, i32_w]
          rfl
        refine pure_ (i := 10) (N := some 99) (v := undef) (a' := ?_) #[true, true, true, true, true, true, true, true, true, true, true, false, false, false, false, false, false] rfl rfl (by kernel_rfl) (fun _ _ _ h => h) (Or.inr ⟨by rfl, rfl⟩) ?_ ?_
        rotate_left
        · simp only [Act.put, lS, l0_, l1_, i64_w, i32_w]
          rfl
        refine pure_ (i := 11) (N := some 100) (v := undef) (a' := ?_) #[true, true, true, true, true, true, true, true, true, true, true, true, false, false, false, false, false] rfl rfl (by kernel_rfl) (fun _ _ _ h => h) (Or.inr ⟨by rfl, rfl⟩) ?_ ?_
        rotate_left
        · simp only [Act.put, lS, l0_, l1_, i64_w, i32_w]
          rfl
        refine pure_ (i := 12) (N := some 101) (v := undef) (a' := ?_) #[true, true, true, true, true, true, true, true, true, true, true, true, true, false, false, false, false] rfl rfl (by kernel_rfl) (fun _ _ _ h => h) (Or.inr ⟨by rfl, rfl⟩) ?_ ?_
        rotate_left
        · simp only [Act.put, lS, l0_, l1_, i64_w, i32_w]
          rfl
        refine pure_ (i := 13) (N := some 102) (v := undef) (a' := ?_) #[true, true, true, true, true, true, true, true, true, true, true, true, true, true, false, false, false] rfl rfl (by kernel_rfl) (fun _ _ _ h => h) (Or.inr ⟨by rfl, rfl⟩) ?_ ?_
        rotate_left
        · simp only [Act.put, lS, l0_, l1_, i64_w, i32_w]
          rfl
        refine pure_ (i := 14) (N := some 103) (v := undef) (a' := ?_) #[true, true, true, true, true, true, true, true, true, true, true, true, true, true, true, false, false] rfl rfl (by kernel_rfl) (fun _ _ _ h => h) (Or.inr ⟨by rfl, rfl⟩) ?_ ?_
        rotate_left
        · simp only [Act.put, lS, l0_, l1_, i64_w, i32_w]
          rfl
        refine pure_ (i := 15) (N := some 104) (v := undef) (a' := ?_) #[true, true, true, true, true, true, true, true, true, true, true, true, true, true, true, true, false] rfl rfl (by kernel_rfl) (fun _ _ _ h => h) (Or.inr ⟨by rfl, rfl⟩) ?_ ?_
        rotate_left
        · simp only [Act.put, lS, l0_, l1_, i64_w, i32_w]
          rfl
        refine p0_ 16 (some 105) (bm 17 131071) ?_
        refine done_ (by kernel_rfl) ?_
        try go_wp2
        go_meet
        case rel => exact ⟨by first | rfl | (rw [hsb2]), LS.out⟩
      case true =>
        cases rb
        case false =>
          have hs := LS.out.drew
          refine start_ (n := 17) (S := fun w' => w'.cell? ⟨ga, 0, none⟩ = some (.int .i64 a0) ∧ w'.cell? ⟨ga, 1, none⟩ = some (.int .i64 a1) ∧ w'.cell? ⟨ga, 2, none⟩ = some (.int .i64 a2) ∧ w'.cell? ⟨ga, 3, none⟩ = some (.int .i64 a3) ∧ w'.cell? ⟨ga, 4, none⟩ = some (.int .i64 a4) ∧ w'.cell? ⟨ga, 5, none⟩ = some (.int .i64 a5) ∧ w'.cell? ⟨ga, 6, none⟩ = some (.string a6) ∧ w'.cell? ⟨ga, 7, none⟩ = some (.slice Aa la.length ca) ∧ w'.cell? ⟨ga, 8, none⟩ = some (.int .i64 a8) ∧ w'.cell? ⟨gb, 0, none⟩ = some (.int .i64 b0) ∧ w'.cell? ⟨gb, 1, none⟩ = some (.int .i64 b1) ∧ w'.cell? ⟨gb, 2, none⟩ = some (.int .i64 b2) ∧ w'.cell? ⟨gb, 3, none⟩ = some (.int .i64 b3) ∧ w'.cell? ⟨gb, 4, none⟩ = some (.int .i64 b4) ∧ w'.cell? ⟨gb, 5, none⟩ = some (.int .i64 b5) ∧ w'.cell? ⟨gb, 6, none⟩ = some (.string b6) ∧ w'.cell? ⟨gb, 7, none⟩ = some (.slice Ab lb.length cb) ∧ w'.cell? ⟨gb, 8, none⟩ = some (.int .i64 b8)) (ds := []) #[false, false, false, false, false, false, false, false, false, false, false, false, false, false, false, false, false] (by kernel_rfl) rfl rfl (hs.cab) (fun hHeld => ?_)
          generalize World.drew _ = W12 at hs hHeld ⊢
          clear LS
          have LS := Aside0.mk hs
          clear hs
          refine t_ 0 (some 89) (bm 17 1) (by kernel_rfl) hHeld ?_
          refine one_ (i := 1) (N := some 90) (bm 17 3) rfl rfl (by kernel_rfl) (by decide) (fun K hK => ?_)
          refine gs_ Try.func15 #[.agg #[.int .i64 a0, .int .i64 a1, .int .i64 a2, .int .i64 a3, .int .i64 a4, .int .i64 a5, .string a6, .slice Aa la.length ca, .int .i64 a8]] ?_
          with_reducible refine Calls.mono (spec_EventRight.calls ks a0 a1 a2 a3 a4 a5 a6 Aa ca la a8 true _ LS.out.ra.r LS.out.ra.c S3.out) ?_
          rintro e W12_1 ⟨rfl, hb⟩
          refine ⟨_, rfl, ?_⟩
          have LS_ := Aside0.mk (LS.out.below hb)
          clear LS hb
          have LS := LS_
          clear LS_
          refine hK.out _ _ (LS.out.cab) (fun hHeld => ?_)
          clear hK K
          refine n_ (some 90) ?_
          refine p0_ 2 (some 91) (bm 17 7) ?_
          refine t_ 3 (some 92) (bm 17 15) (by kernel_rfl) hHeld ?_
          refine one_ (i := 4) (N := some 93) (bm 17 31) rfl rfl (by kernel_rfl) (by decide) (fun K hK => ?_)
          refine gs_ Try.func15 #[.agg #[.int .i64 b0, .int .i64 b1, .int .i64 b2, .int .i64 b3, .int .i64 b4, .int .i64 b5, .string b6, .slice Ab lb.length cb, .int .i64 b8]] ?_
          with_reducible refine Calls.mono (spec_EventRight.calls ks b0 b1 b2 b3 b4 b5 b6 Ab cb lb b8 false _ LS.out.rb.r LS.out.rb.c S4.out) ?_
          rintro e W12_4 ⟨rfl, hb⟩
          refine ⟨_, rfl, ?_⟩
          have LS_ := Aside0.mk (LS.out.below hb)
          clear LS hb
          have LS := LS_
          clear LS_
          refine hK.out _ _ (LS.out.cab) (fun hHeld => ?_)
          clear hK K
          refine n_ (some 93) ?_
          refine p0_ 5 (some 94) (bm 17 63) ?_
          refine p0_ 6 (some 95) (bm 17 127) ?_
          refine pure_ (i := 7) (N := some 96) (v := undef) (a' := ?_) #[true, true, true, true, true, true, true, true, false, false, false, false, false, false, false, false, false] rfl rfl (by kernel_rfl) (fun _ _ _ h => h) (Or.inr ⟨by rfl, rfl⟩) ?_ ?_
          rotate_left
          · simp only [Act.put, lS, l0_, l1_, i64_w, i32_w]
            rfl
          refine pure_ (i := 8) (N := some 97) (v := undef) (a' := ?_) #[true, true, true, true, true, true, true, true, true, false, false, false, false, false, false, false, false] rfl rfl (by kernel_rfl) (fun _ _ _ h => h) (Or.inr ⟨by rfl, rfl⟩) ?_ ?_
          rotate_left
          · simp only [Act.put, lS, l0_, l1_, i64_w, i32_w]
            rfl
          refine pure_ (i := 9) (N := some 98) (v := undef) (a' := ?_) #[true, true, true, true, true, true, true, true, true, true, false, false, false, false, false, false, false] rfl rfl (by kernel_rfl) (fun _ _ _ h => h) (Or.inr ⟨by rfl, rfl⟩) ?_ ?_
          rotate_left
          · simp only [Act.put, lS, l0_, l1_, i64_w, i32_w]
            rfl
          refine pure_ (i := 10) (N := some 99) (v := undef) (a' := ?_) #[true, true, true, true, true, true, true, true, true, true, true, false, false, false, false, false, false] rfl rfl (by kernel_rfl) (fun _ _ _ h => h) (Or.inr ⟨by rfl, rfl⟩) ?_ ?_
          rotate_left
          · simp only [Act.put, lS, l0_, l1_, i64_w, i32_w]
            rfl
          refine pure_ (i := 11) (N := some 100) (v := undef) (a' := ?_) #[true, true, true, true, true, true, true, true, true, true, true, true, false, false, false, false, false] rfl rfl (by kernel_rfl) (fun _ _ _ h => h) (Or.inr ⟨by rfl, rfl⟩) ?_ ?_
          rotate_left
          · simp only [Act.put, lS, l0_, l1_, i64_w, i32_w]
            rfl
          refine pure_ (i := 12) (N := some 101) (v := undef) (a' := ?_) #[true, true, true, true, true, true, true, true, true, true, true, true, true, false, false, false, false] rfl rfl (by kernel_rfl) (fun _ _ _ h => h) (Or.inr ⟨by rfl, rfl⟩) ?_ ?_
          rotate_left
          · simp only [Act.put, lS, l0_, l1_, i64_w, i32_w]
            rfl
          refine pure_ (i := 13) (N := some 102) (v := undef) (a' := ?_) #[true, true, true, true, true, true, true, true, true, true, true, true, true, true, false, false, false] rfl rfl (by kernel_rfl) (fun _ _ _ h => h) (Or.inr ⟨by rfl, rfl⟩) ?_ ?_
          rotate_left
          · simp only [Act.put, lS, l0_, l1_, i64_w, i32_w]
            rfl
          refine pure_ (i := 14) (N := some 103) (v := undef) (a' := ?_) #[true, true, true, true, true, true, true, true, true, true, true, true, true, true, true, false, false] rfl rfl (by kernel_rfl) (fun _ _ _ h => h) (Or.inr ⟨by rfl, rfl⟩) ?_ ?_
          rotate_left
          · simp only [Act.put, lS, l0_, l1_, i64_w, i32_w]
            rfl
          refine pure_ (i := 15) (N := some 104) (v := undef) (a' := ?_) #[true, true, true, true, true, true, true, true, true, true, true, true, true, true, true, true, false] rfl rfl (by kernel_rfl) (fun _ _ _ h => h) (Or.inr ⟨by rfl, rfl⟩) ?_ ?_
          rotate_left
          · simp only [Act.put, lS, l0_, l1_, i64_w, i32_w]
            rfl
          refine p0_ 16 (some 105) (bm 17 131071) ?_
          refine done_ (by kernel_rfl) ?_
          try go_wp2
          go_meet
          case rel => exact ⟨by first | rfl | (rw [hsb2]), LS.out⟩
        case true =>
          obtain ⟨ta, tb, f1, f2, f3⟩ := S5.out rfl rfl
          have T1 := Aside0.mk f1
          have T2 := Aside0.mk f2
          have hsb : (s != (ta.toList == tb.toList)) = false := by rw [f3]; simp
          have hsb2 : (!(s == (ta.toList == tb.toList))) = false := by rw [f3]; simp
          clear f1 f2 f3
          have hs := LS.out.drew
          refine start_ (n := 17) (S := fun w' => w'.cell? ⟨ga, 0, none⟩ = some (.int .i64 a0) ∧ w'.cell? ⟨ga, 1, none⟩ = some (.int .i64 a1) ∧ w'.cell? ⟨ga, 2, none⟩ = some (.int .i64 a2) ∧ w'.cell? ⟨ga, 3, none⟩ = some (.int .i64 a3) ∧ w'.cell? ⟨ga, 4, none⟩ = some (.int .i64 a4) ∧ w'.cell? ⟨ga, 5, none⟩ = some (.int .i64 a5) ∧ w'.cell? ⟨ga, 6, none⟩ = some (.string a6) ∧ w'.cell? ⟨ga, 7, none⟩ = some (.slice Aa la.length ca) ∧ w'.cell? ⟨ga, 8, none⟩ = some (.int .i64 a8) ∧ w'.cell? ⟨gb, 0, none⟩ = some (.int .i64 b0) ∧ w'.cell? ⟨gb, 1, none⟩ = some (.int .i64 b1) ∧ w'.cell? ⟨gb, 2, none⟩ = some (.int .i64 b2) ∧ w'.cell? ⟨gb, 3, none⟩ = some (.int .i64 b3) ∧ w'.cell? ⟨gb, 4, none⟩ = some (.int .i64 b4) ∧ w'.cell? ⟨gb, 5, none⟩ = some (.int .i64 b5) ∧ w'.cell? ⟨gb, 6, none⟩ = some (.string b6) ∧ w'.cell? ⟨gb, 7, none⟩ = some (.slice Ab lb.length cb) ∧ w'.cell? ⟨gb, 8, none⟩ = some (.int .i64 b8)) (ds := []) #[false, false, false, false, false, false, false, false, false, false, false, false, false, false, false, false, false] (by kernel_rfl) rfl rfl (hs.cab) (fun hHeld => ?_)
          generalize World.drew _ = W12 at hs hHeld ⊢
          clear LS
          have LS := Aside0.mk hs
          clear hs
          refine t_ 0 (some 89) (bm 17 1) (by kernel_rfl) hHeld ?_
          refine one_ (i := 1) (N := some 90) (bm 17 3) rfl rfl (by kernel_rfl) (by decide) (fun K hK => ?_)
          refine gs_ Try.func15 #[.agg #[.int .i64 a0, .int .i64 a1, .int .i64 a2, .int .i64 a3, .int .i64 a4, .int .i64 a5, .string a6, .slice Aa la.length ca, .int .i64 a8]] ?_
          with_reducible refine Calls.mono (spec_EventRight.calls ks a0 a1 a2 a3 a4 a5 a6 Aa ca la a8 true _ LS.out.ra.r LS.out.ra.c S3.out) ?_
          rintro e W12_1 ⟨rfl, hb⟩
          refine ⟨_, rfl, ?_⟩
          have LS_ := Aside0.mk (LS.out.below hb)
          clear LS hb
          have LS := LS_
          clear LS_
          refine hK.out _ _ (LS.out.cab) (fun hHeld => ?_)
          clear hK K
          refine n_ (some 90) ?_
          refine p0_ 2 (some 91) (bm 17 7) ?_
          refine t_ 3 (some 92) (bm 17 15) (by kernel_rfl) hHeld ?_
          refine one_ (i := 4) (N := some 93) (bm 17 31) rfl rfl (by kernel_rfl) (by decide) (fun K hK => ?_)
          refine gs_ Try.func15 #[.agg #[.int .i64 b0, .int .i64 b1, .int .i64 b2, .int .i64 b3, .int .i64 b4, .int .i64 b5, .string b6, .slice Ab lb.length cb, .int .i64 b8]] ?_
          with_reducible refine Calls.mono (spec_EventRight.calls ks b0 b1 b2 b3 b4 b5 b6 Ab cb lb b8 true _ LS.out.rb.r LS.out.rb.c S4.out) ?_
          rintro e W12_4 ⟨rfl, hb⟩
          refine ⟨_, rfl, ?_⟩
          have LS_ := Aside0.mk (LS.out.below hb)
          clear LS hb
          have LS := LS_
          clear LS_
          refine hK.out _ _ (LS.out.cab) (fun hHeld => ?_)
          clear hK K
          refine n_ (some 93) ?_
          refine p0_ 5 (some 94) (bm 17 63) ?_
          refine p0_ 6 (some 95) (bm 17 127) ?_
          refine t_ 7 (some 96) (bm 17 255) (by kernel_rfl) hHeld ?_
          refine t_ 8 (some 97) (bm 17 511) (by kernel_rfl) hHeld ?_
          refine t_ 10 (some 99) (bm 17 1535) (by kernel_rfl) hHeld ?_
          refine t_ 12 (some 101) (bm 17 5631) (by kernel_rfl) hHeld ?_
          refine one_ (i := 9) (N := some 98) (bm 17 6143) rfl rfl (by kernel_rfl) (by decide) (fun K hK => ?_)
          refine gs_ Try.func12 #[.agg #[.int .i64 a0, .int .i64 a1, .int .i64 a2, .int .i64 a3, .int .i64 a4, .int .i64 a5, .string a6, .slice Aa la.length ca, .int .i64 a8], .agg #[.int .i64 b0, .int .i64 b1, .int .i64 b2, .int .i64 b3, .int .i64 b4, .int .i64 b5, .string b6, .slice Ab lb.length cb, .int .i64 b8]] ?_
          with_reducible refine Calls.mono (impl_SameEvent.calls ks a0 a1 a2 a3 a4 a5 a6 Aa ca la a8 b0 b1 b2 b3 b4 b5 b6 Ab cb lb b8 s _ LS.out.ra.r LS.out.ra.c LS.out.rb.r LS.out.rb.c S1.out) ?_
          rintro e W12_9 ⟨rfl, hb⟩
          refine ⟨_, rfl, ?_⟩
          have LS_ := Aside0.mk (LS.out.below hb)
          clear LS hb
          have LS := LS_
          clear LS_
          refine hK.out _ _ (LS.out.cab) (fun hHeld => ?_)
          clear hK K
          refine n_ (some 98) ?_
          refine one_ (i := 11) (N := some 100) (bm 17 8191) rfl rfl (by kernel_rfl) (by decide) (fun K hK => ?_)
          refine gs_ Try.func5 #[.agg #[.int .i64 a0, .int .i64 a1, .int .i64 a2, .int .i64 a3, .int .i64 a4, .int .i64 a5, .string a6, .slice Aa la.length ca, .int .i64 a8]] ?_
          with_reducible refine Calls.mono (impl_EventBytes.calls ks a0 a1 a2 a3 a4 a5 a6 Aa ca la a8 ta _ LS.out.ra.r LS.out.ra.c T1.out) ?_
          rintro e W12_11 ⟨rfl, hb⟩
          refine ⟨_, rfl, ?_⟩
          have LS_ := Aside0.mk (LS.out.below hb)
          clear LS hb
          have LS := LS_
          clear LS_
          refine hK.out _ _ (LS.out.cab) (fun hHeld => ?_)
          clear hK K
          refine n_ (some 100) ?_
          refine one_ (i := 13) (N := some 102) (bm 17 16383) rfl rfl (by kernel_rfl) (by decide) (fun K hK => ?_)
          refine gs_ Try.func5 #[.agg #[.int .i64 b0, .int .i64 b1, .int .i64 b2, .int .i64 b3, .int .i64 b4, .int .i64 b5, .string b6, .slice Ab lb.length cb, .int .i64 b8]] ?_
          with_reducible refine Calls.mono (impl_EventBytes.calls ks b0 b1 b2 b3 b4 b5 b6 Ab cb lb b8 tb _ LS.out.rb.r LS.out.rb.c T2.out) ?_
          rintro e W12_13 ⟨rfl, hb⟩
          refine ⟨_, rfl, ?_⟩
          have LS_ := Aside0.mk (LS.out.below hb)
          clear LS hb
          have LS := LS_
          clear LS_
          refine hK.out _ _ (LS.out.cab) (fun hHeld => ?_)
          clear hK K
          refine n_ (some 102) ?_
          refine p0_ 14 (some 103) (bm 17 32767) ?_
          refine p0_ 15 (some 104) (bm 17 65535) ?_
          refine p0_ 16 (some 105) (bm 17 131071) ?_
          refine done_ (by kernel_rfl) ?_
          try go_wp2
          go_meet
          case rel => exact ⟨by first | rfl | (rw [hsb2]), LS.out⟩
    case rest =>
      clear LS
      obtain ⟨rfl, hs⟩ := hcut
      have LS := Aside0.mk hs
      clear hs
      by_cases g3 : t.toList = []
      · have en : (⟨#[]⟩ : ByteArray).toList = [] := by unfold ByteArray.toList; unfold ByteArray.toList.loop; rfl
        have g3b0 : (t.toList == []) = true := by rw [g3]; rfl
        have g3b1 : (t.toList == (⟨#[]⟩ : ByteArray).toList) = true := by rw [g3, en]; rfl
        go_wp2
        go_ret
        exact ⟨rfl, LS.out.hb⟩
      · have en : (⟨#[]⟩ : ByteArray).toList = [] := by unfold ByteArray.toList; unfold ByteArray.toList.loop; rfl
        have g3b0 : (t.toList == []) = false := by cases hs_ : t.toList with | nil => exact absurd hs_ g3 | cons _ _ => rfl
        have g3b1 : (t.toList == (⟨#[]⟩ : ByteArray).toList) = false := by rw [en]; exact g3b0
        have f0 := E8.out g3
        clear g3
        obtain ⟨at_, v, y0, y1, y2, y3, y4, y5, y6, ly, y8, yc, z0, z1, z2, z3, z4, z5, z6, lz, z8, q1, q2, hn, q3, q4, q5⟩ := f0
        have Q1 := Aside0.mk q1
        have Q2 := Aside0.mk q2
        have Q3 := Aside0.mk q3
        have Q4 := Aside0.mk q4
        have Q5 := Aside0.mk q5
        clear q1 q2 q3 q4 q5
        have p1 : 0 ≤ at_ := hn.1
        have p2 : at_ < (t.size : Int) := hn.2
        have HN : Aside0 (at_.toNat < (bytesOf t).length) := ⟨by rw [bytesOf_length]; omega⟩
        have e1_ := eq_true p1
        have e2_ := eq_true p2
        have e1b : decide (0 ≤ at_) = true := decide_eq_true p1
        have e2b : decide (at_ < (t.size : Int)) = true := decide_eq_true p2
        clear p1 p2 hn
        have kb := fun W => print_bytes (P := Try.prog) 9 22 5 Try.underlying9 Try.underlying22 Try.underlying5 t W
        go_upto_region 16 with fail
        generalize hW : wc = W16 at LS ⊢
        clear hW
        go_upto_region 18 with (first | (rw [kb]) | (go_at_call 18; with_reducible refine Calls.mono (laws_lwAt.calls _ _ l1 0 (t.size : Int) at_ _ (Kd.C_below (Kd.C_below HR1.out LS.out.hb) (bytes_below (Below.refl _ _) (Nat.le_refl _) 5 t)) HC1.out Q1.out) ?_; rintro e W17 ⟨rfl, hb⟩; have HX := Aside0.mk (below_step (bytes_below (Below.refl W16.heap.size W16) (Nat.le_refl _) 5 t) hb.below); have HO := Aside0.mk (laws_FnEvent.row_below (laws_FnEvent.row_new W16 t E7.out) hb.below); clear hb))
        have HO_ := Aside0.mk (laws_FnEvent.row_drew HO.out)
        have HX_ := Aside0.mk (below_drew1 HX.out)
        clear HO HX
        have HO := HO_
        have HX := HX_
        clear HO_ HX_
        refine start_ (n := 13) (S := fun w' => w'.cell? ⟨W16.heap.size, at_.toNat, none⟩ = some (.int .u8 ((bytesOf t).getD at_.toNat 0))) (ds := [12]) #[false, false, false, false, false, false, false, false, false, false, false, false, false] (by kernel_rfl) rfl rfl ((laws_FnEvent.row_cell HO.out HN.out)) (fun hHeld => ?_)
        generalize World.drew _ = W18 at HO HX hHeld ⊢
        refine pure_ (i := 0) (N := some 114) (v := ?_) (a' := ?_) #[true, false, false, false, false, false, false, false, false, false, false, false, false] rfl rfl (by kernel_rfl) (fun _ _ _ h => h) (Or.inl ⟨by rfl, ?_⟩) ?_ ?_
        rotate_left
        · intro w'
          go_simp
          with_reducible rfl
        rotate_left
        · simp only [Act.put, List.setIfInBounds_toArray, List.set_cons_zero, List.set_cons_succ, i64_w, i32_w]
          rfl
        refine pure_ (i := 1) (N := some 115) (v := ?_) (a' := ?_) #[true, true, false, false, false, false, false, false, false, false, false, false, false] rfl rfl (by kernel_rfl) (fun _ _ _ h => h) (Or.inl ⟨by rfl, ?_⟩) ?_ ?_
        rotate_left
        · intro w'
          go_simp
          with_reducible rfl
        rotate_left
        · simp only [Act.put, List.setIfInBounds_toArray, List.set_cons_zero, List.set_cons_succ, i64_w, i32_w]
          rfl
        refine pure_ (i := 2) (N := some 116) (v := ?_) (a' := ?_) #[true, true, true, false, false, false, false, false, false, false, false, false, false] rfl rfl (by kernel_rfl) (fun _ _ _ h => h) (Or.inl ⟨by rfl, ?_⟩) ?_ ?_
        rotate_left
        · intro w'
          go_simp
          with_reducible rfl
        rotate_left
        · simp only [Act.put, List.setIfInBounds_toArray, List.set_cons_zero, List.set_cons_succ, i64_w, i32_w]
          rfl
        refine pure_ (i := 3) (N := some 117) (v := ?_) (a' := ?_) #[true, true, true, true, false, false, false, false, false, false, false, false, false] rfl rfl (by kernel_rfl) (fun _ _ _ h => h) (Or.inl ⟨by rfl, ?_⟩) ?_ ?_
        rotate_left
        · intro w'
          go_simp
          with_reducible rfl
        rotate_left
        · simp only [Act.put, List.setIfInBounds_toArray, List.set_cons_zero, List.set_cons_succ, i64_w, i32_w]
          rfl
        refine pure_ (i := 4) (N := some 118) (v := ?_) (a' := ?_) #[true, true, true, true, true, false, false, false, false, false, false, false, false] rfl rfl (by kernel_rfl) (fun _ _ _ h => h) (Or.inl ⟨by rfl, ?_⟩) ?_ ?_
        rotate_left
        · intro w'
          go_simp
          with_reducible rfl
        rotate_left
        · simp only [Act.put, List.setIfInBounds_toArray, List.set_cons_zero, List.set_cons_succ, i64_w, i32_w]
          rfl
        refine pure_ (i := 6) (N := some 120) (v := ?_) (a' := ?_) #[true, true, true, true, true, false, true, false, false, false, false, false, false] rfl rfl (by kernel_rfl) (fun _ _ _ h => h) (Or.inl ⟨by rfl, ?_⟩) ?_ ?_
        rotate_left
        · intro w'
          go_simp
          with_reducible rfl
        rotate_left
        · simp only [Act.put, List.setIfInBounds_toArray, List.set_cons_zero, List.set_cons_succ, i64_w, i32_w]
          rfl
        refine take_ (i := 5) (N := some 119) (v := ?_) (a' := ?_) #[true, true, true, true, true, true, true, false, false, false, false, false, false] rfl rfl (by kernel_rfl) (fun _ _ _ h => h) (Or.inl ⟨by rfl, ?_⟩) hHeld ?_ ?_
        rotate_left
        · intro w' s0
          go_simp
          with_reducible rfl
        rotate_left
        · simp only [Act.put, List.setIfInBounds_toArray, List.set_cons_zero, List.set_cons_succ, i64_w, i32_w]
          rfl
        refine one_ (i := 7) (N := some 121) #[true, true, true, true, true, true, true, true, false, false, false, false, false] rfl rfl (by kernel_rfl) (by decide) (fun K hK => ?_)
        refine gs_ Try.func18 #[.slice A1 l1.length c1, .int .i64 1, .int .i64 255] ?_
        with_reducible refine Calls.mono (laws_lwAt.calls _ _ l1 1 255 v _ (Kd.C_below (Kd.C_below HR1.out LS.out.hb) HX.out) HC1.out Q2.out) ?_
        rintro e W18 ⟨rfl, hb⟩
        refine ⟨_, rfl, ?_⟩
        have HO_ := Aside0.mk (laws_FnEvent.row_below HO.out hb.below)
        have HX_ := Aside0.mk (below_step HX.out hb.below)
        clear HO HX hb
        have HO := HO_
        have HX := HX_
        clear HO_ HX_
        refine hK.out _ _ ((laws_FnEvent.row_cell HO.out HN.out)) (fun hHeld => ?_)
        clear hK K
        refine norm_ (a' := ?_) ?_ ?_
        rotate_left
        · show Act.put _ (some 121) _ = _
          simp only [Act.put, List.setIfInBounds_toArray, List.set_cons_zero, List.set_cons_succ, i64_w, i32_w]
          rfl
        refine pure_ (i := 8) (N := some 122) (v := ?_) (a' := ?_) #[true, true, true, true, true, true, true, true, true, false, false, false, false] rfl rfl (by kernel_rfl) (fun _ _ _ h => h) (Or.inl ⟨by rfl, ?_⟩) ?_ ?_
        rotate_left
        · intro w'
          go_simp
          with_reducible rfl
        rotate_left
        · simp only [Act.put, List.setIfInBounds_toArray, List.set_cons_zero, List.set_cons_succ, i64_w, i32_w]
          rfl
        refine pure_ (i := 9) (N := some 123) (v := ?_) (a' := ?_) #[true, true, true, true, true, true, true, true, true, true, false, false, false] rfl rfl (by kernel_rfl) (fun _ _ _ h => h) (Or.inl ⟨by rfl, ?_⟩) ?_ ?_
        rotate_left
        · intro w'
          go_simp
          with_reducible rfl
        rotate_left
        · simp only [Act.put, List.setIfInBounds_toArray, List.set_cons_zero, List.set_cons_succ, i64_w, i32_w]
          rfl
        refine pure_ (i := 10) (N := some 124) (v := ?_) (a' := ?_) #[true, true, true, true, true, true, true, true, true, true, true, false, false] rfl rfl (by kernel_rfl) (fun _ _ _ h => h) (Or.inl ⟨by rfl, ?_⟩) ?_ ?_
        rotate_left
        · intro w'
          go_simp
          with_reducible rfl
        rotate_left
        · simp only [Act.put, List.setIfInBounds_toArray, List.set_cons_zero, List.set_cons_succ, i64_w, i32_w]
          rfl
        refine pure_ (i := 11) (N := some 125) (v := ?_) (a' := ?_) #[true, true, true, true, true, true, true, true, true, true, true, true, false] rfl rfl (by kernel_rfl) (fun _ _ _ h => h) (Or.inl ⟨by rfl, ?_⟩) ?_ ?_
        rotate_left
        · intro w'
          go_simp
          with_reducible rfl
        rotate_left
        · simp only [Act.put, List.setIfInBounds_toArray, List.set_cons_zero, List.set_cons_succ, i64_w, i32_w]
          rfl
        refine last_ (i := 12) (N := none) #[true, true, true, true, true, true, true, true, true, true, true, true, true] rfl rfl (by kernel_rfl) (by decide) (fun K hK => ?_)
        refine skip_ (w1 := W18.setCell ⟨W16.heap.size, at_.toNat, none⟩ (.int .u8 (Go.bits .xor .u8 ((bytesOf t).getD at_.toNat 0) ((wrap64 (1 + v)) % 256)))) (by rfl) rfl ?_ ?_
        · have hcell := laws_FnEvent.row_cell HO.out HN.out
          have hfro := laws_FnEvent.row_frozen HO.out HN.out
          go_simp
          first | rfl | (rw [run_store]; simp [hcell, hfro]) | (simp [stored, hcell, hfro]; done)
        refine hK.out _ _ ?_
        clear hK K
        refine done_ (by kernel_rfl) ?_
        have HO_ := Aside0.mk (laws_FnEvent.row_set HO.out at_.toNat (Go.bits .xor .u8 ((bytesOf t).getD at_.toNat 0) ((wrap64 (1 + v)) % 256)))
        have HX_ := Aside0.mk (below_set (j := at_.toNat) (v := .int .u8 (Go.bits .xor .u8 ((bytesOf t).getD at_.toNat 0) ((wrap64 (1 + v)) % 256))) HX.out (Nat.le_refl _))
        clear HO HX
        have HO := HO_
        have HX := HX_
        clear HO_ HX_
        generalize World.setCell _ ⟨W16.heap.size, at_.toNat, none⟩ (.int .u8 (Go.bits .xor .u8 ((bytesOf t).getD at_.toNat 0) ((wrap64 (1 + v)) % 256))) = W19 at HO HX ⊢
        have LS_ := Aside0.mk (LS.out.below HX.out)
        clear LS HX
        have LS := LS_
        clear LS_
        go_upto_region 19 with fail
        have hfd30_0 : ∀ (k0_ k1_ k2_ k3_ k4_ k5_ k6_ k7_ k8_ k9_ : Value) (w_ : World), Go.Sem.run Try.prog (Instr.field 30 (Value.agg #[k0_, k1_, k2_, k3_, k4_, k5_, k6_, k7_, k8_, k9_]) 0) w_ = Result.ok (Value.agg #[k0_, k1_, k2_, k3_, k4_, k5_, k6_, k7_, k8_]) w_ := fun _ _ _ _ _ _ _ _ _ _ _ => by with_unfolding_all rfl
        have hfd30_1 : ∀ (k0_ k1_ k2_ k3_ k4_ k5_ k6_ k7_ k8_ k9_ : Value) (w_ : World), Go.Sem.run Try.prog (Instr.field 30 (Value.agg #[k0_, k1_, k2_, k3_, k4_, k5_, k6_, k7_, k8_, k9_]) 1) w_ = Result.ok k9_ w_ := fun _ _ _ _ _ _ _ _ _ _ _ => by with_unfolding_all rfl
        have hs := LS.out.drew
        have HO_ := Aside0.mk (laws_FnEvent.row_drew HO.out)
        clear HO
        have HO := HO_
        clear HO_
        refine start_ (n := 13) (S := fun w' => w'.cell? ⟨ge, 0, none⟩ = some (.int .i64 e0) ∧ w'.cell? ⟨ge, 1, none⟩ = some (.int .i64 e1) ∧ w'.cell? ⟨ge, 2, none⟩ = some (.int .i64 e2) ∧ w'.cell? ⟨ge, 3, none⟩ = some (.int .i64 e3) ∧ w'.cell? ⟨ge, 4, none⟩ = some (.int .i64 e4) ∧ w'.cell? ⟨ge, 5, none⟩ = some (.int .i64 e5) ∧ w'.cell? ⟨ge, 6, none⟩ = some (.string e6) ∧ w'.cell? ⟨ge, 7, none⟩ = some (.slice Ae le.length ce) ∧ w'.cell? ⟨ge, 8, none⟩ = some (.int .i64 e8)) (ds := []) #[false, false, false, false, false, false, false, false, false, false, false, false, false] (by kernel_rfl) rfl rfl (hs.cge) (fun hHeld => ?_)
        generalize World.drew _ = W20 at hs HO hHeld ⊢
        clear LS
        have LS := Aside0.mk hs
        clear hs
        refine p0_ 0 (some 126) (bm 13 1) ?_
        refine t_ 3 (some 129) (bm 13 9) (by kernel_rfl) hHeld ?_
        refine one_ (i := 1) (N := some 127) (bm 13 11) rfl rfl (by kernel_rfl) (by decide) (fun K hK => ?_)
        refine gs_ Try.func7 #[.string t] ?_
        with_reducible refine Calls.mono (impl_EventRead.calls ke t y0 y1 y2 y3 y4 y5 y6 ly y8 yc _ Q3.out) ?_
        rintro e W20 ⟨v7, rfl, ho, hb⟩
        refine ⟨_, rfl, ?_⟩
        obtain ⟨Aw, cw, er⟩ := Kd.R_slice ho
        subst er
        have RW := Aside0.mk (RwC.of ho)
        clear ho
        have LS_ := Aside0.mk (LS.out.below hb)
        have HO_ := Aside0.mk (laws_FnEvent.row_below HO.out hb)
        clear LS HO hb
        have LS := LS_
        have HO := HO_
        clear LS_ HO_
        refine hK.out _ _ (LS.out.cge) (fun hHeld => ?_)
        clear hK K
        refine n_ (some 127) ?_
        refine p0_ 2 (some 128) (bm 13 15) ?_
        refine one_ (i := 4) (N := some 130) (bm 13 31) rfl rfl (by kernel_rfl) (by decide) (fun K hK => ?_)
        refine gs_ Try.func11 #[.agg #[.int .i64 y0, .int .i64 y1, .int .i64 y2, .int .i64 y3, .int .i64 y4, .int .i64 y5, .string y6, .slice Aw ly.length cw, .int .i64 y8], .agg #[.int .i64 e0, .int .i64 e1, .int .i64 e2, .int .i64 e3, .int .i64 e4, .int .i64 e5, .string e6, .slice Ae le.length ce, .int .i64 e8]] ?_
        with_reducible refine Calls.mono (laws_lwEvent.calls ke y0 y1 y2 y3 y4 y5 y6 Aw cw ly y8 e0 e1 e2 e3 e4 e5 e6 Ae ce le e8 true _ RW.out.r RW.out.c LS.out.re.r LS.out.re.c Q4.out) ?_
        rintro e W21 ⟨rfl, hb⟩
        refine ⟨_, rfl, ?_⟩
        have LS_ := Aside0.mk (LS.out.below hb)
        have HO_ := Aside0.mk (laws_FnEvent.row_below HO.out hb)
        clear LS HO hb RW
        have LS := LS_
        have HO := HO_
        clear LS_ HO_
        refine hK.out _ _ (LS.out.cge) (fun hHeld => ?_)
        clear hK K
        refine n_ (some 130) ?_
        refine p0_ 5 (some 131) (bm 13 63) ?_
        refine p0_ 6 (some 132) (bm 13 127) ?_
        refine one_ (i := 7) (N := some 133) (bm 13 255) rfl rfl (by kernel_rfl) (by decide) (fun K hK => ?_)
        have ks := laws_FnEvent.back (c := grownCap W16 t.size 0 5) HO.out
        refine value_ (w1 := ?_) (v := ?_) (by rfl) rfl ?_ ?_
        rotate_left 2
        · go_simp
          constructor
          · rfl
          · rfl
        clear ks
        refine hK.out _ _ (LS.out.cge) (fun hHeld => ?_)
        clear hK K
        refine n_ (some 133) ?_
        refine one_ (i := 8) (N := some 134) (bm 13 511) rfl rfl (by kernel_rfl) (by decide) (fun K hK => ?_)
        refine gs_ Try.func7 #[.string (turned t at_.toNat v)] ?_
        with_reducible refine Calls.mono (impl_EventRead.calls ke (turned t at_.toNat v) z0 z1 z2 z3 z4 z5 z6 lz z8 5 _ Q5.out) ?_
        rintro e W22 ⟨v7, rfl, ho, hb⟩
        refine ⟨_, rfl, ?_⟩
        obtain ⟨Az, cz, er⟩ := Kd.R_slice ho
        subst er
        clear ho
        have LS_ := Aside0.mk (LS.out.below hb)
        have HO_ := Aside0.mk (laws_FnEvent.row_below HO.out hb)
        clear LS HO hb
        have LS := LS_
        have HO := HO_
        clear LS_ HO_
        refine hK.out _ _ (LS.out.cge) (fun hHeld => ?_)
        clear hK K
        refine n_ (some 134) ?_
        refine p0_ 9 (some 135) (bm 13 1023) ?_
        refine p0_ 10 (some 136) (bm 13 2047) ?_
        refine p0_ 11 (some 137) (bm 13 4095) ?_
        refine p0_ 12 (some 4) (bm 13 8191) ?_
        refine done_ (by kernel_rfl) ?_
        try go_wp2
        go_ret
        exact ⟨rfl, LS.out.hb⟩
def laws_FnEvent.Pure : Prop := ∀ (l0 : List Int) (l1 : List Int), l0.length ≤ maxLen → l0.length * 1 ≤ 140737488351232 → (∀ x ∈ l0, (Lit.int .u8 x).wf = true) → l1.length ≤ maxLen → l1.length * 1 ≤ 140737488351232 → (∀ x ∈ l1, (Lit.int .u8 x).wf = true) → ¬ 1048576 < l0.length → ¬ 1048576 < l1.length → laws_FnEvent.Fact l1
theorem laws_FnEvent.walk (P : laws_FnEvent.Pure) (a0 : Option Addr) (len0 cap0 : Nat) (z0 : List Int) (a1 : Option Addr) (len1 cap1 : Nat) (z1 : List Int) (w : World) (w0 : (a0 = none ∧ len0 = 0 ∧ cap0 = 0 ∧ z0 = []) ∨ ∃ x, a0 = some x ∧ len0 ≤ cap0 ∧ cap0 ≤ maxLen ∧ z0.length = cap0 ∧ (∀ i, i < z0.length → w.cell? (x.add i) = some (.int .u8 (z0.getD i 0))) ∧ ∀ n ∈ z0, (Lit.int .u8 n).wf = true) (y0 : len0 * 1 ≤ 140737488351232) (w1 : (a1 = none ∧ len1 = 0 ∧ cap1 = 0 ∧ z1 = []) ∨ ∃ x, a1 = some x ∧ len1 ≤ cap1 ∧ cap1 ≤ maxLen ∧ z1.length = cap1 ∧ (∀ i, i < z1.length → w.cell? (x.add i) = some (.int .u8 (z1.getD i 0))) ∧ ∀ n ∈ z1, (Lit.int .u8 n).wf = true) (y1 : len1 * 1 ≤ 140737488351232) :
    Calls Try.prog 3 #[.slice a0 len0 cap0, .slice a1 len1 cap1] w fun e w' => e = .returned (.bool true) ∧ Below w.heap.size w w' := by
  obtain ⟨l0, rfl, hr0, hm0, hw0, hc0⟩ := ReadsInt.ofRowC w0
  obtain ⟨l1, rfl, hr1, hm1, hw1, hc1⟩ := ReadsInt.ofRowC w1
  have h := P l0 l1 hm0 y0 hw0 hm1 y1 hw1
  refine (laws_FnEvent.calls _ _ l0 _ _ l1 w (Kd.C_of_reads (d := (0 : Int)) (h1 := fun _ => rfl) hr0) hc0 (Kd.C_of_reads (d := (0 : Int)) (h1 := fun _ => rfl) hr1) hc1 h).mono ?_
  rintro e w' ⟨rfl, hd⟩
  exact ⟨rfl, hd⟩

end Go.Proofs.Yteimdbmfgojioaa.Print
