/- The law FnSeal walked by hand: a text turned to bytes, one byte turned, and back. -/
import Derived.Test.YtnmbpjfljfmfmaaPrint0
import Derived.Test.YtnmbpjfljfmfmaaPrint1
import Derived.Test.YtnmbpjfljfmfmaaPrint2
import Derived.Test.YtnmbpjfljfmfmaaPrint3
import Derived.Test.YtnmbpjfljfmfmaaPrint4
namespace Go.Proofs.Ytnmbpjfljfmfmaa.Print
open Go.RowKit Go.Proofs.YtnmbpjfljfmfmaaW.PrintWords Go.Proofs.YtnmbpjfljfmfmaaW.PrintLast Go.Proofs.YtnmbpjfljfmfmaaW.PrintMore
attribute [local go_sem] max2_int min2_int max_two min_two max_three min_three max_four min_four   -- for this text's walks alone
set_option linter.unusedVariables false
set_option linter.unusedSimpArgs false

/-! A row of bytes that a conversion made, read and written. -/
def laws_FnSeal.Row (w : World) (g : Nat) (xs : List Int) : Prop := ∃ cs : Array Value, w.heap[g]? = some (.cells cs 5 (cs.size, cs.size + 1)) ∧ xs.length ≤ cs.size ∧ xs.length ≤ 9223372036854775807 ∧ ∀ j, j < xs.length → cs[j]? = some (.int .u8 (xs.getD j 0))
theorem laws_FnSeal.row_new (w : World) (s : ByteArray) (hs : s.size ≤ 9223372036854775807) : laws_FnSeal.Row (Lib.bytesWorld w 5 s) w.heap.size (bytesOf s) := by
  have hge := grownCap_ge w s.size 0 5
  have hz : (Lib.bytesCells w 5 s).size = grownCap w s.size 0 5 := by
    unfold Lib.bytesCells
    rw [Array.size_append, Array.size_map, Array.size_replicate, ByteArray.size_data]; omega
  refine ⟨_, Lib.bytesWorld_at_new w 5 s, by rw [bytesOf_length]; omega, by rw [bytesOf_length]; exact hs, fun j hj => ?_⟩
  rw [bytesOf_length] at hj
  have h1 := Lib.bytesWorld_cell w 5 s j hj
  have h2 : (Lib.bytesWorld w 5 s).cell? ⟨w.heap.size, j, none⟩ = (Lib.bytesCells w 5 s)[j]? := by simp [World.cell?, Lib.bytesWorld_at_new w 5 s]
  rw [← h2, h1]
  have h' : j < s.data.toList.length := by rw [data_length]; exact hj
  simp [bytesOf, List.getD_eq_getElem?_getD, List.getElem?_eq_getElem h']
theorem laws_FnSeal.row_cell {w : World} {g : Nat} {xs : List Int} (h : laws_FnSeal.Row w g xs) {j : Nat} (hj : j < xs.length) : w.cell? ⟨g, j, none⟩ = some (.int .u8 (xs.getD j 0)) := by
  obtain ⟨cs, hg, _, _, hc⟩ := h
  simp only [World.cell?, hg]
  exact hc j hj
theorem laws_FnSeal.row_frozen {w : World} {g : Nat} {xs : List Int} (h : laws_FnSeal.Row w g xs) {j : Nat} (hj : j < xs.length) : w.frozen? ⟨g, j, none⟩ = false := by
  obtain ⟨cs, hg, hl, _, _⟩ := h
  simp only [World.frozen?, hg, Bool.and_eq_false_iff, decide_eq_false_iff_not]
  left; omega
theorem laws_FnSeal.row_set {w : World} {g : Nat} {xs : List Int} (h : laws_FnSeal.Row w g xs) (i : Nat) (z : Int) : laws_FnSeal.Row (w.setCell ⟨g, i, none⟩ (.int .u8 z)) g (xs.set i z) := by
  obtain ⟨cs, hg, hl, hm, hc⟩ := h
  refine ⟨cs.setIfInBounds i (.int .u8 z), ?_, by simpa using hl, by simpa using hm, fun j hj => ?_⟩
  · rw [setCell_eq_setRow w g i cs 5 _ _ hg, Array.size_setIfInBounds]
    exact setRow_heap w g cs _ 5 _ hg
  · rw [List.length_set] at hj
    by_cases e : i = j
    · subst e
      simp [Array.getElem?_setIfInBounds, List.getD_eq_getElem?_getD, hj, show i < cs.size by omega]
    · rw [Array.getElem?_setIfInBounds_ne e, hc j hj]
      simp [List.getD_eq_getElem?_getD, List.getElem?_set_ne e]
theorem laws_FnSeal.row_below {w w' : World} {g : Nat} {xs : List Int} (h : laws_FnSeal.Row w g xs) (hb : Below w.heap.size w w') : laws_FnSeal.Row w' g xs := by
  obtain ⟨cs, hg, rest⟩ := h
  exact ⟨cs, (hb.block g (Array.getElem?_eq_some_iff.1 hg).1).trans hg, rest⟩
theorem laws_FnSeal.row_drew {w : World} {g : Nat} {xs : List Int} (h : laws_FnSeal.Row w g xs) : laws_FnSeal.Row w.drew g xs := h
theorem laws_FnSeal.row_reads {w : World} {g : Nat} {xs : List Int} (h : laws_FnSeal.Row w g xs) : ReadsInt w .u8 (some ⟨g, 0, none⟩) xs.length xs := by
  have h0 := h
  obtain ⟨cs, hg, hl, hm, hc⟩ := h
  refine ⟨rfl, hm, fun _ => ⟨_, rfl, fun j hj => ?_⟩⟩
  rw [add_plain]
  exact laws_FnSeal.row_cell h0 hj
/-- A text with one byte turned. -/
def turned (s : ByteArray) (i : Nat) (q : Int) : ByteArray := strOfNums ((bytesOf s).set i (Go.bits .xor .u8 ((bytesOf s).getD i 0) ((wrap64 (1 + q)) % 256)))
/-- What the walk of the law is told: all its calls' answers. -/
def laws_FnSeal.Fact (l0 l1 : List Int) : Prop := ¬ 1048576 < l0.length → ¬ 1048576 < l1.length → ∃ (k : Nat) (t s : ByteArray) (crc : Int) (u : ByteArray), spec_DrawSeal.f k l0 = some t ∧ impl_Seal.f k t = some s ∧ spec_Seal.f k t = some s ∧ s.size ≤ 9223372036854775807 ∧ (t.size ≤ 4294967296 ∧ u.size ≤ 4294967296 ∧ (s.toList ≠ [] → ∃ (at_ q : Int) (r1 : ByteArray) (r2 : Int), laws_lwAt.f l1 0 (s.size : Int) = some at_ ∧ laws_lwAt.f l1 1 255 = some q ∧ (0 ≤ at_ ∧ at_ < (s.size : Int)) ∧ impl_Unseal.f k s = some (t, 0, 0) ∧ impl_Unseal.f k (turned s at_.toNat q) = some (r1, r2, 5))) ∧ spec_DrawCrcMore.f k l1 = some (crc, u) ∧ (t.size + u.size ≤ 8000 → ∃ (c d e_ : Int), impl_CrcMore.f k crc u = some c ∧ spec_CrcMore.f k crc u = some c ∧ impl_Crc.f k t = some d ∧ impl_CrcMore.f k d u = some e_ ∧ impl_Crc.f k (t ++ u) = some e_)
theorem laws_FnSeal.back {w : World} {g c : Nat} {s : ByteArray} {i : Nat} {q : Int} (h : laws_FnSeal.Row w g ((bytesOf s).set i (Go.bits .xor .u8 ((bytesOf s).getD i 0) ((wrap64 (1 + q)) % 256)))) : (convert 22 9 (.slice (some ⟨g, 0, none⟩) s.size c)).run Try.prog w = .ok (.string (turned s i q)) w := by
  have hr := laws_FnSeal.row_reads h
  rw [List.length_set, bytesOf_length] at hr
  exact string_of_reads (P := Try.prog) (src := 22) (e := 5) (dst := 9) (c := c) Try.underlying22 Try.underlying5 Try.underlying9 hr
set_option maxHeartbeats 8000000 in
set_option maxRecDepth 100000 in
theorem laws_FnSeal.calls (A0 : Option Addr) (c0 : Nat) (l0 : List Int) (A1 : Option Addr) (c1 : Nat) (l1 : List Int) (w : World) (hr0 : Kd.C (Kd.int .u8) w A0 l0.length l0) (hc0 : l0.length ≤ c0) (hr1 : Kd.C (Kd.int .u8) w A1 l1.length l1) (hc1 : l1.length ≤ c1) (h : laws_FnSeal.Fact l0 l1) :
    Calls Try.prog 4 #[.slice A0 l0.length c0, .slice A1 l1.length c1] w fun e w' => e = .returned (.bool true) ∧ Below w.heap.size w w' := by
  have hu31 := Try.underlying31
  have hfd31_2 : ∀ (x0_ x1_ x2_ : Value) (w_ : World), Go.Sem.run Try.prog (Instr.field 31 (Value.agg #[x0_, x1_, x2_]) 2) w_ = Result.ok x2_ w_ := fun _ _ _ _ => by with_unfolding_all rfl
  have HR0 := Aside0.mk hr0
  have HC0 := Aside0.mk hc0
  clear hr0 hc0
  have HR1 := Aside0.mk hr1
  have HC1 := Aside0.mk hc1
  clear hr1 hc1
  have HB := Aside0.mk (Below.refl w.heap.size w)
  by_cases g1 : 1048576 < l0.length
  · have g1b0 : decide (1048576 < (l0.length : Int)) = true := decide_eq_true (by omega)
    have g1b1 : decide (1048576 < l0.length) = true := decide_eq_true g1
    go_enter Try.func4, Try.ntmps4
    go_wp2
    go_ret
    exact ⟨rfl, HB.out⟩
  have g1b0 : decide (1048576 < (l0.length : Int)) = false := decide_eq_false (by omega)
  have g1b1 : decide (1048576 < l0.length) = false := decide_eq_false g1
  by_cases g2 : 1048576 < l1.length
  · have g2b0 : decide (1048576 < (l1.length : Int)) = true := decide_eq_true (by omega)
    have g2b1 : decide (1048576 < l1.length) = true := decide_eq_true g2
    go_enter Try.func4, Try.ntmps4
    go_wp2
    go_ret
    exact ⟨rfl, HB.out⟩
  have g2b0 : decide (1048576 < (l1.length : Int)) = false := decide_eq_false (by omega)
  have g2b1 : decide (1048576 < l1.length) = false := decide_eq_false g2
  obtain ⟨k, t, s, crc, u, a1, a2, a3, hsz, hT0, a4, hU0⟩ := h g1 g2
  clear h
  have hT := Aside0.mk hT0
  have hU := Aside0.mk hU0
  clear hT0 hU0
  have F1 := Aside0.mk a1; have F2 := Aside0.mk a2; have F3 := Aside0.mk a3; have F4 := Aside0.mk a4
  clear a1 a2 a3 a4
  have cs0 : (s.toList == s.toList) = true := by simp
  have cs1 : (s.toList != s.toList) = false := by simp
  have ht0 : t.size ≤ 4294967296 := hT.out.1
  have hu0 : u.size ≤ 4294967296 := hT.out.2.1
  by_cases g3 : s.toList = []
  · have en : (⟨#[]⟩ : ByteArray).toList = [] := by unfold ByteArray.toList; unfold ByteArray.toList.loop; rfl
    have g3b0 : (s.toList == []) = true := by rw [g3]; rfl
    have g3b1 : (s.toList == (⟨#[]⟩ : ByteArray).toList) = true := by rw [g3, en]; rfl
    have g3b2 : (s.toList != (⟨#[]⟩ : ByteArray).toList) = false := by rw [g3, en]; rfl
    go_enter Try.func4, Try.ntmps4
    by_cases c8 : 8000 < (t.size : Int) + (u.size : Int)
    · have c8b0 : decide (8000 < (t.size : Int) + (u.size : Int)) = true := decide_eq_true c8
      have c8b1 : decide (8000 < t.size + u.size) = true := decide_eq_true (by omega)
      have c8b2 : decide (8000 < wrap64 ((t.size : Int) + (u.size : Int))) = true := decide_eq_true (by unfold wrap64; omega)
      have c8b3 : decide (wrap64 ((t.size : Int) + (u.size : Int)) > 8000) = true := c8b2
      go_wp2_with (first | (go_at_call 13; (with_reducible refine (spec_DrawSeal.calls k _ _ l0 t _ ?side1 ?side2 F1.out).mono ?_); (case side1 => repeat (first | exact (Kd.C_below HR0.out HB.out) | (with_reducible refine Kd.C_alloc ?_ _) | (with_reducible refine Kd.C_drewN ?_ _) | (with_reducible refine Kd.C_drew ?_))); (case side2 => exact HC0.out); rintro e w1 ⟨rfl, hb⟩; have n0_ := Aside0.mk (below_step HB.out (by first | exact hb | exact hb.below)); clear HB; have HB := n0_; clear n0_; (try clear hb)) | (go_at_call 14; (with_reducible refine (impl_Seal.calls k t s _ F2.out).mono ?_); rintro e w2 ⟨rfl, hb⟩; have n0_ := Aside0.mk (below_step HB.out (by first | exact hb | exact hb.below)); clear HB; have HB := n0_; clear n0_; (try clear hb)) | (go_at_call 15; (with_reducible refine (spec_Seal.calls k t s _ F3.out).mono ?_); rintro e w3 ⟨rfl, hb⟩; have n0_ := Aside0.mk (below_step HB.out (by first | exact hb | exact hb.below)); clear HB; have HB := n0_; clear n0_; (try clear hb)) | (go_at_call 18; (with_reducible refine (spec_DrawCrcMore.calls k _ _ l1 crc u _ ?side1 ?side2 F4.out).mono ?_); (case side1 => repeat (first | exact (Kd.C_below HR1.out HB.out) | (with_reducible refine Kd.C_alloc ?_ _) | (with_reducible refine Kd.C_drewN ?_ _) | (with_reducible refine Kd.C_drew ?_))); (case side2 => exact HC1.out); rintro e w4 ⟨rfl, hb⟩; have n0_ := Aside0.mk (below_step HB.out (by first | exact hb | exact hb.below)); clear HB; have HB := n0_; clear n0_; (try clear hb)))
      go_ret
      exact ⟨rfl, HB.out⟩
    · have c8b0 : decide (8000 < (t.size : Int) + (u.size : Int)) = false := decide_eq_false c8
      have c8b1 : decide (8000 < t.size + u.size) = false := decide_eq_false (by omega)
      have c8b2 : decide (8000 < wrap64 ((t.size : Int) + (u.size : Int))) = false := decide_eq_false (by unfold wrap64; omega)
      have c8b3 : decide (wrap64 ((t.size : Int) + (u.size : Int)) > 8000) = false := c8b2
      obtain ⟨c, d, e_, b1, b2, b3, b4, b5⟩ := hU.out (by omega)
      have B1 := Aside0.mk b1; have B2 := Aside0.mk b2; have B3 := Aside0.mk b3; have B4 := Aside0.mk b4; have B5 := Aside0.mk b5
      clear b1 b2 b3 b4 b5
      have ccb : (c == c) = true := by simp
      have ceb : (e_ == e_) = true := by simp
      have zb : decide (t.size + u.size ≤ 9223372036854775807) = true := decide_eq_true (by omega)
      have zb2 : (9223372036854775807 < t.size + u.size) = False := eq_false (by omega)
      go_wp2_with (first | (go_at_call 13; (with_reducible refine (spec_DrawSeal.calls k _ _ l0 t _ ?side1 ?side2 F1.out).mono ?_); (case side1 => repeat (first | exact (Kd.C_below HR0.out HB.out) | (with_reducible refine Kd.C_alloc ?_ _) | (with_reducible refine Kd.C_drewN ?_ _) | (with_reducible refine Kd.C_drew ?_))); (case side2 => exact HC0.out); rintro e w1 ⟨rfl, hb⟩; have n0_ := Aside0.mk (below_step HB.out (by first | exact hb | exact hb.below)); clear HB; have HB := n0_; clear n0_; (try clear hb)) | (go_at_call 14; (with_reducible refine (impl_Seal.calls k t s _ F2.out).mono ?_); rintro e w2 ⟨rfl, hb⟩; have n0_ := Aside0.mk (below_step HB.out (by first | exact hb | exact hb.below)); clear HB; have HB := n0_; clear n0_; (try clear hb)) | (go_at_call 15; (with_reducible refine (spec_Seal.calls k t s _ F3.out).mono ?_); rintro e w3 ⟨rfl, hb⟩; have n0_ := Aside0.mk (below_step HB.out (by first | exact hb | exact hb.below)); clear HB; have HB := n0_; clear n0_; (try clear hb)) | (go_at_call 18; (with_reducible refine (spec_DrawCrcMore.calls k _ _ l1 crc u _ ?side1 ?side2 F4.out).mono ?_); (case side1 => repeat (first | exact (Kd.C_below HR1.out HB.out) | (with_reducible refine Kd.C_alloc ?_ _) | (with_reducible refine Kd.C_drewN ?_ _) | (with_reducible refine Kd.C_drew ?_))); (case side2 => exact HC1.out); rintro e w4 ⟨rfl, hb⟩; have n0_ := Aside0.mk (below_step HB.out (by first | exact hb | exact hb.below)); clear HB; have HB := n0_; clear n0_; (try clear hb)) | (go_at_call 19; (with_reducible refine (impl_CrcMore.calls k crc u c _ B1.out).mono ?_); rintro e w5 ⟨rfl, hb⟩; have n0_ := Aside0.mk (below_step HB.out (by first | exact hb | exact hb.below)); clear HB; have HB := n0_; clear n0_; (try clear hb)) | (go_at_call 20; (with_reducible refine (spec_CrcMore.calls k crc u c _ B2.out).mono ?_); rintro e w6 ⟨rfl, hb⟩; have n0_ := Aside0.mk (below_step HB.out (by first | exact hb | exact hb.below)); clear HB; have HB := n0_; clear n0_; (try clear hb)) | (go_at_call 21; (with_reducible refine (impl_Crc.calls k t d _ B3.out).mono ?_); rintro e w7 ⟨rfl, hb⟩; have n0_ := Aside0.mk (below_step HB.out (by first | exact hb | exact hb.below)); clear HB; have HB := n0_; clear n0_; (try clear hb)) | (go_at_call 19; (with_reducible refine (impl_CrcMore.calls k d u e_ _ B4.out).mono ?_); rintro e w8 ⟨rfl, hb⟩; have n0_ := Aside0.mk (below_step HB.out (by first | exact hb | exact hb.below)); clear HB; have HB := n0_; clear n0_; (try clear hb)) | (go_at_call 21; (with_reducible refine (impl_Crc.calls k (t ++ u) e_ _ B5.out).mono ?_); rintro e w9 ⟨rfl, hb⟩; have n0_ := Aside0.mk (below_step HB.out (by first | exact hb | exact hb.below)); clear HB; have HB := n0_; clear n0_; (try clear hb)))
      go_ret
      exact ⟨rfl, HB.out⟩
  · have en : (⟨#[]⟩ : ByteArray).toList = [] := by unfold ByteArray.toList; unfold ByteArray.toList.loop; rfl
    have g3b0 : (s.toList == []) = false := by cases hs_ : s.toList with | nil => exact absurd hs_ g3 | cons _ _ => rfl
    have g3b1 : (s.toList == (⟨#[]⟩ : ByteArray).toList) = false := by rw [en]; exact g3b0
    have g3b2 : (s.toList != (⟨#[]⟩ : ByteArray).toList) = true := by rw [en]; exact bne_iff_ne.mpr g3
    obtain ⟨at_, q, r1, r2, q1, q2, hn, q3, q4⟩ := hT.out.2.2 g3
    have Q1 := Aside0.mk q1; have Q2 := Aside0.mk q2; have Q3 := Aside0.mk q3; have Q4 := Aside0.mk q4
    clear q1 q2 q3 q4
    have p1 : 0 ≤ at_ := hn.1
    have p2 : at_ < (s.size : Int) := hn.2
    have HN : Aside0 (at_.toNat < (bytesOf s).length) := ⟨by rw [bytesOf_length]; omega⟩
    have e1 := eq_true p1
    have e2 := eq_true p2
    have e1b : decide (0 ≤ at_) = true := decide_eq_true p1
    have e2b : decide (at_ < (s.size : Int)) = true := decide_eq_true p2
    clear p1 p2 hn
    have kb := fun W => print_bytes (P := Try.prog) 9 22 5 Try.underlying9 Try.underlying22 Try.underlying5 s W
    go_enter Try.func4, Try.ntmps4
    go_wp2_with (first | (go_at_call 13; (with_reducible refine (spec_DrawSeal.calls k _ _ l0 t _ ?side1 ?side2 F1.out).mono ?_); (case side1 => repeat (first | exact (Kd.C_below HR0.out HB.out) | (with_reducible refine Kd.C_alloc ?_ _) | (with_reducible refine Kd.C_drewN ?_ _) | (with_reducible refine Kd.C_drew ?_))); (case side2 => exact HC0.out); rintro e w1 ⟨rfl, hb⟩; have n0_ := Aside0.mk (below_step HB.out (by first | exact hb | exact hb.below)); clear HB; have HB := n0_; clear n0_; (try clear hb)) | (go_at_call 14; (with_reducible refine (impl_Seal.calls k t s _ F2.out).mono ?_); rintro e w2 ⟨rfl, hb⟩; have n0_ := Aside0.mk (below_step HB.out (by first | exact hb | exact hb.below)); clear HB; have HB := n0_; clear n0_; (try clear hb)) | (go_at_call 15; (with_reducible refine (spec_Seal.calls k t s _ F3.out).mono ?_); rintro e w3 ⟨rfl, hb⟩; have n0_ := Aside0.mk (below_step HB.out (by first | exact hb | exact hb.below)); clear HB; have HB := n0_; clear n0_; (try clear hb)) | (rw [kb]) | (go_at_call 16; have HG := Aside0.mk (below_size HB.out); have HBc := Aside0.mk (bytes_below HB.out (below_size HB.out) 5 s); have HO_ := Aside0.mk (laws_FnSeal.row_new w3 s hsz); (with_reducible refine (laws_lwAt.calls _ _ l1 0 (s.size : Int) at_ _ ?side1 ?side2 Q1.out).mono ?_); (case side1 => exact (Kd.C_below HR1.out HBc.out)); (case side2 => exact HC1.out); rintro e w4 ⟨rfl, hb⟩; have HO := Aside0.mk (laws_FnSeal.row_below HO_.out hb.below); have n0_ := Aside0.mk (below_step HBc.out hb.below); clear HB; have HB := n0_; clear n0_ hb))
    have HO1_ := Aside0.mk (laws_FnSeal.row_drew HO.out)
    have HB1_ := Aside0.mk (below_drew1 HB.out)
    clear HO HB
    have HO := HO1_
    have HB := HB1_
    clear HO1_ HB1_
    -- REGION
    refine start_ (n := 13) (S := fun w' => w'.cell? ⟨w3.heap.size, at_.toNat, none⟩ = some (.int .u8 ((bytesOf s).getD at_.toNat 0))) (ds := [12]) #[false, false, false, false, false, false, false, false, false, false, false, false, false] (by kernel_rfl) rfl rfl ((laws_FnSeal.row_cell HO.out HN.out)) (fun hHeld => ?_)
    generalize w4.drew = w4' at HO HB hHeld ⊢
    refine pure_ (i := 0) (N := some 35) (v := ?_) (a' := ?_) #[true, false, false, false, false, false, false, false, false, false, false, false, false] rfl rfl (by kernel_rfl) (fun _ _ _ h => h) (Or.inl ⟨by rfl, ?_⟩) ?_ ?_
    rotate_left
    · intro w'
      go_simp
      with_reducible rfl
    rotate_left
    · simp only [Act.put, List.setIfInBounds_toArray, List.set_cons_zero, List.set_cons_succ, i64_w, i32_w]
      rfl
    refine pure_ (i := 1) (N := some 36) (v := ?_) (a' := ?_) #[true, true, false, false, false, false, false, false, false, false, false, false, false] rfl rfl (by kernel_rfl) (fun _ _ _ h => h) (Or.inl ⟨by rfl, ?_⟩) ?_ ?_
    rotate_left
    · intro w'
      go_simp
      with_reducible rfl
    rotate_left
    · simp only [Act.put, List.setIfInBounds_toArray, List.set_cons_zero, List.set_cons_succ, i64_w, i32_w]
      rfl
    refine pure_ (i := 2) (N := some 37) (v := ?_) (a' := ?_) #[true, true, true, false, false, false, false, false, false, false, false, false, false] rfl rfl (by kernel_rfl) (fun _ _ _ h => h) (Or.inl ⟨by rfl, ?_⟩) ?_ ?_
    rotate_left
    · intro w'
      go_simp
      with_reducible rfl
    rotate_left
    · simp only [Act.put, List.setIfInBounds_toArray, List.set_cons_zero, List.set_cons_succ, i64_w, i32_w]
      rfl
    refine pure_ (i := 3) (N := some 38) (v := ?_) (a' := ?_) #[true, true, true, true, false, false, false, false, false, false, false, false, false] rfl rfl (by kernel_rfl) (fun _ _ _ h => h) (Or.inl ⟨by rfl, ?_⟩) ?_ ?_
    rotate_left
    · intro w'
      go_simp
      with_reducible rfl
    rotate_left
    · simp only [Act.put, List.setIfInBounds_toArray, List.set_cons_zero, List.set_cons_succ, i64_w, i32_w]
      rfl
    refine pure_ (i := 4) (N := some 39) (v := ?_) (a' := ?_) #[true, true, true, true, true, false, false, false, false, false, false, false, false] rfl rfl (by kernel_rfl) (fun _ _ _ h => h) (Or.inl ⟨by rfl, ?_⟩) ?_ ?_
    rotate_left
    · intro w'
      go_simp
      with_reducible rfl
    rotate_left
    · simp only [Act.put, List.setIfInBounds_toArray, List.set_cons_zero, List.set_cons_succ, i64_w, i32_w]
      rfl
    refine pure_ (i := 6) (N := some 41) (v := ?_) (a' := ?_) #[true, true, true, true, true, false, true, false, false, false, false, false, false] rfl rfl (by kernel_rfl) (fun _ _ _ h => h) (Or.inl ⟨by rfl, ?_⟩) ?_ ?_
    rotate_left
    · intro w'
      go_simp
      with_reducible rfl
    rotate_left
    · simp only [Act.put, List.setIfInBounds_toArray, List.set_cons_zero, List.set_cons_succ, i64_w, i32_w]
      rfl
    refine take_ (i := 5) (N := some 40) (v := ?_) (a' := ?_) #[true, true, true, true, true, true, true, false, false, false, false, false, false] rfl rfl (by kernel_rfl) (fun _ _ _ h => h) (Or.inl ⟨by rfl, ?_⟩) hHeld ?_ ?_
    rotate_left
    · intro w' s0
      go_simp
      with_reducible rfl
    rotate_left
    · simp only [Act.put, List.setIfInBounds_toArray, List.set_cons_zero, List.set_cons_succ, i64_w, i32_w]
      rfl
    refine one_ (i := 7) (N := some 42) #[true, true, true, true, true, true, true, true, false, false, false, false, false] rfl rfl (by kernel_rfl) (by decide) (fun K hK => ?_)
    refine goes_ Try.func16 (by kernel_rfl) rfl #[.slice A1 l1.length c1, .int .i64 1, .int .i64 255] (by rfl) rfl rfl (by (try simp only [List.map_toArray, List.map_cons, List.map_nil]); first | done | rfl) ?_
    with_reducible refine (laws_lwAt.calls _ _ l1 1 255 q _ ?side1 ?side2 Q2.out).mono ?_
    case side1 => exact (Kd.C_below HR1.out HB.out)
    case side2 => exact HC1.out
    rintro e w5 ⟨rfl, hb⟩
    refine ⟨_, rfl, ?_⟩
    have HO5 := Aside0.mk (laws_FnSeal.row_below HO.out hb.below)
    have HB5 := Aside0.mk (below_step HB.out hb.below)
    clear hb HO HB
    have HO := HO5
    have HB := HB5
    clear HO5 HB5
    refine hK.out _ _ ((laws_FnSeal.row_cell HO.out HN.out)) (fun hHeld => ?_)
    clear hK K
    refine norm_ (a' := ?_) ?_ ?_
    rotate_left
    · show Act.put _ (some 42) _ = _
      simp only [Act.put, List.setIfInBounds_toArray, List.set_cons_zero, List.set_cons_succ, i64_w, i32_w]
      rfl
    refine pure_ (i := 8) (N := some 43) (v := ?_) (a' := ?_) #[true, true, true, true, true, true, true, true, true, false, false, false, false] rfl rfl (by kernel_rfl) (fun _ _ _ h => h) (Or.inl ⟨by rfl, ?_⟩) ?_ ?_
    rotate_left
    · intro w'
      go_simp
      with_reducible rfl
    rotate_left
    · simp only [Act.put, List.setIfInBounds_toArray, List.set_cons_zero, List.set_cons_succ, i64_w, i32_w]
      rfl
    refine pure_ (i := 9) (N := some 44) (v := ?_) (a' := ?_) #[true, true, true, true, true, true, true, true, true, true, false, false, false] rfl rfl (by kernel_rfl) (fun _ _ _ h => h) (Or.inl ⟨by rfl, ?_⟩) ?_ ?_
    rotate_left
    · intro w'
      go_simp
      with_reducible rfl
    rotate_left
    · simp only [Act.put, List.setIfInBounds_toArray, List.set_cons_zero, List.set_cons_succ, i64_w, i32_w]
      rfl
    refine pure_ (i := 10) (N := some 45) (v := ?_) (a' := ?_) #[true, true, true, true, true, true, true, true, true, true, true, false, false] rfl rfl (by kernel_rfl) (fun _ _ _ h => h) (Or.inl ⟨by rfl, ?_⟩) ?_ ?_
    rotate_left
    · intro w'
      go_simp
      with_reducible rfl
    rotate_left
    · simp only [Act.put, List.setIfInBounds_toArray, List.set_cons_zero, List.set_cons_succ, i64_w, i32_w]
      rfl
    refine pure_ (i := 11) (N := some 46) (v := ?_) (a' := ?_) #[true, true, true, true, true, true, true, true, true, true, true, true, false] rfl rfl (by kernel_rfl) (fun _ _ _ h => h) (Or.inl ⟨by rfl, ?_⟩) ?_ ?_
    rotate_left
    · intro w'
      go_simp
      with_reducible rfl
    rotate_left
    · simp only [Act.put, List.setIfInBounds_toArray, List.set_cons_zero, List.set_cons_succ, i64_w, i32_w]
      rfl
    refine last_ (i := 12) (N := none) #[true, true, true, true, true, true, true, true, true, true, true, true, true] rfl rfl (by kernel_rfl) (by decide) (fun K hK => ?_)
    refine skip_ (w1 := w5.setCell ⟨w3.heap.size, at_.toNat, none⟩ (.int .u8 (Go.bits .xor .u8 ((bytesOf s).getD at_.toNat 0) ((wrap64 (1 + q)) % 256)))) (by rfl) rfl ?_ ?_
    · have hcell := laws_FnSeal.row_cell HO.out HN.out
      have hfro := laws_FnSeal.row_frozen HO.out HN.out
      go_simp
      first | rfl | (rw [run_store]; simp [hcell, hfro]) | (simp [stored, hcell, hfro]; done)
    refine hK.out _ _ ?_
    clear hK K
    refine done_ (by kernel_rfl) ?_
    -- END
    have HO6 := Aside0.mk (laws_FnSeal.row_set HO.out at_.toNat (Go.bits .xor .u8 ((bytesOf s).getD at_.toNat 0) ((wrap64 (1 + q)) % 256)))
    have HB6 := Aside0.mk (below_set (j := at_.toNat) (v := .int .u8 (Go.bits .xor .u8 ((bytesOf s).getD at_.toNat 0) ((wrap64 (1 + q)) % 256))) HB.out HG.out)
    clear HO HB
    have HO := HO6
    have HB := HB6
    clear HO6 HB6
    generalize w5.setCell ⟨w3.heap.size, at_.toNat, none⟩ (.int .u8 (Go.bits .xor .u8 ((bytesOf s).getD at_.toNat 0) ((wrap64 (1 + q)) % 256))) = w6 at HO HB ⊢
    by_cases c8 : 8000 < (t.size : Int) + (u.size : Int)
    · have c8b0 : decide (8000 < (t.size : Int) + (u.size : Int)) = true := decide_eq_true c8
      have c8b1 : decide (8000 < t.size + u.size) = true := decide_eq_true (by omega)
      have c8b2 : decide (8000 < wrap64 ((t.size : Int) + (u.size : Int))) = true := decide_eq_true (by unfold wrap64; omega)
      have c8b3 : decide (wrap64 ((t.size : Int) + (u.size : Int)) > 8000) = true := c8b2
      go_wp2_with (first | (go_at_call 17; (with_reducible refine (impl_Unseal.calls k s t 0 0 _ Q3.out).mono ?_); rintro e w7 ⟨rfl, hb⟩; have HO7 := Aside0.mk (laws_FnSeal.row_below HO.out hb); have n0_ := Aside0.mk (below_step HB.out hb); clear HB HO; have HB := n0_; have HO := HO7; clear n0_ hb HO7; have ks := laws_FnSeal.back (c := grownCap w3 s.size 0 5) HO.out) | (rw [ks]) | (go_at_call 17; (with_reducible refine (impl_Unseal.calls k (turned s at_.toNat q) r1 r2 5 _ Q4.out).mono ?_); rintro e w8 ⟨rfl, hb⟩; have n0_ := Aside0.mk (below_step HB.out hb); clear HB; have HB := n0_; clear n0_ hb) | (rw [hfd31_2]) | (go_at_call 18; (with_reducible refine (spec_DrawCrcMore.calls k _ _ l1 crc u _ ?side1 ?side2 F4.out).mono ?_); (case side1 => repeat (first | exact (Kd.C_below HR1.out HB.out) | (with_reducible refine Kd.C_alloc ?_ _) | (with_reducible refine Kd.C_drewN ?_ _) | (with_reducible refine Kd.C_drew ?_))); (case side2 => exact HC1.out); rintro e w4 ⟨rfl, hb⟩; have n0_ := Aside0.mk (below_step HB.out (by first | exact hb | exact hb.below)); clear HB; have HB := n0_; clear n0_; (try clear hb)))
      go_ret
      exact ⟨rfl, HB.out⟩
    · have c8b0 : decide (8000 < (t.size : Int) + (u.size : Int)) = false := decide_eq_false c8
      have c8b1 : decide (8000 < t.size + u.size) = false := decide_eq_false (by omega)
      have c8b2 : decide (8000 < wrap64 ((t.size : Int) + (u.size : Int))) = false := decide_eq_false (by unfold wrap64; omega)
      have c8b3 : decide (wrap64 ((t.size : Int) + (u.size : Int)) > 8000) = false := c8b2
      obtain ⟨c, d, e_, b1, b2, b3, b4, b5⟩ := hU.out (by omega)
      have B1 := Aside0.mk b1; have B2 := Aside0.mk b2; have B3 := Aside0.mk b3; have B4 := Aside0.mk b4; have B5 := Aside0.mk b5
      clear b1 b2 b3 b4 b5
      have ccb : (c == c) = true := by simp
      have ceb : (e_ == e_) = true := by simp
      have zb : decide (t.size + u.size ≤ 9223372036854775807) = true := decide_eq_true (by omega)
      have zb2 : (9223372036854775807 < t.size + u.size) = False := eq_false (by omega)
      go_wp2_with (first | (go_at_call 17; (with_reducible refine (impl_Unseal.calls k s t 0 0 _ Q3.out).mono ?_); rintro e w7 ⟨rfl, hb⟩; have HO7 := Aside0.mk (laws_FnSeal.row_below HO.out hb); have n0_ := Aside0.mk (below_step HB.out hb); clear HB HO; have HB := n0_; have HO := HO7; clear n0_ hb HO7; have ks := laws_FnSeal.back (c := grownCap w3 s.size 0 5) HO.out) | (rw [ks]) | (go_at_call 17; (with_reducible refine (impl_Unseal.calls k (turned s at_.toNat q) r1 r2 5 _ Q4.out).mono ?_); rintro e w8 ⟨rfl, hb⟩; have n0_ := Aside0.mk (below_step HB.out hb); clear HB; have HB := n0_; clear n0_ hb) | (rw [hfd31_2]) | (go_at_call 18; (with_reducible refine (spec_DrawCrcMore.calls k _ _ l1 crc u _ ?side1 ?side2 F4.out).mono ?_); (case side1 => repeat (first | exact (Kd.C_below HR1.out HB.out) | (with_reducible refine Kd.C_alloc ?_ _) | (with_reducible refine Kd.C_drewN ?_ _) | (with_reducible refine Kd.C_drew ?_))); (case side2 => exact HC1.out); rintro e w4 ⟨rfl, hb⟩; have n0_ := Aside0.mk (below_step HB.out (by first | exact hb | exact hb.below)); clear HB; have HB := n0_; clear n0_; (try clear hb)) | (go_at_call 19; (with_reducible refine (impl_CrcMore.calls k crc u c _ B1.out).mono ?_); rintro e w5 ⟨rfl, hb⟩; have n0_ := Aside0.mk (below_step HB.out (by first | exact hb | exact hb.below)); clear HB; have HB := n0_; clear n0_; (try clear hb)) | (go_at_call 20; (with_reducible refine (spec_CrcMore.calls k crc u c _ B2.out).mono ?_); rintro e w6 ⟨rfl, hb⟩; have n0_ := Aside0.mk (below_step HB.out (by first | exact hb | exact hb.below)); clear HB; have HB := n0_; clear n0_; (try clear hb)) | (go_at_call 21; (with_reducible refine (impl_Crc.calls k t d _ B3.out).mono ?_); rintro e w7 ⟨rfl, hb⟩; have n0_ := Aside0.mk (below_step HB.out (by first | exact hb | exact hb.below)); clear HB; have HB := n0_; clear n0_; (try clear hb)) | (go_at_call 19; (with_reducible refine (impl_CrcMore.calls k d u e_ _ B4.out).mono ?_); rintro e w8 ⟨rfl, hb⟩; have n0_ := Aside0.mk (below_step HB.out (by first | exact hb | exact hb.below)); clear HB; have HB := n0_; clear n0_; (try clear hb)) | (go_at_call 21; (with_reducible refine (impl_Crc.calls k (t ++ u) e_ _ B5.out).mono ?_); rintro e w9 ⟨rfl, hb⟩; have n0_ := Aside0.mk (below_step HB.out (by first | exact hb | exact hb.below)); clear HB; have HB := n0_; clear n0_; (try clear hb)))
      go_ret
      exact ⟨rfl, HB.out⟩
def laws_FnSeal.Pure : Prop := ∀ (l0 : List Int) (l1 : List Int), l0.length ≤ maxLen → l0.length * 1 ≤ 140737488351232 → (∀ x ∈ l0, (Lit.int .u8 x).wf = true) → l1.length ≤ maxLen → l1.length * 1 ≤ 140737488351232 → (∀ x ∈ l1, (Lit.int .u8 x).wf = true) → laws_FnSeal.Fact l0 l1
theorem laws_FnSeal.walk (P : laws_FnSeal.Pure) (a0 : Option Addr) (len0 cap0 : Nat) (z0 : List Int) (a1 : Option Addr) (len1 cap1 : Nat) (z1 : List Int) (w : World) (w0 : (a0 = none ∧ len0 = 0 ∧ cap0 = 0 ∧ z0 = []) ∨ ∃ x, a0 = some x ∧ len0 ≤ cap0 ∧ cap0 ≤ maxLen ∧ z0.length = cap0 ∧ (∀ i, i < z0.length → w.cell? (x.add i) = some (.int .u8 (z0.getD i 0))) ∧ ∀ n ∈ z0, (Lit.int .u8 n).wf = true) (y0 : len0 * 1 ≤ 140737488351232) (w1 : (a1 = none ∧ len1 = 0 ∧ cap1 = 0 ∧ z1 = []) ∨ ∃ x, a1 = some x ∧ len1 ≤ cap1 ∧ cap1 ≤ maxLen ∧ z1.length = cap1 ∧ (∀ i, i < z1.length → w.cell? (x.add i) = some (.int .u8 (z1.getD i 0))) ∧ ∀ n ∈ z1, (Lit.int .u8 n).wf = true) (y1 : len1 * 1 ≤ 140737488351232) :
    Calls Try.prog 4 #[.slice a0 len0 cap0, .slice a1 len1 cap1] w fun e w' => e = .returned (.bool true) ∧ Below w.heap.size w w' := by
  obtain ⟨l0, rfl, hr0, hm0, hw0, hc0⟩ := ReadsInt.ofRowC w0
  obtain ⟨l1, rfl, hr1, hm1, hw1, hc1⟩ := ReadsInt.ofRowC w1
  have h := P l0 l1 hm0 y0 hw0 hm1 y1 hw1
  refine (laws_FnSeal.calls _ _ l0 _ _ l1 w (Kd.C_of_reads (d := (0 : Int)) (h1 := fun _ => rfl) hr0) hc0 (Kd.C_of_reads (d := (0 : Int)) (h1 := fun _ => rfl) hr1) hc1 h).mono ?_
  rintro e w' ⟨rfl, hd⟩
  exact ⟨rfl, hd⟩

end Go.Proofs.Ytnmbpjfljfmfmaa.Print
