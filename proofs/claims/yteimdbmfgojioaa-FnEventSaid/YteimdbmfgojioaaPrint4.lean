-- Printed by wip/myprint.py over the kit's print, in this session's own call.
import Derived.Test.YteimdbmfgojioaaPrint3
namespace Go.Proofs.Yteimdbmfgojioaa.Print
open Go.RowKit Go.Proofs.YteimdbmfgojioaaW.PrintWords Go.Proofs.YteimdbmfgojioaaW.PrintLast Go.Proofs.YteimdbmfgojioaaW.PrintMore
attribute [local go_sem] max2_int min2_int max_two min_two max_three min_three max_four min_four   -- for this text's walks alone
set_option maxHeartbeats 8000000
set_option maxRecDepth 100000
set_option linter.unusedVariables false
set_option linter.unusedSimpArgs false

/-! ### impl_crcFrom: function 50 -/
mutual
def impl_crcFrom.l0 : Nat → ByteArray → Int → Int → Int → Option (Int)
  | 0, _, _, _, _ => none
  | k + 1, x1, x5, x11, x12 => if x12 < x11 then (if 0 ≤ x12 then (if x12 < (x1.size : Int) then (impl_crcFrom.l1 k x1 (Go.bits .xor .u32 x5 ((bt x1 x12) % 4294967296)) x11 x12 0) else (none)) else (none)) else (some (Go.bits .xor .u32 4294967295 x5))
def impl_crcFrom.l1 : Nat → ByteArray → Int → Int → Int → Int → Option (Int)
  | 0, _, _, _, _, _ => none
  | k + 1, x1, x5, x11, x12, x21 => if x21 < 8 then (if (Go.bits .and .u32 x5 1) = 1 then (impl_crcFrom.l1 k x1 (Go.bits .xor .u32 (x5 / 2) 3988292384) x11 x12 (wrap64 (x21 + 1))) else (impl_crcFrom.l1 k x1 (x5 / 2) x11 x12 (wrap64 (x21 + 1)))) else (impl_crcFrom.l0 k x1 x5 x11 (wrap64 (x12 + 1)))
end
def impl_crcFrom.f (k : Nat) (a0 : Int) (a1 : ByteArray) : Option (Int) := impl_crcFrom.l0 k a1 (Go.bits .xor .u32 4294967295 a0) (a1.size : Int) 0
theorem impl_crcFrom.mono_l : ∀ k, (∀ y0 y1 y2 y3, LeO (impl_crcFrom.l0 k y0 y1 y2 y3) (impl_crcFrom.l0 (k + 1) y0 y1 y2 y3)) ∧ (∀ y0 y1 y2 y3 y4, LeO (impl_crcFrom.l1 k y0 y1 y2 y3 y4) (impl_crcFrom.l1 (k + 1) y0 y1 y2 y3 y4))
  | 0 => ⟨fun _ _ _ _ r h => by simp [impl_crcFrom.l0] at h, fun _ _ _ _ _ r h => by simp [impl_crcFrom.l1] at h⟩
  | k + 1 => by
    obtain ⟨ih0, ih1⟩ := impl_crcFrom.mono_l k
    refine ⟨?_, ?_⟩
    (intro y0 y1 y2 y3; unfold impl_crcFrom.l0); rotate_left
    (intro y0 y1 y2 y3 y4; unfold impl_crcFrom.l1); rotate_left
    all_goals (repeat' first | (with_reducible exact ih0 _ _ _ _) | (with_reducible exact ih1 _ _ _ _ _) | (with_reducible exact LeO.refl _) | (with_reducible exact LeO.none _) | (with_reducible refine LeO.ite ?_ ?_) | (with_reducible refine LeO.bind ?_ (fun _ => ?_)) | exact ih0 _ _ _ _ | exact ih1 _ _ _ _ _ | exact LeO.none _ | refine LeO.ite ?_ ?_ | refine LeO.bind ?_ (fun _ => ?_))
theorem impl_crcFrom.mono : ∀ a0 a1 k, LeO (impl_crcFrom.f k a0 a1) (impl_crcFrom.f (k + 1) a0 a1) := by
  intro a0 a1 k
  obtain ⟨ih0, ih1⟩ := impl_crcFrom.mono_l k
  unfold impl_crcFrom.f
  repeat' first | (with_reducible exact ih0 _ _ _ _) | (with_reducible exact ih1 _ _ _ _ _) | (with_reducible exact LeO.refl _) | (with_reducible exact LeO.none _) | (with_reducible refine LeO.ite ?_ ?_) | (with_reducible refine LeO.bind ?_ (fun _ => ?_)) | exact ih0 _ _ _ _ | exact ih1 _ _ _ _ _ | exact LeO.none _ | refine LeO.ite ?_ ?_ | refine LeO.bind ?_ (fun _ => ?_)
theorem impl_crcFrom.calls (k : Nat) (a0 : Int) (a1 : ByteArray) (r : Int) (w : World) (h : impl_crcFrom.f k a0 a1 = some r) :
    Calls Try.prog 50 #[.int .u32 a0, .string a1] w fun e w' => e = .returned (.int .u32 r) ∧ Drawn0 w w' := by
 have H : (impl_crcFrom.l0 k a1 (Go.bits .xor .u32 4294967295 a0) (a1.size : Int) 0) = some r := h; clear h; have H' := Aside0.mk H; clear H; go_enter Try.func50, Try.ntmps50; go_wp2
 go_loopg [5, 12] k (fun kq v5 v12 w' => ∃ (x5_1 : Int) (x12_1 : Int), v5 = .int .u32 x5_1 ∧ v12 = .int .i64 x12_1 ∧ Aside0 (impl_crcFrom.l0 kq a1 x5_1 (a1.size : Int) x12_1 = some r) ∧ Aside0 (kq ≤ k) ∧ Drawn0 w w')
 case atStart => exact ⟨(Go.bits .xor .u32 4294967295 a0), (0), (by first | rfl | (simp; done) | (simp [*]; done)), (by first | rfl | (simp; done) | (simp [*]; done)), H', ⟨Nat.le_refl _⟩, by repeat (first | exact Drawn0.refl _ | apply Drawn0.step)⟩
 case round =>
  clear H'; (try clear p2); obtain ⟨x5_1, x12_1, rfl, rfl, HA, HK1, ⟨m1, rfl⟩⟩ := hrel
  cases gk with
  | zero => exact absurd HA.out (by simp [impl_crcFrom.l0])
  | succ k1 =>
   have H := HA.out; clear HA; simp only [impl_crcFrom.l0] at H; by_cases c3 : x12_1 < (a1.size : Int)
   ·
    rw [if_pos c3] at H; have c3b0 : decide (x12_1 < (a1.size : Int)) = true := decide_eq_true c3; clear c3; by_cases c4 : 0 ≤ x12_1
    ·
     rw [if_pos c4] at H; have c4b0 : decide (0 ≤ x12_1) = true := decide_eq_true c4; clear c4; by_cases c5 : x12_1 < (a1.size : Int)
     ·
      rw [if_pos c5] at H; have c5b0 : decide (x12_1 < (a1.size : Int)) = true := decide_eq_true c5; clear c5; have H' := Aside0.mk H; clear H; have p6 : 0 ≤ (x12_1 : Int) := d_; have q6 : x12_1 < (a1.size : Int) := d_; have hx6 := bt_at a1 x12_1; replace p6 := eq_true p6; replace q6 := eq_true q6; go_wp2
      go_loopg [5, 21] k1 (fun kq v5 v21 w' => ∃ (x5_2 : Int) (x21_2 : Int), v5 = .int .u32 x5_2 ∧ v21 = .int .i64 x21_2 ∧ Aside0 (impl_crcFrom.l1 kq a1 x5_2 (a1.size : Int) x12_1 x21_2 = some r) ∧ Aside0 (kq ≤ k1) ∧ Drawn0 w w')
      case atStart => exact ⟨(Go.bits .xor .u32 x5_1 ((bt a1 x12_1) % 4294967296)), (0), (by first | rfl | (simp; done) | (simp [*]; done)), (by first | rfl | (simp; done) | (simp [*]; done)), H', ⟨Nat.le_refl _⟩, by repeat (first | exact Drawn0.refl _ | apply Drawn0.step)⟩
      case round =>
       clear H'; (try clear p2); (try clear c3); (try clear c3b0); (try clear c4); (try clear c4b0); (try clear c5); (try clear c5b0); (try clear p6); (try clear q6); (try clear hx6); (try clear p2); (try clear p6); (try clear q6); obtain ⟨x5_2, x21_2, rfl, rfl, HA, HK2, ⟨m2, rfl⟩⟩ := hrel
       cases gk with
       | zero => exact absurd HA.out (by simp [impl_crcFrom.l1])
       | succ k2 =>
        have H := HA.out; clear HA; simp only [impl_crcFrom.l1] at H; by_cases c7 : x21_2 < 8
        ·
         rw [if_pos c7] at H; have c7b0 : decide (x21_2 < 8) = true := decide_eq_true c7; clear c7; by_cases c8 : (Go.bits .and .u32 x5_2 1) = 1
         ·
          rw [if_pos c8] at H; have c8b0 : ((Go.bits .and .u32 x5_2 1) == 1) = true := beq_iff_eq.mpr c8; have c8b1 : ((Go.bits .and .u32 x5_2 1) != 1) = false := bne_eq_false_iff_eq.mpr c8; clear c8; have H' := Aside0.mk H; clear H; go_wp2
          go_roundg k2
          case measure => have := HK1.out; have := HK2.out; omega
          case rel => exact ⟨(Go.bits .xor .u32 (x5_2 / 2) 3988292384), (wrap64 (x21_2 + 1)), (by first | rfl | (simp; done) | (simp [*]; done)), (by first | rfl | (simp; done) | (simp [*]; done)), H', ⟨by have := HK1.out; have := HK2.out; omega⟩, by repeat (first | exact Drawn0.refl _ | apply Drawn0.step)⟩
         ·
          rw [if_neg c8] at H; have c8b0 : ((Go.bits .and .u32 x5_2 1) == 1) = false := beq_eq_false_iff_ne.mpr c8; have c8b1 : ((Go.bits .and .u32 x5_2 1) != 1) = true := bne_iff_ne.mpr c8; have H' := Aside0.mk H; clear H; go_wp2
          go_roundg k2
          case measure => have := HK1.out; have := HK2.out; omega
          case rel => exact ⟨(x5_2 / 2), (wrap64 (x21_2 + 1)), (by first | rfl | (simp; done) | (simp [*]; done)), (by first | rfl | (simp; done) | (simp [*]; done)), H', ⟨by have := HK1.out; have := HK2.out; omega⟩, by repeat (first | exact Drawn0.refl _ | apply Drawn0.step)⟩
        ·
         rw [if_neg c7] at H; have c7b0 : decide (x21_2 < 8) = false := decide_eq_false c7; clear c7; have H' := Aside0.mk H; clear H; go_wp2
         go_roundg k2
         case measure => have := HK1.out; have := HK2.out; omega
         case rel => exact ⟨(x5_2), (wrap64 (x12_1 + 1)), (by first | rfl | (simp; done) | (simp [*]; done)), (by first | rfl | (simp; done) | (simp [*]; done)), H', ⟨by have := HK1.out; have := HK2.out; omega⟩, by repeat (first | exact Drawn0.refl _ | apply Drawn0.step)⟩
     ·
      rw [if_neg c5] at H; exact absurd H (by simp)
    ·
     rw [if_neg c4] at H; exact absurd H (by simp)
   ·
    rw [if_neg c3] at H; have c3b0 : decide (x12_1 < (a1.size : Int)) = false := decide_eq_false c3; clear c3; obtain rfl := Option.some.inj H; go_wp2
    go_ret
    exact ⟨by first | rfl | (simp; done) | (simp [*]; done), by repeat (first | exact Drawn0.refl _ | apply Drawn0.step)⟩

/-! ### impl_Seal: function 23 -/
def impl_Seal.f (k : Nat) (a0 : ByteArray) : Option (ByteArray) := if (a0.size : Int) > 7996 then (some (⟨#[]⟩ : ByteArray)) else ((impl_crcFrom.f k 0 a0).bind fun t172 => ((some (([(t172) % 256, (t172 / 256) % 256, (t172 / 65536) % 256, (t172 / 16777216) % 256] : List Int) : List Int)).bind fun y173 => (if a0.size + (strOfNums y173).size ≤ 9223372036854775807 then (some (a0 ++ (strOfNums y173))) else (none))))
theorem impl_Seal.mono : ∀ a0 k, LeO (impl_Seal.f k a0) (impl_Seal.f (k + 1) a0) := by
  intro a0 k
  unfold impl_Seal.f
  repeat' first | (with_reducible exact impl_crcFrom.mono _ _ _) | (with_reducible exact LeO.refl _) | (with_reducible exact LeO.none _) | (with_reducible refine LeO.ite ?_ ?_) | (with_reducible refine LeO.bind ?_ (fun _ => ?_)) | exact impl_crcFrom.mono _ _ _ | exact LeO.none _ | refine LeO.ite ?_ ?_ | refine LeO.bind ?_ (fun _ => ?_)
theorem impl_Seal.calls (k : Nat) (a0 : ByteArray) (r : ByteArray) (w : World) (h : impl_Seal.f k a0 = some r) :
    Calls Try.prog 23 #[.string a0] w fun e w' => e = .returned (.string r) ∧ Below w.heap.size w w' := by
 have HB := Aside0.mk (Below.refl w.heap.size w); have H : (if (a0.size : Int) > 7996 then (some (⟨#[]⟩ : ByteArray)) else ((impl_crcFrom.f k 0 a0).bind fun t172 => ((some (([(t172) % 256, (t172 / 256) % 256, (t172 / 65536) % 256, (t172 / 16777216) % 256] : List Int) : List Int)).bind fun y173 => (if a0.size + (strOfNums y173).size ≤ 9223372036854775807 then (some (a0 ++ (strOfNums y173))) else (none))))) = some r := h; clear h; by_cases c2 : (a0.size : Int) > 7996
 ·
  rw [if_pos c2] at H; have c2b0 : decide (7996 < (a0.size : Int)) = true := decide_eq_true c2; have c2b1 : decide (7996 < a0.size) = true := decide_eq_true (by omega); clear c2; obtain rfl := Option.some.inj H; go_enter Try.func23, Try.ntmps23; go_wp2
  go_ret
  exact ⟨a3_, (a12_ HB.out)⟩
 ·
  rw [if_neg c2] at H; have c2b0 : decide (7996 < (a0.size : Int)) = false := decide_eq_false c2; have c2b1 : decide (7996 < a0.size) = false := decide_eq_false (by omega); clear c2; replace H := Option.bind_eq_some_iff.mp H; obtain ⟨t172, A30, H⟩ := H; have A3 := Aside0.mk A30; clear A30; obtain ⟨y173, hy173⟩ : ∃ y_ : List Int, y_ = (([(t172) % 256, (t172 / 256) % 256, (t172 / 65536) % 256, (t172 / 16777216) % 256] : List Int)) := ⟨_, rfl⟩; replace H := bs_ hy173 H
  have Ny173 := Aside0.mk hy173; clear hy173; by_cases c4 : a0.size + (strOfNums y173).size ≤ 9223372036854775807
  ·
   rw [if_pos c4] at H; have c4b0 := eq_true c4; have c4b1 : decide (a0.size + (strOfNums y173).size ≤ 9223372036854775807) = true := decide_eq_true c4; try have c4b2 : (9223372036854775807 < a0.size + (strOfNums y173).size) = False := eq_false (Nat.not_lt.2 c4)
   obtain rfl := Option.some.inj H; go_enter Try.func23, Try.ntmps23; go_wp2_with (first | ((with_reducible refine gate_callee (f := 50) rfl ?_); refine gl_ (some 8) Try.func50 #[.int .u32 0, .string a0] ?_; (with_reducible refine (impl_crcFrom.calls k 0 a0 t172 _ A3.out).mono ?_); rintro e w' ⟨rfl, ⟨nd, rfl⟩⟩; refine ⟨_, rfl, ?_⟩) | ((with_reducible refine gate_dst (N := 21) rfl ?_); refine Kd.R_lit (Kd.int .u8) _ 5 ?hg (N := 21) ?hd (xs := ([(t172) % 256, (t172 / 256) % 256, (t172 / 65536) % 256, (t172 / 16777216) % 256] : List Int)) (inner := [.int .u8 ((t172) % 256), .int .u8 ((t172 / 256) % 256), .int .u8 ((t172 / 65536) % 256), .int .u8 ((t172 / 16777216) % 256)]) (ok := fun _ => True) (okp := fun _ => True) ?hr ?hp (fun _ hk => hk) trivial (Below.refl _ _) (Nat.le_refl _) (by simp) ?_; (case hd => rfl); (case hg => rfl); (case hr => first | (go_simp; done) | (go_simp; rfl)); (case hp => exact (Reps.one (show Kd.M (Kd.int .u8) _ _ _ ((t172) % 256) [.int .u8 ((t172) % 256)] from rfl) (Reps.one (show Kd.M (Kd.int .u8) _ _ _ ((t172 / 256) % 256) [.int .u8 ((t172 / 256) % 256)] from rfl) (Reps.one (show Kd.M (Kd.int .u8) _ _ _ ((t172 / 65536) % 256) [.int .u8 ((t172 / 65536) % 256)] from rfl) (Reps.one (show Kd.M (Kd.int .u8) _ _ _ ((t172 / 16777216) % 256) [.int .u8 ((t172 / 16777216) % 256)] from rfl) (Reps.none _ _)))))); intro v174 w5 ho6 hb hg_ hnew_; clear hg_ hnew_; (first | rw [← Ny173.out] at ho6 | (simp only [Int.reduceToNat] at ho6; rw [← Ny173.out] at ho6)); have HO175 := Aside0.mk (Kd.R_lower ho6 (below_size (a12_ HB.out))); replace HB := Aside0.mk (below_step (a12_ HB.out) hb); clear hb ho6; have hcv7 := own_string (P := Try.prog) Try.underlying22 Try.underlying5 Try.underlying9 (Kd.own_of_R HO175.out)))
   go_ret
   exact ⟨a3_, (a12_ HB.out)⟩
  ·
   rw [if_neg c4] at H; exact absurd H (by simp)

/-! ### impl_EventBytes: function 5 -/
mutual
def impl_EventBytes.l0 : Nat → List Int → List Int → Int → Int → Int → Int → Int → Int → Int → Int → ByteArray → List Int → Int → Option (ByteArray)
  | 0, _, _, _, _, _, _, _, _, _, _, _, _, _ => none
  | k + 1, x3, x24, x25, x26, x177000, x177001, x177002, x177003, x177004, x177005, x177006, x177007, x177008 => if x26 < x25 then (if 0 ≤ x26 then (if x26 < (x24.length : Int) then ((impl_numBytes.f k (rd x24 x26)).bind fun t185 => (if x3.length + t185.length < 140737488355328 then (impl_EventBytes.l0 k (x3 ++ t185) x24 x25 (wrap64 (x26 + 1)) x177000 x177001 x177002 x177003 x177004 x177005 x177006 x177007 x177008) else (none))) else (none)) else (none)) else ((impl_PutText.f k x177006).bind fun t191 => (if x3.length + t191.size < 140737488355328 then ((some (x3 ++ bytesOf t191 : List Int)).bind fun y192 => ((impl_numBytes.f k (x177007.length : Int)).bind fun t195 => (if y192.length + t195.length < 140737488355328 then (impl_EventBytes.l1 k (y192 ++ t195) x177007 (x177007.length : Int) 0 x177000 x177001 x177002 x177003 x177004 x177005 x177006 x177007 x177008) else (none)))) else (none)))
def impl_EventBytes.l1 : Nat → List Int → List Int → Int → Int → Int → Int → Int → Int → Int → Int → ByteArray → List Int → Int → Option (ByteArray)
  | 0, _, _, _, _, _, _, _, _, _, _, _, _, _ => none
  | k + 1, x3, x46, x47, x48, x177000, x177001, x177002, x177003, x177004, x177005, x177006, x177007, x177008 => if x48 < x47 then (if 0 ≤ x48 then (if x48 < (x46.length : Int) then ((impl_numBytes.f k (rd x46 x48)).bind fun t202 => (if x3.length + t202.length < 140737488355328 then (impl_EventBytes.l1 k (x3 ++ t202) x46 x47 (wrap64 (x48 + 1)) x177000 x177001 x177002 x177003 x177004 x177005 x177006 x177007 x177008) else (none))) else (none)) else (none)) else ((impl_numBytes.f k x177008).bind fun t208 => (if x3.length + t208.length < 140737488355328 then ((impl_Seal.f k (strOfNums (x3 ++ t208))).bind fun t214 => (some t214)) else (none)))
end
def impl_EventBytes.f (k : Nat) (a0_0 : Int) (a0_1 : Int) (a0_2 : Int) (a0_3 : Int) (a0_4 : Int) (a0_5 : Int) (a0_6 : ByteArray) (l0_7 : List Int) (a0_8 : Int) : Option (ByteArray) := (impl_EventRight.f k a0_0 a0_1 a0_2 a0_3 a0_4 a0_5 a0_6 l0_7 a0_8).bind fun t177 => (if t177 = true then ((some (([a0_0, a0_1, a0_2, a0_3, a0_4, a0_5] : List Int) : List Int)).bind fun y181 => (impl_EventBytes.l0 k (([] : List Int)) y181 (y181.length : Int) 0 a0_0 a0_1 a0_2 a0_3 a0_4 a0_5 a0_6 l0_7 a0_8)) else (some (⟨#[]⟩ : ByteArray)))
theorem impl_EventBytes.mono_l : ∀ k, (∀ y0 y1 y2 y3 y4 y5 y6 y7 y8 y9 y10 y11 y12, LeO (impl_EventBytes.l0 k y0 y1 y2 y3 y4 y5 y6 y7 y8 y9 y10 y11 y12) (impl_EventBytes.l0 (k + 1) y0 y1 y2 y3 y4 y5 y6 y7 y8 y9 y10 y11 y12)) ∧ (∀ y0 y1 y2 y3 y4 y5 y6 y7 y8 y9 y10 y11 y12, LeO (impl_EventBytes.l1 k y0 y1 y2 y3 y4 y5 y6 y7 y8 y9 y10 y11 y12) (impl_EventBytes.l1 (k + 1) y0 y1 y2 y3 y4 y5 y6 y7 y8 y9 y10 y11 y12))
  | 0 => ⟨fun _ _ _ _ _ _ _ _ _ _ _ _ _ r h => by simp [impl_EventBytes.l0] at h, fun _ _ _ _ _ _ _ _ _ _ _ _ _ r h => by simp [impl_EventBytes.l1] at h⟩
  | k + 1 => by
    obtain ⟨ih0, ih1⟩ := impl_EventBytes.mono_l k
    refine ⟨?_, ?_⟩
    (intro y0 y1 y2 y3 y4 y5 y6 y7 y8 y9 y10 y11 y12; unfold impl_EventBytes.l0); rotate_left
    (intro y0 y1 y2 y3 y4 y5 y6 y7 y8 y9 y10 y11 y12; unfold impl_EventBytes.l1); rotate_left
    all_goals (repeat' first | (with_reducible exact ih0 _ _ _ _ _ _ _ _ _ _ _ _ _) | (with_reducible exact ih1 _ _ _ _ _ _ _ _ _ _ _ _ _) | (with_reducible exact impl_EventRight.mono _ _ _ _ _ _ _ _ _ _) | (with_reducible exact impl_PutText.mono _ _) | (with_reducible exact impl_Seal.mono _ _) | (with_reducible exact impl_numBytes.mono _ _) | (with_reducible exact LeO.refl _) | (with_reducible exact LeO.none _) | (with_reducible refine LeO.ite ?_ ?_) | (with_reducible refine LeO.bind ?_ (fun _ => ?_)) | exact ih0 _ _ _ _ _ _ _ _ _ _ _ _ _ | exact ih1 _ _ _ _ _ _ _ _ _ _ _ _ _ | exact impl_EventRight.mono _ _ _ _ _ _ _ _ _ _ | exact impl_PutText.mono _ _ | exact impl_Seal.mono _ _ | exact impl_numBytes.mono _ _ | exact LeO.none _ | refine LeO.ite ?_ ?_ | refine LeO.bind ?_ (fun _ => ?_))
theorem impl_EventBytes.mono : ∀ a0 a1 a2 a3 a4 a5 a6 a7 a8 k, LeO (impl_EventBytes.f k a0 a1 a2 a3 a4 a5 a6 a7 a8) (impl_EventBytes.f (k + 1) a0 a1 a2 a3 a4 a5 a6 a7 a8) := by
  intro a0 a1 a2 a3 a4 a5 a6 a7 a8 k
  obtain ⟨ih0, ih1⟩ := impl_EventBytes.mono_l k
  unfold impl_EventBytes.f
  repeat' first | (with_reducible exact ih0 _ _ _ _ _ _ _ _ _ _ _ _ _) | (with_reducible exact ih1 _ _ _ _ _ _ _ _ _ _ _ _ _) | (with_reducible exact impl_EventRight.mono _ _ _ _ _ _ _ _ _ _) | (with_reducible exact impl_PutText.mono _ _) | (with_reducible exact impl_Seal.mono _ _) | (with_reducible exact impl_numBytes.mono _ _) | (with_reducible exact LeO.refl _) | (with_reducible exact LeO.none _) | (with_reducible refine LeO.ite ?_ ?_) | (with_reducible refine LeO.bind ?_ (fun _ => ?_)) | exact ih0 _ _ _ _ _ _ _ _ _ _ _ _ _ | exact ih1 _ _ _ _ _ _ _ _ _ _ _ _ _ | exact impl_EventRight.mono _ _ _ _ _ _ _ _ _ _ | exact impl_PutText.mono _ _ | exact impl_Seal.mono _ _ | exact impl_numBytes.mono _ _ | exact LeO.none _ | refine LeO.ite ?_ ?_ | refine LeO.bind ?_ (fun _ => ?_)
def impl_EventBytes.T9 : Bool × List (List Nat × List Nat) := (true, [([], []), ([], []), ([1], [1]), ([2], [2]), ([0, 3, 3], [0, 3]), ([], []), ([5], [5]), ([6], [6]), ([7, 4], [7]), ([4, 8, 8], [4, 8]), ([9, 9, 0, 1, 2, 3, 4, 5, 6, 7, 8, 9], [0, 9])])
def impl_EventBytes.B9 : List Nat := [0, 0, 2, 6, 15, 0, 32, 96, 255, 511, 1023]
theorem impl_EventBytes.tab9 : rtab .any (opsOf Try.f5 9) = impl_EventBytes.T9 := by kernel_rfl
theorem impl_EventBytes.bits9 : waitsOk impl_EventBytes.T9.2 impl_EventBytes.B9 = true := by kernel_rfl
theorem impl_EventBytes.calls (k : Nat) (a0_0 : Int) (a0_1 : Int) (a0_2 : Int) (a0_3 : Int) (a0_4 : Int) (a0_5 : Int) (a0_6 : ByteArray) (A0_7 : Option Addr) (c0_7 : Nat) (l0_7 : List Int) (a0_8 : Int) (r : ByteArray) (w : World) (hr0_7 : Kd.C (Kd.int .i64) w A0_7 l0_7.length l0_7) (hc0_7 : l0_7.length ≤ c0_7) (h : impl_EventBytes.f k a0_0 a0_1 a0_2 a0_3 a0_4 a0_5 a0_6 l0_7 a0_8 = some r) :
    Calls Try.prog 5 #[.agg #[.int .i64 a0_0, .int .i64 a0_1, .int .i64 a0_2, .int .i64 a0_3, .int .i64 a0_4, .int .i64 a0_5, .string a0_6, .slice A0_7 l0_7.length c0_7, .int .i64 a0_8]] w fun e w' => e = .returned (.string r) ∧ Below w.heap.size w w' := by
 have hu25 := Try.underlying25; have HR0_7 := Aside0.mk hr0_7; have HC0_7 := Aside0.mk hc0_7; clear hr0_7 hc0_7; have HB := Aside0.mk (Below.refl w.heap.size w); have H : ((impl_EventRight.f k a0_0 a0_1 a0_2 a0_3 a0_4 a0_5 a0_6 l0_7 a0_8).bind fun t177 => (if t177 = true then ((some (([a0_0, a0_1, a0_2, a0_3, a0_4, a0_5] : List Int) : List Int)).bind fun y181 => (impl_EventBytes.l0 k (([] : List Int)) y181 (y181.length : Int) 0 a0_0 a0_1 a0_2 a0_3 a0_4 a0_5 a0_6 l0_7 a0_8)) else (some (⟨#[]⟩ : ByteArray)))) = some r := h; clear h; replace H := Option.bind_eq_some_iff.mp H; obtain ⟨t177, A20, H⟩ := H; have A2 := Aside0.mk A20; clear A20; go_enter Try.func5, Try.ntmps5; go_upto_if 10 with (first | ((with_reducible refine gate_dst (N := 1) rfl ?_); refine be_ 1 #[.int .i64 a0_0, .int .i64 a0_1, .int .i64 a0_2, .int .i64 a0_3, .int .i64 a0_4, .int .i64 a0_5, .string a0_6, .slice A0_7 l0_7.length c0_7, .int .i64 a0_8] 25 ?_; intro gb176 hg w4 hbox hb; have BK176 := Aside0.mk (hbox); have GW176 := Aside0.mk ((by rw [hg]; exact (below_size HB.out) : w.heap.size ≤ gb176)); replace HB := Aside0.mk (below_step HB.out hb); have GE176 := GW176; clear hb hbox hg; obtain ⟨⟨hcz5_0, hcz5_1, hcz5_2, hcz5_3, hcz5_4, hcz5_5, hcz5_6, hcz5_7, hcz5_8⟩, hfz5_0, hfz5_1, hfz5_2, hfz5_3, hfz5_4, hfz5_5, hfz5_6, hfz5_7, hfz5_8⟩ := cells_9 BK176.out) | ((with_reducible refine gate_callee (f := 14) rfl ?_); refine gl_ (some 9) Try.func14 #[.agg #[.int .i64 a0_0, .int .i64 a0_1, .int .i64 a0_2, .int .i64 a0_3, .int .i64 a0_4, .int .i64 a0_5, .string a0_6, .slice A0_7 l0_7.length c0_7, .int .i64 a0_8]] ?_; (with_reducible refine (impl_EventRight.calls k a0_0 a0_1 a0_2 a0_3 a0_4 a0_5 a0_6 _ _ l0_7 a0_8 t177 _ ?side1 HC0_7.out A2.out).mono ?_); (case side1 => exact (cb_ HR0_7.out HB.out)); rintro e w6 ⟨rfl, hb⟩; refine ⟨_, rfl, ?_⟩; replace BK176 := Aside0.mk (blk_below BK176.out hb); replace HB := Aside0.mk (below_step HB.out hb); (try clear hb); (try clear hb2); (try clear hk); (try clear hi)))
 by_cases c3 : t177 = true
 ·
  subst c3; rw [if_pos rfl] at H; obtain ⟨y178, hy178⟩ : ∃ y_ : List Int, y_ = (([] : List Int)) := ⟨_, rfl⟩; replace H : ((some (([a0_0, a0_1, a0_2, a0_3, a0_4, a0_5] : List Int) : List Int)).bind fun y181 => (impl_EventBytes.l0 k y178 y181 (y181.length : Int) 0 a0_0 a0_1 a0_2 a0_3 a0_4 a0_5 a0_6 l0_7 a0_8)) = some r := by first | (rw [hy178]; exact H) | exact H
  have Ny178 := Aside0.mk hy178; clear hy178; obtain ⟨y181, hy181⟩ : ∃ y_ : List Int, y_ = (([a0_0, a0_1, a0_2, a0_3, a0_4, a0_5] : List Int)) := ⟨_, rfl⟩; replace H := bs_ hy181 H
  have Ny181 := Aside0.mk hy181; clear hy181; have H' := Aside0.mk H; clear H; go_wp2_with (first | ((with_reducible refine gate_dst (N := 11) rfl ?_); refine Kd.R_lit (Kd.int .u8) _ 5 ?hg (N := 11) ?hd (xs := ([] : List Int)) (inner := []) (ok := fun _ => True) (okp := fun _ => True) ?hr ?hp (fun _ hk => hk) trivial (Below.refl _ _) (Nat.le_refl _) (by simp) ?_; (case hd => rfl); (case hg => rfl); (case hr => first | (go_simp; done) | (go_simp; rfl)); (case hp => exact (Reps.none _ _)); intro v179 w7 ho8 hb hg_ hnew_; clear hg_ hnew_; (first | rw [← Ny178.out] at ho8 | (simp only [Int.reduceToNat] at ho8; rw [← Ny178.out] at ho8)); have HO180 := Aside0.mk (Kd.R_lower ho8 (below_size HB.out)); replace BK176 := Aside0.mk (blk_below BK176.out hb); replace HB := Aside0.mk (below_step HB.out hb); clear hb ho8; obtain ⟨⟨hcz9_0, hcz9_1, hcz9_2, hcz9_3, hcz9_4, hcz9_5, hcz9_6, hcz9_7, hcz9_8⟩, hfz9_0, hfz9_1, hfz9_2, hfz9_3, hfz9_4, hfz9_5, hfz9_6, hfz9_7, hfz9_8⟩ := cells_9 BK176.out) | ((with_reducible refine gate_dst (N := 24) rfl ?_); refine Kd.R_lit (Kd.int .i64) _ 2 ?hg (N := 24) ?hd (xs := ([a0_0, a0_1, a0_2, a0_3, a0_4, a0_5] : List Int)) (inner := [.int .i64 a0_0, .int .i64 a0_1, .int .i64 a0_2, .int .i64 a0_3, .int .i64 a0_4, .int .i64 a0_5]) (ok := fun _ => True) (okp := fun _ => True) ?hr ?hp (fun _ hk => hk) trivial (Below.refl _ _) (Nat.le_refl _) (by simp) ?_; (case hd => rfl); (case hg => rfl); (case hr => first | (go_simp; done) | (go_simp; rfl)); (case hp => exact (Reps.one (show Kd.M (Kd.int .i64) _ _ _ a0_0 [.int .i64 a0_0] from rfl) (Reps.one (show Kd.M (Kd.int .i64) _ _ _ a0_1 [.int .i64 a0_1] from rfl) (Reps.one (show Kd.M (Kd.int .i64) _ _ _ a0_2 [.int .i64 a0_2] from rfl) (Reps.one (show Kd.M (Kd.int .i64) _ _ _ a0_3 [.int .i64 a0_3] from rfl) (Reps.one (show Kd.M (Kd.int .i64) _ _ _ a0_4 [.int .i64 a0_4] from rfl) (Reps.one (show Kd.M (Kd.int .i64) _ _ _ a0_5 [.int .i64 a0_5] from rfl) (Reps.none _ _)))))))); intro v182 w10 ho11 hb hg_ hnew_; clear hg_ hnew_; (first | rw [← Ny181.out] at ho11 | (simp only [Int.reduceToNat] at ho11; rw [← Ny181.out] at ho11)); replace HO180 := Aside0.mk (Kd.R_below HO180.out hb); have HO183 := Aside0.mk (Kd.R_lower ho11 (below_size HB.out)); replace BK176 := Aside0.mk (blk_below BK176.out hb); replace HB := Aside0.mk (below_step HB.out hb); clear hb ho11; obtain ⟨Ao12, co12, eo12⟩ := Kd.R_slice HO183.out; subst eo12))
  go_loopg [3, 26] k (fun kq v3 v26 w' => ∃ (x3_1 : List Int) (x26_1 : Int), v26 = .int .i64 x26_1 ∧ Aside0 (impl_EventBytes.l0 kq x3_1 y181 (y181.length : Int) x26_1 a0_0 a0_1 a0_2 a0_3 a0_4 a0_5 a0_6 l0_7 a0_8 = some r) ∧ Aside0 (kq ≤ k) ∧ Aside0 (Kd.R (Kd.int .u8) 5 w' w.heap.size (fun _ => True) v3 x3_1) ∧ Aside0 (Kd.R (Kd.int .i64) 2 w' w.heap.size (fun _ => True) (.slice Ao12 y181.length co12) y181) ∧ Aside0 (w'.heap[gb176]? = some (.cells #[.int .i64 a0_0, .int .i64 a0_1, .int .i64 a0_2, .int .i64 a0_3, .int .i64 a0_4, .int .i64 a0_5, .string a0_6, (.slice A0_7 l0_7.length c0_7), .int .i64 a0_8] 25 (0, 0))) ∧ Aside0 (Below w.heap.size w w'))
  case atStart => exact ⟨(y178), (0), (by first | rfl | (simp; done) | (simp [*]; done)), H', ⟨Nat.le_refl _⟩, ⟨(a19_ HO180.out)⟩, ⟨(a19_ HO183.out)⟩, ⟨by exact BK176.out⟩, ⟨(a1_ HB.out GE176.out)⟩⟩
  case round =>
   clear H'; (try clear c1); (try clear p2); (try clear c3); (try clear c5); (try clear hcz5_0); (try clear hcz5_1); (try clear hcz5_2); (try clear hcz5_3); (try clear hcz5_4); (try clear hcz5_5); (try clear hcz5_6); (try clear hcz5_7); (try clear hcz5_8); (try clear hcz9_0); (try clear hcz9_1); (try clear hcz9_2); (try clear hcz9_3); (try clear hcz9_4); (try clear hcz9_5); (try clear hcz9_6); (try clear hcz9_7); (try clear hcz9_8); (try clear hfz5_0); (try clear hfz5_1); (try clear hfz5_2); (try clear hfz5_3); (try clear hfz5_4); (try clear hfz5_5); (try clear hfz5_6); (try clear hfz5_7); (try clear hfz5_8); (try clear hfz9_0); (try clear hfz9_1); (try clear hfz9_2); (try clear hfz9_3); (try clear hfz9_4); (try clear hfz9_5); (try clear hfz9_6); (try clear hfz9_7); (try clear hfz9_8); obtain ⟨x3_1, x26_1, rfl, HA, HK1, HO_3, HO_24, BK176, HB⟩ := hrel
   cases gk with
   | zero => exact absurd HA.out (by simp [impl_EventBytes.l0])
   | succ k1 =>
    have H := HA.out; clear HA; simp only [impl_EventBytes.l0] at H; by_cases c13 : x26_1 < (y181.length : Int)
    ·
     rw [if_pos c13] at H; have c13b0 : decide (x26_1 < (y181.length : Int)) = true := decide_eq_true c13; clear c13; by_cases c14 : 0 ≤ x26_1
     ·
      rw [if_pos c14] at H; have c14b0 : decide (0 ≤ x26_1) = true := decide_eq_true c14; clear c14; by_cases c15 : x26_1 < (y181.length : Int)
      ·
       rw [if_pos c15] at H; have c15b0 : decide (x26_1 < (y181.length : Int)) = true := decide_eq_true c15; clear c15; replace H := Option.bind_eq_some_iff.mp H; obtain ⟨t185, A160, H⟩ := H; have A16 := Aside0.mk A160; clear A160; by_cases c17 : x3_1.length + t185.length < 140737488355328
       ·
        rw [if_pos c17] at H; have LMc17 := Aside0.mk c17; clear c17; obtain ⟨y188, hy188⟩ : ∃ y_ : List Int, y_ = (x3_1 ++ t185) := ⟨_, rfl⟩; replace H : (impl_EventBytes.l0 k1 y188 y181 (y181.length : Int) (wrap64 (x26_1 + 1)) a0_0 a0_1 a0_2 a0_3 a0_4 a0_5 a0_6 l0_7 a0_8) = some r := by first | (rw [hy188]; exact H) | exact H
        have Ny188 := Aside0.mk hy188; clear hy188; have H' := Aside0.mk H; clear H; have p184 : 0 ≤ (x26_1 : Int) := d_; have q184 : x26_1 < (y181.length : Int) := d_; obtain ⟨ad184, e184, hx184_0⟩ := Kd.at_int (Kd.R_reads' HO_24.out).2.2 x26_1 p184 q184; cases e184; replace p184 := eq_true p184; replace q184 := eq_true q184; go_wp2_with (first | ((with_reducible refine gate_callee (f := 21) rfl ?_); refine gl_ (some 32) Try.func21 #[.int .i64 (rd y181 x26_1)] ?_; (with_reducible refine (impl_numBytes.calls k1 (rd y181 x26_1) t185 _ A16.out).mono ?_); rintro e w18 ⟨v186, rfl, ho0, hb⟩; refine ⟨_, rfl, ?_⟩; replace HO_24 := Aside0.mk (Kd.R_below HO_24.out hb); have HO187 := Aside0.mk (Kd.R_lower (Kd.R_new' ho0 (Kd.R_lt HO_3.out)) (below_size HB.out)); replace HO_3 := Aside0.mk (Kd.R_elder' HO_3.out (Kd.R_base ho0) hb); replace BK176 := Aside0.mk (blk_below BK176.out hb); replace HB := Aside0.mk (below_step HB.out hb); (try clear hb); (try clear hb2); (try clear hk); (try clear hi); (try clear ho0); obtain ⟨Ao20, co20, eo20⟩ := Kd.R_slice HO187.out; subst eo20) | ((with_reducible refine gate_builtin (b := .append) (xs := #[.tmp 30, .tmp 32]) rfl ?_); at_builtin; refine Kd.R_append_rows (Kd.int .u8) (w0 := w) w.heap.size rfl (.tmp 30) (.tmp 32) 22 5 (.int .u8 0) 1 rfl Try.underlying22 info5 rfl (by decide) (by omega) u3 x3_1 t185 _ _ _ (fun k_ => some k_ ≠ (.slice Ao20 t185.length co20 : Value).ownBlock) (fun _ => False) rfl rfl ?aO ?aR (fun _ _ h => h) (fun _ h => h.elim) ?aF ?aB ?aS ?aL ?_; (case aR => exact (rr_ HO187.out)); (case aB => exact HB.out); (case aF => exact (fun k_ hk => Kd.fresh' (Kd.R_lt HO187.out) k_ hk)); (case aO => exact (Kd.R_mono HO_3.out (fun _ hk => hk.2))); (case aS => exact (below_size HB.out)); (case aL => have := LMc17.out; omega); intro v189 w19 ho hb hg hat; rw [← Ny188.out] at ho; have n0_ := Aside0.mk (Kd.R_over' HO_24.out (Kd.R_typed HO_3.out) (by decide) hg); have n1_ := Aside0.mk (blk_grown BK176.out hg (Kd.R_ne HO_3.out BK176.out (by decide))); have n2_ := Aside0.mk (Kd.R_after (ok := (fun _ => True)) HO187.out hg hat); have n3_ := Aside0.mk (hb); have n4_ := Aside0.mk (ho); clear HO_24; clear BK176; clear HO187; clear HB; clear HO_3; have HO_24 := n0_; have BK176 := n1_; have HO187 := n2_; have HB := n3_; have HO190 := n4_; clear n0_ n1_ n2_ n3_ n4_; clear ho hb hg hat))
        go_roundg k1
        case measure => have := HK1.out; omega
        case rel => exact ⟨(y188), (wrap64 (x26_1 + 1)), (by first | rfl | (simp; done) | (simp [*]; done)), H', ⟨by have := HK1.out; omega⟩, ⟨by (with_reducible repeat (first | apply Kd.R_alloc | apply Kd.R_drewN | apply Kd.R_drew)); exact Kd.R_mono HO190.out (fun _ hk => trivial)⟩, ⟨(a19_ HO_24.out)⟩, ⟨by exact BK176.out⟩, ⟨(a1_ HB.out GE176.out)⟩⟩
       ·
        rw [if_neg c17] at H; exact absurd H (by simp)
      ·
       rw [if_neg c15] at H; exact absurd H (by simp)
     ·
      rw [if_neg c14] at H; exact absurd H (by simp)
    ·
     rw [if_neg c13] at H; have c13b0 : decide (x26_1 < (y181.length : Int)) = false := decide_eq_false c13; clear c13; replace H := Option.bind_eq_some_iff.mp H; obtain ⟨t191, A210, H⟩ := H; have A21 := Aside0.mk A210; clear A210; by_cases c22 : x3_1.length + t191.size < 140737488355328
     ·
      rw [if_pos c22] at H; have LMc22 := Aside0.mk c22; clear c22; obtain ⟨y192, hy192⟩ : ∃ y_ : List Int, y_ = (x3_1 ++ bytesOf t191) := ⟨_, rfl⟩; replace H : ((impl_numBytes.f k1 (l0_7.length : Int)).bind fun t195 => (if y192.length + t195.length < 140737488355328 then (impl_EventBytes.l1 k1 (y192 ++ t195) l0_7 (l0_7.length : Int) 0 a0_0 a0_1 a0_2 a0_3 a0_4 a0_5 a0_6 l0_7 a0_8) else (none))) = some r := by first | (rw [hy192]; exact H) | exact H
      have Ny192 := Aside0.mk hy192; clear hy192; replace H := Option.bind_eq_some_iff.mp H; obtain ⟨t195, A230, H⟩ := H; have A23 := Aside0.mk A230; clear A230; by_cases c24 : y192.length + t195.length < 140737488355328
      ·
       rw [if_pos c24] at H; have LMc24 := Aside0.mk c24; clear c24; obtain ⟨y198, hy198⟩ : ∃ y_ : List Int, y_ = (y192 ++ t195) := ⟨_, rfl⟩; replace H : (impl_EventBytes.l1 k1 y198 l0_7 (l0_7.length : Int) 0 a0_0 a0_1 a0_2 a0_3 a0_4 a0_5 a0_6 l0_7 a0_8) = some r := by first | (rw [hy198]; exact H) | exact H
       have Ny198 := Aside0.mk hy198; clear hy198; have H' := Aside0.mk H; clear H; try go_wp2
       replace HO_3 := Aside0.mk (Kd.R_drew HO_3.out); replace HO_24 := Aside0.mk (Kd.R_drew HO_24.out); replace BK176 := Aside0.mk (blk_drew BK176.out); replace HB := Aside0.mk (below_drew1 HB.out); refine start_ (n := 11) (S := fun w' => w'.cell? ⟨gb176, 0, none⟩ = some (.int .i64 a0_0) ∧ w'.cell? ⟨gb176, 1, none⟩ = some (.int .i64 a0_1) ∧ w'.cell? ⟨gb176, 2, none⟩ = some (.int .i64 a0_2) ∧ w'.cell? ⟨gb176, 3, none⟩ = some (.int .i64 a0_3) ∧ w'.cell? ⟨gb176, 4, none⟩ = some (.int .i64 a0_4) ∧ w'.cell? ⟨gb176, 5, none⟩ = some (.int .i64 a0_5) ∧ w'.cell? ⟨gb176, 6, none⟩ = some (.string a0_6) ∧ w'.cell? ⟨gb176, 7, none⟩ = some (.slice A0_7 l0_7.length c0_7) ∧ w'.cell? ⟨gb176, 8, none⟩ = some (.int .i64 a0_8)) (ds := []) #[false, false, false, false, false, false, false, false, false, false, false] (by kernel_rfl) rfl rfl ⟨bc_ BK176.out 0, bc_ BK176.out 1, bc_ BK176.out 2, bc_ BK176.out 3, bc_ BK176.out 4, bc_ BK176.out 5, bc_ BK176.out 6, bc_ BK176.out 7, bc_ BK176.out 8⟩ (fun hHeld => ?_); refine with_tabW impl_EventBytes.tab9 impl_EventBytes.bits9 (fun HT_ HW_ => ?_); generalize wr.drew = w25 at HO_3 HO_24 BK176 HB hHeld ⊢; refine p_ 0 (some 35) HT_.out (bm 11 1) ?_; refine p_ 1 (some 36) HT_.out (bm 11 3) ?_; refine p_ 5 (some 40) HT_.out (bm 11 35) ?_; refine t_ 2 (some 37) (bm 11 39) (take_ofW HT_.out HW_.out (by kernel_rfl)) hHeld ?_; refine t_ 6 (some 41) (bm 11 103) (take_ofW HT_.out HW_.out (by kernel_rfl)) hHeld ?_
       refine p_ 7 (some 42) HT_.out (bm 11 231) ?_; refine one_ (i := 3) (N := some 38) (bm 11 239) rfl rfl (one_of HT_.out (by kernel_rfl)) (by decide) (fun K hK => ?_); refine gs_ Try.func22 #[.string a0_6] ?_; with_reducible refine (impl_PutText.calls k1 a0_6 t191 _ A21.out).mono ?_
       rintro e w26 ⟨rfl, hb⟩; refine ⟨_, rfl, ?_⟩; replace HO_3 := Aside0.mk (Kd.R_below HO_3.out hb); replace HO_24 := Aside0.mk (Kd.R_below HO_24.out hb); replace BK176 := Aside0.mk (blk_below BK176.out hb); replace HB := Aside0.mk (below_step HB.out hb); (try clear hb); (try clear hb2); (try clear hk); (try clear hi); refine hK.out _ _ ⟨bc_ BK176.out 0, bc_ BK176.out 1, bc_ BK176.out 2, bc_ BK176.out 3, bc_ BK176.out 4, bc_ BK176.out 5, bc_ BK176.out 6, bc_ BK176.out 7, bc_ BK176.out 8⟩ (fun hHeld => ?_); clear hK K; refine n_ (some 38) ?_; refine one_ (i := 4) (N := some 39) (bm 11 255) rfl rfl (one_of HT_.out (by kernel_rfl)) (by decide) (fun K hK => ?_); refine print_append_str_step (w0 := w) w.heap.size (by rfl) (.tmp 35) _ 22 9 5 rfl Try.underlying22 Try.underlying9 info5 u3 x3_1 t191 rfl rfl ?aO ?aB ?aS ?aL ?_; (case aB => exact HB.out)
       (case aO => exact (Kd.own_of_R HO_3.out))
       (case aS => exact (below_size HB.out))
       (case aL => have := LMc22.out; omega)
       intro v193 w27 ho0 hb hg; have ho := Kd.R_of_own (h1 := fun _ => rfl) (ok := fun _ => True) ho0 (fun _ _ => trivial); clear ho0; have hat := True.intro; rw [← Ny192.out] at ho; change Kd.R (Kd.int .u8) 5 w27 w.heap.size (fun _ => True) v193 y192 at ho
       have n0_ := Aside0.mk (Kd.R_over' HO_24.out (Kd.R_typed HO_3.out) (by decide) hg); have n1_ := Aside0.mk (blk_grown BK176.out hg (Kd.R_ne HO_3.out BK176.out (by decide))); have n2_ := Aside0.mk (hb); have n3_ := Aside0.mk (ho); clear HO_24; clear BK176; clear HB; clear HO_3; have HO_24 := n0_; have BK176 := n1_; have HB := n2_; have HO194 := n3_; clear n0_ n1_ n2_ n3_; clear ho hb hg hat; refine hK.out _ _ ⟨bc_ BK176.out 0, bc_ BK176.out 1, bc_ BK176.out 2, bc_ BK176.out 3, bc_ BK176.out 4, bc_ BK176.out 5, bc_ BK176.out 6, bc_ BK176.out 7, bc_ BK176.out 8⟩ (fun hHeld => ?_); clear hK K; refine n_ (some 39) ?_; refine one_ (i := 8) (N := some 43) (bm 11 511) rfl rfl (one_of HT_.out (by kernel_rfl)) (by decide) (fun K hK => ?_); refine gs_ Try.func21 #[.int .i64 (l0_7.length : Int)] ?_; with_reducible refine (impl_numBytes.calls k1 (l0_7.length : Int) t195 _ A23.out).mono ?_
       rintro e w28 ⟨v196, rfl, ho0, hb⟩; refine ⟨_, rfl, ?_⟩; replace HO_24 := Aside0.mk (Kd.R_below HO_24.out hb); have HO197 := Aside0.mk (Kd.R_lower (Kd.R_new' ho0 (Kd.R_lt HO194.out)) (below_size HB.out)); replace HO194 := Aside0.mk (Kd.R_elder' HO194.out (Kd.R_base ho0) hb); replace BK176 := Aside0.mk (blk_below BK176.out hb); replace HB := Aside0.mk (below_step HB.out hb); (try clear hb); (try clear hb2); (try clear hk); (try clear hi); (try clear ho0); obtain ⟨Ao30, co30, eo30⟩ := Kd.R_slice HO197.out; (first | subst eo30 | (injection eo30 with f1_ f2_ f3_; have f4_ := f1_.symm; have f5_ := f3_.symm; clear f1_ f2_ f3_; subst f4_; subst f5_))
       refine hK.out _ _ ⟨bc_ BK176.out 0, bc_ BK176.out 1, bc_ BK176.out 2, bc_ BK176.out 3, bc_ BK176.out 4, bc_ BK176.out 5, bc_ BK176.out 6, bc_ BK176.out 7, bc_ BK176.out 8⟩ (fun hHeld => ?_); clear hK K; refine n_ (some 43) ?_; refine one_ (i := 9) (N := some 44) (bm 11 1023) rfl rfl (one_of HT_.out (by kernel_rfl)) (by decide) (fun K hK => ?_); refine Kd.R_append_rows_step (Kd.int .u8) (w0 := w) w.heap.size (by rfl) (.tmp 39) (.tmp 43) 22 5 (.int .u8 0) 1 rfl Try.underlying22 info5 rfl (by decide) (by omega) v193 y192 t195 _ _ _ (fun k_ => some k_ ≠ (.slice Ao30 t195.length co30 : Value).ownBlock) (fun _ => False) rfl rfl ?aO ?aR (fun _ _ h => h) (fun _ h => h.elim) ?aF ?aB ?aS ?aL ?_; (case aR => exact (rr_ HO197.out))
       (case aB => exact HB.out)
       (case aF => exact (fun k_ hk => Kd.fresh' (Kd.R_lt HO197.out) k_ hk))
       (case aO => exact (Kd.R_mono HO194.out (fun _ hk => hk.2)))
       (case aS => exact (below_size HB.out))
       (case aL => have := LMc24.out; omega)
       intro v199 w29 ho hb hg hat; rw [← Ny198.out] at ho; have n0_ := Aside0.mk (Kd.R_over' HO_24.out (Kd.R_typed HO194.out) (by decide) hg); have n1_ := Aside0.mk (blk_grown BK176.out hg (Kd.R_ne HO194.out BK176.out (by decide))); have n2_ := Aside0.mk (Kd.R_after (ok := (fun _ => True)) HO197.out hg hat); have n3_ := Aside0.mk (hb); have n4_ := Aside0.mk (ho); clear HO_24; clear BK176; clear HO197; clear HB; clear HO194; have HO_24 := n0_; have BK176 := n1_; have HO197 := n2_; have HB := n3_; have HO200 := n4_; clear n0_ n1_ n2_ n3_ n4_; clear ho hb hg hat; refine hK.out _ _ ⟨bc_ BK176.out 0, bc_ BK176.out 1, bc_ BK176.out 2, bc_ BK176.out 3, bc_ BK176.out 4, bc_ BK176.out 5, bc_ BK176.out 6, bc_ BK176.out 7, bc_ BK176.out 8⟩ (fun hHeld => ?_); clear hK K; refine n_ (some 44) ?_; refine p_ 10 (some 3) HT_.out (bm 11 2047) ?_; refine done_ (done_of HT_.out (by kernel_rfl)) ?_; obtain ⟨⟨hcz31_0, hcz31_1, hcz31_2, hcz31_3, hcz31_4, hcz31_5, hcz31_6, hcz31_7, hcz31_8⟩, hfz31_0, hfz31_1, hfz31_2, hfz31_3, hfz31_4, hfz31_5, hfz31_6, hfz31_7, hfz31_8⟩ := cells_9 BK176.out; try go_wp2
       go_loopg [3, 48] k1 (fun kq v3 v48 w' => ∃ (x3_2 : List Int) (x48_2 : Int), v48 = .int .i64 x48_2 ∧ Aside0 (impl_EventBytes.l1 kq x3_2 l0_7 (l0_7.length : Int) x48_2 a0_0 a0_1 a0_2 a0_3 a0_4 a0_5 a0_6 l0_7 a0_8 = some r) ∧ Aside0 (kq ≤ k1) ∧ Aside0 (Kd.R (Kd.int .u8) 5 w' w.heap.size (fun _ => True) v3 x3_2) ∧ Aside0 (w'.heap[gb176]? = some (.cells #[.int .i64 a0_0, .int .i64 a0_1, .int .i64 a0_2, .int .i64 a0_3, .int .i64 a0_4, .int .i64 a0_5, .string a0_6, (.slice A0_7 l0_7.length c0_7), .int .i64 a0_8] 25 (0, 0))) ∧ Aside0 (Below w.heap.size w w'))
       case atStart => exact ⟨(y198), (0), (by first | rfl | (simp; done) | (simp [*]; done)), H', ⟨Nat.le_refl _⟩, ⟨by (with_reducible repeat (first | apply Kd.R_alloc | apply Kd.R_drewN | apply Kd.R_drew)); exact Kd.R_mono HO200.out (fun _ hk => trivial)⟩, ⟨by exact BK176.out⟩, ⟨(a1_ HB.out GE176.out)⟩⟩
       case round =>
        clear H'; (try clear c1); (try clear p1); (try clear q1); (try clear hx1); (try clear c2); (try clear p2); (try clear c3); (try clear c5); (try clear p6); (try clear c13); (try clear c13b0); (try clear c14); (try clear c14b0); (try clear c15); (try clear c15b0); (try clear c17); (try clear p18); (try clear q18); (try clear hx18); (try clear c21); (try clear c22); (try clear c24); (try clear hcz31_0); (try clear hcz31_1); (try clear hcz31_2); (try clear hcz31_3); (try clear hcz31_4); (try clear hcz31_5); (try clear hcz31_6); (try clear hcz31_7); (try clear hcz31_8); (try clear hcz5_0); (try clear hcz5_1); (try clear hcz5_2); (try clear hcz5_3); (try clear hcz5_4); (try clear hcz5_5); (try clear hcz5_6); (try clear hcz5_7); (try clear hcz5_8); (try clear hcz9_0); (try clear hcz9_1); (try clear hcz9_2); (try clear hcz9_3); (try clear hcz9_4); (try clear hcz9_5); (try clear hcz9_6); (try clear hcz9_7); (try clear hcz9_8); (try clear hfz31_0); (try clear hfz31_1); (try clear hfz31_2); (try clear hfz31_3); (try clear hfz31_4); (try clear hfz31_5); (try clear hfz31_6); (try clear hfz31_7); (try clear hfz31_8); (try clear hfz5_0); (try clear hfz5_1); (try clear hfz5_2); (try clear hfz5_3); (try clear hfz5_4); (try clear hfz5_5); (try clear hfz5_6); (try clear hfz5_7); (try clear hfz5_8); (try clear hfz9_0); (try clear hfz9_1); (try clear hfz9_2); (try clear hfz9_3); (try clear hfz9_4); (try clear hfz9_5); (try clear hfz9_6); (try clear hfz9_7); (try clear hfz9_8); (try clear hx184_0)
        (try clear p184); (try clear p2); (try clear q184); obtain ⟨x3_2, x48_2, rfl, HA, HK2, HO_3, BK176, HB⟩ := hrel
        cases gk with
        | zero => exact absurd HA.out (by simp [impl_EventBytes.l1])
        | succ k2 =>
         have H := HA.out; clear HA; simp only [impl_EventBytes.l1] at H; by_cases c32 : x48_2 < (l0_7.length : Int)
         ·
          rw [if_pos c32] at H; have c32b0 : decide (x48_2 < (l0_7.length : Int)) = true := decide_eq_true c32; clear c32; by_cases c33 : 0 ≤ x48_2
          ·
           rw [if_pos c33] at H; have c33b0 : decide (0 ≤ x48_2) = true := decide_eq_true c33; clear c33; by_cases c34 : x48_2 < (l0_7.length : Int)
           ·
            rw [if_pos c34] at H; have c34b0 : decide (x48_2 < (l0_7.length : Int)) = true := decide_eq_true c34; clear c34; replace H := Option.bind_eq_some_iff.mp H; obtain ⟨t202, A350, H⟩ := H; have A35 := Aside0.mk A350; clear A350; by_cases c36 : x3_2.length + t202.length < 140737488355328
            ·
             rw [if_pos c36] at H; have LMc36 := Aside0.mk c36; clear c36; obtain ⟨y205, hy205⟩ : ∃ y_ : List Int, y_ = (x3_2 ++ t202) := ⟨_, rfl⟩; replace H : (impl_EventBytes.l1 k2 y205 l0_7 (l0_7.length : Int) (wrap64 (x48_2 + 1)) a0_0 a0_1 a0_2 a0_3 a0_4 a0_5 a0_6 l0_7 a0_8) = some r := by first | (rw [hy205]; exact H) | exact H
             have Ny205 := Aside0.mk hy205; clear hy205; have H' := Aside0.mk H; clear H; have p201 : 0 ≤ (x48_2 : Int) := d_; have q201 : x48_2 < (l0_7.length : Int) := d_; obtain ⟨ad201, e201, hx201_0⟩ := Kd.at_int HR0_7.out x48_2 p201 q201; cases e201; replace hx201_0 := ce_ HB.out hx201_0; replace p201 := eq_true p201; replace q201 := eq_true q201; go_wp2_with (first | ((with_reducible refine gate_callee (f := 21) rfl ?_); refine gl_ (some 54) Try.func21 #[.int .i64 (rd l0_7 x48_2)] ?_; (with_reducible refine (impl_numBytes.calls k2 (rd l0_7 x48_2) t202 _ A35.out).mono ?_); rintro e w37 ⟨v203, rfl, ho0, hb⟩; refine ⟨_, rfl, ?_⟩; have HO204 := Aside0.mk (Kd.R_lower (Kd.R_new' ho0 (Kd.R_lt HO_3.out)) (below_size HB.out)); replace HO_3 := Aside0.mk (Kd.R_elder' HO_3.out (Kd.R_base ho0) hb); replace BK176 := Aside0.mk (blk_below BK176.out hb); replace HB := Aside0.mk (below_step HB.out hb); (try clear hb); (try clear hb2); (try clear hk); (try clear hi); (try clear ho0); obtain ⟨Ao39, co39, eo39⟩ := Kd.R_slice HO204.out; subst eo39) | ((with_reducible refine gate_builtin (b := .append) (xs := #[.tmp 52, .tmp 54]) rfl ?_); at_builtin; refine Kd.R_append_rows (Kd.int .u8) (w0 := w) w.heap.size rfl (.tmp 52) (.tmp 54) 22 5 (.int .u8 0) 1 rfl Try.underlying22 info5 rfl (by decide) (by omega) u3 x3_2 t202 _ _ _ (fun k_ => some k_ ≠ (.slice Ao39 t202.length co39 : Value).ownBlock) (fun _ => False) rfl rfl ?aO ?aR (fun _ _ h => h) (fun _ h => h.elim) ?aF ?aB ?aS ?aL ?_; (case aR => exact (rr_ HO204.out)); (case aB => exact HB.out); (case aF => exact (fun k_ hk => Kd.fresh' (Kd.R_lt HO204.out) k_ hk)); (case aO => exact (Kd.R_mono HO_3.out (fun _ hk => hk.2))); (case aS => exact (below_size HB.out)); (case aL => have := LMc36.out; omega); intro v206 w38 ho hb hg hat; rw [← Ny205.out] at ho; have n0_ := Aside0.mk (blk_grown BK176.out hg (Kd.R_ne HO_3.out BK176.out (by decide))); have n1_ := Aside0.mk (Kd.R_after (ok := (fun _ => True)) HO204.out hg hat); have n2_ := Aside0.mk (hb); have n3_ := Aside0.mk (ho); clear BK176; clear HO204; clear HB; clear HO_3; have BK176 := n0_; have HO204 := n1_; have HB := n2_; have HO207 := n3_; clear n0_ n1_ n2_ n3_; clear ho hb hg hat))
             go_roundg k2
             case measure => have := HK1.out; have := HK2.out; omega
             case rel => exact ⟨(y205), (wrap64 (x48_2 + 1)), (by first | rfl | (simp; done) | (simp [*]; done)), H', ⟨by have := HK1.out; have := HK2.out; omega⟩, ⟨by (with_reducible repeat (first | apply Kd.R_alloc | apply Kd.R_drewN | apply Kd.R_drew)); exact Kd.R_mono HO207.out (fun _ hk => trivial)⟩, ⟨by exact BK176.out⟩, ⟨(a1_ HB.out GE176.out)⟩⟩
            ·
             rw [if_neg c36] at H; exact absurd H (by simp)
           ·
            rw [if_neg c34] at H; exact absurd H (by simp)
          ·
           rw [if_neg c33] at H; exact absurd H (by simp)
         ·
          rw [if_neg c32] at H; have c32b0 : decide (x48_2 < (l0_7.length : Int)) = false := decide_eq_false c32; clear c32; replace H := Option.bind_eq_some_iff.mp H; obtain ⟨t208, A400, H⟩ := H; have A40 := Aside0.mk A400; clear A400; by_cases c41 : x3_2.length + t208.length < 140737488355328
          ·
           rw [if_pos c41] at H; have LMc41 := Aside0.mk c41; clear c41; obtain ⟨y211, hy211⟩ : ∃ y_ : List Int, y_ = (x3_2 ++ t208) := ⟨_, rfl⟩; replace H : ((impl_Seal.f k2 (strOfNums y211)).bind fun t214 => (some t214)) = some r := by first | (rw [hy211]; exact H) | exact H
           have Ny211 := Aside0.mk hy211; clear hy211; replace H := Option.bind_eq_some_iff.mp H; obtain ⟨t214, A420, H⟩ := H; have A42 := Aside0.mk A420; clear A420; obtain rfl := Option.some.inj H; obtain ⟨⟨hcz43_0, hcz43_1, hcz43_2, hcz43_3, hcz43_4, hcz43_5, hcz43_6, hcz43_7, hcz43_8⟩, hfz43_0, hfz43_1, hfz43_2, hfz43_3, hfz43_4, hfz43_5, hfz43_6, hfz43_7, hfz43_8⟩ := cells_9 BK176.out; go_wp2_with (first | ((with_reducible refine gate_callee (f := 21) rfl ?_); refine gl_ (some 60) Try.func21 #[.int .i64 a0_8] ?_; (with_reducible refine (impl_numBytes.calls k2 a0_8 t208 _ A40.out).mono ?_); rintro e w44 ⟨v209, rfl, ho0, hb⟩; refine ⟨_, rfl, ?_⟩; have HO210 := Aside0.mk (Kd.R_lower (Kd.R_new' ho0 (Kd.R_lt HO_3.out)) (below_size HB.out)); replace HO_3 := Aside0.mk (Kd.R_elder' HO_3.out (Kd.R_base ho0) hb); replace BK176 := Aside0.mk (blk_below BK176.out hb); replace HB := Aside0.mk (below_step HB.out hb); (try clear hb); (try clear hb2); (try clear hk); (try clear hi); (try clear ho0); obtain ⟨Ao46, co46, eo46⟩ := Kd.R_slice HO210.out; subst eo46) | ((with_reducible refine gate_builtin (b := .append) (xs := #[.tmp 57, .tmp 60]) rfl ?_); at_builtin; refine Kd.R_append_rows (Kd.int .u8) (w0 := w) w.heap.size rfl (.tmp 57) (.tmp 60) 22 5 (.int .u8 0) 1 rfl Try.underlying22 info5 rfl (by decide) (by omega) u3 x3_2 t208 _ _ _ (fun k_ => some k_ ≠ (.slice Ao46 t208.length co46 : Value).ownBlock) (fun _ => False) rfl rfl ?aO ?aR (fun _ _ h => h) (fun _ h => h.elim) ?aF ?aB ?aS ?aL ?_; (case aR => exact (rr_ HO210.out)); (case aB => exact HB.out); (case aF => exact (fun k_ hk => Kd.fresh' (Kd.R_lt HO210.out) k_ hk)); (case aO => exact (Kd.R_mono HO_3.out (fun _ hk => hk.2))); (case aS => exact (below_size HB.out)); (case aL => have := LMc41.out; omega); intro v212 w45 ho hb hg hat; rw [← Ny211.out] at ho; have n0_ := Aside0.mk (blk_grown BK176.out hg (Kd.R_ne HO_3.out BK176.out (by decide))); have n1_ := Aside0.mk (Kd.R_after (ok := (fun _ => True)) HO210.out hg hat); have n2_ := Aside0.mk (hb); have n3_ := Aside0.mk (ho); clear BK176; clear HO210; clear HB; clear HO_3; have BK176 := n0_; have HO210 := n1_; have HB := n2_; have HO213 := n3_; clear n0_ n1_ n2_ n3_; clear ho hb hg hat; have hcv47 := own_string (P := Try.prog) Try.underlying22 Try.underlying5 Try.underlying9 (Kd.own_of_R HO213.out)) | ((with_reducible refine gate_callee (f := 23) rfl ?_); refine gl_ (some 63) Try.func23 #[.string (strOfNums y211)] ?_; (with_reducible refine (impl_Seal.calls k2 (strOfNums y211) t214 _ A42.out).mono ?_); rintro e w48 ⟨rfl, hb⟩; refine ⟨_, rfl, ?_⟩; replace HO210 := Aside0.mk (Kd.R_below HO210.out hb); replace HO213 := Aside0.mk (Kd.R_below HO213.out hb); replace BK176 := Aside0.mk (blk_below BK176.out hb); replace HB := Aside0.mk (below_step HB.out hb); (try clear hb); (try clear hb2); (try clear hk); (try clear hi)))
           go_ret
           exact ⟨a3_, (a1_ HB.out GE176.out)⟩
          ·
           rw [if_neg c41] at H; exact absurd H (by simp)
      ·
       rw [if_neg c24] at H; exact absurd H (by simp)
     ·
      rw [if_neg c22] at H; exact absurd H (by simp)
 ·
  replace c3 := Bool.eq_false_iff.mpr c3; subst c3; rw [if_neg (show ¬ (false = true) by decide)] at H; obtain rfl := Option.some.inj H; go_wp2
  go_ret
  exact ⟨a3_, (a1_ HB.out GE176.out)⟩
/-! ### spec_l02Is: function 41 -/
def spec_l02Is.f (a0 : Int) (a1 : Int) (a2 : Int) : Option (Bool) := if a0 ≥ a1 then (some (decide (a0 ≤ a2))) else (some false)
theorem spec_l02Is.calls (a0 : Int) (a1 : Int) (a2 : Int) (r : Bool) (w : World) (h : spec_l02Is.f a0 a1 a2 = some r) :
    Calls Try.prog 41 #[.int .i64 a0, .int .i64 a1, .int .i64 a2] w fun e w' => e = .returned (.bool r) ∧ Drawn0 w w' := by
 have H : (if a0 ≥ a1 then (some (decide (a0 ≤ a2))) else (some false)) = some r := h; clear h; by_cases c4 : a0 ≥ a1
 ·
  rw [if_pos c4] at H; have c4b0 : decide (a1 ≤ a0) = true := decide_eq_true c4; clear c4; obtain rfl := Option.some.inj H; go_enter Try.func41, Try.ntmps41; go_wp2
  go_ret
  exact ⟨by first | rfl | (simp; done) | (simp [*]; done), by repeat (first | exact Drawn0.refl _ | apply Drawn0.step)⟩
 ·
  rw [if_neg c4] at H; have c4b0 : decide (a1 ≤ a0) = false := decide_eq_false c4; clear c4; obtain rfl := Option.some.inj H; go_enter Try.func41, Try.ntmps41; go_wp2
  go_ret
  exact ⟨by first | rfl | (simp; done) | (simp [*]; done), by repeat (first | exact Drawn0.refl _ | apply Drawn0.step)⟩

/-! ### spec_l02Id: function 40 -/
def spec_l02Id.f (a0 : Int) : Option (Bool) := (spec_l02Is.f a0 1 1000000).bind fun t215 => (some t215)
theorem spec_l02Id.calls (a0 : Int) (r : Bool) (w : World) (h : spec_l02Id.f a0 = some r) :
    Calls Try.prog 40 #[.int .i64 a0] w fun e w' => e = .returned (.bool r) ∧ Drawn0 w w' := by
 have H : ((spec_l02Is.f a0 1 1000000).bind fun t215 => (some t215)) = some r := h; clear h; replace H := Option.bind_eq_some_iff.mp H; obtain ⟨t215, A20, H⟩ := H; have A2 := Aside0.mk A20; clear A20; obtain rfl := Option.some.inj H; go_enter Try.func40, Try.ntmps40; go_wp2_with (first | ((with_reducible refine gate_callee (f := 41) rfl ?_); refine gl_ (some 4) Try.func41 #[.int .i64 a0, .int .i64 1, .int .i64 1000000] ?_; (with_reducible refine (spec_l02Is.calls a0 1 1000000 t215 _ A2.out).mono ?_); rintro e w' ⟨rfl, ⟨nd, rfl⟩⟩; refine ⟨_, rfl, ?_⟩))
 go_ret
 exact ⟨by first | rfl | (simp; done) | (simp [*]; done), by repeat (first | exact Drawn0.refl _ | apply Drawn0.step)⟩

end Go.Proofs.Yteimdbmfgojioaa.Print
