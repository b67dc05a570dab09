/- The statement FnNums holds: FnNums of the program answers as the reference's, for all arguments that the statement takes. -/
import Derived.Test.YtnmbpjfljfmfmaaLemNu1
namespace Go.Proofs.Ytnmbpjfljfmfmaa.Pure
open Go.RowKit Go.Proofs.Ytnmbpjfljfmfmaa.Print Go.Proofs.YtnmbpjfljfmfmaaW.PrintWords Go.Proofs.YtnmbpjfljfmfmaaW.PrintLast

theorem u8_ext {a b : ByteArray} (h : a.data.toList = b.data.toList) : a = b := by
  cases a; cases b; simp at h; rw [h]
theorem extract_tail (a u : ByteArray) : (a ++ u).extract a.size (a ++ u).size = u := by
  apply u8_ext
  have e : (a ++ u).size = a.data.toList.length + u.data.toList.length := by rw [ByteArray.size_append]; rfl
  rw [ByteArray.data_extract, Array.toList_extract, List.extract_eq_take_drop, e, data_append, show a.size = a.data.toList.length from rfl, Nat.add_sub_cancel_left, List.drop_left, List.take_length]
/-- What the law asks of a number. -/
theorem nums_leg (n : Int) (h0 : -9223372036854775808 ≤ n) (h1 : n ≤ 9223372036854775807) (p : ByteArray) (hp : p = strOfNums (enc (zig n))) :
    getNumS (((⟨#[120, 121]⟩ : ByteArray) ++ p) ++ (⟨#[122]⟩ : ByteArray)) 2 = (n, (p.size : Int) + 2, 0) ∧ getNumS (p.extract 0 (p.size - 1)) 0 = (0, 0, 4) := by
  have hs : p.size = (enc (zig n)).length := by rw [hp, size_strOfNums]
  have hd : p.data.toList = (enc (zig n)).map fun n => UInt8.ofNat n.toNat := by rw [hp]; rfl
  have hl := enc_zig_length h0 h1
  have hpos := enc_pos (zig n)
  have e1 : ((((⟨#[120, 121]⟩ : ByteArray) ++ p) ++ (⟨#[122]⟩ : ByteArray))).size = p.size + 3 := by
    rw [ByteArray.size_append, ByteArray.size_append, show (⟨#[120, 121]⟩ : ByteArray).size = 2 from rfl, show (⟨#[122]⟩ : ByteArray).size = 1 from rfl]; omega
  have e2 : (p.extract 0 (p.size - 1)).size = p.size - 1 := by rw [ByteArray.size_extract]; omega
  constructor
  · unfold getNumS
    rw [if_neg (by omega)]
    have := getNum_enc [120, 121] [122] n h0 h1 (((⟨#[120, 121]⟩ : ByteArray) ++ p) ++ (⟨#[122]⟩ : ByteArray)) (by rw [data_append, data_append, hd])
    simp only [List.length_cons, List.length_nil] at this
    rw [show (2 : Int) = ((0 + 1 + 1 : Nat) : Int) from rfl, this, hs]
    congr 2; omega
  · unfold getNumS
    rw [if_neg (by omega)]
    exact getNum_short n h0 h1 _ (by omega) (by rw [data_take, hd, e2])
/-- What the law asks of a text. -/
theorem text_leg (u p : ByteArray) (hu : ¬ u.size > 8000) (hp : p = strOfNums (enc (zig u.size)) ++ u) (hs1 : p.size + 1 ≤ 8000) :
    getTextS ((⟨#[120]⟩ : ByteArray) ++ p) 1 = (u, (p.size : Int) + 1, 0) ∧ (getTextS (p.extract 0 (p.size - 1)) 0).2.2 = 4 := by
  have h0 : (-9223372036854775808 : Int) ≤ (u.size : Int) := by omega
  have h1 : (u.size : Int) ≤ 9223372036854775807 := by omega
  have hl := enc_zig_length h0 h1
  have hpos := enc_pos (zig (u.size : Int))
  have hs : p.size = (enc (zig u.size)).length + u.size := by rw [hp, ByteArray.size_append, size_strOfNums]
  have hd : p.data.toList = ((enc (zig u.size)).map fun n => UInt8.ofNat n.toNat) ++ u.data.toList := by rw [hp, data_append]; rfl
  have e1 : ((⟨#[120]⟩ : ByteArray) ++ p).size = p.size + 1 := by
    rw [ByteArray.size_append, show (⟨#[120]⟩ : ByteArray).size = 1 from rfl]; omega
  have e2 : (p.extract 0 (p.size - 1)).size = p.size - 1 := by rw [ByteArray.size_extract]; omega
  constructor
  · have g := getNum_enc [120] u.data.toList u.size h0 h1 ((⟨#[120]⟩ : ByteArray) ++ p) (by rw [data_append, hd, List.append_assoc])
    simp only [List.length_cons, List.length_nil] at g
    have g2 : getNumS ((⟨#[120]⟩ : ByteArray) ++ p) 1 = ((u.size : Int), ((1 + (enc (zig (u.size : Int))).length : Nat) : Int), 0) := by
      unfold getNumS; rw [if_neg (by omega)]; exact g
    unfold getTextS
    rw [g2, textAt_ok _ _ rfl]
    simp only []
    rw [if_neg (by omega), if_neg (by omega)]
    have e3 : (((1 + (enc (zig (u.size : Int))).length : Nat) : Int) + (u.size : Int)) = (p.size : Int) + 1 := by omega
    rw [e3, show ((p.size : Int) + 1).toNat = p.size + 1 by omega, Int.toNat_natCast]
    have e4 : ((⟨#[120]⟩ : ByteArray) ++ p).extract (1 + (enc (zig (u.size : Int))).length) (p.size + 1) = u := by
      apply u8_ext
      rw [hp, ← ByteArray.append_assoc, show 1 + (enc (zig (u.size : Int))).length = ((⟨#[120]⟩ : ByteArray) ++ strOfNums (enc (zig (u.size : Int)))).size from by
        rw [ByteArray.size_append, size_strOfNums]; rfl]
      have hz : (((⟨#[120]⟩ : ByteArray) ++ strOfNums (enc (zig (u.size : Int)))) ++ u).size = (strOfNums (enc (zig (u.size : Int))) ++ u).size + 1 := by
        rw [ByteArray.size_append, ByteArray.size_append, ByteArray.size_append, show (⟨#[120]⟩ : ByteArray).size = 1 from rfl]; omega
      rw [← hz]
      rw [extract_tail]
    rw [e4]
  · by_cases hu0 : u.size = 0
    · have hl1 : (enc (zig (u.size : Int))).length = 1 := by rw [hu0, show zig ((0 : Nat) : Int) = 0 from rfl, enc_lt (by omega)]; rfl
      have hz : (p.extract 0 (p.size - 1)).size = 0 := by omega
      unfold getTextS getNumS
      rw [if_neg (by omega), getNum_short (u.size : Int) h0 h1 _ (by omega) ?_]
      · rfl
      · rw [hz]
        have : (p.extract 0 (p.size - 1)).data.toList.length = 0 := hz
        rw [List.eq_nil_of_length_eq_zero this]; rfl
    · have hlm : ((enc (zig (u.size : Int))).map fun n => UInt8.ofNat n.toNat).length = (enc (zig (u.size : Int))).length := List.length_map _
      have g := getNum_enc [] (u.data.toList.take (u.size - 1)) u.size h0 h1 (p.extract 0 (p.size - 1)) (by
        rw [data_take, hd, List.nil_append, List.take_append, List.take_of_length_le (by omega), hlm, show p.size - 1 - (enc (zig (u.size : Int))).length = u.size - 1 by omega])
      simp only [List.length_nil, Nat.zero_add] at g
      have g2 : getNumS (p.extract 0 (p.size - 1)) 0 = ((u.size : Int), (((enc (zig (u.size : Int))).length : Nat) : Int), 0) := by
        unfold getNumS; rw [if_neg (by omega)]; exact g
      unfold getTextS
      rw [g2, textAt_ok _ _ rfl]
      simp only []
      rw [if_neg (by omega), if_pos (by omega)]
theorem j3_ev (u : ByteArray) (hu : u.size ≤ 100000) (b : Bool) (hb : b = false → ¬ u.size > 8000) : Ev (fun k => laws_FnNums.j3 k u (putText u) b) true := by
  refine Ev.step (f := fun k => laws_FnNums.j3 (k + 1) u (putText u) b) (fun k => rfl) ?_
  simp only [laws_FnNums.j3]
  cases b with
  | true => exact Ev.pos rfl (Ev.bind (spec_PutText_ev u (by omega)) (Ev.to (by simp) (Ev.now _)))
  | false =>
    have h8 := hb rfl
    refine Ev.neg (by simp) ?_
    have hp : putText u = strOfNums (enc (zig u.size)) ++ u := by unfold putText; rw [if_neg h8]
    have hl := enc_zig_length (n := (u.size : Int)) (by omega) (by omega)
    have hpos := enc_pos (zig (u.size : Int))
    have hs : (putText u).size = (enc (zig u.size)).length + u.size := by rw [hp, ByteArray.size_append, size_strOfNums]
    generalize putText u = p at hp hs
    have e1 : wrap64 ((p.size : Int) + 1) = (p.size : Int) + 1 := by unfold wrap64; omega
    have e2 : wrap64 ((p.size : Int) - 1) = (p.size : Int) - 1 := by unfold wrap64; omega
    rw [e1, e2]
    by_cases c : (p.size : Int) + 1 > 8000
    · exact Ev.pos c (Ev.now _)
    refine Ev.neg c (Ev.pos (by omega) ?_)
    obtain ⟨g1, g2⟩ := text_leg u p h8 hp (by omega)
    have es : ((⟨#[120]⟩ : ByteArray) ++ p).size ≤ 140737488351232 := by
      rw [ByteArray.size_append, show (⟨#[120]⟩ : ByteArray).size = 1 from rfl]; omega
    have et : (p.extract 0 (p.size - 1)).size ≤ 140737488351232 := by rw [ByteArray.size_extract]; omega
    refine Ev.bind (impl_GetText_ev _ es 1 (by omega)) ?_
    rw [g1]
    refine Ev.pos (by simp) (Ev.pos (by omega) (Ev.pos (by omega) ?_))
    rw [show ((p.size : Int) - 1).toNat = p.size - 1 by omega]
    refine Ev.bind (impl_GetText_ev _ et 0 (by omega)) ?_
    rw [g2]
    exact Ev.now _
theorem j2_ev (l : List Int) (hl : l.length ≤ 140737488351232) : Ev (fun k => laws_FnNums.j2 k l false) true := by
  refine Ev.step (f := fun k => laws_FnNums.j2 (k + 1) l false) (fun k => rfl) ?_
  simp only [laws_FnNums.j2]
  obtain ⟨u, h, hu⟩ := DrawPutText_ev l (by omega)
  refine Ev.neg (by simp) (Ev.bind h (Ev.bind (impl_PutText_ev u (by omega)) (Ev.bind (spec_PutText_ev u (by omega)) (Ev.pos rfl ?_))))
  refine j3_ev u hu _ (fun hb c => ?_)
  have : putText u = ⟨#[]⟩ := by unfold putText; rw [if_pos c]
  rw [this] at hb
  exact absurd hb (by simp)
theorem j1_ev (l : List Int) (hl : l.length ≤ 140737488351232) (n : Int) (h0 : -9223372036854775808 ≤ n) (h1 : n ≤ 9223372036854775807) : Ev (fun k => laws_FnNums.j1 k l n (strOfNums (enc (zig n))) false) true := by
  refine Ev.step (f := fun k => laws_FnNums.j1 (k + 1) l n (strOfNums (enc (zig n))) false) (fun k => rfl) ?_
  simp only [laws_FnNums.j1]
  have hs : (strOfNums (enc (zig n))).size = (enc (zig n)).length := size_strOfNums _
  have hl' := enc_zig_length h0 h1
  have hpos := enc_pos (zig n)
  obtain ⟨g1, g2⟩ := nums_leg n h0 h1 _ rfl
  generalize strOfNums (enc (zig n)) = p at hs g1 g2
  have e1 : wrap64 ((p.size : Int) + 2) = (p.size : Int) + 2 := by unfold wrap64; omega
  have e2 : wrap64 ((p.size : Int) - 1) = (p.size : Int) - 1 := by unfold wrap64; omega
  have e3 : ((⟨#[120, 121]⟩ : ByteArray) ++ p).size = 2 + p.size := by rw [ByteArray.size_append]; rfl
  have e4 : (((⟨#[120, 121]⟩ : ByteArray) ++ p) ++ (⟨#[122]⟩ : ByteArray)).size ≤ 140737488351232 := by
    rw [ByteArray.size_append, e3, show (⟨#[122]⟩ : ByteArray).size = 1 from rfl]; omega
  have e5 : (p.extract 0 (p.size - 1)).size ≤ 140737488351232 := by rw [ByteArray.size_extract]; omega
  rw [e1, e2, e3]
  refine Ev.neg (by simp) (Ev.pos (by omega) (Ev.pos (by omega) (Ev.bind (impl_GetNum_ev _ e4 2 (by omega)) ?_)))
  rw [g1]
  refine Ev.neg (by simp) (Ev.pos (by omega) (Ev.pos (by omega) ?_))
  rw [show ((p.size : Int) - 1).toNat = p.size - 1 by omega]
  refine Ev.bind (impl_GetNum_ev _ e5 0 (by omega)) ?_
  rw [g2]
  exact j2_ev l hl
theorem FnNums : laws_FnNums.Pure := by
  intro l0 l1 _ h0 _ _ h1 _
  refine Ev.rounds (g := fun k => laws_FnNums.f k l0 l1) ?_
  have go : ∀ b : Bool, Ev (fun k => laws_FnNums.j0 k l0 l1 b) true := by
    intro b
    refine Ev.step (f := fun k => laws_FnNums.j0 (k + 1) l0 l1 b) (fun k => rfl) ?_
    simp only [laws_FnNums.j0]
    cases b with
    | true => exact Ev.pos rfl (Ev.now _)
    | false =>
      obtain ⟨n, h, hn0, hn1⟩ := DrawPutNum_ev l0 (by omega)
      have hs : (strOfNums (enc (zig n))).size = (enc (zig n)).length := size_strOfNums _
      have hl' := enc_zig_length hn0 hn1
      have hpos := enc_pos (zig n)
      refine Ev.neg (by simp) (Ev.bind h (Ev.bind (impl_PutNum_ev hn0 hn1) (Ev.bind (spec_PutNum_ev hn0 hn1) (Ev.pos rfl (Ev.neg (by omega) ?_)))))
      rw [decide_eq_false (by omega)]
      exact j1_ev l1 (by omega) n hn0 hn1
  unfold laws_FnNums.f
  by_cases c : (l0.length : Int) > 1048576
  · exact Ev.pos c (go _)
  · exact Ev.neg c (go _)

end Go.Proofs.Ytnmbpjfljfmfmaa.Pure
