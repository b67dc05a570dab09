/- Lemmas: what the printed functions come to. -/
import Derived.Test.YteimdbmfgojioaaLemEv
namespace Go.Proofs.Yteimdbmfgojioaa.Print
open Go.RowKit Go.Proofs.YteimdbmfgojioaaW.PrintWords Go.Proofs.YteimdbmfgojioaaW.PrintLast Go.Proofs.YteimdbmfgojioaaW.PrintMore
set_option linter.unusedVariables false
set_option linter.unusedSimpArgs false
theorem lwNums_l0 (l r : List Int) (h : l.length = r.length) (hl : l.length ≤ 9223372036854775806) (d : Nat) : ∀ i : Nat, i + d = l.length → Ev (fun k => laws_lwNums.l0 k l r (i : Int)) (decide (l.drop i = r.drop i)) := by
 induction d with
 | zero =>
  intro i hi
  refine Ev.one (fun k => ?_)
  simp only [laws_lwNums.l0]
  rw [if_neg (by omega), List.drop_of_length_le (by omega), List.drop_of_length_le (by omega)]; rfl
 | succ d ih =>
  intro i hi
  have hlt : i < l.length := by omega
  have hrt : i < r.length := by omega
  rw [drop_same l r i hlt hrt]
  by_cases c : l[i] = r[i]
  ·
   rw [decide_eq_true c, Bool.true_and]
   refine Ev.step (f := fun k => laws_lwNums.l0 k l r ((i + 1 : Nat) : Int)) (fun k => ?_) (ih (i + 1) (by omega))
   simp only [laws_lwNums.l0]
   rw [if_pos (by omega), if_pos (by omega), if_pos (by omega), rd_at hlt, rd_at hrt, if_pos c, w64 (by omega) (by omega)]; rfl
  ·
   rw [decide_eq_false c, Bool.false_and]
   refine Ev.one (fun k => ?_)
   simp only [laws_lwNums.l0]
   rw [if_pos (by omega), if_pos (by omega), if_pos (by omega), rd_at hlt, rd_at hrt, if_neg c]
theorem lwEvent_self (a0 a1 a2 a3 a4 a5 : Int) (s : ByteArray) (l : List Int) (a8 : Int) (hl : l.length ≤ 9223372036854775806) :
  Ev (fun k => laws_lwEvent.f k a0 a1 a2 a3 a4 a5 s l a8 a0 a1 a2 a3 a4 a5 s l a8) true := by
 have hn : Ev (fun k => laws_lwNums.f k l l) true := by
  unfold laws_lwNums.f
  exact Ev.pos rfl (by simpa using lwNums_l0 l l rfl hl l.length 0 (by omega))
 unfold laws_lwEvent.f
 exact Ev.pos rfl (Ev.pos rfl (Ev.pos rfl (Ev.pos rfl (Ev.pos rfl (Ev.pos rfl (Ev.pos rfl (Ev.pos rfl (Ev.bind hn (Ev.now _)))))))))
theorem incFrom_bounds : ∀ (l : List Int) (lo : Int), 1 ≤ lo → incFrom lo l = true → ∀ x ∈ l, 1 ≤ x ∧ x ≤ 1000000
 | [], _, _, _, x, hx => by cases hx
 | y :: r, lo, h1, h, x, hx => by
  unfold incFrom at h
  rw [Bool.and_eq_true, decide_eq_true_iff] at h
  rcases List.mem_cons.1 hx with rfl | hx
  ·
   omega
  ·
   exact incFrom_bounds r (y + 1) (by omega) h.2 x hx
theorem right_bounds {a0 a1 a2 a3 a4 a5 : Int} {s : ByteArray} {l : List Int} {t : Int} (h : evRight a0 a1 a2 a3 a4 a5 s l t = true) :
  i64r a0 ∧ i64r a1 ∧ i64r a2 ∧ i64r a3 ∧ i64r a4 ∧ i64r a5 ∧ s.size ≤ 30 ∧ l.length ≤ 4 ∧ (∀ x ∈ l, i64r x) ∧ i64r t := by
 have hk := evRight_kind h
 unfold evRight evRight0 prevRight at h
 simp only [Bool.and_eq_true, decide_eq_true_iff] at h
 obtain ⟨⟨h0, h1, h2, h8, ⟨hl, hi, _⟩, hf⟩, _⟩ := h
 have hf2 : (-10000000 ≤ a4 ∧ a4 ≤ 10000000) ∧ (-10000000 ≤ a5 ∧ a5 ≤ 10000000) ∧ s.size ≤ 30 := by
  unfold evFields at hf
  split at hf
  ·
   rw [decide_eq_true_iff] at hf; omega
  split at hf
  ·
   rw [decide_eq_true_iff] at hf; omega
  split at hf
  ·
   rw [decide_eq_true_iff] at hf; omega
  split at hf
  ·
   rw [decide_eq_true_iff] at hf; omega
  split at hf
  ·
   rw [decide_eq_true_iff] at hf; omega
  split at hf
  ·
   rw [decide_eq_true_iff] at hf; omega
  split at hf
  ·
   rw [decide_eq_true_iff] at hf; omega
  split at hf
  ·
   rw [decide_eq_true_iff] at hf; omega
  ·
   cases hf
 have hx := incFrom_bounds l 1 (by omega) hi
 exact ⟨⟨by omega, by omega⟩, ⟨by omega, by omega⟩, ⟨by omega, by omega⟩, ⟨by omega, by omega⟩, ⟨by omega, by omega⟩, ⟨by omega, by omega⟩, hf2.2.2, hl, fun x h => ⟨by have := hx x h; omega, by have := hx x h; omega⟩, ⟨by omega, by omega⟩⟩
def ebOf (a0 a1 a2 a3 a4 a5 : Int) (s : ByteArray) (l : List Int) (t : Int) : ByteArray := if evRight a0 a1 a2 a3 a4 a5 s l t = true then sealed (evB a0 a1 a2 a3 a4 a5 s l t) else ⟨#[]⟩
theorem spec_eb (a0 a1 a2 a3 a4 a5 : Int) (s : ByteArray) (l : List Int) (t : Int) (hl : l.length ≤ 9223372036854775806) : Ev (fun k => spec_EventBytes.f k a0 a1 a2 a3 a4 a5 s l t) (ebOf a0 a1 a2 a3 a4 a5 s l t) := by
 by_cases c : evRight a0 a1 a2 a3 a4 a5 s l t = true
 ·
  obtain ⟨h0, h1, h2, h3, h4, h5, hs, hn, hx, h8⟩ := right_bounds c
  exact spec_EB_ev a0 a1 a2 a3 a4 a5 s l t h0 h1 h2 h3 h4 h5 (by omega) hx (by omega) h8
 ·
  unfold ebOf; rw [if_neg c]
  unfold spec_EventBytes.f
  exact Ev.bind (spec_EventRight_ev a0 a1 a2 a3 a4 a5 s l t hl) (Ev.neg c (Ev.now _))
theorem impl_eb (a0 a1 a2 a3 a4 a5 : Int) (s : ByteArray) (l : List Int) (t : Int) (hl : l.length ≤ 9223372036854775806) : Ev (fun k => impl_EventBytes.f k a0 a1 a2 a3 a4 a5 s l t) (ebOf a0 a1 a2 a3 a4 a5 s l t) := by
 by_cases c : evRight a0 a1 a2 a3 a4 a5 s l t = true
 ·
  obtain ⟨h0, h1, h2, h3, h4, h5, hs, hn, hx, h8⟩ := right_bounds c
  exact impl_EB_ev a0 a1 a2 a3 a4 a5 s l t h0 h1 h2 h3 h4 h5 (by omega) hx (by omega) h8
 ·
  unfold ebOf; rw [if_neg c]
  unfold impl_EventBytes.f
  exact Ev.bind (impl_EventRight_ev a0 a1 a2 a3 a4 a5 s l t hl) (Ev.neg c (Ev.now _))
theorem pns_size : ∀ l : List Int, (∀ x ∈ l, i64r x) → (pns l).size ≤ 10 * l.length
 | [], _ => Nat.zero_le _
 | x :: r, h => by
  rw [pns_cons, ByteArray.size_append, List.length_cons]
  have h1 := pn_size (h x List.mem_cons_self)
  have h2 := pns_size r (fun y hy => h y (List.mem_cons_of_mem _ hy))
  omega
theorem evB_size {a0 a1 a2 a3 a4 a5 : Int} {s : ByteArray} {l : List Int} {t : Int} (h : evRight a0 a1 a2 a3 a4 a5 s l t = true) : (evB a0 a1 a2 a3 a4 a5 s l t).size ≤ 200 := by
 obtain ⟨h0, h1, h2, h3, h4, h5, hs, hn, hx, h8⟩ := right_bounds h
 unfold evB
 simp only [ByteArray.size_append]
 have e0 := pn_size h0
 have e1 := pn_size h1
 have e2 := pn_size h2
 have e3 := pn_size h3
 have e4 := pn_size h4
 have e5 := pn_size h5
 have e6 := putText_size s (by omega)
 have e7 := pn_size (len_i64 l.length (by omega))
 have e8 := pns_size l hx
 have e9 := pn_size h8
 omega
theorem eb_size (a0 a1 a2 a3 a4 a5 : Int) (s : ByteArray) (l : List Int) (t : Int) : (ebOf a0 a1 a2 a3 a4 a5 s l t).size ≤ 8000 := by
 unfold ebOf
 split
 ·
  rename_i c
  have := evB_size c
  rw [sealed_small (by omega), ByteArray.size_append, four_size]; omega
 ·
  exact Nat.zero_le _
theorem pn_data (n : Int) : (pn n).data.toList = (enc (zig n)).map fun n => UInt8.ofNat n.toNat := by unfold pn strOfNums; rfl
theorem inum_at {b P Q : ByteArray} {n : Int} (h : i64r n) (hb : b = P ++ (pn n ++ Q)) (hs : b.size ≤ 8000) : Ev (fun k => impl_decoder_num.f k b (P.size : Int) false) (n, b, ((P ++ pn n).size : Int), false) := by
 have hI := impl_getNum_ev b (by omega) (P.size : Int) (by have := congrArg ByteArray.size hb; rw [ByteArray.size_append] at this; omega)
 have hd : b.data.toList = P.data.toList ++ ((enc (zig n)).map fun n => UInt8.ofNat n.toNat) ++ Q.data.toList := by rw [hb, data_append, data_append, pn_data, List.append_assoc]
 have hp : P.data.toList.length = P.size := by simp
 have hg := getNum_enc P.data.toList Q.data.toList n h.1 h.2 b hd
 rw [hp] at hg
 rw [hg] at hI
 unfold impl_decoder_num.f
 refine Ev.bind hI (Ev.neg (by simp) (Ev.to ?_ (Ev.now _)))
 have : (P ++ pn n).size = P.size + (enc (zig n)).length := by rw [ByteArray.size_append]; unfold pn; rw [size_strOfNums]
 rw [this]; rfl
theorem istr_at {b P Q s : ByteArray} (h : s.size ≤ 30) (hb : b = P ++ (putText s ++ Q)) (hs : b.size ≤ 8000) : Ev (fun k => impl_decoder_str.f k b (P.size : Int) false) (s, b, ((P ++ putText s).size : Int), false) := by
 have hI := impl_GetText_ev b (by omega) (P.size : Int) (by have := congrArg ByteArray.size hb; rw [ByteArray.size_append] at this; omega)
 have hput : putText s = pn (s.size : Int) ++ s := by unfold putText pn; rw [if_neg (by omega)]
 have hb2 : b = P ++ (pn (s.size : Int) ++ (s ++ Q)) := by rw [hb, hput, ByteArray.append_assoc]
 have hd : b.data.toList = P.data.toList ++ ((enc (zig (s.size : Int))).map fun n => UInt8.ofNat n.toNat) ++ (s ++ Q).data.toList := by rw [hb2, data_append, data_append, pn_data, List.append_assoc]
 have hp : P.data.toList.length = P.size := by simp
 have hg := getNum_enc P.data.toList (s ++ Q).data.toList (s.size : Int) (by omega) (by omega) b hd
 rw [hp] at hg
 have hpn : (pn (s.size : Int)).size = (enc (zig (s.size : Int))).length := by unfold pn; rw [size_strOfNums]
 have hbs : b.size = P.size + ((pn (s.size : Int)).size + (s.size + Q.size)) := by rw [hb2]; simp only [ByteArray.size_append]
 have hv : getTextS b (P.size : Int) = (s, ((P ++ putText s).size : Int), 0) := by
  unfold getTextS
  rw [show getNumS b (P.size : Int) = getNumR b (P.size : Int) from by unfold getNumS; rw [if_neg (by omega)], hg, textAt_ok _ _ rfl]
  rw [if_neg (by show ¬ ((s.size : Int) < 0 ∨ 8000 < (s.size : Int)); omega), if_neg (by show ¬ ((b.size : Int) < ((P.size + (enc (zig (s.size : Int))).length : Nat) : Int) + (s.size : Int)); omega)]
  have e1 : (((P.size + (enc (zig (s.size : Int))).length : Nat) : Int)).toNat = P.size + (pn (s.size : Int)).size := by omega
  have e2 : ((((P.size + (enc (zig (s.size : Int))).length : Nat) : Int)) + (s.size : Int)).toNat = P.size + (pn (s.size : Int)).size + s.size := by omega
  show (b.extract (((P.size + (enc (zig (s.size : Int))).length : Nat) : Int)).toNat ((((P.size + (enc (zig (s.size : Int))).length : Nat) : Int)) + (s.size : Int)).toNat, (((P.size + (enc (zig (s.size : Int))).length : Nat) : Int)) + (s.size : Int), (0 : Int)) = _
  rw [e1, e2]
  have e3 : b.extract (P.size + (pn (s.size : Int)).size) (P.size + (pn (s.size : Int)).size + s.size) = s := by
   apply ba_ext
   have h1 : P.data.toList.length = P.size := by simp
   have h2 : (pn (s.size : Int)).data.toList.length = (pn (s.size : Int)).size := by simp
   have h3 : s.data.toList.length = s.size := by simp
   rw [hb2]
   simp only [ByteArray.data_extract, Array.toList_extract, data_append, List.extract_eq_take_drop]
   rw [← List.append_assoc, List.drop_append_of_le_length (by rw [List.length_append, h1, h2]; omega), List.drop_of_length_le (by rw [List.length_append, h1, h2]; omega), List.nil_append, List.take_append_of_le_length (by omega), List.take_of_length_le (by omega)]
  rw [e3]
  have e4 : ((P ++ putText s).size : Int) = ((P.size + (enc (zig (s.size : Int))).length : Nat) : Int) + (s.size : Int) := by
   rw [hput]; simp only [ByteArray.size_append]; omega
  rw [e4]
 rw [hv] at hI
 unfold impl_decoder_str.f
 exact Ev.bind hI (Ev.neg (by simp) (Ev.to (by rfl) (Ev.now _)))
theorem iloop_at (t b : ByteArray) (f0 f1 f2 f3 f4 f5 : Int) (s : ByteArray) (Q : ByteArray) (hs : b.size ≤ 8000) (R : EvT) : ∀ (todo done : List Int) (P : ByteArray), (∀ x ∈ todo, i64r x) → done.length + todo.length ≤ 4 → b = P ++ (pns todo ++ Q) →
  Ev (fun k => impl_EventRead.j1 k t b ((P ++ pns todo).size : Int) false f0 f1 f2 f3 f4 f5 s (done ++ todo) 0) R → Ev (fun k => impl_EventRead.l0 k t (todo.length : Int) b (P.size : Int) false f0 f1 f2 f3 f4 f5 s done 0) R
 | [], done, P, _, _, _, h => by
  refine Ev.step (f := fun k => impl_EventRead.l0 (k + 1) t (([] : List Int).length : Int) b (P.size : Int) false f0 f1 f2 f3 f4 f5 s done 0) (fun k => rfl) ?_
  simp only [impl_EventRead.l0]
  refine Ev.neg (by simp) ?_
  have e : (P ++ pns []).size = P.size := by rw [ByteArray.size_append]; rfl
  rw [e, List.append_nil] at h
  exact h
 | x :: r, done, P, hx, hn, hb, h => by
  rw [List.length_cons] at hn
  have hb2 : b = P ++ (pn x ++ (pns r ++ Q)) := by rw [hb, pns_cons, ByteArray.append_assoc]
  have hN := inum_at (hx x List.mem_cons_self) hb2 hs
  have ih := iloop_at t b f0 f1 f2 f3 f4 f5 s Q hs R r (done ++ [x]) (P ++ pn x) (fun y hy => hx y (List.mem_cons_of_mem _ hy)) (by rw [List.length_append, List.length_singleton]; omega) (by rw [hb2, ByteArray.append_assoc])
   (by rw [ByteArray.append_assoc, ← pns_cons, List.append_assoc]; exact h)
  refine Ev.step (f := fun k => impl_EventRead.l0 (k + 1) t ((x :: r).length : Int) b (P.size : Int) false f0 f1 f2 f3 f4 f5 s done 0) (fun k => rfl) ?_
  simp only [impl_EventRead.l0]
  refine Ev.pos (by rw [List.length_cons]; omega) (Ev.neg (by simp) (Ev.pos (by omega) (Ev.bind hN (Ev.pos (by omega) ?_))))
  rw [show wrap64 (((x :: r).length : Int) - 1) = (r.length : Int) from by rw [List.length_cons]; unfold wrap64; omega]
  exact ih
theorem read_back {a0 a1 a2 a3 a4 a5 : Int} {s : ByteArray} {l : List Int} {t : Int} (h : evRight a0 a1 a2 a3 a4 a5 s l t = true) :
  Ev (fun k => impl_EventRead.f k (sealed (evB a0 a1 a2 a3 a4 a5 s l t))) (a0, a1, a2, a3, a4, a5, s, l, t, 0) := by
 obtain ⟨h0, h1, h2, h3, h4, h5, hs, hn, hx, h8⟩ := right_bounds h
 have hsz := evB_size h
 have hss : (sealed (evB a0 a1 a2 a3 a4 a5 s l t)).size ≤ 8000 := by rw [sealed_small (by omega), ByteArray.size_append, four_size]; omega
 have hU := impl_Unseal_ev (sealed (evB a0 a1 a2 a3 a4 a5 s l t)) (by omega)
 rw [unsealed_sealed _ (by omega)] at hU
 have hE := impl_eb a0 a1 a2 a3 a4 a5 s l t (by omega)
 unfold ebOf at hE
 rw [if_pos h] at hE
 generalize hT : sealed (evB a0 a1 a2 a3 a4 a5 s l t) = T at hU hE ⊢
 clear hT hss
 generalize hb : evB a0 a1 a2 a3 a4 a5 s l t = b at hU hsz
 have b0 : b = (⟨#[]⟩ : ByteArray) ++ (pn a0 ++ (pn a1 ++ (pn a2 ++ (pn a3 ++ (pn a4 ++ (pn a5 ++ (putText s ++ (pn l.length ++ (pns l ++ pn t))))))))) := by rw [ba_nil, ← hb]; rfl
 have b1 : b = ((⟨#[]⟩ : ByteArray) ++ pn a0) ++ (pn a1 ++ (pn a2 ++ (pn a3 ++ (pn a4 ++ (pn a5 ++ (putText s ++ (pn l.length ++ (pns l ++ pn t)))))))) := by rw [b0]; simp only [ByteArray.append_assoc]
 have b2 : b = (((⟨#[]⟩ : ByteArray) ++ pn a0) ++ pn a1) ++ (pn a2 ++ (pn a3 ++ (pn a4 ++ (pn a5 ++ (putText s ++ (pn l.length ++ (pns l ++ pn t))))))) := by rw [b0]; simp only [ByteArray.append_assoc]
 have b3 : b = ((((⟨#[]⟩ : ByteArray) ++ pn a0) ++ pn a1) ++ pn a2) ++ (pn a3 ++ (pn a4 ++ (pn a5 ++ (putText s ++ (pn l.length ++ (pns l ++ pn t)))))) := by rw [b0]; simp only [ByteArray.append_assoc]
 have b4 : b = (((((⟨#[]⟩ : ByteArray) ++ pn a0) ++ pn a1) ++ pn a2) ++ pn a3) ++ (pn a4 ++ (pn a5 ++ (putText s ++ (pn l.length ++ (pns l ++ pn t))))) := by rw [b0]; simp only [ByteArray.append_assoc]
 have b5 : b = ((((((⟨#[]⟩ : ByteArray) ++ pn a0) ++ pn a1) ++ pn a2) ++ pn a3) ++ pn a4) ++ (pn a5 ++ (putText s ++ (pn l.length ++ (pns l ++ pn t)))) := by rw [b0]; simp only [ByteArray.append_assoc]
 have b6 : b = (((((((⟨#[]⟩ : ByteArray) ++ pn a0) ++ pn a1) ++ pn a2) ++ pn a3) ++ pn a4) ++ pn a5) ++ (putText s ++ (pn l.length ++ (pns l ++ pn t))) := by rw [b0]; simp only [ByteArray.append_assoc]
 have b7 : b = ((((((((⟨#[]⟩ : ByteArray) ++ pn a0) ++ pn a1) ++ pn a2) ++ pn a3) ++ pn a4) ++ pn a5) ++ putText s) ++ (pn l.length ++ (pns l ++ pn t)) := by rw [b0]; simp only [ByteArray.append_assoc]
 have b8 : b = (((((((((⟨#[]⟩ : ByteArray) ++ pn a0) ++ pn a1) ++ pn a2) ++ pn a3) ++ pn a4) ++ pn a5) ++ putText s) ++ pn l.length) ++ (pns l ++ pn t) := by rw [b0]; simp only [ByteArray.append_assoc]
 have b9 : b = ((((((((((⟨#[]⟩ : ByteArray) ++ pn a0) ++ pn a1) ++ pn a2) ++ pn a3) ++ pn a4) ++ pn a5) ++ putText s) ++ pn l.length) ++ pns l) ++ (pn t ++ (⟨#[]⟩ : ByteArray)) := by rw [b0]; simp only [ByteArray.append_assoc]; rw [show pn t ++ (⟨#[]⟩ : ByteArray) = pn t from by apply ba_ext; simp]
 have hS : b.size ≤ 8000 := by omega
 have n0 := inum_at h0 b0 hS
 have n1 := inum_at h1 b1 hS
 have n2 := inum_at h2 b2 hS
 have n3 := inum_at h3 b3 hS
 have n4 := inum_at h4 b4 hS
 have n5 := inum_at h5 b5 hS
 have n6 := istr_at hs b6 hS
 have n7 := inum_at (len_i64 l.length (by omega)) b7 hS
 have n9 := inum_at h8 b9 hS
 unfold impl_EventRead.f
 refine Ev.bind hU (Ev.pos (by first | rfl | trivial) (Ev.bind n0 (Ev.bind n1 (Ev.bind n2 (Ev.bind n3 (Ev.bind n4 (Ev.bind n5 (Ev.bind n6 (Ev.bind n7 ?_)))))))))
 refine iloop_at T b a0 a1 a2 a3 a4 a5 s (pn t) hS _ l [] _ hx (by simpa using hn) b8 ?_
 refine Ev.step (f := fun k => impl_EventRead.j1 (k + 1) T b _ false a0 a1 a2 a3 a4 a5 s ([] ++ l) 0) (fun k => rfl) ?_
 simp only [impl_EventRead.j1]
 exact Ev.bind n9 (Ev.neg (by simp) (Ev.bind hE (Ev.pos rfl (Ev.now _))))
theorem same_iff {a0 a1 a2 a3 a4 a5 : Int} {s : ByteArray} {l : List Int} {a8 b0 b1 b2 b3 b4 b5 : Int} {t : ByteArray} {r : List Int} {b8 : Int} (ha : evRight a0 a1 a2 a3 a4 a5 s l a8 = true) (hb : evRight b0 b1 b2 b3 b4 b5 t r b8 = true) :
  sameB a0 a1 a2 a3 a4 a5 s l a8 b0 b1 b2 b3 b4 b5 t r b8 = ((ebOf a0 a1 a2 a3 a4 a5 s l a8).toList == (ebOf b0 b1 b2 b3 b4 b5 t r b8).toList) := by
 rw [Bool.eq_iff_iff]
 constructor
 ·
  intro h
  unfold sameB at h
  simp only [Bool.and_eq_true, decide_eq_true_iff] at h
  obtain ⟨rfl, rfl, rfl, rfl, rfl, rfl, h6, rfl, rfl⟩ := h
  obtain rfl := toList_inj h6
  simp
 ·
  intro h
  have h2 := toList_inj (beq_iff_eq.mp h)
  unfold ebOf at h2
  rw [if_pos ha, if_pos hb] at h2
  have e1 := read_back ha
  have e2 := read_back hb
  rw [h2] at e1
  have e := Ev.uniq e1 e2
  simp only [Prod.mk.injEq] at e
  obtain ⟨rfl, rfl, rfl, rfl, rfl, rfl, rfl, rfl, rfl, _⟩ := e
  unfold sameB
  simp
end Go.Proofs.Yteimdbmfgojioaa.Print
