/- Lemmas: what the printed functions come to. -/
import Derived.Test.YtepbkhgffjinjaaLemFs
namespace Go.Proofs.Ytepbkhgffjinjaa.Print
open Go.RowKit Go.Proofs.YtepbkhgffjinjaaW.PrintWords Go.Proofs.YtepbkhgffjinjaaW.PrintLast Go.Proofs.YtepbkhgffjinjaaW.PrintMore
set_option linter.unusedVariables false
set_option linter.unusedSimpArgs false
theorem byteAt_getD (s : ByteArray) (i : Nat) : byteAt s i = (s.data.toList.getD i 0).toNat := by
 unfold byteAt
 by_cases h : i < s.size
 ·
  rw [dif_pos h, List.getD_eq_getElem?_getD, List.getElem?_eq_getElem (by simpa using h)]; rfl
 ·
  rw [dif_neg h, List.getD_eq_getElem?_getD, List.getElem?_eq_none (by simpa using h)]; rfl
theorem unzig_zig {n : Int} (h0 : -9223372036854775808 ≤ n) (h1 : n ≤ 9223372036854775807) : unzig (zig n) = n := by
 unfold unzig zig
 by_cases c : n < 0
 ·
  rw [if_pos c, if_pos (by omega)]; omega
 ·
  rw [if_neg c, if_neg (by omega)]; omega
theorem enc_pos (u : Nat) : 0 < (enc u).length := by
 by_cases h : u < 128
 ·
  rw [enc_lt h]; simp
 ·
  rw [enc_ge (by omega)]; simp
theorem pow_step (i v : Nat) (hi : i ≤ 8) (hv : v < 2 ^ (64 - 7 * i)) : v / 128 < 2 ^ (64 - 7 * (i + 1)) := by
 rw [show 64 - 7 * i = 64 - 7 * (i + 1) + 7 by omega, Nat.pow_add] at hv
 exact Nat.div_lt_of_lt_mul (by omega)
theorem gn_enc (s : ByteArray) (a f : Nat) : ∀ (i u v : Nat), i + f = 10 → v < 2 ^ (64 - 7 * i) → (i = 0 ∨ 0 < v) → a + i + (enc v).length ≤ s.size →
  (∀ j, j < (enc v).length → ((byteAt s (a + i + j) : Nat) : Int) = (enc v).getD j 0) → gn s a f i u = (unzig (u + v * 2 ^ (7 * i)), ((a + i + (enc v).length : Nat) : Int), 0) := by
 induction f with
 | zero =>
  intro i u v hi hv hp
  rw [show i = 10 by omega] at hv hp
  have : v < 1 := hv
  omega
 | succ f ih =>
  intro i u v hi hv hp hs hb
  have hpos := enc_pos v
  unfold gn
  rw [if_neg (by omega)]
  have h0 := hb 0 hpos
  rw [Nat.add_zero] at h0
  by_cases c : v < 128
  ·
   rw [enc_lt c] at h0 ⊢
   have h0' : byteAt s (a + i) = v := Int.ofNat.inj h0
   rw [h0']
   have h9 : i = 9 → v ≤ 1 := by
    rintro rfl
    have : v < 2 := hv
    omega
   rw [if_neg (by omega), if_pos c, Nat.mod_eq_of_lt c]
   rfl
  ·
   rw [enc_ge (by omega)] at h0 hs hb ⊢
   have h0' : byteAt s (a + i) = v % 128 + 128 := Int.ofNat.inj h0
   have h9 : i ≠ 9 := by
    rintro rfl
    have : v < 2 := hv
    omega
   rw [h0', if_neg (by omega), if_neg (by omega), show (v % 128 + 128) % 128 = v % 128 by omega]
   rw [List.length_cons] at hs hb
   rw [ih (i + 1) (u + v % 128 * 2 ^ (7 * i)) (v / 128) (by omega) (pow_step i v (by omega) hv) (Or.inr (by omega)) (by omega) (fun j hj => ?_)]
   ·
    have e1 : u + v % 128 * 2 ^ (7 * i) + v / 128 * 2 ^ (7 * (i + 1)) = u + v * 2 ^ (7 * i) := by
     rw [show 7 * (i + 1) = 7 + 7 * i by omega, Nat.pow_add, ← Nat.mul_assoc, Nat.add_assoc, ← Nat.add_mul, show v % 128 + v / 128 * 2 ^ 7 = v by omega]
    rw [e1, List.length_cons, show a + (i + 1) + (enc (v / 128)).length = a + i + ((enc (v / 128)).length + 1) by omega]
   ·
    have := hb (j + 1) (by omega)
    rw [show a + (i + 1) + j = a + i + (j + 1) by omega, this]
    rfl
theorem enc_byte (v : Nat) : ∀ x ∈ enc v, 0 ≤ x ∧ x < 256 := by
 induction v using Nat.strongRecOn with
 | ind v ih =>
  by_cases h : v < 128
  ·
   rw [enc_lt h]; intro x hx; rw [List.mem_singleton.1 hx]; omega
  ·
   rw [enc_ge (by omega)]
   intro x hx
   rcases List.mem_cons.1 hx with rfl | hx
   ·
    omega
   ·
    exact ih (v / 128) (by omega) x hx
theorem byte_mid (pre post : List UInt8) (l : List Int) (hl : ∀ x ∈ l, 0 ≤ x ∧ x < 256) (s : ByteArray) (hs : s.data.toList = pre ++ (l.map fun n => UInt8.ofNat n.toNat) ++ post) (j : Nat) (hj : j < l.length) :
  ((byteAt s (pre.length + j) : Nat) : Int) = l.getD j 0 := by
 rw [byteAt_getD, hs, List.getD_eq_getElem?_getD, List.append_assoc, List.getElem?_append_right (by omega), Nat.add_sub_cancel_left, List.getElem?_append_left (by rw [List.length_map]; exact hj), List.getElem?_map, List.getElem?_eq_getElem hj,
  List.getD_eq_getElem?_getD, List.getElem?_eq_getElem hj]
 have := hl l[j] (List.getElem_mem hj)
 simp only [Option.map_some, Option.getD_some, UInt8.toNat_ofNat']
 omega
theorem getNum_enc (pre post : List UInt8) (n : Int) (h0 : -9223372036854775808 ≤ n) (h1 : n ≤ 9223372036854775807) (s : ByteArray)
  (hs : s.data.toList = pre ++ ((enc (zig n)).map fun n => UInt8.ofNat n.toNat) ++ post) : getNumR s (pre.length : Int) = (n, ((pre.length + (enc (zig n)).length : Nat) : Int), 0) := by
 have hz := zig_lt h0 h1
 have hsz : s.size = pre.length + (enc (zig n)).length + post.length := by
  have := congrArg List.length hs
  simp only [List.length_append, List.length_map, Array.length_toList, ByteArray.size_data] at this
  omega
 unfold getNumR
 rw [if_neg (by omega), Int.toNat_natCast, gn_enc s pre.length 10 0 0 (zig n) rfl (by simpa using hz) (Or.inl rfl) (by omega) (fun j hj => byte_mid pre post _ (enc_byte _) s hs j hj)]
 rw [Nat.mul_zero, Nat.pow_zero, Nat.mul_one, Nat.zero_add, unzig_zig h0 h1, Nat.add_zero]
theorem spansOf_ok (l : List Int) : spRight (spansOf l) = true ∧ (spansOf l ≠ [] → ∀ x ∈ l, spIn (spansOf l) x = true) := by
 have hlen := spansOf_len l
 unfold spansOf at hlen ⊢
 by_cases c : l.length > 400
 ·
  rw [if_pos c]; exact ⟨rfl, fun h => absurd rfl h⟩
 ·
  rw [if_neg c] at hlen ⊢
  by_cases q : l.all idB = true
  ·
   rw [if_pos q] at hlen ⊢
   obtain ⟨s1, s2, _⟩ := foldI_ok l [] List.Pairwise.nil
   obtain ⟨g1, g2⟩ := foldR_ok (l.foldl insI []) [] s1 (fold_ids q) rfl (fun x hx => by have := fold_ids q x hx; show (1 : Int) ≤ x + 1; omega)
   refine ⟨by unfold spRight; rw [g1, decide_eq_true hlen]; rfl, fun _ x hx => ?_⟩
   rw [g2, spIn_nil, Bool.false_or, decide_eq_true_iff]
   exact (s2 x).2 (Or.inr hx)
  ·
   rw [if_neg q]; exact ⟨rfl, fun h => absurd rfl h⟩
theorem spShort_ok {l : List Sp} (h : okFrom 1 l = true) : spRight (spShort l) = true := by
 unfold spShort
 by_cases c : l.length > 400
 ·
  rw [if_pos c]; rfl
 ·
  rw [if_neg c]; unfold spRight; rw [h, decide_eq_true (by omega)]; rfl
theorem spLess_ok (a b : List Sp) : spRight (spLess a b) = true := by
 unfold spLess
 by_cases c : (spRight a && spRight b) = true
 ·
  rw [if_pos c]
  rw [Bool.and_eq_true] at c
  unfold spRight at c
  rw [Bool.and_eq_true, Bool.and_eq_true] at c
  exact spShort_ok (foldL_ok b c.2.2 a [] 1 c.1.2 (Int.le_refl _) rfl (Int.le_refl _)).1
 ·
  rw [if_neg c]; rfl
theorem spJoin_ok (a b : List Sp) : spRight (spJoin a b) = true ∧ (spRight a = true → spRight b = true → a.length + b.length ≤ 400 → ∀ i, spIn (spJoin a b) i = (spIn a i || spIn b i)) := by
 unfold spJoin
 by_cases c : (spRight a && spRight b) = true
 ·
  rw [if_pos c]
  rw [Bool.and_eq_true] at c
  obtain ⟨_, a2, a3⟩ := spRight_facts c.1
  obtain ⟨_, b2, b3⟩ := spRight_facts c.2
  have hme : (List.merge a b leS).Pairwise (fun x y => x.f0 ≤ y.f0) := by
   have := List.pairwise_merge (le := leS) (by unfold leS; intro x y z h1 h2; rw [decide_eq_true_iff] at *; omega) (by unfold leS; intro x y; simp only [Bool.or_eq_true, decide_eq_true_iff]; omega) a b (a3.imp (fun h => decide_eq_true h)) (b3.imp (fun h => decide_eq_true h))
   exact this.imp (fun h => of_decide_eq_true h)
  have hp : (List.merge a b leS).Perm (a ++ b) := List.merge_perm_append (le := leS)
  obtain ⟨g1, g2, g3⟩ := foldA_ok (List.merge a b leS) [] hme (fun x hx => by rcases List.mem_append.1 (hp.mem_iff.1 hx) with h | h; exact a2 x h; exact b2 x h) rfl (fun o z e => by cases o <;> cases e)
  refine ⟨spShort_ok g1, fun _ _ hl i => ?_⟩
  have hlen : (List.merge a b leS).length = a.length + b.length := by rw [hp.length_eq, List.length_append]
  unfold spShort
  rw [if_neg (by rw [List.length_nil] at g2; omega), g3, spIn_nil, Bool.false_or, ← spIn_append]
  unfold spIn
  apply b_eq
  rw [List.any_eq_true, List.any_eq_true]
  exact ⟨fun ⟨x, h1, h2⟩ => ⟨x, hp.mem_iff.1 h1, h2⟩, fun ⟨x, h1, h2⟩ => ⟨x, hp.mem_iff.2 h1, h2⟩⟩
 ·
  rw [if_neg c]
  refine ⟨rfl, fun h1 h2 => absurd (by rw [h1, h2]; rfl) c⟩
theorem lessAll_len (b : List Sp) : ∀ (a out : List Sp), (a.foldl (lessOne b) out).length ≤ out.length + a.length * (b.length + 1)
 | [], out => by simp
 | x :: r, out => by
  rw [List.foldl_cons]
  have h1 := lessAll_len b r (lessOne b out x)
  have h2 := lessOne_length b out x
  rw [List.length_cons, Nat.succ_mul]; omega
theorem spLess_in (a b : List Sp) (ha : spRight a = true) (hb : spRight b = true) (h1 : a.length ≤ 6) (h2 : b.length ≤ 6) (i : Int) : spIn (spLess a b) i = (spIn a i && !spIn b i) := by
 have h := lessAll_len b a []
 have h3 : a.length * (b.length + 1) ≤ 6 * 7 := Nat.mul_le_mul h1 (by omega)
 unfold spLess spShort lessAll
 rw [ha, hb, Bool.and_self, if_pos rfl, if_neg (by rw [List.length_nil] at h; omega)]
 unfold spRight at ha hb
 rw [Bool.and_eq_true] at ha hb
 rw [(foldL_ok b hb.2 a [] 1 ha.2 (Int.le_refl _) rfl (Int.le_refl _)).2, spIn_nil, Bool.false_or]
def byS (l : List Int) : List UInt8 := l.map fun n => UInt8.ofNat n.toNat
theorem byS_append (a b : List Int) : byS (a ++ b) = byS a ++ byS b := List.map_append
theorem byS_length (a : List Int) : (byS a).length = a.length := List.length_map _
theorem impl_num_ok (b : ByteArray) (hb : b.size ≤ 8000) (pre post : List UInt8) (n : Int) (r : i64r n) (hs : b.data.toList = pre ++ byS (enc (zig n)) ++ post) :
  Ev (fun k => impl_decoder_num.f k b (pre.length : Int) false) (n, b, ((pre.length + (enc (zig n)).length : Nat) : Int), false) := by
 have hp : pre.length ≤ b.size := by
  have := congrArg List.length hs
  simp only [List.length_append, Array.length_toList, ByteArray.size_data] at this
  omega
 have hI := impl_getNum_ev b (by omega) (pre.length : Int) (by omega)
 rw [getNum_enc pre post n r.1 r.2 b hs] at hI
 unfold impl_decoder_num.f
 exact Ev.bind hI (Ev.neg (by simp) (Ev.to rfl (Ev.now _)))
theorem back_l0 (t : ByteArray) (hb : t.size ≤ 8000) (L : List Sp) (hR : spRight L = true) (hB : (spBytes L).toList = t.toList) (d : Nat) : ∀ (i : Nat) (pre : List UInt8) (last : Int), i + d = L.length →
  t.data.toList = pre ++ byS (spEnc last (L.drop i)) → 0 ≤ last → last ≤ 1000000 → Ev (fun k => impl_SpansRead.l0 k t (L.take i) last (d : Int) t (pre.length : Int) false) (L, 0) := by
 obtain ⟨hl, hm⟩ := spRight_mem hR
 induction d with
 | zero =>
  intro i pre last hi ht h0 h1
  refine Ev.step (f := fun k => impl_SpansRead.l0 (k + 1) t (L.take i) last ((0 : Nat) : Int) t (pre.length : Int) false) (fun k => rfl) ?_
  simp only [impl_SpansRead.l0]
  refine Ev.neg (by omega) ?_
  refine Ev.step (f := fun k => impl_SpansRead.j1 (k + 1) t (L.take i) last ((0 : Nat) : Int) false t (pre.length : Int) false) (fun k => rfl) ?_
  simp only [impl_SpansRead.j1]
  rw [List.take_of_length_le (by omega)]
  exact Ev.neg (by simp) (Ev.neg (by simp) (Ev.bind (impl_SB_ev L (by omega)) (Ev.pos hB (Ev.now _))))
 | succ d ih =>
  intro i pre last hi ht h0 h1
  have hlt : i < L.length := by omega
  obtain ⟨x0, x1, x2⟩ := hm L[i] (List.getElem_mem hlt)
  rw [drop_cons hlt] at ht
  have ht2 : t.data.toList = (pre ++ byS (enc (zig (L[i].f0 - last)))) ++ byS (enc (zig (L[i].f1 - L[i].f0))) ++ byS (spEnc L[i].f1 (L.drop (i + 1))) := by
   rw [ht, show spEnc last (L[i] :: L.drop (i + 1)) = enc (zig (L[i].f0 - last)) ++ (enc (zig (L[i].f1 - L[i].f0)) ++ spEnc L[i].f1 (L.drop (i + 1))) from rfl, byS_append, byS_append, List.append_assoc, List.append_assoc]
  have ht1 := ht2
  rw [List.append_assoc] at ht1
  have e1 := impl_num_ok t hb pre _ (L[i].f0 - last) ⟨by omega, by omega⟩ ht1
  have e2 := impl_num_ok t hb (pre ++ byS (enc (zig (L[i].f0 - last)))) _ (L[i].f1 - L[i].f0) ⟨by omega, by omega⟩ ht2
  have e3 := ih (i + 1) ((pre ++ byS (enc (zig (L[i].f0 - last)))) ++ byS (enc (zig (L[i].f1 - L[i].f0)))) L[i].f1 (by omega) ht2 (by omega) (by omega)
  rw [List.length_append, byS_length] at e2
  rw [List.length_append, List.length_append, byS_length, byS_length, List.take_succ_eq_append_getElem hlt] at e3
  refine Ev.step (f := fun k => impl_SpansRead.l0 (k + 1) t (L.take i) last ((d + 1 : Nat) : Int) t (pre.length : Int) false) (fun k => rfl) ?_
  simp only [impl_SpansRead.l0]
  refine Ev.pos (by omega) (Ev.neg (by simp) ?_)
  rw [decide_eq_true (by rw [List.length_take]; omega)]
  refine Ev.step (f := fun k => impl_SpansRead.j1 (k + 1) t (L.take i) last ((d + 1 : Nat) : Int) true t (pre.length : Int) false) (fun k => rfl) ?_
  simp only [impl_SpansRead.j1]
  have w1 : wrap64 (last + (L[i].f0 - last)) = L[i].f0 := by rw [w64 (by omega) (by omega)]; omega
  have w2 : wrap64 (L[i].f0 + (L[i].f1 - L[i].f0)) = L[i].f1 := by rw [w64 (by omega) (by omega)]; omega
  have w3 : wrap64 (((d + 1 : Nat) : Int) - 1) = (d : Int) := by unfold wrap64; omega
  refine Ev.pos (by first | rfl | trivial) (Ev.bind e1 (Ev.bind e2 (Ev.pos (by rw [List.length_take]; omega) ?_)))
  simp only [w1, w2, w3]
  exact e3
theorem spBytes_ne {L : List Sp} (h : ¬ (spBytes L).toList = ([] : List UInt8)) : spRight L = true ∧ (spBytes L).size ≤ 8000 ∧ (spBytes L).data.toList = byS (enc (zig (L.length : Int)) ++ spEnc 0 L) := by
 have hz : ¬ (spBytes L).size = 0 := fun e => h ((size_zero_iff _).2 e)
 unfold spBytes at hz ⊢
 by_cases c : spRight L = true
 ·
  rw [if_pos c] at hz ⊢
  unfold spFin at hz ⊢
  by_cases q : 8000 < (enc (zig (L.length : Int)) ++ spEnc 0 L).length
  ·
   rw [if_pos q] at hz; exact absurd rfl hz
  ·
   rw [if_neg q]
   exact ⟨c, by rw [son_size]; omega, rfl⟩
 ·
  rw [if_neg c] at hz; exact absurd rfl hz
theorem spans_back {L : List Sp} (h : ¬ (spBytes L).toList = ([] : List UInt8)) : Ev (fun k => impl_SpansRead.f k (spBytes L)) (L, 0) := by
 obtain ⟨h1, h2, h3⟩ := spBytes_ne h
 obtain ⟨hl, hm⟩ := spRight_mem h1
 rw [byS_append] at h3
 have e1 := impl_num_ok (spBytes L) h2 [] _ (L.length : Int) (len_i64 _ (by omega)) h3
 unfold impl_SpansRead.f
 refine Ev.neg (by omega) (Ev.bind e1 ?_)
 have e2 := back_l0 (spBytes L) h2 L h1 rfl L.length 0 (byS (enc (zig (L.length : Int)))) 0 (by omega) h3 (by omega) (by omega)
 rw [byS_length, List.take_zero] at e2
 rw [List.length_nil, Nat.zero_add]
 exact e2
theorem spoil_j0 (l : List Int) (a mix sz : Int) (t c : ByteArray) (x : Int) (b : Bool) (hl : l.length ≤ 9223372036854775806) (h0 : 0 ≤ a) (h1 : a ≤ l.length) (hs : t.size ≤ 8000) (hc : c.size ≤ 1) (hx0 : 0 ≤ x) (hx1 : x ≤ (t.size : Int)) (hb : b = false → x < (t.size : Int)) :
  ∃ r a' mix', Ev (fun k => spec_l01Src_spoil.j0 k t x c b l a mix sz) (r, a', mix', sz) := by
 have s1 : (t.extract 0 (x : Int).toNat).size ≤ 8000 := by rw [ByteArray.size_extract]; omega
 have s2 : ∀ y : Int, (t.extract (y : Int).toNat t.size).size ≤ 8000 := fun y => by rw [ByteArray.size_extract]; omega
 have s3 : ((t.extract 0 (x : Int).toNat) ++ c).size ≤ 8001 := by rw [ByteArray.size_append]; omega
 have q2 := s2 x
 cases b
 ·
  have hb := hb rfl
  have hw : wrap64 (x + 1) = x + 1 := w64 (by omega) (by omega)
  have q3 := s2 (x + 1)
  obtain ⟨v, a1, m1, g, _⟩ := one_some l a mix sz 2 hl h0 h1 (by omega)
  cases v
  ·
   refine ⟨((t.extract 0 (x : Int).toNat) ++ c) ++ (t.extract ((x + 1) : Int).toNat t.size), a1, m1, Ev.one fun k => ?_⟩
   simp only [spec_l01Src_spoil.j0]
   rw [if_neg (by simp), g]
   simp only [Option.bind_some]
   rw [if_neg (by simp), hw, if_pos hx0, if_pos hx1, if_pos (by omega), if_pos (by omega), if_pos (by omega), if_pos (by omega)]
  ·
   refine ⟨(t.extract 0 (x : Int).toNat) ++ (t.extract ((x + 1) : Int).toNat t.size), a1, m1, Ev.one fun k => ?_⟩
   simp only [spec_l01Src_spoil.j0]
   rw [if_neg (by simp), g]
   simp only [Option.bind_some]
   rw [if_pos (by first | rfl | trivial), hw, if_pos hx0, if_pos hx1, if_pos (by omega), if_pos (by omega), if_pos (by omega)]
 ·
  refine ⟨((t.extract 0 (x : Int).toNat) ++ c) ++ (t.extract (x : Int).toNat t.size), a, mix, Ev.one fun k => ?_⟩
  simp only [spec_l01Src_spoil.j0]
  rw [if_pos (by first | rfl | trivial), if_pos hx0, if_pos hx1, if_pos (by omega), if_pos (by omega)]
theorem spoil_ev (l : List Int) (a mix sz : Int) (t : ByteArray) (hl : l.length ≤ 9223372036854775806) (h0 : 0 ≤ a) (h1 : a ≤ l.length) (hs : t.size ≤ 8000) : ∃ r a' mix', Ev (fun k => spec_l01Src_spoil.f k l a mix sz t) (r, a', mix', sz) := by
 have hw : wrap64 ((t.size : Int) + 1) = (t.size : Int) + 1 := w64 (by omega) (by omega)
 obtain ⟨v, a1, m1, g, g1, g2, g3, g4⟩ := n_some l a mix sz ((t.size : Int) + 1) hl h0 h1 (by omega)
 obtain ⟨u, a2, m2, e, e1, e2, e3, e4⟩ := n_some l a1 m1 sz 17 hl g3 g4 (by omega)
 have hc : ∀ y : Int, (strOfNums [y]).size ≤ 1 := fun y => by rw [son_size]; exact Nat.le_refl 1
 unfold spec_l01Src_spoil.f
 rw [hw]
 by_cases c : v = (t.size : Int)
 ·
  obtain ⟨r, a3, m3, q⟩ := spoil_j0 l a2 m2 sz t (strOfNums [bt (⟨#[32, 10, 48, 97, 45, 110, 44, 58, 93, 255, 40, 120, 126, 49, 128, 225, 59]⟩ : ByteArray) u]) v true hl e3 e4 hs (hc _) g1 (by omega) (fun h => by cases h)
  exact ⟨r, a3, m3, Ev.take g (Ev.take e (Ev.pos e1 (Ev.pos (by show u < 17; omega) (Ev.take rfl (Ev.pos c q)))))⟩
 ·
  obtain ⟨b, a3, m3, k1, k2, k3⟩ := one_some l a2 m2 sz 3 hl e3 e4 (by omega)
  obtain ⟨r, a4, m4, q⟩ := spoil_j0 l a3 m3 sz t (strOfNums [bt (⟨#[32, 10, 48, 97, 45, 110, 44, 58, 93, 255, 40, 120, 126, 49, 128, 225, 59]⟩ : ByteArray) u]) v b hl k2 k3 hs (hc _) g1 (by omega) (fun _ => by omega)
  exact ⟨r, a4, m4, Ev.take g (Ev.take e (Ev.pos e1 (Ev.pos (by show u < 17; omega) (Ev.take rfl (Ev.neg c (Ev.take k1 q))))))⟩
theorem spBytes_size (L : List Sp) : (spBytes L).size ≤ 8000 := by
 unfold spBytes
 by_cases c : spRight L = true
 ·
  rw [if_pos c]; unfold spFin
  by_cases q : 8000 < (enc (zig (L.length : Int)) ++ spEnc 0 L).length
  ·
   rw [if_pos q]; exact Nat.zero_le _
  ·
   rw [if_neg q, son_size]; omega
 ·
  rw [if_neg c]; exact Nat.zero_le _
theorem DrawSpansRead_ev (l : List Int) (hl : l.length ≤ 9223372036854775806) : ∃ t, Ev (fun k => spec_DrawSpansRead.f k l) t := by
 obtain ⟨mix, sz, h⟩ := source_ev l
 obtain ⟨r, a1, m1, e, hr, e3, e4⟩ := l15_ev l 0 mix sz hl (by omega) (by omega)
 have hb := spec_SB_ev r (by omega)
 have hs := spBytes_size r
 obtain ⟨v, a2, m2, g, gv0, gv, g3, g4⟩ := n_some l a1 m1 sz 4 hl e3 e4 (by omega)
 unfold spec_DrawSpansRead.f
 by_cases c0 : v = 0
 ·
  obtain ⟨t, a3, m3, q⟩ := spoil_ev l a2 m2 sz (spBytes r) hl g3 g4 hs
  exact ⟨t, Ev.bind h (Ev.bind e (Ev.bind hb (Ev.take g (Ev.pos c0 (Ev.bind q (Ev.now _))))))⟩
 ·
  by_cases c1 : v = 1
  ·
   have hw : wrap64 (((spBytes r).size : Int) + 1) = ((spBytes r).size : Int) + 1 := w64 (by omega) (by omega)
   obtain ⟨w, a3, m3, q, q0, q1, _⟩ := n_some l a2 m2 sz (((spBytes r).size : Int) + 1) hl g3 g4 (by omega)
   rw [← hw] at q
   exact ⟨_, Ev.bind h (Ev.bind e (Ev.bind hb (Ev.take g (Ev.neg c0 (Ev.pos c1 (Ev.take q (Ev.pos q0 (Ev.pos (by show w ≤ _; omega) (Ev.now _)))))))))⟩
  ·
   exact ⟨_, Ev.bind h (Ev.bind e (Ev.bind hb (Ev.take g (Ev.neg c0 (Ev.neg c1 (Ev.now _))))))⟩
end Go.Proofs.Ytepbkhgffjinjaa.Print
