/- Lemmas: a script's fault. -/
import Derived.Test.YtloknnlmflamgaaDoorLemSF2
namespace Go.Proofs.YtloknnlmflamgaaDoor.Print
open Go.RowKit Go.Proofs.YtloknnlmflamgaaDoorW.PrintWords Go.Proofs.YtloknnlmflamgaaDoorW.PrintLast Go.Proofs.YtloknnlmflamgaaDoorW.PrintMore
set_option linter.unusedVariables false
set_option linter.unusedSimpArgs false

/-! A text cut at each line's end. -/
def nlS : ByteArray := ⟨#[10]⟩
theorem nl_ix (u : ByteArray) : Lib.indexB u nlS = Lib.indexByte u.data.toList 10 := Lib.index_one _ _
theorem nl_walk (t : ByteArray) (ht : t.size ≤ 8000) (acc : List ByteArray) (f : Nat) (r : List ByteArray) (m : Nat) : ∀ i : Nat, i + m ≤ t.size → (∀ j, i ≤ j → j < i + m → t.data.toList[j]? ≠ some 10) →
    Ev (fun k => spec_l01Split.l0 k t 10 acc (f : Int) ((i + m : Nat) : Int)) r → Ev (fun k => spec_l01Split.l0 k t 10 acc (f : Int) (i : Int)) r := by
  induction m with
  | zero => intro i _ _ h; exact h
  | succ m ih =>
    intro i hi hn h
    refine Ev.step (f := fun k => spec_l01Split.l0 k t 10 acc (f : Int) ((i + 1 : Nat) : Int)) (fun k => ?_) (ih (i + 1) (by omega) (fun j h1 h2 => hn j (by omega) (by omega)) (by rw [show i + 1 + m = i + (m + 1) by omega]; exact h))
    simp only [spec_l01Split.l0]
    have hlt : i < t.data.toList.length := by simp; omega
    have hc : bt t (i : Int) ≠ 10 := by
      have h0 := hn i (by omega) (by omega)
      rw [bt_get (List.getElem?_eq_getElem hlt)]
      rw [List.getElem?_eq_getElem hlt] at h0
      intro e
      apply h0
      congr 1
      apply UInt8.toNat_inj.1
      show _ = 10
      omega
    rw [if_pos (by omega), if_pos (by omega), if_neg hc, show wrap64 ((i : Int) + 1) = ((i + 1 : Nat) : Int) from by unfold wrap64; omega]
theorem nl_ev (t : ByteArray) (ht : t.size ≤ 8000) (n : Nat) : ∀ (f : Nat) (acc : List ByteArray), f ≤ t.size → t.size - f ≤ n → acc.length + (t.size - f) ≤ 10000 →
    Ev (fun k => spec_l01Split.l0 k t 10 acc (f : Int) (f : Int)) (acc ++ Lib.splitB nlS 0 (Lib.countB (t.extract f t.size) nlS) (t.extract f t.size)) := by
  induction n with
  | zero =>
    intro f acc hf hn ha
    obtain rfl : f = t.size := by omega
    have hm : Lib.indexB (t.extract t.size t.size) nlS = -1 := by
      rcases Lib.indexB_cases (t.extract t.size t.size) nlS with h | ⟨i, h, hi⟩
      · exact h
      · rw [ByteArray.size_extract, show nlS.size = 1 from rfl] at hi; omega
    rw [Lib.splitB_miss _ _ _ _ hm]
    refine Ev.one (fun k => ?_)
    simp only [spec_l01Split.l0]
    rw [if_neg (by omega), if_pos (by omega), if_pos (by omega), if_pos (by omega), Int.toNat_natCast]
  | succ n ih =>
    intro f acc hf hn ha
    rcases Lib.indexB_cases (t.extract f t.size) nlS with h | ⟨i, h, hi⟩
    · rw [Lib.splitB_miss _ _ _ _ h]
      rw [nl_ix] at h
      have hno := Lib.indexByte_none h
      refine nl_walk t ht acc f _ (t.size - f) f (by omega) (fun j h1 h2 e => ?_) ?_
      · have := hno (j - f)
        rw [ex_get t f t.size (j - f) (by omega) (Nat.le_refl _), show f + (j - f) = j by omega] at this
        exact this e
      · rw [show f + (t.size - f) = t.size by omega]
        refine Ev.one (fun k => ?_)
        simp only [spec_l01Split.l0]
        rw [if_neg (by omega), if_pos (by omega), if_pos (by omega), if_pos (by omega), Int.toNat_natCast]
    · rw [ByteArray.size_extract, show nlS.size = 1 from rfl] at hi
      have hc := Lib.countB_hit (t.extract f t.size) nlS i (by show 1 ≤ 1; omega) h
      rw [hc, Nat.add_comm, Lib.splitB_hit _ _ _ _ i h]
      have hz : (t.extract f t.size).size = t.size - f := by rw [ByteArray.size_extract]; omega
      rw [show nlS.size = 1 from rfl, hz, Nat.add_zero, ex_ex t f 0 i (by omega), Nat.add_zero, ex_ex t f (i + 1) (t.size - f) (by omega), show f + (t.size - f) = t.size by omega]
      rw [nl_ix] at h
      obtain ⟨h1, h2⟩ := Lib.indexByte_some h
      rw [ex_get t f t.size i (by omega) (Nat.le_refl _)] at h1
      refine nl_walk t ht acc f _ i f (by omega) (fun j h3 h4 e => ?_) ?_
      · have := h2 (j - f) (by omega)
        rw [ex_get t f t.size (j - f) (by omega) (Nat.le_refl _), show f + (j - f) = j by omega] at this
        exact this e
      · have := ih (f + (i + 1)) (acc ++ [t.extract f (f + i)]) (by omega) (by omega) (by rw [List.length_append, List.length_singleton]; omega)
        rw [List.append_assoc, List.singleton_append] at this
        refine Ev.step (f := fun k => spec_l01Split.l0 k t 10 (acc ++ [t.extract f (f + i)]) ((f + (i + 1) : Nat) : Int) ((f + (i + 1) : Nat) : Int)) (fun k => ?_) this
        simp only [spec_l01Split.l0]
        rw [if_pos (by omega), if_pos (by omega), bt_get h1, if_pos (show (((10 : UInt8).toNat : Nat) : Int) = 10 from rfl), if_pos (by omega), if_pos (by omega), if_pos (by omega), if_pos (by omega), Int.toNat_natCast, Int.toNat_natCast, show wrap64 (((f + i : Nat) : Int) + 1) = ((f + (i + 1) : Nat) : Int) from by unfold wrap64; omega]
/-- The words of a text. -/
def linesOf (t : ByteArray) : List ByteArray := Lib.splitB nlS 0 (Lib.countB t nlS) t
theorem spec_lines_ev (t : ByteArray) (ht : t.size ≤ 8000) : Ev (fun k => spec_l01Split.f k t 10) (linesOf t) := by
  unfold spec_l01Split.f linesOf
  have := nl_ev t ht t.size 0 [] (by omega) (by omega) (by simp only [List.length_nil]; omega)
  rw [List.nil_append, show t.extract 0 t.size = t from by simp] at this
  exact this
theorem impl_lines_eq (t : ByteArray) (ht : t.size ≤ 8000) : strings_Split.f t (⟨#[10]⟩ : ByteArray) = some (linesOf t) := by
  unfold strings_Split.f linesOf
  rw [if_pos ⟨by omega, by show 1 ≤ 1; omega⟩]; rfl
theorem lines_pos (t : ByteArray) : 0 < (linesOf t).length ∧ (linesOf t).length ≤ t.size + 1 := by
  unfold linesOf
  rw [Lib.splitB_all nlS (by show 1 ≤ 1; omega) 0 _ t rfl]
  have := Lib.countB_le nlS (by show 1 ≤ 1; omega) t.size t (Nat.le_refl _)
  omega
theorem lines_size (n : Nat) (m : Nat) : ∀ u : ByteArray, Lib.countB u nlS = m → u.size ≤ n → ∀ x ∈ Lib.splitB nlS 0 (Lib.countB u nlS) u, x.size ≤ n := by
  induction m with
  | zero =>
    intro u hm hu x hx
    rcases Lib.indexB_cases u nlS with h | ⟨i, h, hi⟩
    · rw [Lib.splitB_miss _ _ _ _ h] at hx
      rw [List.mem_singleton] at hx
      rw [hx]; exact hu
    · have hc := Lib.countB_hit u nlS i (by show 1 ≤ 1; omega) h
      omega
  | succ m ih =>
    intro u hm hu x hx
    rcases Lib.indexB_cases u nlS with h | ⟨i, h, hi⟩
    · rw [Lib.splitB_miss _ _ _ _ h] at hx
      rw [List.mem_singleton] at hx
      rw [hx]; exact hu
    · have hc := Lib.countB_hit u nlS i (by show 1 ≤ 1; omega) h
      rw [hc, Nat.add_comm, Lib.splitB_hit _ _ _ _ i h] at hx
      rcases List.mem_cons.1 hx with hx | hx
      · rw [hx, ByteArray.size_extract]; omega
      · exact ih _ (by omega) (by rw [ByteArray.size_extract]; omega) x hx
theorem lines_mem (t : ByteArray) : ∀ x ∈ linesOf t, x.size ≤ t.size := lines_size t.size _ t rfl (Nat.le_refl _)

/-! A script's fault. -/
abbrev Ac := S34
theorem ok_code (t : ByteArray) : (iRead t).2.2.2 = decide ((aRead t).2.2.2 = 0) := rfl
theorem script_both (L : List ByteArray) (hL : ∀ x ∈ L, x.size ≤ 8000) (hn : L.length ≤ 9000) (d : Nat) : ∀ (i : Nat) (lS lI : List Ac), i + d = L.length → 0 < d → lS.length = i → lI.length = i →
    ∃ X Y r1 r2, Ev (fun k => spec_l14Read.l0 k lS L (i : Int)) (X, (⟨#[]⟩ : ByteArray), r1, r2) ∧ Ev (fun k => impl_actsOf.l0 k lI ((L.length : Int) - 1) L (L.length : Int) (i : Int)) (Y, (⟨#[]⟩ : ByteArray), r1, r2) := by
  have hw : wrap64 ((L.length : Int) - 1) = (L.length : Int) - 1 := w64 (by omega) (by omega)
  induction d with
  | zero => intro i lS lI _ h; omega
  | succ d ih =>
    intro i lS lI hi _ hS hI
    have hlt : i < L.length := by omega
    have hsz := hL L[i] (List.getElem_mem hlt)
    have eS := spec_AO_ev L[i]
    have eA : aOut L[i] = aRead L[i] := by unfold aOut; rw [if_neg (by omega)]
    rw [eA] at eS
    have eI := impl_RA_ev L[i] hsz
    have ec := ok_code L[i]
    generalize hiR : iRead L[i] = iR at eI ec
    generalize aRead L[i] = aR at eS ec
    have goS : ∀ (b x : Bool) R, b = decide (i + 1 = L.length) → (x = true → R = (lS, (⟨#[]⟩ : ByteArray), (0 : Int), (0 : Int))) →
        (x = false → Ev (fun k => if b = true then (some (lS, (⟨#[]⟩ : ByteArray), (i : Int), (3 : Int))) else (if aR.2.2.2 = 0 then (if (lS.length : Int) ≥ 40 then (some (lS, (⟨#[]⟩ : ByteArray), (i : Int), 3)) else (if lS.length < 2513169434916 then (spec_l14Read.l0 k (lS ++ [(⟨aR.1, aR.2.1, aR.2.2.1⟩ : Ac)]) L (((i + 1 : Nat)) : Int)) else (none))) else (some (lS, (⟨#[]⟩ : ByteArray), (i : Int), 3)))) R) →
        Ev (fun k => spec_l14Read.j1 k lS L (i : Int) b x) R := by
      intro b x R _ h1 h2
      refine Ev.step (f := fun k => spec_l14Read.j1 (k + 1) lS L (i : Int) b x) (fun k => rfl) ?_
      simp only [spec_l14Read.j1]
      rw [rdOf_get hlt, show wrap64 ((i : Int) + 1) = ((i + 1 : Nat) : Int) from by unfold wrap64; omega]
      cases x with
      | true => refine Ev.pos (by first | rfl | trivial) ?_; rw [h1 rfl]; exact Ev.now _
      | false => exact Ev.neg (by simp) (Ev.pos (by omega) (Ev.pos (by omega) (Ev.bind eS (h2 rfl))))
    have goI : ∀ (x : Bool) R, (x = true → R = (lI, (⟨#[]⟩ : ByteArray), (0 : Int), (0 : Int))) →
        (x = false → Ev (fun k => if iR.2.2.2 = true then (if (i : Int) = (L.length : Int) - 1 then (some (([] : List Ac), (⟨#[]⟩ : ByteArray), (i : Int), (3 : Int))) else (if (i : Int) ≥ 40 then (some (([] : List Ac), (⟨#[]⟩ : ByteArray), (i : Int), 3)) else (if lI.length < 2513169434916 then (impl_actsOf.l0 k (lI ++ [(⟨iR.1, iR.2.1, iR.2.2.1⟩ : Ac)]) ((L.length : Int) - 1) L (L.length : Int) (((i + 1 : Nat)) : Int)) else (none)))) else (some (([] : List Ac), (⟨#[]⟩ : ByteArray), (i : Int), 3))) R) →
        Ev (fun k => impl_actsOf.j1 k lI ((L.length : Int) - 1) (i : Int) L[i] L (L.length : Int) (i : Int) x) R := by
      intro x R h1 h2
      refine Ev.step (f := fun k => impl_actsOf.j1 (k + 1) lI ((L.length : Int) - 1) (i : Int) L[i] L (L.length : Int) (i : Int) x) (fun k => rfl) ?_
      simp only [impl_actsOf.j1]
      rw [show wrap64 ((i : Int) + 1) = ((i + 1 : Nat) : Int) from by unfold wrap64; omega]
      cases x with
      | true => refine Ev.pos (by first | rfl | trivial) ?_; rw [h1 rfl]; exact Ev.now _
      | false => exact Ev.neg (by simp) (Ev.bind eI (h2 rfl))
    have toS : ∀ R, (if i + 1 = L.length then Ev (fun k => spec_l14Read.j1 k lS L (i : Int) true (L[i].toList == ([] : List UInt8))) R else Ev (fun k => spec_l14Read.j1 k lS L (i : Int) false false) R) → Ev (fun k => spec_l14Read.l0 k lS L (i : Int)) R := by
      intro R hR
      refine Ev.step (f := fun k => spec_l14Read.l0 (k + 1) lS L (i : Int)) (fun k => rfl) ?_
      simp only [spec_l14Read.l0]
      rw [hw, rdOf_get hlt]
      by_cases c : i + 1 = L.length
      · rw [if_pos c] at hR
        refine Ev.pos (by omega) (Ev.pos (by omega) (Ev.pos (by omega) ?_))
        rw [show ((i : Int) == (L.length : Int) - 1) = true from beq_iff_eq.mpr (by omega)]
        exact hR
      · rw [if_neg c] at hR
        refine Ev.pos (by omega) (Ev.neg (by omega) ?_)
        rw [show ((i : Int) == (L.length : Int) - 1) = false from beq_eq_false_iff_ne.mpr (by omega)]
        exact hR
    have toI : ∀ R, (if i + 1 = L.length then Ev (fun k => impl_actsOf.j1 k lI ((L.length : Int) - 1) (i : Int) L[i] L (L.length : Int) (i : Int) (L[i].toList == ([] : List UInt8))) R else Ev (fun k => impl_actsOf.j1 k lI ((L.length : Int) - 1) (i : Int) L[i] L (L.length : Int) (i : Int) false) R) → Ev (fun k => impl_actsOf.l0 k lI ((L.length : Int) - 1) L (L.length : Int) (i : Int)) R := by
      intro R hR
      refine Ev.step (f := fun k => impl_actsOf.l0 (k + 1) lI ((L.length : Int) - 1) L (L.length : Int) (i : Int)) (fun k => rfl) ?_
      simp only [impl_actsOf.l0]
      rw [rdOf_get hlt]
      by_cases c : i + 1 = L.length
      · rw [if_pos c] at hR
        exact Ev.pos (by omega) (Ev.pos (by omega) (Ev.pos (by omega) (Ev.pos (by omega) hR)))
      · rw [if_neg c] at hR
        exact Ev.pos (by omega) (Ev.pos (by omega) (Ev.pos (by omega) (Ev.neg (by omega) hR)))
    by_cases c : i + 1 = L.length
    · cases hx : (L[i].toList == ([] : List UInt8)) with
      | true =>
        refine ⟨lS, lI, 0, 0, toS _ ?_, toI _ ?_⟩
        · rw [if_pos c, hx]; exact goS true true _ (by rw [decide_eq_true c]) (fun _ => rfl) (fun h => by cases h)
        · rw [if_pos c, hx]; exact goI true _ (fun _ => rfl) (fun h => by cases h)
      | false =>
        refine ⟨lS, [], (i : Int), 3, toS _ ?_, toI _ ?_⟩
        · rw [if_pos c, hx]; exact goS true false _ (by rw [decide_eq_true c]) (fun h => by cases h) (fun _ => Ev.pos (by first | rfl | trivial) (Ev.now _))
        · rw [if_pos c, hx]
          refine goI false _ (fun h => by cases h) (fun _ => ?_)
          by_cases k : iR.2.2.2 = true
          · exact Ev.pos k (Ev.pos (by omega) (Ev.now _))
          · exact Ev.neg k (Ev.now _)
    · by_cases k : aR.2.2.2 = 0
      · have k2 : iR.2.2.2 = true := by rw [ec]; exact decide_eq_true k
        by_cases q : 40 ≤ i
        · refine ⟨lS, [], (i : Int), 3, toS _ ?_, toI _ ?_⟩
          · rw [if_neg c]; exact goS false false _ (by rw [decide_eq_false c]) (fun h => by cases h) (fun _ => Ev.neg (by simp) (Ev.pos k (Ev.pos (by omega) (Ev.now _))))
          · rw [if_neg c]; exact goI false _ (fun h => by cases h) (fun _ => Ev.pos k2 (Ev.neg (by omega) (Ev.pos (by omega) (Ev.now _))))
        · obtain ⟨X, Y, r1, r2, h1, h2⟩ := ih (i + 1) (lS ++ [(⟨aR.1, aR.2.1, aR.2.2.1⟩ : Ac)]) (lI ++ [(⟨iR.1, iR.2.1, iR.2.2.1⟩ : Ac)]) (by omega) (by omega) (by rw [List.length_append, List.length_singleton]; omega) (by rw [List.length_append, List.length_singleton]; omega)
          refine ⟨X, Y, r1, r2, toS _ ?_, toI _ ?_⟩
          · rw [if_neg c]; exact goS false false _ (by rw [decide_eq_false c]) (fun h => by cases h) (fun _ => Ev.neg (by simp) (Ev.pos k (Ev.neg (by omega) (Ev.pos (by omega) h1))))
          · rw [if_neg c]; exact goI false _ (fun h => by cases h) (fun _ => Ev.pos k2 (Ev.neg (by omega) (Ev.neg (by omega) (Ev.pos (by omega) h2))))
      · have k2 : ¬ iR.2.2.2 = true := by rw [ec, decide_eq_false k]; simp
        refine ⟨lS, [], (i : Int), 3, toS _ ?_, toI _ ?_⟩
        · rw [if_neg c]; exact goS false false _ (by rw [decide_eq_false c]) (fun h => by cases h) (fun _ => Ev.neg (by simp) (Ev.neg k (Ev.now _)))
        · rw [if_neg c]; exact goI false _ (fun h => by cases h) (fun _ => Ev.neg k2 (Ev.now _))
theorem scriptFault_both (t : ByteArray) : ∃ R, Ev (fun k => spec_ScriptFault.f k t) R ∧ Ev (fun k => impl_ScriptFault.f k t) R := by
  by_cases c : (t.size : Int) > 8000
  · refine ⟨(⟨#[]⟩, 0, 2), ?_, ?_⟩
    · unfold spec_ScriptFault.f spec_l14Read.f
      exact Ev.bind (Ev.take rfl (Ev.pos c (Ev.now _))) (Ev.now _)
    · unfold impl_ScriptFault.f impl_actsOf.f
      exact Ev.bind (Ev.pos c (Ev.now _)) (Ev.now _)
  · have hp := lines_pos t
    obtain ⟨X, Y, r1, r2, h1, h2⟩ := script_both (linesOf t) (fun x hx => Nat.le_trans (lines_mem t x hx) (by omega)) (by omega) (linesOf t).length 0 [] [] (by omega) (by omega) rfl rfl
    refine ⟨(⟨#[]⟩, r1, r2), ?_, ?_⟩
    · unfold spec_ScriptFault.f spec_l14Read.f
      exact Ev.bind (Ev.take rfl (Ev.neg c (Ev.bind (spec_lines_ev t (by omega)) h1))) (Ev.now _)
    · unfold impl_ScriptFault.f impl_actsOf.f
      refine Ev.bind (a := (Y, (⟨#[]⟩ : ByteArray), r1, r2)) (Ev.neg c (Ev.take (impl_lines_eq t (by omega)) ?_)) (Ev.now _)
      rw [w64 (by omega) (by omega)]
      exact h2


end Go.Proofs.YtloknnlmflamgaaDoor.Print
