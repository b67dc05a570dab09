-- Printed by wip/myprint.py over the kit's print, in this session's own call.
import Derived.Test.YtjijknajgamdaaaRows
import Derived.Test.YtjijknajgamdaaaStFnExactSameEvent
import Derived.Test.YtjijknajgamdaaaPureFnExactSameEvent
import Derived.WalkKit
import Derived.ProofKit
import Derived.OpenShut
import Derived.ShutString
import Derived.ChangeOld
import Derived.Below
import Derived.SizedLaws
import Derived.Carry
namespace Go.Proofs.Ytjijknajgamdaaa.fnExactSameEvent
open Go.ChangeShapes Go.WideShapes Go.ChangeAt Go.RowKit
open Go.ChangeMaps (open_string shut_string)
set_option linter.unusedVariables false
theorem own : ownKnob Try.prog.godebug = none := by kernel_rfl
theorem laidOut : laidOutB Try.prog = true := by kernel_rfl
set_option maxHeartbeats 4000000 in
set_option maxRecDepth 100000 in
theorem lifted (os : Os) (started : os.Started) (H : Type) (enc : TypeId × Value → H) :
    ReturnsInHanded {} Try.checked os 3 .any (Rows.fnExactSameEventSpec.pre6 enc Try.prog Try.f3 Rows.fnExactSameEventRow.domain false) (Rows.fnExactSameEventSpec.post enc Try.prog Try.f3 false true false false) := by
  refine returnsInHanded_of_change_sized (C := Try.checked) own started (by kernel_rfl) Try.func3
    (ChangeSpec.witness6 (enc := enc) (C := Try.checked) false ⟨#[], #[.agg #[.int .i64 0, .int .i64 0, .int .i64 0, .int .i64 0, .int .i64 0, .int .i64 0, .string ByteArray.empty, .slice none 0 0, .int .i64 0], .agg #[.int .i64 0, .int .i64 0, .int .i64 0, .int .i64 0, .int .i64 0, .int .i64 0, .string ByteArray.empty, .slice none 0 0, .int .i64 0]], []⟩ 8 (by kernel_rfl) (by kernel_rfl) (by kernel_rfl) (by kernel_rfl)) ?_
  intro W base args ds gs before hval0 hW hcnd hsz0 _
  have hval : ∀ (j : Nat) t v, Try.f3.params[j]? = some t → args[j]? = some v → Value.okWide Try.prog W .any base t v := hval0
  have hW' := hW
  obtain ⟨p, q, hA0, hV, rfl, hfz, hnd⟩ := hW
  have hA : DataW.TrodAll enc Try.prog W 0 (fun _ => true) true Try.f3.params.toList args.toList ds p := hA0
  rw [Try.params3] at hA hval
  obtain ⟨v0, vs0, d0, ds0, p0, q0, hargs, rfl, rfl, h0, r0⟩ := trodAll_cons hA
  obtain ⟨v1, vs1, d1, ds1, p1, q1, rfl, rfl, rfl, h1, r1⟩ := trodAll_cons r0
  obtain ⟨rfl, rfl, rfl⟩ := trodAll_nil r1
  obtain rfl : args = #[v0, v1] := by cases args; simp_all
  obtain ⟨rfl, rfl⟩ := trodVars_none hV
  obtain ⟨cs0, rfl, hsz0⟩ := okWide_struct Try.underlying24 (hval 0 24 v0 rfl rfl)
  have kk0 := h0
  have lt0 : ∀ x ∈ p0, x.block < W.heap.size := by obtain ⟨m, hm⟩ := kk0; exact DataW.trod_lt m _ _ _ hm
  obtain ⟨e0_0, e0_1, e0_2, e0_3, e0_4, e0_5, e0_6, e0_7, e0_8, rfl⟩ : ∃ e0_0 e0_1 e0_2 e0_3 e0_4 e0_5 e0_6 e0_7 e0_8, cs0 = #[e0_0, e0_1, e0_2, e0_3, e0_4, e0_5, e0_6, e0_7, e0_8] := by
    have hl_ : cs0.toList.length = 9 := hsz0.trans (by kernel_rfl)
    obtain ⟨l⟩ := cs0
    change l.length = 9 at hl_
    obtain ⟨e0_0, l0_, rfl, hl0_⟩ := Print.uncons hl_
    obtain ⟨e0_1, l1_, rfl, hl1_⟩ := Print.uncons hl0_
    obtain ⟨e0_2, l2_, rfl, hl2_⟩ := Print.uncons hl1_
    obtain ⟨e0_3, l3_, rfl, hl3_⟩ := Print.uncons hl2_
    obtain ⟨e0_4, l4_, rfl, hl4_⟩ := Print.uncons hl3_
    obtain ⟨e0_5, l5_, rfl, hl5_⟩ := Print.uncons hl4_
    obtain ⟨e0_6, l6_, rfl, hl6_⟩ := Print.uncons hl5_
    obtain ⟨e0_7, l7_, rfl, hl7_⟩ := Print.uncons hl6_
    obtain ⟨e0_8, l8_, rfl, hl8_⟩ := Print.uncons hl7_
    obtain rfl := List.eq_nil_of_length_eq_zero hl8_
    exact ⟨e0_0, e0_1, e0_2, e0_3, e0_4, e0_5, e0_6, e0_7, e0_8, rfl⟩
  obtain ⟨fuel0, hf0⟩ := h0
  obtain ⟨_, hs0⟩ := Print.struct_open Try.underlying24 hf0
  obtain ⟨_, _, hg0_0⟩ := hs0 0 _ rfl
  obtain ⟨a0_0, hcs0_0, w0_0⟩ := Print.leaf1 Print.opn2 rfl hg0_0 (c := e0_0) rfl
  replace hcs0_0 : [e0_0] = [.int .i64 a0_0] := hcs0_0
  obtain ⟨rfl, _⟩ := List.cons.inj hcs0_0
  obtain ⟨_, _, hg0_1⟩ := hs0 1 _ rfl
  obtain ⟨a0_1, hcs0_1, w0_1⟩ := Print.leaf1 Print.opn2 rfl hg0_1 (c := e0_1) rfl
  replace hcs0_1 : [e0_1] = [.int .i64 a0_1] := hcs0_1
  obtain ⟨rfl, _⟩ := List.cons.inj hcs0_1
  obtain ⟨_, _, hg0_2⟩ := hs0 2 _ rfl
  obtain ⟨a0_2, hcs0_2, w0_2⟩ := Print.leaf1 Print.opn2 rfl hg0_2 (c := e0_2) rfl
  replace hcs0_2 : [e0_2] = [.int .i64 a0_2] := hcs0_2
  obtain ⟨rfl, _⟩ := List.cons.inj hcs0_2
  obtain ⟨_, _, hg0_3⟩ := hs0 3 _ rfl
  obtain ⟨a0_3, hcs0_3, w0_3⟩ := Print.leaf1 Print.opn2 rfl hg0_3 (c := e0_3) rfl
  replace hcs0_3 : [e0_3] = [.int .i64 a0_3] := hcs0_3
  obtain ⟨rfl, _⟩ := List.cons.inj hcs0_3
  obtain ⟨_, _, hg0_4⟩ := hs0 4 _ rfl
  obtain ⟨a0_4, hcs0_4, w0_4⟩ := Print.leaf1 Print.opn2 rfl hg0_4 (c := e0_4) rfl
  replace hcs0_4 : [e0_4] = [.int .i64 a0_4] := hcs0_4
  obtain ⟨rfl, _⟩ := List.cons.inj hcs0_4
  obtain ⟨_, _, hg0_5⟩ := hs0 5 _ rfl
  obtain ⟨a0_5, hcs0_5, w0_5⟩ := Print.leaf1 Print.opn2 rfl hg0_5 (c := e0_5) rfl
  replace hcs0_5 : [e0_5] = [.int .i64 a0_5] := hcs0_5
  obtain ⟨rfl, _⟩ := List.cons.inj hcs0_5
  obtain ⟨_, _, hg0_6⟩ := hs0 6 _ rfl
  obtain ⟨a0_6, hcs0_6, w0_6⟩ := Print.leaf1 Print.opn9 rfl hg0_6 (c := e0_6) rfl
  replace hcs0_6 : [e0_6] = [.string a0_6] := hcs0_6
  obtain ⟨rfl, _⟩ := List.cons.inj hcs0_6
  obtain ⟨_, _, hg0_7⟩ := hs0 7 _ rfl
  obtain ⟨l0_7, ⟨A0_7, c0_7, hcs0_7, hc0_7, hr0_7⟩, w0_7⟩ := Print.leaf1 Print.opn22 rfl hg0_7 (c := e0_7) rfl
  obtain ⟨rfl, _⟩ := List.cons.inj hcs0_7
  obtain ⟨_, _, hg0_8⟩ := hs0 8 _ rfl
  obtain ⟨a0_8, hcs0_8, w0_8⟩ := Print.leaf1 Print.opn2 rfl hg0_8 (c := e0_8) rfl
  replace hcs0_8 : [e0_8] = [.int .i64 a0_8] := hcs0_8
  obtain ⟨rfl, _⟩ := List.cons.inj hcs0_8
  obtain ⟨cs1, rfl, hsz1⟩ := okWide_struct Try.underlying24 (hval 1 24 v1 rfl rfl)
  have kk1 := h1
  have lt1 : ∀ x ∈ p1, x.block < W.heap.size := by obtain ⟨m, hm⟩ := kk1; exact DataW.trod_lt m _ _ _ hm
  obtain ⟨e1_0, e1_1, e1_2, e1_3, e1_4, e1_5, e1_6, e1_7, e1_8, rfl⟩ : ∃ e1_0 e1_1 e1_2 e1_3 e1_4 e1_5 e1_6 e1_7 e1_8, cs1 = #[e1_0, e1_1, e1_2, e1_3, e1_4, e1_5, e1_6, e1_7, e1_8] := by
    have hl_ : cs1.toList.length = 9 := hsz1.trans (by kernel_rfl)
    obtain ⟨l⟩ := cs1
    change l.length = 9 at hl_
    obtain ⟨e1_0, l0_, rfl, hl0_⟩ := Print.uncons hl_
    obtain ⟨e1_1, l1_, rfl, hl1_⟩ := Print.uncons hl0_
    obtain ⟨e1_2, l2_, rfl, hl2_⟩ := Print.uncons hl1_
    obtain ⟨e1_3, l3_, rfl, hl3_⟩ := Print.uncons hl2_
    obtain ⟨e1_4, l4_, rfl, hl4_⟩ := Print.uncons hl3_
    obtain ⟨e1_5, l5_, rfl, hl5_⟩ := Print.uncons hl4_
    obtain ⟨e1_6, l6_, rfl, hl6_⟩ := Print.uncons hl5_
    obtain ⟨e1_7, l7_, rfl, hl7_⟩ := Print.uncons hl6_
    obtain ⟨e1_8, l8_, rfl, hl8_⟩ := Print.uncons hl7_
    obtain rfl := List.eq_nil_of_length_eq_zero hl8_
    exact ⟨e1_0, e1_1, e1_2, e1_3, e1_4, e1_5, e1_6, e1_7, e1_8, rfl⟩
  obtain ⟨fuel1, hf1⟩ := h1
  obtain ⟨_, hs1⟩ := Print.struct_open Try.underlying24 hf1
  obtain ⟨_, _, hg1_0⟩ := hs1 0 _ rfl
  obtain ⟨a1_0, hcs1_0, w1_0⟩ := Print.leaf1 Print.opn2 rfl hg1_0 (c := e1_0) rfl
  replace hcs1_0 : [e1_0] = [.int .i64 a1_0] := hcs1_0
  obtain ⟨rfl, _⟩ := List.cons.inj hcs1_0
  obtain ⟨_, _, hg1_1⟩ := hs1 1 _ rfl
  obtain ⟨a1_1, hcs1_1, w1_1⟩ := Print.leaf1 Print.opn2 rfl hg1_1 (c := e1_1) rfl
  replace hcs1_1 : [e1_1] = [.int .i64 a1_1] := hcs1_1
  obtain ⟨rfl, _⟩ := List.cons.inj hcs1_1
  obtain ⟨_, _, hg1_2⟩ := hs1 2 _ rfl
  obtain ⟨a1_2, hcs1_2, w1_2⟩ := Print.leaf1 Print.opn2 rfl hg1_2 (c := e1_2) rfl
  replace hcs1_2 : [e1_2] = [.int .i64 a1_2] := hcs1_2
  obtain ⟨rfl, _⟩ := List.cons.inj hcs1_2
  obtain ⟨_, _, hg1_3⟩ := hs1 3 _ rfl
  obtain ⟨a1_3, hcs1_3, w1_3⟩ := Print.leaf1 Print.opn2 rfl hg1_3 (c := e1_3) rfl
  replace hcs1_3 : [e1_3] = [.int .i64 a1_3] := hcs1_3
  obtain ⟨rfl, _⟩ := List.cons.inj hcs1_3
  obtain ⟨_, _, hg1_4⟩ := hs1 4 _ rfl
  obtain ⟨a1_4, hcs1_4, w1_4⟩ := Print.leaf1 Print.opn2 rfl hg1_4 (c := e1_4) rfl
  replace hcs1_4 : [e1_4] = [.int .i64 a1_4] := hcs1_4
  obtain ⟨rfl, _⟩ := List.cons.inj hcs1_4
  obtain ⟨_, _, hg1_5⟩ := hs1 5 _ rfl
  obtain ⟨a1_5, hcs1_5, w1_5⟩ := Print.leaf1 Print.opn2 rfl hg1_5 (c := e1_5) rfl
  replace hcs1_5 : [e1_5] = [.int .i64 a1_5] := hcs1_5
  obtain ⟨rfl, _⟩ := List.cons.inj hcs1_5
  obtain ⟨_, _, hg1_6⟩ := hs1 6 _ rfl
  obtain ⟨a1_6, hcs1_6, w1_6⟩ := Print.leaf1 Print.opn9 rfl hg1_6 (c := e1_6) rfl
  replace hcs1_6 : [e1_6] = [.string a1_6] := hcs1_6
  obtain ⟨rfl, _⟩ := List.cons.inj hcs1_6
  obtain ⟨_, _, hg1_7⟩ := hs1 7 _ rfl
  obtain ⟨l1_7, ⟨A1_7, c1_7, hcs1_7, hc1_7, hr1_7⟩, w1_7⟩ := Print.leaf1 Print.opn22 rfl hg1_7 (c := e1_7) rfl
  obtain ⟨rfl, _⟩ := List.cons.inj hcs1_7
  obtain ⟨_, _, hg1_8⟩ := hs1 8 _ rfl
  obtain ⟨a1_8, hcs1_8, w1_8⟩ := Print.leaf1 Print.opn2 rfl hg1_8 (c := e1_8) rfl
  replace hcs1_8 : [e1_8] = [.int .i64 a1_8] := hcs1_8
  obtain ⟨rfl, _⟩ := List.cons.inj hcs1_8
  clear hA0 hval0 hsz0
  have hP : Print.laws_FnExactSameEvent.Pure := Pure.FnExactSameEvent
  obtain ⟨k_, h_⟩ := hP a0_0 a0_1 a0_2 a0_3 a0_4 a0_5 a0_6 l0_7 a0_8 a1_0 a1_1 a1_2 a1_3 a1_4 a1_5 a1_6 l1_7 a1_8 w0_0 w0_1 w0_2 w0_3 w0_4 w0_5 w0_6 w0_7 w0_8 w1_0 w1_1 w1_2 w1_3 w1_4 w1_5 w1_6 w1_7 w1_8
  refine (Print.laws_FnExactSameEvent.calls k_ a0_0 a0_1 a0_2 a0_3 a0_4 a0_5 a0_6 A0_7 c0_7 l0_7 a0_8 a1_0 a1_1 a1_2 a1_3 a1_4 a1_5 a1_6 A1_7 c1_7 l1_7 a1_8 true W hr0_7 hc0_7 hr1_7 hc1_7 h_).mono fun e W' ⟨he, bel⟩ => ?_
  subst he
  exact ⟨_, rfl, _, _, _, [], _, [], hW', trodAll_mk1 (shut_bool Try.underlying4 _), (trodAll_cons_mk (Below.trod laidOut (by kernel_rfl) (of_decide_eq_true (by kernel_rfl)) kk0 bel lt0) (trodAll_cons_mk (Below.trod laidOut (by kernel_rfl) (of_decide_eq_true (by kernel_rfl)) kk1 bel lt1) trodAll_mk0)), rfl, bel.frame _, fun h => by cases h⟩
theorem over : Rows.fnExactSameEventRow.holds Try.pinned (OpenSpec.ofChange Rows.fnExactSameEventSpec) :=
  OpenClaim.holds_of_wide 3 Try.f3 rfl rfl rfl rfl rfl rfl rfl ⟨rfl, rfl, rfl, rfl, rfl⟩ rfl rfl rfl rfl rfl (by kernel_rfl) Try.func3 (by kernel_rfl)
    (of_decide_eq_true (by kernel_rfl)) (by unfold Func.isWrapper; first | (rw [if_pos (by decide +kernel)]; kernel_rfl) | (rw [if_neg (by decide +kernel)]; exact ⟨rfl, rfl⟩))
    (fun os started H enc _ => lifted os started H enc)
theorem proved : Rows.FnExactSameEventSaid := over
#print axioms proved
end Go.Proofs.Ytjijknajgamdaaa.fnExactSameEvent
namespace Go.Proofs.Ytjijknajgamdaaa
/-- The row, under a short name, for the claim. -/
theorem fnExactSameEvent_holds : Rows.FnExactSameEventSaid := fnExactSameEvent.proved
end Go.Proofs.Ytjijknajgamdaaa
