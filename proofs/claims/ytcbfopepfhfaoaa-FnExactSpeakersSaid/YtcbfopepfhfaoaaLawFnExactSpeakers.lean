-- Printed by wip/myprint.py over the kit's print, in this session's own call.
import Derived.Test.YtcbfopepfhfaoaaRows
import Derived.Test.YtcbfopepfhfaoaaStFnExactSpeakers
import Derived.Test.YtcbfopepfhfaoaaPureFnExactSpeakers
import Derived.WalkKit
import Derived.ProofKit
import Derived.OpenShut
import Derived.ShutString
import Derived.ChangeOld
import Derived.Below
import Derived.SizedLaws
import Derived.Carry
namespace Go.Proofs.Ytcbfopepfhfaoaa.fnExactSpeakers
open Go.ChangeShapes Go.WideShapes Go.ChangeAt Go.RowKit
open Go.ChangeMaps (open_string shut_string)
set_option linter.unusedVariables false
theorem own : ownKnob Try.prog.godebug = none := by kernel_rfl
theorem laidOut : laidOutB Try.prog = true := by kernel_rfl
set_option maxHeartbeats 4000000 in
set_option maxRecDepth 100000 in
theorem lifted (os : Os) (started : os.Started) (H : Type) (enc : TypeId × Value → H) :
    ReturnsInHanded {} Try.checked os 4 .any (Rows.fnExactSpeakersSpec.pre6 enc Try.prog Try.f4 Rows.fnExactSpeakersRow.domain false) (Rows.fnExactSpeakersSpec.post enc Try.prog Try.f4 false true false false) := by
  refine returnsInHanded_of_change_sized (C := Try.checked) own started (by kernel_rfl) Try.func4
    (ChangeSpec.witness6 (enc := enc) (C := Try.checked) false ⟨#[], #[.agg #[.int .i64 0, .slice none 0 0, .slice none 0 0, .bool false, .int .i64 0]], []⟩ 8 (by kernel_rfl) (by kernel_rfl) (by kernel_rfl) (by kernel_rfl)) ?_
  intro W base args ds gs before hval0 hW hcnd hsz0 _
  have hval : ∀ (j : Nat) t v, Try.f4.params[j]? = some t → args[j]? = some v → Value.okWide Try.prog W .any base t v := hval0
  have hW' := hW
  obtain ⟨p, q, hA0, hV, rfl, hfz, hnd⟩ := hW
  have hA : DataW.TrodAll enc Try.prog W 0 (fun _ => true) true Try.f4.params.toList args.toList ds p := hA0
  rw [Try.params4] at hA hval
  obtain ⟨v0, vs0, d0, ds0, p0, q0, hargs, rfl, rfl, h0, r0⟩ := trodAll_cons hA
  obtain ⟨rfl, rfl, rfl⟩ := trodAll_nil r0
  obtain rfl : args = #[v0] := by cases args; simp_all
  obtain ⟨rfl, rfl⟩ := trodVars_none hV
  obtain ⟨cs0, rfl, hsz0⟩ := okWide_struct Try.underlying32 (hval 0 32 v0 rfl rfl)
  have kk0 := h0
  have lt0 : ∀ x ∈ p0, x.block < W.heap.size := by obtain ⟨m, hm⟩ := kk0; exact DataW.trod_lt m _ _ _ hm
  obtain ⟨e0_0, e0_1, e0_2, e0_3, e0_4, rfl⟩ : ∃ e0_0 e0_1 e0_2 e0_3 e0_4, cs0 = #[e0_0, e0_1, e0_2, e0_3, e0_4] := by
    have hl_ : cs0.toList.length = 5 := hsz0.trans (by kernel_rfl)
    obtain ⟨l⟩ := cs0
    change l.length = 5 at hl_
    obtain ⟨e0_0, l0_, rfl, hl0_⟩ := Print.uncons hl_
    obtain ⟨e0_1, l1_, rfl, hl1_⟩ := Print.uncons hl0_
    obtain ⟨e0_2, l2_, rfl, hl2_⟩ := Print.uncons hl1_
    obtain ⟨e0_3, l3_, rfl, hl3_⟩ := Print.uncons hl2_
    obtain ⟨e0_4, l4_, rfl, hl4_⟩ := Print.uncons hl3_
    obtain rfl := List.eq_nil_of_length_eq_zero hl4_
    exact ⟨e0_0, e0_1, e0_2, e0_3, e0_4, rfl⟩
  obtain ⟨fuel0, hf0⟩ := h0
  obtain ⟨_, hs0⟩ := Print.struct_open Try.underlying32 hf0
  obtain ⟨_, _, hg0_0⟩ := hs0 0 _ rfl
  obtain ⟨a0_0, hcs0_0, w0_0⟩ := Print.leaf1 Print.opn2 rfl hg0_0 (c := e0_0) rfl
  replace hcs0_0 : [e0_0] = [.int .i64 a0_0] := hcs0_0
  obtain ⟨rfl, _⟩ := List.cons.inj hcs0_0
  obtain ⟨_, _, hg0_1⟩ := hs0 1 _ rfl
  obtain ⟨l0_1, ⟨A0_1, c0_1, hcs0_1, hc0_1, hr0_1⟩, w0_1⟩ := Print.leaf1 Print.opn22 rfl hg0_1 (c := e0_1) rfl
  obtain ⟨rfl, _⟩ := List.cons.inj hcs0_1
  obtain ⟨_, _, hg0_2⟩ := hs0 2 _ rfl
  obtain ⟨l0_2, ⟨A0_2, c0_2, hcs0_2, hc0_2, hr0_2⟩, w0_2⟩ := Print.leaf1 Print.opn30 rfl hg0_2 (c := e0_2) rfl
  obtain ⟨rfl, _⟩ := List.cons.inj hcs0_2
  obtain ⟨_, _, hg0_3⟩ := hs0 3 _ rfl
  obtain ⟨a0_3, hcs0_3, w0_3⟩ := Print.leaf1 Print.opn4 rfl hg0_3 (c := e0_3) rfl
  replace hcs0_3 : [e0_3] = [.bool a0_3] := hcs0_3
  obtain ⟨rfl, _⟩ := List.cons.inj hcs0_3
  obtain ⟨_, _, hg0_4⟩ := hs0 4 _ rfl
  obtain ⟨a0_4, hcs0_4, w0_4⟩ := Print.leaf1 Print.opn2 rfl hg0_4 (c := e0_4) rfl
  replace hcs0_4 : [e0_4] = [.int .i64 a0_4] := hcs0_4
  obtain ⟨rfl, _⟩ := List.cons.inj hcs0_4
  clear hA0 hval0 hsz0
  have hP : Print.laws_FnExactSpeakers.Pure := Pure.FnExactSpeakers
  obtain ⟨k_, h_⟩ := hP a0_0 l0_1 l0_2 a0_3 a0_4 w0_0 w0_1 w0_2 w0_4
  refine (Print.laws_FnExactSpeakers.calls k_ a0_0 A0_1 c0_1 l0_1 A0_2 c0_2 l0_2 a0_3 a0_4 true W hr0_1 hc0_1 hr0_2 hc0_2 h_).mono fun e W' ⟨he, bel⟩ => ?_
  subst he
  exact ⟨_, rfl, _, _, _, [], _, [], hW', trodAll_mk1 (shut_bool Try.underlying4 _), (trodAll_cons_mk (Below.trod laidOut (by kernel_rfl) (of_decide_eq_true (by kernel_rfl)) kk0 bel lt0) trodAll_mk0), rfl, bel.frame _, fun h => by cases h⟩
theorem over : Rows.fnExactSpeakersRow.holds Try.pinned (OpenSpec.ofChange Rows.fnExactSpeakersSpec) :=
  OpenClaim.holds_of_wide 4 Try.f4 rfl rfl rfl rfl rfl rfl rfl ⟨rfl, rfl, rfl, rfl, rfl⟩ rfl rfl rfl rfl rfl (by kernel_rfl) Try.func4 (by kernel_rfl)
    (of_decide_eq_true (by kernel_rfl)) (by unfold Func.isWrapper; first | (rw [if_pos (by decide +kernel)]; kernel_rfl) | (rw [if_neg (by decide +kernel)]; exact ⟨rfl, rfl⟩))
    (fun os started H enc _ => lifted os started H enc)
theorem proved : Rows.FnExactSpeakersSaid := over
#print axioms proved
end Go.Proofs.Ytcbfopepfhfaoaa.fnExactSpeakers
namespace Go.Proofs.Ytcbfopepfhfaoaa
/-- The row, under a short name, for the claim. -/
theorem fnExactSpeakers_holds : Rows.FnExactSpeakersSaid := fnExactSpeakers.proved
end Go.Proofs.Ytcbfopepfhfaoaa
