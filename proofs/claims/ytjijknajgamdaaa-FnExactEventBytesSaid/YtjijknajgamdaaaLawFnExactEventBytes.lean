-- Printed by wip/myprint.py over the kit's print, in this session's own call.
import Derived.Test.YtjijknajgamdaaaRows
import Derived.Test.YtjijknajgamdaaaStFnExactEventBytes
import Derived.Test.YtjijknajgamdaaaPureFnExactEventBytes
import Derived.WalkKit
import Derived.ProofKit
import Derived.OpenShut
import Derived.ShutString
import Derived.ChangeOld
import Derived.Below
import Derived.SizedLaws
import Derived.Carry
namespace Go.Proofs.Ytjijknajgamdaaa.fnExactEventBytes
open Go.ChangeShapes Go.WideShapes Go.ChangeAt Go.RowKit
open Go.ChangeMaps (open_string shut_string)
set_option linter.unusedVariables false
theorem own : ownKnob Try.prog.godebug = none := by kernel_rfl
theorem laidOut : laidOutB Try.prog = true := by kernel_rfl
set_option maxHeartbeats 4000000 in
set_option maxRecDepth 100000 in
theorem lifted (os : Os) (started : os.Started) (H : Type) (enc : TypeId × Value → H) :
    ReturnsInHanded {} Try.checked os 6 .any (Rows.fnExactEventBytesSpec.pre6 enc Try.prog Try.f6 Rows.fnExactEventBytesRow.domain false) (Rows.fnExactEventBytesSpec.post enc Try.prog Try.f6 false true false false) := by
  refine returnsInHanded_of_change_sized (C := Try.checked) own started (by kernel_rfl) Try.func6
    (ChangeSpec.witness6 (enc := enc) (C := Try.checked) false ⟨#[], #[.agg #[.int .i64 0, .int .i64 0, .int .i64 0, .int .i64 0, .int .i64 0, .int .i64 0, .string ByteArray.empty, .slice none 0 0, .int .i64 0]], []⟩ 8 (by kernel_rfl) (by kernel_rfl) (by kernel_rfl) (by kernel_rfl)) ?_
  intro W base args ds gs before hval0 hW hcnd hsz0 _
  have hval : ∀ (j : Nat) t v, Try.f6.params[j]? = some t → args[j]? = some v → Value.okWide Try.prog W .any base t v := hval0
  have hW' := hW
  obtain ⟨p, q, hA0, hV, rfl, hfz, hnd⟩ := hW
  have hA : DataW.TrodAll enc Try.prog W 0 (fun _ => true) true Try.f6.params.toList args.toList ds p := hA0
  rw [Try.params6] at hA hval
  obtain ⟨v0, vs0, d0, ds0, p0, q0, hargs, rfl, rfl, h0, r0⟩ := trodAll_cons hA
  obtain ⟨rfl, rfl, rfl⟩ := trodAll_nil r0
  obtain rfl : args = #[v0] := by cases args; simp_all
  obtain ⟨rfl, rfl⟩ := trodVars_none hV
  obtain ⟨cs0, rfl, hsz0⟩ := okWide_struct Try.underlying24 (hval 0 24 v0 rfl rfl)
  have kk0 := h0
  have lt0 : ∀ x ∈ p0, x.block < W.heap.size := by obtain ⟨m, hm⟩ := kk0; exact DataW.trod_lt m _ _ _ hm
  obtain ⟨e0_0, e0_1, e0_2, e0_3, e0_4, e0_5, e0_6, e0_7, e0_8, rfl⟩ : ∃ e0_0 e0_1 e0_2 e0_3 e0_4 e0_5 e0_6 e0_7 e0_8, cs0 = #[e0_0, e0_1, e0_2, e0_3, e0_4, e0_5, e0_6, e0_7, e0_8] := by
    have hl_ : cs0.toList.length = 9 := hsz0.trans (by kernel_rfl)
    obtain ⟨l⟩ := cs0
    change l.length = 9 at hl_
    obtain ⟨e0_0, l0_, rfl, hl0_⟩ := Print.uncons hl_
    obtain ⟨e0_1, l1_, rfl, hl1_⟩ := Print.uncons hl0_
    obtain ⟨e0_2, l2_, rfl, hl2_⟩ := Print.uncons hl1_
    obtain ⟨e0_3, l3_, rfl, hl3_⟩ := Print.uncons hl2_
    obtain ⟨e0_4, l4_, rfl, hl4_⟩ := Print.uncons hl3_
    obtain ⟨e0_5, l5_, rfl, hl5_⟩ := Print.uncons hl4_
    obtain ⟨e0_6, l6_, rfl, hl6_⟩ := Print.uncons hl5_
    obtain ⟨e0_7, l7_, rfl, hl7_⟩ := Print.uncons hl6_
    obtain ⟨e0_8, l8_, rfl, hl8_⟩ := Print.uncons hl7_
    obtain rfl := List.eq_nil_of_length_eq_zero hl8_
    exact ⟨e0_0, e0_1, e0_2, e0_3, e0_4, e0_5, e0_6, e0_7, e0_8, rfl⟩
  obtain ⟨fuel0, hf0⟩ := h0
  obtain ⟨_, hs0⟩ := Print.struct_open Try.underlying24 hf0
  obtain ⟨_, _, hg0_0⟩ := hs0 0 _ rfl
  obtain ⟨a0_0, hcs0_0, w0_0⟩ := Print.leaf1 Print.opn2 rfl hg0_0 (c := e0_0) rfl
  replace hcs0_0 : [e0_0] = [.int .i64 a0_0] := hcs0_0
  obtain ⟨rfl, _⟩ := List.cons.inj hcs0_0
  obtain ⟨_, _, hg0_1⟩ := hs0 1 _ rfl
  obtain ⟨a0_1, hcs0_1, w0_1⟩ := Print.leaf1 Print.opn2 rfl hg0_1 (c := e0_1) rfl
  replace hcs0_1 : [e0_1] = [.int .i64 a0_1] := hcs0_1
  obtain ⟨rfl, _⟩ := List.cons.inj hcs0_1
  obtain ⟨_, _, hg0_2⟩ := hs0 2 _ rfl
  obtain ⟨a0_2, hcs0_2, w0_2⟩ := Print.leaf1 Print.opn2 rfl hg0_2 (c := e0_2) rfl
  replace hcs0_2 : [e0_2] = [.int .i64 a0_2] := hcs0_2
  obtain ⟨rfl, _⟩ := List.cons.inj hcs0_2
  obtain ⟨_, _, hg0_3⟩ := hs0 3 _ rfl
  obtain ⟨a0_3, hcs0_3, w0_3⟩ := Print.leaf1 Print.opn2 rfl hg0_3 (c := e0_3) rfl
  replace hcs0_3 : [e0_3] = [.int .i64 a0_3] := hcs0_3
  obtain ⟨rfl, _⟩ := List.cons.inj hcs0_3
  obtain ⟨_, _, hg0_4⟩ := hs0 4 _ rfl
  obtain ⟨a0_4, hcs0_4, w0_4⟩ := Print.leaf1 Print.opn2 rfl hg0_4 (c := e0_4) rfl
  replace hcs0_4 : [e0_4] = [.int .i64 a0_4] := hcs0_4
  obtain ⟨rfl, _⟩ := List.cons.inj hcs0_4
  obtain ⟨_, _, hg0_5⟩ := hs0 5 _ rfl
  obtain ⟨a0_5, hcs0_5, w0_5⟩ := Print.leaf1 Print.opn2 rfl hg0_5 (c := e0_5) rfl
  replace hcs0_5 : [e0_5] = [.int .i64 a0_5] := hcs0_5
  obtain ⟨rfl, _⟩ := List.cons.inj hcs0_5
  obtain ⟨_, _, hg0_6⟩ := hs0 6 _ rfl
  obtain ⟨a0_6, hcs0_6, w0_6⟩ := Print.leaf1 Print.opn9 rfl hg0_6 (c := e0_6) rfl
  replace hcs0_6 : [e0_6] = [.string a0_6] := hcs0_6
  obtain ⟨rfl, _⟩ := List.cons.inj hcs0_6
  obtain ⟨_, _, hg0_7⟩ := hs0 7 _ rfl
  obtain ⟨l0_7, ⟨A0_7, c0_7, hcs0_7, hc0_7, hr0_7⟩, w0_7⟩ := Print.leaf1 Print.opn22 rfl hg0_7 (c := e0_7) rfl
  obtain ⟨rfl, _⟩ := List.cons.inj hcs0_7
  obtain ⟨_, _, hg0_8⟩ := hs0 8 _ rfl
  obtain ⟨a0_8, hcs0_8, w0_8⟩ := Print.leaf1 Print.opn2 rfl hg0_8 (c := e0_8) rfl
  replace hcs0_8 : [e0_8] = [.int .i64 a0_8] := hcs0_8
  obtain ⟨rfl, _⟩ := List.cons.inj hcs0_8
  clear hA0 hval0 hsz0
  have hP : Print.laws_FnExactEventBytes.Pure := Pure.FnExactEventBytes
  obtain ⟨k_, h_⟩ := hP a0_0 a0_1 a0_2 a0_3 a0_4 a0_5 a0_6 l0_7 a0_8 w0_0 w0_1 w0_2 w0_3 w0_4 w0_5 w0_6 w0_7 w0_8
  refine (Print.laws_FnExactEventBytes.calls k_ a0_0 a0_1 a0_2 a0_3 a0_4 a0_5 a0_6 A0_7 c0_7 l0_7 a0_8 true W hr0_7 hc0_7 h_).mono fun e W' ⟨he, bel⟩ => ?_
  subst he
  exact ⟨_, rfl, _, _, _, [], _, [], hW', trodAll_mk1 (shut_bool Try.underlying4 _), (trodAll_cons_mk (Below.trod laidOut (by kernel_rfl) (of_decide_eq_true (by kernel_rfl)) kk0 bel lt0) trodAll_mk0), rfl, bel.frame _, fun h => by cases h⟩
theorem over : Rows.fnExactEventBytesRow.holds Try.pinned (OpenSpec.ofChange Rows.fnExactEventBytesSpec) :=
  OpenClaim.holds_of_wide 6 Try.f6 rfl rfl rfl rfl rfl rfl rfl ⟨rfl, rfl, rfl, rfl, rfl⟩ rfl rfl rfl rfl rfl (by kernel_rfl) Try.func6 (by kernel_rfl)
    (of_decide_eq_true (by kernel_rfl)) (by unfold Func.isWrapper; first | (rw [if_pos (by decide +kernel)]; kernel_rfl) | (rw [if_neg (by decide +kernel)]; exact ⟨rfl, rfl⟩))
    (fun os started H enc _ => lifted os started H enc)
theorem proved : Rows.FnExactEventBytesSaid := over
#print axioms proved
end Go.Proofs.Ytjijknajgamdaaa.fnExactEventBytes
namespace Go.Proofs.Ytjijknajgamdaaa
/-- The row, under a short name, for the claim. -/
theorem fnExactEventBytes_holds : Rows.FnExactEventBytesSaid := fnExactEventBytes.proved
end Go.Proofs.Ytjijknajgamdaaa
