-- Printed by wip/myprint.py over the kit's print, in this session's own call.
import Derived.Test.YthpclkkkpponkaaRows
import Derived.Test.YthpclkkkpponkaaStFnExactAheadOf
import Derived.Test.YthpclkkkpponkaaPureFnExactAheadOf
import Derived.WalkKit
import Derived.ProofKit
import Derived.OpenShut
import Derived.ShutString
import Derived.ChangeOld
import Derived.Below
import Derived.SizedLaws
import Derived.Carry
namespace Go.Proofs.Ythpclkkkpponkaa.fnExactAheadOf
open Go.ChangeShapes Go.WideShapes Go.ChangeAt Go.RowKit
open Go.ChangeMaps (open_string shut_string)
set_option linter.unusedVariables false
theorem own : ownKnob Try.prog.godebug = none := by kernel_rfl
theorem laidOut : laidOutB Try.prog = true := by kernel_rfl
set_option maxHeartbeats 4000000 in
set_option maxRecDepth 100000 in
theorem lifted (os : Os) (started : os.Started) (H : Type) (enc : TypeId × Value → H) :
    ReturnsInHanded {} Try.checked os 3 .any (Rows.fnExactAheadOfSpec.pre6 enc Try.prog Try.f3 Rows.fnExactAheadOfRow.domain false) (Rows.fnExactAheadOfSpec.post enc Try.prog Try.f3 false true false false) := by
  refine returnsInHanded_of_change_sized (C := Try.checked) own started (by kernel_rfl) Try.func3
    (ChangeSpec.witness6 (enc := enc) (C := Try.checked) false ⟨#[], #[.agg #[.int .i64 0, .slice none 0 0, .slice none 0 0], .int .i64 0, .int .i64 0], []⟩ 8 (by kernel_rfl) (by kernel_rfl) (by kernel_rfl) (by kernel_rfl)) ?_
  intro W base args ds gs before hval0 hW hcnd hsz0 _
  have hval : ∀ (j : Nat) t v, Try.f3.params[j]? = some t → args[j]? = some v → Value.okWide Try.prog W .any base t v := hval0
  have hW' := hW
  obtain ⟨p, q, hA0, hV, rfl, hfz, hnd⟩ := hW
  have hA : DataW.TrodAll enc Try.prog W 0 (fun _ => true) true Try.f3.params.toList args.toList ds p := hA0
  rw [Try.params3] at hA hval
  obtain ⟨v0, vs0, d0, ds0, p0, q0, hargs, rfl, rfl, h0, r0⟩ := trodAll_cons hA
  obtain ⟨v1, vs1, d1, ds1, p1, q1, rfl, rfl, rfl, h1, r1⟩ := trodAll_cons r0
  obtain ⟨v2, vs2, d2, ds2, p2, q2, rfl, rfl, rfl, h2, r2⟩ := trodAll_cons r1
  obtain ⟨rfl, rfl, rfl⟩ := trodAll_nil r2
  obtain rfl : args = #[v0, v1, v2] := by cases args; simp_all
  obtain ⟨rfl, rfl⟩ := trodVars_none hV
  obtain ⟨cs0, rfl, hsz0⟩ := okWide_struct Try.underlying24 (hval 0 24 v0 rfl rfl)
  have kk0 := h0
  have lt0 : ∀ x ∈ p0, x.block < W.heap.size := by obtain ⟨m, hm⟩ := kk0; exact DataW.trod_lt m _ _ _ hm
  obtain ⟨e0_0, e0_1, e0_2, rfl⟩ : ∃ e0_0 e0_1 e0_2, cs0 = #[e0_0, e0_1, e0_2] := by
    have hl_ : cs0.toList.length = 3 := hsz0.trans (by kernel_rfl)
    obtain ⟨l⟩ := cs0
    change l.length = 3 at hl_
    obtain ⟨e0_0, l0_, rfl, hl0_⟩ := Print.uncons hl_
    obtain ⟨e0_1, l1_, rfl, hl1_⟩ := Print.uncons hl0_
    obtain ⟨e0_2, l2_, rfl, hl2_⟩ := Print.uncons hl1_
    obtain rfl := List.eq_nil_of_length_eq_zero hl2_
    exact ⟨e0_0, e0_1, e0_2, rfl⟩
  obtain ⟨fuel0, hf0⟩ := h0
  obtain ⟨_, hs0⟩ := Print.struct_open Try.underlying24 hf0
  obtain ⟨_, _, hg0_0⟩ := hs0 0 _ rfl
  obtain ⟨a0_0, hcs0_0, w0_0⟩ := Print.leaf1 Print.opn2 rfl hg0_0 (c := e0_0) rfl
  replace hcs0_0 : [e0_0] = [.int .i64 a0_0] := hcs0_0
  obtain ⟨rfl, _⟩ := List.cons.inj hcs0_0
  obtain ⟨_, _, hg0_1⟩ := hs0 1 _ rfl
  obtain ⟨l0_1, ⟨A0_1, c0_1, hcs0_1, hc0_1, hr0_1⟩, w0_1⟩ := Print.leaf1 Print.opn22 rfl hg0_1 (c := e0_1) rfl
  obtain ⟨rfl, _⟩ := List.cons.inj hcs0_1
  obtain ⟨_, _, hg0_2⟩ := hs0 2 _ rfl
  obtain ⟨l0_2, ⟨A0_2, c0_2, hcs0_2, hc0_2, hr0_2⟩, w0_2⟩ := Print.leaf1 Print.opn22 rfl hg0_2 (c := e0_2) rfl
  obtain ⟨rfl, _⟩ := List.cons.inj hcs0_2
  obtain ⟨a1, rfl, rfl, rfl, w1⟩ := open_int Try.underlying2 (hval 1 2 v1 rfl rfl) h1
  obtain ⟨a2, rfl, rfl, rfl, w2⟩ := open_int Try.underlying2 (hval 2 2 v2 rfl rfl) h2
  clear hA0 hval0 hsz0
  have hP : Print.laws_FnExactAheadOf.Pure := Pure.FnExactAheadOf
  obtain ⟨k_, h_⟩ := hP a0_0 l0_1 l0_2 a1 a2 w0_0 w0_1 w0_2 w1 w2
  refine (Print.laws_FnExactAheadOf.calls k_ a0_0 A0_1 c0_1 l0_1 A0_2 c0_2 l0_2 a1 a2 true W hr0_1 hc0_1 hr0_2 hc0_2 h_).mono fun e W' ⟨he, bel⟩ => ?_
  subst he
  exact ⟨_, rfl, _, _, _, [], _, [], hW', trodAll_mk1 (shut_bool Try.underlying4 _), (trodAll_cons_mk (Below.trod laidOut (by kernel_rfl) (of_decide_eq_true (by kernel_rfl)) kk0 bel lt0) (trodAll_cons_mk (shut_int Try.underlying2 w1) (trodAll_cons_mk (shut_int Try.underlying2 w2) trodAll_mk0))), rfl, bel.frame _, fun h => by cases h⟩
theorem over : Rows.fnExactAheadOfRow.holds Try.pinned (OpenSpec.ofChange Rows.fnExactAheadOfSpec) :=
  OpenClaim.holds_of_wide 3 Try.f3 rfl rfl rfl rfl rfl rfl rfl ⟨rfl, rfl, rfl, rfl, rfl⟩ rfl rfl rfl rfl rfl (by kernel_rfl) Try.func3 (by kernel_rfl)
    (of_decide_eq_true (by kernel_rfl)) (by unfold Func.isWrapper; first | (rw [if_pos (by decide +kernel)]; kernel_rfl) | (rw [if_neg (by decide +kernel)]; exact ⟨rfl, rfl⟩))
    (fun os started H enc _ => lifted os started H enc)
theorem proved : Rows.FnExactAheadOfSaid := over
#print axioms proved
end Go.Proofs.Ythpclkkkpponkaa.fnExactAheadOf
namespace Go.Proofs.Ythpclkkkpponkaa
/-- The row, under a short name, for the claim. -/
theorem fnExactAheadOf_holds : Rows.FnExactAheadOfSaid := fnExactAheadOf.proved
end Go.Proofs.Ythpclkkkpponkaa
