-- Printed by wip/myprint.py over the kit's print, in this session's own call.
import Derived.Test.YtahkcifbclloiaaDoorRows
import Derived.Test.YtahkcifbclloiaaDoorCards
import Derived.Test.YtahkcifbclloiaaDoorTie
import Derived.Test.YtahkcifbclloiaaDoorStFnExactSessionRight
import Derived.Test.YtahkcifbclloiaaDoorPureFnExactSessionRight
import Derived.LaidMore
import Derived.LaidLaws
import Derived.Lib.LaidTab
import Derived.Lib.AppendIntMem
import Derived.SevenTiedAt
import Derived.MakeChecks
import Derived.LaidHandle
import Derived.Stop.Joined
import Derived.Stop.LaidErr
import Derived.WalkKit
import Derived.ProofKit
import Derived.OpenShut
import Derived.ShutString
import Derived.ChangeOld
import Derived.Below
import Derived.SizedLaws
import Derived.Carry
namespace Go.Proofs.YtahkcifbclloiaaDoor.fnExactSessionRight
open Go.ChangeShapes Go.WideShapes Go.ChangeAt Go.RowKit
open Go.ChangeMaps (open_string shut_string)
set_option linter.unusedVariables false
theorem own : ownKnob Tryd.prog.godebug = none := by kernel_rfl
theorem laidMet_tail {P : Program} {x : String × DataW Unit} {r : List (String × DataW Unit)} {W : World} (h : laidMet P (x :: r) W) : laidMet P r W := by
  obtain ⟨ps, ⟨g, t, cs, fu, p, q, _, _, _, _, hq, e⟩, hn, hr⟩ := h
  subst e
  exact ⟨q, hq, (List.nodup_append.1 hn).2.1, fun b off hb => hr b off (List.mem_append_right _ hb)⟩
/-- The one type of that name. -/
theorem errRow (u : TypeId) (h : Tryd.prog.typeName? 3 u = some "*errors.errorString") : u = 94 :=
  typeName_ptr_named (nm := "errors.errorString") (by rw [show "*" ++ "errors.errorString" = "*errors.errorString" by decide]; kernel_rfl) (by kernel_rfl) (by decide) u (by rw [show "*" ++ "errors.errorString" = "*errors.errorString" by decide]; exact h)
/-- What the row's listed variables give the walk. -/
theorem tab_of {W : World} (h : laidMetH Tryd.prog Rows.fnExactSessionRightRow.laid W) : Print.TabB Tryd.prog W := by
  rw [MakeChecks.laidMetH_plain _ _ _ (by kernel_rfl)] at h
  exact ⟨(Lib.tabBelow_of_tabIs (Lib.tabIs_of_head (g := 0) (t := 81) (e := 67) (by kernel_rfl) (by kernel_rfl) Tryd.underlying81 Tryd.underlying67 (by kernel_rfl) (by kernel_rfl) (laidMet_tail (laidMet_tail h)))), (by obtain ⟨a_, s_, hv_, _, _, _⟩ := laid_sentinel (laidMet_tail (laidMet_tail (laidMet_tail (laidMet_tail h)))) (g := 1) (by kernel_rfl) (by kernel_rfl) Tryd.underlying59 errRow Tryd.underlying94 Tryd.underlying96 rfl rfl Tryd.underlying9 (by kernel_rfl) (by kernel_rfl); exact ⟨_, (by have h0_ := World.var?_cell (g := 1) (by kernel_rfl) hv_ 0; simpa using h0_), Or.inr ⟨_, _, rfl⟩⟩), (by obtain ⟨a_, s_, hv_, _, _, _⟩ := laid_sentinel (laidMet_tail (laidMet_tail (laidMet_tail h))) (g := 2) (by kernel_rfl) (by kernel_rfl) Tryd.underlying59 errRow Tryd.underlying94 Tryd.underlying96 rfl rfl Tryd.underlying9 (by kernel_rfl) (by kernel_rfl); exact ⟨_, (by have h0_ := World.var?_cell (g := 2) (by kernel_rfl) hv_ 0; simpa using h0_), Or.inr ⟨_, _, rfl⟩⟩)⟩
/-- The door's own heap meets the condition. -/
theorem door_met (os : Os) (args : Array Value) : laidMetH Tryd.prog Rows.fnExactSessionRightRow.laid ((World.doorLaid Tryd.prog 400 os).forCall (fun _ _ => 0) ⟨#[], args, []⟩).memory :=
  laidMetH_of_parts3 (fuel := 8) (laidMet_of_run' 8 (by kernel_rfl) (by kernel_rfl)) (by kernel_rfl) (by kernel_rfl)
theorem laidOut : laidOutB Tryd.prog = true := by kernel_rfl
set_option maxHeartbeats 4000000 in
set_option maxRecDepth 100000 in
theorem lifted (os : Os) (started : os.Started) (H : Type) (enc : TypeId × Value → H) :
    ReturnsInHanded {} Tryd.checked os 3 .any (fun w args => (Rows.fnExactSessionRightSpec.pre enc Tryd.prog Tryd.f3 Rows.fnExactSessionRightRow.domain false w args ∧ laidMetH Tryd.prog Rows.fnExactSessionRightRow.laid w) ∧ sizedMet enc Tryd.prog Tryd.f3 (OpenSpec.ofChange Rows.fnExactSessionRightSpec) false w args) (Rows.fnExactSessionRightSpec.post enc Tryd.prog Tryd.f3 false true false false) := by
  refine returnsInHanded_of_change_and (C := Tryd.checked) (X := fun w _ => laidMetH Tryd.prog Rows.fnExactSessionRightRow.laid w) (fun _ _ _ hh h => h.of_heap hh) own started (by kernel_rfl) Tryd.func3
    (ChangeSpec.witness_shaped (enc := enc) (C := Tryd.checked) (os := os) (X := fun w _ => laidMetH Tryd.prog Rows.fnExactSessionRightRow.laid w) false (World.doorLaid Tryd.prog 400 os) #[.agg #[.int .i64 0, .string ByteArray.empty, .slice none 0 0]] 8 rfl (World.shaped_of_RefB (by kernel_rfl) (by kernel_rfl)) (by kernel_rfl) (by kernel_rfl) (by kernel_rfl) (door_met os _)) ?_
  intro W base args ds gs before hval0 hW hcnd hsz0 hL _
  have hval : ∀ (j : Nat) t v, Tryd.f3.params[j]? = some t → args[j]? = some v → Value.okWide Tryd.prog W .any base t v := hval0
  have hW' := hW
  obtain ⟨p, q, hA0, hV, rfl, hfz, hnd⟩ := hW
  have hA : DataW.TrodAll enc Tryd.prog W 0 (fun _ => true) true Tryd.f3.params.toList args.toList ds p := hA0
  rw [Tryd.params3] at hA hval
  obtain ⟨v0, vs0, d0, ds0, p0, q0, hargs, rfl, rfl, h0, r0⟩ := trodAll_cons hA
  obtain ⟨rfl, rfl, rfl⟩ := trodAll_nil r0
  obtain rfl : args = #[v0] := by cases args; simp_all
  obtain ⟨rfl, rfl⟩ := trodVars_none hV
  obtain ⟨cs0, rfl, hsz0⟩ := okWide_struct Tryd.underlying24 (hval 0 24 v0 rfl rfl)
  have kk0 := h0
  have lt0 : ∀ x ∈ p0, x.block < W.heap.size := by obtain ⟨m, hm⟩ := kk0; exact DataW.trod_lt m _ _ _ hm
  obtain ⟨e0_0, e0_1, e0_2, rfl⟩ : ∃ e0_0 e0_1 e0_2, cs0 = #[e0_0, e0_1, e0_2] := by
    have hl_ : cs0.toList.length = 3 := hsz0.trans (by kernel_rfl)
    obtain ⟨l⟩ := cs0
    change l.length = 3 at hl_
    obtain ⟨e0_0, l0_, rfl, hl0_⟩ := Print.uncons hl_
    obtain ⟨e0_1, l1_, rfl, hl1_⟩ := Print.uncons hl0_
    obtain ⟨e0_2, l2_, rfl, hl2_⟩ := Print.uncons hl1_
    obtain rfl := List.eq_nil_of_length_eq_zero hl2_
    exact ⟨e0_0, e0_1, e0_2, rfl⟩
  obtain ⟨fuel0, hf0⟩ := h0
  obtain ⟨_, hs0⟩ := Print.struct_open Tryd.underlying24 hf0
  obtain ⟨_, _, hg0_0⟩ := hs0 0 _ rfl
  obtain ⟨a0_0, hcs0_0, w0_0⟩ := Print.leaf1 Print.opn2 rfl hg0_0 (c := e0_0) rfl
  replace hcs0_0 : [e0_0] = [.int .i64 a0_0] := hcs0_0
  obtain ⟨rfl, _⟩ := List.cons.inj hcs0_0
  obtain ⟨_, _, hg0_1⟩ := hs0 1 _ rfl
  obtain ⟨a0_1, hcs0_1, w0_1⟩ := Print.leaf1 Print.opn9 rfl hg0_1 (c := e0_1) rfl
  replace hcs0_1 : [e0_1] = [.string a0_1] := hcs0_1
  obtain ⟨rfl, _⟩ := List.cons.inj hcs0_1
  obtain ⟨_, _, hg0_2⟩ := hs0 2 _ rfl
  obtain ⟨l0_2, ⟨A0_2, c0_2, hcs0_2, hc0_2, hr0_2⟩, w0_2⟩ := Print.leaf1 Print.opn22 rfl hg0_2 (c := e0_2) rfl
  obtain ⟨rfl, _⟩ := List.cons.inj hcs0_2
  clear hA0 hval0 hsz0
  have hP : Print.laws_FnExactSessionRight.Pure := Pure.FnExactSessionRight
  obtain ⟨k_, h_⟩ := hP a0_0 a0_1 l0_2 w0_0 w0_1 w0_2
  refine (Print.laws_FnExactSessionRight.calls k_ a0_0 a0_1 A0_2 c0_2 l0_2 true W hr0_2 hc0_2 h_ (tab_of hL)).mono fun e W' ⟨he, bel⟩ => ?_
  subst he
  exact ⟨_, rfl, _, _, _, [], _, [], hW', trodAll_mk1 (shut_bool Tryd.underlying4 _), (trodAll_cons_mk (Below.trod laidOut (by kernel_rfl) (of_decide_eq_true (by kernel_rfl)) kk0 bel lt0) trodAll_mk0), rfl, bel.frame _, fun h => by cases h⟩
theorem over : Rows.fnExactSessionRightRow.holds Tryd.pinned (OpenSpec.ofChange Rows.fnExactSessionRightSpec) :=
  OpenClaim.holds_of_wide 3 Tryd.f3 rfl rfl rfl rfl rfl rfl rfl ⟨rfl, rfl, rfl, rfl, rfl⟩ rfl rfl rfl rfl rfl (by kernel_rfl) Tryd.func3 (by kernel_rfl)
    (of_decide_eq_true (by kernel_rfl)) (by unfold Func.isWrapper; first | (rw [if_pos (by decide +kernel)]; kernel_rfl) | (rw [if_neg (by decide +kernel)]; exact ⟨rfl, rfl⟩))
    (fun os started H enc _ => lifted os started H enc)
theorem proved : Rows.FnExactSessionRightSaid := over
#print axioms proved
end Go.Proofs.YtahkcifbclloiaaDoor.fnExactSessionRight
namespace Go.Proofs.YtahkcifbclloiaaDoor
/-- The row, under a short name, for the claim. -/
theorem fnExactSessionRight_holds : Rows.FnExactSessionRightSaid := fnExactSessionRight.proved
open Go in
/-- The tied card: the row, with what it lists tied to the program's text (the tie is given). -/
theorem fnExactSessionRight_card : Rows.FnExactSessionRightCardSaid :=
  Claim7.holds_tied_plain_at .later [] [.data, .data, .data, .sentinel, .sentinel] true (true, "8f9e0190a671372f7cae2ecae7a46abb56ed94b7b927e0d5a19b5aeaf035bca1") true
    fnExactSessionRight_holds (fun _ h => by cases h) (by kernel_rfl) (fun _ h => by cases h) fnExactSessionRight_row_tie rfl ⟨rfl, rfl⟩ (by kernel_rfl) rfl
    (fun f fn hf hfn => by
      obtain rfl : f = 3 := Option.some.inj ((show Tryd.prog.funcNamed "loop.example/g00683/laws.FnExactSessionRight" = some 3 by kernel_rfl).symm.trans hf) |>.symm
      obtain rfl : fn = Tryd.f3 := (Option.some.inj (Tryd.func3.symm.trans hfn)).symm
      exact ⟨by kernel_rfl, fun j t ht => by
        rw [Tryd.params3] at ht
        have hm : t ∈ [24] := by simpa using Array.mem_of_getElem? ht
        have hall : ([24].all fun u => !Tryd.prog.wantsStandIn u) = true := by kernel_rfl
        exact (show Tryd.prog.wantsStandIn t = false by simpa using List.all_eq_true.1 hall t hm)⟩)
    (by kernel_rfl)
end Go.Proofs.YtahkcifbclloiaaDoor
