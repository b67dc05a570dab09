/- The statement FnEvent holds: a right event comes back from its bytes, they are refused where one byte is turned, accepted bytes are those of their event, and two events are the same just if their bytes are. -/
import Derived.Test.YteimdbmfgojioaaLemRb
namespace Go.Proofs.Yteimdbmfgojioaa.Pure
open Go.RowKit Go.Proofs.Yteimdbmfgojioaa.Print Go.Proofs.YteimdbmfgojioaaW.PrintWords Go.Proofs.YteimdbmfgojioaaW.PrintLast

theorem FnEvent : laws_FnEvent.Pure := by
 intro l0 l1 _ _ _ hm1 _ hw1 g0 g1
 refine ⟨⟨?d1, ?d2, ?d3⟩, ?e, ?u, ?s⟩
 case d1 =>
  intro e0 e1 e2 e3 e4 e5 e6 le e8 h6 h7
  obtain ⟨K, h⟩ := spec_eb e0 e1 e2 e3 e4 e5 e6 le e8 (by omega)
  exact ⟨K, _, h K (Nat.le_refl _), eb_size _ _ _ _ _ _ _ _ _⟩
 case d2 =>
  intro t ht
  obtain ⟨K, h⟩ := spec_Unseal_ev t (by omega)
  refine ⟨K, (unsealed t).1, (unsealed t).2.1, (unsealed t).2.2, h K (Nat.le_refl _), ?_⟩
  unfold unsealed
  split
  ·
   exact Nat.zero_le _
  split
  ·
   exact Nat.zero_le _
  split
  ·
   show (t.extract 0 (t.size - 4)).size ≤ 8000
   rw [ByteArray.size_extract]; omega
  ·
   exact Nat.zero_le _
 case d3 =>
  intro t ht
  obtain ⟨K, h⟩ := spec_Seal_ev t (by omega)
  refine ⟨K, sealed t, h K (Nat.le_refl _), ?_⟩
  by_cases c : t.size > 7996
  ·
   unfold sealed; rw [if_pos c]; exact Nat.zero_le _
  ·
   rw [sealed_small c, ByteArray.size_append, four_size]; omega
 case e =>
  intro e0 e1 e2 e3 e4 e5 e6 le e8 h6 h7
  obtain ⟨k1, f1⟩ := impl_eb e0 e1 e2 e3 e4 e5 e6 le e8 (by omega)
  obtain ⟨k2, f2⟩ := spec_eb e0 e1 e2 e3 e4 e5 e6 le e8 (by omega)
  obtain ⟨k3, f3⟩ := impl_EventRight_ev e0 e1 e2 e3 e4 e5 e6 le e8 (by omega)
  obtain ⟨k4, f4⟩ := spec_EventRight_ev e0 e1 e2 e3 e4 e5 e6 le e8 (by omega)
  obtain ⟨k5, f5⟩ := impl_IsState_ev e0 e1 e2 e3 e4 e5 e6 le e8 (by omega)
  obtain ⟨k6, f6⟩ := spec_IsState_ev e0 e1 e2 e3 e4 e5 e6 le e8 (by omega)
  have hsz := eb_size e0 e1 e2 e3 e4 e5 e6 le e8
  by_cases c : evRight e0 e1 e2 e3 e4 e5 e6 le e8 = true
  ·
   have hb := evB_size c
   have ht : ebOf e0 e1 e2 e3 e4 e5 e6 le e8 = sealed (evB e0 e1 e2 e3 e4 e5 e6 le e8) := by unfold ebOf; rw [if_pos c]
   have hp : 0 < (sealed (evB e0 e1 e2 e3 e4 e5 e6 le e8)).size := by rw [sealed_small (by omega), ByteArray.size_append, four_size]; omega
   obtain ⟨at_, q1, q2, q3⟩ := lwAt_some l1 (by omega) hw1 0 ((sealed (evB e0 e1 e2 e3 e4 e5 e6 le e8)).size : Int) (by omega) (by omega) (by rw [ht] at hsz; omega)
   obtain ⟨v, r1, r2, r3⟩ := lwAt_some l1 (by omega) hw1 1 255 (by omega) (by omega) (by omega)
   obtain ⟨k7, f7⟩ := read_back c
   obtain ⟨k8, f8⟩ := lwEvent_self e0 e1 e2 e3 e4 e5 e6 le e8 (by omega)
   have hts : (turned (sealed (evB e0 e1 e2 e3 e4 e5 e6 le e8)) at_.toNat v).size = (sealed (evB e0 e1 e2 e3 e4 e5 e6 le e8)).size := by unfold turned; rw [strOfNums_size, List.length_set, bytesOf_length]
   have hU := impl_Unseal_ev (turned (sealed (evB e0 e1 e2 e3 e4 e5 e6 le e8)) at_.toNat v) (by rw [hts, ← ht]; omega)
   rw [turned_refused (evB e0 e1 e2 e3 e4 e5 e6 le e8) (by omega) at_.toNat (by omega) v r2 r3] at hU
   have hR : Ev (fun k => impl_EventRead.f k (turned (sealed (evB e0 e1 e2 e3 e4 e5 e6 le e8)) at_.toNat v)) (0, 0, 0, 0, 0, 0, ⟨#[]⟩, [], 0, 5) := by
    unfold impl_EventRead.f
    exact Ev.bind hU (Ev.neg (by decide) (Ev.now _))
   obtain ⟨k9, f9⟩ := hR
   obtain ⟨K, b1, b2, b3, b4, b5, b6, b7, b8, b9⟩ : ∃ K, k1 ≤ K ∧ k2 ≤ K ∧ k3 ≤ K ∧ k4 ≤ K ∧ k5 ≤ K ∧ k6 ≤ K ∧ k7 ≤ K ∧ k8 ≤ K ∧ k9 ≤ K := ⟨k1 + k2 + k3 + k4 + k5 + k6 + k7 + k8 + k9, by omega, by omega, by omega, by omega, by omega, by omega, by omega, by omega, by omega⟩
   refine ⟨K, _, _, _, f1 K b1, f2 K b2, f3 K b3, f4 K b4, f5 K b5, f6 K b6, by omega, fun _ => ?_⟩
   rw [ht]
   exact ⟨at_, v, e0, e1, e2, e3, e4, e5, e6, le, e8, 0, 0, 0, 0, 0, 0, 0, ⟨#[]⟩, [], 0, q1, r1, ⟨q2, q3⟩, f7 K b7, f8 K b8, f9 K b9⟩
  ·
   have ht : ebOf e0 e1 e2 e3 e4 e5 e6 le e8 = ⟨#[]⟩ := by unfold ebOf; rw [if_neg c]
   obtain ⟨K, b1, b2, b3, b4, b5, b6⟩ : ∃ K, k1 ≤ K ∧ k2 ≤ K ∧ k3 ≤ K ∧ k4 ≤ K ∧ k5 ≤ K ∧ k6 ≤ K := ⟨k1 + k2 + k3 + k4 + k5 + k6, by omega, by omega, by omega, by omega, by omega, by omega⟩
   refine ⟨K, _, _, _, f1 K b1, f2 K b2, f3 K b3, f4 K b4, f5 K b5, f6 K b6, by omega, fun h => absurd ?_ h⟩
   rw [ht]
   unfold ByteArray.toList; unfold ByteArray.toList.loop; rfl
 case u =>
  intro u hu
  obtain ⟨⟨x0, x1, x2, x3, x4, x5, x6, lx, x8, xc⟩, ok, hS, hI⟩ := eventRead_both u (by omega)
  obtain ⟨ok1, ok2⟩ := ok
  replace ok1 : lx.length ≤ 9 := ok1
  obtain ⟨k1, f1⟩ := hI
  obtain ⟨k2, f2⟩ := hS
  obtain ⟨k3, f3⟩ := lwEvent_self x0 x1 x2 x3 x4 x5 x6 lx x8 (by omega)
  by_cases c : xc = 0
  ·
   obtain ⟨k4, f4⟩ := ok2 c
   obtain ⟨K, b1, b2, b3, b4⟩ : ∃ K, k1 ≤ K ∧ k2 ≤ K ∧ k3 ≤ K ∧ k4 ≤ K := ⟨k1 + k2 + k3 + k4, by omega, by omega, by omega, by omega⟩
   exact ⟨K, x0, x1, x2, x3, x4, x5, x6, lx, x8, xc, f1 K b1, f2 K b2, f3 K b3, fun _ => f4 K b4⟩
  ·
   obtain ⟨K, b1, b2, b3⟩ : ∃ K, k1 ≤ K ∧ k2 ≤ K ∧ k3 ≤ K := ⟨k1 + k2 + k3, by omega, by omega, by omega⟩
   exact ⟨K, x0, x1, x2, x3, x4, x5, x6, lx, x8, xc, f1 K b1, f2 K b2, f3 K b3, fun h => absurd h c⟩
 case s =>
  intro a0 a1 a2 a3 a4 a5 a6 la a8 b0 b1 b2 b3 b4 b5 b6 lb b8 h6 h7
  obtain ⟨k1, f1⟩ := impl_same_ev a0 a1 a2 a3 a4 a5 a6 la a8 b0 b1 b2 b3 b4 b5 b6 lb b8 (by omega)
  obtain ⟨k2, f2⟩ := spec_same_ev a0 a1 a2 a3 a4 a5 a6 la a8 b0 b1 b2 b3 b4 b5 b6 lb b8 (by omega)
  obtain ⟨k3, f3⟩ := spec_EventRight_ev a0 a1 a2 a3 a4 a5 a6 la a8 (by omega)
  obtain ⟨k4, f4⟩ := spec_EventRight_ev b0 b1 b2 b3 b4 b5 b6 lb b8 (by omega)
  obtain ⟨k5, f5⟩ := impl_eb a0 a1 a2 a3 a4 a5 a6 la a8 (by omega)
  obtain ⟨k6, f6⟩ := impl_eb b0 b1 b2 b3 b4 b5 b6 lb b8 (by omega)
  obtain ⟨K, c1, c2, c3, c4, c5, c6⟩ : ∃ K, k1 ≤ K ∧ k2 ≤ K ∧ k3 ≤ K ∧ k4 ≤ K ∧ k5 ≤ K ∧ k6 ≤ K := ⟨k1 + k2 + k3 + k4 + k5 + k6, by omega, by omega, by omega, by omega, by omega, by omega⟩
  exact ⟨K, _, _, _, f1 K c1, f2 K c2, f3 K c3, f4 K c4, fun ha hb => ⟨_, _, f5 K c5, f6 K c6, same_iff ha hb⟩⟩

end Go.Proofs.Yteimdbmfgojioaa.Pure
