/- The statement FnSeal holds: a drawn text is got back from its seal; with one byte turned it is refused; a CRC goes on from text to text. -/
import Derived.Test.YtnmbpjfljfmfmaaLemFS
namespace Go.Proofs.Ytnmbpjfljfmfmaa.Pure
open Go.RowKit Go.Proofs.Ytnmbpjfljfmfmaa.Print Go.Proofs.YtnmbpjfljfmfmaaW.PrintWords Go.Proofs.YtnmbpjfljfmfmaaW.PrintLast

theorem FnSeal : laws_FnSeal.Pure := by
  intro l0 l1 hm0 _ hw0 hm1 _ hw1 g0 g1
  obtain ⟨t, hD, ht⟩ := DrawSeal_ev l0 (by omega)
  obtain ⟨crc, u, hM, hu⟩ := DrawCrcMore_ev l1 (by omega)
  have hS := impl_Seal_ev t (by omega)
  have hS2 := spec_Seal_ev t (by omega)
  have hsz : (sealed t).size ≤ 8000 := by
    by_cases c : t.size > 7996
    · unfold sealed; rw [if_pos c]; exact Nat.zero_le _
    · rw [sealed_small c, ByteArray.size_append, four_size]; omega
  obtain ⟨at_, q1, q2, q3⟩ : ∃ v, (0 < (sealed t).size → laws_lwAt.f l1 0 ((sealed t).size : Int) = some v) ∧ (0 < (sealed t).size → 0 ≤ v) ∧ (0 < (sealed t).size → v < ((sealed t).size : Int)) := by
    by_cases c : 0 < (sealed t).size
    · obtain ⟨v, h1, h2, h3⟩ := lwAt_some l1 (by omega) hw1 0 ((sealed t).size : Int) (by omega) (by omega) (by omega)
      exact ⟨v, fun _ => h1, fun _ => h2, fun _ => h3⟩
    · exact ⟨0, fun h => absurd h c, fun h => absurd h c, fun h => absurd h c⟩
  obtain ⟨q, r1, r2, r3⟩ := lwAt_some l1 (by omega) hw1 1 255 (by omega) (by omega) (by omega)
  have hU := impl_Unseal_ev (sealed t) (by omega)
  have hts : (turned (sealed t) at_.toNat q).size = (sealed t).size := by unfold turned; rw [strOfNums_size, List.length_set, bytesOf_length]
  have hU2 := impl_Unseal_ev (turned (sealed t) at_.toNat q) (by omega)
  have c1 := impl_CrcMore_ev crc u (by omega)
  have c2 := spec_CrcMore_ev crc u (by omega)
  have c3 := impl_Crc_ev t (by omega)
  have c4 := impl_CrcMore_ev (crcI t) u (by omega)
  have c5 := impl_Crc_ev (t ++ u) (by rw [ByteArray.size_append]; omega)
  obtain ⟨k1, hD⟩ := hD
  obtain ⟨k2, hM⟩ := hM
  obtain ⟨k3, hS⟩ := hS
  obtain ⟨k4, hS2⟩ := hS2
  obtain ⟨k5, hU⟩ := hU
  obtain ⟨k6, hU2⟩ := hU2
  obtain ⟨k7, c1⟩ := c1
  obtain ⟨k8, c2⟩ := c2
  obtain ⟨k9, c3⟩ := c3
  obtain ⟨k10, c4⟩ := c4
  obtain ⟨k11, c5⟩ := c5
  obtain ⟨K, b1, b2, b3, b4, b5, b6, b7, b8, b9, b10, b11⟩ : ∃ K, k1 ≤ K ∧ k2 ≤ K ∧ k3 ≤ K ∧ k4 ≤ K ∧ k5 ≤ K ∧ k6 ≤ K ∧ k7 ≤ K ∧ k8 ≤ K ∧ k9 ≤ K ∧ k10 ≤ K ∧ k11 ≤ K := ⟨k1 + k2 + k3 + k4 + k5 + k6 + k7 + k8 + k9 + k10 + k11, by omega, by omega, by omega, by omega, by omega, by omega, by omega, by omega, by omega, by omega, by omega⟩
  refine ⟨K, t, sealed t, crc, u, hD K b1, hS K b3, hS2 K b4, by omega, ⟨by omega, by omega, fun hne => ?_⟩, hM K b2, fun hle => ⟨_, _, _, c1 K b7, c2 K b8, c3 K b9, c4 K b10, ?_⟩⟩
  · have hc : ¬ t.size > 7996 := by
      intro c
      apply hne
      unfold sealed
      rw [if_pos c]
      unfold ByteArray.toList; unfold ByteArray.toList.loop; rfl
    have hp : 0 < (sealed t).size := by rw [sealed_small hc, ByteArray.size_append, four_size]; omega
    have f1 := hU K b5
    rw [unsealed_sealed t hc] at f1
    have f2 := hU2 K b6
    have h2 := q2 hp
    have h3 := q3 hp
    rw [turned_refused t hc at_.toNat (by omega) q r2 r3] at f2
    exact ⟨at_, q, _, _, q1 hp, r1, ⟨h2, h3⟩, f1, f2⟩
  · have e := c5 K b11
    have e1 : crcI (t ++ u) = (crcOf 0 (t ++ u) : Nat) := by unfold crcI; rw [ByteArray.size_append, if_neg (by omega)]
    have e2 : crcI t = (crcOf 0 t : Nat) := by unfold crcI; rw [if_neg (by omega)]
    have hlt : crcOf 0 t < 4294967296 := crcOf_lt t (by omega)
    have e3 : crcMoreI (crcI t) u = (crcOf 0 (t ++ u) : Nat) := by
      rw [e2]
      unfold crcMoreI
      rw [if_neg (by omega), Int.toNat_natCast, crcOf_more]
    rw [e1] at e
    rw [e3]
    exact e

end Go.Proofs.Ytnmbpjfljfmfmaa.Pure
