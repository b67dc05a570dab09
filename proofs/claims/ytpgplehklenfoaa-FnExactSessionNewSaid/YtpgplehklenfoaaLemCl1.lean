/- Lemmas: users. -/
import Derived.Test.YtpgplehklenfoaaPrint3
import Derived.Laws.Bits64
namespace Go.Proofs.Ytpgplehklenfoaa.Print
open Go.RowKit Go.Proofs.YtpgplehklenfoaaW.PrintWords Go.Proofs.YtpgplehklenfoaaW.PrintLast Go.Proofs.YtpgplehklenfoaaW.PrintMore
set_option linter.unusedVariables false
set_option linter.unusedSimpArgs false

/-! Rounds: small helpers. -/
theorem Ev.pos {α : Type} {c : Prop} [Decidable c] {f g : Nat → Option α} {r : α} (hc : c) (h : Ev f r) : Ev (fun n => if c then f n else g n) r := by
  simp only [hc, if_true]; exact h
theorem Ev.neg {α : Type} {c : Prop} [Decidable c] {f g : Nat → Option α} {r : α} (hc : ¬ c) (h : Ev g r) : Ev (fun n => if c then f n else g n) r := by
  simp only [hc, if_false]; exact h
theorem Ev.here {α : Type} {o : Option α} {r : α} (h : o = some r) : Ev (fun _ => o) r := ⟨0, fun _ _ => h⟩
theorem Ev.take {α β : Type} {o : Option α} {f : Nat → α → Option β} {a : α} {r : β} (h : o = some a) (k : Ev (fun n => f n a) r) : Ev (fun n => o.bind (f n)) r := by
  subst h; exact k
theorem Ev.one {α : Type} {g : Nat → Option α} {r : α} (h : ∀ k, g (k + 1) = some r) : Ev g r := Ev.step (f := fun _ => some r) h (Ev.now r)
theorem Ev.to {α : Type} {g : Nat → Option α} {r q : α} (e : r = q) (h : Ev g r) : Ev g q := e ▸ h

/-! Ranges. -/
theorem in_eq (a b c : Int) : impl_in.f a b c = some (decide (b ≤ a ∧ a ≤ c)) := by
  unfold impl_in.f; split <;> simp [*]
theorem is_eq (a b c : Int) : spec_l02Is.f a b c = some (decide (b ≤ a ∧ a ≤ c)) := by
  unfold spec_l02Is.f
  by_cases h : b ≤ a
  · rw [if_pos h]; simp [h]
  · rw [if_neg h]; simp [h]

theorem isUser_eq (a : Int) : impl_isUser.f a = some (decide (1 ≤ a ∧ a ≤ 6)) := by unfold impl_isUser.f; rw [in_eq]; rfl
theorem l02User_eq (a : Int) : spec_l02User.f a = some (decide (1 ≤ a ∧ a ≤ 6)) := by unfold spec_l02User.f; rw [is_eq]; rfl


end Go.Proofs.Ytpgplehklenfoaa.Print
