/- Side goals closed by one phrase each (laid by autos.py). -/
import Derived.Test.YthpclkkkpponkaaCellW
namespace Go.Proofs.Ythpclkkkpponkaa.Print
open Go.RowKit Go.Proofs.YthpclkkkpponkaaW.PrintWords Go.Proofs.YthpclkkkpponkaaW.PrintLast Go.Proofs.YthpclkkkpponkaaW.PrintMore

theorem dd_ {α : Type} {e : α} {w : World} {a b : Nat} : e = e ∧ ∃ n, (w.drewN a).drewN b = w.drewN n := ⟨rfl, _, World.drewN_drewN _ _ _⟩
theorem a1_ {P1 Q : Prop} (h1 : P1) (k : P1 → Q := by intro h1; repeat (first | (with_reducible first | exact h1 | apply below_alloc | apply pw_below_drewN | apply below_drew1) | exact h1)) : Q := k h1
theorem a2_ {Q : Prop} (k : Q := by first | rfl | (simp [errW_none, errW_some] <;> rfl) | (simp [*, errW_none, errW_some] <;> rfl)) : Q := k
theorem a3_ {P1 P2 Q : Prop} (h1 : P1) (h2 : P2) (k : P1 → P2 → Q := by intro h1 h2; repeat (first | (with_reducible first | exact h1 | apply below_alloc | apply pw_below_drewN | apply below_drew1 | refine below_set ?_ h2) | exact h1)) : Q := k h1 h2
theorem a4_ {P1 Q : Prop} (h1 : P1) (k : P1 → Q := by intro h1; (with_reducible repeat (first | refine blk_drewN ?_ _ | refine blk_drew ?_ | refine blk_alloc ?_ _)); exact h1) : Q := k h1
theorem a5_ {P1 P2 P3 Q : Prop} (h1 : P1) (h2 : P2) (h3 : P3) (k : P1 → P2 → P3 → Q := by intro h1 h2 h3; repeat (first | (with_reducible first | exact h1 | apply below_alloc | apply pw_below_drewN | apply below_drew1 | refine below_set ?_ h2 | refine below_set ?_ h3) | exact h1)) : Q := k h1 h2 h3
theorem a6_ {P1 Q : Prop} (h1 : P1) (k : P1 → Q := by intro h1; (with_reducible repeat (first | apply Kd.R_alloc | apply Kd.R_drewN | apply Kd.R_drew)); exact h1) : Q := k h1
theorem a7_ {P1 P2 P3 P4 Q : Prop} (h1 : P1) (h2 : P2) (h3 : P3) (h4 : P4) (k : P1 → P2 → P3 → P4 → Q := by intro h1 h2 h3 h4; repeat (first | (with_reducible first | exact h1 | apply below_alloc | apply pw_below_drewN | apply below_drew1 | refine below_set ?_ h2 | refine below_set ?_ h3 | refine below_set ?_ h4) | exact h1)) : Q := k h1 h2 h3 h4

end Go.Proofs.Ythpclkkkpponkaa.Print
