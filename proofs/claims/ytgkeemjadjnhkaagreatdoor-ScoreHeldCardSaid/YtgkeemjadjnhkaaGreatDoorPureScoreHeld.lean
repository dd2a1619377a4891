/- Sums and products never wrap: the plain law. -/
import Derived.Test.YtgkeemjadjnhkaaGreatDoorHeld
import Derived.Test.YtgkeemjadjnhkaaGreatDoorNum
namespace Go.Proofs.YtgkeemjadjnhkaaGreatDoor.Pure
open Go.RowKit Go.Proofs.YtgkeemjadjnhkaaGreatDoor.PScore Go.Proofs.YtgkeemjadjnhkaaGreatDoorW.PrintWords Go.Proofs.YtgkeemjadjnhkaaGreatDoorW.PrintLast Go.Proofs.YtgkeemjadjnhkaaGreatDoor.Num
set_option linter.unusedSimpArgs false
set_option linter.unusedVariables false

theorem held_same (n : Int) (h : -9223372036854775808 ≤ n ∧ n ≤ 9223372036854775807) : held n = n := by
  unfold held
  rw [if_neg (by omega), if_neg (by omega)]
theorem held_signs (n : Int) : (0 < n → 0 < held n) ∧ (n < 0 → held n < 0) ∧ (n = 0 → held n = 0) := by
  unfold held
  refine ⟨fun h => ?_, fun h => ?_, fun h => ?_⟩ <;> (repeat' split) <;> omega
theorem mul_signs (a b : Int) : (0 < a → 0 < b → 0 < a * b) ∧ (a < 0 → b < 0 → 0 < a * b) ∧ (0 < a → b < 0 → a * b < 0) ∧ (a < 0 → 0 < b → a * b < 0) ∧ (a = 0 → a * b = 0) ∧ (b = 0 → a * b = 0) := by
  refine ⟨fun h k => Int.mul_pos h k, fun h k => Int.mul_pos_of_neg_of_neg h k, fun h k => Int.mul_neg_of_pos_of_neg h k, fun h k => Int.mul_neg_of_neg_of_pos h k, fun h => by rw [h, Int.zero_mul], fun h => by rw [h, Int.mul_zero]⟩
theorem j1_ok (k : Nat) (a : Int) (ha : -9223372036854775808 ≤ a ∧ a ≤ 9223372036854775807) : lecternlaw21_ScoreHeld.j1 (k + 2) a false = some true := by
  simp only [lecternlaw21_ScoreHeld.j1]
  rw [times_own a 1 ha (by omega), sum_own a 0 ha (by omega), Int.mul_one, Int.add_zero, held_same a ha]
  simp
theorem j0_ok (k : Nat) (a b p : Int) (ha : -9223372036854775808 ≤ a ∧ a ≤ 9223372036854775807) (f1 : 0 < a → 0 < b → 0 < p) (f2 : a < 0 → b < 0 → 0 < p) (f3 : 0 < a → b < 0 → p < 0) (f4 : a < 0 → 0 < b → p < 0) (f5 : a = 0 → p = 0) (f6 : b = 0 → p = 0) :
    lecternlaw21_ScoreHeld.j0 (k + 3) a b p false = some true := by
  have z0 : ∀ c, c = false → lecternlaw21_ScoreHeld.j1 (k + 2) a c = some true := fun c hc => by rw [hc]; exact j1_ok k a ha
  simp only [lecternlaw21_ScoreHeld.j0]
  repeat' split
  all_goals first
    | exact j1_ok k a ha
    | (exfalso; omega)
    | (refine z0 _ ?_; have : p = 0 := by omega
       simp [this])
    | contradiction
theorem ScoreHeld : lecternlaw21_ScoreHeld.Pure := by
  intro a b ha hb
  have ha := wf64 a ha
  have hb := wf64 b hb
  refine ⟨4, ?_⟩
  have hs := held_signs (a * b)
  have hm := mul_signs a b
  have e1 : a + b = b + a := Int.add_comm a b
  have e2 : b * a = a * b := Int.mul_comm b a
  have h0 : lecternlaw21_ScoreHeld.j0 4 a b (held (a * b)) false = some true :=
    j0_ok 1 a b _ ha (fun x y => hs.1 (hm.1 x y)) (fun x y => hs.1 (hm.2.1 x y)) (fun x y => hs.2.1 (hm.2.2.1 x y)) (fun x y => hs.2.1 (hm.2.2.2.1 x y)) (fun x => hs.2.2 (hm.2.2.2.2.1 x)) (fun x => hs.2.2 (hm.2.2.2.2.2 x))
  have g1 : b ≥ 0 → ¬ held (a + b) < a := fun h => by unfold held; repeat' split <;> omega
  have g2 : b ≤ 0 → ¬ held (a + b) > a := fun h => by unfold held; repeat' split <;> omega
  have z0 : ∀ c, c = false → lecternlaw21_ScoreHeld.j0 4 a b (held (a * b)) c = some true := fun c hc => by rw [hc]; exact h0
  unfold lecternlaw21_ScoreHeld.f lecternlaw21_known.f
  simp only [Option.bind_some, if_true, sum_own a b ha hb 3, times_own a b ha hb 3, sum_own b a hb ha 3, times_own b a hb ha 3, ← e1, e2]
  repeat' split
  all_goals first
    | (refine z0 _ ?_; simp; done)
    | exact absurd (by assumption) (g1 (by assumption))
    | exact absurd (by assumption) (g2 (by assumption))
    | contradiction
    | (exfalso; omega)
#print axioms ScoreHeld
end Go.Proofs.YtgkeemjadjnhkaaGreatDoor.Pure
