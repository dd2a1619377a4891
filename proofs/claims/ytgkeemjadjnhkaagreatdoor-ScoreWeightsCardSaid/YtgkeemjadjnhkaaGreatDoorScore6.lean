/- Printed by tools/more.py (a program of this session's own, over the print.py of the kit) out of the translation. -/
import Derived.Test.YtgkeemjadjnhkaaGreatDoorScore0
namespace Go.Proofs.YtgkeemjadjnhkaaGreatDoor.PScore
open Go.RowKit   Go.Proofs.YtgkeemjadjnhkaaGreatDoorW.PrintWords Go.Proofs.YtgkeemjadjnhkaaGreatDoorW.PrintLast Go.Proofs.YtgkeemjadjnhkaaGreatDoorW.PrintMore
attribute [local go_sem] max2_int min2_int max_two min_two max_three min_three max_four min_four   -- for this text's walks alone
set_option linter.unusedVariables false
set_option linter.unusedSimpArgs false

/-! ### bits_LeadingZeros64: function 29, by the shelf's contract -/
def bits_LeadingZeros64.f (k : Nat) (a0 : Int) : Option (Int) := if 0 ≤ a0 then (if a0 ≤ 18446744073709551615 then some (64 - (Lib.bitLen a0.toNat : Int)) else none) else none
theorem bits_LeadingZeros64.mono : ∀ a0 k, LeO (bits_LeadingZeros64.f k a0) (bits_LeadingZeros64.f (k + 1) a0) := fun _ _ => LeO.refl _
theorem bits_LeadingZeros64.calls (k : Nat) (a0 : Int) (r : Int) (w : World) (h : bits_LeadingZeros64.f k a0 = some r) :
    Calls Tryz.prog 29 #[.int .u64 a0] w fun e w' => e = .returned (.int .i64 r) ∧ Drawn0 w w' := by
  unfold bits_LeadingZeros64.f at h
  by_cases h1 : 0 ≤ a0
  case neg => rw [if_neg h1] at h; cases h
  by_cases h2 : a0 ≤ 18446744073709551615
  case neg => rw [if_pos h1, if_neg h2] at h; cases h
  rw [if_pos h1, if_pos h2] at h
  obtain rfl := Option.some.inj h
  refine (Tryz.bits_LeadingZeros64 a0 w h1 h2).mono ?_
  rintro e w' ⟨he, rfl⟩
  exact ⟨he, Drawn0.refl _⟩

end Go.Proofs.YtgkeemjadjnhkaaGreatDoor.PScore
