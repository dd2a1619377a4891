/- 'known' of the scores' laws: a closed computation, by the abstract machine, run by the kernel. -/
import Derived.Test.YtgkeemjadjnhkaaGreatDoorProg
import Derived.Test.YtgkeemjadjnhkaaGreatDoorAbs2
import Derived.KernelRfl
namespace Go.Proofs.YtgkeemjadjnhkaaGreatDoor
open Go Go.Abs Go.RowKit
set_option linter.unusedVariables false
set_option linter.unusedSimpArgs false
/-- math/bits.deBruijn64tab. -/
def tab : List Value := [.int .u8 0, .int .u8 1, .int .u8 56, .int .u8 2, .int .u8 57, .int .u8 49, .int .u8 28, .int .u8 3, .int .u8 61, .int .u8 58, .int .u8 42, .int .u8 50, .int .u8 38, .int .u8 29, .int .u8 17, .int .u8 4, .int .u8 62, .int .u8 47, .int .u8 59, .int .u8 36, .int .u8 45, .int .u8 43, .int .u8 51, .int .u8 22, .int .u8 53, .int .u8 39, .int .u8 33, .int .u8 30, .int .u8 24, .int .u8 18, .int .u8 12, .int .u8 5, .int .u8 63, .int .u8 55, .int .u8 48, .int .u8 27, .int .u8 60, .int .u8 41, .int .u8 37, .int .u8 16, .int .u8 46, .int .u8 35, .int .u8 44, .int .u8 21, .int .u8 52, .int .u8 32, .int .u8 23, .int .u8 11, .int .u8 54, .int .u8 26, .int .u8 40, .int .u8 15, .int .u8 34, .int .u8 20, .int .u8 31, .int .u8 10, .int .u8 25, .int .u8 14, .int .u8 19, .int .u8 9, .int .u8 13, .int .u8 8, .int .u8 7, .int .u8 6]
def isTrue : Value → Bool
  | .bool b => b
  | _ => false
theorem known_run : (Tr.setK D .nil 2 (some (.ro tab)) fun t => enterK Tryz.prog 5 [] false fun fr => run Tryz.prog isTrue 70600 t NG fr []) = true := by
  kernel_rfl
theorem known_calls (w : World) (h : ∃ arr e fr, w.heap[2]? = some (.cells arr e fr) ∧ arr.toList = tab) : Calls Tryz.prog 5 #[] w fun e w' => e = .returned (.bool true) ∧ Below w.heap.size w w' := by
  have hrun := known_run
  rw [setK_eq] at hrun
  obtain ⟨arr, ty, fr, h1, h2⟩ := h
  have hc := closed_calls (P := Tryz.prog) (by kernel_rfl) (f := 5) (w := w) hrun (fun g x hg hlt => by
    by_cases h2g : g = 2
    · subst h2g
      rw [get_set_same] at hg
      cases hg
      exact ⟨by decide, tab, arr, ty, fr, rfl, h1, h2, by decide⟩
    · rw [get_set_ne D .nil 2 g _ (by decide) (by rw [pow8]; exact hlt) h2g, get_nil] at hg
      cases hg)
  intro cs
  obtain ⟨e, w', fr', ⟨v, v', ρ, rfl, htop, hvr, hB⟩, hc, hl⟩ := hc cs
  refine ⟨_, w', fr', ⟨?_, hB⟩, hc, hl⟩
  have hv : v = .bool true := by
    cases v <;> first | (exact absurd htop Bool.false_ne_true) | skip
    rename_i b
    cases b
    · exact absurd htop Bool.false_ne_true
    · rfl
  subst hv
  rw [hvr.bool_inv]
#print axioms known_calls
end Go.Proofs.YtgkeemjadjnhkaaGreatDoor
