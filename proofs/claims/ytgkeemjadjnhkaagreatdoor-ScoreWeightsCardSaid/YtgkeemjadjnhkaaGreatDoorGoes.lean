/- No text of the translation starts a goroutine. -/
import Derived.Test.YtgkeemjadjnhkaaGreatDoorRows
import Derived.KernelRfl
import GoSem.ClaimGoes
namespace Go.Proofs.YtgkeemjadjnhkaaGreatDoor
open Go
theorem noneGoes : Tryz.prog.funcs.any Func.goes = false := by kernel_rfl
theorem goes_none {P : Program} (h : P.funcs.any Func.goes = false) (f : FuncId) : P.goes f = false := by
  have hf : ∀ (g : Nat) (fn : Func), P.funcs[g]? = some fn → fn.goes = false := fun g fn hg => by
    cases hx : fn.goes with
    | false => rfl
    | true =>
      have hm : P.funcs.any Func.goes = true := by
        rw [← Array.any_toList]
        exact List.any_eq_true.2 ⟨fn, Array.mem_toList_iff.2 (Array.mem_of_getElem? hg), hx⟩
      rw [h] at hm; cases hm
  unfold Program.goes
  rw [h, Bool.and_false, Bool.or_false]
  refine List.any_eq_false.2 fun g _ => ?_
  cases hg : P.funcs[g]? with
  | none => simp
  | some fn => simp [hf g fn hg]
theorem goesBy_none {c : OpenClaim} {P : Program} (h : P.funcs.any Func.goes = false) (hs : c.start = .entering) : false = c.goesBy P := by
  unfold OpenClaim.goesBy Program.goesAt Program.goesFrom
  rw [hs]
  cases P.funcNamed c.func with
  | none => rfl
  | some f => simp [goes_none h f]
#print axioms goesBy_none
end Go.Proofs.YtgkeemjadjnhkaaGreatDoor
