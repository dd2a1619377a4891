/- Closed facts of the row ScoreWeights: the variables that are named. (Printed by tools/facts.py, a program of this session's own.) -/
import Derived.Test.YtgkeemjadjnhkaaGreatDoorRows
import Derived.JoinedOf
import Derived.KernelRfl
namespace Go.Proofs.YtgkeemjadjnhkaaGreatDoor.scoreWeights
open Go
set_option maxRecDepth 100000
theorem fD : (Rows.scoreWeightsRow.named == Tryz.prog.varsNamed 3) = true := by kernel_rfl
end Go.Proofs.YtgkeemjadjnhkaaGreatDoor.scoreWeights
