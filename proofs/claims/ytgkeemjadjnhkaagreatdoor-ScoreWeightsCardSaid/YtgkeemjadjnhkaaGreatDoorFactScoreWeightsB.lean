/- Closed facts of the row ScoreWeights: what is in place. (Printed by tools/facts.py, a program of this session's own.) -/
import Derived.Test.YtgkeemjadjnhkaaGreatDoorRows
import Derived.JoinedOf
import Derived.KernelRfl
namespace Go.Proofs.YtgkeemjadjnhkaaGreatDoor.scoreWeights
open Go
set_option maxRecDepth 100000
theorem fB : (Rows.scoreWeightsRow.inPlace == Tryz.prog.inPlace 3) = true := by kernel_rfl
end Go.Proofs.YtgkeemjadjnhkaaGreatDoor.scoreWeights
