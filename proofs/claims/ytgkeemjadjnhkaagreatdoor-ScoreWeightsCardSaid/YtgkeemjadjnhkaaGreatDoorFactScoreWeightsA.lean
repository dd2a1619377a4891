/- Closed facts of the row ScoreWeights: what is well formed. (Printed by tools/facts.py, a program of this session's own.) -/
import Derived.Test.YtgkeemjadjnhkaaGreatDoorRows
import Derived.JoinedOf
import Derived.KernelRfl
namespace Go.Proofs.YtgkeemjadjnhkaaGreatDoor.scoreWeights
open Go
set_option maxRecDepth 100000
theorem fA : (Rows.scoreWeightsRow.wf (OpenSpec.ofChange Rows.scoreWeightsSpec) && laidOutB Tryz.prog && mapsRowed Tryz.prog) = true := by kernel_rfl
end Go.Proofs.YtgkeemjadjnhkaaGreatDoor.scoreWeights
