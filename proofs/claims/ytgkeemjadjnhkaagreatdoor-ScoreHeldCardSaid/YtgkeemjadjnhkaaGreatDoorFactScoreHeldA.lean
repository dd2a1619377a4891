/- Closed facts of the row ScoreHeld: what is well formed. (Printed by tools/facts.py, a program of this session's own.) -/
import Derived.Test.YtgkeemjadjnhkaaGreatDoorRows
import Derived.JoinedOf
import Derived.KernelRfl
namespace Go.Proofs.YtgkeemjadjnhkaaGreatDoor.scoreHeld
open Go
set_option maxRecDepth 100000
theorem fA : (Rows.scoreHeldRow.wf (OpenSpec.ofChange Rows.scoreHeldSpec) && laidOutB Tryz.prog && mapsRowed Tryz.prog) = true := by kernel_rfl
end Go.Proofs.YtgkeemjadjnhkaaGreatDoor.scoreHeld
