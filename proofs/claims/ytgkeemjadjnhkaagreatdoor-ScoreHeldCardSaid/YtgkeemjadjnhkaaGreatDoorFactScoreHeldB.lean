/- Closed facts of the row ScoreHeld: what is in place. (Printed by tools/facts.py, a program of this session's own.) -/
import Derived.Test.YtgkeemjadjnhkaaGreatDoorRows
import Derived.JoinedOf
import Derived.KernelRfl
namespace Go.Proofs.YtgkeemjadjnhkaaGreatDoor.scoreHeld
open Go
set_option maxRecDepth 100000
theorem fB : (Rows.scoreHeldRow.inPlace == Tryz.prog.inPlace 4) = true := by kernel_rfl
end Go.Proofs.YtgkeemjadjnhkaaGreatDoor.scoreHeld
