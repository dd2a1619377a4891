/- Printed by tools/more.py (a program of this session's own, over the print.py of the kit) out of the translation. -/
import Derived.Test.YtgkeemjadjnhkaaGreatDoorProg
import Derived.Below
import Derived.Deep.Draws
import Derived.Deep.AppendLies
import Derived.Maps.AppendAt
import Derived.OwnWalk
import Derived.Laws.BytesArg
import Derived.Laws.MakeOwn
import Derived.Laws.OwnMore
import Derived.Deep.OwnRows
import Derived.Tactics
import Derived.Lib.ConvBytes
import Derived.Laws.Slices
import Derived.WalkKit
import Derived.KernelRfl
import Derived.RowKit3
import Derived.Deep.LoopGhost
import Derived.Deep.QuietTactic
import Derived.BigQuiet
import Derived.WideLaws
import Derived.Deep.DeepCutAuto
import Derived.Deep.CutBlock
import Derived.Deep.RegionHeld3
import Derived.Laws.Rows
import Derived.Lib.AppendStr
import Derived.ArgAppend
import Derived.Laws.IdiomCopy
import Derived.OrdersHeld
import Derived.Laws.BitsLemmas
import Derived.RowKit
import Derived.Shelf.Abstract
import Derived.WalkSpells
import Derived.Test.YtgkeemjadjnhkaaGreatDoorShelf
import Derived.Test.YtgkeemjadjnhkaaGreatDoorWWords
import Derived.Test.YtgkeemjadjnhkaaGreatDoorWLast
import Derived.Test.YtgkeemjadjnhkaaGreatDoorWTab
import Derived.Test.YtgkeemjadjnhkaaGreatDoorWFour
import Derived.Test.YtgkeemjadjnhkaaGreatDoorWQPut
import Derived.Test.YtgkeemjadjnhkaaGreatDoorWApart
import Derived.Test.YtgkeemjadjnhkaaGreatDoorWArr
import Derived.Test.YtgkeemjadjnhkaaGreatDoorWZeros
import Derived.Test.YtgkeemjadjnhkaaGreatDoorWFoot
import Derived.Test.YtgkeemjadjnhkaaGreatDoorWKept
import Derived.Test.YtgkeemjadjnhkaaGreatDoorWShare
import Derived.Test.YtgkeemjadjnhkaaGreatDoorWN
import Derived.Test.YtgkeemjadjnhkaaGreatDoorWFootNe
import Derived.Test.YtgkeemjadjnhkaaGreatDoorWAt
import Derived.Test.YtgkeemjadjnhkaaGreatDoorWEqStruct
import Derived.Test.YtgkeemjadjnhkaaGreatDoorWRepsOne
import Derived.Test.YtgkeemjadjnhkaaGreatDoorWInv
import Derived.Test.YtgkeemjadjnhkaaGreatDoorWInvWords
import Derived.Test.YtgkeemjadjnhkaaGreatDoorWGuard
import Derived.Test.YtgkeemjadjnhkaaGreatDoorWNEv
import Derived.Test.YtgkeemjadjnhkaaGreatDoorWMore
namespace Go.Proofs.YtgkeemjadjnhkaaGreatDoor.PScore
open Go.RowKit   Go.Proofs.YtgkeemjadjnhkaaGreatDoorW.PrintWords Go.Proofs.YtgkeemjadjnhkaaGreatDoorW.PrintLast Go.Proofs.YtgkeemjadjnhkaaGreatDoorW.PrintMore
attribute [local go_sem] max2_int min2_int max_two min_two max_three min_three max_four min_four   -- for this text's walks alone
set_option linter.unusedVariables false
set_option linter.unusedSimpArgs false



def errW : Option Int → Value
  | none => .nilIface
  | some c => .iface 0 (.int .i64 c)
theorem errW_none : errW none = .nilIface := rfl
theorem errW_some (c : Int) : errW (some c) = .iface 0 (.int .i64 c) := rfl

-- the values' own types

end Go.Proofs.YtgkeemjadjnhkaaGreatDoor.PScore
