/- Printed by tools/more.py (a program of this session's own, over the print.py of the kit) out of the translation. -/
import Derived.Test.YtonolmddjifgjaaEnt0
import Derived.Test.YtonolmddjifgjaaEnt1
import Derived.Test.YtonolmddjifgjaaEnt2
import Derived.Test.YtonolmddjifgjaaEnt3
import Derived.Test.YtonolmddjifgjaaEnt4
import Derived.Test.YtonolmddjifgjaaEnt5
import Derived.Test.YtonolmddjifgjaaEnt6
import Derived.Test.YtonolmddjifgjaaEnt7
import Derived.Test.YtonolmddjifgjaaEnt8
import Derived.Test.YtonolmddjifgjaaEnt9
import Derived.Test.YtonolmddjifgjaaEnt10
import Derived.Test.YtonolmddjifgjaaEnt11
import Derived.Test.YtonolmddjifgjaaEnt12
import Derived.Test.YtonolmddjifgjaaEnt13
import Derived.Test.YtonolmddjifgjaaEnt14
import Derived.Test.YtonolmddjifgjaaEnt15
import Derived.Test.YtonolmddjifgjaaEnt16
import Derived.Test.YtonolmddjifgjaaEnt17
import Derived.Test.YtonolmddjifgjaaEnt18
import Derived.Test.YtonolmddjifgjaaEnt19
import Derived.Test.YtonolmddjifgjaaEnt20
import Derived.Test.YtonolmddjifgjaaEnt21
import Derived.Test.YtonolmddjifgjaaEnt22
import Derived.Test.YtonolmddjifgjaaEnt23
import Derived.Test.YtonolmddjifgjaaEnt24
import Derived.Test.YtonolmddjifgjaaEnt25
import Derived.Test.YtonolmddjifgjaaEnt26
namespace Go.Proofs.Ytonolmddjifgjaa.PEnt
open Go.RowKit Go.Proofs.YtonolmddjifgjaaBridge Go.Proofs.YtonolmddjifgjaaMem Go.Proofs.YtonolmddjifgjaaW.PrintWords Go.Proofs.YtonolmddjifgjaaW.PrintLast Go.Proofs.YtonolmddjifgjaaW.PrintMore
attribute [local go_sem] max2_int min2_int max_two min_two max_three min_three max_four min_four   -- for this text's walks alone
set_option linter.unusedVariables false
set_option linter.unusedSimpArgs false

end Go.Proofs.Ytonolmddjifgjaa.PEnt
