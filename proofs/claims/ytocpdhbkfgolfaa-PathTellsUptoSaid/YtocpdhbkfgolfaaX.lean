/- Printed by a program of this session (a turned copy of the kit's print): each Go function as a Lean function, and the proof that the call does just that. -/
import Derived.Test.YtocpdhbkfgolfaaX0
import Derived.Test.YtocpdhbkfgolfaaX1
import Derived.Test.YtocpdhbkfgolfaaX2
import Derived.Test.YtocpdhbkfgolfaaX3
import Derived.Test.YtocpdhbkfgolfaaX4
import Derived.Test.YtocpdhbkfgolfaaX5
import Derived.Test.YtocpdhbkfgolfaaX6
import Derived.Test.YtocpdhbkfgolfaaX7
import Derived.Test.YtocpdhbkfgolfaaX8
import Derived.Test.YtocpdhbkfgolfaaX9
namespace Go.Proofs.Ytocpdhbkfgolfaa.Ext
end Go.Proofs.Ytocpdhbkfgolfaa.Ext
namespace Go.Proofs.Ytocpdhbkfgolfaa.X
open Go.RowKit Go.Proofs.YtocpdhbkfgolfaaW.PrintWords Go.Proofs.YtocpdhbkfgolfaaW.PrintLast Go.Proofs.YtocpdhbkfgolfaaW.PrintMore Go.Proofs.Ytocpdhbkfgolfaa.Ext
attribute [local go_sem] max2_int min2_int max_two min_two max_three min_three max_four min_four   -- for this text's walks alone
set_option linter.unusedVariables false
set_option linter.unusedSimpArgs false

end Go.Proofs.Ytocpdhbkfgolfaa.X
