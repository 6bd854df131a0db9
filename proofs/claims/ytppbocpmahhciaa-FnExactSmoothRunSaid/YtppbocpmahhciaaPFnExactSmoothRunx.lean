/- Functions of the program and of the reference, each with its walk: written by a program of this session out of the translation. -/
import Derived.Test.YtppbocpmahhciaaPFnExactSmoothRunx0
import Derived.Test.YtppbocpmahhciaaPFnExactSmoothRunx1
import Derived.Test.YtppbocpmahhciaaPFnExactSmoothRunx2
import Derived.Test.YtppbocpmahhciaaPFnExactSmoothRunx3
import Derived.Test.YtppbocpmahhciaaPFnExactSmoothRunx4
namespace Go.Proofs.Ytppbocpmahhciaa.PFnExactSmoothRun
open Go.RowKit Go.Proofs.YtppbocpmahhciaaW.PrintWords Go.Proofs.YtppbocpmahhciaaW.PrintLast Go.Proofs.YtppbocpmahhciaaW.PrintMore
attribute [local go_sem] max2_int min2_int max_two min_two max_three min_three max_four min_four   -- for this text's walks alone
set_option linter.unusedVariables false
set_option linter.unusedSimpArgs false

end Go.Proofs.Ytppbocpmahhciaa.PFnExactSmoothRun
