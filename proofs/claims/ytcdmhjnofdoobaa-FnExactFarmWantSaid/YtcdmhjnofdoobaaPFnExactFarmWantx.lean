/- Functions of the program and of the reference, each with its walk: written by a program of this session out of the translation. -/
import Derived.Test.YtcdmhjnofdoobaaPFnExactFarmWantx0
import Derived.Test.YtcdmhjnofdoobaaPFnExactFarmWantx1
import Derived.Test.YtcdmhjnofdoobaaPFnExactFarmWantx2
import Derived.Test.YtcdmhjnofdoobaaPFnExactFarmWantx3
import Derived.Test.YtcdmhjnofdoobaaPFnExactFarmWantx4
import Derived.Test.YtcdmhjnofdoobaaPFnExactFarmWantx5
import Derived.Test.YtcdmhjnofdoobaaPFnExactFarmWantx6
import Derived.Test.YtcdmhjnofdoobaaPFnExactFarmWantx7
namespace Go.Proofs.Ytcdmhjnofdoobaa.PFnExactFarmWant
open Go.RowKit Go.Proofs.YtcdmhjnofdoobaaW.PrintWords Go.Proofs.YtcdmhjnofdoobaaW.PrintLast Go.Proofs.YtcdmhjnofdoobaaW.PrintMore
attribute [local go_sem] max2_int min2_int max_two min_two max_three min_three max_four min_four   -- for this text's walks alone
set_option linter.unusedVariables false
set_option linter.unusedSimpArgs false

end Go.Proofs.Ytcdmhjnofdoobaa.PFnExactFarmWant
