-- The walks of single Go functions, laid by a program (pp.sh over the kit's print.py).
import Derived.Test.YtmjompmepicnhaaPBx0
import Derived.Test.YtmjompmepicnhaaPBx1
import Derived.Test.YtmjompmepicnhaaPBx2
import Derived.Test.YtmjompmepicnhaaPBx3
import Derived.Test.YtmjompmepicnhaaPBx4
import Derived.Test.YtmjompmepicnhaaPBx5
import Derived.Test.YtmjompmepicnhaaPBx6
import Derived.Test.YtmjompmepicnhaaPBx7
namespace Go.Proofs.Ytmjompmepicnhaa.PB
open Go.RowKit Go.Proofs.YtmjompmepicnhaaW.PrintWords Go.Proofs.YtmjompmepicnhaaW.PrintLast Go.Proofs.YtmjompmepicnhaaW.PrintMore
attribute [local go_sem] max2_int min2_int max_two min_two max_three min_three max_four min_four   -- for this text's walks alone
set_option linter.unusedVariables false
set_option linter.unusedSimpArgs false

end Go.Proofs.Ytmjompmepicnhaa.PB
