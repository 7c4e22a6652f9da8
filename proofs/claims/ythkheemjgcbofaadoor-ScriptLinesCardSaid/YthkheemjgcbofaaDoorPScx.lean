-- PRINTED by print.py (a twelfth state) out of the translation. Not trusted: Lean checks it.
import Derived.Test.YthkheemjgcbofaaDoorPScx0
import Derived.Test.YthkheemjgcbofaaDoorPScx1
import Derived.Test.YthkheemjgcbofaaDoorPScx2
import Derived.Test.YthkheemjgcbofaaDoorPScx3
import Derived.Test.YthkheemjgcbofaaDoorPScx4
import Derived.Test.YthkheemjgcbofaaDoorPScx5
import Derived.Test.YthkheemjgcbofaaDoorPScx6
namespace Go.Proofs.YthkheemjgcbofaaDoor.PSc
open Go.RowKit Go.Proofs.YthkheemjgcbofaaDoorW.PrintWords Go.Proofs.YthkheemjgcbofaaDoorW.PrintLast Go.Proofs.YthkheemjgcbofaaDoorW.PrintMore
attribute [local go_sem] max2_int min2_int max_two min_two max_three min_three max_four min_four   -- for this text's walks alone
set_option linter.unusedVariables false
set_option linter.unusedSimpArgs false

end Go.Proofs.YthkheemjgcbofaaDoor.PSc
