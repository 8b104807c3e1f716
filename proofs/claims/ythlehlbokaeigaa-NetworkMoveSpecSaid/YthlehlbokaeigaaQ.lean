-- Written by wip/tools/extprint.py of this repo (a program of this claim's own, over the kit's printer) out of the translation; Lean checks it.
import Derived.Test.YthlehlbokaeigaaQ0
import Derived.Test.YthlehlbokaeigaaQ1
import Derived.Test.YthlehlbokaeigaaQ2
import Derived.Test.YthlehlbokaeigaaQ3
import Derived.Test.YthlehlbokaeigaaQ4
import Derived.Test.YthlehlbokaeigaaQ5
import Derived.Test.YthlehlbokaeigaaQ6
import Derived.Test.YthlehlbokaeigaaQ7
import Derived.Test.YthlehlbokaeigaaQ8
import Derived.Test.YthlehlbokaeigaaQ9
import Derived.Test.YthlehlbokaeigaaQ10
import Derived.Test.YthlehlbokaeigaaQ11
import Derived.Test.YthlehlbokaeigaaQ12
import Derived.Test.YthlehlbokaeigaaQ13
import Derived.Test.YthlehlbokaeigaaQ14
namespace Go.Proofs.Ythlehlbokaeigaa.Q
open Go.RowKit Go.Proofs.YthlehlbokaeigaaW.PrintWords Go.Proofs.YthlehlbokaeigaaW.PrintLast Go.Proofs.YthlehlbokaeigaaW.PrintMore
attribute [local go_sem] max2_int min2_int max_two min_two max_three min_three max_four min_four   -- for this text's walks alone
set_option linter.unusedVariables false
set_option linter.unusedSimpArgs false

end Go.Proofs.Ythlehlbokaeigaa.Q
