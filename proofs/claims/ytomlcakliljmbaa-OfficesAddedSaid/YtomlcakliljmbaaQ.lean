-- Written by wip/tools/extprint.py of this repo (a program of this claim's own, over the kit's printer) out of the translation; Lean checks it.
import Derived.Test.YtomlcakliljmbaaQ0
import Derived.Test.YtomlcakliljmbaaQ1
import Derived.Test.YtomlcakliljmbaaQ2
import Derived.Test.YtomlcakliljmbaaQ3
import Derived.Test.YtomlcakliljmbaaQ4
import Derived.Test.YtomlcakliljmbaaQ5
import Derived.Test.YtomlcakliljmbaaQ6
import Derived.Test.YtomlcakliljmbaaQ7
import Derived.Test.YtomlcakliljmbaaQ8
import Derived.Test.YtomlcakliljmbaaQ9
import Derived.Test.YtomlcakliljmbaaQ10
import Derived.Test.YtomlcakliljmbaaQ11
import Derived.Test.YtomlcakliljmbaaQ12
import Derived.Test.YtomlcakliljmbaaQ13
import Derived.Test.YtomlcakliljmbaaQ14
namespace Go.Proofs.Ytomlcakliljmbaa.Q
open Go.RowKit Go.Proofs.YtomlcakliljmbaaW.PrintWords Go.Proofs.YtomlcakliljmbaaW.PrintLast Go.Proofs.YtomlcakliljmbaaW.PrintMore
attribute [local go_sem] max2_int min2_int max_two min_two max_three min_three max_four min_four   -- for this text's walks alone
set_option linter.unusedVariables false
set_option linter.unusedSimpArgs false

end Go.Proofs.Ytomlcakliljmbaa.Q
