-- Written by wip/tools/extprint.py of this repo (a program of this claim's own, over the kit's printer) out of the translation; Lean checks it.
import Derived.Test.YtnahfhbnfidanaaQ0
import Derived.Test.YtnahfhbnfidanaaQ1
import Derived.Test.YtnahfhbnfidanaaQ2
import Derived.Test.YtnahfhbnfidanaaQ3
import Derived.Test.YtnahfhbnfidanaaQ4
import Derived.Test.YtnahfhbnfidanaaQ5
import Derived.Test.YtnahfhbnfidanaaQ6
import Derived.Test.YtnahfhbnfidanaaQ7
import Derived.Test.YtnahfhbnfidanaaQ8
import Derived.Test.YtnahfhbnfidanaaQ9
import Derived.Test.YtnahfhbnfidanaaQ10
import Derived.Test.YtnahfhbnfidanaaQ11
import Derived.Test.YtnahfhbnfidanaaQ12
import Derived.Test.YtnahfhbnfidanaaQ13
import Derived.Test.YtnahfhbnfidanaaQ14
import Derived.Test.YtnahfhbnfidanaaQ15
import Derived.Test.YtnahfhbnfidanaaQ16
import Derived.Test.YtnahfhbnfidanaaQ17
import Derived.Test.YtnahfhbnfidanaaQ18
import Derived.Test.YtnahfhbnfidanaaQ19
import Derived.Test.YtnahfhbnfidanaaQ20
import Derived.Test.YtnahfhbnfidanaaQ21
import Derived.Test.YtnahfhbnfidanaaQ22
import Derived.Test.YtnahfhbnfidanaaQ23
import Derived.Test.YtnahfhbnfidanaaQ24
namespace Go.Proofs.Ytnahfhbnfidanaa.Q
open Go.RowKit Go.Proofs.YtnahfhbnfidanaaW.PrintWords Go.Proofs.YtnahfhbnfidanaaW.PrintLast Go.Proofs.YtnahfhbnfidanaaW.PrintMore
attribute [local go_sem] max2_int min2_int max_two min_two max_three min_three max_four min_four   -- for this text's walks alone
set_option linter.unusedVariables false
set_option linter.unusedSimpArgs false

end Go.Proofs.Ytnahfhbnfidanaa.Q
