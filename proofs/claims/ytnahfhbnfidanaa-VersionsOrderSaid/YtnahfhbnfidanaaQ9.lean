-- Written by wip/tools/extprint.py of this repo (a program of this claim's own, over the kit's printer) out of the translation; Lean checks it.
import Derived.Test.YtnahfhbnfidanaaQ0
namespace Go.Proofs.Ytnahfhbnfidanaa.Q
open Go.RowKit Go.Proofs.YtnahfhbnfidanaaW.PrintWords Go.Proofs.YtnahfhbnfidanaaW.PrintLast Go.Proofs.YtnahfhbnfidanaaW.PrintMore
attribute [local go_sem] max2_int min2_int max_two min_two max_three min_three max_four min_four   -- for this text's walks alone
set_option linter.unusedVariables false
set_option linter.unusedSimpArgs false

-- versions.Add: with versions.Value

end Go.Proofs.Ytnahfhbnfidanaa.Q
