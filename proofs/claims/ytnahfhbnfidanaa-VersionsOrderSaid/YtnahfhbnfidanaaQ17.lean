-- Written by wip/tools/extprint.py of this repo (a program of this claim's own, over the kit's printer) out of the translation; Lean checks it.
import Derived.Test.YtnahfhbnfidanaaQ0
namespace Go.Proofs.Ytnahfhbnfidanaa.Q
open Go.RowKit Go.Proofs.YtnahfhbnfidanaaW.PrintWords Go.Proofs.YtnahfhbnfidanaaW.PrintLast Go.Proofs.YtnahfhbnfidanaaW.PrintMore
attribute [local go_sem] max2_int min2_int max_two min_two max_three min_three max_four min_four   -- for this text's walks alone
set_option linter.unusedVariables false
set_option linter.unusedSimpArgs false

-- NOT PRINTED: function 64 (slices_xorshift_Next)

-- NOT PRINTED: function 54 (api_Amend_54)

-- NOT PRINTED: function 67 (api_Amend_67)

-- NOT PRINTED: function 66 (api_Amend_66)

-- NOT PRINTED: function 65 (api_Amend_65)

-- NOT PRINTED: function 55 (api_Amend_55)

-- NOT PRINTED: function 56 (api_Amend_56)

-- NOT PRINTED: function 57 (api_Amend_57)

-- NOT PRINTED: function 58 (api_Amend_58)

-- NOT PRINTED: function 59 (api_Amend_59)

-- NOT PRINTED: function 49 (api_Amend_49)

-- NOT PRINTED: function 45 (api_Amend_45)

-- NOT PRINTED: function 37 (api_Amend_37)

end Go.Proofs.Ytnahfhbnfidanaa.Q
