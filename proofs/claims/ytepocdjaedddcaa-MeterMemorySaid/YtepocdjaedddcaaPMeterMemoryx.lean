-- printed by the session's own turned copy of the printer (wip/patch_print.py)
import Derived.Test.YtepocdjaedddcaaPMeterMemoryx0
import Derived.Test.YtepocdjaedddcaaPMeterMemoryx1
import Derived.Test.YtepocdjaedddcaaPMeterMemoryx2
import Derived.Test.YtepocdjaedddcaaPMeterMemoryx3
import Derived.Test.YtepocdjaedddcaaPMeterMemoryx4
import Derived.Test.YtepocdjaedddcaaPMeterMemoryx5
namespace Go.Proofs.Ytepocdjaedddcaa.PMeterMemory
open Go.RowKit Go.Proofs.YtepocdjaedddcaaW.PrintWords Go.Proofs.YtepocdjaedddcaaW.PrintLast Go.Proofs.YtepocdjaedddcaaW.PrintMore
attribute [local go_sem] max2_int min2_int max_two min_two max_three min_three max_four min_four   -- for this text's walks alone
set_option linter.unusedVariables false
set_option linter.unusedSimpArgs false

end Go.Proofs.Ytepocdjaedddcaa.PMeterMemory
