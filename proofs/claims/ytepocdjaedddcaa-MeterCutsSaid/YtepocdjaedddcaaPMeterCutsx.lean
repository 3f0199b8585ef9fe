-- printed by the session's own turned copy of the printer (wip/patch_print.py)
import Derived.Test.YtepocdjaedddcaaPMeterCutsx0
import Derived.Test.YtepocdjaedddcaaPMeterCutsx1
import Derived.Test.YtepocdjaedddcaaPMeterCutsx2
import Derived.Test.YtepocdjaedddcaaPMeterCutsx3
import Derived.Test.YtepocdjaedddcaaPMeterCutsx4
import Derived.Test.YtepocdjaedddcaaPMeterCutsx5
import Derived.Test.YtepocdjaedddcaaPMeterCutsx6
namespace Go.Proofs.Ytepocdjaedddcaa.PMeterCuts
open Go.RowKit Go.Proofs.YtepocdjaedddcaaW.PrintWords Go.Proofs.YtepocdjaedddcaaW.PrintLast Go.Proofs.YtepocdjaedddcaaW.PrintMore
attribute [local go_sem] max2_int min2_int max_two min_two max_three min_three max_four min_four   -- for this text's walks alone
set_option linter.unusedVariables false
set_option linter.unusedSimpArgs false

end Go.Proofs.Ytepocdjaedddcaa.PMeterCuts
