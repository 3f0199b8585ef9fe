-- printed by the session's own turned copy of the printer (wip/patch_print.py)
import Derived.Test.YtmchbeobljgkeaaPLayoutRisesx0
import Derived.Test.YtmchbeobljgkeaaPLayoutRisesx1
import Derived.Test.YtmchbeobljgkeaaPLayoutRisesx2
import Derived.Test.YtmchbeobljgkeaaPLayoutRisesx3
import Derived.Test.YtmchbeobljgkeaaPLayoutRisesx4
import Derived.Test.YtmchbeobljgkeaaPLayoutRisesx5
import Derived.Test.YtmchbeobljgkeaaPLayoutRisesx6
namespace Go.Proofs.Ytmchbeobljgkeaa.PLayoutRises
open Go.RowKit Go.Proofs.YtmchbeobljgkeaaW.PrintWords Go.Proofs.YtmchbeobljgkeaaW.PrintLast Go.Proofs.YtmchbeobljgkeaaW.PrintMore
attribute [local go_sem] max2_int min2_int max_two min_two max_three min_three max_four min_four   -- for this text's walks alone
set_option linter.unusedVariables false
set_option linter.unusedSimpArgs false

end Go.Proofs.Ytmchbeobljgkeaa.PLayoutRises
