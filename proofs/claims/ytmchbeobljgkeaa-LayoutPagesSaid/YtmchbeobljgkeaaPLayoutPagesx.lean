-- printed by the session's own turned copy of the printer (wip/patch_print.py)
import Derived.Test.YtmchbeobljgkeaaPLayoutPagesx0
import Derived.Test.YtmchbeobljgkeaaPLayoutPagesx1
import Derived.Test.YtmchbeobljgkeaaPLayoutPagesx2
import Derived.Test.YtmchbeobljgkeaaPLayoutPagesx3
import Derived.Test.YtmchbeobljgkeaaPLayoutPagesx4
import Derived.Test.YtmchbeobljgkeaaPLayoutPagesx5
import Derived.Test.YtmchbeobljgkeaaPLayoutPagesx6
import Derived.Test.YtmchbeobljgkeaaPLayoutPagesx7
import Derived.Test.YtmchbeobljgkeaaPLayoutPagesx8
import Derived.Test.YtmchbeobljgkeaaPLayoutPagesx9
namespace Go.Proofs.Ytmchbeobljgkeaa.PLayoutPages
open Go.RowKit Go.Proofs.YtmchbeobljgkeaaW.PrintWords Go.Proofs.YtmchbeobljgkeaaW.PrintLast Go.Proofs.YtmchbeobljgkeaaW.PrintMore
attribute [local go_sem] max2_int min2_int max_two min_two max_three min_three max_four min_four   -- for this text's walks alone
set_option linter.unusedVariables false
set_option linter.unusedSimpArgs false

end Go.Proofs.Ytmchbeobljgkeaa.PLayoutPages
