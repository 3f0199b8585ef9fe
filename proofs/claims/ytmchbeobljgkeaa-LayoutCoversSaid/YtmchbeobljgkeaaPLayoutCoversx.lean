-- printed by the session's own turned copy of the printer (wip/patch_print.py)
import Derived.Test.YtmchbeobljgkeaaPLayoutCoversx0
import Derived.Test.YtmchbeobljgkeaaPLayoutCoversx1
import Derived.Test.YtmchbeobljgkeaaPLayoutCoversx2
import Derived.Test.YtmchbeobljgkeaaPLayoutCoversx3
import Derived.Test.YtmchbeobljgkeaaPLayoutCoversx4
import Derived.Test.YtmchbeobljgkeaaPLayoutCoversx5
import Derived.Test.YtmchbeobljgkeaaPLayoutCoversx6
namespace Go.Proofs.Ytmchbeobljgkeaa.PLayoutCovers
open Go.RowKit Go.Proofs.YtmchbeobljgkeaaW.PrintWords Go.Proofs.YtmchbeobljgkeaaW.PrintLast Go.Proofs.YtmchbeobljgkeaaW.PrintMore
attribute [local go_sem] max2_int min2_int max_two min_two max_three min_three max_four min_four   -- for this text's walks alone
set_option linter.unusedVariables false
set_option linter.unusedSimpArgs false

end Go.Proofs.Ytmchbeobljgkeaa.PLayoutCovers
