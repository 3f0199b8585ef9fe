-- printed by the session's own turned copy of the printer (wip/patch_print.py)
import Derived.Test.YtmchbeobljgkeaaPLayoutLeastsx0
import Derived.Test.YtmchbeobljgkeaaPLayoutLeastsx1
import Derived.Test.YtmchbeobljgkeaaPLayoutLeastsx2
import Derived.Test.YtmchbeobljgkeaaPLayoutLeastsx3
import Derived.Test.YtmchbeobljgkeaaPLayoutLeastsx4
import Derived.Test.YtmchbeobljgkeaaPLayoutLeastsx5
import Derived.Test.YtmchbeobljgkeaaPLayoutLeastsx6
import Derived.Test.YtmchbeobljgkeaaPLayoutLeastsx7
namespace Go.Proofs.Ytmchbeobljgkeaa.PLayoutLeasts
open Go.RowKit Go.Proofs.YtmchbeobljgkeaaW.PrintWords Go.Proofs.YtmchbeobljgkeaaW.PrintLast Go.Proofs.YtmchbeobljgkeaaW.PrintMore
attribute [local go_sem] max2_int min2_int max_two min_two max_three min_three max_four min_four   -- for this text's walks alone
set_option linter.unusedVariables false
set_option linter.unusedSimpArgs false

end Go.Proofs.Ytmchbeobljgkeaa.PLayoutLeasts
