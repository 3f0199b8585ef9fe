-- printed by the session's own turned copy of the printer (wip/patch_print.py)
import Derived.Test.YtmchbeobljgkeaaPLayoutHigherx0
import Derived.Test.YtmchbeobljgkeaaPLayoutHigherx1
import Derived.Test.YtmchbeobljgkeaaPLayoutHigherx2
import Derived.Test.YtmchbeobljgkeaaPLayoutHigherx3
import Derived.Test.YtmchbeobljgkeaaPLayoutHigherx4
import Derived.Test.YtmchbeobljgkeaaPLayoutHigherx5
import Derived.Test.YtmchbeobljgkeaaPLayoutHigherx6
namespace Go.Proofs.Ytmchbeobljgkeaa.PLayoutHigher
open Go.RowKit Go.Proofs.YtmchbeobljgkeaaW.PrintWords Go.Proofs.YtmchbeobljgkeaaW.PrintLast Go.Proofs.YtmchbeobljgkeaaW.PrintMore
attribute [local go_sem] max2_int min2_int max_two min_two max_three min_three max_four min_four   -- for this text's walks alone
set_option linter.unusedVariables false
set_option linter.unusedSimpArgs false

end Go.Proofs.Ytmchbeobljgkeaa.PLayoutHigher
