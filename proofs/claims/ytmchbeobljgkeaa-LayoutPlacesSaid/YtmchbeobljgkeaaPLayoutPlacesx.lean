-- printed by the session's own turned copy of the printer (wip/patch_print.py)
import Derived.Test.YtmchbeobljgkeaaPLayoutPlacesx0
import Derived.Test.YtmchbeobljgkeaaPLayoutPlacesx1
import Derived.Test.YtmchbeobljgkeaaPLayoutPlacesx2
import Derived.Test.YtmchbeobljgkeaaPLayoutPlacesx3
import Derived.Test.YtmchbeobljgkeaaPLayoutPlacesx4
import Derived.Test.YtmchbeobljgkeaaPLayoutPlacesx5
import Derived.Test.YtmchbeobljgkeaaPLayoutPlacesx6
import Derived.Test.YtmchbeobljgkeaaPLayoutPlacesx7
import Derived.Test.YtmchbeobljgkeaaPLayoutPlacesx8
import Derived.Test.YtmchbeobljgkeaaPLayoutPlacesx9
namespace Go.Proofs.Ytmchbeobljgkeaa.PLayoutPlaces
open Go.RowKit Go.Proofs.YtmchbeobljgkeaaW.PrintWords Go.Proofs.YtmchbeobljgkeaaW.PrintLast
set_option linter.unusedVariables false
set_option linter.unusedSimpArgs false

end Go.Proofs.Ytmchbeobljgkeaa.PLayoutPlaces
