-- Written by a program of this claim's author out of the translation (the kit's print, with some functions taken as given). Not trusted: Lean checks it.
import Derived.Test.YtmkhlgdgndnkbaaDoorPPlMx0
import Derived.Test.YtmkhlgdgndnkbaaDoorPPlMx1
namespace Go.Proofs.YtmkhlgdgndnkbaaDoor.PPlM
open Go.RowKit Go.Proofs.YtmkhlgdgndnkbaaDoorW.PrintWords Go.Proofs.YtmkhlgdgndnkbaaDoorW.PrintLast Go.Proofs.YtmkhlgdgndnkbaaDoorW.PrintMore Go.Proofs.YtmkhlgdgndnkbaaDoor.X
attribute [local go_sem] max2_int min2_int max_two min_two max_three min_three max_four min_four   -- for this text's walks alone
set_option linter.unusedVariables false
set_option linter.unusedSimpArgs false

end Go.Proofs.YtmkhlgdgndnkbaaDoor.PPlM
