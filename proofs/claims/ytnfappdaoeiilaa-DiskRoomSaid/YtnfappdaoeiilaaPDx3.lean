-- Written for this claim by a program of this session's over the kit's print (wip/tools/gprint.py). Not trusted: Lean checks it.
import Derived.Test.YtnfappdaoeiilaaPDx0
import Derived.Test.YtnfappdaoeiilaaPDx1
import Derived.Test.YtnfappdaoeiilaaPDx2
namespace Go.Proofs.Ytnfappdaoeiilaa.PD
open Go.RowKit Go.Proofs.YtnfappdaoeiilaaW.PrintWords Go.Proofs.YtnfappdaoeiilaaW.PrintLast Go.Proofs.YtnfappdaoeiilaaW.PrintMore
attribute [local go_sem] max2_int min2_int max_two min_two max_three min_three max_four min_four   -- for this text's walks alone
set_option linter.unusedVariables false
set_option linter.unusedSimpArgs false

-- disk_Mount stands in YtnfappdaoeiilaaHMount

end Go.Proofs.Ytnfappdaoeiilaa.PD
