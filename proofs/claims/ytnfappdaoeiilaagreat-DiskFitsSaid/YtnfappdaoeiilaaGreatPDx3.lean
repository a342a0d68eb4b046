-- Written for this claim by a program of this session's over the kit's print (wip/tools/gprint.py). Not trusted: Lean checks it.
import Derived.Test.YtnfappdaoeiilaaGreatPDx0
import Derived.Test.YtnfappdaoeiilaaGreatPDx1
import Derived.Test.YtnfappdaoeiilaaGreatPDx2
namespace Go.Proofs.YtnfappdaoeiilaaGreat.PD
open Go.RowKit Go.Proofs.YtnfappdaoeiilaaGreatW.PrintWords Go.Proofs.YtnfappdaoeiilaaGreatW.PrintLast Go.Proofs.YtnfappdaoeiilaaGreatW.PrintMore
attribute [local go_sem] max2_int min2_int max_two min_two max_three min_three max_four min_four   -- for this text's walks alone
set_option linter.unusedVariables false
set_option linter.unusedSimpArgs false

-- disk_Mount stands in YtnfappdaoeiilaaGreatHMount

end Go.Proofs.YtnfappdaoeiilaaGreat.PD
