-- Words that this claim uses: written by print.sh for it, what nothing here names left out (wip/tools/prune.py). Not trusted: Lean checks them.
import Derived.Test.YtnfappdaoeiilaaGreatWApart
import Derived.Test.YtnfappdaoeiilaaGreatWArr
namespace Go.Proofs.YtnfappdaoeiilaaGreatW.PrintWords
open Go.RowKit
section
variable {P : Program}
end
namespace Kd
section
variable {P : Program} {ops : Array Oper} {rest : List Oper} {o : Oper} {a : Act} {Q : Exit → Act → World → Prop} {Kc : Act → World → Prop} {α : Type}
end
section
variable {α : Type} {d : Kd α} {e : Nat} {w : World} {base : Nat} {ok : Nat → Prop} {v : Value} {xs : List α}
end
section
variable {P : Program} {ops : Array Oper} {rest : List Oper} {o : Oper} {a : Act} {Q : Exit → Act → World → Prop} {Kc : Act → World → Prop} {α : Type}
end
end Kd
end Go.Proofs.YtnfappdaoeiilaaGreatW.PrintWords
