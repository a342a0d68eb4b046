-- Words that this claim uses: written by print.sh for it, what nothing here names left out (wip/tools/prune.py). Not trusted: Lean checks them.
import Derived.Test.YtnfappdaoeiilaaGreatWN
namespace Go.Proofs.YtnfappdaoeiilaaGreatW.PrintWords
open Go.RowKit
namespace Kd
section
variable {α : Type} {d : Kd α} {W : World} {g n : Nat} {S ok : Nat → Prop} {A : Option Addr} {ad : Addr} {xs : List α}
end
end Kd
end Go.Proofs.YtnfappdaoeiilaaGreatW.PrintWords
