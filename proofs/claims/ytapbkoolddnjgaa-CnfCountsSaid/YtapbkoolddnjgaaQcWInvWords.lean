/- What the claim needs of WInvWords: lemmas and contracts, cut by a program to what is used. -/
import Derived.Test.YtapbkoolddnjgaaQcWInv
import Derived.Test.YtapbkoolddnjgaaQcWFootNe
namespace Go.Proofs.YtapbkoolddnjgaaW.PrintWords
open Go.RowKit
end Go.Proofs.YtapbkoolddnjgaaW.PrintWords
namespace Go.Proofs.YtapbkoolddnjgaaW.PrintLast
section
variable {ops : Array Oper} {a : Act} {o og : Oper} {g : Nat} {t : Tmp} {u : Bool}
end
end Go.Proofs.YtapbkoolddnjgaaW.PrintLast
