/- What the claim needs of WEqStruct: lemmas and contracts, cut by a program to what is used. -/
import Derived.Test.YtapbkoolddnjgaaQcWWords
import Derived.Laws.StructEq
namespace Go.Proofs.YtapbkoolddnjgaaW.PrintWords
open Go.RowKit
section
variable {P : Program} {d : Nat} {xs ys : Array Value} {f : Field} {fs : List Field} {a b : Value} {r s : Bool} {w : World}
end
end Go.Proofs.YtapbkoolddnjgaaW.PrintWords
