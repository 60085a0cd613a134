-- The words of the print that this claim uses (wip/prune.py).
import Derived.Test.YtoelccjfdiidpaaWWords
import Derived.Laws.StructEq
/-! ### 53. '==' of structs as_ one Bool -/
namespace Go.Proofs.YtoelccjfdiidpaaW.PrintWords
open Go.RowKit
section
variable {P : Program} {d : Nat} {xs ys : Array Value} {f : Field} {fs : List Field} {a b : Value} {r s : Bool} {w : World}
end
end Go.Proofs.YtoelccjfdiidpaaW.PrintWords
