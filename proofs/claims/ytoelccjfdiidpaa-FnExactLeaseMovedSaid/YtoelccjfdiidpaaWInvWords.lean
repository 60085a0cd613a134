-- The words of the print that this claim uses (wip/prune.py).
import Derived.Test.YtoelccjfdiidpaaWInv
import Derived.Test.YtoelccjfdiidpaaWFootNe
namespace Go.Proofs.YtoelccjfdiidpaaW.PrintWords
open Go.RowKit
end Go.Proofs.YtoelccjfdiidpaaW.PrintWords
namespace Go.Proofs.YtoelccjfdiidpaaW.PrintLast
section
variable {ops : Array Oper} {a : Act} {o og : Oper} {g : Nat} {t : Tmp} {u : Bool}
end
end Go.Proofs.YtoelccjfdiidpaaW.PrintLast
