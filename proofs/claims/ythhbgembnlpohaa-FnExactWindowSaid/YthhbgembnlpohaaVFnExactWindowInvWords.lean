import Derived.Test.YthhbgembnlpohaaVFnExactWindowInv
import Derived.Test.YthhbgembnlpohaaVFnExactWindowFootNe
namespace Go.Proofs.YthhbgembnlpohaaW.PrintWords
open Go.RowKit
end Go.Proofs.YthhbgembnlpohaaW.PrintWords
namespace Go.Proofs.YthhbgembnlpohaaW.PrintLast
section
variable {ops : Array Oper} {a : Act} {o og : Oper} {g : Nat} {t : Tmp} {u : Bool}
end
end Go.Proofs.YthhbgembnlpohaaW.PrintLast
