import Derived.Test.YticfkgjcklonmaaVFnExactPendingInv
import Derived.Test.YticfkgjcklonmaaVFnExactPendingFootNe
namespace Go.Proofs.YticfkgjcklonmaaW.PrintWords
open Go.RowKit
end Go.Proofs.YticfkgjcklonmaaW.PrintWords
namespace Go.Proofs.YticfkgjcklonmaaW.PrintLast
section
variable {ops : Array Oper} {a : Act} {o og : Oper} {g : Nat} {t : Tmp} {u : Bool}
end
end Go.Proofs.YticfkgjcklonmaaW.PrintLast
