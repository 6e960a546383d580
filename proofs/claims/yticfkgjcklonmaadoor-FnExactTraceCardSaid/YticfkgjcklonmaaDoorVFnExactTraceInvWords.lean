import Derived.Test.YticfkgjcklonmaaDoorVFnExactTraceInv
import Derived.Test.YticfkgjcklonmaaDoorVFnExactTraceFootNe
namespace Go.Proofs.YticfkgjcklonmaaDoorW.PrintWords
open Go.RowKit
end Go.Proofs.YticfkgjcklonmaaDoorW.PrintWords
namespace Go.Proofs.YticfkgjcklonmaaDoorW.PrintLast
section
variable {ops : Array Oper} {a : Act} {o og : Oper} {g : Nat} {t : Tmp} {u : Bool}
end
end Go.Proofs.YticfkgjcklonmaaDoorW.PrintLast
