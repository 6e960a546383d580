-- MADE BY qprint.py, a program of this claim's session, over the kit's print: own text.
import Derived.Test.YthhbgembnlpohaaQFnExactStoreOkx0
import Derived.Test.YthhbgembnlpohaaQFnExactStoreOkx1
import Derived.Test.YthhbgembnlpohaaQFnExactStoreOkx2
import Derived.Test.YthhbgembnlpohaaQFnExactStoreOkx3
import Derived.Test.YthhbgembnlpohaaQFnExactStoreOkx4
import Derived.Test.YthhbgembnlpohaaQFnExactStoreOkx5
import Derived.Test.YthhbgembnlpohaaQFnExactStoreOkx6
import Derived.Test.YthhbgembnlpohaaQFnExactStoreOkx7
import Derived.Test.YthhbgembnlpohaaQFnExactStoreOkx8
import Derived.Test.YthhbgembnlpohaaQFnExactStoreOkx9
namespace Go.Proofs.Ythhbgembnlpohaa.QFnExactStoreOk
open Go.RowKit Go.Proofs.YthhbgembnlpohaaW.PrintWords Go.Proofs.YthhbgembnlpohaaW.PrintLast Go.Proofs.YthhbgembnlpohaaW.PrintMore
attribute [local go_sem] max2_int min2_int max_two min_two max_three min_three max_four min_four   -- for this text's walks alone
set_option linter.unusedVariables false
set_option linter.unusedSimpArgs false

end Go.Proofs.Ythhbgembnlpohaa.QFnExactStoreOk
