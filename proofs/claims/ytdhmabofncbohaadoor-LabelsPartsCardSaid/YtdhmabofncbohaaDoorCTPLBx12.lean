import Derived.Test.YtdhmabofncbohaaDoorCTPLBx0
import Derived.Test.YtdhmabofncbohaaDoorCTPLBx9
import Derived.Test.YtdhmabofncbohaaDoorCTPLBx11
import Derived.Test.YtdhmabofncbohaaDoorCTL1
import Derived.Test.YtdhmabofncbohaaDoorCTY
namespace Go.Proofs.YtdhmabofncbohaaDoor.PLB
open Go.RowKit Go.Proofs.YtdhmabofncbohaaDoorW.PrintWords Go.Proofs.YtdhmabofncbohaaDoorW.PrintLast Go.Proofs.YtdhmabofncbohaaDoorW.PrintMore
attribute [local go_sem] max2_int min2_int max_two min_two max_three min_three max_four min_four
set_option linter.unusedVariables false
set_option linter.unusedSimpArgs false
end Go.Proofs.YtdhmabofncbohaaDoor.PLB
