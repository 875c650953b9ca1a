import Derived.Test.YtdhmabofncbohaaDoorCLabelsTextsPU1
import Derived.Test.YtdhmabofncbohaaDoorCLabelsTextsPLBx6
import Derived.Test.YtdhmabofncbohaaDoorCLabelsTextsPLBx9
namespace Go.Proofs.YtdhmabofncbohaaDoor.Pu
open Go Go.RowKit Go.Proofs.YtdhmabofncbohaaDoor Go.Proofs.YtdhmabofncbohaaDoor.PLB Go.Proofs.YtdhmabofncbohaaDoorW.PrintWords Go.Proofs.YtdhmabofncbohaaDoorW.PrintLast Go.Proofs.YtdhmabofncbohaaDoorW.PrintMore
set_option linter.unusedVariables false
theorem live_60 : manometerlaw05_live.f 60 = some true := by kernel_rfl
theorem live_ev : Ev manometerlaw05_live.f true := Ev.of manometerlaw05_live.mono live_60
end Go.Proofs.YtdhmabofncbohaaDoor.Pu
