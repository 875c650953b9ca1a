import Derived.Test.YtdhmabofncbohaaDoorCTPLBx0
import Derived.Test.YtdhmabofncbohaaDoorCTPLBx1
import Derived.Test.YtdhmabofncbohaaDoorCTPLBx4
import Derived.Test.YtdhmabofncbohaaDoorCTPLBx5
import Derived.Test.YtdhmabofncbohaaDoorCTPLBx6
import Derived.Test.YtdhmabofncbohaaDoorCTPLBx9
import Derived.Test.YtdhmabofncbohaaDoorCTPLBx10
import Derived.Test.YtdhmabofncbohaaDoorCTPLBx12
import Derived.Test.YtdhmabofncbohaaDoorCTL1
import Derived.Test.YtdhmabofncbohaaDoorCTY
namespace Go.Proofs.YtdhmabofncbohaaDoor.PLB
open Go.RowKit Go.Proofs.YtdhmabofncbohaaDoorW.PrintWords Go.Proofs.YtdhmabofncbohaaDoorW.PrintLast Go.Proofs.YtdhmabofncbohaaDoorW.PrintMore
attribute [local go_sem] max2_int min2_int max_two min_two max_three min_three max_four min_four
set_option linter.unusedVariables false
set_option linter.unusedSimpArgs false
attribute [local go_sem high] eqA44
def labels_Same.l0 : Nat → List (S44) → List (S44) → Int → Int → Option (Bool)
 | 0, _, _, _, _ => none
 | k + 1, x0, x1, x12, x13 => if x13 < x12 then (if 0 ≤ x13 then (if x13 < (x0.length : Int) then (if x13 < (x1.length : Int) then (if (!((((rd_T44 x0 x13).f0).toList) == (((rd_T44 x1 x13).f0).toList)) || (!((((rd_T44 x0 x13).f1).toList) == (((rd_T44 x1 x13).f1).toList)))) = true then (some false) else (labels_Same.l0 k x0 x1 x12 (wrap64 (x13 + 1)))) else (none)) else (none)) else (none)) else (some true)
def labels_Same.f (k : Nat) (l0 : List (S44)) (l1 : List (S44)) : Option (Bool) := if (l0.length : Int) = (l1.length : Int) then (labels_Same.l0 k l0 l1 (l0.length : Int) 0) else (some false)
end Go.Proofs.YtdhmabofncbohaaDoor.PLB
