import Derived.Test.YtdhmabofncbohaaDoorCLabelsSplitPLBx0
import Derived.Test.YtdhmabofncbohaaDoorCLabelsSplitPLBx3
import Derived.Test.YtdhmabofncbohaaDoorCLabelsSplitPLBx5
import Derived.Test.YtdhmabofncbohaaDoorCLabelsSplitPLBx6
import Derived.Test.YtdhmabofncbohaaDoorCLabelsSplitPLBx7
import Derived.Test.YtdhmabofncbohaaDoorCLabelsSplitPLBx8
import Derived.Test.YtdhmabofncbohaaDoorCLabelsSplitPLBx10
import Derived.Test.YtdhmabofncbohaaDoorCLabelsSplitPLBx11
import Derived.Test.YtdhmabofncbohaaDoorCLabelsSplitPLBx13
import Derived.Test.YtdhmabofncbohaaDoorCLabelsSplitPLBx14
import Derived.Test.YtdhmabofncbohaaDoorCLabelsSplitL1
namespace Go.Proofs.YtdhmabofncbohaaDoor.PLB
open Go.RowKit Go.Proofs.YtdhmabofncbohaaDoorW.PrintWords Go.Proofs.YtdhmabofncbohaaDoorW.PrintLast Go.Proofs.YtdhmabofncbohaaDoorW.PrintMore
attribute [local go_sem] max2_int min2_int max_two min_two max_three min_three max_four min_four
set_option linter.unusedVariables false
set_option linter.unusedSimpArgs false
mutual
def manometerref05_Right.l0 : Nat → List (S44) → List (S44) → Int → Int → Option (Int)
  | 0, _, _, _, _ => none
  | k + 1, x0, x8, x9, x10 => if x10 < x9 then (if 0 ≤ x10 then (if x10 < (x8.length : Int) then ((manometerref05_Named.f k ((rd_T44 x8 x10).f0)).bind fun t397 => (if t397 = true then ((manometerref05_Valued.f k ((rd_T44 x8 x10).f1)).bind fun t398 => (if t398 = true then (manometerref05_Right.j1 k x0 x10 x8 x9 x10 (((rd_T44 x8 x10).f1).toList == ([] : List UInt8)) ((rd_T44 x8 x10).f0) ((rd_T44 x8 x10).f1)) else (manometerref05_Right.j1 k x0 x10 x8 x9 x10 true ((rd_T44 x8 x10).f0) ((rd_T44 x8 x10).f1)))) else (some 50))) else (none)) else (none)) else (some 0)
def manometerref05_Right.j1 : Nat → List (S44) → Int → List (S44) → Int → Int → Bool → ByteArray → ByteArray → Option (Int)
  | 0, _, _, _, _, _, _, _, _ => none
  | k + 1, x0, x3, x8, x9, x10, x20, x397000, x397001 => if x20 = true then (some 51) else (if x3 > 0 then (if 0 ≤ (wrap64 (x3 - 1)) then (if (wrap64 (x3 - 1)) < (x0.length : Int) then (if (Op.bytesLess x397000.toList (((rd_T44 x0 (wrap64 (x3 - 1))).f0).toList)) = true then (some 53) else (if x397000.toList = ((rd_T44 x0 (wrap64 (x3 - 1))).f0).toList then (some 53) else (manometerref05_Right.l0 k x0 x8 x9 (wrap64 (x10 + 1))))) else (none)) else (none)) else (manometerref05_Right.l0 k x0 x8 x9 (wrap64 (x10 + 1))))
end
def manometerref05_Right.f (k : Nat) (l0 : List (S44)) : Option (Int) := if (l0.length : Int) > 16 then (some 3) else (manometerref05_Right.l0 k l0 l0 (l0.length : Int) 0)
end Go.Proofs.YtdhmabofncbohaaDoor.PLB
