import Derived.Test.YtdhmabofncbohaaDoorCLabelsSplitPLBx0
import Derived.Test.YtdhmabofncbohaaDoorCLabelsSplitPLBx7
import Derived.Test.YtdhmabofncbohaaDoorCLabelsSplitPLBx8
import Derived.Test.YtdhmabofncbohaaDoorCLabelsSplitPLBx10
import Derived.Test.YtdhmabofncbohaaDoorCLabelsSplitL1
namespace Go.Proofs.YtdhmabofncbohaaDoor.PLB
open Go.RowKit Go.Proofs.YtdhmabofncbohaaDoorW.PrintWords Go.Proofs.YtdhmabofncbohaaDoorW.PrintLast Go.Proofs.YtdhmabofncbohaaDoorW.PrintMore
attribute [local go_sem] max2_int min2_int max_two min_two max_three min_three max_four min_four
set_option linter.unusedVariables false
set_option linter.unusedSimpArgs false
mutual
def manometerref05_Make.l0 : Nat → List (S44) → List (S44) → Int → Int → Option ((List (S44)) × Int)
  | 0, _, _, _, _ => none
  | k + 1, x0, x10, x11, x12 => if x12 < x11 then (if 0 ≤ x12 then (if x12 < (x10.length : Int) then ((manometerref05_Named.f k ((rd_T44 x10 x12).f0)).bind fun t298 => (if t298 = true then ((manometerref05_Valued.f k ((rd_T44 x10 x12).f1)).bind fun t299 => (if t299 = true then (manometerref05_Make.l0 k x0 x10 x11 (wrap64 (x12 + 1))) else (some (([] : List (S44)), 51)))) else (some (([] : List (S44)), 50)))) else (none)) else (none)) else (manometerref05_Make.l1 k x0 (([] : List (S44))) x0 (x0.length : Int) 0)
def manometerref05_Make.l1 : Nat → List (S44) → List (S44) → List (S44) → Int → Int → Option ((List (S44)) × Int)
  | 0, _, _, _, _, _ => none
  | k + 1, x0, x6, x26, x27, x28 => if x28 < x27 then (if 0 ≤ x28 then (if x28 < (x26.length : Int) then (manometerref05_Make.l2 k x0 x6 x26 x27 x28 x28 0 ((rd_T44 x26 x28).f0) ((rd_T44 x26 x28).f1)) else (none)) else (none)) else (if (x6.length : Int) > 16 then (some (([] : List (S44)), 3)) else (some (x6, 0)))
def manometerref05_Make.l2 : Nat → List (S44) → List (S44) → List (S44) → Int → Int → Int → Int → ByteArray → ByteArray → Option ((List (S44)) × Int)
  | 0, _, _, _, _, _, _, _, _, _ => none
  | k + 1, x0, x6, x26, x27, x28, x33, x34, x305000, x305001 => if x34 < x33 then (if 0 ≤ x34 then (if x34 < (x0.length : Int) then (if ((rd_T44 x0 x34).f0).toList = x305000.toList then (some (([] : List (S44)), 52)) else (manometerref05_Make.l2 k x0 x6 x26 x27 x28 x33 (wrap64 (x34 + 1)) x305000 x305001)) else (none)) else (none)) else (if x305001.toList = ([] : List UInt8) then (manometerref05_Make.l1 k x0 x6 x26 x27 (wrap64 (x28 + 1))) else ((manometerref05_put.f k x6 x305000 x305001).bind fun t306 => (manometerref05_Make.l1 k x0 t306 x26 x27 (wrap64 (x28 + 1)))))
end
def manometerref05_Make.f (k : Nat) (l0 : List (S44)) : Option ((List (S44)) × Int) := manometerref05_Make.l0 k l0 l0 (l0.length : Int) 0
end Go.Proofs.YtdhmabofncbohaaDoor.PLB
