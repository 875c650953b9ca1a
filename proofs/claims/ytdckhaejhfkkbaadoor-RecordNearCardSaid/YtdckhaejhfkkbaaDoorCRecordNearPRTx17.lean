import Derived.Test.YtdckhaejhfkkbaaDoorCRecordNearPRTx0
import Derived.Test.YtdckhaejhfkkbaaDoorCRecordNearG1
import Derived.Test.YtdckhaejhfkkbaaDoorCRecordNearPRTx21
import Derived.Test.YtdckhaejhfkkbaaDoorCRecordNearPRTx5
import Derived.Test.YtdckhaejhfkkbaaDoorCRecordNearPRTx9
section
namespace Go.Proofs.YtdckhaejhfkkbaaDoor.PRT
open Go.RowKit Go.Proofs.YtdckhaejhfkkbaaDoorW.PrintWords Go.Proofs.YtdckhaejhfkkbaaDoorW.PrintLast Go.Proofs.YtdckhaejhfkkbaaDoorW.PrintMore
attribute [local go_sem] max2_int min2_int max_two min_two max_three min_three max_four min_four
set_option linter.unusedVariables false
set_option linter.unusedSimpArgs false
def manometerref05_more.l0 : Nat → ByteArray → Int → Int → Int → Option (Bool)
 | 0, _, _, _, _ => none
 | k + 1, x0, x1, x14, x15 => if x15 < x14 then (if 0 ≤ (wrap64 (x1 + x15)) then (if (wrap64 (x1 + x15)) < (x0.size : Int) then (if ((Int.tdiv (bt x0 (wrap64 (x1 + x15))) 64) % 256) = 2 then (manometerref05_more.l0 k x0 x1 x14 (wrap64 (x15 + 1))) else (some false)) else (none)) else (none)) else (some true)
def manometerref05_more.f (k : Nat) (a0 : ByteArray) (a1 : Int) (a2 : Int) : Option (Bool) := if a1 > (wrap64 ((a0.size : Int) - a2)) then (some false) else (manometerref05_more.l0 k a0 a1 a2 0)
mutual
def manometerref05_step.j0 : Nat → ByteArray → Int → Int → Bool → Option (Int)
 | 0, _, _, _, _ => none
 | k + 1, x0, x1, x5, x14 => if x14 = true then (some 2) else (if x5 ≥ 224 then (if x5 < 240 then ((manometerref05_more.f k x0 (wrap64 (x1 + 1)) 2).bind fun t240 => (manometerref05_step.j1 k x0 x1 x5 t240)) else (manometerref05_step.j1 k x0 x1 x5 false)) else (manometerref05_step.j1 k x0 x1 x5 false))
def manometerref05_step.j1 : Nat → ByteArray → Int → Int → Bool → Option (Int)
 | 0, _, _, _, _ => none
 | k + 1, x0, x1, x5, x27 => if x27 = true then (if 0 ≤ (wrap64 (x1 + 1)) then (if (wrap64 (x1 + 1)) < (x0.size : Int) then (if 0 ≤ (wrap64 (x1 + 2)) then (if (wrap64 (x1 + 2)) < (x0.size : Int) then (if (wrap64 ((wrap64 ((wrap64 ((wrap64 (Int.tmod x5 16)) * 4096)) + (wrap64 ((wrap64 (Int.tmod (bt x0 (wrap64 (x1 + 1))) 64)) * 64)))) + (wrap64 (Int.tmod (bt x0 (wrap64 (x1 + 2))) 64)))) ≥ 2048 then (if (wrap64 ((wrap64 ((wrap64 ((wrap64 (Int.tmod x5 16)) * 4096)) + (wrap64 ((wrap64 (Int.tmod (bt x0 (wrap64 (x1 + 1))) 64)) * 64)))) + (wrap64 (Int.tmod (bt x0 (wrap64 (x1 + 2))) 64)))) < 55296 then (some 3) else (if (wrap64 ((wrap64 ((wrap64 ((wrap64 (Int.tmod x5 16)) * 4096)) + (wrap64 ((wrap64 (Int.tmod (bt x0 (wrap64 (x1 + 1))) 64)) * 64)))) + (wrap64 (Int.tmod (bt x0 (wrap64 (x1 + 2))) 64)))) > 57343 then (some 3) else (some 0))) else (some 0)) else (none)) else (none)) else (none)) else (none)) else (if x5 ≥ 240 then (if x5 < 245 then ((manometerref05_more.f k x0 (wrap64 (x1 + 1)) 3).bind fun t241 => (manometerref05_step.j2 k x0 x1 x5 t241)) else (manometerref05_step.j2 k x0 x1 x5 false)) else (manometerref05_step.j2 k x0 x1 x5 false))
def manometerref05_step.j2 : Nat → ByteArray → Int → Int → Bool → Option (Int)
 | 0, _, _, _, _ => none
 | k + 1, x0, x1, x5, x69 => if x69 = true then (if 0 ≤ (wrap64 (x1 + 1)) then (if (wrap64 (x1 + 1)) < (x0.size : Int) then (if 0 ≤ (wrap64 (x1 + 2)) then (if (wrap64 (x1 + 2)) < (x0.size : Int) then (if 0 ≤ (wrap64 (x1 + 3)) then (if (wrap64 (x1 + 3)) < (x0.size : Int) then (if (wrap64 ((wrap64 ((wrap64 ((wrap64 ((wrap64 (Int.tmod x5 8)) * 262144)) + (wrap64 ((wrap64 (Int.tmod (bt x0 (wrap64 (x1 + 1))) 64)) * 4096)))) + (wrap64 ((wrap64 (Int.tmod (bt x0 (wrap64 (x1 + 2))) 64)) * 64)))) + (wrap64 (Int.tmod (bt x0 (wrap64 (x1 + 3))) 64)))) ≥ 65536 then (if (wrap64 ((wrap64 ((wrap64 ((wrap64 ((wrap64 (Int.tmod x5 8)) * 262144)) + (wrap64 ((wrap64 (Int.tmod (bt x0 (wrap64 (x1 + 1))) 64)) * 4096)))) + (wrap64 ((wrap64 (Int.tmod (bt x0 (wrap64 (x1 + 2))) 64)) * 64)))) + (wrap64 (Int.tmod (bt x0 (wrap64 (x1 + 3))) 64)))) ≤ 1114111 then (some 4) else (some 0)) else (some 0)) else (none)) else (none)) else (none)) else (none)) else (none)) else (none)) else (some 0)
end
def manometerref05_step.f (k : Nat) (a0 : ByteArray) (a1 : Int) : Option (Int) := if 0 ≤ a1 then (if a1 < (a0.size : Int) then (if (bt a0 a1) < 128 then (some 1) else (if (bt a0 a1) ≥ 194 then (if (bt a0 a1) < 224 then ((manometerref05_more.f k a0 (wrap64 (a1 + 1)) 1).bind fun t239 => (manometerref05_step.j0 k a0 a1 (bt a0 a1) t239)) else (manometerref05_step.j0 k a0 a1 (bt a0 a1) false)) else (manometerref05_step.j0 k a0 a1 (bt a0 a1) false))) else (none)) else (none)
def manometerref05_Valid.l0 : Nat → ByteArray → Int → Option (Bool)
 | 0, _, _ => none
 | k + 1, x0, x3 => if x3 < (x0.size : Int) then ((manometerref05_step.f k x0 x3).bind fun t242 => (if t242 = 0 then (some false) else (manometerref05_Valid.l0 k x0 (wrap64 (x3 + t242))))) else (some true)
def manometerref05_Valid.f (k : Nat) (a0 : ByteArray) : Option (Bool) := manometerref05_Valid.l0 k a0 0
end Go.Proofs.YtdckhaejhfkkbaaDoor.PRT
end
section
namespace Go.Proofs.YtdckhaejhfkkbaaDoor.PRT
open Go.RowKit Go.Proofs.YtdckhaejhfkkbaaDoorW.PrintWords Go.Proofs.YtdckhaejhfkkbaaDoorW.PrintLast Go.Proofs.YtdckhaejhfkkbaaDoorW.PrintMore
attribute [local go_sem] max2_int min2_int max_two min_two max_three min_three max_four min_four
set_option linter.unusedVariables false
set_option linter.unusedSimpArgs false
def manometerref05_Valued.f (k : Nat) (a0 : ByteArray) : Option (Bool) := if (a0.size : Int) ≤ 128 then ((manometerref05_Valid.f k a0).bind fun t243 => (some t243)) else (some false)
mutual
def manometerref05_Right.l0 : Nat → List (S52) → List (S52) → Int → Int → Option (Int)
 | 0, _, _, _, _ => none
 | k + 1, x0, x8, x9, x10 => if x10 < x9 then (if 0 ≤ x10 then (if x10 < (x8.length : Int) then ((manometerref05_Named.f k ((rd_T52 x8 x10).f0)).bind fun t246 => (if t246 = true then ((manometerref05_Valued.f k ((rd_T52 x8 x10).f1)).bind fun t247 => (if t247 = true then (manometerref05_Right.j1 k x0 x10 x8 x9 x10 (((rd_T52 x8 x10).f1).toList == ([] : List UInt8)) ((rd_T52 x8 x10).f0) ((rd_T52 x8 x10).f1)) else (manometerref05_Right.j1 k x0 x10 x8 x9 x10 true ((rd_T52 x8 x10).f0) ((rd_T52 x8 x10).f1)))) else (some 50))) else (none)) else (none)) else (some 0)
def manometerref05_Right.j1 : Nat → List (S52) → Int → List (S52) → Int → Int → Bool → ByteArray → ByteArray → Option (Int)
 | 0, _, _, _, _, _, _, _, _ => none
 | k + 1, x0, x3, x8, x9, x10, x20, x246000, x246001 => if x20 = true then (some 51) else (if x3 > 0 then (if 0 ≤ (wrap64 (x3 - 1)) then (if (wrap64 (x3 - 1)) < (x0.length : Int) then (if (Op.bytesLess x246000.toList (((rd_T52 x0 (wrap64 (x3 - 1))).f0).toList)) = true then (some 53) else (if x246000.toList = ((rd_T52 x0 (wrap64 (x3 - 1))).f0).toList then (some 53) else (manometerref05_Right.l0 k x0 x8 x9 (wrap64 (x10 + 1))))) else (none)) else (none)) else (manometerref05_Right.l0 k x0 x8 x9 (wrap64 (x10 + 1))))
end
def manometerref05_Right.f (k : Nat) (l0 : List (S52)) : Option (Int) := if (l0.length : Int) > 16 then (some 3) else (manometerref05_Right.l0 k l0 l0 (l0.length : Int) 0)
end Go.Proofs.YtdckhaejhfkkbaaDoor.PRT
end
section
namespace Go.Proofs.YtdckhaejhfkkbaaDoor.PRT
open Go.RowKit Go.Proofs.YtdckhaejhfkkbaaDoorW.PrintWords Go.Proofs.YtdckhaejhfkkbaaDoorW.PrintLast Go.Proofs.YtdckhaejhfkkbaaDoorW.PrintMore
attribute [local go_sem] max2_int min2_int max_two min_two max_three min_three max_four min_four
set_option linter.unusedVariables false
set_option linter.unusedSimpArgs false
end Go.Proofs.YtdckhaejhfkkbaaDoor.PRT
end
section
namespace Go.Proofs.YtdckhaejhfkkbaaDoor.PRT
open Go.RowKit Go.Proofs.YtdckhaejhfkkbaaDoorW.PrintWords Go.Proofs.YtdckhaejhfkkbaaDoorW.PrintLast Go.Proofs.YtdckhaejhfkkbaaDoorW.PrintMore
attribute [local go_sem] max2_int min2_int max_two min_two max_three min_three max_four min_four
set_option linter.unusedVariables false
set_option linter.unusedSimpArgs false
end Go.Proofs.YtdckhaejhfkkbaaDoor.PRT
end
section
namespace Go.Proofs.YtdckhaejhfkkbaaDoor.PRT
open Go.RowKit Go.Proofs.YtdckhaejhfkkbaaDoorW.PrintWords Go.Proofs.YtdckhaejhfkkbaaDoorW.PrintLast Go.Proofs.YtdckhaejhfkkbaaDoorW.PrintMore
attribute [local go_sem] max2_int min2_int max_two min_two max_three min_three max_four min_four
set_option linter.unusedVariables false
set_option linter.unusedSimpArgs false
attribute [local go_sem high] eqA52
end Go.Proofs.YtdckhaejhfkkbaaDoor.PRT
end
section
namespace Go.Proofs.YtdckhaejhfkkbaaDoor.PRT
open Go.RowKit Go.Proofs.YtdckhaejhfkkbaaDoorW.PrintWords Go.Proofs.YtdckhaejhfkkbaaDoorW.PrintLast Go.Proofs.YtdckhaejhfkkbaaDoorW.PrintMore
attribute [local go_sem] max2_int min2_int max_two min_two max_three min_three max_four min_four
set_option linter.unusedVariables false
set_option linter.unusedSimpArgs false
end Go.Proofs.YtdckhaejhfkkbaaDoor.PRT
end
section
namespace Go.Proofs.YtdckhaejhfkkbaaDoor.PRT
open Go.RowKit Go.Proofs.YtdckhaejhfkkbaaDoorW.PrintWords Go.Proofs.YtdckhaejhfkkbaaDoorW.PrintLast Go.Proofs.YtdckhaejhfkkbaaDoorW.PrintMore
attribute [local go_sem] max2_int min2_int max_two min_two max_three min_three max_four min_four
set_option linter.unusedVariables false
set_option linter.unusedSimpArgs false
def manometerref01_PutUvarint.l0 : Nat → Int → List Int → Option (List Int)
 | 0, _, _ => none
 | k + 1, x0, x3 => if x0 ≥ 128 then (if x3.length < 140737488355328 then (manometerref01_PutUvarint.l0 k (IntKind.u64.wrap (Int.tdiv x0 128)) (x3 ++ [((Int.tmod x0 128) + 128) % 256])) else (none)) else (if x3.length < 140737488355328 then (some (x3 ++ [(x0) % 256])) else (none))
def manometerref01_PutUvarint.f (k : Nat) (a0 : Int) : Option (List Int) := manometerref01_PutUvarint.l0 k a0 (([] : List Int))
def manometerref01_Zig.f (a0 : Int) : Option (Int) := if a0 < 0 then (some (IntKind.u64.wrap ((IntKind.u64.wrap (2 * (IntKind.u64.wrap (wrap64 (-(wrap64 (a0 + 1))))))) + 1))) else (some (IntKind.u64.wrap (2 * (IntKind.u64.wrap (a0)))))
def manometerref01_PutVarint.f (k : Nat) (a0 : Int) : Option (List Int) := (manometerref01_Zig.f a0).bind fun t482 => ((manometerref01_PutUvarint.f k t482).bind fun t483 => (some t483))
end Go.Proofs.YtdckhaejhfkkbaaDoor.PRT
end
