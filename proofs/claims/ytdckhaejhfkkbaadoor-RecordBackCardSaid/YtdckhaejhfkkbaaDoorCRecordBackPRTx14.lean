import Derived.Test.YtdckhaejhfkkbaaDoorCRecordBackPRTx0
import Derived.Test.YtdckhaejhfkkbaaDoorCRecordBackO2
import Derived.Test.YtdckhaejhfkkbaaDoorCRecordBackPRTx2
import Derived.Test.YtdckhaejhfkkbaaDoorCRecordBackY
import Derived.Test.YtdckhaejhfkkbaaDoorCRecordBackPRTx5
import Derived.Test.YtdckhaejhfkkbaaDoorCRecordBackPRTx9
section
namespace Go.Proofs.YtdckhaejhfkkbaaDoor.PRT
open Go.RowKit Go.Proofs.YtdckhaejhfkkbaaDoorW.PrintWords Go.Proofs.YtdckhaejhfkkbaaDoorW.PrintLast Go.Proofs.YtdckhaejhfkkbaaDoorW.PrintMore
attribute [local go_sem] max2_int min2_int max_two min_two max_three min_three max_four min_four
set_option linter.unusedVariables false
set_option linter.unusedSimpArgs false
def manometerref05_more.l0 : Nat → ByteArray → Int → Int → Int → Option (Bool)
 | 0, _, _, _, _ => none
 | k + 1, x0, x1, x14, x15 => if x15 < x14 then (if 0 ≤ (wrap64 (x1 + x15)) then (if (wrap64 (x1 + x15)) < (x0.size : Int) then (if ((Int.tdiv (bt x0 (wrap64 (x1 + x15))) 64) % 256) = 2 then (manometerref05_more.l0 k x0 x1 x14 (wrap64 (x15 + 1))) else (some false)) else (none)) else (none)) else (some true)
def manometerref05_more.f (k : Nat) (a0 : ByteArray) (a1 : Int) (a2 : Int) : Option (Bool) := if a1 > (wrap64 ((a0.size : Int) - a2)) then (some false) else (manometerref05_more.l0 k a0 a1 a2 0)
mutual
def manometerref05_step.j0 : Nat → ByteArray → Int → Int → Bool → Option (Int)
 | 0, _, _, _, _ => none
 | k + 1, x0, x1, x5, x14 => if x14 = true then (some 2) else (if x5 ≥ 224 then (if x5 < 240 then ((manometerref05_more.f k x0 (wrap64 (x1 + 1)) 2).bind fun t240 => (manometerref05_step.j1 k x0 x1 x5 t240)) else (manometerref05_step.j1 k x0 x1 x5 false)) else (manometerref05_step.j1 k x0 x1 x5 false))
def manometerref05_step.j1 : Nat → ByteArray → Int → Int → Bool → Option (Int)
 | 0, _, _, _, _ => none
 | k + 1, x0, x1, x5, x27 => if x27 = true then (if 0 ≤ (wrap64 (x1 + 1)) then (if (wrap64 (x1 + 1)) < (x0.size : Int) then (if 0 ≤ (wrap64 (x1 + 2)) then (if (wrap64 (x1 + 2)) < (x0.size : Int) then (if (wrap64 ((wrap64 ((wrap64 ((wrap64 (Int.tmod x5 16)) * 4096)) + (wrap64 ((wrap64 (Int.tmod (bt x0 (wrap64 (x1 + 1))) 64)) * 64)))) + (wrap64 (Int.tmod (bt x0 (wrap64 (x1 + 2))) 64)))) ≥ 2048 then (if (wrap64 ((wrap64 ((wrap64 ((wrap64 (Int.tmod x5 16)) * 4096)) + (wrap64 ((wrap64 (Int.tmod (bt x0 (wrap64 (x1 + 1))) 64)) * 64)))) + (wrap64 (Int.tmod (bt x0 (wrap64 (x1 + 2))) 64)))) < 55296 then (some 3) else (if (wrap64 ((wrap64 ((wrap64 ((wrap64 (Int.tmod x5 16)) * 4096)) + (wrap64 ((wrap64 (Int.tmod (bt x0 (wrap64 (x1 + 1))) 64)) * 64)))) + (wrap64 (Int.tmod (bt x0 (wrap64 (x1 + 2))) 64)))) > 57343 then (some 3) else (some 0))) else (some 0)) else (none)) else (none)) else (none)) else (none)) else (if x5 ≥ 240 then (if x5 < 245 then ((manometerref05_more.f k x0 (wrap64 (x1 + 1)) 3).bind fun t241 => (manometerref05_step.j2 k x0 x1 x5 t241)) else (manometerref05_step.j2 k x0 x1 x5 false)) else (manometerref05_step.j2 k x0 x1 x5 false))
def manometerref05_step.j2 : Nat → ByteArray → Int → Int → Bool → Option (Int)
 | 0, _, _, _, _ => none
 | k + 1, x0, x1, x5, x69 => if x69 = true then (if 0 ≤ (wrap64 (x1 + 1)) then (if (wrap64 (x1 + 1)) < (x0.size : Int) then (if 0 ≤ (wrap64 (x1 + 2)) then (if (wrap64 (x1 + 2)) < (x0.size : Int) then (if 0 ≤ (wrap64 (x1 + 3)) then (if (wrap64 (x1 + 3)) < (x0.size : Int) then (if (wrap64 ((wrap64 ((wrap64 ((wrap64 ((wrap64 (Int.tmod x5 8)) * 262144)) + (wrap64 ((wrap64 (Int.tmod (bt x0 (wrap64 (x1 + 1))) 64)) * 4096)))) + (wrap64 ((wrap64 (Int.tmod (bt x0 (wrap64 (x1 + 2))) 64)) * 64)))) + (wrap64 (Int.tmod (bt x0 (wrap64 (x1 + 3))) 64)))) ≥ 65536 then (if (wrap64 ((wrap64 ((wrap64 ((wrap64 ((wrap64 (Int.tmod x5 8)) * 262144)) + (wrap64 ((wrap64 (Int.tmod (bt x0 (wrap64 (x1 + 1))) 64)) * 4096)))) + (wrap64 ((wrap64 (Int.tmod (bt x0 (wrap64 (x1 + 2))) 64)) * 64)))) + (wrap64 (Int.tmod (bt x0 (wrap64 (x1 + 3))) 64)))) ≤ 1114111 then (some 4) else (some 0)) else (some 0)) else (none)) else (none)) else (none)) else (none)) else (none)) else (none)) else (some 0)
end
def manometerref05_step.f (k : Nat) (a0 : ByteArray) (a1 : Int) : Option (Int) := if 0 ≤ a1 then (if a1 < (a0.size : Int) then (if (bt a0 a1) < 128 then (some 1) else (if (bt a0 a1) ≥ 194 then (if (bt a0 a1) < 224 then ((manometerref05_more.f k a0 (wrap64 (a1 + 1)) 1).bind fun t239 => (manometerref05_step.j0 k a0 a1 (bt a0 a1) t239)) else (manometerref05_step.j0 k a0 a1 (bt a0 a1) false)) else (manometerref05_step.j0 k a0 a1 (bt a0 a1) false))) else (none)) else (none)
def manometerref05_Valid.l0 : Nat → ByteArray → Int → Option (Bool)
 | 0, _, _ => none
 | k + 1, x0, x3 => if x3 < (x0.size : Int) then ((manometerref05_step.f k x0 x3).bind fun t242 => (if t242 = 0 then (some false) else (manometerref05_Valid.l0 k x0 (wrap64 (x3 + t242))))) else (some true)
def manometerref05_Valid.f (k : Nat) (a0 : ByteArray) : Option (Bool) := manometerref05_Valid.l0 k a0 0
end Go.Proofs.YtdckhaejhfkkbaaDoor.PRT
end
section
namespace Go.Proofs.YtdckhaejhfkkbaaDoor.PRT
open Go.RowKit Go.Proofs.YtdckhaejhfkkbaaDoorW.PrintWords Go.Proofs.YtdckhaejhfkkbaaDoorW.PrintLast Go.Proofs.YtdckhaejhfkkbaaDoorW.PrintMore
attribute [local go_sem] max2_int min2_int max_two min_two max_three min_three max_four min_four
set_option linter.unusedVariables false
set_option linter.unusedSimpArgs false
def manometerref05_Valued.f (k : Nat) (a0 : ByteArray) : Option (Bool) := if (a0.size : Int) ≤ 128 then ((manometerref05_Valid.f k a0).bind fun t243 => (some t243)) else (some false)
mutual
def manometerref05_Right.l0 : Nat → List (S52) → List (S52) → Int → Int → Option (Int)
 | 0, _, _, _, _ => none
 | k + 1, x0, x8, x9, x10 => if x10 < x9 then (if 0 ≤ x10 then (if x10 < (x8.length : Int) then ((manometerref05_Named.f k ((rd_T52 x8 x10).f0)).bind fun t246 => (if t246 = true then ((manometerref05_Valued.f k ((rd_T52 x8 x10).f1)).bind fun t247 => (if t247 = true then (manometerref05_Right.j1 k x0 x10 x8 x9 x10 (((rd_T52 x8 x10).f1).toList == ([] : List UInt8)) ((rd_T52 x8 x10).f0) ((rd_T52 x8 x10).f1)) else (manometerref05_Right.j1 k x0 x10 x8 x9 x10 true ((rd_T52 x8 x10).f0) ((rd_T52 x8 x10).f1)))) else (some 50))) else (none)) else (none)) else (some 0)
def manometerref05_Right.j1 : Nat → List (S52) → Int → List (S52) → Int → Int → Bool → ByteArray → ByteArray → Option (Int)
 | 0, _, _, _, _, _, _, _, _ => none
 | k + 1, x0, x3, x8, x9, x10, x20, x246000, x246001 => if x20 = true then (some 51) else (if x3 > 0 then (if 0 ≤ (wrap64 (x3 - 1)) then (if (wrap64 (x3 - 1)) < (x0.length : Int) then (if (Op.bytesLess x246000.toList (((rd_T52 x0 (wrap64 (x3 - 1))).f0).toList)) = true then (some 53) else (if x246000.toList = ((rd_T52 x0 (wrap64 (x3 - 1))).f0).toList then (some 53) else (manometerref05_Right.l0 k x0 x8 x9 (wrap64 (x10 + 1))))) else (none)) else (none)) else (manometerref05_Right.l0 k x0 x8 x9 (wrap64 (x10 + 1))))
end
def manometerref05_Right.f (k : Nat) (l0 : List (S52)) : Option (Int) := if (l0.length : Int) > 16 then (some 3) else (manometerref05_Right.l0 k l0 l0 (l0.length : Int) 0)
def manometerref05_took.f (k : Nat) (l0 : List Int) (a1 : Int) : Option (ByteArray × List Int × Int) := (manometerref01_Uvarint.f k l0).bind fun bt249 => (if bt249.2.2 = 0 then (if bt249.1 > a1 then (some ((⟨#[]⟩ : ByteArray), ([] : List Int), 3)) else (if bt249.1 > (IntKind.u64.wrap (wrap64 ((l0.length : Int) - bt249.2.1))) then (some ((⟨#[]⟩ : ByteArray), ([] : List Int), 6)) else (if 0 ≤ bt249.2.1 then (if bt249.2.1 ≤ (wrap64 (bt249.2.1 + (wrap64 (bt249.1)))) then (if (wrap64 (bt249.2.1 + (wrap64 (bt249.1)))) ≤ (l0.length : Int) then (if 0 ≤ (wrap64 (bt249.2.1 + (wrap64 (bt249.1)))) then (some (strOfNums ((l0.take ((wrap64 (bt249.2.1 + (wrap64 (bt249.1)))) : Int).toNat).drop (bt249.2.1 : Int).toNat), (l0.drop ((wrap64 (bt249.2.1 + (wrap64 (bt249.1)))) : Int).toNat), 0)) else (none)) else (none)) else (none)) else (none)))) else (some ((⟨#[]⟩ : ByteArray), ([] : List Int), bt249.2.2)))
def manometerref05_Take.l0 : Nat → List Int → List (S52) → List Int → Int → Int → Option ((List (S52)) × Int × Int)
 | 0, _, _, _, _, _ => none
 | k + 1, x0, x8, x9, x28, x29 => if x29 < x28 then ((manometerref05_took.f k x9 64).bind fun bt275 => (if bt275.2.2 = 0 then ((manometerref05_took.f k bt275.2.1 128).bind fun bt280 => (if bt280.2.2 = 0 then (if x8.length < 4398046511104 then (manometerref05_Take.l0 k x0 (x8 ++ [(⟨bt275.1, bt280.1⟩ : S52)]) bt280.2.1 x28 (wrap64 (x29 + 1))) else (none)) else (some (([] : List (S52)), 0, bt280.2.2)))) else (some (([] : List (S52)), 0, bt275.2.2)))) else ((manometerref05_Right.f k x8).bind fun t273 => (if t273 = 0 then (some (x8, wrap64 ((x0.length : Int) - (x9.length : Int)), 0)) else (some (([] : List (S52)), 0, t273))))
def manometerref05_Take.f (k : Nat) (l0 : List Int) : Option ((List (S52)) × Int × Int) := (manometerref01_Uvarint.f k l0).bind fun bt262 => (if bt262.2.2 = 0 then (if bt262.1 > 16 then (some (([] : List (S52)), 0, 3)) else (if 0 ≤ bt262.2.1 then (if bt262.2.1 ≤ (l0.length : Int) then (manometerref05_Take.l0 k l0 (([] : List (S52))) (l0.drop (bt262.2.1 : Int).toNat) (wrap64 (bt262.1)) 0) else (none)) else (none))) else (some (([] : List (S52)), 0, bt262.2.2)))
end Go.Proofs.YtdckhaejhfkkbaaDoor.PRT
end
section
namespace Go.Proofs.YtdckhaejhfkkbaaDoor.PRT
open Go.RowKit Go.Proofs.YtdckhaejhfkkbaaDoorW.PrintWords Go.Proofs.YtdckhaejhfkkbaaDoorW.PrintLast Go.Proofs.YtdckhaejhfkkbaaDoorW.PrintMore
attribute [local go_sem] max2_int min2_int max_two min_two max_three min_three max_four min_four
set_option linter.unusedVariables false
set_option linter.unusedSimpArgs false
def manometerref01_Zag.f (a0 : Int) : Option (Int) := if (Int.tmod a0 2) = 1 then (some (wrap64 ((wrap64 (-(wrap64 (IntKind.u64.wrap (Int.tdiv a0 2))))) - 1))) else (some (wrap64 (IntKind.u64.wrap (Int.tdiv a0 2))))
def manometerref01_Varint.f (k : Nat) (l0 : List Int) : Option (Int × Int × Int) := (manometerref01_Uvarint.f k l0).bind fun bt298 => (if bt298.2.2 = 0 then ((manometerref01_Zag.f bt298.1).bind fun t301 => (some (t301, bt298.2.1, 0))) else (some (0, 0, bt298.2.2)))
end Go.Proofs.YtdckhaejhfkkbaaDoor.PRT
end
section
namespace Go.Proofs.YtdckhaejhfkkbaaDoor.PRT
open Go.RowKit Go.Proofs.YtdckhaejhfkkbaaDoorW.PrintWords Go.Proofs.YtdckhaejhfkkbaaDoorW.PrintLast Go.Proofs.YtdckhaejhfkkbaaDoorW.PrintMore
attribute [local go_sem] max2_int min2_int max_two min_two max_three min_three max_four min_four
set_option linter.unusedVariables false
set_option linter.unusedSimpArgs false
end Go.Proofs.YtdckhaejhfkkbaaDoor.PRT
end
section
namespace Go.Proofs.YtdckhaejhfkkbaaDoor.PRT
open Go.RowKit Go.Proofs.YtdckhaejhfkkbaaDoorW.PrintWords Go.Proofs.YtdckhaejhfkkbaaDoorW.PrintLast Go.Proofs.YtdckhaejhfkkbaaDoorW.PrintMore
attribute [local go_sem] max2_int min2_int max_two min_two max_three min_three max_four min_four
set_option linter.unusedVariables false
set_option linter.unusedSimpArgs false
attribute [local go_sem high] eqA52
def manometerref05_Same.l0 : Nat → List (S52) → List (S52) → Int → Int → Option (Bool)
 | 0, _, _, _, _ => none
 | k + 1, x0, x1, x12, x13 => if x13 < x12 then (if 0 ≤ x13 then (if x13 < (x0.length : Int) then (if x13 < (x1.length : Int) then (if (!((((rd_T52 x0 x13).f0).toList) == (((rd_T52 x1 x13).f0).toList)) || (!((((rd_T52 x0 x13).f1).toList) == (((rd_T52 x1 x13).f1).toList)))) = true then (some false) else (manometerref05_Same.l0 k x0 x1 x12 (wrap64 (x13 + 1)))) else (none)) else (none)) else (none)) else (some true)
def manometerref05_Same.f (k : Nat) (l0 : List (S52)) (l1 : List (S52)) : Option (Bool) := if (l0.length : Int) = (l1.length : Int) then (manometerref05_Same.l0 k l0 l1 (l0.length : Int) 0) else (some false)
end Go.Proofs.YtdckhaejhfkkbaaDoor.PRT
end
