import Derived.Test.YtkkomfomjpcbfaaDoorCTokenOneTT
import Derived.Test.YtkkomfomjpcbfaaDoorCTokenOnePTSx8
import Derived.Laws.RangeAny
import Derived.Lib.OthersKept
import Derived.Test.YtkkomfomjpcbfaaDoorCTokenOneG1
import Derived.Test.YtkkomfomjpcbfaaDoorCTokenOneTU
section
namespace Go.Proofs.YtkkomfomjpcbfaaDoor.PTS
open Go.RowKit Go.Proofs.YtkkomfomjpcbfaaDoorW.PrintWords Go.Proofs.YtkkomfomjpcbfaaDoorW.PrintLast Go.Proofs.YtkkomfomjpcbfaaDoorW.PrintMore
attribute [local go_sem] max2_int min2_int max_two min_two max_three min_three max_four min_four
set_option linter.unusedVariables false
set_option linter.unusedSimpArgs false
mutual
def manometerref03_Armor.l0 : Nat → List Bool → Option (ByteArray)
 | 0, _ => none
 | k + 1, x3 => if ((x3.length : Int) % 6) = 0 then (manometerref03_Armor.l1 k x3 (⟨#[]⟩ : ByteArray)) else (if x3.length < 140737488355328 then (manometerref03_Armor.l0 k (x3 ++ [false])) else (none))
def manometerref03_Armor.l1 : Nat → List Bool → ByteArray → Option (ByteArray)
 | 0, _, _ => none
 | k + 1, x3, x4 => if (x3.length : Int) > 0 then (if 6 ≤ (x3.length : Int) then ((manometerref01_Number.f (x3.take 6)).bind fun t227 => (if 0 ≤ t227 then (if t227 ≤ (IntKind.u64.wrap (t227 + 1)) then (if (IntKind.u64.wrap (t227 + 1)) ≤ 64 then (if x4.size + ((⟨#[65, 66, 67, 68, 69, 70, 71, 72, 73, 74, 75, 76, 77, 78, 79, 80, 81, 82, 83, 84, 85, 86, 87, 88, 89, 90, 97, 98, 99, 100, 101, 102, 103, 104, 105, 106, 107, 108, 109, 110, 111, 112, 113, 114, 115, 116, 117, 118, 119, 120, 121, 122, 48, 49, 50, 51, 52, 53, 54, 55, 56, 57, 45, 95]⟩ : ByteArray).extract (t227 : Int).toNat ((IntKind.u64.wrap (t227 + 1)) : Int).toNat).size ≤ 9223372036854775807 then (manometerref03_Armor.l1 k (x3.drop (6 : Int).toNat) (x4 ++ ((⟨#[65, 66, 67, 68, 69, 70, 71, 72, 73, 74, 75, 76, 77, 78, 79, 80, 81, 82, 83, 84, 85, 86, 87, 88, 89, 90, 97, 98, 99, 100, 101, 102, 103, 104, 105, 106, 107, 108, 109, 110, 111, 112, 113, 114, 115, 116, 117, 118, 119, 120, 121, 122, 48, 49, 50, 51, 52, 53, 54, 55, 56, 57, 45, 95]⟩ : ByteArray).extract (t227 : Int).toNat ((IntKind.u64.wrap (t227 + 1)) : Int).toNat))) else (none)) else (none)) else (none)) else (none))) else (none)) else (some x4)
end
def manometerref03_Armor.f (k : Nat) (l0 : List Int) : Option (ByteArray) := (manometerref01_Bits.f l0 (wrap64 (8 * (l0.length : Int)))).bind fun t217 => (manometerref03_Armor.l0 k t217)
def manometerref01_Join.l0 : Nat → List Int → List (List Int) → Int → Int → Option (List Int)
 | 0, _, _, _, _ => none
 | k + 1, x3, x7, x8, x9 => if x9 < x8 then (if 0 ≤ x9 then (if x9 < (x7.length : Int) then (if x3.length + (rd_L3 x7 x9).length < 140737488355328 then (manometerref01_Join.l0 k (x3 ++ (rd_L3 x7 x9)) x7 x8 (wrap64 (x9 + 1))) else (none)) else (none)) else (none)) else (some x3)
def manometerref01_Join.f (k : Nat) (l0 : List (List Int)) : Option (List Int) := manometerref01_Join.l0 k (([] : List Int)) l0 (l0.length : Int) 0
def manometerref01_PutUvarint.l0 : Nat → Int → List Int → Option (List Int)
 | 0, _, _ => none
 | k + 1, x0, x3 => if x0 ≥ 128 then (if x3.length < 140737488355328 then (manometerref01_PutUvarint.l0 k (IntKind.u64.wrap (Int.tdiv x0 128)) (x3 ++ [((Int.tmod x0 128) + 128) % 256])) else (none)) else (if x3.length < 140737488355328 then (some (x3 ++ [(x0) % 256])) else (none))
def manometerref01_PutUvarint.f (k : Nat) (a0 : Int) : Option (List Int) := manometerref01_PutUvarint.l0 k a0 (([] : List Int))
def manometerref01_Zig.f (a0 : Int) : Option (Int) := if a0 < 0 then (some (IntKind.u64.wrap ((IntKind.u64.wrap (2 * (IntKind.u64.wrap (wrap64 (-(wrap64 (a0 + 1))))))) + 1))) else (some (IntKind.u64.wrap (2 * (IntKind.u64.wrap (a0)))))
def manometerref01_PutVarint.f (k : Nat) (a0 : Int) : Option (List Int) := (manometerref01_Zig.f a0).bind fun t247 => ((manometerref01_PutUvarint.f k t247).bind fun t248 => (some t248))
end Go.Proofs.YtkkomfomjpcbfaaDoor.PTS
end
section
namespace Go.Proofs.YtkkomfomjpcbfaaDoor.PTS
open Go.RowKit Go.Proofs.YtkkomfomjpcbfaaDoorW.PrintWords Go.Proofs.YtkkomfomjpcbfaaDoorW.PrintLast Go.Proofs.YtkkomfomjpcbfaaDoorW.PrintMore
attribute [local go_sem] max2_int min2_int max_two min_two max_three min_three max_four min_four
set_option linter.unusedVariables false
set_option linter.unusedSimpArgs false
def manometerref17_cut.l0 : Nat → ByteArray → Int → Int → Option (ByteArray × ByteArray × Bool)
 | 0, _, _, _ => none
 | k + 1, x0, x7, x8 => if x8 < x7 then (if 0 ≤ x8 then (if x8 < (x0.size : Int) then (if (bt x0 x8) = 46 then (if x8 ≤ (x0.size : Int) then (if 0 ≤ (wrap64 (x8 + 1)) then (if (wrap64 (x8 + 1)) ≤ (x0.size : Int) then (some (x0.extract 0 (x8 : Int).toNat, x0.extract ((wrap64 (x8 + 1)) : Int).toNat x0.size, true)) else (none)) else (none)) else (none)) else (manometerref17_cut.l0 k x0 x7 (wrap64 (x8 + 1)))) else (none)) else (none)) else (some ((⟨#[]⟩ : ByteArray), (⟨#[]⟩ : ByteArray), false))
def manometerref17_cut.f (k : Nat) (a0 : ByteArray) : Option (ByteArray × ByteArray × Bool) := manometerref17_cut.l0 k a0 (a0.size : Int) 0
def manometerref03_value.l0 : Nat → Int → Int → Option (Int)
 | 0, _, _ => none
 | k + 1, x0, x4 => if x4 < 64 then (if 0 ≤ x4 then (if (bt (⟨#[65, 66, 67, 68, 69, 70, 71, 72, 73, 74, 75, 76, 77, 78, 79, 80, 81, 82, 83, 84, 85, 86, 87, 88, 89, 90, 97, 98, 99, 100, 101, 102, 103, 104, 105, 106, 107, 108, 109, 110, 111, 112, 113, 114, 115, 116, 117, 118, 119, 120, 121, 122, 48, 49, 50, 51, 52, 53, 54, 55, 56, 57, 45, 95]⟩ : ByteArray) x4) = x0 then (some (IntKind.u64.wrap (x4))) else (manometerref03_value.l0 k x0 (wrap64 (x4 + 1)))) else (none)) else (some 64)
def manometerref03_value.f (k : Nat) (a0 : Int) : Option (Int) := manometerref03_value.l0 k a0 0
def manometerref01_Put.l0 : Nat → List Bool → Int → Int → Option (List Bool)
 | 0, _, _, _ => none
 | k + 1, x0, x1, x7 => if x7 ≥ 0 then (if 0 ≤ (IntKind.u64.wrap (x7)) then (if x0.length < 140737488355328 then (manometerref01_Put.l0 k (x0 ++ [((Go.bits .and .u64 (shr .u64 x1 (IntKind.u64.wrap (x7))) 1) == 1)]) x1 (wrap64 (x7 - 1))) else (none)) else (none)) else (some x0)
def manometerref01_Put.f (k : Nat) (l0 : List Bool) (a1 : Int) (a2 : Int) : Option (List Bool) := manometerref01_Put.l0 k l0 a1 (wrap64 (a2 - 1))
def manometerref01_Bytes.f (l0 : List Bool) : Option (List Int) := if l0.length ≤ 100000000 then some (Bq.packI l0) else none
def manometerref03_Unarmor.l0 : Nat → ByteArray → List Bool → Int → Int → Option (List Int × Int)
 | 0, _, _, _, _ => none
 | k + 1, x0, x4, x10, x11 => if x11 < x10 then (if 0 ≤ x11 then (if x11 < (x0.size : Int) then ((manometerref03_value.f k (bt x0 x11)).bind fun t312 => (if t312 > 63 then (some (([] : List Int), 8)) else ((manometerref01_Put.f k x4 t312 6).bind fun t313 => (manometerref03_Unarmor.l0 k x0 t313 x10 (wrap64 (x11 + 1)))))) else (none)) else (none)) else (if 0 ≤ (wrap64 ((wrap64 ((x4.length : Int) / 8)) * 8)) then (if (wrap64 ((wrap64 ((x4.length : Int) / 8)) * 8)) ≤ (x4.length : Int) then ((manometerref01_Bytes.f (x4.take ((wrap64 ((wrap64 ((x4.length : Int) / 8)) * 8)) : Int).toNat)).bind fun t320 => ((manometerref03_Armor.f k t320).bind fun t323 => (if t323.toList = x0.toList then (some (t320, 0)) else (some (([] : List Int), 8))))) else (none)) else (none))
def manometerref03_Unarmor.f (k : Nat) (a0 : ByteArray) : Option (List Int × Int) := manometerref03_Unarmor.l0 k a0 (([] : List Bool)) (a0.size : Int) 0
mutual
def manometerref01_Uvarint.l0 : Nat → List Int → Int → Int → Option (Int × Int × Int)
 | 0, _, _, _ => none
 | k + 1, x0, x5, x7 => if x7 < 10 then (if x7 = (x0.length : Int) then (some (0, 0, 6)) else (if x7 = 9 then (if 0 ≤ x7 then (if x7 < (x0.length : Int) then (manometerref01_Uvarint.j1 k x0 x5 x7 x7 (decide ((rd x0 x7) > 1))) else (none)) else (none)) else (manometerref01_Uvarint.j1 k x0 x5 x7 x7 false))) else (some (0, 0, 9))
def manometerref01_Uvarint.j1 : Nat → List Int → Int → Int → Int → Bool → Option (Int × Int × Int)
 | 0, _, _, _, _, _ => none
 | k + 1, x0, x5, x6, x7, x22 => if x22 = true then (some (0, 0, 9)) else (if 0 ≤ x6 then (if x6 < (x0.length : Int) then (if 0 ≤ (IntKind.u64.wrap (wrap64 (7 * x6))) then (if (rd x0 x6) < 128 then (if x6 > 0 then (if (rd x0 x6) = 0 then (some (0, 0, 8)) else (some (IntKind.u64.wrap (x5 + (shl .u64 (IntKind.u64.wrap (Int.tmod (rd x0 x6) 128)) (IntKind.u64.wrap (wrap64 (7 * x6))))), wrap64 (x6 + 1), 0))) else (some (IntKind.u64.wrap (x5 + (shl .u64 (IntKind.u64.wrap (Int.tmod (rd x0 x6) 128)) (IntKind.u64.wrap (wrap64 (7 * x6))))), wrap64 (x6 + 1), 0))) else (manometerref01_Uvarint.l0 k x0 (IntKind.u64.wrap (x5 + (shl .u64 (IntKind.u64.wrap (Int.tmod (rd x0 x6) 128)) (IntKind.u64.wrap (wrap64 (7 * x6)))))) (wrap64 (x7 + 1)))) else (none)) else (none)) else (none))
end
def manometerref01_Uvarint.f (k : Nat) (l0 : List Int) : Option (Int × Int × Int) := manometerref01_Uvarint.l0 k l0 0 0
end Go.Proofs.YtkkomfomjpcbfaaDoor.PTS
end
section
namespace Go.Proofs.YtkkomfomjpcbfaaDoor.PTS
open Go.RowKit Go.Proofs.YtkkomfomjpcbfaaDoorW.PrintWords Go.Proofs.YtkkomfomjpcbfaaDoorW.PrintLast Go.Proofs.YtkkomfomjpcbfaaDoorW.PrintMore
attribute [local go_sem] max2_int min2_int max_two min_two max_three min_three max_four min_four
set_option linter.unusedVariables false
set_option linter.unusedSimpArgs false
def manometerref01_Zag.f (a0 : Int) : Option (Int) := if (Int.tmod a0 2) = 1 then (some (wrap64 ((wrap64 (-(wrap64 (IntKind.u64.wrap (Int.tdiv a0 2))))) - 1))) else (some (wrap64 (IntKind.u64.wrap (Int.tdiv a0 2))))
def manometerref01_Varint.f (k : Nat) (l0 : List Int) : Option (Int × Int × Int) := (manometerref01_Uvarint.f k l0).bind fun bt328 => (if bt328.2.2 = 0 then ((manometerref01_Zag.f bt328.1).bind fun t331 => (some (t331, bt328.2.1, 0))) else (some (0, 0, bt328.2.2)))
end Go.Proofs.YtkkomfomjpcbfaaDoor.PTS
end
