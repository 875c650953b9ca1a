import Derived.Test.YtdckhaejhfkkbaaDoorCRecordBackPRTx0
import Derived.Test.YtdckhaejhfkkbaaDoorCRecordBackPRTx14
import Derived.Test.YtdckhaejhfkkbaaDoorCRecordBackPRTx16
import Derived.Test.YtdckhaejhfkkbaaDoorCRecordBackO2
import Derived.Test.YtdckhaejhfkkbaaDoorCRecordBackPRTx2
import Derived.Test.YtdckhaejhfkkbaaDoorCRecordBackY
namespace Go.Proofs.YtdckhaejhfkkbaaDoor.PRT
open Go.RowKit Go.Proofs.YtdckhaejhfkkbaaDoorW.PrintWords Go.Proofs.YtdckhaejhfkkbaaDoorW.PrintLast Go.Proofs.YtdckhaejhfkkbaaDoorW.PrintMore
attribute [local go_sem] max2_int min2_int max_two min_two max_three min_three max_four min_four
set_option linter.unusedVariables false
set_option linter.unusedSimpArgs false
def manometerref01_PutUvarint.l0 : Nat → Int → List Int → Option (List Int)
 | 0, _, _ => none
 | k + 1, x0, x3 => if x0 ≥ 128 then (if x3.length < 140737488355328 then (manometerref01_PutUvarint.l0 k (IntKind.u64.wrap (Int.tdiv x0 128)) (x3 ++ [((Int.tmod x0 128) + 128) % 256])) else (none)) else (if x3.length < 140737488355328 then (some (x3 ++ [(x0) % 256])) else (none))
def manometerref01_PutUvarint.f (k : Nat) (a0 : Int) : Option (List Int) := manometerref01_PutUvarint.l0 k a0 (([] : List Int))
def manometerref05_sized.f (k : Nat) (a0 : ByteArray) : Option (List Int) := (manometerref01_PutUvarint.f k (IntKind.u64.wrap ((a0.size : Int)))).bind fun t452 => (if a0.size ≤ 9223372036854775807 then ((manometerref01_Join.f k (([t452, (bytesOf a0)] : List (List Int)))).bind fun t461 => (some t461)) else (none))
def manometerref05_Put.l0 : Nat → List Int → List (S52) → Int → Int → Option (List Int × Int)
 | 0, _, _, _, _ => none
 | k + 1, x5, x17, x18, x19 => if x19 < x18 then (if 0 ≤ x19 then (if x19 < (x17.length : Int) then ((manometerref05_sized.f k ((rd_T52 x17 x19).f0)).bind fun t470 => ((manometerref05_sized.f k ((rd_T52 x17 x19).f1)).bind fun t473 => ((manometerref01_Join.f k (([x5, t470, t473] : List (List Int)))).bind fun t479 => (manometerref05_Put.l0 k t479 x17 x18 (wrap64 (x19 + 1)))))) else (none)) else (none)) else (some (x5, 0))
def manometerref05_Put.f (k : Nat) (l0 : List (S52)) : Option (List Int × Int) := (manometerref05_Right.f k l0).bind fun t464 => (if t464 = 0 then ((manometerref01_PutUvarint.f k (IntKind.u64.wrap ((l0.length : Int)))).bind fun t465 => (manometerref05_Put.l0 k t465 l0 (l0.length : Int) 0)) else (some (([] : List Int), t464)))
def manometerref01_Zig.f (a0 : Int) : Option (Int) := if a0 < 0 then (some (IntKind.u64.wrap ((IntKind.u64.wrap (2 * (IntKind.u64.wrap (wrap64 (-(wrap64 (a0 + 1))))))) + 1))) else (some (IntKind.u64.wrap (2 * (IntKind.u64.wrap (a0)))))
def manometerref01_PutVarint.f (k : Nat) (a0 : Int) : Option (List Int) := (manometerref01_Zig.f a0).bind fun t482 => ((manometerref01_PutUvarint.f k t482).bind fun t483 => (some t483))
def manometerref01_Bytes.l0 : Nat → List Int → List Bool → Int → Int → Option (List Int)
 | 0, _, _, _, _ => none
 | k + 1, x3, x11, x12, x13 => if x13 < x12 then (if 0 ≤ x13 then (if x13 < (x11.length : Int) then (if rdOf false x11 x13 = true then (if 0 ≤ (wrap64 (Int.tdiv x13 8)) then (if (wrap64 (Int.tdiv x13 8)) < (x3.length : Int) then (if 0 ≤ (IntKind.u64.wrap (Int.tmod x13 8)) then (manometerref01_Bytes.l0 k (x3.set ((wrap64 (Int.tdiv x13 8)) : Int).toNat (Go.bits .or .u8 (rd x3 (wrap64 (Int.tdiv x13 8))) (shr .u8 128 (IntKind.u64.wrap (Int.tmod x13 8))))) x11 x12 (wrap64 (x13 + 1))) else (none)) else (none)) else (none)) else (manometerref01_Bytes.l0 k x3 x11 x12 (wrap64 (x13 + 1)))) else (none)) else (none)) else (some x3)
def manometerref01_Bytes.f (k : Nat) (l0 : List Bool) : Option (List Int) := if 0 ≤ (wrap64 (Int.tdiv (wrap64 ((l0.length : Int) + 7)) 8)) then (if (wrap64 (Int.tdiv (wrap64 ((l0.length : Int) + 7)) 8) : Int).toNat ≤ 281474976710656 then (manometerref01_Bytes.l0 k (List.replicate (wrap64 (Int.tdiv (wrap64 ((l0.length : Int) + 7)) 8) : Int).toNat 0) l0 (l0.length : Int) 0) else (none)) else (none)
def manometerref01_Put.l0 : Nat → List Bool → Int → Int → Option (List Bool)
 | 0, _, _, _ => none
 | k + 1, x0, x1, x7 => if x7 ≥ 0 then (if 0 ≤ (IntKind.u64.wrap (x7)) then (if x0.length < 140737488355328 then (manometerref01_Put.l0 k (x0 ++ [((Go.bits .and .u64 (shr .u64 x1 (IntKind.u64.wrap (x7))) 1) == 1)]) x1 (wrap64 (x7 - 1))) else (none)) else (none)) else (some x0)
def manometerref01_Put.f (k : Nat) (l0 : List Bool) (a1 : Int) (a2 : Int) : Option (List Bool) := manometerref01_Put.l0 k l0 a1 (wrap64 (a2 - 1))
end Go.Proofs.YtdckhaejhfkkbaaDoor.PRT
