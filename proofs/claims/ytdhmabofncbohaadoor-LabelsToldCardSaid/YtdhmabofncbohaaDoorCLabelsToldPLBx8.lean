import Derived.Test.YtdhmabofncbohaaDoorCLabelsToldL1
section
namespace Go.Proofs.YtdhmabofncbohaaDoor.PLB
open Go.RowKit Go.Proofs.YtdhmabofncbohaaDoorW.PrintWords Go.Proofs.YtdhmabofncbohaaDoorW.PrintLast Go.Proofs.YtdhmabofncbohaaDoorW.PrintMore
attribute [local go_sem] max2_int min2_int max_two min_two max_three min_three max_four min_four
set_option linter.unusedVariables false
set_option linter.unusedSimpArgs false
def manometerref05_Letter.f (a0 : Int) : Option (Bool) := if a0 ≥ 97 then (if a0 ≤ 122 then (some true) else (if a0 ≥ 65 then (if a0 ≤ 90 then (some true) else (if a0 ≥ 48 then (if a0 ≤ 57 then (some true) else (some (a0 == 95))) else (some (a0 == 95)))) else (if a0 ≥ 48 then (if a0 ≤ 57 then (some true) else (some (a0 == 95))) else (some (a0 == 95))))) else (if a0 ≥ 65 then (if a0 ≤ 90 then (some true) else (if a0 ≥ 48 then (if a0 ≤ 57 then (some true) else (some (a0 == 95))) else (some (a0 == 95)))) else (if a0 ≥ 48 then (if a0 ≤ 57 then (some true) else (some (a0 == 95))) else (some (a0 == 95))))
def manometerref05_Named.l0 : Nat → ByteArray → Int → Int → Option (Bool)
 | 0, _, _, _ => none
 | k + 1, x0, x5, x6 => if x6 < x5 then (if 0 ≤ x6 then (if x6 < (x0.size : Int) then ((manometerref05_Letter.f (bt x0 x6)).bind fun t235 => (if t235 = true then (manometerref05_Named.l0 k x0 x5 (wrap64 (x6 + 1))) else (some false))) else (none)) else (none)) else (if (x0.size : Int) ≥ 1 then (if (x0.size : Int) ≤ 64 then (if 0 < (x0.size : Int) then (if (bt x0 0) < 48 then (some true) else (some (decide ((bt x0 0) > 57)))) else (none)) else (some false)) else (some false))
def manometerref05_Named.f (k : Nat) (a0 : ByteArray) : Option (Bool) := manometerref05_Named.l0 k a0 (a0.size : Int) 0
def manometerref05_more.l0 : Nat → ByteArray → Int → Int → Int → Option (Bool)
 | 0, _, _, _, _ => none
 | k + 1, x0, x1, x14, x15 => if x15 < x14 then (if 0 ≤ (wrap64 (x1 + x15)) then (if (wrap64 (x1 + x15)) < (x0.size : Int) then (if ((Int.tdiv (bt x0 (wrap64 (x1 + x15))) 64) % 256) = 2 then (manometerref05_more.l0 k x0 x1 x14 (wrap64 (x15 + 1))) else (some false)) else (none)) else (none)) else (some true)
def manometerref05_more.f (k : Nat) (a0 : ByteArray) (a1 : Int) (a2 : Int) : Option (Bool) := if a1 > (wrap64 ((a0.size : Int) - a2)) then (some false) else (manometerref05_more.l0 k a0 a1 a2 0)
end Go.Proofs.YtdhmabofncbohaaDoor.PLB
end
section
namespace Go.Proofs.YtdhmabofncbohaaDoor.PLB
open Go.RowKit Go.Proofs.YtdhmabofncbohaaDoorW.PrintWords Go.Proofs.YtdhmabofncbohaaDoorW.PrintLast Go.Proofs.YtdhmabofncbohaaDoorW.PrintMore
attribute [local go_sem] max2_int min2_int max_two min_two max_three min_three max_four min_four
set_option linter.unusedVariables false
set_option linter.unusedSimpArgs false
mutual
def manometerref05_step.j0 : Nat → ByteArray → Int → Int → Bool → Option (Int)
 | 0, _, _, _, _ => none
 | k + 1, x0, x1, x5, x14 => if x14 = true then (some 2) else (if x5 ≥ 224 then (if x5 < 240 then ((manometerref05_more.f k x0 (wrap64 (x1 + 1)) 2).bind fun t237 => (manometerref05_step.j1 k x0 x1 x5 t237)) else (manometerref05_step.j1 k x0 x1 x5 false)) else (manometerref05_step.j1 k x0 x1 x5 false))
def manometerref05_step.j1 : Nat → ByteArray → Int → Int → Bool → Option (Int)
 | 0, _, _, _, _ => none
 | k + 1, x0, x1, x5, x27 => if x27 = true then (if 0 ≤ (wrap64 (x1 + 1)) then (if (wrap64 (x1 + 1)) < (x0.size : Int) then (if 0 ≤ (wrap64 (x1 + 2)) then (if (wrap64 (x1 + 2)) < (x0.size : Int) then (if (wrap64 ((wrap64 ((wrap64 ((wrap64 (Int.tmod x5 16)) * 4096)) + (wrap64 ((wrap64 (Int.tmod (bt x0 (wrap64 (x1 + 1))) 64)) * 64)))) + (wrap64 (Int.tmod (bt x0 (wrap64 (x1 + 2))) 64)))) ≥ 2048 then (if (wrap64 ((wrap64 ((wrap64 ((wrap64 (Int.tmod x5 16)) * 4096)) + (wrap64 ((wrap64 (Int.tmod (bt x0 (wrap64 (x1 + 1))) 64)) * 64)))) + (wrap64 (Int.tmod (bt x0 (wrap64 (x1 + 2))) 64)))) < 55296 then (some 3) else (if (wrap64 ((wrap64 ((wrap64 ((wrap64 (Int.tmod x5 16)) * 4096)) + (wrap64 ((wrap64 (Int.tmod (bt x0 (wrap64 (x1 + 1))) 64)) * 64)))) + (wrap64 (Int.tmod (bt x0 (wrap64 (x1 + 2))) 64)))) > 57343 then (some 3) else (some 0))) else (some 0)) else (none)) else (none)) else (none)) else (none)) else (if x5 ≥ 240 then (if x5 < 245 then ((manometerref05_more.f k x0 (wrap64 (x1 + 1)) 3).bind fun t238 => (manometerref05_step.j2 k x0 x1 x5 t238)) else (manometerref05_step.j2 k x0 x1 x5 false)) else (manometerref05_step.j2 k x0 x1 x5 false))
def manometerref05_step.j2 : Nat → ByteArray → Int → Int → Bool → Option (Int)
 | 0, _, _, _, _ => none
 | k + 1, x0, x1, x5, x69 => if x69 = true then (if 0 ≤ (wrap64 (x1 + 1)) then (if (wrap64 (x1 + 1)) < (x0.size : Int) then (if 0 ≤ (wrap64 (x1 + 2)) then (if (wrap64 (x1 + 2)) < (x0.size : Int) then (if 0 ≤ (wrap64 (x1 + 3)) then (if (wrap64 (x1 + 3)) < (x0.size : Int) then (if (wrap64 ((wrap64 ((wrap64 ((wrap64 ((wrap64 (Int.tmod x5 8)) * 262144)) + (wrap64 ((wrap64 (Int.tmod (bt x0 (wrap64 (x1 + 1))) 64)) * 4096)))) + (wrap64 ((wrap64 (Int.tmod (bt x0 (wrap64 (x1 + 2))) 64)) * 64)))) + (wrap64 (Int.tmod (bt x0 (wrap64 (x1 + 3))) 64)))) ≥ 65536 then (if (wrap64 ((wrap64 ((wrap64 ((wrap64 ((wrap64 (Int.tmod x5 8)) * 262144)) + (wrap64 ((wrap64 (Int.tmod (bt x0 (wrap64 (x1 + 1))) 64)) * 4096)))) + (wrap64 ((wrap64 (Int.tmod (bt x0 (wrap64 (x1 + 2))) 64)) * 64)))) + (wrap64 (Int.tmod (bt x0 (wrap64 (x1 + 3))) 64)))) ≤ 1114111 then (some 4) else (some 0)) else (some 0)) else (none)) else (none)) else (none)) else (none)) else (none)) else (none)) else (some 0)
end
def manometerref05_step.f (k : Nat) (a0 : ByteArray) (a1 : Int) : Option (Int) := if 0 ≤ a1 then (if a1 < (a0.size : Int) then (if (bt a0 a1) < 128 then (some 1) else (if (bt a0 a1) ≥ 194 then (if (bt a0 a1) < 224 then ((manometerref05_more.f k a0 (wrap64 (a1 + 1)) 1).bind fun t236 => (manometerref05_step.j0 k a0 a1 (bt a0 a1) t236)) else (manometerref05_step.j0 k a0 a1 (bt a0 a1) false)) else (manometerref05_step.j0 k a0 a1 (bt a0 a1) false))) else (none)) else (none)
def manometerref05_Valid.l0 : Nat → ByteArray → Int → Option (Bool)
 | 0, _, _ => none
 | k + 1, x0, x3 => if x3 < (x0.size : Int) then ((manometerref05_step.f k x0 x3).bind fun t239 => (if t239 = 0 then (some false) else (manometerref05_Valid.l0 k x0 (wrap64 (x3 + t239))))) else (some true)
def manometerref05_Valid.f (k : Nat) (a0 : ByteArray) : Option (Bool) := manometerref05_Valid.l0 k a0 0
def manometerref05_Valued.f (k : Nat) (a0 : ByteArray) : Option (Bool) := if (a0.size : Int) ≤ 128 then ((manometerref05_Valid.f k a0).bind fun t240 => (some t240)) else (some false)
end Go.Proofs.YtdhmabofncbohaaDoor.PLB
end
