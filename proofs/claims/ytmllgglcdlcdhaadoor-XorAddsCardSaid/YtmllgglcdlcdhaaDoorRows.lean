/-
  NARROWER THAN 'FOR EVERY INPUT', by the rows' own cells (each row's printed sentence says how): XorPuts: laid · XorGets: laid · XorBack: laid · XorCut: laid · XorFew: laid · XorLoads: laid · XorAdds: laid · XorNone: laid.
  DERIVED. THE GIVEN ROWS OF THIS SEAT. 8 by the template 'for every input the law returns true; each argument reads behind the call as it read before'; 0 by the template 'total and deterministic' (their statements: YtmllgglcdlcdhaaDoorTotals.lean).
  GIVEN WITH THE SEED: the statements are not yours to turn. If you find one false, say at which input.
  Laid BY PROGRAM, IN A SANDBOX (cutbox-rows.mjs): the forced cells as the released guide's own fill.sh prints them over the translation 5ab9d35c7fcf2840… (all of the seat's roots in one cut). By AI agents, Wed Nov 11 2026. No macro, syntax, notation, axiom, sorry.
-/
import Derived.Test.YtmllgglcdlcdhaaDoorChecked
import GoSem.Claim
import GoSem.ClaimJoined
import GoSem.ClaimMapViews
import Derived.JoinedTies
import Derived.KernelRfl
namespace Go.Proofs.YtmllgglcdlcdhaaDoor
/- THE CELL 'sum', in the pinned program and in every row, IS THE sha256 OF THE DUMP (.gsa) THAT YtmllgglcdlcdhaaDoorProg.lean LOADS. Nothing in Lean hashes anything: it is a label: what it is worth is what the hold of that sum in a sandbox is worth. -/
noncomputable def Tryd.pinned : Pinned := { name := "ytmllgglcdlcdhaadoor", sum := "5ab9d35c7fcf28400897b5d21256335bac63849a529d1ab26826a956cb481726", checked := Tryd.checked }
namespace Rows
def none {H : Type} : Left H := { results := [], args := [] }

/- WHAT THE LISTED PACKAGE-LEVEL VARIABLES READ AS WHEN THE CALL BEGINS. Each datum BY PROGRAM (the guide's laid-datum.mjs) off the statement by which the dump's own 'gosem.cut.vars' lays the variable. In a bare row this is a premise. The card (YtmllgglcdlcdhaaDoorCards.lean) ties it to the program's text. -/
def laid_math_bits_deBruijn64tab {H : Type} : DataW H := .agg [.lit (.int .u8 0), .lit (.int .u8 1), .lit (.int .u8 56), .lit (.int .u8 2), .lit (.int .u8 57), .lit (.int .u8 49), .lit (.int .u8 28), .lit (.int .u8 3), .lit (.int .u8 61), .lit (.int .u8 58), .lit (.int .u8 42), .lit (.int .u8 50), .lit (.int .u8 38), .lit (.int .u8 29), .lit (.int .u8 17), .lit (.int .u8 4), .lit (.int .u8 62), .lit (.int .u8 47), .lit (.int .u8 59), .lit (.int .u8 36), .lit (.int .u8 45), .lit (.int .u8 43), .lit (.int .u8 51), .lit (.int .u8 22), .lit (.int .u8 53), .lit (.int .u8 39), .lit (.int .u8 33), .lit (.int .u8 30), .lit (.int .u8 24), .lit (.int .u8 18), .lit (.int .u8 12), .lit (.int .u8 5), .lit (.int .u8 63), .lit (.int .u8 55), .lit (.int .u8 48), .lit (.int .u8 27), .lit (.int .u8 60), .lit (.int .u8 41), .lit (.int .u8 37), .lit (.int .u8 16), .lit (.int .u8 46), .lit (.int .u8 35), .lit (.int .u8 44), .lit (.int .u8 21), .lit (.int .u8 52), .lit (.int .u8 32), .lit (.int .u8 23), .lit (.int .u8 11), .lit (.int .u8 54), .lit (.int .u8 26), .lit (.int .u8 40), .lit (.int .u8 15), .lit (.int .u8 34), .lit (.int .u8 20), .lit (.int .u8 31), .lit (.int .u8 10), .lit (.int .u8 25), .lit (.int .u8 14), .lit (.int .u8 19), .lit (.int .u8 9), .lit (.int .u8 13), .lit (.int .u8 8), .lit (.int .u8 7), .lit (.int .u8 6)]

/-- 'manometerlaw08.XorPuts': WHATEVER THE INPUT: true; the input reads as it did. -/
def xorPutsSpec : ChangeSpec := { name := "xorPuts", fn := fun _ => fun
  | [d] => { results := [.lit (.bool true)], args := [d] }
  | _ => none }
def xorPutsRow : OpenClaim := { program := "ytmllgglcdlcdhaadoor", sum := "5ab9d35c7fcf28400897b5d21256335bac63849a529d1ab26826a956cb481726", func := "manometer/manometerlaw08.XorPuts", spec := "xorPuts", unfollowed := true, recurses := true, named := ["math/bits.deBruijn64tab"], apart := false, laid := [("math/bits.deBruijn64tab", laid_math_bits_deBruijn64tab)] }
def XorPutsSaid : Prop := xorPutsRow.holds Tryd.pinned (OpenSpec.ofChange xorPutsSpec)

/-- ITS FALSE NEIGHBOUR: 'it returns false'. Refute it at one input. -/
def xorPutsWrong : ChangeSpec := { name := "xorPuts", fn := fun _ => fun
  | [d] => { results := [.lit (.bool false)], args := [d] }
  | _ => none }
def XorPutsWrongFalsely : Prop := xorPutsRow.holds Tryd.pinned (OpenSpec.ofChange xorPutsWrong)

/-- 'manometerlaw08.XorGets': WHATEVER THE INPUT: true; the input reads as it did. -/
def xorGetsSpec : ChangeSpec := { name := "xorGets", fn := fun _ => fun
  | [d] => { results := [.lit (.bool true)], args := [d] }
  | _ => none }
def xorGetsRow : OpenClaim := { program := "ytmllgglcdlcdhaadoor", sum := "5ab9d35c7fcf28400897b5d21256335bac63849a529d1ab26826a956cb481726", func := "manometer/manometerlaw08.XorGets", spec := "xorGets", unfollowed := true, recurses := true, named := ["math/bits.deBruijn64tab"], apart := false, laid := [("math/bits.deBruijn64tab", laid_math_bits_deBruijn64tab)] }
def XorGetsSaid : Prop := xorGetsRow.holds Tryd.pinned (OpenSpec.ofChange xorGetsSpec)

/-- ITS FALSE NEIGHBOUR: 'it returns false'. Refute it at one input. -/
def xorGetsWrong : ChangeSpec := { name := "xorGets", fn := fun _ => fun
  | [d] => { results := [.lit (.bool false)], args := [d] }
  | _ => none }
def XorGetsWrongFalsely : Prop := xorGetsRow.holds Tryd.pinned (OpenSpec.ofChange xorGetsWrong)

/-- 'manometerlaw08.XorBack': WHATEVER THE INPUT: true; the input reads as it did. -/
def xorBackSpec : ChangeSpec := { name := "xorBack", fn := fun _ => fun
  | [d1, d2] => { results := [.lit (.bool true)], args := [d1, d2] }
  | _ => none }
def xorBackRow : OpenClaim := { program := "ytmllgglcdlcdhaadoor", sum := "5ab9d35c7fcf28400897b5d21256335bac63849a529d1ab26826a956cb481726", func := "manometer/manometerlaw08.XorBack", spec := "xorBack", unfollowed := true, recurses := true, named := ["math/bits.deBruijn64tab"], apart := false, laid := [("math/bits.deBruijn64tab", laid_math_bits_deBruijn64tab)] }
def XorBackSaid : Prop := xorBackRow.holds Tryd.pinned (OpenSpec.ofChange xorBackSpec)

/-- ITS FALSE NEIGHBOUR: 'it returns false'. Refute it at one input. -/
def xorBackWrong : ChangeSpec := { name := "xorBack", fn := fun _ => fun
  | [d1, d2] => { results := [.lit (.bool false)], args := [d1, d2] }
  | _ => none }
def XorBackWrongFalsely : Prop := xorBackRow.holds Tryd.pinned (OpenSpec.ofChange xorBackWrong)

/-- 'manometerlaw08.XorCut': WHATEVER THE INPUT: true; the input reads as it did. -/
def xorCutSpec : ChangeSpec := { name := "xorCut", fn := fun _ => fun
  | [d1, d2, d3] => { results := [.lit (.bool true)], args := [d1, d2, d3] }
  | _ => none }
def xorCutRow : OpenClaim := { program := "ytmllgglcdlcdhaadoor", sum := "5ab9d35c7fcf28400897b5d21256335bac63849a529d1ab26826a956cb481726", func := "manometer/manometerlaw08.XorCut", spec := "xorCut", unfollowed := true, recurses := true, named := ["math/bits.deBruijn64tab"], apart := false, laid := [("math/bits.deBruijn64tab", laid_math_bits_deBruijn64tab)] }
def XorCutSaid : Prop := xorCutRow.holds Tryd.pinned (OpenSpec.ofChange xorCutSpec)

/-- ITS FALSE NEIGHBOUR: 'it returns false'. Refute it at one input. -/
def xorCutWrong : ChangeSpec := { name := "xorCut", fn := fun _ => fun
  | [d1, d2, d3] => { results := [.lit (.bool false)], args := [d1, d2, d3] }
  | _ => none }
def XorCutWrongFalsely : Prop := xorCutRow.holds Tryd.pinned (OpenSpec.ofChange xorCutWrong)

/-- 'manometerlaw08.XorFew': WHATEVER THE INPUT: true; the input reads as it did. -/
def xorFewSpec : ChangeSpec := { name := "xorFew", fn := fun _ => fun
  | [d1, d2, d3, d4] => { results := [.lit (.bool true)], args := [d1, d2, d3, d4] }
  | _ => none }
def xorFewRow : OpenClaim := { program := "ytmllgglcdlcdhaadoor", sum := "5ab9d35c7fcf28400897b5d21256335bac63849a529d1ab26826a956cb481726", func := "manometer/manometerlaw08.XorFew", spec := "xorFew", unfollowed := true, recurses := true, named := ["math/bits.deBruijn64tab"], apart := false, laid := [("math/bits.deBruijn64tab", laid_math_bits_deBruijn64tab)] }
def XorFewSaid : Prop := xorFewRow.holds Tryd.pinned (OpenSpec.ofChange xorFewSpec)

/-- ITS FALSE NEIGHBOUR: 'it returns false'. Refute it at one input. -/
def xorFewWrong : ChangeSpec := { name := "xorFew", fn := fun _ => fun
  | [d1, d2, d3, d4] => { results := [.lit (.bool false)], args := [d1, d2, d3, d4] }
  | _ => none }
def XorFewWrongFalsely : Prop := xorFewRow.holds Tryd.pinned (OpenSpec.ofChange xorFewWrong)

/-- 'manometerlaw08.XorLoads': WHATEVER THE INPUT: true; the input reads as it did. -/
def xorLoadsSpec : ChangeSpec := { name := "xorLoads", fn := fun _ => fun
  | [d1, d2] => { results := [.lit (.bool true)], args := [d1, d2] }
  | _ => none }
def xorLoadsRow : OpenClaim := { program := "ytmllgglcdlcdhaadoor", sum := "5ab9d35c7fcf28400897b5d21256335bac63849a529d1ab26826a956cb481726", func := "manometer/manometerlaw08.XorLoads", spec := "xorLoads", unfollowed := true, recurses := true, named := ["math/bits.deBruijn64tab"], apart := false, laid := [("math/bits.deBruijn64tab", laid_math_bits_deBruijn64tab)] }
def XorLoadsSaid : Prop := xorLoadsRow.holds Tryd.pinned (OpenSpec.ofChange xorLoadsSpec)

/-- ITS FALSE NEIGHBOUR: 'it returns false'. Refute it at one input. -/
def xorLoadsWrong : ChangeSpec := { name := "xorLoads", fn := fun _ => fun
  | [d1, d2] => { results := [.lit (.bool false)], args := [d1, d2] }
  | _ => none }
def XorLoadsWrongFalsely : Prop := xorLoadsRow.holds Tryd.pinned (OpenSpec.ofChange xorLoadsWrong)

/-- 'manometerlaw08.XorAdds': WHATEVER THE INPUT: true; the input reads as it did. -/
def xorAddsSpec : ChangeSpec := { name := "xorAdds", fn := fun _ => fun
  | [d1, d2] => { results := [.lit (.bool true)], args := [d1, d2] }
  | _ => none }
def xorAddsRow : OpenClaim := { program := "ytmllgglcdlcdhaadoor", sum := "5ab9d35c7fcf28400897b5d21256335bac63849a529d1ab26826a956cb481726", func := "manometer/manometerlaw08.XorAdds", spec := "xorAdds", unfollowed := true, recurses := true, named := ["math/bits.deBruijn64tab"], apart := false, laid := [("math/bits.deBruijn64tab", laid_math_bits_deBruijn64tab)] }
def XorAddsSaid : Prop := xorAddsRow.holds Tryd.pinned (OpenSpec.ofChange xorAddsSpec)

/-- ITS FALSE NEIGHBOUR: 'it returns false'. Refute it at one input. -/
def xorAddsWrong : ChangeSpec := { name := "xorAdds", fn := fun _ => fun
  | [d1, d2] => { results := [.lit (.bool false)], args := [d1, d2] }
  | _ => none }
def XorAddsWrongFalsely : Prop := xorAddsRow.holds Tryd.pinned (OpenSpec.ofChange xorAddsWrong)

/-- 'manometerlaw08.XorNone': WHATEVER THE INPUT: true; the input reads as it did. -/
def xorNoneSpec : ChangeSpec := { name := "xorNone", fn := fun _ => fun
  | [d1, d2] => { results := [.lit (.bool true)], args := [d1, d2] }
  | _ => none }
def xorNoneRow : OpenClaim := { program := "ytmllgglcdlcdhaadoor", sum := "5ab9d35c7fcf28400897b5d21256335bac63849a529d1ab26826a956cb481726", func := "manometer/manometerlaw08.XorNone", spec := "xorNone", unfollowed := true, recurses := true, named := ["math/bits.deBruijn64tab"], apart := false, laid := [("math/bits.deBruijn64tab", laid_math_bits_deBruijn64tab)] }
def XorNoneSaid : Prop := xorNoneRow.holds Tryd.pinned (OpenSpec.ofChange xorNoneSpec)

/-- ITS FALSE NEIGHBOUR: 'it returns false'. Refute it at one input. -/
def xorNoneWrong : ChangeSpec := { name := "xorNone", fn := fun _ => fun
  | [d1, d2] => { results := [.lit (.bool false)], args := [d1, d2] }
  | _ => none }
def XorNoneWrongFalsely : Prop := xorNoneRow.holds Tryd.pinned (OpenSpec.ofChange xorNoneWrong)

/- THE SECOND FORM. 'bulk': how many values and letters a reading holds, each counted each time it is reached (what is shared counts as often as it is met; a slice's spare places count too). A statement '..UptoSaid' is the law's where the arguments, and the package variables that the reading takes, are together of bulk at most 1048576: NARROWER than '..Said'. Prove '..Said' where nothing that the law and all that it calls make is longer than what came in: it says more and counts as full. Else prove '..UptoSaid'. A law counts once. -/
mutual
def uptoBulk {H : Type} : DataW H → Nat
  | .lit (.string bytes) => bytes.length + 1
  | .lit _ => 1
  | .nil => 1
  | .ptr d => uptoBulk d + 1
  | .slice elems spare => uptoBulkAll elems + uptoBulkAll spare + 1
  | .agg parts => uptoBulkAll parts + 1
  | .iface _ d => uptoBulk d + 1
  | .map entries => uptoBulkEntries entries + 1
  | .held _ => 1
def uptoBulkAll {H : Type} : List (DataW H) → Nat
  | [] => 0
  | d :: r => uptoBulk d + uptoBulkAll r
def uptoBulkEntries {H : Type} : List (Lit × DataW H) → Nat
  | [] => 0
  | x :: r => uptoBulkEntry x + uptoBulkEntries r
def uptoBulkEntry {H : Type} : Lit × DataW H → Nat
  | (.string bytes, d) => bytes.length + uptoBulk d + 1
  | (_, d) => uptoBulk d + 1
 end
def uptoSmall : (H : Type) → List (DataW H) → Bool := fun _ ds => decide (uptoBulkAll ds ≤ 1048576)
def OpenSpec.upto (s : _root_.Go.ChangeSpec) : _root_.Go.OpenSpec := { _root_.Go.OpenSpec.ofChange s with cond := some uptoSmall }

/-- 'manometerlaw08.XorPuts', WHERE WHAT IT READS IS OF BULK AT MOST 1048576: true; the input reads as it did. -/
def xorPutsUptoRow : OpenClaim := { program := "ytmllgglcdlcdhaadoor", sum := "5ab9d35c7fcf28400897b5d21256335bac63849a529d1ab26826a956cb481726", func := "manometer/manometerlaw08.XorPuts", spec := "xorPuts", unfollowed := true, recurses := true, named := ["math/bits.deBruijn64tab"], apart := false, laid := [("math/bits.deBruijn64tab", laid_math_bits_deBruijn64tab)], narrowed := true }
def XorPutsUptoSaid : Prop := xorPutsUptoRow.holds Tryd.pinned (OpenSpec.upto xorPutsSpec)

/-- 'manometerlaw08.XorGets', WHERE WHAT IT READS IS OF BULK AT MOST 1048576: true; the input reads as it did. -/
def xorGetsUptoRow : OpenClaim := { program := "ytmllgglcdlcdhaadoor", sum := "5ab9d35c7fcf28400897b5d21256335bac63849a529d1ab26826a956cb481726", func := "manometer/manometerlaw08.XorGets", spec := "xorGets", unfollowed := true, recurses := true, named := ["math/bits.deBruijn64tab"], apart := false, laid := [("math/bits.deBruijn64tab", laid_math_bits_deBruijn64tab)], narrowed := true }
def XorGetsUptoSaid : Prop := xorGetsUptoRow.holds Tryd.pinned (OpenSpec.upto xorGetsSpec)

/-- 'manometerlaw08.XorBack', WHERE WHAT IT READS IS OF BULK AT MOST 1048576: true; the input reads as it did. -/
def xorBackUptoRow : OpenClaim := { program := "ytmllgglcdlcdhaadoor", sum := "5ab9d35c7fcf28400897b5d21256335bac63849a529d1ab26826a956cb481726", func := "manometer/manometerlaw08.XorBack", spec := "xorBack", unfollowed := true, recurses := true, named := ["math/bits.deBruijn64tab"], apart := false, laid := [("math/bits.deBruijn64tab", laid_math_bits_deBruijn64tab)], narrowed := true }
def XorBackUptoSaid : Prop := xorBackUptoRow.holds Tryd.pinned (OpenSpec.upto xorBackSpec)

/-- 'manometerlaw08.XorCut', WHERE WHAT IT READS IS OF BULK AT MOST 1048576: true; the input reads as it did. -/
def xorCutUptoRow : OpenClaim := { program := "ytmllgglcdlcdhaadoor", sum := "5ab9d35c7fcf28400897b5d21256335bac63849a529d1ab26826a956cb481726", func := "manometer/manometerlaw08.XorCut", spec := "xorCut", unfollowed := true, recurses := true, named := ["math/bits.deBruijn64tab"], apart := false, laid := [("math/bits.deBruijn64tab", laid_math_bits_deBruijn64tab)], narrowed := true }
def XorCutUptoSaid : Prop := xorCutUptoRow.holds Tryd.pinned (OpenSpec.upto xorCutSpec)

/-- 'manometerlaw08.XorFew', WHERE WHAT IT READS IS OF BULK AT MOST 1048576: true; the input reads as it did. -/
def xorFewUptoRow : OpenClaim := { program := "ytmllgglcdlcdhaadoor", sum := "5ab9d35c7fcf28400897b5d21256335bac63849a529d1ab26826a956cb481726", func := "manometer/manometerlaw08.XorFew", spec := "xorFew", unfollowed := true, recurses := true, named := ["math/bits.deBruijn64tab"], apart := false, laid := [("math/bits.deBruijn64tab", laid_math_bits_deBruijn64tab)], narrowed := true }
def XorFewUptoSaid : Prop := xorFewUptoRow.holds Tryd.pinned (OpenSpec.upto xorFewSpec)

/-- 'manometerlaw08.XorLoads', WHERE WHAT IT READS IS OF BULK AT MOST 1048576: true; the input reads as it did. -/
def xorLoadsUptoRow : OpenClaim := { program := "ytmllgglcdlcdhaadoor", sum := "5ab9d35c7fcf28400897b5d21256335bac63849a529d1ab26826a956cb481726", func := "manometer/manometerlaw08.XorLoads", spec := "xorLoads", unfollowed := true, recurses := true, named := ["math/bits.deBruijn64tab"], apart := false, laid := [("math/bits.deBruijn64tab", laid_math_bits_deBruijn64tab)], narrowed := true }
def XorLoadsUptoSaid : Prop := xorLoadsUptoRow.holds Tryd.pinned (OpenSpec.upto xorLoadsSpec)

/-- 'manometerlaw08.XorAdds', WHERE WHAT IT READS IS OF BULK AT MOST 1048576: true; the input reads as it did. -/
def xorAddsUptoRow : OpenClaim := { program := "ytmllgglcdlcdhaadoor", sum := "5ab9d35c7fcf28400897b5d21256335bac63849a529d1ab26826a956cb481726", func := "manometer/manometerlaw08.XorAdds", spec := "xorAdds", unfollowed := true, recurses := true, named := ["math/bits.deBruijn64tab"], apart := false, laid := [("math/bits.deBruijn64tab", laid_math_bits_deBruijn64tab)], narrowed := true }
def XorAddsUptoSaid : Prop := xorAddsUptoRow.holds Tryd.pinned (OpenSpec.upto xorAddsSpec)

/-- 'manometerlaw08.XorNone', WHERE WHAT IT READS IS OF BULK AT MOST 1048576: true; the input reads as it did. -/
def xorNoneUptoRow : OpenClaim := { program := "ytmllgglcdlcdhaadoor", sum := "5ab9d35c7fcf28400897b5d21256335bac63849a529d1ab26826a956cb481726", func := "manometer/manometerlaw08.XorNone", spec := "xorNone", unfollowed := true, recurses := true, named := ["math/bits.deBruijn64tab"], apart := false, laid := [("math/bits.deBruijn64tab", laid_math_bits_deBruijn64tab)], narrowed := true }
def XorNoneUptoSaid : Prop := xorNoneUptoRow.holds Tryd.pinned (OpenSpec.upto xorNoneSpec)

end Rows
end Go.Proofs.YtmllgglcdlcdhaaDoor
