/-
  NARROWER THAN 'FOR EVERY INPUT', by the rows' own cells (each row's printed sentence says how): LabelsWords: laid · LabelsQuotes: laid · LabelsTexts: laid · LabelsOrder: laid · LabelsThree: laid · LabelsMakes: laid · LabelsTold: laid · LabelsParts: laid · LabelsSplit: laid · LabelsHashes: laid · LabelsBytes: laid · LabelsBack: laid.
  DERIVED. THE GIVEN ROWS OF THIS SEAT. 12 by the template 'for every input the law returns true; each argument reads behind the call as it read before'; 0 by the template 'total and deterministic' (their statements: YtdhmabofncbohaaDoorTotals.lean).
  GIVEN WITH THE SEED: the statements are not yours to turn. If you find one false, say at which input.
  Laid BY PROGRAM, IN A SANDBOX (cutbox-rows.mjs): the forced cells as the released guide's own fill.sh prints them over the translation cb7938a763b918ef… (all of the seat's roots in one cut). By AI agents, Wed Nov 11 2026. No macro, syntax, notation, axiom, sorry.
-/
import Derived.Test.YtdhmabofncbohaaDoorChecked
import GoSem.PinnedTables
import GoSem.Claim
import GoSem.ClaimJoined
import GoSem.ClaimMapViews
import Derived.JoinedTies
import Derived.KernelRfl
namespace Go.Proofs.YtdhmabofncbohaaDoor
/- THE CELL 'sum', in the pinned program and in every row, IS THE sha256 OF THE DUMP (.gsa) THAT YtdhmabofncbohaaDoorProg.lean LOADS. Nothing in Lean hashes anything: it is a label: what it is worth is what the hold of that sum in a sandbox is worth. -/
noncomputable def Tryd.pinned : Pinned := { name := "ytdhmabofncbohaadoor", sum := "cb7938a763b918ef69bd83146c58d6e5b39b85d35e2cf46b644d3b3250812c5f", checked := Tryd.checked }
namespace Rows
def none {H : Type} : Left H := { results := [], args := [] }

/- WHAT THE LISTED PACKAGE-LEVEL VARIABLES READ AS WHEN THE CALL BEGINS. Each datum BY PROGRAM (the guide's laid-datum.mjs) off the statement by which the dump's own 'gosem.cut.vars' lays the variable. In a bare row this is a premise. The card (YtdhmabofncbohaaDoorCards.lean) ties it to the program's text. -/
def laid_unicode_utf8_acceptRanges {H : Type} : DataW H := .agg [.agg [.lit (.int .u8 128), .lit (.int .u8 191)], .agg [.lit (.int .u8 160), .lit (.int .u8 191)], .agg [.lit (.int .u8 128), .lit (.int .u8 159)], .agg [.lit (.int .u8 144), .lit (.int .u8 191)], .agg [.lit (.int .u8 128), .lit (.int .u8 143)], .agg [.lit (.int .u8 0), .lit (.int .u8 0)], .agg [.lit (.int .u8 0), .lit (.int .u8 0)], .agg [.lit (.int .u8 0), .lit (.int .u8 0)], .agg [.lit (.int .u8 0), .lit (.int .u8 0)], .agg [.lit (.int .u8 0), .lit (.int .u8 0)], .agg [.lit (.int .u8 0), .lit (.int .u8 0)], .agg [.lit (.int .u8 0), .lit (.int .u8 0)], .agg [.lit (.int .u8 0), .lit (.int .u8 0)], .agg [.lit (.int .u8 0), .lit (.int .u8 0)], .agg [.lit (.int .u8 0), .lit (.int .u8 0)], .agg [.lit (.int .u8 0), .lit (.int .u8 0)]]
/-- One of Go's own tables, pinned by name: the form's constant. -/
def laid_unicode_utf8_first : DataW Unit := Go.Pinned.utf8First

/-- 'manometerlaw05.LabelsWords': WHATEVER THE INPUT: true; the input reads as it did. -/
def labelsWordsSpec : ChangeSpec := { name := "labelsWords", fn := fun _ => fun
  | [d] => { results := [.lit (.bool true)], args := [d] }
  | _ => none }
def labelsWordsRow : OpenClaim := { program := "ytdhmabofncbohaadoor", sum := "cb7938a763b918ef69bd83146c58d6e5b39b85d35e2cf46b644d3b3250812c5f", func := "manometer/manometerlaw05.LabelsWords", spec := "labelsWords", named := ["unicode/utf8.first", "unicode/utf8.acceptRanges"], apart := false, laid := [("unicode/utf8.acceptRanges", laid_unicode_utf8_acceptRanges), ("unicode/utf8.first", laid_unicode_utf8_first)] }
def LabelsWordsSaid : Prop := labelsWordsRow.holds Tryd.pinned (OpenSpec.ofChange labelsWordsSpec)

/-- ITS FALSE NEIGHBOUR: 'it returns false'. Refute it at one input. -/
def labelsWordsWrong : ChangeSpec := { name := "labelsWords", fn := fun _ => fun
  | [d] => { results := [.lit (.bool false)], args := [d] }
  | _ => none }
def LabelsWordsWrongFalsely : Prop := labelsWordsRow.holds Tryd.pinned (OpenSpec.ofChange labelsWordsWrong)

/-- 'manometerlaw05.LabelsQuotes': WHATEVER THE INPUT: true; the input reads as it did. -/
def labelsQuotesSpec : ChangeSpec := { name := "labelsQuotes", fn := fun _ => fun
  | [d] => { results := [.lit (.bool true)], args := [d] }
  | _ => none }
def labelsQuotesRow : OpenClaim := { program := "ytdhmabofncbohaadoor", sum := "cb7938a763b918ef69bd83146c58d6e5b39b85d35e2cf46b644d3b3250812c5f", func := "manometer/manometerlaw05.LabelsQuotes", spec := "labelsQuotes", named := ["unicode/utf8.first", "unicode/utf8.acceptRanges"], apart := false, laid := [("unicode/utf8.acceptRanges", laid_unicode_utf8_acceptRanges), ("unicode/utf8.first", laid_unicode_utf8_first)] }
def LabelsQuotesSaid : Prop := labelsQuotesRow.holds Tryd.pinned (OpenSpec.ofChange labelsQuotesSpec)

/-- ITS FALSE NEIGHBOUR: 'it returns false'. Refute it at one input. -/
def labelsQuotesWrong : ChangeSpec := { name := "labelsQuotes", fn := fun _ => fun
  | [d] => { results := [.lit (.bool false)], args := [d] }
  | _ => none }
def LabelsQuotesWrongFalsely : Prop := labelsQuotesRow.holds Tryd.pinned (OpenSpec.ofChange labelsQuotesWrong)

/-- 'manometerlaw05.LabelsTexts': WHATEVER THE INPUT: true; the input reads as it did. -/
def labelsTextsSpec : ChangeSpec := { name := "labelsTexts", fn := fun _ => fun
  | [d1, d2] => { results := [.lit (.bool true)], args := [d1, d2] }
  | _ => none }
def labelsTextsRow : OpenClaim := { program := "ytdhmabofncbohaadoor", sum := "cb7938a763b918ef69bd83146c58d6e5b39b85d35e2cf46b644d3b3250812c5f", func := "manometer/manometerlaw05.LabelsTexts", spec := "labelsTexts", named := ["unicode/utf8.first", "unicode/utf8.acceptRanges"], apart := false, laid := [("unicode/utf8.acceptRanges", laid_unicode_utf8_acceptRanges), ("unicode/utf8.first", laid_unicode_utf8_first)] }
def LabelsTextsSaid : Prop := labelsTextsRow.holds Tryd.pinned (OpenSpec.ofChange labelsTextsSpec)

/-- ITS FALSE NEIGHBOUR: 'it returns false'. Refute it at one input. -/
def labelsTextsWrong : ChangeSpec := { name := "labelsTexts", fn := fun _ => fun
  | [d1, d2] => { results := [.lit (.bool false)], args := [d1, d2] }
  | _ => none }
def LabelsTextsWrongFalsely : Prop := labelsTextsRow.holds Tryd.pinned (OpenSpec.ofChange labelsTextsWrong)

/-- 'manometerlaw05.LabelsOrder': WHATEVER THE INPUT: true; the input reads as it did. -/
def labelsOrderSpec : ChangeSpec := { name := "labelsOrder", fn := fun _ => fun
  | [d1, d2] => { results := [.lit (.bool true)], args := [d1, d2] }
  | _ => none }
def labelsOrderRow : OpenClaim := { program := "ytdhmabofncbohaadoor", sum := "cb7938a763b918ef69bd83146c58d6e5b39b85d35e2cf46b644d3b3250812c5f", func := "manometer/manometerlaw05.LabelsOrder", spec := "labelsOrder", named := ["unicode/utf8.first", "unicode/utf8.acceptRanges"], apart := false, laid := [("unicode/utf8.acceptRanges", laid_unicode_utf8_acceptRanges), ("unicode/utf8.first", laid_unicode_utf8_first)] }
def LabelsOrderSaid : Prop := labelsOrderRow.holds Tryd.pinned (OpenSpec.ofChange labelsOrderSpec)

/-- ITS FALSE NEIGHBOUR: 'it returns false'. Refute it at one input. -/
def labelsOrderWrong : ChangeSpec := { name := "labelsOrder", fn := fun _ => fun
  | [d1, d2] => { results := [.lit (.bool false)], args := [d1, d2] }
  | _ => none }
def LabelsOrderWrongFalsely : Prop := labelsOrderRow.holds Tryd.pinned (OpenSpec.ofChange labelsOrderWrong)

/-- 'manometerlaw05.LabelsThree': WHATEVER THE INPUT: true; the input reads as it did. -/
def labelsThreeSpec : ChangeSpec := { name := "labelsThree", fn := fun _ => fun
  | [d1, d2, d3] => { results := [.lit (.bool true)], args := [d1, d2, d3] }
  | _ => none }
def labelsThreeRow : OpenClaim := { program := "ytdhmabofncbohaadoor", sum := "cb7938a763b918ef69bd83146c58d6e5b39b85d35e2cf46b644d3b3250812c5f", func := "manometer/manometerlaw05.LabelsThree", spec := "labelsThree", named := ["unicode/utf8.first", "unicode/utf8.acceptRanges"], apart := false, laid := [("unicode/utf8.acceptRanges", laid_unicode_utf8_acceptRanges), ("unicode/utf8.first", laid_unicode_utf8_first)] }
def LabelsThreeSaid : Prop := labelsThreeRow.holds Tryd.pinned (OpenSpec.ofChange labelsThreeSpec)

/-- ITS FALSE NEIGHBOUR: 'it returns false'. Refute it at one input. -/
def labelsThreeWrong : ChangeSpec := { name := "labelsThree", fn := fun _ => fun
  | [d1, d2, d3] => { results := [.lit (.bool false)], args := [d1, d2, d3] }
  | _ => none }
def LabelsThreeWrongFalsely : Prop := labelsThreeRow.holds Tryd.pinned (OpenSpec.ofChange labelsThreeWrong)

/-- 'manometerlaw05.LabelsMakes': WHATEVER THE INPUT: true; the input reads as it did. -/
def labelsMakesSpec : ChangeSpec := { name := "labelsMakes", fn := fun _ => fun
  | [d] => { results := [.lit (.bool true)], args := [d] }
  | _ => none }
def labelsMakesRow : OpenClaim := { program := "ytdhmabofncbohaadoor", sum := "cb7938a763b918ef69bd83146c58d6e5b39b85d35e2cf46b644d3b3250812c5f", func := "manometer/manometerlaw05.LabelsMakes", spec := "labelsMakes", named := ["unicode/utf8.first", "unicode/utf8.acceptRanges"], apart := false, laid := [("unicode/utf8.acceptRanges", laid_unicode_utf8_acceptRanges), ("unicode/utf8.first", laid_unicode_utf8_first)] }
def LabelsMakesSaid : Prop := labelsMakesRow.holds Tryd.pinned (OpenSpec.ofChange labelsMakesSpec)

/-- ITS FALSE NEIGHBOUR: 'it returns false'. Refute it at one input. -/
def labelsMakesWrong : ChangeSpec := { name := "labelsMakes", fn := fun _ => fun
  | [d] => { results := [.lit (.bool false)], args := [d] }
  | _ => none }
def LabelsMakesWrongFalsely : Prop := labelsMakesRow.holds Tryd.pinned (OpenSpec.ofChange labelsMakesWrong)

/-- 'manometerlaw05.LabelsTold': WHATEVER THE INPUT: true; the input reads as it did. -/
def labelsToldSpec : ChangeSpec := { name := "labelsTold", fn := fun _ => fun
  | [d1, d2, d3] => { results := [.lit (.bool true)], args := [d1, d2, d3] }
  | _ => none }
def labelsToldRow : OpenClaim := { program := "ytdhmabofncbohaadoor", sum := "cb7938a763b918ef69bd83146c58d6e5b39b85d35e2cf46b644d3b3250812c5f", func := "manometer/manometerlaw05.LabelsTold", spec := "labelsTold", named := ["unicode/utf8.first", "unicode/utf8.acceptRanges"], apart := false, laid := [("unicode/utf8.acceptRanges", laid_unicode_utf8_acceptRanges), ("unicode/utf8.first", laid_unicode_utf8_first)] }
def LabelsToldSaid : Prop := labelsToldRow.holds Tryd.pinned (OpenSpec.ofChange labelsToldSpec)

/-- ITS FALSE NEIGHBOUR: 'it returns false'. Refute it at one input. -/
def labelsToldWrong : ChangeSpec := { name := "labelsTold", fn := fun _ => fun
  | [d1, d2, d3] => { results := [.lit (.bool false)], args := [d1, d2, d3] }
  | _ => none }
def LabelsToldWrongFalsely : Prop := labelsToldRow.holds Tryd.pinned (OpenSpec.ofChange labelsToldWrong)

/-- 'manometerlaw05.LabelsParts': WHATEVER THE INPUT: true; the input reads as it did. -/
def labelsPartsSpec : ChangeSpec := { name := "labelsParts", fn := fun _ => fun
  | [d1, d2, d3] => { results := [.lit (.bool true)], args := [d1, d2, d3] }
  | _ => none }
def labelsPartsRow : OpenClaim := { program := "ytdhmabofncbohaadoor", sum := "cb7938a763b918ef69bd83146c58d6e5b39b85d35e2cf46b644d3b3250812c5f", func := "manometer/manometerlaw05.LabelsParts", spec := "labelsParts", named := ["unicode/utf8.first", "unicode/utf8.acceptRanges"], apart := false, laid := [("unicode/utf8.acceptRanges", laid_unicode_utf8_acceptRanges), ("unicode/utf8.first", laid_unicode_utf8_first)] }
def LabelsPartsSaid : Prop := labelsPartsRow.holds Tryd.pinned (OpenSpec.ofChange labelsPartsSpec)

/-- ITS FALSE NEIGHBOUR: 'it returns false'. Refute it at one input. -/
def labelsPartsWrong : ChangeSpec := { name := "labelsParts", fn := fun _ => fun
  | [d1, d2, d3] => { results := [.lit (.bool false)], args := [d1, d2, d3] }
  | _ => none }
def LabelsPartsWrongFalsely : Prop := labelsPartsRow.holds Tryd.pinned (OpenSpec.ofChange labelsPartsWrong)

/-- 'manometerlaw05.LabelsSplit': WHATEVER THE INPUT: true; the input reads as it did. -/
def labelsSplitSpec : ChangeSpec := { name := "labelsSplit", fn := fun _ => fun
  | [d1, d2, d3] => { results := [.lit (.bool true)], args := [d1, d2, d3] }
  | _ => none }
def labelsSplitRow : OpenClaim := { program := "ytdhmabofncbohaadoor", sum := "cb7938a763b918ef69bd83146c58d6e5b39b85d35e2cf46b644d3b3250812c5f", func := "manometer/manometerlaw05.LabelsSplit", spec := "labelsSplit", named := ["unicode/utf8.first", "unicode/utf8.acceptRanges"], apart := false, laid := [("unicode/utf8.acceptRanges", laid_unicode_utf8_acceptRanges), ("unicode/utf8.first", laid_unicode_utf8_first)] }
def LabelsSplitSaid : Prop := labelsSplitRow.holds Tryd.pinned (OpenSpec.ofChange labelsSplitSpec)

/-- ITS FALSE NEIGHBOUR: 'it returns false'. Refute it at one input. -/
def labelsSplitWrong : ChangeSpec := { name := "labelsSplit", fn := fun _ => fun
  | [d1, d2, d3] => { results := [.lit (.bool false)], args := [d1, d2, d3] }
  | _ => none }
def LabelsSplitWrongFalsely : Prop := labelsSplitRow.holds Tryd.pinned (OpenSpec.ofChange labelsSplitWrong)

/-- 'manometerlaw05.LabelsHashes': WHATEVER THE INPUT: true; the input reads as it did. -/
def labelsHashesSpec : ChangeSpec := { name := "labelsHashes", fn := fun _ => fun
  | [d] => { results := [.lit (.bool true)], args := [d] }
  | _ => none }
def labelsHashesRow : OpenClaim := { program := "ytdhmabofncbohaadoor", sum := "cb7938a763b918ef69bd83146c58d6e5b39b85d35e2cf46b644d3b3250812c5f", func := "manometer/manometerlaw05.LabelsHashes", spec := "labelsHashes", named := ["unicode/utf8.first", "unicode/utf8.acceptRanges"], apart := false, laid := [("unicode/utf8.acceptRanges", laid_unicode_utf8_acceptRanges), ("unicode/utf8.first", laid_unicode_utf8_first)] }
def LabelsHashesSaid : Prop := labelsHashesRow.holds Tryd.pinned (OpenSpec.ofChange labelsHashesSpec)

/-- ITS FALSE NEIGHBOUR: 'it returns false'. Refute it at one input. -/
def labelsHashesWrong : ChangeSpec := { name := "labelsHashes", fn := fun _ => fun
  | [d] => { results := [.lit (.bool false)], args := [d] }
  | _ => none }
def LabelsHashesWrongFalsely : Prop := labelsHashesRow.holds Tryd.pinned (OpenSpec.ofChange labelsHashesWrong)

/-- 'manometerlaw05.LabelsBytes': WHATEVER THE INPUT: true; the input reads as it did. -/
def labelsBytesSpec : ChangeSpec := { name := "labelsBytes", fn := fun _ => fun
  | [d1, d2] => { results := [.lit (.bool true)], args := [d1, d2] }
  | _ => none }
def labelsBytesRow : OpenClaim := { program := "ytdhmabofncbohaadoor", sum := "cb7938a763b918ef69bd83146c58d6e5b39b85d35e2cf46b644d3b3250812c5f", func := "manometer/manometerlaw05.LabelsBytes", spec := "labelsBytes", named := ["unicode/utf8.first", "unicode/utf8.acceptRanges"], apart := false, laid := [("unicode/utf8.acceptRanges", laid_unicode_utf8_acceptRanges), ("unicode/utf8.first", laid_unicode_utf8_first)] }
def LabelsBytesSaid : Prop := labelsBytesRow.holds Tryd.pinned (OpenSpec.ofChange labelsBytesSpec)

/-- ITS FALSE NEIGHBOUR: 'it returns false'. Refute it at one input. -/
def labelsBytesWrong : ChangeSpec := { name := "labelsBytes", fn := fun _ => fun
  | [d1, d2] => { results := [.lit (.bool false)], args := [d1, d2] }
  | _ => none }
def LabelsBytesWrongFalsely : Prop := labelsBytesRow.holds Tryd.pinned (OpenSpec.ofChange labelsBytesWrong)

/-- 'manometerlaw05.LabelsBack': WHATEVER THE INPUT: true; the input reads as it did. -/
def labelsBackSpec : ChangeSpec := { name := "labelsBack", fn := fun _ => fun
  | [d1, d2, d3] => { results := [.lit (.bool true)], args := [d1, d2, d3] }
  | _ => none }
def labelsBackRow : OpenClaim := { program := "ytdhmabofncbohaadoor", sum := "cb7938a763b918ef69bd83146c58d6e5b39b85d35e2cf46b644d3b3250812c5f", func := "manometer/manometerlaw05.LabelsBack", spec := "labelsBack", named := ["unicode/utf8.first", "unicode/utf8.acceptRanges"], apart := false, laid := [("unicode/utf8.acceptRanges", laid_unicode_utf8_acceptRanges), ("unicode/utf8.first", laid_unicode_utf8_first)] }
def LabelsBackSaid : Prop := labelsBackRow.holds Tryd.pinned (OpenSpec.ofChange labelsBackSpec)

/-- ITS FALSE NEIGHBOUR: 'it returns false'. Refute it at one input. -/
def labelsBackWrong : ChangeSpec := { name := "labelsBack", fn := fun _ => fun
  | [d1, d2, d3] => { results := [.lit (.bool false)], args := [d1, d2, d3] }
  | _ => none }
def LabelsBackWrongFalsely : Prop := labelsBackRow.holds Tryd.pinned (OpenSpec.ofChange labelsBackWrong)

/- THE SECOND FORM. 'bulk': how many values and letters a reading holds, each counted each time it is reached (what is shared counts as often as it is met; a slice's spare places count too). A statement '..UptoSaid' is the law's where the arguments, and the package variables that the reading takes, are together of bulk at most 1048576: NARROWER than '..Said'. Prove '..Said' where nothing that the law and all that it calls make is longer than what came in: it says more and counts as full. Else prove '..UptoSaid'. A law counts once. -/
mutual
def uptoBulk {H : Type} : DataW H → Nat
  | .lit (.string bytes) => bytes.length + 1
  | .lit _ => 1
  | .nil => 1
  | .ptr d => uptoBulk d + 1
  | .slice elems spare => uptoBulkAll elems + uptoBulkAll spare + 1
  | .agg parts => uptoBulkAll parts + 1
  | .iface _ d => uptoBulk d + 1
  | .map entries => uptoBulkEntries entries + 1
  | .held _ => 1
def uptoBulkAll {H : Type} : List (DataW H) → Nat
  | [] => 0
  | d :: r => uptoBulk d + uptoBulkAll r
def uptoBulkEntries {H : Type} : List (Lit × DataW H) → Nat
  | [] => 0
  | x :: r => uptoBulkEntry x + uptoBulkEntries r
def uptoBulkEntry {H : Type} : Lit × DataW H → Nat
  | (.string bytes, d) => bytes.length + uptoBulk d + 1
  | (_, d) => uptoBulk d + 1
 end
def uptoSmall : (H : Type) → List (DataW H) → Bool := fun _ ds => decide (uptoBulkAll ds ≤ 1048576)
def OpenSpec.upto (s : _root_.Go.ChangeSpec) : _root_.Go.OpenSpec := { _root_.Go.OpenSpec.ofChange s with cond := some uptoSmall }

/-- 'manometerlaw05.LabelsWords', WHERE WHAT IT READS IS OF BULK AT MOST 1048576: true; the input reads as it did. -/
def labelsWordsUptoRow : OpenClaim := { program := "ytdhmabofncbohaadoor", sum := "cb7938a763b918ef69bd83146c58d6e5b39b85d35e2cf46b644d3b3250812c5f", func := "manometer/manometerlaw05.LabelsWords", spec := "labelsWords", named := ["unicode/utf8.first", "unicode/utf8.acceptRanges"], apart := false, laid := [("unicode/utf8.acceptRanges", laid_unicode_utf8_acceptRanges), ("unicode/utf8.first", laid_unicode_utf8_first)], narrowed := true }
def LabelsWordsUptoSaid : Prop := labelsWordsUptoRow.holds Tryd.pinned (OpenSpec.upto labelsWordsSpec)

/-- 'manometerlaw05.LabelsQuotes', WHERE WHAT IT READS IS OF BULK AT MOST 1048576: true; the input reads as it did. -/
def labelsQuotesUptoRow : OpenClaim := { program := "ytdhmabofncbohaadoor", sum := "cb7938a763b918ef69bd83146c58d6e5b39b85d35e2cf46b644d3b3250812c5f", func := "manometer/manometerlaw05.LabelsQuotes", spec := "labelsQuotes", named := ["unicode/utf8.first", "unicode/utf8.acceptRanges"], apart := false, laid := [("unicode/utf8.acceptRanges", laid_unicode_utf8_acceptRanges), ("unicode/utf8.first", laid_unicode_utf8_first)], narrowed := true }
def LabelsQuotesUptoSaid : Prop := labelsQuotesUptoRow.holds Tryd.pinned (OpenSpec.upto labelsQuotesSpec)

/-- 'manometerlaw05.LabelsTexts', WHERE WHAT IT READS IS OF BULK AT MOST 1048576: true; the input reads as it did. -/
def labelsTextsUptoRow : OpenClaim := { program := "ytdhmabofncbohaadoor", sum := "cb7938a763b918ef69bd83146c58d6e5b39b85d35e2cf46b644d3b3250812c5f", func := "manometer/manometerlaw05.LabelsTexts", spec := "labelsTexts", named := ["unicode/utf8.first", "unicode/utf8.acceptRanges"], apart := false, laid := [("unicode/utf8.acceptRanges", laid_unicode_utf8_acceptRanges), ("unicode/utf8.first", laid_unicode_utf8_first)], narrowed := true }
def LabelsTextsUptoSaid : Prop := labelsTextsUptoRow.holds Tryd.pinned (OpenSpec.upto labelsTextsSpec)

/-- 'manometerlaw05.LabelsOrder', WHERE WHAT IT READS IS OF BULK AT MOST 1048576: true; the input reads as it did. -/
def labelsOrderUptoRow : OpenClaim := { program := "ytdhmabofncbohaadoor", sum := "cb7938a763b918ef69bd83146c58d6e5b39b85d35e2cf46b644d3b3250812c5f", func := "manometer/manometerlaw05.LabelsOrder", spec := "labelsOrder", named := ["unicode/utf8.first", "unicode/utf8.acceptRanges"], apart := false, laid := [("unicode/utf8.acceptRanges", laid_unicode_utf8_acceptRanges), ("unicode/utf8.first", laid_unicode_utf8_first)], narrowed := true }
def LabelsOrderUptoSaid : Prop := labelsOrderUptoRow.holds Tryd.pinned (OpenSpec.upto labelsOrderSpec)

/-- 'manometerlaw05.LabelsThree', WHERE WHAT IT READS IS OF BULK AT MOST 1048576: true; the input reads as it did. -/
def labelsThreeUptoRow : OpenClaim := { program := "ytdhmabofncbohaadoor", sum := "cb7938a763b918ef69bd83146c58d6e5b39b85d35e2cf46b644d3b3250812c5f", func := "manometer/manometerlaw05.LabelsThree", spec := "labelsThree", named := ["unicode/utf8.first", "unicode/utf8.acceptRanges"], apart := false, laid := [("unicode/utf8.acceptRanges", laid_unicode_utf8_acceptRanges), ("unicode/utf8.first", laid_unicode_utf8_first)], narrowed := true }
def LabelsThreeUptoSaid : Prop := labelsThreeUptoRow.holds Tryd.pinned (OpenSpec.upto labelsThreeSpec)

/-- 'manometerlaw05.LabelsMakes', WHERE WHAT IT READS IS OF BULK AT MOST 1048576: true; the input reads as it did. -/
def labelsMakesUptoRow : OpenClaim := { program := "ytdhmabofncbohaadoor", sum := "cb7938a763b918ef69bd83146c58d6e5b39b85d35e2cf46b644d3b3250812c5f", func := "manometer/manometerlaw05.LabelsMakes", spec := "labelsMakes", named := ["unicode/utf8.first", "unicode/utf8.acceptRanges"], apart := false, laid := [("unicode/utf8.acceptRanges", laid_unicode_utf8_acceptRanges), ("unicode/utf8.first", laid_unicode_utf8_first)], narrowed := true }
def LabelsMakesUptoSaid : Prop := labelsMakesUptoRow.holds Tryd.pinned (OpenSpec.upto labelsMakesSpec)

/-- 'manometerlaw05.LabelsTold', WHERE WHAT IT READS IS OF BULK AT MOST 1048576: true; the input reads as it did. -/
def labelsToldUptoRow : OpenClaim := { program := "ytdhmabofncbohaadoor", sum := "cb7938a763b918ef69bd83146c58d6e5b39b85d35e2cf46b644d3b3250812c5f", func := "manometer/manometerlaw05.LabelsTold", spec := "labelsTold", named := ["unicode/utf8.first", "unicode/utf8.acceptRanges"], apart := false, laid := [("unicode/utf8.acceptRanges", laid_unicode_utf8_acceptRanges), ("unicode/utf8.first", laid_unicode_utf8_first)], narrowed := true }
def LabelsToldUptoSaid : Prop := labelsToldUptoRow.holds Tryd.pinned (OpenSpec.upto labelsToldSpec)

/-- 'manometerlaw05.LabelsParts', WHERE WHAT IT READS IS OF BULK AT MOST 1048576: true; the input reads as it did. -/
def labelsPartsUptoRow : OpenClaim := { program := "ytdhmabofncbohaadoor", sum := "cb7938a763b918ef69bd83146c58d6e5b39b85d35e2cf46b644d3b3250812c5f", func := "manometer/manometerlaw05.LabelsParts", spec := "labelsParts", named := ["unicode/utf8.first", "unicode/utf8.acceptRanges"], apart := false, laid := [("unicode/utf8.acceptRanges", laid_unicode_utf8_acceptRanges), ("unicode/utf8.first", laid_unicode_utf8_first)], narrowed := true }
def LabelsPartsUptoSaid : Prop := labelsPartsUptoRow.holds Tryd.pinned (OpenSpec.upto labelsPartsSpec)

/-- 'manometerlaw05.LabelsSplit', WHERE WHAT IT READS IS OF BULK AT MOST 1048576: true; the input reads as it did. -/
def labelsSplitUptoRow : OpenClaim := { program := "ytdhmabofncbohaadoor", sum := "cb7938a763b918ef69bd83146c58d6e5b39b85d35e2cf46b644d3b3250812c5f", func := "manometer/manometerlaw05.LabelsSplit", spec := "labelsSplit", named := ["unicode/utf8.first", "unicode/utf8.acceptRanges"], apart := false, laid := [("unicode/utf8.acceptRanges", laid_unicode_utf8_acceptRanges), ("unicode/utf8.first", laid_unicode_utf8_first)], narrowed := true }
def LabelsSplitUptoSaid : Prop := labelsSplitUptoRow.holds Tryd.pinned (OpenSpec.upto labelsSplitSpec)

/-- 'manometerlaw05.LabelsHashes', WHERE WHAT IT READS IS OF BULK AT MOST 1048576: true; the input reads as it did. -/
def labelsHashesUptoRow : OpenClaim := { program := "ytdhmabofncbohaadoor", sum := "cb7938a763b918ef69bd83146c58d6e5b39b85d35e2cf46b644d3b3250812c5f", func := "manometer/manometerlaw05.LabelsHashes", spec := "labelsHashes", named := ["unicode/utf8.first", "unicode/utf8.acceptRanges"], apart := false, laid := [("unicode/utf8.acceptRanges", laid_unicode_utf8_acceptRanges), ("unicode/utf8.first", laid_unicode_utf8_first)], narrowed := true }
def LabelsHashesUptoSaid : Prop := labelsHashesUptoRow.holds Tryd.pinned (OpenSpec.upto labelsHashesSpec)

/-- 'manometerlaw05.LabelsBytes', WHERE WHAT IT READS IS OF BULK AT MOST 1048576: true; the input reads as it did. -/
def labelsBytesUptoRow : OpenClaim := { program := "ytdhmabofncbohaadoor", sum := "cb7938a763b918ef69bd83146c58d6e5b39b85d35e2cf46b644d3b3250812c5f", func := "manometer/manometerlaw05.LabelsBytes", spec := "labelsBytes", named := ["unicode/utf8.first", "unicode/utf8.acceptRanges"], apart := false, laid := [("unicode/utf8.acceptRanges", laid_unicode_utf8_acceptRanges), ("unicode/utf8.first", laid_unicode_utf8_first)], narrowed := true }
def LabelsBytesUptoSaid : Prop := labelsBytesUptoRow.holds Tryd.pinned (OpenSpec.upto labelsBytesSpec)

/-- 'manometerlaw05.LabelsBack', WHERE WHAT IT READS IS OF BULK AT MOST 1048576: true; the input reads as it did. -/
def labelsBackUptoRow : OpenClaim := { program := "ytdhmabofncbohaadoor", sum := "cb7938a763b918ef69bd83146c58d6e5b39b85d35e2cf46b644d3b3250812c5f", func := "manometer/manometerlaw05.LabelsBack", spec := "labelsBack", named := ["unicode/utf8.first", "unicode/utf8.acceptRanges"], apart := false, laid := [("unicode/utf8.acceptRanges", laid_unicode_utf8_acceptRanges), ("unicode/utf8.first", laid_unicode_utf8_first)], narrowed := true }
def LabelsBackUptoSaid : Prop := labelsBackUptoRow.holds Tryd.pinned (OpenSpec.upto labelsBackSpec)

end Rows
end Go.Proofs.YtdhmabofncbohaaDoor
