/-
  NARROWER THAN 'FOR EVERY INPUT', by the rows' own cells (each row's printed sentence says how): LimitSums: laid · LimitBound: laid · LimitFills: laid · LimitBuckets: laid · LimitBytes: laid · LimitNever: laid · LimitSeries: laid · LimitNone: laid.
  DERIVED. THE GIVEN ROWS OF THIS SEAT. 8 by the template 'for every input the law returns true; each argument reads behind the call as it read before'; 0 by the template 'total and deterministic' (their statements: YtbpmgaaipkenkaaDoorTotals.lean).
  GIVEN WITH THE SEED: the statements are not yours to turn. If you find one false, say at which input.
  Laid BY PROGRAM, IN A SANDBOX (cutbox-rows.mjs): the forced cells as the released guide's own fill.sh prints them over the translation db1216479ed7a759… (all of the seat's roots in one cut). By AI agents, Wed Nov 11 2026. No macro, syntax, notation, axiom, sorry.
-/
import Derived.Test.YtbpmgaaipkenkaaDoorChecked
import GoSem.PinnedTables
import GoSem.Claim
import GoSem.ClaimJoined
import GoSem.ClaimMapViews
import Derived.JoinedTies
import Derived.KernelRfl
namespace Go.Proofs.YtbpmgaaipkenkaaDoor
/- THE CELL 'sum', in the pinned program and in every row, IS THE sha256 OF THE DUMP (.gsa) THAT YtbpmgaaipkenkaaDoorProg.lean LOADS. Nothing in Lean hashes anything: it is a label: what it is worth is what the hold of that sum in a sandbox is worth. -/
noncomputable def Tryd.pinned : Pinned := { name := "ytbpmgaaipkenkaadoor", sum := "db1216479ed7a759c094cb66f4b9424782f4fc96d41b5639e7f9f265643e9bbf", checked := Tryd.checked }
namespace Rows
def none {H : Type} : Left H := { results := [], args := [] }

/- WHAT THE LISTED PACKAGE-LEVEL VARIABLES READ AS WHEN THE CALL BEGINS. Each datum BY PROGRAM (the guide's laid-datum.mjs) off the statement by which the dump's own 'gosem.cut.vars' lays the variable. In a bare row this is a premise. The card (YtbpmgaaipkenkaaDoorCards.lean) ties it to the program's text. -/
def laid_unicode_utf8_acceptRanges {H : Type} : DataW H := .agg [.agg [.lit (.int .u8 128), .lit (.int .u8 191)], .agg [.lit (.int .u8 160), .lit (.int .u8 191)], .agg [.lit (.int .u8 128), .lit (.int .u8 159)], .agg [.lit (.int .u8 144), .lit (.int .u8 191)], .agg [.lit (.int .u8 128), .lit (.int .u8 143)], .agg [.lit (.int .u8 0), .lit (.int .u8 0)], .agg [.lit (.int .u8 0), .lit (.int .u8 0)], .agg [.lit (.int .u8 0), .lit (.int .u8 0)], .agg [.lit (.int .u8 0), .lit (.int .u8 0)], .agg [.lit (.int .u8 0), .lit (.int .u8 0)], .agg [.lit (.int .u8 0), .lit (.int .u8 0)], .agg [.lit (.int .u8 0), .lit (.int .u8 0)], .agg [.lit (.int .u8 0), .lit (.int .u8 0)], .agg [.lit (.int .u8 0), .lit (.int .u8 0)], .agg [.lit (.int .u8 0), .lit (.int .u8 0)], .agg [.lit (.int .u8 0), .lit (.int .u8 0)]]
/-- One of Go's own tables, pinned by name: the form's constant. -/
def laid_unicode_utf8_first : DataW Unit := Go.Pinned.utf8First

/-- 'manometerlaw19.LimitSums': WHATEVER THE INPUT: true; the input reads as it did. -/
def limitSumsSpec : ChangeSpec := { name := "limitSums", fn := fun _ => fun
  | [d1, d2] => { results := [.lit (.bool true)], args := [d1, d2] }
  | _ => none }
def limitSumsRow : OpenClaim := { program := "ytbpmgaaipkenkaadoor", sum := "db1216479ed7a759c094cb66f4b9424782f4fc96d41b5639e7f9f265643e9bbf", func := "manometer/manometerlaw19.LimitSums", spec := "limitSums", inPlace := ["math/bits.Add64"], named := ["unicode/utf8.first", "unicode/utf8.acceptRanges"], apart := false, laid := [("unicode/utf8.acceptRanges", laid_unicode_utf8_acceptRanges), ("unicode/utf8.first", laid_unicode_utf8_first)] }
def LimitSumsSaid : Prop := limitSumsRow.holds Tryd.pinned (OpenSpec.ofChange limitSumsSpec)

/-- ITS FALSE NEIGHBOUR: 'it returns false'. Refute it at one input. -/
def limitSumsWrong : ChangeSpec := { name := "limitSums", fn := fun _ => fun
  | [d1, d2] => { results := [.lit (.bool false)], args := [d1, d2] }
  | _ => none }
def LimitSumsWrongFalsely : Prop := limitSumsRow.holds Tryd.pinned (OpenSpec.ofChange limitSumsWrong)

/-- 'manometerlaw19.LimitBound': WHATEVER THE INPUT: true; the input reads as it did. -/
def limitBoundSpec : ChangeSpec := { name := "limitBound", fn := fun _ => fun
  | [d1, d2, d3, d4] => { results := [.lit (.bool true)], args := [d1, d2, d3, d4] }
  | _ => none }
def limitBoundRow : OpenClaim := { program := "ytbpmgaaipkenkaadoor", sum := "db1216479ed7a759c094cb66f4b9424782f4fc96d41b5639e7f9f265643e9bbf", func := "manometer/manometerlaw19.LimitBound", spec := "limitBound", inPlace := ["math/bits.Add64"], named := ["unicode/utf8.first", "unicode/utf8.acceptRanges"], apart := false, laid := [("unicode/utf8.acceptRanges", laid_unicode_utf8_acceptRanges), ("unicode/utf8.first", laid_unicode_utf8_first)] }
def LimitBoundSaid : Prop := limitBoundRow.holds Tryd.pinned (OpenSpec.ofChange limitBoundSpec)

/-- ITS FALSE NEIGHBOUR: 'it returns false'. Refute it at one input. -/
def limitBoundWrong : ChangeSpec := { name := "limitBound", fn := fun _ => fun
  | [d1, d2, d3, d4] => { results := [.lit (.bool false)], args := [d1, d2, d3, d4] }
  | _ => none }
def LimitBoundWrongFalsely : Prop := limitBoundRow.holds Tryd.pinned (OpenSpec.ofChange limitBoundWrong)

/-- 'manometerlaw19.LimitFills': WHATEVER THE INPUT: true; the input reads as it did. -/
def limitFillsSpec : ChangeSpec := { name := "limitFills", fn := fun _ => fun
  | [d1, d2, d3] => { results := [.lit (.bool true)], args := [d1, d2, d3] }
  | _ => none }
def limitFillsRow : OpenClaim := { program := "ytbpmgaaipkenkaadoor", sum := "db1216479ed7a759c094cb66f4b9424782f4fc96d41b5639e7f9f265643e9bbf", func := "manometer/manometerlaw19.LimitFills", spec := "limitFills", inPlace := ["math/bits.Add64"], named := ["unicode/utf8.first", "unicode/utf8.acceptRanges"], apart := false, laid := [("unicode/utf8.acceptRanges", laid_unicode_utf8_acceptRanges), ("unicode/utf8.first", laid_unicode_utf8_first)] }
def LimitFillsSaid : Prop := limitFillsRow.holds Tryd.pinned (OpenSpec.ofChange limitFillsSpec)

/-- ITS FALSE NEIGHBOUR: 'it returns false'. Refute it at one input. -/
def limitFillsWrong : ChangeSpec := { name := "limitFills", fn := fun _ => fun
  | [d1, d2, d3] => { results := [.lit (.bool false)], args := [d1, d2, d3] }
  | _ => none }
def LimitFillsWrongFalsely : Prop := limitFillsRow.holds Tryd.pinned (OpenSpec.ofChange limitFillsWrong)

/-- 'manometerlaw19.LimitBuckets': WHATEVER THE INPUT: true; the input reads as it did. -/
def limitBucketsSpec : ChangeSpec := { name := "limitBuckets", fn := fun _ => fun
  | [d1, d2] => { results := [.lit (.bool true)], args := [d1, d2] }
  | _ => none }
def limitBucketsRow : OpenClaim := { program := "ytbpmgaaipkenkaadoor", sum := "db1216479ed7a759c094cb66f4b9424782f4fc96d41b5639e7f9f265643e9bbf", func := "manometer/manometerlaw19.LimitBuckets", spec := "limitBuckets", inPlace := ["math/bits.Add64"], named := ["unicode/utf8.first", "unicode/utf8.acceptRanges"], apart := false, laid := [("unicode/utf8.acceptRanges", laid_unicode_utf8_acceptRanges), ("unicode/utf8.first", laid_unicode_utf8_first)] }
def LimitBucketsSaid : Prop := limitBucketsRow.holds Tryd.pinned (OpenSpec.ofChange limitBucketsSpec)

/-- ITS FALSE NEIGHBOUR: 'it returns false'. Refute it at one input. -/
def limitBucketsWrong : ChangeSpec := { name := "limitBuckets", fn := fun _ => fun
  | [d1, d2] => { results := [.lit (.bool false)], args := [d1, d2] }
  | _ => none }
def LimitBucketsWrongFalsely : Prop := limitBucketsRow.holds Tryd.pinned (OpenSpec.ofChange limitBucketsWrong)

/-- 'manometerlaw19.LimitBytes': WHATEVER THE INPUT: true; the input reads as it did. -/
def limitBytesSpec : ChangeSpec := { name := "limitBytes", fn := fun _ => fun
  | [d1, d2] => { results := [.lit (.bool true)], args := [d1, d2] }
  | _ => none }
def limitBytesRow : OpenClaim := { program := "ytbpmgaaipkenkaadoor", sum := "db1216479ed7a759c094cb66f4b9424782f4fc96d41b5639e7f9f265643e9bbf", func := "manometer/manometerlaw19.LimitBytes", spec := "limitBytes", inPlace := ["math/bits.Add64"], named := ["unicode/utf8.first", "unicode/utf8.acceptRanges"], apart := false, laid := [("unicode/utf8.acceptRanges", laid_unicode_utf8_acceptRanges), ("unicode/utf8.first", laid_unicode_utf8_first)] }
def LimitBytesSaid : Prop := limitBytesRow.holds Tryd.pinned (OpenSpec.ofChange limitBytesSpec)

/-- ITS FALSE NEIGHBOUR: 'it returns false'. Refute it at one input. -/
def limitBytesWrong : ChangeSpec := { name := "limitBytes", fn := fun _ => fun
  | [d1, d2] => { results := [.lit (.bool false)], args := [d1, d2] }
  | _ => none }
def LimitBytesWrongFalsely : Prop := limitBytesRow.holds Tryd.pinned (OpenSpec.ofChange limitBytesWrong)

/-- 'manometerlaw19.LimitNever': WHATEVER THE INPUT: true; the input reads as it did. -/
def limitNeverSpec : ChangeSpec := { name := "limitNever", fn := fun _ => fun
  | [d] => { results := [.lit (.bool true)], args := [d] }
  | _ => none }
def limitNeverRow : OpenClaim := { program := "ytbpmgaaipkenkaadoor", sum := "db1216479ed7a759c094cb66f4b9424782f4fc96d41b5639e7f9f265643e9bbf", func := "manometer/manometerlaw19.LimitNever", spec := "limitNever", inPlace := ["math/bits.Add64"], unfollowed := true, recurses := true, named := ["unicode/utf8.first", "unicode/utf8.acceptRanges"], apart := false, laid := [("unicode/utf8.acceptRanges", laid_unicode_utf8_acceptRanges), ("unicode/utf8.first", laid_unicode_utf8_first)] }
def LimitNeverSaid : Prop := limitNeverRow.holds Tryd.pinned (OpenSpec.ofChange limitNeverSpec)

/-- ITS FALSE NEIGHBOUR: 'it returns false'. Refute it at one input. -/
def limitNeverWrong : ChangeSpec := { name := "limitNever", fn := fun _ => fun
  | [d] => { results := [.lit (.bool false)], args := [d] }
  | _ => none }
def LimitNeverWrongFalsely : Prop := limitNeverRow.holds Tryd.pinned (OpenSpec.ofChange limitNeverWrong)

/-- 'manometerlaw19.LimitSeries': WHATEVER THE INPUT: true; the input reads as it did. -/
def limitSeriesSpec : ChangeSpec := { name := "limitSeries", fn := fun _ => fun
  | [d1, d2] => { results := [.lit (.bool true)], args := [d1, d2] }
  | _ => none }
def limitSeriesRow : OpenClaim := { program := "ytbpmgaaipkenkaadoor", sum := "db1216479ed7a759c094cb66f4b9424782f4fc96d41b5639e7f9f265643e9bbf", func := "manometer/manometerlaw19.LimitSeries", spec := "limitSeries", inPlace := ["math/bits.Add64"], unfollowed := true, recurses := true, named := ["unicode/utf8.first", "unicode/utf8.acceptRanges"], apart := false, laid := [("unicode/utf8.acceptRanges", laid_unicode_utf8_acceptRanges), ("unicode/utf8.first", laid_unicode_utf8_first)] }
def LimitSeriesSaid : Prop := limitSeriesRow.holds Tryd.pinned (OpenSpec.ofChange limitSeriesSpec)

/-- ITS FALSE NEIGHBOUR: 'it returns false'. Refute it at one input. -/
def limitSeriesWrong : ChangeSpec := { name := "limitSeries", fn := fun _ => fun
  | [d1, d2] => { results := [.lit (.bool false)], args := [d1, d2] }
  | _ => none }
def LimitSeriesWrongFalsely : Prop := limitSeriesRow.holds Tryd.pinned (OpenSpec.ofChange limitSeriesWrong)

/-- 'manometerlaw19.LimitNone': WHATEVER THE INPUT: true; the input reads as it did. -/
def limitNoneSpec : ChangeSpec := { name := "limitNone", fn := fun _ => fun
  | [d] => { results := [.lit (.bool true)], args := [d] }
  | _ => none }
def limitNoneRow : OpenClaim := { program := "ytbpmgaaipkenkaadoor", sum := "db1216479ed7a759c094cb66f4b9424782f4fc96d41b5639e7f9f265643e9bbf", func := "manometer/manometerlaw19.LimitNone", spec := "limitNone", inPlace := ["math/bits.Add64"], unfollowed := true, recurses := true, named := ["unicode/utf8.first", "unicode/utf8.acceptRanges"], apart := false, laid := [("unicode/utf8.acceptRanges", laid_unicode_utf8_acceptRanges), ("unicode/utf8.first", laid_unicode_utf8_first)] }
def LimitNoneSaid : Prop := limitNoneRow.holds Tryd.pinned (OpenSpec.ofChange limitNoneSpec)

/-- ITS FALSE NEIGHBOUR: 'it returns false'. Refute it at one input. -/
def limitNoneWrong : ChangeSpec := { name := "limitNone", fn := fun _ => fun
  | [d] => { results := [.lit (.bool false)], args := [d] }
  | _ => none }
def LimitNoneWrongFalsely : Prop := limitNoneRow.holds Tryd.pinned (OpenSpec.ofChange limitNoneWrong)

/- THE SECOND FORM. 'bulk': how many values and letters a reading holds, each counted each time it is reached (what is shared counts as often as it is met; a slice's spare places count too). A statement '..UptoSaid' is the law's where the arguments, and the package variables that the reading takes, are together of bulk at most 1048576: NARROWER than '..Said'. Prove '..Said' where nothing that the law and all that it calls make is longer than what came in: it says more and counts as full. Else prove '..UptoSaid'. A law counts once. -/
mutual
def uptoBulk {H : Type} : DataW H → Nat
  | .lit (.string bytes) => bytes.length + 1
  | .lit _ => 1
  | .nil => 1
  | .ptr d => uptoBulk d + 1
  | .slice elems spare => uptoBulkAll elems + uptoBulkAll spare + 1
  | .agg parts => uptoBulkAll parts + 1
  | .iface _ d => uptoBulk d + 1
  | .map entries => uptoBulkEntries entries + 1
  | .held _ => 1
def uptoBulkAll {H : Type} : List (DataW H) → Nat
  | [] => 0
  | d :: r => uptoBulk d + uptoBulkAll r
def uptoBulkEntries {H : Type} : List (Lit × DataW H) → Nat
  | [] => 0
  | x :: r => uptoBulkEntry x + uptoBulkEntries r
def uptoBulkEntry {H : Type} : Lit × DataW H → Nat
  | (.string bytes, d) => bytes.length + uptoBulk d + 1
  | (_, d) => uptoBulk d + 1
 end
def uptoSmall : (H : Type) → List (DataW H) → Bool := fun _ ds => decide (uptoBulkAll ds ≤ 1048576)
def OpenSpec.upto (s : _root_.Go.ChangeSpec) : _root_.Go.OpenSpec := { _root_.Go.OpenSpec.ofChange s with cond := some uptoSmall }

/-- 'manometerlaw19.LimitSums', WHERE WHAT IT READS IS OF BULK AT MOST 1048576: true; the input reads as it did. -/
def limitSumsUptoRow : OpenClaim := { program := "ytbpmgaaipkenkaadoor", sum := "db1216479ed7a759c094cb66f4b9424782f4fc96d41b5639e7f9f265643e9bbf", func := "manometer/manometerlaw19.LimitSums", spec := "limitSums", inPlace := ["math/bits.Add64"], named := ["unicode/utf8.first", "unicode/utf8.acceptRanges"], apart := false, laid := [("unicode/utf8.acceptRanges", laid_unicode_utf8_acceptRanges), ("unicode/utf8.first", laid_unicode_utf8_first)], narrowed := true }
def LimitSumsUptoSaid : Prop := limitSumsUptoRow.holds Tryd.pinned (OpenSpec.upto limitSumsSpec)

/-- 'manometerlaw19.LimitBound', WHERE WHAT IT READS IS OF BULK AT MOST 1048576: true; the input reads as it did. -/
def limitBoundUptoRow : OpenClaim := { program := "ytbpmgaaipkenkaadoor", sum := "db1216479ed7a759c094cb66f4b9424782f4fc96d41b5639e7f9f265643e9bbf", func := "manometer/manometerlaw19.LimitBound", spec := "limitBound", inPlace := ["math/bits.Add64"], named := ["unicode/utf8.first", "unicode/utf8.acceptRanges"], apart := false, laid := [("unicode/utf8.acceptRanges", laid_unicode_utf8_acceptRanges), ("unicode/utf8.first", laid_unicode_utf8_first)], narrowed := true }
def LimitBoundUptoSaid : Prop := limitBoundUptoRow.holds Tryd.pinned (OpenSpec.upto limitBoundSpec)

/-- 'manometerlaw19.LimitFills', WHERE WHAT IT READS IS OF BULK AT MOST 1048576: true; the input reads as it did. -/
def limitFillsUptoRow : OpenClaim := { program := "ytbpmgaaipkenkaadoor", sum := "db1216479ed7a759c094cb66f4b9424782f4fc96d41b5639e7f9f265643e9bbf", func := "manometer/manometerlaw19.LimitFills", spec := "limitFills", inPlace := ["math/bits.Add64"], named := ["unicode/utf8.first", "unicode/utf8.acceptRanges"], apart := false, laid := [("unicode/utf8.acceptRanges", laid_unicode_utf8_acceptRanges), ("unicode/utf8.first", laid_unicode_utf8_first)], narrowed := true }
def LimitFillsUptoSaid : Prop := limitFillsUptoRow.holds Tryd.pinned (OpenSpec.upto limitFillsSpec)

/-- 'manometerlaw19.LimitBuckets', WHERE WHAT IT READS IS OF BULK AT MOST 1048576: true; the input reads as it did. -/
def limitBucketsUptoRow : OpenClaim := { program := "ytbpmgaaipkenkaadoor", sum := "db1216479ed7a759c094cb66f4b9424782f4fc96d41b5639e7f9f265643e9bbf", func := "manometer/manometerlaw19.LimitBuckets", spec := "limitBuckets", inPlace := ["math/bits.Add64"], named := ["unicode/utf8.first", "unicode/utf8.acceptRanges"], apart := false, laid := [("unicode/utf8.acceptRanges", laid_unicode_utf8_acceptRanges), ("unicode/utf8.first", laid_unicode_utf8_first)], narrowed := true }
def LimitBucketsUptoSaid : Prop := limitBucketsUptoRow.holds Tryd.pinned (OpenSpec.upto limitBucketsSpec)

/-- 'manometerlaw19.LimitBytes', WHERE WHAT IT READS IS OF BULK AT MOST 1048576: true; the input reads as it did. -/
def limitBytesUptoRow : OpenClaim := { program := "ytbpmgaaipkenkaadoor", sum := "db1216479ed7a759c094cb66f4b9424782f4fc96d41b5639e7f9f265643e9bbf", func := "manometer/manometerlaw19.LimitBytes", spec := "limitBytes", inPlace := ["math/bits.Add64"], named := ["unicode/utf8.first", "unicode/utf8.acceptRanges"], apart := false, laid := [("unicode/utf8.acceptRanges", laid_unicode_utf8_acceptRanges), ("unicode/utf8.first", laid_unicode_utf8_first)], narrowed := true }
def LimitBytesUptoSaid : Prop := limitBytesUptoRow.holds Tryd.pinned (OpenSpec.upto limitBytesSpec)

/-- 'manometerlaw19.LimitNever', WHERE WHAT IT READS IS OF BULK AT MOST 1048576: true; the input reads as it did. -/
def limitNeverUptoRow : OpenClaim := { program := "ytbpmgaaipkenkaadoor", sum := "db1216479ed7a759c094cb66f4b9424782f4fc96d41b5639e7f9f265643e9bbf", func := "manometer/manometerlaw19.LimitNever", spec := "limitNever", inPlace := ["math/bits.Add64"], unfollowed := true, recurses := true, named := ["unicode/utf8.first", "unicode/utf8.acceptRanges"], apart := false, laid := [("unicode/utf8.acceptRanges", laid_unicode_utf8_acceptRanges), ("unicode/utf8.first", laid_unicode_utf8_first)], narrowed := true }
def LimitNeverUptoSaid : Prop := limitNeverUptoRow.holds Tryd.pinned (OpenSpec.upto limitNeverSpec)

/-- 'manometerlaw19.LimitSeries', WHERE WHAT IT READS IS OF BULK AT MOST 1048576: true; the input reads as it did. -/
def limitSeriesUptoRow : OpenClaim := { program := "ytbpmgaaipkenkaadoor", sum := "db1216479ed7a759c094cb66f4b9424782f4fc96d41b5639e7f9f265643e9bbf", func := "manometer/manometerlaw19.LimitSeries", spec := "limitSeries", inPlace := ["math/bits.Add64"], unfollowed := true, recurses := true, named := ["unicode/utf8.first", "unicode/utf8.acceptRanges"], apart := false, laid := [("unicode/utf8.acceptRanges", laid_unicode_utf8_acceptRanges), ("unicode/utf8.first", laid_unicode_utf8_first)], narrowed := true }
def LimitSeriesUptoSaid : Prop := limitSeriesUptoRow.holds Tryd.pinned (OpenSpec.upto limitSeriesSpec)

/-- 'manometerlaw19.LimitNone', WHERE WHAT IT READS IS OF BULK AT MOST 1048576: true; the input reads as it did. -/
def limitNoneUptoRow : OpenClaim := { program := "ytbpmgaaipkenkaadoor", sum := "db1216479ed7a759c094cb66f4b9424782f4fc96d41b5639e7f9f265643e9bbf", func := "manometer/manometerlaw19.LimitNone", spec := "limitNone", inPlace := ["math/bits.Add64"], unfollowed := true, recurses := true, named := ["unicode/utf8.first", "unicode/utf8.acceptRanges"], apart := false, laid := [("unicode/utf8.acceptRanges", laid_unicode_utf8_acceptRanges), ("unicode/utf8.first", laid_unicode_utf8_first)], narrowed := true }
def LimitNoneUptoSaid : Prop := limitNoneUptoRow.holds Tryd.pinned (OpenSpec.upto limitNoneSpec)

end Rows
end Go.Proofs.YtbpmgaaipkenkaaDoor
