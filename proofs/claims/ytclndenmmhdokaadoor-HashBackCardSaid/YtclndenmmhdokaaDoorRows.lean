/-
  NARROWER THAN 'FOR EVERY INPUT', by the rows' own cells (each row's printed sentence says how): HashSums: laid · HashFast: laid · HashWrites: laid · HashNone: laid · HashMacs: laid · HashKeys: laid · HashCuts: laid · HashLetters: laid · HashBack: laid.
  DERIVED. THE GIVEN ROWS OF THIS SEAT. 9 by the template 'for every input the law returns true; each argument reads behind the call as it read before'; 0 by the template 'total and deterministic' (their statements: YtclndenmmhdokaaDoorTotals.lean).
  GIVEN WITH THE SEED: the statements are not yours to turn. If you find one false, say at which input.
  Laid BY PROGRAM, IN A SANDBOX (cutbox-rows.mjs): the forced cells as the released guide's own fill.sh prints them over the translation b37a4fcbe2939a54… (all of the seat's roots in one cut). By AI agents, Wed Nov 11 2026. No macro, syntax, notation, axiom, sorry.
-/
import Derived.Test.YtclndenmmhdokaaDoorChecked
import GoSem.Claim
import GoSem.ClaimJoined
import GoSem.ClaimMapViews
import Derived.JoinedTies
import Derived.KernelRfl
namespace Go.Proofs.YtclndenmmhdokaaDoor
/- THE CELL 'sum', in the pinned program and in every row, IS THE sha256 OF THE DUMP (.gsa) THAT YtclndenmmhdokaaDoorProg.lean LOADS. Nothing in Lean hashes anything: it is a label: what it is worth is what the hold of that sum in a sandbox is worth. -/
noncomputable def Tryd.pinned : Pinned := { name := "ytclndenmmhdokaadoor", sum := "b37a4fcbe2939a543ece313ee6c383cc2daefe3eb23f6cb64ff5fb0978fe8915", checked := Tryd.checked }
namespace Rows
def none {H : Type} : Left H := { results := [], args := [] }

/- WHAT THE LISTED PACKAGE-LEVEL VARIABLES READ AS WHEN THE CALL BEGINS. Each datum BY PROGRAM (the guide's laid-datum.mjs) off the statement by which the dump's own 'gosem.cut.vars' lays the variable. In a bare row this is a premise. The card (YtclndenmmhdokaaDoorCards.lean) ties it to the program's text. -/
def laid_manometer_hash_rounds {H : Type} : DataW H := .agg [.lit (.int .u32 1116352408), .lit (.int .u32 1899447441), .lit (.int .u32 3049323471), .lit (.int .u32 3921009573), .lit (.int .u32 961987163), .lit (.int .u32 1508970993), .lit (.int .u32 2453635748), .lit (.int .u32 2870763221), .lit (.int .u32 3624381080), .lit (.int .u32 310598401), .lit (.int .u32 607225278), .lit (.int .u32 1426881987), .lit (.int .u32 1925078388), .lit (.int .u32 2162078206), .lit (.int .u32 2614888103), .lit (.int .u32 3248222580), .lit (.int .u32 3835390401), .lit (.int .u32 4022224774), .lit (.int .u32 264347078), .lit (.int .u32 604807628), .lit (.int .u32 770255983), .lit (.int .u32 1249150122), .lit (.int .u32 1555081692), .lit (.int .u32 1996064986), .lit (.int .u32 2554220882), .lit (.int .u32 2821834349), .lit (.int .u32 2952996808), .lit (.int .u32 3210313671), .lit (.int .u32 3336571891), .lit (.int .u32 3584528711), .lit (.int .u32 113926993), .lit (.int .u32 338241895), .lit (.int .u32 666307205), .lit (.int .u32 773529912), .lit (.int .u32 1294757372), .lit (.int .u32 1396182291), .lit (.int .u32 1695183700), .lit (.int .u32 1986661051), .lit (.int .u32 2177026350), .lit (.int .u32 2456956037), .lit (.int .u32 2730485921), .lit (.int .u32 2820302411), .lit (.int .u32 3259730800), .lit (.int .u32 3345764771), .lit (.int .u32 3516065817), .lit (.int .u32 3600352804), .lit (.int .u32 4094571909), .lit (.int .u32 275423344), .lit (.int .u32 430227734), .lit (.int .u32 506948616), .lit (.int .u32 659060556), .lit (.int .u32 883997877), .lit (.int .u32 958139571), .lit (.int .u32 1322822218), .lit (.int .u32 1537002063), .lit (.int .u32 1747873779), .lit (.int .u32 1955562222), .lit (.int .u32 2024104815), .lit (.int .u32 2227730452), .lit (.int .u32 2361852424), .lit (.int .u32 2428436474), .lit (.int .u32 2756734187), .lit (.int .u32 3204031479), .lit (.int .u32 3329325298)]

/-- 'manometerlaw03.HashSums': WHATEVER THE INPUT: true; the input reads as it did. -/
def hashSumsSpec : ChangeSpec := { name := "hashSums", fn := fun _ => fun
  | [d] => { results := [.lit (.bool true)], args := [d] }
  | _ => none }
def hashSumsRow : OpenClaim := { program := "ytclndenmmhdokaadoor", sum := "b37a4fcbe2939a543ece313ee6c383cc2daefe3eb23f6cb64ff5fb0978fe8915", func := "manometer/manometerlaw03.HashSums", spec := "hashSums", named := ["manometer/hash.rounds"], apart := false, laid := [("manometer/hash.rounds", laid_manometer_hash_rounds)] }
def HashSumsSaid : Prop := hashSumsRow.holds Tryd.pinned (OpenSpec.ofChange hashSumsSpec)

/-- ITS FALSE NEIGHBOUR: 'it returns false'. Refute it at one input. -/
def hashSumsWrong : ChangeSpec := { name := "hashSums", fn := fun _ => fun
  | [d] => { results := [.lit (.bool false)], args := [d] }
  | _ => none }
def HashSumsWrongFalsely : Prop := hashSumsRow.holds Tryd.pinned (OpenSpec.ofChange hashSumsWrong)

/-- 'manometerlaw03.HashFast': WHATEVER THE INPUT: true; the input reads as it did. -/
def hashFastSpec : ChangeSpec := { name := "hashFast", fn := fun _ => fun
  | [d] => { results := [.lit (.bool true)], args := [d] }
  | _ => none }
def hashFastRow : OpenClaim := { program := "ytclndenmmhdokaadoor", sum := "b37a4fcbe2939a543ece313ee6c383cc2daefe3eb23f6cb64ff5fb0978fe8915", func := "manometer/manometerlaw03.HashFast", spec := "hashFast", named := ["manometer/hash.rounds"], apart := false, laid := [("manometer/hash.rounds", laid_manometer_hash_rounds)] }
def HashFastSaid : Prop := hashFastRow.holds Tryd.pinned (OpenSpec.ofChange hashFastSpec)

/-- ITS FALSE NEIGHBOUR: 'it returns false'. Refute it at one input. -/
def hashFastWrong : ChangeSpec := { name := "hashFast", fn := fun _ => fun
  | [d] => { results := [.lit (.bool false)], args := [d] }
  | _ => none }
def HashFastWrongFalsely : Prop := hashFastRow.holds Tryd.pinned (OpenSpec.ofChange hashFastWrong)

/-- 'manometerlaw03.HashWrites': WHATEVER THE INPUT: true; the input reads as it did. -/
def hashWritesSpec : ChangeSpec := { name := "hashWrites", fn := fun _ => fun
  | [d1, d2] => { results := [.lit (.bool true)], args := [d1, d2] }
  | _ => none }
def hashWritesRow : OpenClaim := { program := "ytclndenmmhdokaadoor", sum := "b37a4fcbe2939a543ece313ee6c383cc2daefe3eb23f6cb64ff5fb0978fe8915", func := "manometer/manometerlaw03.HashWrites", spec := "hashWrites", named := ["manometer/hash.rounds"], apart := false, laid := [("manometer/hash.rounds", laid_manometer_hash_rounds)] }
def HashWritesSaid : Prop := hashWritesRow.holds Tryd.pinned (OpenSpec.ofChange hashWritesSpec)

/-- ITS FALSE NEIGHBOUR: 'it returns false'. Refute it at one input. -/
def hashWritesWrong : ChangeSpec := { name := "hashWrites", fn := fun _ => fun
  | [d1, d2] => { results := [.lit (.bool false)], args := [d1, d2] }
  | _ => none }
def HashWritesWrongFalsely : Prop := hashWritesRow.holds Tryd.pinned (OpenSpec.ofChange hashWritesWrong)

/-- 'manometerlaw03.HashNone': WHATEVER THE INPUT: true; the input reads as it did. -/
def hashNoneSpec : ChangeSpec := { name := "hashNone", fn := fun _ => fun
  | [d] => { results := [.lit (.bool true)], args := [d] }
  | _ => none }
def hashNoneRow : OpenClaim := { program := "ytclndenmmhdokaadoor", sum := "b37a4fcbe2939a543ece313ee6c383cc2daefe3eb23f6cb64ff5fb0978fe8915", func := "manometer/manometerlaw03.HashNone", spec := "hashNone", named := ["manometer/hash.rounds"], apart := false, laid := [("manometer/hash.rounds", laid_manometer_hash_rounds)] }
def HashNoneSaid : Prop := hashNoneRow.holds Tryd.pinned (OpenSpec.ofChange hashNoneSpec)

/-- ITS FALSE NEIGHBOUR: 'it returns false'. Refute it at one input. -/
def hashNoneWrong : ChangeSpec := { name := "hashNone", fn := fun _ => fun
  | [d] => { results := [.lit (.bool false)], args := [d] }
  | _ => none }
def HashNoneWrongFalsely : Prop := hashNoneRow.holds Tryd.pinned (OpenSpec.ofChange hashNoneWrong)

/-- 'manometerlaw03.HashMacs': WHATEVER THE INPUT: true; the input reads as it did. -/
def hashMacsSpec : ChangeSpec := { name := "hashMacs", fn := fun _ => fun
  | [d1, d2] => { results := [.lit (.bool true)], args := [d1, d2] }
  | _ => none }
def hashMacsRow : OpenClaim := { program := "ytclndenmmhdokaadoor", sum := "b37a4fcbe2939a543ece313ee6c383cc2daefe3eb23f6cb64ff5fb0978fe8915", func := "manometer/manometerlaw03.HashMacs", spec := "hashMacs", named := ["manometer/hash.rounds"], apart := false, laid := [("manometer/hash.rounds", laid_manometer_hash_rounds)] }
def HashMacsSaid : Prop := hashMacsRow.holds Tryd.pinned (OpenSpec.ofChange hashMacsSpec)

/-- ITS FALSE NEIGHBOUR: 'it returns false'. Refute it at one input. -/
def hashMacsWrong : ChangeSpec := { name := "hashMacs", fn := fun _ => fun
  | [d1, d2] => { results := [.lit (.bool false)], args := [d1, d2] }
  | _ => none }
def HashMacsWrongFalsely : Prop := hashMacsRow.holds Tryd.pinned (OpenSpec.ofChange hashMacsWrong)

/-- 'manometerlaw03.HashKeys': WHATEVER THE INPUT: true; the input reads as it did. -/
def hashKeysSpec : ChangeSpec := { name := "hashKeys", fn := fun _ => fun
  | [d1, d2, d3] => { results := [.lit (.bool true)], args := [d1, d2, d3] }
  | _ => none }
def hashKeysRow : OpenClaim := { program := "ytclndenmmhdokaadoor", sum := "b37a4fcbe2939a543ece313ee6c383cc2daefe3eb23f6cb64ff5fb0978fe8915", func := "manometer/manometerlaw03.HashKeys", spec := "hashKeys", named := ["manometer/hash.rounds"], apart := false, laid := [("manometer/hash.rounds", laid_manometer_hash_rounds)] }
def HashKeysSaid : Prop := hashKeysRow.holds Tryd.pinned (OpenSpec.ofChange hashKeysSpec)

/-- ITS FALSE NEIGHBOUR: 'it returns false'. Refute it at one input. -/
def hashKeysWrong : ChangeSpec := { name := "hashKeys", fn := fun _ => fun
  | [d1, d2, d3] => { results := [.lit (.bool false)], args := [d1, d2, d3] }
  | _ => none }
def HashKeysWrongFalsely : Prop := hashKeysRow.holds Tryd.pinned (OpenSpec.ofChange hashKeysWrong)

/-- 'manometerlaw03.HashCuts': WHATEVER THE INPUT: true; the input reads as it did. -/
def hashCutsSpec : ChangeSpec := { name := "hashCuts", fn := fun _ => fun
  | [d1, d2, d3, d4] => { results := [.lit (.bool true)], args := [d1, d2, d3, d4] }
  | _ => none }
def hashCutsRow : OpenClaim := { program := "ytclndenmmhdokaadoor", sum := "b37a4fcbe2939a543ece313ee6c383cc2daefe3eb23f6cb64ff5fb0978fe8915", func := "manometer/manometerlaw03.HashCuts", spec := "hashCuts", named := ["manometer/hash.rounds"], apart := false, laid := [("manometer/hash.rounds", laid_manometer_hash_rounds)] }
def HashCutsSaid : Prop := hashCutsRow.holds Tryd.pinned (OpenSpec.ofChange hashCutsSpec)

/-- ITS FALSE NEIGHBOUR: 'it returns false'. Refute it at one input. -/
def hashCutsWrong : ChangeSpec := { name := "hashCuts", fn := fun _ => fun
  | [d1, d2, d3, d4] => { results := [.lit (.bool false)], args := [d1, d2, d3, d4] }
  | _ => none }
def HashCutsWrongFalsely : Prop := hashCutsRow.holds Tryd.pinned (OpenSpec.ofChange hashCutsWrong)

/-- 'manometerlaw03.HashLetters': WHATEVER THE INPUT: true; the input reads as it did. -/
def hashLettersSpec : ChangeSpec := { name := "hashLetters", fn := fun _ => fun
  | [d1, d2] => { results := [.lit (.bool true)], args := [d1, d2] }
  | _ => none }
def hashLettersRow : OpenClaim := { program := "ytclndenmmhdokaadoor", sum := "b37a4fcbe2939a543ece313ee6c383cc2daefe3eb23f6cb64ff5fb0978fe8915", func := "manometer/manometerlaw03.HashLetters", spec := "hashLetters", named := ["manometer/hash.rounds"], apart := false, laid := [("manometer/hash.rounds", laid_manometer_hash_rounds)] }
def HashLettersSaid : Prop := hashLettersRow.holds Tryd.pinned (OpenSpec.ofChange hashLettersSpec)

/-- ITS FALSE NEIGHBOUR: 'it returns false'. Refute it at one input. -/
def hashLettersWrong : ChangeSpec := { name := "hashLetters", fn := fun _ => fun
  | [d1, d2] => { results := [.lit (.bool false)], args := [d1, d2] }
  | _ => none }
def HashLettersWrongFalsely : Prop := hashLettersRow.holds Tryd.pinned (OpenSpec.ofChange hashLettersWrong)

/-- 'manometerlaw03.HashBack': WHATEVER THE INPUT: true; the input reads as it did. -/
def hashBackSpec : ChangeSpec := { name := "hashBack", fn := fun _ => fun
  | [d1, d2, d3] => { results := [.lit (.bool true)], args := [d1, d2, d3] }
  | _ => none }
def hashBackRow : OpenClaim := { program := "ytclndenmmhdokaadoor", sum := "b37a4fcbe2939a543ece313ee6c383cc2daefe3eb23f6cb64ff5fb0978fe8915", func := "manometer/manometerlaw03.HashBack", spec := "hashBack", named := ["manometer/hash.rounds"], apart := false, laid := [("manometer/hash.rounds", laid_manometer_hash_rounds)] }
def HashBackSaid : Prop := hashBackRow.holds Tryd.pinned (OpenSpec.ofChange hashBackSpec)

/-- ITS FALSE NEIGHBOUR: 'it returns false'. Refute it at one input. -/
def hashBackWrong : ChangeSpec := { name := "hashBack", fn := fun _ => fun
  | [d1, d2, d3] => { results := [.lit (.bool false)], args := [d1, d2, d3] }
  | _ => none }
def HashBackWrongFalsely : Prop := hashBackRow.holds Tryd.pinned (OpenSpec.ofChange hashBackWrong)

/- THE SECOND FORM. 'bulk': how many values and letters a reading holds, each counted each time it is reached (what is shared counts as often as it is met; a slice's spare places count too). A statement '..UptoSaid' is the law's where the arguments, and the package variables that the reading takes, are together of bulk at most 1048576: NARROWER than '..Said'. Prove '..Said' where nothing that the law and all that it calls make is longer than what came in: it says more and counts as full. Else prove '..UptoSaid'. A law counts once. -/
mutual
def uptoBulk {H : Type} : DataW H → Nat
  | .lit (.string bytes) => bytes.length + 1
  | .lit _ => 1
  | .nil => 1
  | .ptr d => uptoBulk d + 1
  | .slice elems spare => uptoBulkAll elems + uptoBulkAll spare + 1
  | .agg parts => uptoBulkAll parts + 1
  | .iface _ d => uptoBulk d + 1
  | .map entries => uptoBulkEntries entries + 1
  | .held _ => 1
def uptoBulkAll {H : Type} : List (DataW H) → Nat
  | [] => 0
  | d :: r => uptoBulk d + uptoBulkAll r
def uptoBulkEntries {H : Type} : List (Lit × DataW H) → Nat
  | [] => 0
  | x :: r => uptoBulkEntry x + uptoBulkEntries r
def uptoBulkEntry {H : Type} : Lit × DataW H → Nat
  | (.string bytes, d) => bytes.length + uptoBulk d + 1
  | (_, d) => uptoBulk d + 1
 end
def uptoSmall : (H : Type) → List (DataW H) → Bool := fun _ ds => decide (uptoBulkAll ds ≤ 1048576)
def OpenSpec.upto (s : _root_.Go.ChangeSpec) : _root_.Go.OpenSpec := { _root_.Go.OpenSpec.ofChange s with cond := some uptoSmall }

/-- 'manometerlaw03.HashSums', WHERE WHAT IT READS IS OF BULK AT MOST 1048576: true; the input reads as it did. -/
def hashSumsUptoRow : OpenClaim := { program := "ytclndenmmhdokaadoor", sum := "b37a4fcbe2939a543ece313ee6c383cc2daefe3eb23f6cb64ff5fb0978fe8915", func := "manometer/manometerlaw03.HashSums", spec := "hashSums", named := ["manometer/hash.rounds"], apart := false, laid := [("manometer/hash.rounds", laid_manometer_hash_rounds)], narrowed := true }
def HashSumsUptoSaid : Prop := hashSumsUptoRow.holds Tryd.pinned (OpenSpec.upto hashSumsSpec)

/-- 'manometerlaw03.HashFast', WHERE WHAT IT READS IS OF BULK AT MOST 1048576: true; the input reads as it did. -/
def hashFastUptoRow : OpenClaim := { program := "ytclndenmmhdokaadoor", sum := "b37a4fcbe2939a543ece313ee6c383cc2daefe3eb23f6cb64ff5fb0978fe8915", func := "manometer/manometerlaw03.HashFast", spec := "hashFast", named := ["manometer/hash.rounds"], apart := false, laid := [("manometer/hash.rounds", laid_manometer_hash_rounds)], narrowed := true }
def HashFastUptoSaid : Prop := hashFastUptoRow.holds Tryd.pinned (OpenSpec.upto hashFastSpec)

/-- 'manometerlaw03.HashWrites', WHERE WHAT IT READS IS OF BULK AT MOST 1048576: true; the input reads as it did. -/
def hashWritesUptoRow : OpenClaim := { program := "ytclndenmmhdokaadoor", sum := "b37a4fcbe2939a543ece313ee6c383cc2daefe3eb23f6cb64ff5fb0978fe8915", func := "manometer/manometerlaw03.HashWrites", spec := "hashWrites", named := ["manometer/hash.rounds"], apart := false, laid := [("manometer/hash.rounds", laid_manometer_hash_rounds)], narrowed := true }
def HashWritesUptoSaid : Prop := hashWritesUptoRow.holds Tryd.pinned (OpenSpec.upto hashWritesSpec)

/-- 'manometerlaw03.HashNone', WHERE WHAT IT READS IS OF BULK AT MOST 1048576: true; the input reads as it did. -/
def hashNoneUptoRow : OpenClaim := { program := "ytclndenmmhdokaadoor", sum := "b37a4fcbe2939a543ece313ee6c383cc2daefe3eb23f6cb64ff5fb0978fe8915", func := "manometer/manometerlaw03.HashNone", spec := "hashNone", named := ["manometer/hash.rounds"], apart := false, laid := [("manometer/hash.rounds", laid_manometer_hash_rounds)], narrowed := true }
def HashNoneUptoSaid : Prop := hashNoneUptoRow.holds Tryd.pinned (OpenSpec.upto hashNoneSpec)

/-- 'manometerlaw03.HashMacs', WHERE WHAT IT READS IS OF BULK AT MOST 1048576: true; the input reads as it did. -/
def hashMacsUptoRow : OpenClaim := { program := "ytclndenmmhdokaadoor", sum := "b37a4fcbe2939a543ece313ee6c383cc2daefe3eb23f6cb64ff5fb0978fe8915", func := "manometer/manometerlaw03.HashMacs", spec := "hashMacs", named := ["manometer/hash.rounds"], apart := false, laid := [("manometer/hash.rounds", laid_manometer_hash_rounds)], narrowed := true }
def HashMacsUptoSaid : Prop := hashMacsUptoRow.holds Tryd.pinned (OpenSpec.upto hashMacsSpec)

/-- 'manometerlaw03.HashKeys', WHERE WHAT IT READS IS OF BULK AT MOST 1048576: true; the input reads as it did. -/
def hashKeysUptoRow : OpenClaim := { program := "ytclndenmmhdokaadoor", sum := "b37a4fcbe2939a543ece313ee6c383cc2daefe3eb23f6cb64ff5fb0978fe8915", func := "manometer/manometerlaw03.HashKeys", spec := "hashKeys", named := ["manometer/hash.rounds"], apart := false, laid := [("manometer/hash.rounds", laid_manometer_hash_rounds)], narrowed := true }
def HashKeysUptoSaid : Prop := hashKeysUptoRow.holds Tryd.pinned (OpenSpec.upto hashKeysSpec)

/-- 'manometerlaw03.HashCuts', WHERE WHAT IT READS IS OF BULK AT MOST 1048576: true; the input reads as it did. -/
def hashCutsUptoRow : OpenClaim := { program := "ytclndenmmhdokaadoor", sum := "b37a4fcbe2939a543ece313ee6c383cc2daefe3eb23f6cb64ff5fb0978fe8915", func := "manometer/manometerlaw03.HashCuts", spec := "hashCuts", named := ["manometer/hash.rounds"], apart := false, laid := [("manometer/hash.rounds", laid_manometer_hash_rounds)], narrowed := true }
def HashCutsUptoSaid : Prop := hashCutsUptoRow.holds Tryd.pinned (OpenSpec.upto hashCutsSpec)

/-- 'manometerlaw03.HashLetters', WHERE WHAT IT READS IS OF BULK AT MOST 1048576: true; the input reads as it did. -/
def hashLettersUptoRow : OpenClaim := { program := "ytclndenmmhdokaadoor", sum := "b37a4fcbe2939a543ece313ee6c383cc2daefe3eb23f6cb64ff5fb0978fe8915", func := "manometer/manometerlaw03.HashLetters", spec := "hashLetters", named := ["manometer/hash.rounds"], apart := false, laid := [("manometer/hash.rounds", laid_manometer_hash_rounds)], narrowed := true }
def HashLettersUptoSaid : Prop := hashLettersUptoRow.holds Tryd.pinned (OpenSpec.upto hashLettersSpec)

/-- 'manometerlaw03.HashBack', WHERE WHAT IT READS IS OF BULK AT MOST 1048576: true; the input reads as it did. -/
def hashBackUptoRow : OpenClaim := { program := "ytclndenmmhdokaadoor", sum := "b37a4fcbe2939a543ece313ee6c383cc2daefe3eb23f6cb64ff5fb0978fe8915", func := "manometer/manometerlaw03.HashBack", spec := "hashBack", named := ["manometer/hash.rounds"], apart := false, laid := [("manometer/hash.rounds", laid_manometer_hash_rounds)], narrowed := true }
def HashBackUptoSaid : Prop := hashBackUptoRow.holds Tryd.pinned (OpenSpec.upto hashBackSpec)

end Rows
end Go.Proofs.YtclndenmmhdokaaDoor
