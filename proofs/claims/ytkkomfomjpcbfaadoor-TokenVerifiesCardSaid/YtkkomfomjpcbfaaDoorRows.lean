/-
  NARROWER THAN 'FOR EVERY INPUT', by the rows' own cells (each row's printed sentence says how): TokenMints: laid · TokenReads: laid · TokenVerifies: laid · TokenMinted: laid · TokenOne: laid · TokenTurns: laid.
  DERIVED. THE GIVEN ROWS OF THIS SEAT. 6 by the template 'for every input the law returns true; each argument reads behind the call as it read before'; 0 by the template 'total and deterministic' (their statements: YtkkomfomjpcbfaaDoorTotals.lean).
  GIVEN WITH THE SEED: the statements are not yours to turn. If you find one false, say at which input.
  Laid BY PROGRAM, IN A SANDBOX (cutbox-rows.mjs): the forced cells as the released guide's own fill.sh prints them over the translation 168f324034cf48b9… (all of the seat's roots in one cut). By AI agents, Wed Nov 11 2026. No macro, syntax, notation, axiom, sorry.
-/
import Derived.Test.YtkkomfomjpcbfaaDoorChecked
import GoSem.Claim
import GoSem.ClaimJoined
import GoSem.ClaimMapViews
import Derived.JoinedTies
import Derived.KernelRfl
namespace Go.Proofs.YtkkomfomjpcbfaaDoor
/- THE CELL 'sum', in the pinned program and in every row, IS THE sha256 OF THE DUMP (.gsa) THAT YtkkomfomjpcbfaaDoorProg.lean LOADS. Nothing in Lean hashes anything: it is a label: what it is worth is what the hold of that sum in a sandbox is worth. -/
noncomputable def Tryd.pinned : Pinned := { name := "ytkkomfomjpcbfaadoor", sum := "168f324034cf48b9c78a1af61bda9a644d823f8e2c22a1e20fcb481542273e60", checked := Tryd.checked }
namespace Rows
def none {H : Type} : Left H := { results := [], args := [] }

/- WHAT THE LISTED PACKAGE-LEVEL VARIABLES READ AS WHEN THE CALL BEGINS. Each datum BY PROGRAM (the guide's laid-datum.mjs) off the statement by which the dump's own 'gosem.cut.vars' lays the variable. In a bare row this is a premise. The card (YtkkomfomjpcbfaaDoorCards.lean) ties it to the program's text. -/
def laid_manometer_hash_rounds {H : Type} : DataW H := .agg [.lit (.int .u32 1116352408), .lit (.int .u32 1899447441), .lit (.int .u32 3049323471), .lit (.int .u32 3921009573), .lit (.int .u32 961987163), .lit (.int .u32 1508970993), .lit (.int .u32 2453635748), .lit (.int .u32 2870763221), .lit (.int .u32 3624381080), .lit (.int .u32 310598401), .lit (.int .u32 607225278), .lit (.int .u32 1426881987), .lit (.int .u32 1925078388), .lit (.int .u32 2162078206), .lit (.int .u32 2614888103), .lit (.int .u32 3248222580), .lit (.int .u32 3835390401), .lit (.int .u32 4022224774), .lit (.int .u32 264347078), .lit (.int .u32 604807628), .lit (.int .u32 770255983), .lit (.int .u32 1249150122), .lit (.int .u32 1555081692), .lit (.int .u32 1996064986), .lit (.int .u32 2554220882), .lit (.int .u32 2821834349), .lit (.int .u32 2952996808), .lit (.int .u32 3210313671), .lit (.int .u32 3336571891), .lit (.int .u32 3584528711), .lit (.int .u32 113926993), .lit (.int .u32 338241895), .lit (.int .u32 666307205), .lit (.int .u32 773529912), .lit (.int .u32 1294757372), .lit (.int .u32 1396182291), .lit (.int .u32 1695183700), .lit (.int .u32 1986661051), .lit (.int .u32 2177026350), .lit (.int .u32 2456956037), .lit (.int .u32 2730485921), .lit (.int .u32 2820302411), .lit (.int .u32 3259730800), .lit (.int .u32 3345764771), .lit (.int .u32 3516065817), .lit (.int .u32 3600352804), .lit (.int .u32 4094571909), .lit (.int .u32 275423344), .lit (.int .u32 430227734), .lit (.int .u32 506948616), .lit (.int .u32 659060556), .lit (.int .u32 883997877), .lit (.int .u32 958139571), .lit (.int .u32 1322822218), .lit (.int .u32 1537002063), .lit (.int .u32 1747873779), .lit (.int .u32 1955562222), .lit (.int .u32 2024104815), .lit (.int .u32 2227730452), .lit (.int .u32 2361852424), .lit (.int .u32 2428436474), .lit (.int .u32 2756734187), .lit (.int .u32 3204031479), .lit (.int .u32 3329325298)]

/-- 'manometerlaw17.TokenMints': WHATEVER THE INPUT: true; the input reads as it did. -/
def tokenMintsSpec : ChangeSpec := { name := "tokenMints", fn := fun _ => fun
  | [d1, d2] => { results := [.lit (.bool true)], args := [d1, d2] }
  | _ => none }
def tokenMintsRow : OpenClaim := { program := "ytkkomfomjpcbfaadoor", sum := "168f324034cf48b9c78a1af61bda9a644d823f8e2c22a1e20fcb481542273e60", func := "manometer/manometerlaw17.TokenMints", spec := "tokenMints", named := ["manometer/hash.rounds"], apart := false, laid := [("manometer/hash.rounds", laid_manometer_hash_rounds)] }
def TokenMintsSaid : Prop := tokenMintsRow.holds Tryd.pinned (OpenSpec.ofChange tokenMintsSpec)

/-- ITS FALSE NEIGHBOUR: 'it returns false'. Refute it at one input. -/
def tokenMintsWrong : ChangeSpec := { name := "tokenMints", fn := fun _ => fun
  | [d1, d2] => { results := [.lit (.bool false)], args := [d1, d2] }
  | _ => none }
def TokenMintsWrongFalsely : Prop := tokenMintsRow.holds Tryd.pinned (OpenSpec.ofChange tokenMintsWrong)

/-- 'manometerlaw17.TokenReads': WHATEVER THE INPUT: true; the input reads as it did. -/
def tokenReadsSpec : ChangeSpec := { name := "tokenReads", fn := fun _ => fun
  | [d1, d2] => { results := [.lit (.bool true)], args := [d1, d2] }
  | _ => none }
def tokenReadsRow : OpenClaim := { program := "ytkkomfomjpcbfaadoor", sum := "168f324034cf48b9c78a1af61bda9a644d823f8e2c22a1e20fcb481542273e60", func := "manometer/manometerlaw17.TokenReads", spec := "tokenReads", named := ["manometer/hash.rounds"], apart := false, laid := [("manometer/hash.rounds", laid_manometer_hash_rounds)] }
def TokenReadsSaid : Prop := tokenReadsRow.holds Tryd.pinned (OpenSpec.ofChange tokenReadsSpec)

/-- ITS FALSE NEIGHBOUR: 'it returns false'. Refute it at one input. -/
def tokenReadsWrong : ChangeSpec := { name := "tokenReads", fn := fun _ => fun
  | [d1, d2] => { results := [.lit (.bool false)], args := [d1, d2] }
  | _ => none }
def TokenReadsWrongFalsely : Prop := tokenReadsRow.holds Tryd.pinned (OpenSpec.ofChange tokenReadsWrong)

/-- 'manometerlaw17.TokenVerifies': WHATEVER THE INPUT: true; the input reads as it did. -/
def tokenVerifiesSpec : ChangeSpec := { name := "tokenVerifies", fn := fun _ => fun
  | [d1, d2, d3, d4] => { results := [.lit (.bool true)], args := [d1, d2, d3, d4] }
  | _ => none }
def tokenVerifiesRow : OpenClaim := { program := "ytkkomfomjpcbfaadoor", sum := "168f324034cf48b9c78a1af61bda9a644d823f8e2c22a1e20fcb481542273e60", func := "manometer/manometerlaw17.TokenVerifies", spec := "tokenVerifies", named := ["manometer/hash.rounds"], apart := false, laid := [("manometer/hash.rounds", laid_manometer_hash_rounds)] }
def TokenVerifiesSaid : Prop := tokenVerifiesRow.holds Tryd.pinned (OpenSpec.ofChange tokenVerifiesSpec)

/-- ITS FALSE NEIGHBOUR: 'it returns false'. Refute it at one input. -/
def tokenVerifiesWrong : ChangeSpec := { name := "tokenVerifies", fn := fun _ => fun
  | [d1, d2, d3, d4] => { results := [.lit (.bool false)], args := [d1, d2, d3, d4] }
  | _ => none }
def TokenVerifiesWrongFalsely : Prop := tokenVerifiesRow.holds Tryd.pinned (OpenSpec.ofChange tokenVerifiesWrong)

/-- 'manometerlaw17.TokenMinted': WHATEVER THE INPUT: true; the input reads as it did. -/
def tokenMintedSpec : ChangeSpec := { name := "tokenMinted", fn := fun _ => fun
  | [d1, d2, d3, d4, d5] => { results := [.lit (.bool true)], args := [d1, d2, d3, d4, d5] }
  | _ => none }
def tokenMintedRow : OpenClaim := { program := "ytkkomfomjpcbfaadoor", sum := "168f324034cf48b9c78a1af61bda9a644d823f8e2c22a1e20fcb481542273e60", func := "manometer/manometerlaw17.TokenMinted", spec := "tokenMinted", named := ["manometer/hash.rounds"], apart := false, laid := [("manometer/hash.rounds", laid_manometer_hash_rounds)] }
def TokenMintedSaid : Prop := tokenMintedRow.holds Tryd.pinned (OpenSpec.ofChange tokenMintedSpec)

/-- ITS FALSE NEIGHBOUR: 'it returns false'. Refute it at one input. -/
def tokenMintedWrong : ChangeSpec := { name := "tokenMinted", fn := fun _ => fun
  | [d1, d2, d3, d4, d5] => { results := [.lit (.bool false)], args := [d1, d2, d3, d4, d5] }
  | _ => none }
def TokenMintedWrongFalsely : Prop := tokenMintedRow.holds Tryd.pinned (OpenSpec.ofChange tokenMintedWrong)

/-- 'manometerlaw17.TokenOne': WHATEVER THE INPUT: true; the input reads as it did. -/
def tokenOneSpec : ChangeSpec := { name := "tokenOne", fn := fun _ => fun
  | [d1, d2, d3, d4, d5] => { results := [.lit (.bool true)], args := [d1, d2, d3, d4, d5] }
  | _ => none }
def tokenOneRow : OpenClaim := { program := "ytkkomfomjpcbfaadoor", sum := "168f324034cf48b9c78a1af61bda9a644d823f8e2c22a1e20fcb481542273e60", func := "manometer/manometerlaw17.TokenOne", spec := "tokenOne", named := ["manometer/hash.rounds"], apart := false, laid := [("manometer/hash.rounds", laid_manometer_hash_rounds)] }
def TokenOneSaid : Prop := tokenOneRow.holds Tryd.pinned (OpenSpec.ofChange tokenOneSpec)

/-- ITS FALSE NEIGHBOUR: 'it returns false'. Refute it at one input. -/
def tokenOneWrong : ChangeSpec := { name := "tokenOne", fn := fun _ => fun
  | [d1, d2, d3, d4, d5] => { results := [.lit (.bool false)], args := [d1, d2, d3, d4, d5] }
  | _ => none }
def TokenOneWrongFalsely : Prop := tokenOneRow.holds Tryd.pinned (OpenSpec.ofChange tokenOneWrong)

/-- 'manometerlaw17.TokenTurns': WHATEVER THE INPUT: true; the input reads as it did. -/
def tokenTurnsSpec : ChangeSpec := { name := "tokenTurns", fn := fun _ => fun
  | [d1, d2, d3, d4, d5, d6] => { results := [.lit (.bool true)], args := [d1, d2, d3, d4, d5, d6] }
  | _ => none }
def tokenTurnsRow : OpenClaim := { program := "ytkkomfomjpcbfaadoor", sum := "168f324034cf48b9c78a1af61bda9a644d823f8e2c22a1e20fcb481542273e60", func := "manometer/manometerlaw17.TokenTurns", spec := "tokenTurns", named := ["manometer/hash.rounds"], apart := false, laid := [("manometer/hash.rounds", laid_manometer_hash_rounds)] }
def TokenTurnsSaid : Prop := tokenTurnsRow.holds Tryd.pinned (OpenSpec.ofChange tokenTurnsSpec)

/-- ITS FALSE NEIGHBOUR: 'it returns false'. Refute it at one input. -/
def tokenTurnsWrong : ChangeSpec := { name := "tokenTurns", fn := fun _ => fun
  | [d1, d2, d3, d4, d5, d6] => { results := [.lit (.bool false)], args := [d1, d2, d3, d4, d5, d6] }
  | _ => none }
def TokenTurnsWrongFalsely : Prop := tokenTurnsRow.holds Tryd.pinned (OpenSpec.ofChange tokenTurnsWrong)

/- THE SECOND FORM. 'bulk': how many values and letters a reading holds, each counted each time it is reached (what is shared counts as often as it is met; a slice's spare places count too). A statement '..UptoSaid' is the law's where the arguments, and the package variables that the reading takes, are together of bulk at most 1048576: NARROWER than '..Said'. Prove '..Said' where nothing that the law and all that it calls make is longer than what came in: it says more and counts as full. Else prove '..UptoSaid'. A law counts once. -/
mutual
def uptoBulk {H : Type} : DataW H → Nat
  | .lit (.string bytes) => bytes.length + 1
  | .lit _ => 1
  | .nil => 1
  | .ptr d => uptoBulk d + 1
  | .slice elems spare => uptoBulkAll elems + uptoBulkAll spare + 1
  | .agg parts => uptoBulkAll parts + 1
  | .iface _ d => uptoBulk d + 1
  | .map entries => uptoBulkEntries entries + 1
  | .held _ => 1
def uptoBulkAll {H : Type} : List (DataW H) → Nat
  | [] => 0
  | d :: r => uptoBulk d + uptoBulkAll r
def uptoBulkEntries {H : Type} : List (Lit × DataW H) → Nat
  | [] => 0
  | x :: r => uptoBulkEntry x + uptoBulkEntries r
def uptoBulkEntry {H : Type} : Lit × DataW H → Nat
  | (.string bytes, d) => bytes.length + uptoBulk d + 1
  | (_, d) => uptoBulk d + 1
 end
def uptoSmall : (H : Type) → List (DataW H) → Bool := fun _ ds => decide (uptoBulkAll ds ≤ 1048576)
def OpenSpec.upto (s : _root_.Go.ChangeSpec) : _root_.Go.OpenSpec := { _root_.Go.OpenSpec.ofChange s with cond := some uptoSmall }

/-- 'manometerlaw17.TokenMints', WHERE WHAT IT READS IS OF BULK AT MOST 1048576: true; the input reads as it did. -/
def tokenMintsUptoRow : OpenClaim := { program := "ytkkomfomjpcbfaadoor", sum := "168f324034cf48b9c78a1af61bda9a644d823f8e2c22a1e20fcb481542273e60", func := "manometer/manometerlaw17.TokenMints", spec := "tokenMints", named := ["manometer/hash.rounds"], apart := false, laid := [("manometer/hash.rounds", laid_manometer_hash_rounds)], narrowed := true }
def TokenMintsUptoSaid : Prop := tokenMintsUptoRow.holds Tryd.pinned (OpenSpec.upto tokenMintsSpec)

/-- 'manometerlaw17.TokenReads', WHERE WHAT IT READS IS OF BULK AT MOST 1048576: true; the input reads as it did. -/
def tokenReadsUptoRow : OpenClaim := { program := "ytkkomfomjpcbfaadoor", sum := "168f324034cf48b9c78a1af61bda9a644d823f8e2c22a1e20fcb481542273e60", func := "manometer/manometerlaw17.TokenReads", spec := "tokenReads", named := ["manometer/hash.rounds"], apart := false, laid := [("manometer/hash.rounds", laid_manometer_hash_rounds)], narrowed := true }
def TokenReadsUptoSaid : Prop := tokenReadsUptoRow.holds Tryd.pinned (OpenSpec.upto tokenReadsSpec)

/-- 'manometerlaw17.TokenVerifies', WHERE WHAT IT READS IS OF BULK AT MOST 1048576: true; the input reads as it did. -/
def tokenVerifiesUptoRow : OpenClaim := { program := "ytkkomfomjpcbfaadoor", sum := "168f324034cf48b9c78a1af61bda9a644d823f8e2c22a1e20fcb481542273e60", func := "manometer/manometerlaw17.TokenVerifies", spec := "tokenVerifies", named := ["manometer/hash.rounds"], apart := false, laid := [("manometer/hash.rounds", laid_manometer_hash_rounds)], narrowed := true }
def TokenVerifiesUptoSaid : Prop := tokenVerifiesUptoRow.holds Tryd.pinned (OpenSpec.upto tokenVerifiesSpec)

/-- 'manometerlaw17.TokenMinted', WHERE WHAT IT READS IS OF BULK AT MOST 1048576: true; the input reads as it did. -/
def tokenMintedUptoRow : OpenClaim := { program := "ytkkomfomjpcbfaadoor", sum := "168f324034cf48b9c78a1af61bda9a644d823f8e2c22a1e20fcb481542273e60", func := "manometer/manometerlaw17.TokenMinted", spec := "tokenMinted", named := ["manometer/hash.rounds"], apart := false, laid := [("manometer/hash.rounds", laid_manometer_hash_rounds)], narrowed := true }
def TokenMintedUptoSaid : Prop := tokenMintedUptoRow.holds Tryd.pinned (OpenSpec.upto tokenMintedSpec)

/-- 'manometerlaw17.TokenOne', WHERE WHAT IT READS IS OF BULK AT MOST 1048576: true; the input reads as it did. -/
def tokenOneUptoRow : OpenClaim := { program := "ytkkomfomjpcbfaadoor", sum := "168f324034cf48b9c78a1af61bda9a644d823f8e2c22a1e20fcb481542273e60", func := "manometer/manometerlaw17.TokenOne", spec := "tokenOne", named := ["manometer/hash.rounds"], apart := false, laid := [("manometer/hash.rounds", laid_manometer_hash_rounds)], narrowed := true }
def TokenOneUptoSaid : Prop := tokenOneUptoRow.holds Tryd.pinned (OpenSpec.upto tokenOneSpec)

/-- 'manometerlaw17.TokenTurns', WHERE WHAT IT READS IS OF BULK AT MOST 1048576: true; the input reads as it did. -/
def tokenTurnsUptoRow : OpenClaim := { program := "ytkkomfomjpcbfaadoor", sum := "168f324034cf48b9c78a1af61bda9a644d823f8e2c22a1e20fcb481542273e60", func := "manometer/manometerlaw17.TokenTurns", spec := "tokenTurns", named := ["manometer/hash.rounds"], apart := false, laid := [("manometer/hash.rounds", laid_manometer_hash_rounds)], narrowed := true }
def TokenTurnsUptoSaid : Prop := tokenTurnsUptoRow.holds Tryd.pinned (OpenSpec.upto tokenTurnsSpec)

end Rows
end Go.Proofs.YtkkomfomjpcbfaaDoor
