/-
  DERIVED. GIVEN WITH THE SEED: THE CARDS: each row of YtbpmgaaipkenkaaDoorRows.lean that lists a variable, with what it lists TIED to the program's text (the seventh form; the later family's looks); each row that meets fmt, with fmt's text TOLD by the authors' own Lean function (tested against real Go, not proved from fmt's source: count such statements apart). THE CARD IS WHAT COUNTS. Prove the row's statement (the work); the ties are given (YtbpmgaaipkenkaaDoorTie.lean); close each card by the builder's one call (the guide's Derived/Test/ToyasCard.lean, 'card_holds'). Laid BY PROGRAM, IN A SANDBOX (cutbox-door.mjs). By AI agents, Wed Nov 11 2026. No macro, syntax, notation, axiom, sorry.
-/
import Derived.Test.YtbpmgaaipkenkaaDoorRows
import GoSem.ClaimSeven
namespace Go.Proofs.YtbpmgaaipkenkaaDoor
namespace Rows

/-- THE TIED CARD OF 'manometerlaw19.LimitSums'. -/
def limitSumsCard : Claim7 := { stood := { row := limitSumsRow, standIns := [], harness := (true, "1e4413f4b4df54c76e0d7d1d965032fa81a12854d90aa0ef31e6e65c062a485e"), looks := false }, kinds := [], alts := [], laidByText := true, laidKinds := [.data, .pinned], laidTests := true, laidLooks := .later }
def LimitSumsCardSaid : Prop := Claim7.holds Tryd.pinned (.plain (OpenSpec.ofChange limitSumsSpec)) limitSumsCard

/-- THE TIED CARD OF 'manometerlaw19.LimitBound'. -/
def limitBoundCard : Claim7 := { stood := { row := limitBoundRow, standIns := [], harness := (true, "1e4413f4b4df54c76e0d7d1d965032fa81a12854d90aa0ef31e6e65c062a485e"), looks := false }, kinds := [], alts := [], laidByText := true, laidKinds := [.data, .pinned], laidTests := true, laidLooks := .later }
def LimitBoundCardSaid : Prop := Claim7.holds Tryd.pinned (.plain (OpenSpec.ofChange limitBoundSpec)) limitBoundCard

/-- THE TIED CARD OF 'manometerlaw19.LimitFills'. -/
def limitFillsCard : Claim7 := { stood := { row := limitFillsRow, standIns := [], harness := (true, "1e4413f4b4df54c76e0d7d1d965032fa81a12854d90aa0ef31e6e65c062a485e"), looks := false }, kinds := [], alts := [], laidByText := true, laidKinds := [.data, .pinned], laidTests := true, laidLooks := .later }
def LimitFillsCardSaid : Prop := Claim7.holds Tryd.pinned (.plain (OpenSpec.ofChange limitFillsSpec)) limitFillsCard

/-- THE TIED CARD OF 'manometerlaw19.LimitBuckets'. -/
def limitBucketsCard : Claim7 := { stood := { row := limitBucketsRow, standIns := [], harness := (true, "1e4413f4b4df54c76e0d7d1d965032fa81a12854d90aa0ef31e6e65c062a485e"), looks := false }, kinds := [], alts := [], laidByText := true, laidKinds := [.data, .pinned], laidTests := true, laidLooks := .later }
def LimitBucketsCardSaid : Prop := Claim7.holds Tryd.pinned (.plain (OpenSpec.ofChange limitBucketsSpec)) limitBucketsCard

/-- THE TIED CARD OF 'manometerlaw19.LimitBytes'. -/
def limitBytesCard : Claim7 := { stood := { row := limitBytesRow, standIns := [], harness := (true, "1e4413f4b4df54c76e0d7d1d965032fa81a12854d90aa0ef31e6e65c062a485e"), looks := false }, kinds := [], alts := [], laidByText := true, laidKinds := [.data, .pinned], laidTests := true, laidLooks := .later }
def LimitBytesCardSaid : Prop := Claim7.holds Tryd.pinned (.plain (OpenSpec.ofChange limitBytesSpec)) limitBytesCard

/-- THE TIED CARD OF 'manometerlaw19.LimitNever'. -/
def limitNeverCard : Claim7 := { stood := { row := limitNeverRow, standIns := [], harness := (true, "1e4413f4b4df54c76e0d7d1d965032fa81a12854d90aa0ef31e6e65c062a485e"), looks := false }, kinds := [], alts := [], laidByText := true, laidKinds := [.data, .pinned], laidTests := true, laidLooks := .later }
def LimitNeverCardSaid : Prop := Claim7.holds Tryd.pinned (.plain (OpenSpec.ofChange limitNeverSpec)) limitNeverCard

/-- THE TIED CARD OF 'manometerlaw19.LimitSeries'. -/
def limitSeriesCard : Claim7 := { stood := { row := limitSeriesRow, standIns := [], harness := (true, "1e4413f4b4df54c76e0d7d1d965032fa81a12854d90aa0ef31e6e65c062a485e"), looks := false }, kinds := [], alts := [], laidByText := true, laidKinds := [.data, .pinned], laidTests := true, laidLooks := .later }
def LimitSeriesCardSaid : Prop := Claim7.holds Tryd.pinned (.plain (OpenSpec.ofChange limitSeriesSpec)) limitSeriesCard

/-- THE TIED CARD OF 'manometerlaw19.LimitNone'. -/
def limitNoneCard : Claim7 := { stood := { row := limitNoneRow, standIns := [], harness := (true, "1e4413f4b4df54c76e0d7d1d965032fa81a12854d90aa0ef31e6e65c062a485e"), looks := false }, kinds := [], alts := [], laidByText := true, laidKinds := [.data, .pinned], laidTests := true, laidLooks := .later }
def LimitNoneCardSaid : Prop := Claim7.holds Tryd.pinned (.plain (OpenSpec.ofChange limitNoneSpec)) limitNoneCard

/-- THE SECOND FORM's CARD OF 'manometerlaw19.LimitSums'. -/
def limitSumsUptoCard : Claim7 := { stood := { row := limitSumsUptoRow, standIns := [], harness := (true, "1e4413f4b4df54c76e0d7d1d965032fa81a12854d90aa0ef31e6e65c062a485e"), looks := false }, kinds := [], alts := [], laidByText := true, laidKinds := [.data, .pinned], laidTests := true, laidLooks := .later }
def LimitSumsUptoCardSaid : Prop := Claim7.holds Tryd.pinned (.plain (OpenSpec.upto limitSumsSpec)) limitSumsUptoCard

/-- THE SECOND FORM's CARD OF 'manometerlaw19.LimitBound'. -/
def limitBoundUptoCard : Claim7 := { stood := { row := limitBoundUptoRow, standIns := [], harness := (true, "1e4413f4b4df54c76e0d7d1d965032fa81a12854d90aa0ef31e6e65c062a485e"), looks := false }, kinds := [], alts := [], laidByText := true, laidKinds := [.data, .pinned], laidTests := true, laidLooks := .later }
def LimitBoundUptoCardSaid : Prop := Claim7.holds Tryd.pinned (.plain (OpenSpec.upto limitBoundSpec)) limitBoundUptoCard

/-- THE SECOND FORM's CARD OF 'manometerlaw19.LimitFills'. -/
def limitFillsUptoCard : Claim7 := { stood := { row := limitFillsUptoRow, standIns := [], harness := (true, "1e4413f4b4df54c76e0d7d1d965032fa81a12854d90aa0ef31e6e65c062a485e"), looks := false }, kinds := [], alts := [], laidByText := true, laidKinds := [.data, .pinned], laidTests := true, laidLooks := .later }
def LimitFillsUptoCardSaid : Prop := Claim7.holds Tryd.pinned (.plain (OpenSpec.upto limitFillsSpec)) limitFillsUptoCard

/-- THE SECOND FORM's CARD OF 'manometerlaw19.LimitBuckets'. -/
def limitBucketsUptoCard : Claim7 := { stood := { row := limitBucketsUptoRow, standIns := [], harness := (true, "1e4413f4b4df54c76e0d7d1d965032fa81a12854d90aa0ef31e6e65c062a485e"), looks := false }, kinds := [], alts := [], laidByText := true, laidKinds := [.data, .pinned], laidTests := true, laidLooks := .later }
def LimitBucketsUptoCardSaid : Prop := Claim7.holds Tryd.pinned (.plain (OpenSpec.upto limitBucketsSpec)) limitBucketsUptoCard

/-- THE SECOND FORM's CARD OF 'manometerlaw19.LimitBytes'. -/
def limitBytesUptoCard : Claim7 := { stood := { row := limitBytesUptoRow, standIns := [], harness := (true, "1e4413f4b4df54c76e0d7d1d965032fa81a12854d90aa0ef31e6e65c062a485e"), looks := false }, kinds := [], alts := [], laidByText := true, laidKinds := [.data, .pinned], laidTests := true, laidLooks := .later }
def LimitBytesUptoCardSaid : Prop := Claim7.holds Tryd.pinned (.plain (OpenSpec.upto limitBytesSpec)) limitBytesUptoCard

/-- THE SECOND FORM's CARD OF 'manometerlaw19.LimitNever'. -/
def limitNeverUptoCard : Claim7 := { stood := { row := limitNeverUptoRow, standIns := [], harness := (true, "1e4413f4b4df54c76e0d7d1d965032fa81a12854d90aa0ef31e6e65c062a485e"), looks := false }, kinds := [], alts := [], laidByText := true, laidKinds := [.data, .pinned], laidTests := true, laidLooks := .later }
def LimitNeverUptoCardSaid : Prop := Claim7.holds Tryd.pinned (.plain (OpenSpec.upto limitNeverSpec)) limitNeverUptoCard

/-- THE SECOND FORM's CARD OF 'manometerlaw19.LimitSeries'. -/
def limitSeriesUptoCard : Claim7 := { stood := { row := limitSeriesUptoRow, standIns := [], harness := (true, "1e4413f4b4df54c76e0d7d1d965032fa81a12854d90aa0ef31e6e65c062a485e"), looks := false }, kinds := [], alts := [], laidByText := true, laidKinds := [.data, .pinned], laidTests := true, laidLooks := .later }
def LimitSeriesUptoCardSaid : Prop := Claim7.holds Tryd.pinned (.plain (OpenSpec.upto limitSeriesSpec)) limitSeriesUptoCard

/-- THE SECOND FORM's CARD OF 'manometerlaw19.LimitNone'. -/
def limitNoneUptoCard : Claim7 := { stood := { row := limitNoneUptoRow, standIns := [], harness := (true, "1e4413f4b4df54c76e0d7d1d965032fa81a12854d90aa0ef31e6e65c062a485e"), looks := false }, kinds := [], alts := [], laidByText := true, laidKinds := [.data, .pinned], laidTests := true, laidLooks := .later }
def LimitNoneUptoCardSaid : Prop := Claim7.holds Tryd.pinned (.plain (OpenSpec.upto limitNoneSpec)) limitNoneUptoCard
end Rows
end Go.Proofs.YtbpmgaaipkenkaaDoor
