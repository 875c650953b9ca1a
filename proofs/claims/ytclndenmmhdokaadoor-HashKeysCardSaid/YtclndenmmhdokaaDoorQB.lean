/- Bytes and their bits. -/
import Derived.Test.YtclndenmmhdokaaDoorQ
namespace Go.Proofs.YtclndenmmhdokaaDoor
open Go Bq
set_option linter.unusedVariables false

def Byts (xs : List Int) : Prop := ∀ x ∈ xs, 0 ≤ x ∧ x < 256
def bitAt (xs : List Int) (i : Nat) : Bool := ((xs.getD (i / 8) 0).toNat).testBit (7 - i % 8)
def bitsOf (xs : List Int) (n : Nat) : List Bool := (List.range n).map (bitAt xs)
theorem bitsOf_length (xs : List Int) (n : Nat) : (bitsOf xs n).length = n := by simp [bitsOf]
theorem bitsOf_get (xs : List Int) (n i : Nat) (h : i < n) : (bitsOf xs n)[i]'(by rw [bitsOf_length]; exact h) = bitAt xs i := by simp [bitsOf]

end Go.Proofs.YtclndenmmhdokaaDoor
