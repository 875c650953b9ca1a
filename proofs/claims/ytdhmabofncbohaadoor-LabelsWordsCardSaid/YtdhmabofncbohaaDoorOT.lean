/- A listed table of integers, cell by cell. -/
import Derived.Test.YtdhmabofncbohaaDoorO
import Derived.Lib.LaidU8
import Derived.LaidMore
namespace Go.Proofs.YtdhmabofncbohaaDoor
open Go.RowKit
set_option linter.unusedVariables false

theorem table_reads {P : Program} {w : World} {name : String} {g n : Nat} {t e : TypeId} {k : IntKind} {zs : List Int} (h : Lib.VarReads P w name (.agg (zs.map fun z => .lit (.int k z)))) (hg : P.globalNamed name = some g) (ht : (P.globals[g]?).map (·.type) = some t)
    (ha : P.underlying t = some (.array n e)) (he : P.underlying e = some (.int k)) (hc : P.cellsOf e = 1) : ∀ i, i < n → w.cell? ⟨g, i, none⟩ = some (.int k (zs.getD i 0)) := by
  obtain ⟨g', t', cs, fuel, p, h1, h2, h3, h4⟩ := h
  obtain rfl := Option.some.inj (hg.symm.trans h1)
  obtain rfl := Option.some.inj (ht.symm.trans h2)
  intro i hi
  obtain ⟨f2, d, q, hd, htr⟩ := Lib.array_elem ha h4 i hi
  obtain ⟨z, hz, hx, _⟩ := DataW.trod_int he htr
  rw [List.getElem?_map] at hd
  obtain ⟨z', hz', hzd⟩ := Option.map_eq_some_iff.1 hd
  have hzz : z' = z := by
    have h5 : d = .lit (.int k z) := congrArg Prod.fst hx
    rw [h5] at hzd
    injection hzd with h6
    injection h6
  subst hzz
  rw [hc, Nat.mul_one] at hz
  have h7 : cs.toList[i]? = some (.int k z') := by
    have := congrArg (·[0]?) hz
    simpa [List.getElem?_take, List.getElem?_drop] using this
  have h8 := World.var?_cell h1 h3 i
  rw [h8, List.getD_eq_getElem?_getD, hz']
  simpa using h7
theorem laid_plain {P : Program} {w : World} {l : List (String × DataW Unit)} (h : laidMetH P l w) (hf : (l.filter fun x => x.2.handleName?.isSome).isEmpty = true) : laidMet P l w := by
  unfold laidMetH at h
  split at h
  · exact h
  · rename_i h2
    rw [h2] at hf
    cases hf
end Go.Proofs.YtdhmabofncbohaaDoor
