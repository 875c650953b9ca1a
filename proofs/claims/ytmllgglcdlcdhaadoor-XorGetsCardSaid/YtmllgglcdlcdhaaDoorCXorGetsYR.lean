import Derived.Test.YtmllgglcdlcdhaaDoorCXorGetsYQ
import Derived.Test.YtmllgglcdlcdhaaDoorCXorGetsPXLx9
import Derived.Test.YtmllgglcdlcdhaaDoorCXorGetsPU0
import Derived.Lib.LaidU8
import Derived.LaidMore
import Derived.Test.YtmllgglcdlcdhaaDoorCXorGetsYG
import Derived.Test.YtmllgglcdlcdhaaDoorCXorGetsYA
import Derived.Test.YtmllgglcdlcdhaaDoorRows
namespace Go.Proofs.YtmllgglcdlcdhaaDoor.Bq
end Go.Proofs.YtmllgglcdlcdhaaDoor.Bq
section
namespace Go.Proofs.YtmllgglcdlcdhaaDoor.Pu
open Go Go.RowKit Go.Proofs.YtmllgglcdlcdhaaDoor Go.Proofs.YtmllgglcdlcdhaaDoor.PXL Go.Proofs.YtmllgglcdlcdhaaDoorW.PrintWords Go.Proofs.YtmllgglcdlcdhaaDoorW.PrintLast Go.Proofs.YtmllgglcdlcdhaaDoorW.PrintMore Bq Xs
set_option linter.unusedVariables false
set_option linter.unusedSimpArgs false
theorem rget_ok (b : List Int) (hb : Byts b) (hl : b.length ≤ 10000) : manometerref08_Get.f b = some (getS b) := by
  unfold manometerref08_Get.f
  rw [if_pos hl, if_pos (bytB b hb)]
theorem getS_len (b : List Int) (hl : b.length ≤ 10000) : (getS b).1.length ≤ 1000000 := by
  unfold getS
  cases hg : getL b with
  | error e => simp
  | ok l =>
    have h := (getL_ok hg).2
    show (smpB l).length ≤ _
    rw [smpB_length]
    omega
theorem xorGets (b : List Int) (hb : Byts b) : ∃ k, manometerlaw08_XorGets.f k b = some true := by
  by_cases h2 : (b.length : Int) > 3000
  · refine ⟨1, ?_⟩
    unfold manometerlaw08_XorGets.f
    rw [live08]
    simp only [Option.bind_some, if_true]
    rw [decide_eq_true h2, manometerlaw08_XorGets.j0, if_pos rfl, live08]
    rfl
  · obtain ⟨K1, hK1⟩ := Join_ev [b] (by simp) (by simp; omega)
    obtain ⟨K2, hK2⟩ := same_self (getS b).1 (getS_len b (by omega))
    have hfl : [b].flatten = b := by simp
    rw [hfl] at hK1
    refine ⟨K1 + K2 + 1, ?_⟩
    unfold manometerlaw08_XorGets.f
    rw [live08]
    simp only [Option.bind_some, if_true]
    rw [decide_eq_false h2, manometerlaw08_XorGets.j0, if_neg (by decide), show manometerref01_Join.f (K1 + K2) [b] = some b from hK1 (K1 + K2) (by omega)]
    simp only [Option.bind_some]
    rw [get_ok b hb (by omega), rget_ok b hb (by omega)]
    simp only [Option.bind_some]
    rw [show manometerlaw08_same.f (K1 + K2) (getS b).1 (getS b).1 = some true from hK2 (K1 + K2) (by omega)]
    simp only [Option.bind_some, if_true]
    rw [eq_ok _ _ (by omega) (by omega), decide_eq_true rfl]
    rfl
end Go.Proofs.YtmllgglcdlcdhaaDoor.Pu
end
section
namespace Go.Proofs.YtmllgglcdlcdhaaDoor
open Go.RowKit
set_option linter.unusedVariables false
theorem table_reads {P : Program} {w : World} {name : String} {g n : Nat} {t e : TypeId} {k : IntKind} {zs : List Int} (h : Lib.VarReads P w name (.agg (zs.map fun z => .lit (.int k z)))) (hg : P.globalNamed name = some g) (ht : (P.globals[g]?).map (·.type) = some t)
    (ha : P.underlying t = some (.array n e)) (he : P.underlying e = some (.int k)) (hc : P.cellsOf e = 1) : ∀ i, i < n → w.cell? ⟨g, i, none⟩ = some (.int k (zs.getD i 0)) := by
  obtain ⟨g', t', cs, fuel, p, h1, h2, h3, h4⟩ := h
  obtain rfl := Option.some.inj (hg.symm.trans h1)
  obtain rfl := Option.some.inj (ht.symm.trans h2)
  intro i hi
  obtain ⟨f2, d, q, hd, htr⟩ := Lib.array_elem ha h4 i hi
  obtain ⟨z, hz, hx, _⟩ := DataW.trod_int he htr
  rw [List.getElem?_map] at hd
  obtain ⟨z', hz', hzd⟩ := Option.map_eq_some_iff.1 hd
  have hzz : z' = z := by
    have h5 : d = .lit (.int k z) := congrArg Prod.fst hx
    rw [h5] at hzd
    injection hzd with h6
    injection h6
  subst hzz
  rw [hc, Nat.mul_one] at hz
  have h7 : cs.toList[i]? = some (.int k z') := by
    have := congrArg (·[0]?) hz
    simpa [List.getElem?_take, List.getElem?_drop] using this
  have h8 := World.var?_cell h1 h3 i
  rw [h8, List.getD_eq_getElem?_getD, hz']
  simpa using h7
theorem laid_plain {P : Program} {w : World} {l : List (String × DataW Unit)} (h : laidMetH P l w) (hf : (l.filter fun x => x.2.handleName?.isSome).isEmpty = true) : laidMet P l w := by
  unfold laidMetH at h
  split at h
  · exact h
  · rename_i h2
    rw [h2] at hf
    cases hf
end Go.Proofs.YtmllgglcdlcdhaaDoor
end
section
namespace Go.Proofs.YtmllgglcdlcdhaaDoor
open Go Go.RowKit
set_option linter.unusedVariables false
set_option maxRecDepth 100000
theorem tab_of {w : World} (h : laidMetH Tryd.prog [("math/bits.deBruijn64tab", Rows.laid_math_bits_deBruijn64tab)] w) : Tab w := by
  intro j hj
  have hr := Lib.laidMet.reads (laid_plain h (by kernel_rfl)) (List.Mem.head _)
  have h := table_reads (zs := Lib.deBruijn64tab.map Int.ofNat) (show Lib.VarReads _ w _ (.agg ((Lib.deBruijn64tab.map Int.ofNat).map fun z => .lit (.int .u8 z))) from hr) (g := 0) (by kernel_rfl) (by kernel_rfl) Tryd.underlying113 Tryd.underlying5 (by kernel_rfl) j hj
  rw [h, List.getD_eq_getElem?_getD, List.getD_eq_getElem?_getD, List.getElem?_map, List.getElem?_eq_getElem hj]
  rfl
end Go.Proofs.YtmllgglcdlcdhaaDoor
end
