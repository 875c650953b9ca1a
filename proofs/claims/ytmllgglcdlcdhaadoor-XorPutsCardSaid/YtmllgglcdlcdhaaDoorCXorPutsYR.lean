import Derived.Test.YtmllgglcdlcdhaaDoorCXorPutsYA
import Derived.Test.YtmllgglcdlcdhaaDoorCXorPutsPXLx2
import Derived.Test.YtmllgglcdlcdhaaDoorCXorPutsS6
import Derived.Test.YtmllgglcdlcdhaaDoorCXorPutsYG
import Derived.Test.YtmllgglcdlcdhaaDoorCXorPutsYI
import Derived.Test.YtmllgglcdlcdhaaDoorCXorPutsHC
import Derived.Lib.LaidU8
import Derived.LaidMore
import Derived.Test.YtmllgglcdlcdhaaDoorRows
namespace Go.Proofs.YtmllgglcdlcdhaaDoor.Bq
end Go.Proofs.YtmllgglcdlcdhaaDoor.Bq
section
namespace Go.Proofs.YtmllgglcdlcdhaaDoor.PXL
open Go.RowKit Go.Proofs.YtmllgglcdlcdhaaDoorW.PrintWords Go.Proofs.YtmllgglcdlcdhaaDoorW.PrintLast Go.Proofs.YtmllgglcdlcdhaaDoorW.PrintMore
attribute [local go_sem] max2_int min2_int max_two min_two max_three min_three max_four min_four
set_option linter.unusedVariables false
set_option linter.unusedSimpArgs false
end Go.Proofs.YtmllgglcdlcdhaaDoor.PXL
end
section
namespace Go.Proofs.YtmllgglcdlcdhaaDoor.Pu
open Go Go.RowKit Go.Proofs.YtmllgglcdlcdhaaDoor Go.Proofs.YtmllgglcdlcdhaaDoor.PXL Go.Proofs.YtmllgglcdlcdhaaDoorW.PrintWords Go.Proofs.YtmllgglcdlcdhaaDoorW.PrintLast Go.Proofs.YtmllgglcdlcdhaaDoorW.PrintMore Bq Xs
set_option linter.unusedVariables false
set_option linter.unusedSimpArgs false
theorem put_ok (l : List S39) (h : l.all smpOkB = true) (hl : l.length ≤ 50000) : xor_Put.f l = some (packL (smps l), 0) := by
  unfold xor_Put.f
  rw [if_neg (by omega), if_pos hl, if_pos h]
theorem put_long (l : List S39) (hl : 65535 < l.length) : xor_Put.f l = some ([], 3) := by unfold xor_Put.f; rw [if_pos hl]
theorem rput_ok (l : List S39) (h : l.all smpOkB = true) (hl : l.length ≤ 50000) : manometerref08_Put.f l = some (packL (smps l), 0) := by
  unfold manometerref08_Put.f
  rw [if_neg (by omega), if_pos hl, if_pos h]
theorem rput_long (l : List S39) (hl : 65535 < l.length) : manometerref08_Put.f l = some ([], 3) := by unfold manometerref08_Put.f; rw [if_pos hl]
theorem bytB (b : List Int) (hb : Byts b) : b.all (fun x => decide (0 ≤ x ∧ x < 256)) = true := List.all_eq_true.2 fun x hx => decide_eq_true (hb x hx)
theorem get_ok (b : List Int) (hb : Byts b) (hl : b.length ≤ 10000) : xor_Get.f b = some (getS b) := by
  unfold xor_Get.f
  rw [if_pos hl, if_pos (bytB b hb)]
theorem eq_ok (a b : List Int) (ha : a.length ≤ 1000000000) (hb : b.length ≤ 1000000000) : manometerref01_Equal.f a b = some (decide (a = b)) := by
  unfold manometerref01_Equal.f
  rw [if_pos (by omega), if_pos (by omega)]
theorem pack_len (L : List (Int × Nat)) (h : ∀ x ∈ L, SmpOk x) : (packL L).length ≤ 3 + 20 * L.length := by
  have h1 := all_len L st0 st0_ok h
  unfold packL packB packI
  rw [ints_length, pack_length, List.length_append, nb_length]
  omega
theorem byts_pack (L : List (Int × Nat)) : Byts (packL L) := byts_packI _
theorem pack_nb16 : pack (nb 0 16) = [0, 0] := by
  rw [show nb 0 16 = nb 0 8 ++ nb 0 8 from rfl, pack_append 1 _ _ (by rw [nb_length]), pack_short (nb 0 8) (by decide) (by decide)]
  rfl
theorem pack_two : packL [] = [0, 0] := by
  have h : packB [] = nb 0 16 := by unfold packB allB; rw [List.append_nil]; rfl
  unfold packL packI
  rw [h, pack_nb16]
  rfl
theorem uv0 : uv 0 = [0] := uv_small 0 (by decide)
theorem pack_one : packL [(0, 4607182418800017408)] = [0, 1, 0, 63, 240, 0, 0, 0, 0, 0, 0] := by
  have h : packB [(0, 4607182418800017408)] = nb 0 8 ++ (nb 1 8 ++ (nb 0 8 ++ (nb 63 8 ++ (nb 240 8 ++ (nb 0 8 ++ (nb 0 8 ++ (nb 0 8 ++ (nb 0 8 ++ (nb 0 8 ++ nb 0 8))))))))) := by
    have h1 : addB st0 0 4607182418800017408 = (bytesB (ints (uv (zigI 0).toNat)) ++ nb 4607182418800017408 64, ⟨1, 0, 4607182418800017408, 0, st0.w⟩) := rfl
    unfold packB allB
    simp only [h1]
    rw [show (zigI 0).toNat = 0 from rfl, uv0]
    show nb 1 16 ++ ((nb 0 8 ++ [] ++ nb 4607182418800017408 64) ++ []) = _
    decide +kernel
  unfold packL packI
  rw [h]
  have e : ∀ (n : Nat) (t : List Bool), pack (nb n 8 ++ t) = byte8 (nb n 8) :: pack t := fun n t => by
    rw [pack_append 1 _ _ (by rw [nb_length]), pack_short (nb n 8) (fun h => by have := congrArg List.length h; rw [nb_length] at this; cases this) (by rw [nb_length]; decide)]
    rfl
  have e0 : pack (nb 0 8) = [byte8 (nb 0 8)] := pack_short (nb 0 8) (by decide) (by decide)
  rw [e, e, e, e, e, e, e, e, e, e, e0]
  decide +kernel
theorem live08 : manometerlaw08_live.f = some true := by
  have o1 : ([⟨0, 4607182418800017408⟩] : List S39).all smpOkB = true := by decide
  have hs : smps [(⟨0, 4607182418800017408⟩ : S39)] = [(0, 4607182418800017408)] := rfl
  have hok : ∀ x ∈ [((0 : Int), (4607182418800017408 : Nat))], SmpOk x := fun x hx => by rw [List.mem_singleton.1 hx]; exact ⟨by decide, by decide⟩
  have hg : getL (packL [(0, 4607182418800017408)]) = .ok [(0, 4607182418800017408)] := get_back _ (by decide) hok
  have hgs : getS (packL [(0, 4607182418800017408)]) = (smpB [(0, 4607182418800017408)], 0) := by unfold getS; rw [hg]
  unfold manometerlaw08_live.f
  rw [put_ok [] rfl (by decide), put_ok _ o1 (by decide), hs]
  simp only [Option.bind_some]
  rw [get_ok _ (byts_pack _) (by rw [pack_one]; decide), hgs, show smps [] = [] from rfl, pack_two, pack_one, eq_ok _ _ (by decide) (by decide), eq_ok _ _ (by decide) (by decide)]
  rfl
theorem xorPuts (l : List S39) (h : l.all smpOkB = true) : ∃ k, manometerlaw08_XorPuts.f k l = some true := by
  refine ⟨1, ?_⟩
  have hj1 : manometerlaw08_XorPuts.j0 1 l true = some true := by rw [manometerlaw08_XorPuts.j0]; rw [if_pos rfl, live08]; rfl
  have hj2 : l.length ≤ 50000 ∨ 65535 < l.length → manometerlaw08_XorPuts.j0 1 l false = some true := by
    intro hl
    rw [manometerlaw08_XorPuts.j0]
    rw [if_neg (by decide)]
    rcases hl with hl | hl
    · have hp := pack_len (smps l) (smps_ok l h)
      rw [smps_length] at hp
      rw [put_ok l h hl, rput_ok l h hl]
      simp only [Option.bind_some]
      rw [eq_ok _ _ (by omega) (by omega), decide_eq_true rfl]
      rfl
    · rw [put_long l hl, rput_long l hl]
      simp only [Option.bind_some]
      rw [eq_ok _ _ (by decide) (by decide)]
      rfl
  unfold manometerlaw08_XorPuts.f
  rw [live08]
  simp only [Option.bind_some, if_true]
  by_cases h1 : (l.length : Int) > 200
  · rw [if_pos h1]
    by_cases h2 : (l.length : Int) ≤ 65535
    · rw [decide_eq_true h2]; exact hj1
    · rw [decide_eq_false h2]; exact hj2 (.inr (by omega))
  · rw [if_neg h1]
    exact hj2 (.inl (by omega))
end Go.Proofs.YtmllgglcdlcdhaaDoor.Pu
end
section
namespace Go.Proofs.YtmllgglcdlcdhaaDoor
open Go.RowKit Go.Proofs.YtmllgglcdlcdhaaDoorW.PrintWords Go.Proofs.YtmllgglcdlcdhaaDoorW.PrintMore Go.Proofs.YtmllgglcdlcdhaaDoorW.PrintLast Go.Deep
set_option linter.unusedVariables false
section
variable {H : Type} {enc : TypeId × Value → H} {P : Program} {w : World} {base : Nat} {spare : Nat → Bool} {held : Bool}
theorem opens_iso {α β : Type} {d : Kd α} {wf : α → Prop} {t : TypeId} (f : β → α) (g : α → β) (hg : ∀ y, f (g y) = y) (h : Opens enc P w base spare held t d wf) :
    Opens enc P w base spare held t (Kd.iso d f) (fun x => wf (f x)) := by
  intro fuel cs x hx
  obtain ⟨a, hK, hw⟩ := h fuel cs x hx
  refine ⟨g a, ?_, ?_⟩
  · show d.K w (f (g a)) cs
    rw [hg]
    exact hK
  · show wf (f (g a))
    rw [hg]
    exact hw
end
end Go.Proofs.YtmllgglcdlcdhaaDoor
end
section
namespace Go.Proofs.YtmllgglcdlcdhaaDoor
open Go.RowKit
set_option linter.unusedVariables false
theorem table_reads {P : Program} {w : World} {name : String} {g n : Nat} {t e : TypeId} {k : IntKind} {zs : List Int} (h : Lib.VarReads P w name (.agg (zs.map fun z => .lit (.int k z)))) (hg : P.globalNamed name = some g) (ht : (P.globals[g]?).map (·.type) = some t)
    (ha : P.underlying t = some (.array n e)) (he : P.underlying e = some (.int k)) (hc : P.cellsOf e = 1) : ∀ i, i < n → w.cell? ⟨g, i, none⟩ = some (.int k (zs.getD i 0)) := by
  obtain ⟨g', t', cs, fuel, p, h1, h2, h3, h4⟩ := h
  obtain rfl := Option.some.inj (hg.symm.trans h1)
  obtain rfl := Option.some.inj (ht.symm.trans h2)
  intro i hi
  obtain ⟨f2, d, q, hd, htr⟩ := Lib.array_elem ha h4 i hi
  obtain ⟨z, hz, hx, _⟩ := DataW.trod_int he htr
  rw [List.getElem?_map] at hd
  obtain ⟨z', hz', hzd⟩ := Option.map_eq_some_iff.1 hd
  have hzz : z' = z := by
    have h5 : d = .lit (.int k z) := congrArg Prod.fst hx
    rw [h5] at hzd
    injection hzd with h6
    injection h6
  subst hzz
  rw [hc, Nat.mul_one] at hz
  have h7 : cs.toList[i]? = some (.int k z') := by
    have := congrArg (·[0]?) hz
    simpa [List.getElem?_take, List.getElem?_drop] using this
  have h8 := World.var?_cell h1 h3 i
  rw [h8, List.getD_eq_getElem?_getD, hz']
  simpa using h7
theorem laid_plain {P : Program} {w : World} {l : List (String × DataW Unit)} (h : laidMetH P l w) (hf : (l.filter fun x => x.2.handleName?.isSome).isEmpty = true) : laidMet P l w := by
  unfold laidMetH at h
  split at h
  · exact h
  · rename_i h2
    rw [h2] at hf
    cases hf
end Go.Proofs.YtmllgglcdlcdhaaDoor
end
section
namespace Go.Proofs.YtmllgglcdlcdhaaDoor
open Go Go.RowKit
set_option linter.unusedVariables false
set_option maxRecDepth 100000
theorem tab_of {w : World} (h : laidMetH Tryd.prog [("math/bits.deBruijn64tab", Rows.laid_math_bits_deBruijn64tab)] w) : Tab w := by
  intro j hj
  have hr := Lib.laidMet.reads (laid_plain h (by kernel_rfl)) (List.Mem.head _)
  have h := table_reads (zs := Lib.deBruijn64tab.map Int.ofNat) (show Lib.VarReads _ w _ (.agg ((Lib.deBruijn64tab.map Int.ofNat).map fun z => .lit (.int .u8 z))) from hr) (g := 0) (by kernel_rfl) (by kernel_rfl) Tryd.underlying113 Tryd.underlying5 (by kernel_rfl) j hj
  rw [h, List.getD_eq_getElem?_getD, List.getD_eq_getElem?_getD, List.getElem?_map, List.getElem?_eq_getElem hj]
  rfl
theorem smp_wf {l : List PXL.S39} (h : ∀ x ∈ l, (Lit.int .i64 x.f0).wf = true ∧ (Lit.int .u64 x.f1).wf = true) : l.all PXL.smpOkB = true := by
  refine List.all_eq_true.2 fun x hx => decide_eq_true ⟨wf_i64 (h x hx).1, ?_⟩
  obtain ⟨m, e, hm⟩ := wf_u64 (h x hx).2
  exact ⟨by omega, by omega⟩
end Go.Proofs.YtmllgglcdlcdhaaDoor
end
