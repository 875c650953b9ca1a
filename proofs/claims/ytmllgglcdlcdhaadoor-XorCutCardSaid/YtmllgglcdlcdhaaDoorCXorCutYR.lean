import Derived.Test.YtmllgglcdlcdhaaDoorCXorCutPU0
import Derived.Test.YtmllgglcdlcdhaaDoorCXorCutYA
import Derived.Test.YtmllgglcdlcdhaaDoorCXorCutPXLx2
import Derived.Test.YtmllgglcdlcdhaaDoorCXorCutPXLx3
import Derived.Lib.LaidU8
import Derived.LaidMore
import Derived.Test.YtmllgglcdlcdhaaDoorCXorCutPXLx1
import Derived.Test.YtmllgglcdlcdhaaDoorRows
namespace Go.Proofs.YtmllgglcdlcdhaaDoor.Bq
end Go.Proofs.YtmllgglcdlcdhaaDoor.Bq
section
namespace Go.Proofs.YtmllgglcdlcdhaaDoor.Pu
open Go Go.RowKit Go.Proofs.YtmllgglcdlcdhaaDoor Go.Proofs.YtmllgglcdlcdhaaDoor.PXL Go.Proofs.YtmllgglcdlcdhaaDoorW.PrintWords Go.Proofs.YtmllgglcdlcdhaaDoorW.PrintLast Go.Proofs.YtmllgglcdlcdhaaDoorW.PrintMore Bq Xs
set_option linter.unusedVariables false
set_option linter.unusedSimpArgs false
theorem put_ok (l : List S39) (h : l.all smpOkB = true) (hl : l.length ≤ 50000) : xor_Put.f l = some (packL (smps l), 0) := by
  unfold xor_Put.f
  rw [if_neg (by omega), if_pos hl, if_pos h]
theorem bytB (b : List Int) (hb : Byts b) : b.all (fun x => decide (0 ≤ x ∧ x < 256)) = true := List.all_eq_true.2 fun x hx => decide_eq_true (hb x hx)
theorem get_ok (b : List Int) (hb : Byts b) (hl : b.length ≤ 10000) : xor_Get.f b = some (getS b) := by
  unfold xor_Get.f
  rw [if_pos hl, if_pos (bytB b hb)]
theorem eq_ok (a b : List Int) (ha : a.length ≤ 1000000000) (hb : b.length ≤ 1000000000) : manometerref01_Equal.f a b = some (decide (a = b)) := by
  unfold manometerref01_Equal.f
  rw [if_pos (by omega), if_pos (by omega)]
theorem pack_len (L : List (Int × Nat)) (h : ∀ x ∈ L, SmpOk x) : (packL L).length ≤ 3 + 20 * L.length := by
  have h1 := all_len L st0 st0_ok h
  unfold packL packB packI
  rw [ints_length, pack_length, List.length_append, nb_length]
  omega
theorem byts_pack (L : List (Int × Nat)) : Byts (packL L) := byts_packI _
theorem pack_nb16 : pack (nb 0 16) = [0, 0] := by
  rw [show nb 0 16 = nb 0 8 ++ nb 0 8 from rfl, pack_append 1 _ _ (by rw [nb_length]), pack_short (nb 0 8) (by decide) (by decide)]
  rfl
theorem pack_two : packL [] = [0, 0] := by
  have h : packB [] = nb 0 16 := by unfold packB allB; rw [List.append_nil]; rfl
  unfold packL packI
  rw [h, pack_nb16]
  rfl
theorem uv0 : uv 0 = [0] := uv_small 0 (by decide)
theorem pack_one : packL [(0, 4607182418800017408)] = [0, 1, 0, 63, 240, 0, 0, 0, 0, 0, 0] := by
  have h : packB [(0, 4607182418800017408)] = nb 0 8 ++ (nb 1 8 ++ (nb 0 8 ++ (nb 63 8 ++ (nb 240 8 ++ (nb 0 8 ++ (nb 0 8 ++ (nb 0 8 ++ (nb 0 8 ++ (nb 0 8 ++ nb 0 8))))))))) := by
    have h1 : addB st0 0 4607182418800017408 = (bytesB (ints (uv (zigI 0).toNat)) ++ nb 4607182418800017408 64, ⟨1, 0, 4607182418800017408, 0, st0.w⟩) := rfl
    unfold packB allB
    simp only [h1]
    rw [show (zigI 0).toNat = 0 from rfl, uv0]
    show nb 1 16 ++ ((nb 0 8 ++ [] ++ nb 4607182418800017408 64) ++ []) = _
    decide +kernel
  unfold packL packI
  rw [h]
  have e : ∀ (n : Nat) (t : List Bool), pack (nb n 8 ++ t) = byte8 (nb n 8) :: pack t := fun n t => by
    rw [pack_append 1 _ _ (by rw [nb_length]), pack_short (nb n 8) (fun h => by have := congrArg List.length h; rw [nb_length] at this; cases this) (by rw [nb_length]; decide)]
    rfl
  have e0 : pack (nb 0 8) = [byte8 (nb 0 8)] := pack_short (nb 0 8) (by decide) (by decide)
  rw [e, e, e, e, e, e, e, e, e, e, e0]
  decide +kernel
theorem live08 : manometerlaw08_live.f = some true := by
  have o1 : ([⟨0, 4607182418800017408⟩] : List S39).all smpOkB = true := by decide
  have hs : smps [(⟨0, 4607182418800017408⟩ : S39)] = [(0, 4607182418800017408)] := rfl
  have hok : ∀ x ∈ [((0 : Int), (4607182418800017408 : Nat))], SmpOk x := fun x hx => by rw [List.mem_singleton.1 hx]; exact ⟨by decide, by decide⟩
  have hg : getL (packL [(0, 4607182418800017408)]) = .ok [(0, 4607182418800017408)] := get_back _ (by decide) hok
  have hgs : getS (packL [(0, 4607182418800017408)]) = (smpB [(0, 4607182418800017408)], 0) := by unfold getS; rw [hg]
  unfold manometerlaw08_live.f
  rw [put_ok [] rfl (by decide), put_ok _ o1 (by decide), hs]
  simp only [Option.bind_some]
  rw [get_ok _ (byts_pack _) (by rw [pack_one]; decide), hgs, show smps [] = [] from rfl, pack_two, pack_one, eq_ok _ _ (by decide) (by decide), eq_ok _ _ (by decide) (by decide)]
  rfl
theorem getX_er {w : Nat} {r : List Bool} {e : Int} (h : getX w r = .error e) : e ≠ 0 := by
  unfold getX at h
  split at h
  · injection h with h; omega
  · cases h
theorem signT_good (w : Nat) {σ : Sg} (h : goodE σ) : goodE (signT w σ).2 := getT_good w h
theorem changeT_good : ∀ (ws : List Nat) {σ : Sg} (h : goodE σ), goodE (changeT ws σ).2
  | [], σ, h => signT_good 64 h
  | w :: ws, σ, h => by
    unfold changeT
    split
    · split
      · exact getT_good 1 h
      · exact signT_good w (getT_good 1 h)
    · exact changeT_good ws (getT_good 1 h)
theorem turnT_good (w : Win) {σ : Sg} (h : goodE σ) : goodE (turnT w σ).2.2 := by
  have h1 := getT_good 1 h
  have h2 := getT_good 1 h1
  unfold turnT
  split
  · exact h1
  · unfold turnT2
    split
    · split
      · exact getT_good _ h2
      · exact failT_good (by decide) h2
    · unfold turnT4
      have h3 := formT_good (getT 5 (getT 1 (getT 1 σ).2).2).1 (wideT (getT 6 (getT 5 (getT 1 (getT 1 σ).2).2).2).1) (getT_good 6 (getT_good 5 h2))
      generalize formT _ _ _ = z at h3
      cases z with
      | error e => exact h3
      | ok r => exact getT_good _ (σ := .ok r) (fun e h => by cases h)
theorem fewR_er : ∀ (f : Nat) (b : List Int) {r : List Bool} {e : Int} (h : fewR f b r = .error e), e ≠ 0
  | 0, b, r, e, h => by injection h with h; omega
  | f + 1, b, r, e, h => by
    unfold fewR at h
    cases hg : getX 8 r with
    | error e2 => rw [hg] at h; injection h with h; rw [← h]; exact getX_er hg
    | ok v =>
      obtain ⟨x, r1⟩ := v
      rw [hg] at h
      simp only at h
      split at h
      · cases h
      · split at h
        · exact fewR_er f _ h
        · injection h with h; omega
theorem fewT_good {σ : Sg} (h : goodE σ) : goodE (fewT σ).2 := by
  cases σ with
  | error e => exact h
  | ok r =>
    unfold fewT
    simp only
    cases hg : fewR 11 [] r with
    | error e => intro e2 h2; injection h2 with h2; rw [← h2]; exact fewR_er 11 [] hg
    | ok v => intro e2 h2; cases h2
theorem nextT_good (s : St) {σ : Sg} (h : goodE σ) : goodE (nextT s σ).2.2 := by
  unfold nextT
  split
  · exact getT_good 64 (fewT_good h)
  · split
    · exact turnT_good _ (fewT_good h)
    · exact turnT_good _ (changeT_good _ h)
theorem nextR_er {s : St} {r : List Bool} {e : Int} (h : nextR s r = .error e) : e ≠ 0 := nextT_good s (σ := .ok r) (fun e h => by cases h) e (nextT_no h)
theorem allR_er : ∀ (n : Nat) (s : St) {r : List Bool} {e : Int} (h : allR n s r = .error e), e ≠ 0
  | 0, s, r, e, h => by cases h
  | n + 1, s, r, e, h => by
    unfold allR at h
    cases hg : nextR s r with
    | error e2 => rw [hg] at h; injection h with h; rw [← h]; exact nextR_er hg
    | ok v =>
      obtain ⟨x, s1, r1⟩ := v
      rw [hg] at h
      simp only at h
      cases hg2 : allR n s1 r1 with
      | error e2 => rw [hg2] at h; injection h with h; rw [← h]; exact allR_er n s1 hg2
      | ok v => rw [hg2] at h; cases h
theorem getL_er {b : List Int} {e : Int} (h : getL b = .error e) : e ≠ 0 := by
  unfold getL at h
  cases hu : unpackR (bitsOf b (8 * b.length)) with
  | error e2 =>
    rw [hu] at h
    injection h with h
    rw [← h]
    unfold unpackR at hu
    cases hg : getX 16 (bitsOf b (8 * b.length)) with
    | error e3 => rw [hg] at hu; injection hu with hu; rw [← hu]; exact getX_er hg
    | ok v => obtain ⟨n, r⟩ := v; rw [hg] at hu; exact allR_er n st0 hu
  | ok v =>
    obtain ⟨l, r⟩ := v
    rw [hu] at h
    simp only at h
    split at h
    · cases h
    · injection h with h; omega
end Go.Proofs.YtmllgglcdlcdhaaDoor.Pu
end
section
namespace Go.Proofs.YtmllgglcdlcdhaaDoor.Pu
open Go Go.RowKit Go.Proofs.YtmllgglcdlcdhaaDoor Go.Proofs.YtmllgglcdlcdhaaDoor.PXL Go.Proofs.YtmllgglcdlcdhaaDoorW.PrintWords Go.Proofs.YtmllgglcdlcdhaaDoorW.PrintLast Go.Proofs.YtmllgglcdlcdhaaDoorW.PrintMore Bq Xs
set_option linter.unusedVariables false
set_option linter.unusedSimpArgs false
theorem rdL (l : List (List Int)) (n : Nat) : rd_L5 l (n : Int) = l.getD n [] := by unfold rd_L5; rw [Int.toNat_natCast]
theorem Join_l0 (ps : List (List Int)) (hp : ps.length ≤ 1000000) : ∀ (d n : Nat) (acc : List Int), n + d = ps.length → acc.length + (ps.drop n).flatten.length ≤ 100000000000 → Ev (fun k => manometerref01_Join.l0 k acc ps (ps.length : Int) (n : Int)) (acc ++ (ps.drop n).flatten)
  | d, n, acc, hd, hl => by
    refine Ev.step (f := _) (fun k => by simp only [manometerref01_Join.l0]; rfl) ?_
    by_cases hlt : n < ps.length
    · obtain ⟨d, rfl⟩ : ∃ e, d = e + 1 := ⟨d - 1, by omega⟩
      have e1 : (n : Int) < (ps.length : Int) := by omega
      have e2 : (0 : Int) ≤ (n : Int) := by omega
      have e3 : ps.drop n = ps.getD n [] :: ps.drop (n + 1) := by
        rw [List.drop_eq_getElem_cons hlt, List.getD_eq_getElem?_getD, List.getElem?_eq_getElem hlt]
        rfl
      rw [e3, List.flatten_cons, List.length_append] at hl
      have e4 : acc.length + (ps.getD n []).length < 140737488355328 := by omega
      simp only [if_pos e1, if_pos e2, rdL, if_pos e4, w1 n (by omega)]
      rw [e3, List.flatten_cons, ← List.append_assoc]
      exact Join_l0 ps hp d (n + 1) _ (by omega) (by rw [List.length_append]; omega)
    · simp only [if_neg (show ¬ (n : Int) < (ps.length : Int) by omega)]
      rw [List.drop_of_length_le (by omega)]
      simp only [List.flatten_nil, List.append_nil]
      exact Ev.now _
theorem Join_ev (ps : List (List Int)) (hp : ps.length ≤ 1000000) (hl : ps.flatten.length ≤ 100000000000) : Ev (fun k => manometerref01_Join.f k ps) ps.flatten := by
  have := Join_l0 ps hp ps.length 0 [] (by omega) (by simpa using hl)
  simpa [manometerref01_Join.f] using this
theorem cut_fin (L : List (Int × Nat)) (hL : ∀ x ∈ L, SmpOk x) (hl : L.length ≤ 200) (more : List Int) (hb : Byts more) (hm : more.length ≤ 100) :
    ((xor_Get.f (packL L ++ more)).bind fun bt => (some ((bt.2 == 0) == ((more.length : Int) == 0)))) = some true := by
  have hp := pack_len L hL
  rw [get_ok _ (fun x hx => (List.mem_append.1 hx).elim (byts_pack L x) (hb x)) (by rw [List.length_append]; omega)]
  simp only [Option.bind_some]
  have hg := get_more L (by omega) hL more
  unfold getS
  rw [hg]
  by_cases hm0 : more = []
  · rw [if_pos hm0, hm0]
    rfl
  · rw [if_neg hm0]
    have : ((more.length : Int) == 0) = false := beq_false_of_ne (fun e => hm0 (List.eq_nil_of_length_eq_zero (by omega)))
    rw [this]
    rfl
theorem xorCut (l : List S39) (c : Int) (more : List Int) (h : l.all smpOkB = true) (hb : Byts more) : ∃ k, manometerlaw08_XorCut.f k l c more = some true := by
  have hj1 : ∀ k, manometerlaw08_XorCut.j0 (k + 1) l c more true = some true := fun k => by rw [manometerlaw08_XorCut.j0]; rw [if_pos rfl, live08]; rfl
  by_cases h1 : (l.length : Int) > 200
  · refine ⟨1, ?_⟩
    unfold manometerlaw08_XorCut.f
    rw [live08]
    simp only [Option.bind_some, if_true]
    rw [if_pos h1]
    exact hj1 0
  · by_cases h2 : (more.length : Int) > 100
    · refine ⟨1, ?_⟩
      unfold manometerlaw08_XorCut.f
      rw [live08]
      simp only [Option.bind_some, if_true]
      rw [if_neg h1, decide_eq_true h2]
      exact hj1 0
    · have hsl := smps_length l
      have hok := smps_ok l h
      have hp := pack_len (smps l) hok
      have hfin := cut_fin (smps l) hok (by omega) more hb (by omega)
      obtain ⟨K, hK⟩ := Join_ev [packL (smps l), more] (by simp) (by simp; omega)
      have hfl : [packL (smps l), more].flatten = packL (smps l) ++ more := by simp
      rw [hfl] at hK
      refine ⟨K + 4, ?_⟩
      unfold manometerlaw08_XorCut.f
      rw [live08]
      simp only [Option.bind_some, if_true]
      rw [if_neg h1, decide_eq_false h2]
      rw [manometerlaw08_XorCut.j0]
      rw [if_neg (by decide), put_ok l h (by omega)]
      simp only [Option.bind_some]
      rw [if_pos trivial]
      generalize hP : packL (smps l) = P at hK hfin hp ⊢
      have hno : manometerlaw08_XorCut.j1 (K + 3) c more P false = some true := by
        rw [manometerlaw08_XorCut.j1]
        rw [if_neg (by decide), show manometerref01_Join.f (K + 2) [P, more] = some (P ++ more) from hK (K + 2) (by omega)]
        exact hfin
      by_cases hc : c ≥ 0
      · rw [if_pos hc]
        by_cases hc2 : c < (P.length : Int)
        · rw [decide_eq_true hc2]
          rw [manometerlaw08_XorCut.j1]
          obtain ⟨e, he⟩ := get_cut (smps l) (by omega) hok c.toNat (by rw [hP]; omega)
          rw [hP] at he
          have hs : getS (P.take c.toNat) = ([], e) := by unfold getS; rw [he]
          rw [if_pos rfl, if_pos hc, if_pos (by omega), get_ok _ (fun x hx => by rw [← hP] at hx; exact byts_pack _ x (List.mem_of_mem_take hx)) (by rw [List.length_take]; omega), hs]
          simp only [Option.bind_some]
          rw [if_neg (getL_er he)]
          have hd : decide (((([] : List S39).length : Nat) : Int) > 0) = false := by decide
          rw [hd]
          rw [manometerlaw08_XorCut.j2]
          rw [if_neg (by decide), show manometerref01_Join.f (K + 1) [P, more] = some (P ++ more) from hK (K + 1) (by omega)]
          exact hfin
        · rw [decide_eq_false hc2]
          exact hno
      · rw [if_neg hc]
        exact hno
end Go.Proofs.YtmllgglcdlcdhaaDoor.Pu
end
section
namespace Go.Proofs.YtmllgglcdlcdhaaDoor
open Go.RowKit Go.Proofs.YtmllgglcdlcdhaaDoorW.PrintWords Go.Proofs.YtmllgglcdlcdhaaDoorW.PrintMore Go.Proofs.YtmllgglcdlcdhaaDoorW.PrintLast Go.Deep
set_option linter.unusedVariables false
section
variable {H : Type} {enc : TypeId × Value → H} {P : Program} {w : World} {base : Nat} {spare : Nat → Bool} {held : Bool}
theorem opens_iso {α β : Type} {d : Kd α} {wf : α → Prop} {t : TypeId} (f : β → α) (g : α → β) (hg : ∀ y, f (g y) = y) (h : Opens enc P w base spare held t d wf) :
    Opens enc P w base spare held t (Kd.iso d f) (fun x => wf (f x)) := by
  intro fuel cs x hx
  obtain ⟨a, hK, hw⟩ := h fuel cs x hx
  refine ⟨g a, ?_, ?_⟩
  · show d.K w (f (g a)) cs
    rw [hg]
    exact hK
  · show wf (f (g a))
    rw [hg]
    exact hw
end
end Go.Proofs.YtmllgglcdlcdhaaDoor
end
section
namespace Go.Proofs.YtmllgglcdlcdhaaDoor
open Go.RowKit
set_option linter.unusedVariables false
theorem table_reads {P : Program} {w : World} {name : String} {g n : Nat} {t e : TypeId} {k : IntKind} {zs : List Int} (h : Lib.VarReads P w name (.agg (zs.map fun z => .lit (.int k z)))) (hg : P.globalNamed name = some g) (ht : (P.globals[g]?).map (·.type) = some t)
    (ha : P.underlying t = some (.array n e)) (he : P.underlying e = some (.int k)) (hc : P.cellsOf e = 1) : ∀ i, i < n → w.cell? ⟨g, i, none⟩ = some (.int k (zs.getD i 0)) := by
  obtain ⟨g', t', cs, fuel, p, h1, h2, h3, h4⟩ := h
  obtain rfl := Option.some.inj (hg.symm.trans h1)
  obtain rfl := Option.some.inj (ht.symm.trans h2)
  intro i hi
  obtain ⟨f2, d, q, hd, htr⟩ := Lib.array_elem ha h4 i hi
  obtain ⟨z, hz, hx, _⟩ := DataW.trod_int he htr
  rw [List.getElem?_map] at hd
  obtain ⟨z', hz', hzd⟩ := Option.map_eq_some_iff.1 hd
  have hzz : z' = z := by
    have h5 : d = .lit (.int k z) := congrArg Prod.fst hx
    rw [h5] at hzd
    injection hzd with h6
    injection h6
  subst hzz
  rw [hc, Nat.mul_one] at hz
  have h7 : cs.toList[i]? = some (.int k z') := by
    have := congrArg (·[0]?) hz
    simpa [List.getElem?_take, List.getElem?_drop] using this
  have h8 := World.var?_cell h1 h3 i
  rw [h8, List.getD_eq_getElem?_getD, hz']
  simpa using h7
theorem laid_plain {P : Program} {w : World} {l : List (String × DataW Unit)} (h : laidMetH P l w) (hf : (l.filter fun x => x.2.handleName?.isSome).isEmpty = true) : laidMet P l w := by
  unfold laidMetH at h
  split at h
  · exact h
  · rename_i h2
    rw [h2] at hf
    cases hf
end Go.Proofs.YtmllgglcdlcdhaaDoor
end
section
namespace Go.Proofs.YtmllgglcdlcdhaaDoor
open Go Go.RowKit
set_option linter.unusedVariables false
set_option maxRecDepth 100000
theorem tab_of {w : World} (h : laidMetH Tryd.prog [("math/bits.deBruijn64tab", Rows.laid_math_bits_deBruijn64tab)] w) : Tab w := by
  intro j hj
  have hr := Lib.laidMet.reads (laid_plain h (by kernel_rfl)) (List.Mem.head _)
  have h := table_reads (zs := Lib.deBruijn64tab.map Int.ofNat) (show Lib.VarReads _ w _ (.agg ((Lib.deBruijn64tab.map Int.ofNat).map fun z => .lit (.int .u8 z))) from hr) (g := 0) (by kernel_rfl) (by kernel_rfl) Tryd.underlying113 Tryd.underlying5 (by kernel_rfl) j hj
  rw [h, List.getD_eq_getElem?_getD, List.getD_eq_getElem?_getD, List.getElem?_map, List.getElem?_eq_getElem hj]
  rfl
theorem smp_wf {l : List PXL.S39} (h : ∀ x ∈ l, (Lit.int .i64 x.f0).wf = true ∧ (Lit.int .u64 x.f1).wf = true) : l.all PXL.smpOkB = true := by
  refine List.all_eq_true.2 fun x hx => decide_eq_true ⟨wf_i64 (h x hx).1, ?_⟩
  obtain ⟨m, e, hm⟩ := wf_u64 (h x hx).2
  exact ⟨by omega, by omega⟩
end Go.Proofs.YtmllgglcdlcdhaaDoor
end
