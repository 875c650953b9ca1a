import Derived.Test.YtkkomfomjpcbfaaDoorCTokenMintedPLAx0
import Derived.Test.YtkkomfomjpcbfaaDoorCTokenMintedPTSx1
import Derived.Test.YtkkomfomjpcbfaaDoorCTokenMintedPTSx5
import Derived.Test.YtkkomfomjpcbfaaDoorCTokenMintedPTSx7
import Derived.Test.YtkkomfomjpcbfaaDoorCTokenMintedPTSx8
import Derived.Test.YtkkomfomjpcbfaaDoorCTokenMintedPTSx16
import Derived.Laws.RangeAny
import Derived.Lib.OthersKept
import Derived.Test.YtkkomfomjpcbfaaDoorCTokenMintedG1
import Derived.Test.YtkkomfomjpcbfaaDoorCTokenMintedTT
import Derived.Test.YtkkomfomjpcbfaaDoorCTokenMintedY
import Derived.Test.YtkkomfomjpcbfaaDoorCTokenMintedTY
import Derived.Test.YtkkomfomjpcbfaaDoorCTokenMintedPTSx18
import Derived.Test.YtkkomfomjpcbfaaDoorCTokenMintedQ
import Derived.Lib.LaidU8
import Derived.LaidMore
import Derived.Test.YtkkomfomjpcbfaaDoorRows
namespace Go.Proofs.YtkkomfomjpcbfaaDoor.Bq
end Go.Proofs.YtkkomfomjpcbfaaDoor.Bq
section
namespace Go.Proofs.YtkkomfomjpcbfaaDoor.PTS
open Go.RowKit Go.Proofs.YtkkomfomjpcbfaaDoorW.PrintWords Go.Proofs.YtkkomfomjpcbfaaDoorW.PrintLast Go.Proofs.YtkkomfomjpcbfaaDoorW.PrintMore
attribute [local go_sem] max2_int min2_int max_two min_two max_three min_three max_four min_four
set_option linter.unusedVariables false
set_option linter.unusedSimpArgs false
attribute [local go_sem high] eqA26
end Go.Proofs.YtkkomfomjpcbfaaDoor.PTS
end
section
namespace Go.Proofs.YtkkomfomjpcbfaaDoor.Pu
open Go Go.RowKit Go.Lib Go.Proofs.YtkkomfomjpcbfaaDoor Go.Proofs.YtkkomfomjpcbfaaDoor.PTS Go.Proofs.YtkkomfomjpcbfaaDoorW.PrintWords Go.Proofs.YtkkomfomjpcbfaaDoorW.PrintLast Go.Proofs.YtkkomfomjpcbfaaDoorW.PrintMore Bq
set_option linter.unusedVariables false
set_option linter.unusedSimpArgs false
theorem drop_len {α : Type} (a b : List α) : (a ++ b).drop a.length = b := List.drop_left
theorem take_len {α : Type} (a b : List α) : (a ++ b).take a.length = a := List.take_left
theorem parse_body (tn : ByteArray) (key ex sc id : Int) (hc : chkB tn key sc = 0) (hx : -9223372036854775808 ≤ ex ∧ ex ≤ 9223372036854775807) (hi : 0 ≤ id ∧ id < 18446744073709551616) :
    parseB (bodyL tn key ex sc id) = some (tn, key, ex, sc, id) := by
  obtain ⟨c1, c2, c3⟩ := chk_ok hc
  have ht := ten_size c1
  have hsc : sc = ((sc.toNat : Nat) : Int) := by omega
  obtain ⟨U1, hU1⟩ : ∃ U, U = Bq.ints (uv tn.size) := ⟨_, rfl⟩
  obtain ⟨U2, hU2⟩ : ∃ U, U = Bq.ints (uv key.toNat) := ⟨_, rfl⟩
  obtain ⟨U3, hU3⟩ : ∃ U, U = Bq.ints (uv id.toNat) := ⟨_, rfl⟩
  have hb : bodyL tn key ex sc id = U1 ++ (bytesOf tn ++ (U2 ++ (vI ex ++ (sc :: U3)))) := by
    unfold bodyL
    rw [← hU1, ← hU2, ← hU3]
    simp
  have g1 : ∀ r, uget (U1 ++ r) = ((tn.size : Int), (U1.length : Int), 0) := fun r => by
    rw [hU1, ints_length]
    exact uget_uv tn.size (by omega) r
  have g2 : ∀ r, uget (U2 ++ r) = (key, (U2.length : Int), 0) := fun r => by
    rw [hU2, ints_length, uget_uv key.toNat (by omega) r, show ((key.toNat : Nat) : Int) = key by omega]
  have g3 : uget U3 = (id, (U3.length : Int), 0) := by
    have h := uget_uv id.toNat (by omega) []
    rw [List.append_nil, show ((id.toNat : Nat) : Int) = id by omega] at h
    rw [hU3, ints_length]
    exact h
  have hl : (bytesOf tn).length = tn.size := bytesOf_length tn
  rw [hb]
  unfold parseB
  rw [g1]
  simp only [if_pos trivial, Int.toNat_natCast, drop_len]
  rw [if_neg (by simp only [List.length_append, hl]; omega), ← hl, take_len, drop_len, sN_bytesOf]
  unfold parse2
  rw [g2]
  simp only [if_pos trivial, Int.toNat_natCast, drop_len]
  rw [if_neg (by omega)]
  unfold parse3
  rw [varG_vI ex hx.1 hx.2]
  simp only [if_pos trivial, Int.toNat_natCast, drop_len]
  rw [if_neg (by simp only [List.length_append, List.length_cons]; omega)]
  show parse4 tn key ex sc U3 = _
  unfold parse4
  rw [g3]
  simp only [if_pos trivial, hc]
theorem first_app : ∀ (a b : Str), firstD a = none → firstD (a ++ 46 :: b) = some a.length
  | [], b, h => rfl
  | c :: a, b, h => by
    unfold firstD at h
    split at h
    · cases h
    · rename_i hc
      have h2 : firstD a = none := by simpa using h
      show firstD (c :: (a ++ 46 :: b)) = _
      unfold firstD
      rw [if_neg hc, first_app a b h2]
      rfl
theorem first_un {l : Str} (h : (unL l 0 0 []).2 = 0) : firstD l = none := by
  cases hf : firstD l with
  | none => rfl
  | some j =>
    rw [un_dot hf] at h
    cases h
theorem text_B (sec : ByteArray) (L : List Int) : B (tokText sec L) = [109, 116, 49, 46] ++ (B (strOfNums (armor L)) ++ 46 :: B (strOfNums (armor (tokSum sec L)))) := by
  unfold tokText tokHead
  rw [B_append, B_append, B_append]
  show ([109, 116, 49, 46] ++ B (strOfNums (armor L))) ++ [46] ++ B (strOfNums (armor (tokSum sec L))) = _
  simp
theorem read_text (sec tn : ByteArray) (key ex sc id : Int) (hc : chkB tn key sc = 0) (hx : -9223372036854775808 ≤ ex ∧ ex ≤ 9223372036854775807) (hi : 0 ≤ id ∧ id < 18446744073709551616) :
    readB (tokText sec (bodyL tn key ex sc id)) = some (tn, key, ex, sc, id) := by
  obtain ⟨c1, c2, c3⟩ := chk_ok hc
  have hb := body_byts tn key ex sc id c3
  have u1 := armor_un (bodyL tn key ex sc id) hb
  have u2 := armor_un (tokSum sec (bodyL tn key ex sc id)) (Sha.byts_sum _)
  have hs : (tokSum sec (bodyL tn key ex sc id)).length = 32 := Sha.sum_length _
  have hf := first_un (show (unL (B (strOfNums (armor (bodyL tn key ex sc id)))) 0 0 []).2 = 0 by rw [u1])
  unfold readB
  rw [text_B]
  have t4 : ([109, 116, 49, 46] ++ (B (strOfNums (armor (bodyL tn key ex sc id))) ++ 46 :: B (strOfNums (armor (tokSum sec (bodyL tn key ex sc id))))) : Str).take 4 = [109, 116, 49, 46] := take_len [109, 116, 49, 46] _
  have d4 : ([109, 116, 49, 46] ++ (B (strOfNums (armor (bodyL tn key ex sc id))) ++ 46 :: B (strOfNums (armor (tokSum sec (bodyL tn key ex sc id))))) : Str).drop 4 = B (strOfNums (armor (bodyL tn key ex sc id))) ++ 46 :: B (strOfNums (armor (tokSum sec (bodyL tn key ex sc id)))) := drop_len [109, 116, 49, 46] _
  rw [t4, if_pos rfl, d4]
  unfold readR
  rw [first_app _ _ hf]
  simp only
  rw [take_len, show ∀ (a b : Str) (c : UInt8), (a ++ c :: b).drop (a.length + 1) = b from fun a b c => by rw [List.drop_append]; simp]
  unfold goodP
  rw [u1, u2]
  simp only [hs, decide_true, Bool.and_self, if_pos trivial]
  exact parse_body tn key ex sc id hc hx hi
theorem mint_read {kid : Int} {sec tn : ByteArray} {key ex sc id : Int} (hx : -9223372036854775808 ≤ ex ∧ ex ≤ 9223372036854775807) (hi : 0 ≤ id ∧ id < 18446744073709551616) (h : (mintB kid sec tn key ex sc id).2 = 0) :
    readB (mintB kid sec tn key ex sc id).1 = some (tn, key, ex, sc, id) ∧ signedB (mintB kid sec tn key ex sc id).1 kid sec = true := by
  obtain ⟨m1, m2, m3, m4⟩ := mint_ok h
  have hr : readB (mintB kid sec tn key ex sc id).1 = some (tn, key, ex, sc, id) := by
    rw [m4]
    exact read_text sec tn key ex sc id m2 hx hi
  refine ⟨hr, ?_⟩
  unfold signedB
  rw [hr]
  simp only [decide_eq_true h, Bool.true_and, beq_self_eq_true]
theorem mint_size {kid : Int} {sec tn : ByteArray} {key ex sc id : Int} (hx : -9223372036854775808 ≤ ex ∧ ex ≤ 9223372036854775807) (hi : 0 ≤ id ∧ id < 18446744073709551616) (h : (mintB kid sec tn key ex sc id).2 = 0) :
    50 < (mintB kid sec tn key ex sc id).1.size ∧ (mintB kid sec tn key ex sc id).1.size ≤ 1000 := by
  obtain ⟨m1, m2, m3, m4⟩ := mint_ok h
  obtain ⟨c1, c2, c3⟩ := chk_ok m2
  have hl := body_len tn key ex sc id (ten_size c1) c2 hx hi
  have hp : 0 < (bodyL tn key ex sc id).length := by
    have := uv_pos tn.size
    unfold bodyL
    simp only [List.length_append, ints_length]
    omega
  have hp2 : 4 ≤ (bodyL tn key ex sc id).length := by
    have h1 := uv_pos tn.size
    have h2 := uv_pos key.toNat
    have h3 : 0 < (vI ex).length := by unfold vI; rw [ints_length]; exact uv_pos _
    unfold bodyL
    simp only [List.length_append, ints_length, List.length_singleton]
    omega
  rw [m4]
  show 50 < (tokText _ _).size ∧ (tokText _ _).size ≤ 1000
  rw [tokText_size]
  omega
theorem nil_toList : ((⟨#[]⟩ : ByteArray).toList == ([] : List UInt8)) = true := by rw [toList_B]; rfl
theorem minted_end (t : ByteArray) (tn : ByteArray) (key ex sc id now need kid : Int) (sec : ByteArray) (K : List Own) (hK : K.length ≤ 100) (hs : t.size ≤ 1000) (hr : readB t = some (tn, key, ex, sc, id)) (hg : signedB t kid sec = true) (hf : findK tn key K 180 = (some ⟨kid, sec⟩, 0)) :
    verB t K now need = if now ≥ ex then badE 171 else if needB sc need = true then (tn, key, ex, sc, id, 0) else badE 172 := by
  unfold verB
  rw [hr]
  simp only
  rw [hf]
  show endB t now need (tn, key, ex, sc, id) kid sec = _
  unfold endB
  rw [if_pos hg]
  rfl
theorem Minted_j2 (now need : Int) (tn : ByteArray) (key ex sc id : Int) (v : Clm) (hv : v = if now ≥ ex then badE 171 else if needB sc need = true then (tn, key, ex, sc, id, 0) else badE 172) :
    Ev (fun k => manometerlaw17_TokenMinted.j2 k now need v.2.2.2.2.2 false tn key ex sc id v.1 v.2.1 v.2.2.1 v.2.2.2.1 v.2.2.2.2.1) true := by
  refine Ev.step (f := _) (fun k => by simp only [manometerlaw17_TokenMinted.j2]; rfl) ?_
  simp only [Bool.false_eq_true, if_false]
  by_cases h1 : now ≥ ex
  · rw [if_pos h1] at hv
    subst hv
    simp only [if_pos h1, badE, if_pos trivial, nil_toList, beq_self_eq_true, Bool.and_self]
    exact Ev.now _
  · rw [if_neg h1] at hv
    simp only [if_neg h1]
    by_cases h2 : needB sc need = true
    · rw [if_pos h2] at hv
      subst hv
      have h3 : (Go.bits .and .u8 sc (Go.bits .and .u8 need 7)) = (Go.bits .and .u8 need 7) := of_decide_eq_true h2
      simp only [if_pos h3, if_pos trivial, beq_self_eq_true, Bool.and_self]
      exact Ev.now _
    · rw [if_neg h2] at hv
      subst hv
      have h3 : ¬ (Go.bits .and .u8 sc (Go.bits .and .u8 need 7)) = (Go.bits .and .u8 need 7) := fun h => h2 (decide_eq_true h)
      simp only [if_neg h3, badE, if_pos trivial, nil_toList, beq_self_eq_true, Bool.and_self]
      exact Ev.now _
theorem Minted_l0 (t tn : ByteArray) (key ex sc id now need kid : Int) (sec : ByteArray) (O : List Own) (hO : O.length ≤ 20) (hkk : key = kid) (hs : t.size ≤ 1000) (hr : readB t = some (tn, key, ex, sc, id)) (hg : signedB t kid sec = true) : ∀ (d n : Nat) (K : List Own), n + d = O.length → K.length ≤ 21 + n → (∀ e, findK tn key K e = (some ⟨kid, sec⟩, 0)) →
    Ev (fun k => manometerlaw17_TokenMinted.l0 k now need t K O (O.length : Int) (n : Int) kid sec tn key ex sc id) true := by
  intro d
  induction d with
  | zero =>
    intro n K hn hK hF
    have hv := minted_end t tn key ex sc id now need kid sec K (by omega) hs hr hg (hF 180)
    refine Ev.step (f := _) (fun k => by simp only [manometerlaw17_TokenMinted.l0]; rfl) ?_
    simp only [if_neg (show ¬ ((n : Int) < (O.length : Int)) by omega)]
    refine Ev.bind (Verify_ev t (by omega) K (by omega) now need) (Ev.bind (Read_ev t (by omega)) ?_)
    rw [hr]
    simp only [outR, if_pos trivial, beq_self_eq_true, Bool.not_true, Bool.or_self, Bool.false_eq_true, if_false]
    refine Ev.bind (Signed_ev t kid sec (by omega)).1 ?_
    rw [hg]
    exact Minted_j2 now need tn key ex sc id _ hv
  | succ d ih =>
    intro n K hn hK hF
    have hlt : n < O.length := by omega
    have e1 : wrap64 ((n : Int) + 1) = ((n + 1 : Nat) : Int) := w1 n (by omega)
    refine Ev.step (f := _) (fun k => by simp only [manometerlaw17_TokenMinted.l0]; rfl) ?_
    simp only [if_pos (show (n : Int) < (O.length : Int) by omega), if_pos (show (0 : Int) ≤ (n : Int) by omega), rd_own, e1]
    by_cases h1 : (O.getD n z43).f0.toList = tn.toList
    · simp only [if_pos h1]
      by_cases h2 : (O.getD n z43).f1.f0 = kid
      · simp only [if_pos h2]
        exact ih (n + 1) K (by omega) (by omega) hF
      · simp only [if_neg h2]
        refine Ev.bindc rfl (Ev.yes (by simp only [List.length_singleton]; omega) ?_)
        refine ih (n + 1) _ (by omega) (by simp only [List.length_append, List.length_singleton]; omega) (fun e => ?_)
        show (if (O.getD n z43).f0.toList = tn.toList then (if (O.getD n z43).f1.f0 = key then _ else findK tn key K 181) else findK tn key K e) = _
        rw [if_pos h1, if_neg (by rw [hkk]; exact h2)]
        exact hF 181
    · simp only [if_neg h1]
      refine Ev.bindc rfl (Ev.yes (by simp only [List.length_singleton]; omega) ?_)
      refine ih (n + 1) _ (by omega) (by simp only [List.length_append, List.length_singleton]; omega) (fun e => ?_)
      show (if (O.getD n z43).f0.toList = tn.toList then (if (O.getD n z43).f1.f0 = key then _ else findK tn key K 181) else findK tn key K e) = _
      rw [if_neg h1]
      exact hF e
theorem tokenMinted (kid : Int) (sec tn : ByteArray) (key ex sc id : Int) (O : List Own) (now need : Int) (hx : -9223372036854775808 ≤ ex ∧ ex ≤ 9223372036854775807) (hi : 0 ≤ id ∧ id < 18446744073709551616) : ∃ k, manometerlaw17_TokenMinted.f k kid sec tn key ex sc id O now need = some true := by
  refine Ev.rounds (g := fun k => manometerlaw17_TokenMinted.f k kid sec tn key ex sc id O now need) ?_
  have ht : Ev (fun k => manometerlaw17_TokenMinted.j0 k O now need true kid sec tn key ex sc id) true := by
    refine Ev.step (f := _) (fun k => by simp only [manometerlaw17_TokenMinted.j0]; rfl) ?_
    simp only [if_true]
    exact Ev.bind live_ev (Ev.now _)
  unfold manometerlaw17_TokenMinted.f
  refine Ev.bind live_ev ?_
  simp only [if_pos trivial]
  refine Ev.ite (fun _ => ht) (fun h1 => Ev.ite (fun _ => ht) (fun h2 => ?_))
  obtain ⟨b, hb, hL⟩ := few_ev O
  refine Ev.bind hb ?_
  cases b with
  | false => exact ht
  | true =>
    have hO := hL rfl
    show Ev (fun k => manometerlaw17_TokenMinted.j0 k O now need false kid sec tn key ex sc id) true
    refine Ev.step (f := _) (fun k => by simp only [manometerlaw17_TokenMinted.j0]; rfl) ?_
    simp only [Bool.false_eq_true, if_false]
    refine Ev.bind (Mint_ev kid sec tn key ex sc id hx hi) ?_
    by_cases hm : (mintB kid sec tn key ex sc id).2 = 0
    · simp only [if_pos hm]
      obtain ⟨hr, hg⟩ := mint_read hx hi hm
      obtain ⟨m1, m2, m3, m4⟩ := mint_ok hm
      have hsz := mint_size hx hi hm
      refine Ev.bindc rfl (Ev.yes (by simp only [List.length_singleton]; omega) ?_)
      refine Minted_l0 _ tn key ex sc id now need kid sec O hO m3 (by omega) hr hg O.length 0 _ (by omega) (by simp only [List.length_append, List.length_singleton]; omega) (fun e => ?_)
      show (if tn.toList = tn.toList then (if kid = key then _ else _) else _) = _
      rw [if_pos rfl, if_pos m3.symm]
    · simp only [if_neg hm]
      have hn : (mintB kid sec tn key ex sc id).1 = (⟨#[]⟩ : ByteArray) := by
        unfold mintB at hm ⊢
        split at hm
        · rename_i h1
          rw [if_pos h1]
          split at hm
          · rename_i h2
            rw [if_pos h2]
            split at hm
            · exact absurd rfl hm
            · rename_i h3
              rw [if_neg h3]
          · rename_i h2
            rw [if_neg h2]
        · rename_i h1
          rw [if_neg h1]
      have hnl : (mintB kid sec tn key ex sc id).1.toList = ([] : List UInt8) := by rw [hn, toList_B]; rfl
      simp only [if_pos hnl]
      refine Ev.bind (Check_ev tn key ex sc id) ?_
      by_cases hc : chkB tn key sc = 0
      · simp only [if_pos hc]
        refine Ev.bindc (Keyed_f kid sec).1 ?_
        cases hk : keyedB kid sec with
        | false => simp only [Bool.false_eq_true, if_false]; exact Ev.now _
        | true =>
          simp only [if_pos trivial]
          have hne : ¬ key = kid := by
            intro h
            apply hm
            unfold mintB
            rw [if_pos hk, if_pos hc, if_pos h]
          rw [show (kid != key) = true from bne_iff_ne.mpr (fun h => hne h.symm)]
          exact Ev.now _
      · simp only [if_neg hc]
        exact Ev.now _
end Go.Proofs.YtkkomfomjpcbfaaDoor.Pu
end
section
namespace Go.Proofs.YtkkomfomjpcbfaaDoor
open Go.RowKit
set_option linter.unusedVariables false
theorem table_reads {P : Program} {w : World} {name : String} {g n : Nat} {t e : TypeId} {k : IntKind} {zs : List Int} (h : Lib.VarReads P w name (.agg (zs.map fun z => .lit (.int k z)))) (hg : P.globalNamed name = some g) (ht : (P.globals[g]?).map (·.type) = some t)
    (ha : P.underlying t = some (.array n e)) (he : P.underlying e = some (.int k)) (hc : P.cellsOf e = 1) : ∀ i, i < n → w.cell? ⟨g, i, none⟩ = some (.int k (zs.getD i 0)) := by
  obtain ⟨g', t', cs, fuel, p, h1, h2, h3, h4⟩ := h
  obtain rfl := Option.some.inj (hg.symm.trans h1)
  obtain rfl := Option.some.inj (ht.symm.trans h2)
  intro i hi
  obtain ⟨f2, d, q, hd, htr⟩ := Lib.array_elem ha h4 i hi
  obtain ⟨z, hz, hx, _⟩ := DataW.trod_int he htr
  rw [List.getElem?_map] at hd
  obtain ⟨z', hz', hzd⟩ := Option.map_eq_some_iff.1 hd
  have hzz : z' = z := by
    have h5 : d = .lit (.int k z) := congrArg Prod.fst hx
    rw [h5] at hzd
    injection hzd with h6
    injection h6
  subst hzz
  rw [hc, Nat.mul_one] at hz
  have h7 : cs.toList[i]? = some (.int k z') := by
    have := congrArg (·[0]?) hz
    simpa [List.getElem?_take, List.getElem?_drop] using this
  have h8 := World.var?_cell h1 h3 i
  rw [h8, List.getD_eq_getElem?_getD, hz']
  simpa using h7
theorem laid_plain {P : Program} {w : World} {l : List (String × DataW Unit)} (h : laidMetH P l w) (hf : (l.filter fun x => x.2.handleName?.isSome).isEmpty = true) : laidMet P l w := by
  unfold laidMetH at h
  split at h
  · exact h
  · rename_i h2
    rw [h2] at hf
    cases hf
end Go.Proofs.YtkkomfomjpcbfaaDoor
end
section
namespace Go.Proofs.YtkkomfomjpcbfaaDoor
open Go Go.RowKit Go.Shelf
set_option linter.unusedVariables false
theorem tab_of {w : World} (h : laidMetH Tryd.prog [("manometer/hash.rounds", Rows.laid_manometer_hash_rounds)] w) : Tab w := by
  intro j hj
  have hr := Lib.laidMet.reads (laid_plain h (by kernel_rfl)) (List.Mem.head _)
  exact table_reads (zs := Sha.K) (show Lib.VarReads _ w _ (.agg (Sha.K.map fun z => .lit (.int .u32 z))) from hr) (g := 0) (by kernel_rfl) (by kernel_rfl) Tryd.underlying99 Tryd.underlying92 (by kernel_rfl) j hj
end Go.Proofs.YtkkomfomjpcbfaaDoor
end
section
namespace Go.Proofs.YtkkomfomjpcbfaaDoor
open Go.RowKit Go.Proofs.YtkkomfomjpcbfaaDoorW.PrintWords Go.Proofs.YtkkomfomjpcbfaaDoorW.PrintMore Go.Proofs.YtkkomfomjpcbfaaDoorW.PrintLast Go.Deep
set_option linter.unusedVariables false
section
variable {H : Type} {enc : TypeId × Value → H} {P : Program} {w : World} {base : Nat} {spare : Nat → Bool} {held : Bool}
theorem opens_iso {α β : Type} {d : Kd α} {wf : α → Prop} {t : TypeId} (f : β → α) (g : α → β) (hg : ∀ y, f (g y) = y) (h : Opens enc P w base spare held t d wf) :
    Opens enc P w base spare held t (Kd.iso d f) (fun x => wf (f x)) := by
  intro fuel cs x hx
  obtain ⟨a, hK, hw⟩ := h fuel cs x hx
  refine ⟨g a, ?_, ?_⟩
  · show d.K w (f (g a)) cs
    rw [hg]
    exact hK
  · show wf (f (g a))
    rw [hg]
    exact hw
theorem opens_val {α : Type} {d : Kd α} {wf : α → Prop} {t : TypeId} {cs : Array Value} {x : DataW H} {ps : List MemPlace} (h : Opens enc P w base spare held t d wf)
    (hT : DataW.Trod enc P w base spare held t (.agg cs) x ps) : ∃ a, d.K w a cs.toList ∧ wf a := by
  obtain ⟨fuel, hf⟩ := hT
  exact h fuel _ _ hf
end
end Go.Proofs.YtkkomfomjpcbfaaDoor
end
