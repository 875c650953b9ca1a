import Derived.Test.YtkkomfomjpcbfaaDoorCTokenOneTZ
namespace Go.Proofs.YtkkomfomjpcbfaaDoor.Bq
end Go.Proofs.YtkkomfomjpcbfaaDoor.Bq
namespace Go.Proofs.YtkkomfomjpcbfaaDoor.Pu
open Go Go.RowKit Go.Lib Go.Proofs.YtkkomfomjpcbfaaDoor Go.Proofs.YtkkomfomjpcbfaaDoor.PTS Go.Proofs.YtkkomfomjpcbfaaDoorW.PrintWords Go.Proofs.YtkkomfomjpcbfaaDoorW.PrintLast Go.Proofs.YtkkomfomjpcbfaaDoorW.PrintMore Bq
set_option linter.unusedVariables false
set_option linter.unusedSimpArgs false
theorem unL_len8 : ∀ (l : Str) (X n : Nat) (out : List Int), n < 8 → (unL l X n out).1.length ≤ out.length + (n + 6 * l.length) / 8
  | [], X, n, out, h => by unfold unL; split <;> simp
  | c :: l, X, n, out, h => by
    unfold unL
    cases sixV (c.toNat : Int) with
    | none => simp
    | some v =>
      simp only
      split
      · refine Nat.le_trans (unL_len8 l _ (n - 2) _ (by omega)) ?_
        simp only [List.length_append, List.length_cons, List.length_nil]
        omega
      · refine Nat.le_trans (unL_len8 l _ (n + 6) _ (by omega)) ?_
        simp only [List.length_cons]
        omega
theorem sum_text (sec : ByteArray) (L : List Int) : (B (strOfNums (armor (tokSum sec L)))).length = 43 := by
  have h : (tokSum sec L).length = 32 := Sha.sum_length _
  rw [B_length, armor_size, h]
theorem read_front (sec tn : ByteArray) (key ex sc id : Int) (hc : chkB tn key sc = 0) (hx : -9223372036854775808 ≤ ex ∧ ex ≤ 9223372036854775807) (hi : 0 ≤ id ∧ id < 18446744073709551616) (s : ByteArray) (la : Str)
    (hs : B s = [109, 116, 49, 46] ++ (B (strOfNums (armor (bodyL tn key ex sc id))) ++ 46 :: la)) :
    readB s = if goodP (B (strOfNums (armor (bodyL tn key ex sc id)))) la = true then some (tn, key, ex, sc, id) else none := by
  obtain ⟨c1, c2, c3⟩ := chk_ok hc
  have u1 := armor_un (bodyL tn key ex sc id) (body_byts tn key ex sc id c3)
  have hf := first_un (show (unL (B (strOfNums (armor (bodyL tn key ex sc id)))) 0 0 []).2 = 0 by rw [u1])
  unfold readB
  rw [hs]
  rw [show ([109, 116, 49, 46] ++ (B (strOfNums (armor (bodyL tn key ex sc id))) ++ 46 :: la) : Str).take 4 = [109, 116, 49, 46] from take_len [109, 116, 49, 46] _, if_pos rfl, show ([109, 116, 49, 46] ++ (B (strOfNums (armor (bodyL tn key ex sc id))) ++ 46 :: la) : Str).drop 4 = B (strOfNums (armor (bodyL tn key ex sc id))) ++ 46 :: la from drop_len [109, 116, 49, 46] _]
  unfold readR
  rw [first_app _ _ hf]
  simp only
  rw [take_len, show ∀ (a b : Str) (c : UInt8), (a ++ c :: b).drop (a.length + 1) = b from fun a b c => by rw [List.drop_append]; simp, u1]
  simp only
  rw [parse_body tn key ex sc id hc hx hi]
theorem ver_one (s tn : ByteArray) (key ex sc id kid : Int) (sec : ByteArray) (now need : Int) (hkk : key = kid) (hr : readB s = none ∨ (readB s = some (tn, key, ex, sc, id) ∧ signedB s kid sec = false)) :
    verB s [⟨tn, ⟨kid, sec⟩⟩] now need = badE 8 ∨ verB s [⟨tn, ⟨kid, sec⟩⟩] now need = badE 170 := by
  rcases hr with hr | ⟨hr, hg⟩
  · left
    unfold verB
    rw [hr]
    rfl
  · right
    unfold verB
    rw [hr]
    simp only
    have hf : findK tn key [⟨tn, ⟨kid, sec⟩⟩] 180 = (some ⟨kid, sec⟩, 0) := by
      unfold findK
      rw [if_pos rfl, if_pos hkk.symm]
    rw [hf]
    show endB s now need (tn, key, ex, sc, id) kid sec = _
    unfold endB
    rw [hg]
    rfl
theorem text_split (sec : ByteArray) (L : List Int) : B (tokText sec L) = ([109, 116, 49, 46] ++ (B (strOfNums (armor L)) ++ [46])) ++ B (strOfNums (armor (tokSum sec L))) := by
  rw [text_B]
  simp
theorem sN_B (xs : List Int) : B (strOfNums xs) = xs.map (fun x => UInt8.ofNat x.toNat) := by rw [← toList_B, ByteArray.toList_eq]; rfl
theorem bytes_map (s : ByteArray) : (bytesOf s).map (fun x => UInt8.ofNat x.toNat) = B s := by rw [← sN_B, sN_bytesOf]
theorem one_spoilt (kid : Int) (sec tn : ByteArray) (key ex sc id : Int) (hx : -9223372036854775808 ≤ ex ∧ ex ≤ 9223372036854775807) (hi : 0 ≤ id ∧ id < 18446744073709551616) (hm : (mintB kid sec tn key ex sc id).2 = 0) (a : Nat) (ha : a < 43) (y : Int) (hy : 0 ≤ y ∧ y < 256)
    (hne : y ≠ (bytesOf (mintB kid sec tn key ex sc id).1).getD ((mintB kid sec tn key ex sc id).1.size - 43 + a) 0) :
    let s := strOfNums ((bytesOf (mintB kid sec tn key ex sc id).1).set ((mintB kid sec tn key ex sc id).1.size - 43 + a) y)
    signedB s kid sec = false ∧ ∀ now need, verB s [⟨tn, ⟨kid, sec⟩⟩] now need = badE 8 ∨ verB s [⟨tn, ⟨kid, sec⟩⟩] now need = badE 170 := by
  obtain ⟨m1, m2, m3, m4⟩ := mint_ok hm
  have hms := mint_size hx hi hm
  obtain ⟨t, ht⟩ : ∃ t, t = (mintB kid sec tn key ex sc id).1 := ⟨_, rfl⟩
  rw [← ht] at hne hms ⊢
  intro s
  obtain ⟨F, hF⟩ : ∃ F : Str, F = [109, 116, 49, 46] ++ (B (strOfNums (armor (bodyL tn key ex sc id))) ++ [46]) := ⟨_, rfl⟩
  obtain ⟨S, hS⟩ : ∃ S : Str, S = B (strOfNums (armor (tokSum sec (bodyL tn key ex sc id)))) := ⟨_, rfl⟩
  have hSl : S.length = 43 := by rw [hS]; exact sum_text _ _
  have htB : B t = F ++ S := by
    rw [ht, m4]
    show B (tokText sec (bodyL tn key ex sc id)) = _
    rw [text_split, hF, hS]
  have hts : t.size = F.length + 43 := by rw [← B_length, htB, List.length_append, hSl]
  have hsB : B s = F ++ S.set a (UInt8.ofNat y.toNat) := by
    show B (strOfNums _) = _
    rw [sN_B, List.map_set, bytes_map, htB, hts, Nat.add_sub_cancel, List.set_append_right _ _ (by omega), show F.length + a - F.length = a by omega]
  have hst : ¬ s.toList = t.toList := by
    intro h
    rw [toList_B, toList_B, hsB, htB] at h
    have h2 := List.append_cancel_left h
    have h3 : (S.set a (UInt8.ofNat y.toNat)).getD a 0 = S.getD a 0 := by rw [h2]
    rw [List.getD_eq_getElem?_getD, List.getElem?_set_self (by omega)] at h3
    apply hne
    have hX : (bytesOf t).getD (t.size - 43 + a) 0 = ((S.getD a 0).toNat : Int) := by
      have e : bytesOf t = (B t).map (fun b => (b.toNat : Int)) := rfl
      rw [e, htB, hts, Nat.add_sub_cancel, List.map_append, List.getD_eq_getElem?_getD, List.getElem?_append_right (by rw [List.length_map]; omega), List.length_map, show F.length + a - F.length = a by omega, List.getElem?_map, List.getD_eq_getElem?_getD, List.getElem?_eq_getElem (by omega)]
      rfl
    rw [hX, ← h3]
    show y = (((some (UInt8.ofNat y.toNat)).getD 0).toNat : Int)
    rw [Option.getD_some, UInt8.toNat_ofNat']
    omega
  have hfr := read_front sec tn key ex sc id m2 hx hi s (S.set a (UInt8.ofNat y.toNat)) (by rw [hsB, hF]; simp)
  have hsg : signedB s kid sec = false := by
    unfold signedB
    rw [hfr]
    split
    · rfl
    · rename_i c hc
      split at hc
      · injection hc with hc
        subst hc
        simp only
        have : ((mintB kid sec tn key ex sc id).1.toList == s.toList) = false := beq_eq_false_iff_ne.mpr (fun h => hst (by rw [ht]; exact h.symm))
        rw [this, Bool.and_false]
      · cases hc
  refine ⟨hsg, fun now need => ver_one s tn key ex sc id kid sec now need m3 ?_⟩
  rw [hfr]
  split
  · exact .inr ⟨rfl, hsg⟩
  · exact .inl rfl
theorem one_short (kid : Int) (sec tn : ByteArray) (key ex sc id : Int) (hx : -9223372036854775808 ≤ ex ∧ ex ≤ 9223372036854775807) (hi : 0 ≤ id ∧ id < 18446744073709551616) (hm : (mintB kid sec tn key ex sc id).2 = 0) (keys : List Own) (now need : Int) :
    verB ((mintB kid sec tn key ex sc id).1.extract 0 ((mintB kid sec tn key ex sc id).1.size - 1)) keys now need = badE 8 := by
  obtain ⟨m1, m2, m3, m4⟩ := mint_ok hm
  obtain ⟨t, ht⟩ : ∃ t, t = (mintB kid sec tn key ex sc id).1 := ⟨_, rfl⟩
  rw [← ht]
  obtain ⟨S, hS⟩ : ∃ S : Str, S = B (strOfNums (armor (tokSum sec (bodyL tn key ex sc id)))) := ⟨_, rfl⟩
  have hSl : S.length = 43 := by rw [hS]; exact sum_text _ _
  obtain ⟨A1, hA1⟩ : ∃ A : Str, A = B (strOfNums (armor (bodyL tn key ex sc id))) := ⟨_, rfl⟩
  have htB : B t = [109, 116, 49, 46] ++ (A1 ++ 46 :: S) := by
    rw [ht, m4]
    show B (tokText sec (bodyL tn key ex sc id)) = _
    rw [text_B, hA1, hS]
  have hts : t.size = 4 + (A1.length + 44) := by rw [← B_length, htB]; simp [hSl]; omega
  have hsB : B (t.extract 0 (t.size - 1)) = [109, 116, 49, 46] ++ (A1 ++ 46 :: S.take 42) := by
    rw [B_extract, List.drop_zero, htB, hts, List.take_append, List.take_of_length_le (by simp only [List.length_cons, List.length_nil]; omega), List.take_append, List.take_of_length_le (show A1.length ≤ _ by simp only [List.length_cons, List.length_nil]; omega)]
    congr 2
    rw [show 4 + (A1.length + 44) - 1 - ([109, 116, 49, 46] : Str).length - A1.length = 42 + 1 by simp only [List.length_cons, List.length_nil]; omega, List.take_succ_cons]
  have hfr := read_front sec tn key ex sc id m2 hx hi (t.extract 0 (t.size - 1)) (S.take 42) (by rw [hsB, hA1])
  have hl := unL_len8 (S.take 42) 0 0 [] (by decide)
  rw [List.length_take] at hl
  have hg : goodP (B (strOfNums (armor (bodyL tn key ex sc id)))) (S.take 42) = false := by
    unfold goodP
    rw [decide_eq_false (show ¬ (unL (S.take 42) 0 0 []).1.length = 32 by simp at hl; omega), Bool.and_false, Bool.and_false]
  rw [hg, if_neg (by decide)] at hfr
  unfold verB
  rw [hfr]
  rfl
end Go.Proofs.YtkkomfomjpcbfaaDoor.Pu
