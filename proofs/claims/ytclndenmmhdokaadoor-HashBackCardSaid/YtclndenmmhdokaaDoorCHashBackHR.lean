import Derived.Test.YtclndenmmhdokaaDoorCHashBackHP3
import Derived.Test.YtclndenmmhdokaaDoorCHashBackPHBx4
import Derived.Test.YtclndenmmhdokaaDoorCHashBackQB
import Derived.Lib.LaidU8
import Derived.LaidMore
import Derived.Test.YtclndenmmhdokaaDoorCHashBackPHBx1
import Derived.Test.YtclndenmmhdokaaDoorRows
namespace Go.Proofs.YtclndenmmhdokaaDoor.Bq
end Go.Proofs.YtclndenmmhdokaaDoor.Bq
section
namespace Go.Proofs.YtclndenmmhdokaaDoor.Pu
open Go Go.RowKit Go.Proofs.YtclndenmmhdokaaDoor Go.Proofs.YtclndenmmhdokaaDoor.PHB Go.Proofs.YtclndenmmhdokaaDoorW.PrintWords Go.Proofs.YtclndenmmhdokaaDoorW.PrintLast Go.Proofs.YtclndenmmhdokaaDoorW.PrintMore Bq
set_option linter.unusedVariables false
set_option linter.unusedSimpArgs false
theorem Unarmor_f (s : ByteArray) (hs : s.size ≤ 1000000) : hash_Unarmor.f s = some (unL (B s) 0 0 []) := by
  unfold hash_Unarmor.f
  rw [if_pos hs]
  rfl
theorem Armor_f (xs : List Int) (hb : Byts xs) (hl : xs.length ≤ 1000000) : hash_Armor.f xs = some (strOfNums (armor xs)) := by
  unfold hash_Armor.f
  rw [if_pos hl, if_pos (all_byts hb)]
theorem Equal_f (xs ys : List Int) (h1 : xs.length ≤ 1000000000000) (h2 : ys.length ≤ 1000000000000) : manometerref01_Equal.f xs ys = some (decide (xs = ys)) := by
  unfold manometerref01_Equal.f
  rw [if_pos h1, if_pos h2]
theorem unR_len (R : List Bool) (h : R.length ≤ 1000000) : (unR R).1.length ≤ 1000000 := by
  unfold unR
  split
  · exact Nat.zero_le _
  · unfold packI
    rw [ints_length, pack_length, full8_length]
    omega
theorem unL_len (s : ByteArray) (hs : s.size ≤ 100000) : (unL (B s) 0 0 []).1.length ≤ 1000000 := by
  rcases vals_or (B s) with h | ⟨vs, h⟩
  · rw [unL_bad (B s) 0 0 [] h]
    exact Nat.zero_le _
  · rw [unL_vals (B s) vs h]
    have hl := congrArg List.length h
    rw [List.length_map, List.length_map, B_length] at hl
    exact unR_len _ (by rw [rowV_length]; omega)
theorem pairs_len : ∀ l : List Int, (pairs l).length ≤ l.length
  | [] => Nat.le_refl _
  | [a] => Nat.zero_le _
  | a :: b :: l => by
    have := pairs_len l
    simp only [pairs, List.length_cons]
    omega
theorem unhexP_len (s : ByteArray) (hs : s.size ≤ 1000000) : (unhexP (bytesOf s)).1.length ≤ 1000000 := by
  unfold unhexP
  split
  · exact Nat.zero_le _
  · have := pairs_len (bytesOf s)
    rw [bytesOf_length] at this
    exact Nat.le_trans this hs
theorem un_armor {s : ByteArray} (h : (unL (B s) 0 0 []).2 = 0) : strOfNums (armor (unL (B s) 0 0 []).1) = s ∧ Byts (unL (B s) 0 0 []).1 := by
  rcases vals_or (B s) with hb | ⟨vs, hv⟩
  · rw [unL_bad (B s) 0 0 [] hb] at h
    cases h
  · rw [unL_vals (B s) vs hv] at h ⊢
    unfold unR at h ⊢
    split at h
    · cases h
    · rename_i hc
      rw [if_neg hc]
      exact ⟨(unR_text hv).2 hc, byts_packI _⟩
theorem bnum_zeros (p : Nat) : bnum (List.replicate p false) = 0 := by
  induction p with
  | zero => rfl
  | succ p ih =>
    rw [List.replicate_succ', bnum_snoc, ih]
    rfl
theorem armor_un (a : List Int) (hb : Byts a) : unL (B (strOfNums (armor a))) 0 0 [] = (a, 0) := by
  obtain ⟨vs, h1, h2, h3⟩ := arm_vals (bitsOf a (8 * a.length))
  have hB : (B (strOfNums (armor a))).map (fun c => sixV (c.toNat : Int)) = vs.map some := by
    show ((armor a).map (fun n => UInt8.ofNat n.toNat)).map _ = _
    unfold armor
    rw [h1, List.map_map, List.map_map]
    refine List.map_congr_left (fun v hv => ?_)
    obtain ⟨e1, e2, e3⟩ := lett_six ⟨v, h2 v hv⟩
    simp only at e1 e2 e3
    simp only [Function.comp]
    rw [UInt8.toNat_ofNat', show (((lett.getD v 0).toNat % 2 ^ 8 : Nat) : Int) = lett.getD v 0 by omega, e1]
  rw [unL_vals _ vs hB, h3]
  have hl : (bitsOf a (8 * a.length)).length = 8 * a.length := bitsOf_length _ _
  rw [hl]
  obtain ⟨p, hp⟩ : ∃ p, p = (6 - 8 * a.length % 6) % 6 := ⟨_, rfl⟩
  rw [← hp]
  have hp6 : p = 0 ∨ p = 2 ∨ p = 4 := by omega
  have hlen : (bitsOf a (8 * a.length) ++ List.replicate p false).length = 8 * a.length + p := by rw [List.length_append, hl, List.length_replicate]
  have hq : (bitsOf a (8 * a.length) ++ List.replicate p false).length / 8 = a.length := by rw [hlen]; omega
  have hf : full8 (bitsOf a (8 * a.length) ++ List.replicate p false) = bitsOf a (8 * a.length) := by
    unfold full8
    rw [hq, List.take_append_of_le_length (by omega), List.take_of_length_le (by omega)]
  have hr : rest8 (bitsOf a (8 * a.length) ++ List.replicate p false) = List.replicate p false := by
    unfold rest8
    rw [hq, List.drop_append, List.drop_of_length_le (by omega), hl, Nat.sub_self, List.drop_zero, List.nil_append]
  unfold unR
  rw [hf, hr, bnum_zeros, if_neg (by rw [hlen]; omega), pack_bits a hb]
theorem un_hex {s : ByteArray} (h : (unhexP (bytesOf s)).2 = 0) : strOfNums (hex (unhexP (bytesOf s)).1) = s ∧ Byts (unhexP (bytesOf s)).1 := by
  unfold unhexP at h ⊢
  split at h
  · cases h
  · rename_i hc
    rw [if_neg hc]
    obtain ⟨h1, h2⟩ := hex_pairs (bytesOf s) (by
      have h1 : ¬ (bytesOf s).length % 2 = 1 := fun h => hc (.inl h)
      omega) (by
      cases hb : badN (bytesOf s) with
      | false => rfl
      | true => exact absurd (.inr hb) hc)
    exact ⟨by rw [h1, sN_bytesOf], h2⟩
theorem hexD_byt (n : Nat) : 0 ≤ hexD.getD n 0 ∧ hexD.getD n 0 < 256 := by
  rw [List.getD_eq_getElem?_getD]
  by_cases h : n < hexD.length
  · rw [List.getElem?_eq_getElem h]
    have : ∀ x ∈ hexD, 0 ≤ x ∧ x < 256 := by decide
    exact this _ (List.getElem_mem h)
  · rw [List.getElem?_eq_none (by omega)]
    decide
theorem hex_byts (a : List Int) : Byts (hex a) := by
  intro x hx
  obtain ⟨y, _, hy⟩ := List.mem_flatMap.1 hx
  unfold hex1 at hy
  rcases List.mem_cons.1 hy with rfl | hy
  · exact hexD_byt _
  · rw [List.mem_singleton.1 hy]
    exact hexD_byt _
theorem hex_un (a : List Int) (hb : Byts a) : unhexP (bytesOf (strOfNums (hex a))) = (a, 0) := by
  rw [bytesOf_sN (hex_byts a)]
  obtain ⟨h1, h2⟩ := pairs_hex a hb
  unfold unhexP
  rw [h1, h2, hex_length, if_neg (fun h => by
    rcases h with h | h
    · omega
    · cases h)]
theorem armor_size (a : List Int) : (strOfNums (armor a)).size = (8 * a.length + 5) / 6 := by
  rw [strOfNums_size, armor, arm_length, bitsOf_length]
theorem Back_j3 (a b : List Int) (ha : Byts a) (hb : Byts b) (la : a.length ≤ 2000) (lb : b.length ≤ 2000) : Ev (fun k => manometerlaw03_HashBack.j3 k a b false) true := by
  refine Ev.step (f := _) (fun k => by simp only [manometerlaw03_HashBack.j3]; rfl) ?_
  simp only [Bool.false_eq_true, if_false]
  by_cases h : (a.length : Int) > (b.length : Int)
  · simp only [if_pos h]
    exact Ev.now _
  · simp only [if_neg h]
    refine Ev.bindc (Armor_f a ha (by omega)) ?_
    refine Ev.bindc (Armor_f b hb (by omega)) ?_
    simp only [armor_size]
    simp only [if_pos (show (((8 * a.length + 5) / 6 : Nat) : Int) ≤ (((8 * b.length + 5) / 6 : Nat) : Int) by omega)]
    refine Ev.bind (Hex_ev a ha (by omega)) ?_
    have e : wrap64 (2 * (a.length : Int)) = ((2 * a.length : Nat) : Int) := wn (by omega) (by omega)
    simp only [strOfNums_size, hex_length, e, beq_self_eq_true]
    exact Ev.now _
theorem Back_j2 (a b : List Int) (s : ByteArray) (ha : Byts a) (hb : Byts b) (la : a.length ≤ 2000) (lb : b.length ≤ 2000) (ls : s.size ≤ 2000) : Ev (fun k => manometerlaw03_HashBack.j2 k a b s false) true := by
  refine Ev.step (f := _) (fun k => by simp only [manometerlaw03_HashBack.j2]; rfl) ?_
  simp only [Bool.false_eq_true, if_false]
  refine Ev.bind (Unhex_ev s (by omega)) ?_
  by_cases h : (unhexP (bytesOf s)).2 = 0
  · simp only [if_pos h]
    obtain ⟨h1, h2⟩ := un_hex h
    have hl := unhexP_len s (by omega)
    refine Ev.bind (Hex_ev _ h2 hl) ?_
    simp only [h1, bne_self_eq_false]
    exact Back_j3 a b ha hb la lb
  · simp only [if_neg h]
    exact Back_j3 a b ha hb la lb
theorem Back_j1 (a b : List Int) (s : ByteArray) (ha : Byts a) (hb : Byts b) (la : a.length ≤ 2000) (lb : b.length ≤ 2000) (ls : s.size ≤ 2000) : Ev (fun k => manometerlaw03_HashBack.j1 k a b s false) true := by
  refine Ev.step (f := _) (fun k => by simp only [manometerlaw03_HashBack.j1]; rfl) ?_
  simp only [Bool.false_eq_true, if_false]
  refine Ev.bindc (Unarmor_f s (by omega)) ?_
  by_cases h : (unL (B s) 0 0 []).2 = 0
  · simp only [if_pos h]
    obtain ⟨h1, h2⟩ := un_armor h
    refine Ev.bindc (Armor_f _ h2 (unL_len s (by omega))) ?_
    simp only [h1, bne_self_eq_false]
    exact Back_j2 a b s ha hb la lb ls
  · simp only [if_neg h]
    exact Back_j2 a b s ha hb la lb ls
theorem Back_j0 (a b : List Int) (s : ByteArray) (ha : Byts a) (hb : Byts b) (la : a.length ≤ 2000) (lb : b.length ≤ 2000) (ls : s.size ≤ 2000) : Ev (fun k => manometerlaw03_HashBack.j0 k a b s false) true := by
  refine Ev.step (f := _) (fun k => by simp only [manometerlaw03_HashBack.j0]; rfl) ?_
  simp only [Bool.false_eq_true, if_false]
  refine Ev.bindc (Armor_f a ha (by omega)) ?_
  refine Ev.bindc (Unarmor_f _ (by rw [armor_size]; omega)) ?_
  rw [armor_un a ha]
  refine Ev.bind (Hex_ev a ha (by omega)) ?_
  refine Ev.bind (Unhex_ev _ (by rw [strOfNums_size, hex_length]; omega)) ?_
  rw [hex_un a ha]
  simp only [if_true]
  refine Ev.bindc (Equal_f a a (by omega) (by omega)) ?_
  simp only [decide_true, if_true]
  refine Ev.bindc (Equal_f a a (by omega) (by omega)) ?_
  simp only [decide_true, Bool.not_true]
  exact Back_j1 a b s ha hb la lb ls
theorem Back_live (a b : List Int) (s : ByteArray) : Ev (fun k => manometerlaw03_HashBack.j0 k a b s true) true := by
  refine Ev.step (f := _) (fun k => by simp only [manometerlaw03_HashBack.j0]; rfl) ?_
  simp only [if_true]
  exact Ev.bindc (f := fun _ t => some t) (show manometerlaw03_live.f = some true from rfl) (Ev.now _)
theorem hashBack (a b : List Int) (s : ByteArray) (ha : Byts a) (hb : Byts b) : ∃ k, manometerlaw03_HashBack.f k a b s = some true := by
  refine Ev.rounds (g := fun k => manometerlaw03_HashBack.f k a b s) ?_
  unfold manometerlaw03_HashBack.f
  refine Ev.bindc (show manometerlaw03_live.f = some true from rfl) ?_
  simp only [if_true]
  obtain ⟨r, hr, hp⟩ := short_ev [a, b] (by simp)
  refine Ev.bind hr ?_
  cases r with
  | false =>
    simp only [Bool.false_eq_true, if_false]
    exact Back_live a b s
  | true =>
    simp only [if_true]
    have la := hp rfl a (by simp)
    have lb := hp rfl b (by simp)
    by_cases h : (s.size : Int) > 2000
    · rw [decide_eq_true h]
      exact Back_live a b s
    · rw [decide_eq_false h]
      exact Back_j0 a b s ha hb la lb (by omega)
end Go.Proofs.YtclndenmmhdokaaDoor.Pu
end
section
namespace Go.Proofs.YtclndenmmhdokaaDoor
open Go.RowKit
set_option linter.unusedVariables false
theorem table_reads {P : Program} {w : World} {name : String} {g n : Nat} {t e : TypeId} {k : IntKind} {zs : List Int} (h : Lib.VarReads P w name (.agg (zs.map fun z => .lit (.int k z)))) (hg : P.globalNamed name = some g) (ht : (P.globals[g]?).map (·.type) = some t)
    (ha : P.underlying t = some (.array n e)) (he : P.underlying e = some (.int k)) (hc : P.cellsOf e = 1) : ∀ i, i < n → w.cell? ⟨g, i, none⟩ = some (.int k (zs.getD i 0)) := by
  obtain ⟨g', t', cs, fuel, p, h1, h2, h3, h4⟩ := h
  obtain rfl := Option.some.inj (hg.symm.trans h1)
  obtain rfl := Option.some.inj (ht.symm.trans h2)
  intro i hi
  obtain ⟨f2, d, q, hd, htr⟩ := Lib.array_elem ha h4 i hi
  obtain ⟨z, hz, hx, _⟩ := DataW.trod_int he htr
  rw [List.getElem?_map] at hd
  obtain ⟨z', hz', hzd⟩ := Option.map_eq_some_iff.1 hd
  have hzz : z' = z := by
    have h5 : d = .lit (.int k z) := congrArg Prod.fst hx
    rw [h5] at hzd
    injection hzd with h6
    injection h6
  subst hzz
  rw [hc, Nat.mul_one] at hz
  have h7 : cs.toList[i]? = some (.int k z') := by
    have := congrArg (·[0]?) hz
    simpa [List.getElem?_take, List.getElem?_drop] using this
  have h8 := World.var?_cell h1 h3 i
  rw [h8, List.getD_eq_getElem?_getD, hz']
  simpa using h7
theorem laid_plain {P : Program} {w : World} {l : List (String × DataW Unit)} (h : laidMetH P l w) (hf : (l.filter fun x => x.2.handleName?.isSome).isEmpty = true) : laidMet P l w := by
  unfold laidMetH at h
  split at h
  · exact h
  · rename_i h2
    rw [h2] at hf
    cases hf
end Go.Proofs.YtclndenmmhdokaaDoor
end
section
namespace Go.Proofs.YtclndenmmhdokaaDoor
open Go Go.RowKit Go.Shelf
set_option linter.unusedVariables false
theorem tab_of {w : World} (h : laidMetH Tryd.prog [("manometer/hash.rounds", Rows.laid_manometer_hash_rounds)] w) : Tab w := by
  intro j hj
  have hr := Lib.laidMet.reads (laid_plain h (by kernel_rfl)) (List.Mem.head _)
  exact table_reads (zs := Sha.K) (show Lib.VarReads _ w _ (.agg (Sha.K.map fun z => .lit (.int .u32 z))) from hr) (g := 0) (by kernel_rfl) (by kernel_rfl) Tryd.underlying77 Tryd.underlying43 (by kernel_rfl) j hj
end Go.Proofs.YtclndenmmhdokaaDoor
end
