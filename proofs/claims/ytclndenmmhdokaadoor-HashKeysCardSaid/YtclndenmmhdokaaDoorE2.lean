/- The document's Of and Big: numbers as bytes. -/
import Derived.Test.YtclndenmmhdokaaDoorE1
import Derived.Test.YtclndenmmhdokaaDoorH7
namespace Go.Proofs.YtclndenmmhdokaaDoor
open Go Go.RowKit Go.Proofs.YtclndenmmhdokaaDoorW.PrintWords Go.Proofs.YtclndenmmhdokaaDoorW.PrintMore Go.Proofs.YtclndenmmhdokaaDoorW.PrintLast Bq
set_option linter.unusedVariables false
set_option linter.unusedSimpArgs false
attribute [local go_sem ↓] Go.wp_at_zero Go.wp_at_succ

/-- Bytes as a number, the highest one first. -/
def be (xs : List Int) : Nat := xs.foldl (fun a x => a * 256 + x.toNat) 0
theorem bitsOf_snoc (xs : List Int) (x : Int) : bitsOf (xs ++ [x]) (8 * xs.length + 8) = bitsOf xs (8 * xs.length) ++ nb x.toNat 8 := by
  unfold bitsOf nb
  rw [List.range_add, List.map_append, List.map_map]
  congr 1
  · apply List.map_congr_left
    intro i hi
    have hi : i < 8 * xs.length := List.mem_range.1 hi
    unfold bitAt
    rw [List.getD_eq_getElem?_getD, List.getD_eq_getElem?_getD, List.getElem?_append_left (by omega)]
  · apply List.map_congr_left
    intro j hj
    have hj : j < 8 := List.mem_range.1 hj
    show bitAt (xs ++ [x]) (8 * xs.length + j) = x.toNat.testBit (8 - 1 - j)
    unfold bitAt
    have e1 : (8 * xs.length + j) / 8 = xs.length := by omega
    have e2 : 7 - (8 * xs.length + j) % 8 = 8 - 1 - j := by omega
    rw [e1, e2, List.getD_eq_getElem?_getD, List.getElem?_append_right (Nat.le_refl _), Nat.sub_self]
    rfl
theorem bnum_bytes (xs : List Int) (hb : Byts xs) : bnum (bitsOf xs (8 * xs.length)) = be xs := by
  induction xs using snoc_ind with
  | h0 => rfl
  | h1 l b ih =>
    have h1 := ih (fun x hx => hb x (List.mem_append_left _ hx))
    have h2 := hb b (List.mem_append_right _ (List.mem_singleton.2 rfl))
    rw [List.length_append, List.length_singleton, Nat.mul_add, bitsOf_snoc, bnum_append, nb_length, bnum_nb, h1]
    unfold be
    rw [List.foldl_append]
    simp only [List.foldl_cons, List.foldl_nil]
    have : b.toNat % 2 ^ 8 = b.toNat := by omega
    omega
theorem pack_nb (m k : Nat) : pack (nb m (8 * (k + 1))) = m / 2 ^ (8 * k) % 256 :: pack (nb m (8 * k)) := by
  have h1 : 8 * (k + 1) = 8 + 8 * k := by omega
  rw [h1, nb_add m (8 * k) 8, pack_append 1 _ _ (by rw [nb_length]), pack_short _ (by intro h; have := congrArg List.length h; rw [nb_length] at this; simp at this) (by rw [nb_length]; omega)]
  have h2 : byte8 (nb (m / 2 ^ (8 * k)) 8) = m / 2 ^ (8 * k) % 256 := by
    unfold byte8
    rw [bnum_nb, nb_length]
    omega
  rw [h2]
  rfl
theorem big8_pack (m : Nat) : packI (nb m 64) = Sha.big8 m := by
  have h : pack (nb m 64) = (List.range 8).map fun i => m / 2 ^ (56 - 8 * i) % 256 := by
    show pack (nb m (8 * 8)) = _
    rw [pack_nb m 7, pack_nb m 6, pack_nb m 5, pack_nb m 4, pack_nb m 3, pack_nb m 2, pack_nb m 1, pack_nb m 0]
    show _ :: _ :: _ :: _ :: _ :: _ :: _ :: _ :: pack (nb m 0) = _
    rw [nb_zero, pack_nil]
    rfl
  unfold packI ints Sha.big8
  rw [h, List.map_map]
  rfl

set_option maxHeartbeats 2000000 in
theorem of_calls (w : World) (A : Option Addr) (c : Nat) (xs : List Int) (hC : (Kd.int .u8).C w A xs.length xs) (hb : Byts xs) (hl : xs.length ≤ 8) :
    Calls Tryd.prog 63 #[.slice A xs.length c] w fun e w' => e = .returned (.int .u64 (be xs : Nat)) ∧ Below w.heap.size w w' := by
  have e1 : IntKind.i64.wrap (8 * (xs.length : Int)) = ((8 * xs.length : Nat) : Int) := by rw [IntWalk.i64_in _ (by omega)]; omega
  have hbn := bnum_bytes xs hb
  have HBN := Lib.hid hbn
  have HRB := Lib.hid (rbits_calls w A c xs (8 * xs.length) hC hb (Nat.le_refl _) (by omega))
  clear hbn hC hb
  go_enter Tryd.func63, Tryd.ntmps63
  go_wp2_with (first | (go_at_call 57; refine HRB.out.mono ?_; rintro e w1 ⟨v, rfl, hR, hB⟩; obtain ⟨A1, c1, hv⟩ := Kd.R_slice hR; subst hv; have hC1 := (Kd.R_reads' hR).2.2; rw [bitsOf_length] at hC1; have hN := number_calls w1 A1 c1 (bitsOf xs (8 * xs.length)) (by rw [bitsOf_length]; exact hC1) (by rw [bitsOf_length]; omega); have HN := Lib.hid hN; have HB1 := Lib.hid hB; clear hR hB hC1 hN) | (go_at_call 58; refine HN.out.mono ?_; rintro e w' ⟨rfl, rfl⟩))
  go_ret
  rw [← HBN.out]
  exact ⟨rfl, HB1.out⟩
set_option maxHeartbeats 2000000 in
theorem big_calls (w : World) (n : Nat) (hn : n < 18446744073709551616) :
    Calls Tryd.prog 36 #[.int .u64 n] w fun e w' => ∃ v, e = .returned v ∧ (Kd.int .u8).R 5 w' w.heap.size (fun k => w.heap.size ≤ k) v (Sha.big8 n) ∧ Below w.heap.size w w' := by
  have HP := Lib.hid (rput_calls w w.heap.size (fun k => w.heap.size ≤ k) (.slice none 0 0) [] n 64 (Kd.R_nil _ _ _ _ _) (Nat.le_refl _) (Nat.le_refl _) hn (by decide))
  go_enter Tryd.func36, Tryd.ntmps36
  go_wp2_with (first | (go_at_call 53; refine HP.out.mono ?_; rintro e w1 ⟨v, rfl, hR, hM⟩; obtain ⟨A1, c1, hv⟩ := Kd.R_slice hR; subst hv; have hC1 := (Kd.R_reads' hR).2.2; have hBy := rbytes_calls w1 A1 c1 _ hC1 (by rw [List.nil_append, nb_length]; decide); have HBY := Lib.hid hBy; have HM1 := Lib.hid (Mod.below hM (Nat.le_refl _) (fun k hk => hk)); clear hR hM hC1 hBy) | (go_at_call 54; refine HBY.out.mono ?_; rintro e w2 ⟨v2, rfl, hR2, hB2⟩; have HR2 := Lib.hid hR2; have HB2 := Lib.hid hB2; clear hR2 hB2))
  go_ret
  have hs := HM1.out.size
  have h2 := HR2.out
  rw [List.nil_append, big8_pack] at h2
  exact ⟨v2, rfl, Kd.R_lower (Kd.R_mono h2 (fun k hk => Nat.le_trans hs hk)) hs, HM1.out.trans (below_lower HB2.out hs)⟩
end Go.Proofs.YtclndenmmhdokaaDoor
