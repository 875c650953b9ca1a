/- The Writer: what Put does, told by bits. -/
import Derived.Test.YtemkfkaggdpcjaaDoorB1
import Derived.Test.YtemkfkaggdpcjaaDoorQ
namespace Go.Proofs.YtemkfkaggdpcjaaDoor
open Go.RowKit Go.Proofs.YtemkfkaggdpcjaaDoorW.PrintWords Bq
set_option linter.unusedVariables false
set_option linter.unusedSimpArgs false

theorem wraps_u64 (n : Int) (h0 : 0 ≤ n) (h1 : n < 2 ^ 64) : IntKind.u64.wrap n = n := by
  have : IntKind.u64.wrap n = n % 18446744073709551616 := by simp [IntKind.wrap, IntKind.bits, IntKind.signed]
  rw [this]
  omega

theorem last_set (p : List Int) (x y : Int) : (p ++ [x]).set ((p ++ [x]).length - 1) y = p ++ [y] := by
  rw [List.length_append, List.length_singleton, Nat.add_sub_cancel, List.set_append_right _ _ (Nat.le_refl _)]
  simp
theorem last_rd (p : List Int) (x : Int) : rdOf 0 (p ++ [x]) (((p ++ [x]).length : Int) - 1) = x := by
  unfold rdOf
  rw [List.length_append, List.length_singleton, show (((p.length + 1 : Nat) : Int) - 1).toNat = p.length from by omega, List.getD_eq_getElem?_getD, List.getElem?_append_right (Nat.le_refl _)]
  simp

/-- The piece of one step. -/
theorem piece_eq (r wd kn n : Nat) (hk1 : 0 < kn) (hk2 : kn + r ≤ 8) (hr : r < 8) (hwd : kn ≤ wd) (hn : n < 2 ^ 64) :
    IntKind.u64.wrap (bits .and .u64 ((n : Int) / 2 ^ ((wd : Int) - (kn : Int)).toNat) (IntKind.u64.wrap (IntKind.u64.wrap (2 ^ ((kn : Int)).toNat) - 1)) * 2 ^ min (8 - (r : Int) - (kn : Int)).toNat 64) % 256 =
      ((n / 2 ^ (wd - kn) % 2 ^ kn * 2 ^ (8 - r - kn) : Nat) : Int) := by
  have hp8 : (2 : Nat) ^ kn ≤ 2 ^ 8 := Nat.pow_le_pow_right (by omega) (by omega)
  have hp0 : 0 < (2 : Nat) ^ kn := Nat.two_pow_pos kn
  have e1 : (((kn : Int)).toNat) = kn := by omega
  have e2 : ((wd : Int) - (kn : Int)).toNat = wd - kn := by omega
  have e3 : min (8 - (r : Int) - (kn : Int)).toNat 64 = 8 - r - kn := by omega
  rw [e1, e2, e3]
  have c1 : ((2 : Int) ^ kn) = ((2 ^ kn : Nat) : Int) := by simp
  have w1 : IntKind.u64.wrap ((2 : Int) ^ kn) = (2 : Int) ^ kn := wraps_u64 _ (by rw [c1]; omega) (by rw [c1]; omega)
  have w2 : IntKind.u64.wrap ((2 : Int) ^ kn - 1) = (2 : Int) ^ kn - 1 := wraps_u64 _ (by rw [c1]; omega) (by rw [c1]; omega)
  rw [w1, w2]
  have c2 : ((n : Int) / 2 ^ (wd - kn)) = ((n / 2 ^ (wd - kn) : Nat) : Int) := by simp
  have hq : n / 2 ^ (wd - kn) < 2 ^ 64 := Nat.lt_of_le_of_lt (Nat.div_le_self _ _) hn
  rw [c2, bits_mask .u64 64 (by decide) wraps_u64 kn (by omega) _ (Int.natCast_nonneg _) (by exact_mod_cast hq)]
  have c3 : (((n / 2 ^ (wd - kn) : Nat) : Int) % 2 ^ kn) = ((n / 2 ^ (wd - kn) % 2 ^ kn : Nat) : Int) := by simp
  rw [c3]
  have hlt : n / 2 ^ (wd - kn) % 2 ^ kn < 2 ^ kn := Nat.mod_lt _ hp0
  generalize n / 2 ^ (wd - kn) % 2 ^ kn = m at *
  have c4 : ((m : Nat) : Int) * 2 ^ (8 - r - kn) = ((m * 2 ^ (8 - r - kn) : Nat) : Int) := by simp
  rw [c4]
  have hb : m * 2 ^ (8 - r - kn) < 256 := by
    calc m * 2 ^ (8 - r - kn) < 2 ^ kn * 2 ^ (8 - r - kn) := Nat.mul_lt_mul_of_pos_right hlt (Nat.two_pow_pos _)
      _ = 2 ^ (8 - r) := by rw [← Nat.pow_add, show kn + (8 - r - kn) = 8 - r from by omega]
      _ ≤ 2 ^ 8 := Nat.pow_le_pow_right (by omega) (by omega)
  rw [wraps_u64 _ (by omega) (by omega)]
  omega

theorem step_bytes (bs : List Bool) (wd n : Nat) (hw : 0 < wd) (hn : n < 2 ^ 64) :
    (growB bs.length (packI bs)).set ((growB bs.length (packI bs)).length - 1) (lastB bs.length wd n (kk bs.length wd) (growB bs.length (packI bs))) =
      packI (bs ++ nb (n / 2 ^ (wd - (kk bs.length wd).toNat)) (kk bs.length wd).toNat) := by
  obtain ⟨hk1, hk2, hk3⟩ := kk_bd bs.length wd (by omega) (by omega)
  obtain ⟨kn, hkn⟩ := Int.eq_ofNat_of_zero_le (Int.le_of_lt hk1)
  rw [hkn] at hk1 hk2 hk3 ⊢
  rw [Int.toNat_natCast]
  have hr : ((bs.length : Int) % 8) = ((bs.length % 8 : Nat) : Int) := by omega
  have ht : (nb (n / 2 ^ (wd - kn)) kn).length = kn := nb_length _ _
  have hne : nb (n / 2 ^ (wd - kn)) kn ≠ [] := by
    intro h
    rw [h] at ht
    simp at ht
    omega
  have hpc := piece_eq (bs.length % 8) wd kn n (by omega) (by omega) (by omega) (by omega) hn
  rw [← hr] at hpc
  unfold lastB
  rw [hpc]
  by_cases h0 : bs.length % 8 = 0
  · have hg : growB bs.length (packI bs) = packI bs ++ [0] := by unfold growB; rw [if_pos (by omega)]
    rw [hg, last_rd, last_set]
    unfold packI
    rw [pack_step0 bs _ h0 hne (by omega), ints_append]
    congr 1
    rw [h0]
    unfold byte8 ints
    rw [bnum_nb, ht]
    simp only [List.map_cons, List.map_nil]
    congr 1
    have hb : n / 2 ^ (wd - kn) % 2 ^ kn * 2 ^ (8 - 0 - kn) < 256 := by
      calc n / 2 ^ (wd - kn) % 2 ^ kn * 2 ^ (8 - 0 - kn) < 2 ^ kn * 2 ^ (8 - 0 - kn) := Nat.mul_lt_mul_of_pos_right (Nat.mod_lt _ (Nat.two_pow_pos _)) (Nat.two_pow_pos _)
        _ = 256 := by rw [← Nat.pow_add, show kn + (8 - 0 - kn) = 8 from by omega]
    rw [bits_join .u8 8 (by decide) wraps_u8 8 0 _ (by omega) (by omega) (by omega) (Int.natCast_nonneg _) (by omega) (by omega)]
    simp
  · obtain ⟨p, x, hp, hx0, hx1, hnew⟩ := pack_step1 bs (nb (n / 2 ^ (wd - kn)) kn) h0 (by omega)
    have hg : growB bs.length (packI bs) = ints p ++ [(x : Int)] := by unfold growB; rw [if_neg (by omega)]; unfold packI; rw [hp, ints_append]; rfl
    rw [hg, last_rd, last_set]
    unfold packI
    rw [hnew, ints_append]
    congr 1
    rw [bnum_nb, ht]
    unfold ints
    simp only [List.map_cons, List.map_nil]
    congr 1
    have hb : n / 2 ^ (wd - kn) % 2 ^ kn * 2 ^ (8 - bs.length % 8 - kn) < 2 ^ (8 - bs.length % 8) := by
      calc n / 2 ^ (wd - kn) % 2 ^ kn * 2 ^ (8 - bs.length % 8 - kn) < 2 ^ kn * 2 ^ (8 - bs.length % 8 - kn) := Nat.mul_lt_mul_of_pos_right (Nat.mod_lt _ (Nat.two_pow_pos _)) (Nat.two_pow_pos _)
        _ = 2 ^ (8 - bs.length % 8) := by rw [← Nat.pow_add, show kn + (8 - bs.length % 8 - kn) = 8 - bs.length % 8 from by omega]
    have hb8 : (2 : Nat) ^ (8 - bs.length % 8) ≤ 2 ^ 8 := Nat.pow_le_pow_right (by omega) (by omega)
    generalize n / 2 ^ (wd - kn) % 2 ^ kn * 2 ^ (8 - bs.length % 8 - kn) = y at *
    rw [bits_join .u8 8 (by decide) wraps_u8 (8 - bs.length % 8) x y (Int.natCast_nonneg _) (by exact_mod_cast hx0) (by omega) (Int.natCast_nonneg _) (by exact_mod_cast hb) (by omega)]
    simp
end Go.Proofs.YtemkfkaggdpcjaaDoor
