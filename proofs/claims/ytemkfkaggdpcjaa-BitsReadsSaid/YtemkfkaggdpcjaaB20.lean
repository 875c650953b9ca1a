/- The document's Bytes. -/
import Derived.Test.YtemkfkaggdpcjaaB19
namespace Go.Proofs.Ytemkfkaggdpcjaa
open Go.RowKit Go.Proofs.YtemkfkaggdpcjaaW.PrintWords Go.Proofs.YtemkfkaggdpcjaaW.PrintMore Go.Proofs.YtemkfkaggdpcjaaW.PrintLast Bq
set_option linter.unusedVariables false
set_option linter.unusedSimpArgs false
attribute [local go_sem ↓] Go.wp_at_zero Go.wp_at_succ

theorem C_at_bool {w : World} {A : Option Addr} {n : Nat} {xs : List Bool} (h : Kd.bool.C w A n xs) (i : Nat) (hi : i < n) : ∃ ad, A = some ad ∧ w.cell? (ad.add i) = some (.bool (xs.getD i false)) := by
  obtain ⟨ad, c, e, _, hK, hc⟩ := Kd.C_get h false (i : Int) (by omega) (by omega)
  rw [Int.toNat_natCast] at hK hc
  have hk : c = [.bool (xs.getD i false)] := hK
  subst hk
  have h2 := hc 0 _ rfl
  refine ⟨ad, e, ?_⟩
  have e1 : i * Kd.bool.sz + 0 = i := by show i * 1 + 0 = i; omega
  rw [e1] at h2
  exact h2

theorem or_byte (x : Int) (r : Nat) (h0 : 0 ≤ x) (h1 : x < 256) (hr : r < 8) : bits .or .u8 x (128 / 2 ^ r) = ((x.toNat ||| 2 ^ (7 - r) : Nat) : Int) := by
  obtain ⟨y, rfl⟩ := Int.eq_ofNat_of_zero_le h0
  have e : (128 : Int) / 2 ^ r = ((2 ^ (7 - r) : Nat) : Int) := by
    have : ∀ r : Fin 8, (128 : Int) / 2 ^ r.val = ((2 ^ (7 - r.val) : Nat) : Int) := by decide
    exact this ⟨r, hr⟩
  have e2 : 2 ^ (7 - r) < 256 := Nat.lt_of_lt_of_le (Nat.pow_lt_pow_right (by decide) (show 7 - r < 8 by omega)) (by decide)
  rw [e, (bits_nat .u8 8 (by decide) wraps_u8 y (2 ^ (7 - r)) (by omega) (by omega)).2, Int.toNat_natCast]

set_option maxHeartbeats 2000000 in
theorem rbytes_calls (w : World) (A : Option Addr) (c : Nat) (bs : List Bool) (hC : Kd.bool.C w A bs.length bs) (hl : bs.length ≤ 100000000) :
    Calls Try.prog 19 #[.slice A bs.length c] w fun e w' => ∃ v, e = .returned v ∧ (Kd.int .u8).R 5 w' w.heap.size (fun k => w.heap.size ≤ k) v (packI bs) ∧ Below w.heap.size w w' := by
  have HC := Lib.hid hC
  clear hC
  obtain ⟨m, hm⟩ : ∃ m, m = (bs.length + 7) / 8 := ⟨_, rfl⟩
  have hmi : ((bs.length : Int) + 7) / 8 = (m : Int) := by omega
  have HM := Lib.hid hm
  have HMI := Lib.hid hmi
  clear hmi
  have hm2 : m ≤ 100000000 := by omega
  clear hm
  go_enter Try.func19, Try.ntmps19
  go_wp2_with (at_make; refine Kd.R_make (Kd.int .u8) (w0 := w) (W := w) w.heap.size 5 rfl rfl 37 (.tmp 9) (.tmp 9) rfl (((bs.length : Int) + 7) / 8) rfl rfl Try.underlying37 (.int .u8 0) 1 info_u8 rfl (by decide) (by decide) 0 (okp := fun _ => False) (ok := fun k => w.heap.size ≤ k) rfl (fun _ h => h.elim) (Nat.le_refl _) (by omega) (by have := hm2; omega) (Below.refl _ _) (Nat.le_refl _) ?_; intro v1 w1 hR hB _ _; have HR := Lib.hid hR; have HB := Lib.hid hB; clear hR hB)
  rw [HMI.out, Int.toNat_natCast] at HR
  have hst : Byts (List.replicate m (0 : Int)) ∧ (List.replicate m (0 : Int)).length = m ∧ ∀ j, bitAt (List.replicate m (0 : Int)) j = (decide (j < 0) && bs.getD j false) := by
    refine ⟨fun x hx => ?_, by simp, fun j => ?_⟩
    · have := (List.mem_replicate.1 hx).2
      omega
    · unfold bitAt
      rw [decide_eq_false (by omega), Bool.false_and, List.getD_eq_getElem?_getD, List.getElem?_replicate]
      split <;> simp
  have HST := Lib.hid hst
  clear hst
  go_loopg [13] bs.length (fun kq s13 wr => ∃ (k : Nat) (xs : List Int), k + kq = bs.length ∧ s13 = .int .i64 k ∧ Hid (xs.length = m) ∧ Hid (Byts xs) ∧ Hid (∀ j, bitAt xs j = (decide (j < k) && bs.getD j false)) ∧ Hid ((Kd.int .u8).R 5 wr w.heap.size (fun k => w.heap.size ≤ k) v1 xs) ∧ Hid (Below w.heap.size w wr))
  case atStart => exact ⟨0, _, by omega, rfl, HST.out.2.1, HST.out.1, HST.out.2.2, HR.out, HB.out⟩
  case round =>
    obtain ⟨k, xs, hk, rfl, hxm, hby, hbit, hR, hBr⟩ := hrel
    by_cases hlt : k < bs.length
    · obtain ⟨ad, hA, hcell⟩ := C_at_bool HC.out k hlt
      subst hA
      have hcell2 : wr.cell? (ad.add k) = some (.bool (bs.getD k false)) := by
        rw [hBr.out.cell (World.block_lt_of_cell? w _ hcell)]
        exact hcell
      clear hcell
      obtain ⟨b, hb⟩ : ∃ b, b = bs.getD k false := ⟨_, rfl⟩
      rw [← hb] at hcell2
      have HBB := Lib.hid hb
      clear hb
      cases b with
      | false =>
        go_wp2_with fail
        go_roundg (gk - 1)
        case measure => omega
        case rel =>
          refine ⟨k + 1, xs, by omega, by go_num, hxm.out, hby.out, fun j => ?_, hR.out, hBr.out⟩
          rw [hbit.out j]
          by_cases hjk : j = k
          · subst hjk
            rw [← HBB.out]; simp
          · have : decide (j < k + 1) = decide (j < k) := by
              apply decide_eq_decide.2
              omega
            rw [this]
      | true =>
        have hq : k / 8 < xs.length := by have := hxm.out; have := HM.out; omega
        obtain ⟨gr, cap, hs3, hgb, hgl, _⟩ := Kd.R_form hR.out (by omega)
        have hxb : 0 ≤ rdOf 0 xs ((k / 8 : Nat) : Int) ∧ rdOf 0 xs ((k / 8 : Nat) : Int) < 256 := by
          have h := Byts.get hby.out (k / 8) hq
          exact h
        have HXB := Lib.hid hxb
        clear hxb
        subst hs3
        obtain ⟨q, hqq⟩ : ∃ q, q = k / 8 := ⟨_, rfl⟩
        obtain ⟨r, hrr⟩ : ∃ r, r = k % 8 := ⟨_, rfl⟩
        obtain ⟨hcl, hfz⟩ := own_at_of (d := 0) (Kd.own_of_R hR.out) (i := ((q : Nat) : Int)) (by omega) (by omega)
        rw [Int.toNat_natCast] at hcl hfz
        obtain ⟨x, hx⟩ : ∃ x : Int, x = rdOf 0 xs ((q : Nat) : Int) := ⟨_, rfl⟩
        rw [← hx] at hcl
        have HX := Lib.hid hx
        have e1 : ((k : Int) / 8).toNat = q := by omega
        have e2 : ((k : Int) % 8).toNat = r := by omega
        have e3 : (0 : Int) ≤ (k : Int) / 8 := by omega
        have e4 : (k : Int) / 8 < (xs.length : Int) := by omega
        have HQ := Lib.hid hq
        have HQQ := Lib.hid hqq
        have HRR := Lib.hid hrr
        clear hq hx hqq hrr
        go_wp2_with fail
        go_roundg (gk - 1)
        case measure => omega
        case rel =>
          have hr8 : r < 8 := by rw [HRR.out]; exact Nat.mod_lt _ (by decide)
          have hx2 : 0 ≤ x ∧ x < 256 := by rw [HX.out, HQQ.out]; exact HXB.out
          have hor := or_byte x r hx2.1 hx2.2 hr8
          rw [hor]
          obtain ⟨hR3, hg3⟩ := Kd.R_put hR.out ((q : Nat) : Int) ((x.toNat ||| 2 ^ (7 - r) : Nat) : Int)
          rw [Int.toNat_natCast] at hR3 hg3
          have hxs : xs.set q ((x.toNat ||| 2 ^ (7 - r) : Nat) : Int) = xs.set (k / 8) ((((xs.getD (k / 8) 0).toNat ||| 2 ^ (7 - k % 8)) : Nat) : Int) := by
            have : x = xs.getD (k / 8) 0 := by rw [HX.out, HQQ.out]; rfl
            rw [this, HQQ.out, HRR.out]
          have hk8 : k < 8 * xs.length := by have := hxm.out; have := HM.out; omega
          refine ⟨k + 1, _, by omega, by go_num, ?_, ?_, fun j => ?_, hR3, hBr.out.grown hg3 hBr.out.size (fun g hg => by injection hg with hg; omega)⟩
          · show (xs.set q _).length = m
            rw [List.length_set]
            exact hxm.out
          · intro y hy
            rcases List.mem_or_eq_of_mem_set hy with h | h
            · exact hby.out y h
            · have h1 : x.toNat ||| 2 ^ (7 - r) < 2 ^ 8 := Nat.or_lt_two_pow (by omega) (Nat.pow_lt_pow_right (by decide) (by omega))
              have h2 : (2 : Nat) ^ 8 = 256 := by decide
              omega
          · rw [hxs, bitAt_set xs k j hby.out hk8, hbit.out j]
            by_cases hjk : j = k
            · subst hjk
              rw [← HBB.out]; simp
            · have : decide (j < k + 1) = decide (j < k) := by
                apply decide_eq_decide.2
                omega
              rw [this, decide_eq_false hjk, Bool.or_false]
    · have hkk : k = bs.length := by omega
      go_wp2_with fail
      go_ret
      have hX : packI bs = xs := by
        apply bits_ext
        · rw [packI_length, hxm.out, HM.out]
        · exact byts_packI bs
        · exact hby.out
        · intro j hj
          rw [packI_length] at hj
          rw [bitAt_pack bs.length bs j (Nat.le_refl _) hj, hbit.out j]
          by_cases hjl : j < bs.length
          · rw [decide_eq_true (by omega), Bool.true_and]
          · rw [List.getD_eq_getElem?_getD, List.getElem?_eq_none (by omega)]
            simp
      rw [hX]
      exact ⟨_, rfl, hR.out, hBr.out⟩
end Go.Proofs.Ytemkfkaggdpcjaa
