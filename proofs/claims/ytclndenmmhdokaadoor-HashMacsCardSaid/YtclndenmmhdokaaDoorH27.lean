/- The document's keys, xored, and sums with a key. -/
import Derived.Test.YtclndenmmhdokaaDoorH16
namespace Go.Proofs.YtclndenmmhdokaaDoor
open Go Go.RowKit Go.Proofs.YtclndenmmhdokaaDoorW.PrintWords Go.Proofs.YtclndenmmhdokaaDoorW.PrintMore Go.Proofs.YtclndenmmhdokaaDoorW.PrintLast Bq
set_option linter.unusedVariables false
set_option linter.unusedSimpArgs false
attribute [local go_sem ↓] Go.wp_at_zero Go.wp_at_succ
/-- A sum of the document's, as a row that is read. -/
theorem rsum_C (W : World) (A : Option Addr) (c : Nat) (t : List Int) (hC : (Kd.int .u8).C W A t.length t) (hc : t.length ≤ c) (hb : Byts t) (hl : t.length ≤ 1000000000) :
    Calls Tryd.prog 16 #[.slice A t.length c] W fun e w' => ∃ A' c', e = .returned (.slice A' (Sha.sum t).length c') ∧ (Sha.sum t).length ≤ c' ∧ (Kd.int .u8).C w' A' (Sha.sum t).length (Sha.sum t) ∧ Below W.heap.size W w' := by
  refine (rsum_calls W A c t hC hc hb hl).mono ?_
  rintro e w' ⟨v, rfl, hR, hB⟩
  obtain ⟨A', c', rfl, hc, hC⟩ := Kd.R_reads hR
  exact ⟨A', c', rfl, hc, hC, hB⟩
theorem xor_zero (x : Int) (h0 : 0 ≤ x) (h1 : x < 256) : bits .xor .u8 0 x = x := by
  have e : (BitVec.ofInt 8 0 ^^^ BitVec.ofInt 8 x) = BitVec.ofInt 8 x := by simp
  have h := congrArg (fun v : BitVec 8 => IntKind.u8.wrap (v.toNat : Int)) e
  refine Eq.trans (show bits .xor .u8 0 x = IntKind.u8.wrap ((BitVec.ofInt 8 0 ^^^ BitVec.ofInt 8 x).toNat : Int) from rfl) (h.trans ?_)
  simp [IntKind.wrap, IntKind.bits, IntKind.signed, BitVec.toNat_ofInt]
  omega
set_option maxHeartbeats 4000000 in
theorem rxored_calls (w : World) (A : Option Addr) (c : Nat) (key : List Int) (x : Int) (hC : (Kd.int .u8).C w A key.length key) (hcap : key.length ≤ c) (hb : Byts key) (hl : key.length ≤ 1000000000) (h0 : 0 ≤ x) (h1 : x < 256) :
    Calls Tryd.prog 50 #[.slice A key.length c, .int .u8 x] w fun e w' => ∃ A' c', e = .returned (.slice A' 64 c') ∧ 64 ≤ c' ∧ (Kd.int .u8).C w' A' 64 (Sha.xor8 x (Sha.key64 key)) ∧ Below w.heap.size w w' := by
  have HC := Lib.hid hC
  have HB := Lib.hid hb
  have HL := Lib.hid hl
  have HCAP := Lib.hid hcap
  have h01 := Lib.hid (And.intro h0 h1)
  clear hC hb hl hcap h0 h1
  obtain ⟨Y, hY⟩ : ∃ Y, Y = Sha.xor8 x (Sha.key64 key) := ⟨_, rfl⟩
  have hYl : Y.length = 64 := by rw [hY, Sha.xor8_length, Sha.key64_length]
  have HYY := Lib.hid hY
  have HYL := Lib.hid hYl
  clear hY hYl
  by_cases hk : key.length ≤ 64
  · have hki : ¬ (64 : Int) < (key.length : Int) := by omega
    have HK : Hid (key.length ≤ 64 ∧ Sha.key64 key = key ++ List.replicate (64 - key.length) 0) := Lib.hid ⟨hk, by unfold Sha.key64; rw [if_neg (by omega)]⟩
    go_enter Tryd.func50, Tryd.ntmps50
    go_upto_region 3 with fail
    clear hki hk
    go_wp2_with (at_make; refine Kd.R_make (Kd.int .u8) (w0 := w) (W := w) w.heap.size 5 rfl rfl 28 (.const (.int .i64 64)) (.const (.int .i64 64)) rfl 64 rfl rfl Tryd.underlying28 (.int .u8 0) 1 info_u8 rfl (by decide) (by decide) 0 (okp := fun _ => False) (ok := fun k => w.heap.size ≤ k) rfl (fun _ h => h.elim) (Nat.le_refl _) (by decide) (by decide) (Below.refl _ _) (Nat.le_refl _) ?_; intro v3 w3 hR hB _ _; obtain ⟨gr, cap, rfl, hgb, hgl, _⟩ := Kd.R_form hR (by decide); have HR : Hid ((Kd.int .u8).R 5 w3 w.heap.size (fun k => w.heap.size ≤ k) (.slice (some ⟨gr, 0, none⟩) 64 cap) (List.replicate 64 0)) := Lib.hid hR; have HB3 := Lib.hid hB; clear hR hB; rw [show (List.replicate (Int.toNat 64) (0 : Int)).length = 64 from rfl])
    obtain ⟨Z, hZ⟩ : ∃ Z, Z = List.replicate 64 (0 : Int) := ⟨_, rfl⟩
    have hZl : Z.length = 64 := by rw [hZ, List.length_replicate]
    rw [← hZ] at HR
    clear hZ
    have HZL := Lib.hid hZl
    clear hZl
    go_loopg [15] 64 (fun kq s15 wr => ∃ k : Nat, k + kq = 64 ∧ s15 = .int .i64 k ∧ Hid ((Kd.int .u8).R 5 wr w.heap.size (fun k => w.heap.size ≤ k) (.slice (some ⟨gr, 0, none⟩) 64 cap) (Y.take k ++ Z.drop k)) ∧ Hid (Below w.heap.size w wr))
    case atStart => exact ⟨0, by omega, rfl, HR.out, HB3.out⟩
    case round =>
      obtain ⟨k, hk, rfl, hR, hBr⟩ := hrel
      by_cases hlt : k < 64
      · have hml : (Y.take k ++ Z.drop k).length = 64 := by rw [mixN_len Y Z k (by rw [HZL.out, HYL.out]) (by rw [HZL.out]; omega), HZL.out]
        have hR64 : (Kd.int .u8).R 5 wr w.heap.size (fun k => w.heap.size ≤ k) (.slice (some ⟨gr, 0, none⟩) (Y.take k ++ Z.drop k).length cap) (Y.take k ++ Z.drop k) := by rw [hml]; exact hR.out
        obtain ⟨hcl, hfz⟩ := own_at_of (d := 0) (Kd.own_of_R hR64) (i := ((k : Nat) : Int)) (by omega) (by rw [hml]; omega)
        rw [Int.toNat_natCast] at hcl hfz
        obtain ⟨z, hz⟩ : ∃ z : Int, z = rdOf 0 (Y.take k ++ Z.drop k) ((k : Nat) : Int) := ⟨_, rfl⟩
        rw [← hz] at hcl
        clear hz hml hR64
        have hki : (k : Int) < 64 := by omega
        by_cases hlk : k < key.length
        · obtain ⟨ad, hA, hcell⟩ := C_at_int HC.out k hlk
          subst hA
          have hcell2 : (wr.setCell ⟨gr, k, none⟩ (.int .u8 x)).cell? (ad.add k) = some (.int .u8 (key.getD k 0)) := by
            rw [(hBr.out.setCell (p := ⟨gr, k, none⟩) hgb _).cell (World.block_lt_of_cell? w _ hcell)]
            exact hcell
          clear hcell
          obtain ⟨y, hy⟩ : ∃ y, y = key.getD k 0 := ⟨_, rfl⟩
          rw [← hy] at hcell2
          have HY2 := Lib.hid hy
          clear hy
          have HLK := Lib.hid hlk
          have hlki : (k : Int) < (key.length : Int) := by omega
          clear hlk
          go_wp2_with fail
          go_roundg (gk - 1)
          case measure => omega
          case rel =>
            have h2 := Kd.R_putn (Kd.R_putn hR.out ((k : Nat) : Int) x) ((k : Nat) : Int) (bits .xor .u8 y x)
            rw [Int.toNat_natCast, List.set_set] at h2
            have e : bits .xor .u8 y x = Y.getD k 0 := by
              rw [HYY.out, HK.out.2]
              unfold Sha.xor8
              rw [List.getD_eq_getElem?_getD, List.getElem?_map, List.getElem?_append_left HLK.out, HY2.out, List.getD_eq_getElem?_getD, List.getElem?_eq_getElem HLK.out]
              rfl
            rw [e, mixN_set Y Z k (by rw [HZL.out, HYL.out]) (by rw [HZL.out]; omega), ← e] at h2
            exact ⟨k + 1, by omega, by go_num, h2, (hBr.out.setCell (p := ⟨gr, k, none⟩) hgb _).setCell (p := ⟨gr, k, none⟩) hgb _⟩
        · have hlki : ¬ (k : Int) < (key.length : Int) := by omega
          have HLK := Lib.hid hlk
          clear hlk
          go_wp2_with fail
          go_roundg (gk - 1)
          case measure => omega
          case rel =>
            have h2 := Kd.R_putn hR.out ((k : Nat) : Int) x
            rw [Int.toNat_natCast] at h2
            have hlk := HLK.out
            have e : x = Y.getD k 0 := by
              rw [HYY.out, HK.out.2]
              unfold Sha.xor8
              rw [List.getD_eq_getElem?_getD, List.getElem?_map, List.getElem?_append_right (by omega), List.getElem?_replicate, if_pos (by have := HK.out.1; omega)]
              exact (xor_zero x h01.out.1 h01.out.2).symm
            have h3 := mixN_set Y Z k (by rw [HZL.out, HYL.out]) (by rw [HZL.out]; omega)
            rw [← e] at h3
            rw [h3] at h2
            exact ⟨k + 1, by omega, by go_num, h2, hBr.out.setCell (p := ⟨gr, k, none⟩) hgb _⟩
      · have hk64 : k = 64 := by omega
        have h3 := hR.out
        rw [hk64, List.take_of_length_le (by rw [HYL.out]; omega), List.drop_of_length_le (by rw [HZL.out]; omega), List.append_nil] at h3
        obtain ⟨_, hc3, hC3⟩ := Kd.R_reads' h3
        have HC3 := Lib.hid hC3
        clear hC3 h3
        go_wp2_with fail
        go_ret
        have hC3 := HC3.out
        rw [HYL.out] at hC3
        rw [← HYY.out]
        exact ⟨_, _, rfl, hc3, hC3, hBr.out⟩
  · have hki : (64 : Int) < (key.length : Int) := by omega
    obtain ⟨K, hK⟩ : ∃ K, K = Sha.sum key := ⟨_, rfl⟩
    have hKl : K.length = 32 := by rw [hK, Sha.sum_length]
    have HK : Hid (K.length ≤ 64 ∧ Sha.key64 key = K ++ List.replicate (64 - K.length) 0) := Lib.hid ⟨by omega, by unfold Sha.key64; rw [if_pos (by omega), hKl, hK]⟩
    have hcall := rsum_C w A c key HC.out HCAP.out HB.out HL.out
    rw [← hK] at hcall
    have HCALL := Lib.hid hcall
    clear hcall hK hKl
    go_enter Tryd.func50, Tryd.ntmps50
    go_upto_region 3 with (go_at_call 16; refine HCALL.out.mono ?_; rintro e w1 ⟨A1, c1, rfl, hc1, hC1, hB1⟩; have HC1 := Lib.hid hC1; have HB1 := Lib.hid hB1; clear hC1 hB1)
    clear hki hk
    go_wp2_with (at_make; refine Kd.R_make (Kd.int .u8) (w0 := w1) (W := w1) w1.heap.size 5 rfl rfl 28 (.const (.int .i64 64)) (.const (.int .i64 64)) rfl 64 rfl rfl Tryd.underlying28 (.int .u8 0) 1 info_u8 rfl (by decide) (by decide) 0 (okp := fun _ => False) (ok := fun k => w1.heap.size ≤ k) rfl (fun _ h => h.elim) (Nat.le_refl _) (by decide) (by decide) (Below.refl _ _) (Nat.le_refl _) ?_; intro v3 w3 hR hB _ _; obtain ⟨gr, cap, rfl, hgb, hgl, _⟩ := Kd.R_form hR (by decide); have HR : Hid ((Kd.int .u8).R 5 w3 w1.heap.size (fun k => w1.heap.size ≤ k) (.slice (some ⟨gr, 0, none⟩) 64 cap) (List.replicate 64 0)) := Lib.hid hR; have HB3 := Lib.hid hB; clear hR hB; rw [show (List.replicate (Int.toNat 64) (0 : Int)).length = 64 from rfl])
    obtain ⟨Z, hZ⟩ : ∃ Z, Z = List.replicate 64 (0 : Int) := ⟨_, rfl⟩
    have hZl : Z.length = 64 := by rw [hZ, List.length_replicate]
    rw [← hZ] at HR
    clear hZ
    have HZL := Lib.hid hZl
    clear hZl
    go_loopg [15] 64 (fun kq s15 wr => ∃ k : Nat, k + kq = 64 ∧ s15 = .int .i64 k ∧ Hid ((Kd.int .u8).R 5 wr w1.heap.size (fun k => w1.heap.size ≤ k) (.slice (some ⟨gr, 0, none⟩) 64 cap) (Y.take k ++ Z.drop k)) ∧ Hid (Below w1.heap.size w1 wr))
    case atStart => exact ⟨0, by omega, rfl, HR.out, HB3.out⟩
    case round =>
      obtain ⟨k, hk, rfl, hR, hBr⟩ := hrel
      by_cases hlt : k < 64
      · have hml : (Y.take k ++ Z.drop k).length = 64 := by rw [mixN_len Y Z k (by rw [HZL.out, HYL.out]) (by rw [HZL.out]; omega), HZL.out]
        have hR64 : (Kd.int .u8).R 5 wr w1.heap.size (fun k => w1.heap.size ≤ k) (.slice (some ⟨gr, 0, none⟩) (Y.take k ++ Z.drop k).length cap) (Y.take k ++ Z.drop k) := by rw [hml]; exact hR.out
        obtain ⟨hcl, hfz⟩ := own_at_of (d := 0) (Kd.own_of_R hR64) (i := ((k : Nat) : Int)) (by omega) (by rw [hml]; omega)
        rw [Int.toNat_natCast] at hcl hfz
        obtain ⟨z, hz⟩ : ∃ z : Int, z = rdOf 0 (Y.take k ++ Z.drop k) ((k : Nat) : Int) := ⟨_, rfl⟩
        rw [← hz] at hcl
        clear hz hml hR64
        have hki : (k : Int) < 64 := by omega
        by_cases hlk : k < K.length
        · obtain ⟨ad, hA, hcell⟩ := C_at_int HC1.out k hlk
          subst hA
          have hcell2 : (wr.setCell ⟨gr, k, none⟩ (.int .u8 x)).cell? (ad.add k) = some (.int .u8 (K.getD k 0)) := by
            rw [(hBr.out.setCell (p := ⟨gr, k, none⟩) hgb _).cell (World.block_lt_of_cell? w1 _ hcell)]
            exact hcell
          clear hcell
          obtain ⟨y, hy⟩ : ∃ y, y = K.getD k 0 := ⟨_, rfl⟩
          rw [← hy] at hcell2
          have HY2 := Lib.hid hy
          clear hy
          have HLK := Lib.hid hlk
          have hlki : (k : Int) < (K.length : Int) := by omega
          clear hlk
          go_wp2_with fail
          go_roundg (gk - 1)
          case measure => omega
          case rel =>
            have h2 := Kd.R_putn (Kd.R_putn hR.out ((k : Nat) : Int) x) ((k : Nat) : Int) (bits .xor .u8 y x)
            rw [Int.toNat_natCast, List.set_set] at h2
            have e : bits .xor .u8 y x = Y.getD k 0 := by
              rw [HYY.out, HK.out.2]
              unfold Sha.xor8
              rw [List.getD_eq_getElem?_getD, List.getElem?_map, List.getElem?_append_left HLK.out, HY2.out, List.getD_eq_getElem?_getD, List.getElem?_eq_getElem HLK.out]
              rfl
            rw [e, mixN_set Y Z k (by rw [HZL.out, HYL.out]) (by rw [HZL.out]; omega), ← e] at h2
            exact ⟨k + 1, by omega, by go_num, h2, (hBr.out.setCell (p := ⟨gr, k, none⟩) hgb _).setCell (p := ⟨gr, k, none⟩) hgb _⟩
        · have hlki : ¬ (k : Int) < (K.length : Int) := by omega
          have HLK := Lib.hid hlk
          clear hlk
          go_wp2_with fail
          go_roundg (gk - 1)
          case measure => omega
          case rel =>
            have h2 := Kd.R_putn hR.out ((k : Nat) : Int) x
            rw [Int.toNat_natCast] at h2
            have hlk := HLK.out
            have e : x = Y.getD k 0 := by
              rw [HYY.out, HK.out.2]
              unfold Sha.xor8
              rw [List.getD_eq_getElem?_getD, List.getElem?_map, List.getElem?_append_right (by omega), List.getElem?_replicate, if_pos (by have := HK.out.1; omega)]
              exact (xor_zero x h01.out.1 h01.out.2).symm
            have h3 := mixN_set Y Z k (by rw [HZL.out, HYL.out]) (by rw [HZL.out]; omega)
            rw [← e] at h3
            rw [h3] at h2
            exact ⟨k + 1, by omega, by go_num, h2, hBr.out.setCell (p := ⟨gr, k, none⟩) hgb _⟩
      · have hk64 : k = 64 := by omega
        have h3 := hR.out
        rw [hk64, List.take_of_length_le (by rw [HYL.out]; omega), List.drop_of_length_le (by rw [HZL.out]; omega), List.append_nil] at h3
        obtain ⟨_, hc3, hC3⟩ := Kd.R_reads' h3
        have HC3 := Lib.hid hC3
        clear hC3 h3
        go_wp2_with fail
        go_ret
        have hC3 := HC3.out
        rw [HYL.out] at hC3
        rw [← HYY.out]
        exact ⟨_, _, rfl, hc3, hC3, HB1.out.trans (below_lower hBr.out HB1.out.size)⟩
end Go.Proofs.YtclndenmmhdokaaDoor
