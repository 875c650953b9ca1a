import Derived.Test.YtkkomfomjpcbfaaDoorSTokenVerifiesH11
import Derived.Test.YtkkomfomjpcbfaaDoorSTokenVerifiesHE
import Derived.Test.YtkkomfomjpcbfaaDoorSTokenVerifiesWGuard
namespace Go.Proofs.YtkkomfomjpcbfaaDoor.Bq
end Go.Proofs.YtkkomfomjpcbfaaDoor.Bq
set_option linter.unusedVariables false
set_option linter.unusedSimpArgs false
namespace Go.Proofs.YtkkomfomjpcbfaaDoor
open Go Go.RowKit Go.Proofs.YtkkomfomjpcbfaaDoorW.PrintWords Go.Proofs.YtkkomfomjpcbfaaDoorW.PrintMore Go.Proofs.YtkkomfomjpcbfaaDoorW.PrintLast Bq
attribute [local go_sem ↓] Go.wp_at_zero Go.wp_at_succ
theorem Parts.of {w : World} {A : Option Addr} {t : Nat} {xss : List (List Int)} (h : (Kd.slice 5 (Kd.int .u8)).C w A xss.length xss) : Parts w (fun k => k < w.heap.size) A xss := by
 intro i hi
 obtain ⟨ad, B, c, e, hc, hB⟩ := rows_get h i hi
 exact ⟨ad, B, c, e, World.block_lt_of_cell? w _ hc, hc, Kd.C_F (Kd.heap_int .u8) hB⟩
theorem sum32 (D : List Int) (hDl : D.length = 32) : (∀ W : World, (W.alloc (.cells (nums .u8 (List.replicate 32 0)).toArray 50)).there W.heap.size 0 (nums .u8 D).toArray.size) ∧ (Tryd.prog.info? 50).map (·.size) = some (nums .u8 D).toArray.size := by
 have e : (nums .u8 D).toArray.size = 32 := by rw [List.size_toArray, nums_length, hDl]
 rw [e]
 refine ⟨fun W => ?_, by kernel_rfl⟩
 have k : Blk (W.alloc (.cells (nums .u8 (List.replicate 32 0)).toArray 50)) W.heap.size .u8 50 (List.replicate 32 0) := kC W _
 exact k.there
theorem sum32_new (W w : World) (D : List Int) (hDl : D.length = 32) (hB : Below w.heap.size w W) : Blk (putA (W.alloc (.cells (nums .u8 (List.replicate 32 0)).toArray 50)) W.heap.size .u8 D) W.heap.size .u8 50 D ∧ Below w.heap.size w (putA (W.alloc (.cells (nums .u8 (List.replicate 32 0)).toArray 50)) W.heap.size .u8 D) := by
 have a : Blk (W.alloc (.cells (nums .u8 (List.replicate 32 0)).toArray 50)) W.heap.size .u8 50 (List.replicate 32 0) := kC W _
 exact ⟨a.putA (k' := .u8) (ys := D) (by rw [hDl]; rfl), putA_below (hB.alloc hB.size _) hB.size⟩
theorem rsum_C (W : World) (A : Option Addr) (c : Nat) (t : List Int) (hC : (Kd.int .u8).C W A t.length t) (hc : t.length ≤ c) (hb : Byts t) (hl : t.length ≤ 1000000000) :
  Calls Tryd.prog 52 #[.slice A t.length c] W fun e w' => ∃ A' c', e = .returned (.slice A' (Sha.sum t).length c') ∧ (Sha.sum t).length ≤ c' ∧ (Kd.int .u8).C w' A' (Sha.sum t).length (Sha.sum t) ∧ Below W.heap.size W w' := by
 refine (rsum_calls W A c t hC hc hb hl).mono ?_
 rintro e w' ⟨v, rfl, hR, hB⟩
 obtain ⟨A', c', rfl, hc, hC⟩ := Kd.R_reads hR
 exact ⟨A', c', rfl, hc, hC, hB⟩
theorem xor_zero (x : Int) (h0 : 0 ≤ x) (h1 : x < 256) : bits .xor .u8 0 x = x := by
 have e : (BitVec.ofInt 8 0 ^^^ BitVec.ofInt 8 x) = BitVec.ofInt 8 x := by simp
 have h := congrArg (fun v : BitVec 8 => IntKind.u8.wrap (v.toNat : Int)) e
 refine Eq.trans (show bits .xor .u8 0 x = IntKind.u8.wrap ((BitVec.ofInt 8 0 ^^^ BitVec.ofInt 8 x).toNat : Int) from rfl) (h.trans ?_)
 simp [IntKind.wrap, IntKind.bits, IntKind.signed, BitVec.toNat_ofInt]
 omega
set_option maxHeartbeats 4000000 in
theorem rxored_calls (w : World) (A : Option Addr) (c : Nat) (key : List Int) (x : Int) (hC : (Kd.int .u8).C w A key.length key) (hcap : key.length ≤ c) (hb : Byts key) (hl : key.length ≤ 1000000000) (h0 : 0 ≤ x) (h1 : x < 256) :
  Calls Tryd.prog 53 #[.slice A key.length c, .int .u8 x] w fun e w' => ∃ A' c', e = .returned (.slice A' 64 c') ∧ 64 ≤ c' ∧ (Kd.int .u8).C w' A' 64 (Sha.xor8 x (Sha.key64 key)) ∧ Below w.heap.size w w' := by
 have HC := Lib.hid hC
 have HB := Lib.hid hb
 have HL := Lib.hid hl
 have HCAP := Lib.hid hcap
 have h01 := Lib.hid (And.intro h0 h1)
 clear hC hb hl hcap h0 h1
 obtain ⟨Y, hY⟩ : ∃ Y, Y = Sha.xor8 x (Sha.key64 key) := ⟨_, rfl⟩
 have hYl : Y.length = 64 := by rw [hY, Sha.xor8_length, Sha.key64_length]
 have HYY := Lib.hid hY
 have HYL := Lib.hid hYl
 clear hY hYl
 by_cases hk : key.length ≤ 64
 ·have hki : ¬ (64 : Int) < (key.length : Int) := by omega
  have HK : Hid (key.length ≤ 64 ∧ Sha.key64 key = key ++ List.replicate (64 - key.length) 0) := Lib.hid ⟨hk, by unfold Sha.key64; rw [if_neg (by omega)]⟩
  go_enter Tryd.func53, Tryd.ntmps53
  go_upto_region 3 with fail
  clear hki hk
  go_wp2_with (at_make; refine Kd.R_make (Kd.int .u8) (w0 := w) (W := w) w.heap.size 5 rfl rfl 45 (.const (.int .i64 64)) (.const (.int .i64 64)) rfl 64 rfl rfl Tryd.underlying45 (.int .u8 0) 1 info_u8 rfl (by decide) (by decide) 0 (okp := fun _ => False) (ok := fun k => w.heap.size ≤ k) rfl (fun _ h => h.elim) (Nat.le_refl _) (by decide) (by decide) (Below.refl _ _) (Nat.le_refl _) ?_; intro v3 w3 hR hB _ _; obtain ⟨gr, cap, rfl, hgb, hgl, _⟩ := Kd.R_form hR (by decide); have HR : Hid ((Kd.int .u8).R 5 w3 w.heap.size (fun k => w.heap.size ≤ k) (.slice (some ⟨gr, 0, none⟩) 64 cap) (List.replicate 64 0)) := Lib.hid hR; have HB3 := Lib.hid hB; clear hR hB; rw [show (List.replicate (Int.toNat 64) (0 : Int)).length = 64 from rfl])
  obtain ⟨Z, hZ⟩ : ∃ Z, Z = List.replicate 64 (0 : Int) := ⟨_, rfl⟩
  have hZl : Z.length = 64 := by rw [hZ, List.length_replicate]
  rw [← hZ] at HR
  clear hZ
  have HZL := Lib.hid hZl
  clear hZl
  go_loopg [15] 64 (fun kq s15 wr => ∃ k : Nat, k + kq = 64 ∧ s15 = .int .i64 k ∧ Hid ((Kd.int .u8).R 5 wr w.heap.size (fun k => w.heap.size ≤ k) (.slice (some ⟨gr, 0, none⟩) 64 cap) (Y.take k ++ Z.drop k)) ∧ Hid (Below w.heap.size w wr))
  case atStart => exact ⟨0, by omega, rfl, HR.out, HB3.out⟩
  case round =>
   obtain ⟨k, hk, rfl, hR, hBr⟩ := hrel
   by_cases hlt : k < 64
   ·have hml : (Y.take k ++ Z.drop k).length = 64 := by rw [mixN_len Y Z k (by rw [HZL.out, HYL.out]) (by rw [HZL.out]; omega), HZL.out]
    have hR64 : (Kd.int .u8).R 5 wr w.heap.size (fun k => w.heap.size ≤ k) (.slice (some ⟨gr, 0, none⟩) (Y.take k ++ Z.drop k).length cap) (Y.take k ++ Z.drop k) := by rw [hml]; exact hR.out
    obtain ⟨hcl, hfz⟩ := own_at_of (d := 0) (Kd.own_of_R hR64) (i := ((k : Nat) : Int)) (by omega) (by rw [hml]; omega)
    rw [Int.toNat_natCast] at hcl hfz
    obtain ⟨z, hz⟩ : ∃ z : Int, z = rdOf 0 (Y.take k ++ Z.drop k) ((k : Nat) : Int) := ⟨_, rfl⟩
    rw [← hz] at hcl
    clear hz hml hR64
    have hki : (k : Int) < 64 := by omega
    by_cases hlk : k < key.length
    ·obtain ⟨ad, hA, hcell⟩ := C_at_int HC.out k hlk
     subst hA
     have hcell2 : (wr.setCell ⟨gr, k, none⟩ (.int .u8 x)).cell? (ad.add k) = some (.int .u8 (key.getD k 0)) := by
      rw [(hBr.out.setCell (p := ⟨gr, k, none⟩) hgb _).cell (World.block_lt_of_cell? w _ hcell)]
      exact hcell
     clear hcell
     obtain ⟨y, hy⟩ : ∃ y, y = key.getD k 0 := ⟨_, rfl⟩
     rw [← hy] at hcell2
     have HY2 := Lib.hid hy
     clear hy
     have HLK := Lib.hid hlk
     have hlki : (k : Int) < (key.length : Int) := by omega
     clear hlk
     go_wp2_with fail
     go_roundg (gk - 1)
     case measure => omega
     case rel =>
      have h2 := Kd.R_putn (Kd.R_putn hR.out ((k : Nat) : Int) x) ((k : Nat) : Int) (bits .xor .u8 y x)
      rw [Int.toNat_natCast, List.set_set] at h2
      have e : bits .xor .u8 y x = Y.getD k 0 := by
       rw [HYY.out, HK.out.2]
       unfold Sha.xor8
       rw [List.getD_eq_getElem?_getD, List.getElem?_map, List.getElem?_append_left HLK.out, HY2.out, List.getD_eq_getElem?_getD, List.getElem?_eq_getElem HLK.out]
       rfl
      rw [e, mixN_set Y Z k (by rw [HZL.out, HYL.out]) (by rw [HZL.out]; omega), ← e] at h2
      exact ⟨k + 1, by omega, by go_num, h2, (hBr.out.setCell (p := ⟨gr, k, none⟩) hgb _).setCell (p := ⟨gr, k, none⟩) hgb _⟩
    ·have hlki : ¬ (k : Int) < (key.length : Int) := by omega
     have HLK := Lib.hid hlk
     clear hlk
     go_wp2_with fail
     go_roundg (gk - 1)
     case measure => omega
     case rel =>
      have h2 := Kd.R_putn hR.out ((k : Nat) : Int) x
      rw [Int.toNat_natCast] at h2
      have hlk := HLK.out
      have e : x = Y.getD k 0 := by
       rw [HYY.out, HK.out.2]
       unfold Sha.xor8
       rw [List.getD_eq_getElem?_getD, List.getElem?_map, List.getElem?_append_right (by omega), List.getElem?_replicate, if_pos (by have := HK.out.1; omega)]
       exact (xor_zero x h01.out.1 h01.out.2).symm
      have h3 := mixN_set Y Z k (by rw [HZL.out, HYL.out]) (by rw [HZL.out]; omega)
      rw [← e] at h3
      rw [h3] at h2
      exact ⟨k + 1, by omega, by go_num, h2, hBr.out.setCell (p := ⟨gr, k, none⟩) hgb _⟩
   ·have hk64 : k = 64 := by omega
    have h3 := hR.out
    rw [hk64, List.take_of_length_le (by rw [HYL.out]; omega), List.drop_of_length_le (by rw [HZL.out]; omega), List.append_nil] at h3
    obtain ⟨_, hc3, hC3⟩ := Kd.R_reads' h3
    have HC3 := Lib.hid hC3
    clear hC3 h3
    go_wp2_with fail
    go_ret
    have hC3 := HC3.out
    rw [HYL.out] at hC3
    rw [← HYY.out]
    exact ⟨_, _, rfl, hc3, hC3, hBr.out⟩
 ·have hki : (64 : Int) < (key.length : Int) := by omega
  obtain ⟨K, hK⟩ : ∃ K, K = Sha.sum key := ⟨_, rfl⟩
  have hKl : K.length = 32 := by rw [hK, Sha.sum_length]
  have HK : Hid (K.length ≤ 64 ∧ Sha.key64 key = K ++ List.replicate (64 - K.length) 0) := Lib.hid ⟨by omega, by unfold Sha.key64; rw [if_pos (by omega), hKl, hK]⟩
  have hcall := rsum_C w A c key HC.out HCAP.out HB.out HL.out
  rw [← hK] at hcall
  have HCALL := Lib.hid hcall
  clear hcall hK hKl
  go_enter Tryd.func53, Tryd.ntmps53
  go_upto_region 3 with (go_at_call 52; refine HCALL.out.mono ?_; rintro e w1 ⟨A1, c1, rfl, hc1, hC1, hB1⟩; have HC1 := Lib.hid hC1; have HB1 := Lib.hid hB1; clear hC1 hB1)
  clear hki hk
  go_wp2_with (at_make; refine Kd.R_make (Kd.int .u8) (w0 := w1) (W := w1) w1.heap.size 5 rfl rfl 45 (.const (.int .i64 64)) (.const (.int .i64 64)) rfl 64 rfl rfl Tryd.underlying45 (.int .u8 0) 1 info_u8 rfl (by decide) (by decide) 0 (okp := fun _ => False) (ok := fun k => w1.heap.size ≤ k) rfl (fun _ h => h.elim) (Nat.le_refl _) (by decide) (by decide) (Below.refl _ _) (Nat.le_refl _) ?_; intro v3 w3 hR hB _ _; obtain ⟨gr, cap, rfl, hgb, hgl, _⟩ := Kd.R_form hR (by decide); have HR : Hid ((Kd.int .u8).R 5 w3 w1.heap.size (fun k => w1.heap.size ≤ k) (.slice (some ⟨gr, 0, none⟩) 64 cap) (List.replicate 64 0)) := Lib.hid hR; have HB3 := Lib.hid hB; clear hR hB; rw [show (List.replicate (Int.toNat 64) (0 : Int)).length = 64 from rfl])
  obtain ⟨Z, hZ⟩ : ∃ Z, Z = List.replicate 64 (0 : Int) := ⟨_, rfl⟩
  have hZl : Z.length = 64 := by rw [hZ, List.length_replicate]
  rw [← hZ] at HR
  clear hZ
  have HZL := Lib.hid hZl
  clear hZl
  go_loopg [15] 64 (fun kq s15 wr => ∃ k : Nat, k + kq = 64 ∧ s15 = .int .i64 k ∧ Hid ((Kd.int .u8).R 5 wr w1.heap.size (fun k => w1.heap.size ≤ k) (.slice (some ⟨gr, 0, none⟩) 64 cap) (Y.take k ++ Z.drop k)) ∧ Hid (Below w1.heap.size w1 wr))
  case atStart => exact ⟨0, by omega, rfl, HR.out, HB3.out⟩
  case round =>
   obtain ⟨k, hk, rfl, hR, hBr⟩ := hrel
   by_cases hlt : k < 64
   ·have hml : (Y.take k ++ Z.drop k).length = 64 := by rw [mixN_len Y Z k (by rw [HZL.out, HYL.out]) (by rw [HZL.out]; omega), HZL.out]
    have hR64 : (Kd.int .u8).R 5 wr w1.heap.size (fun k => w1.heap.size ≤ k) (.slice (some ⟨gr, 0, none⟩) (Y.take k ++ Z.drop k).length cap) (Y.take k ++ Z.drop k) := by rw [hml]; exact hR.out
    obtain ⟨hcl, hfz⟩ := own_at_of (d := 0) (Kd.own_of_R hR64) (i := ((k : Nat) : Int)) (by omega) (by rw [hml]; omega)
    rw [Int.toNat_natCast] at hcl hfz
    obtain ⟨z, hz⟩ : ∃ z : Int, z = rdOf 0 (Y.take k ++ Z.drop k) ((k : Nat) : Int) := ⟨_, rfl⟩
    rw [← hz] at hcl
    clear hz hml hR64
    have hki : (k : Int) < 64 := by omega
    by_cases hlk : k < K.length
    ·obtain ⟨ad, hA, hcell⟩ := C_at_int HC1.out k hlk
     subst hA
     have hcell2 : (wr.setCell ⟨gr, k, none⟩ (.int .u8 x)).cell? (ad.add k) = some (.int .u8 (K.getD k 0)) := by
      rw [(hBr.out.setCell (p := ⟨gr, k, none⟩) hgb _).cell (World.block_lt_of_cell? w1 _ hcell)]
      exact hcell
     clear hcell
     obtain ⟨y, hy⟩ : ∃ y, y = K.getD k 0 := ⟨_, rfl⟩
     rw [← hy] at hcell2
     have HY2 := Lib.hid hy
     clear hy
     have HLK := Lib.hid hlk
     have hlki : (k : Int) < (K.length : Int) := by omega
     clear hlk
     go_wp2_with fail
     go_roundg (gk - 1)
     case measure => omega
     case rel =>
      have h2 := Kd.R_putn (Kd.R_putn hR.out ((k : Nat) : Int) x) ((k : Nat) : Int) (bits .xor .u8 y x)
      rw [Int.toNat_natCast, List.set_set] at h2
      have e : bits .xor .u8 y x = Y.getD k 0 := by
       rw [HYY.out, HK.out.2]
       unfold Sha.xor8
       rw [List.getD_eq_getElem?_getD, List.getElem?_map, List.getElem?_append_left HLK.out, HY2.out, List.getD_eq_getElem?_getD, List.getElem?_eq_getElem HLK.out]
       rfl
      rw [e, mixN_set Y Z k (by rw [HZL.out, HYL.out]) (by rw [HZL.out]; omega), ← e] at h2
      exact ⟨k + 1, by omega, by go_num, h2, (hBr.out.setCell (p := ⟨gr, k, none⟩) hgb _).setCell (p := ⟨gr, k, none⟩) hgb _⟩
    ·have hlki : ¬ (k : Int) < (K.length : Int) := by omega
     have HLK := Lib.hid hlk
     clear hlk
     go_wp2_with fail
     go_roundg (gk - 1)
     case measure => omega
     case rel =>
      have h2 := Kd.R_putn hR.out ((k : Nat) : Int) x
      rw [Int.toNat_natCast] at h2
      have hlk := HLK.out
      have e : x = Y.getD k 0 := by
       rw [HYY.out, HK.out.2]
       unfold Sha.xor8
       rw [List.getD_eq_getElem?_getD, List.getElem?_map, List.getElem?_append_right (by omega), List.getElem?_replicate, if_pos (by have := HK.out.1; omega)]
       exact (xor_zero x h01.out.1 h01.out.2).symm
      have h3 := mixN_set Y Z k (by rw [HZL.out, HYL.out]) (by rw [HZL.out]; omega)
      rw [← e] at h3
      rw [h3] at h2
      exact ⟨k + 1, by omega, by go_num, h2, hBr.out.setCell (p := ⟨gr, k, none⟩) hgb _⟩
   ·have hk64 : k = 64 := by omega
    have h3 := hR.out
    rw [hk64, List.take_of_length_le (by rw [HYL.out]; omega), List.drop_of_length_le (by rw [HZL.out]; omega), List.append_nil] at h3
    obtain ⟨_, hc3, hC3⟩ := Kd.R_reads' h3
    have HC3 := Lib.hid hC3
    clear hC3 h3
    go_wp2_with fail
    go_ret
    have hC3 := HC3.out
    rw [HYL.out] at hC3
    rw [← HYY.out]
    exact ⟨_, _, rfl, hc3, hC3, HB1.out.trans (ks hBr.out HB1.out.size)⟩
theorem R_rebase {e : Nat} {w : World} {base : Nat} {ok : Nat → Prop} {v : Value} {xs : List Int} (h : (Kd.int .u8).R e w 0 ok v xs) (hok : ∀ k, ok k → base ≤ k) : (Kd.int .u8).R e w base ok v xs := by
 obtain ⟨hk, inner, ⟨h1, h2⟩, hr⟩ := h
 refine ⟨hk, inner, ⟨h1, ?_⟩, hr⟩
 rcases h2 with h2 | ⟨b, cap, cs, rfl, hb, rest⟩
 ·exact .inl h2
 ·exact .inr ⟨b, cap, cs, rfl, hok b (hk b rfl), rest⟩
set_option maxHeartbeats 4000000 in
theorem rmacR_calls (w : World) (A : Option Addr) (c : Nat) (key : List Int) (B : Option Addr) (cb : Nat) (t : List Int) (hC : (Kd.int .u8).C w A key.length key) (hcap : key.length ≤ c) (hb : Byts key) (hl : key.length ≤ 900000000)
  (hCt : (Kd.int .u8).C w B t.length t) (hct : t.length ≤ cb) (hbt : Byts t) (hlt : t.length ≤ 900000000) :
  Calls Tryd.prog 30 #[.slice A key.length c, .slice B t.length cb] w fun e w' => ∃ v, e = .returned v ∧ (Kd.int .u8).R 5 w' w.heap.size (fun _ => True) v (Sha.mac key t) ∧ Below w.heap.size w w' := by
 obtain ⟨X92, hX92⟩ : ∃ X, X = Sha.xor8 92 (Sha.key64 key) := ⟨_, rfl⟩
 obtain ⟨X54, hX54⟩ : ∃ X, X = Sha.xor8 54 (Sha.key64 key) := ⟨_, rfl⟩
 obtain ⟨U, hU⟩ : ∃ U, U = X54 ++ t := ⟨_, rfl⟩
 obtain ⟨E, hE⟩ : ∃ E, E = Sha.sum U := ⟨_, rfl⟩
 obtain ⟨V, hV⟩ : ∃ V, V = X92 ++ E := ⟨_, rfl⟩
 obtain ⟨M, hM⟩ : ∃ M, M = Sha.sum V := ⟨_, rfl⟩
 have l92 : X92.length = 64 := by rw [hX92, Sha.xor8_length, Sha.key64_length]
 have l54 : X54.length = 64 := by rw [hX54, Sha.xor8_length, Sha.key64_length]
 have lE : E.length = 32 := by rw [hE, Sha.sum_length]
 have lM : M.length = 32 := by rw [hM, Sha.sum_length]
 have lU : U.length ≤ 900000064 := by rw [hU, List.length_append]; omega
 have lV : V.length = 96 := by rw [hV, List.length_append]; omega
 have bU : Byts U := by rw [hU, hX54]; exact Sha.byts_app (Sha.byts_xor8 _ _) hbt
 have bV : Byts V := by rw [hV, hX92, hE]; exact Sha.byts_app (Sha.byts_xor8 _ _) (Sha.byts_sum _)
 have hmac : Sha.mac key t = M := by rw [hM, hV, hE, hU, hX92, hX54]; rfl
 rw [hmac]
 have CX92 : Hid (∀ W : World, (Kd.int .u8).C W A key.length key → Calls Tryd.prog 53 #[.slice A key.length c, .int .u8 92] W fun e w' => ∃ A' c', e = .returned (.slice A' 64 c') ∧ 64 ≤ c' ∧ (Kd.int .u8).C w' A' 64 X92 ∧ Below W.heap.size W w') := Lib.hid (fun W h => by
  have h := rxored_calls W A c key 92 h hcap hb (by omega) (by decide) (by decide)
  rw [← hX92] at h
  exact h)
 have CX54 : Hid (∀ W : World, (Kd.int .u8).C W A key.length key → Calls Tryd.prog 53 #[.slice A key.length c, .int .u8 54] W fun e w' => ∃ A' c', e = .returned (.slice A' 64 c') ∧ 64 ≤ c' ∧ (Kd.int .u8).C w' A' 64 X54 ∧ Below W.heap.size W w') := Lib.hid (fun W h => by
  have h := rxored_calls W A c key 54 h hcap hb (by omega) (by decide) (by decide)
  rw [← hX54] at h
  exact h)
 have CJ1 : Hid (∀ (W : World) (A2 : Option Addr) (c2 : Nat), (Kd.int .u8).C W A2 64 X54 → 64 ≤ c2 → (Kd.int .u8).C W B t.length t → Calls Tryd.prog 47 #[.slice (some ⟨W.heap.size, 0, none⟩) 2 2] (W.alloc (.cells #[.slice A2 64 c2, .slice B t.length cb] 45)) fun e w' => ∃ A' c', e = .returned (.slice A' U.length c') ∧ U.length ≤ c' ∧ (Kd.int .u8).C w' A' U.length U ∧ Below W.heap.size W w') := Lib.hid (fun W A2 c2 h hc h2 => by
  have h := join2_as W A2 B c2 cb X54 t U (by rw [l54]; exact h) h2 (by omega) hct hU (by omega)
  rw [l54] at h
  exact h)
 have CJ2 : Hid (∀ (W : World) (A2 : Option Addr) (c2 : Nat) (A3 : Option Addr) (c3 : Nat), (Kd.int .u8).C W A2 64 X92 → 64 ≤ c2 → (Kd.int .u8).C W A3 E.length E → E.length ≤ c3 → Calls Tryd.prog 47 #[.slice (some ⟨W.heap.size, 0, none⟩) 2 2] (W.alloc (.cells #[.slice A2 64 c2, .slice A3 E.length c3] 45)) fun e w' => ∃ A' c', e = .returned (.slice A' V.length c') ∧ V.length ≤ c' ∧ (Kd.int .u8).C w' A' V.length V ∧ Below W.heap.size W w') := Lib.hid (fun W A2 c2 A3 c3 h hc h2 hc2 => by
  have h := join2_as W A2 A3 c2 c3 X92 E V (by rw [l92]; exact h) h2 (by omega) hc2 hV (by omega)
  rw [l92] at h
  exact h)
 have CS1 : Hid (∀ (W : World) (A2 : Option Addr) (c2 : Nat), (Kd.int .u8).C W A2 U.length U → U.length ≤ c2 → Calls Tryd.prog 52 #[.slice A2 U.length c2] W fun e w' => ∃ A' c', e = .returned (.slice A' E.length c') ∧ E.length ≤ c' ∧ (Kd.int .u8).C w' A' E.length E ∧ Below W.heap.size W w') := Lib.hid (fun W A2 c2 h hc => by
  have h := rsum_C W A2 c2 U h hc bU (by omega)
  rw [← hE] at h
  exact h)
 have CS2 : Hid (∀ (W : World) (A2 : Option Addr) (c2 : Nat), (Kd.int .u8).C W A2 V.length V → V.length ≤ c2 → Calls Tryd.prog 52 #[.slice A2 V.length c2] W fun e w' => ∃ v, e = .returned v ∧ (Kd.int .u8).R 5 w' 0 (fun k => W.heap.size ≤ k) v M ∧ Below W.heap.size W w') := Lib.hid (fun W A2 c2 h hc => by
  have h := rsum_calls W A2 c2 V h hc bV (by omega)
  rw [← hM] at h
  exact h)
 have HC := Lib.hid hC
 have HCT := Lib.hid hCt
 have LM := Lib.hid lM
 clear hX92 hX54 hU hE hV hM l92 l54 lE lM lU lV bU bV hmac hC hCt hb hbt
 go_enter Tryd.func30, Tryd.ntmps30
 go_wp2_with (first
  | (go_at_call 53; refine (CX54.out _ (Kd.C_below HC.out HB1.out)).mono ?_; rintro e w2 ⟨A2, c2, rfl, hc2, hC2, hB2⟩; have HC2 := Lib.hid hC2; have HB2 := Lib.hid (HB1.out.trans (ks hB2 HB1.out.size)); have HC1 := Lib.hid (Kd.C_below HC1.out hB2); have CJ := Lib.hid (CJ1.out w2 A2 c2 hC2 hc2 (Kd.C_below HCT.out HB2.out)); clear hC2 hB2)
  | (go_at_call 53; refine (CX92.out w HC.out).mono ?_; rintro e w1 ⟨A1, c1, rfl, hc1, hC1, hB1⟩; have HC1 := Lib.hid hC1; have HB1 := Lib.hid hB1; clear hC1 hB1)
  | (go_at_call 52; refine (CS2.out _ _ _ HC5.out hc5).mono ?_; rintro e w6 ⟨v6, rfl, hC6, hB6⟩; have HC6 := Lib.hid (R_rebase hC6 (fun k hk => Nat.le_trans HB5.out.size hk)); have HB6 := Lib.hid (HB5.out.trans (ks hB6 HB5.out.size)); clear hC6 hB6)
  | (go_at_call 52; refine (CS1.out _ _ _ HC3.out hc3).mono ?_; rintro e w4 ⟨A4, c4, rfl, hc4, hC4, hB4⟩; have HC4 := Lib.hid hC4; have HB4 := Lib.hid (HB3.out.trans (ks hB4 HB3.out.size)); have HC1 := Lib.hid (Kd.C_below HC1.out hB4); have CJ := Lib.hid (CJ2.out w4 A1 c1 A4 c4 HC1.out hc1 hC4 hc4); clear hC4 hB4)
  | (go_at_call 47; refine (show Hid (Calls _ _ _ (w4.alloc _) _) from CJ).out.mono ?_; rintro e w5 ⟨A5, c5, rfl, hc5, hC5, hB5⟩; have HC5 := Lib.hid hC5; have HB5 := Lib.hid (HB4.out.trans (ks hB5 HB4.out.size)); clear hC5 hB5)
  | (go_at_call 47; refine CJ.out.mono ?_; rintro e w3 ⟨A3, c3, rfl, hc3, hC3, hB3⟩; have HC3 := Lib.hid hC3; have HB3 := Lib.hid (HB2.out.trans (ks hB3 HB2.out.size)); have HC1 := Lib.hid (Kd.C_below HC1.out hB3); clear hC3 hB3))
 go_ret
 exact ⟨_, rfl, Kd.R_mono HC6.out (fun _ _ => trivial), HB6.out⟩
theorem wrap8 (v : BitVec 8) : IntKind.u8.wrap (v.toNat : Int) = (v.toNat : Int) := by
 rw [IntKind.wrap_u8]
 have := v.isLt
 omega
theorem ofInt8_nat (v : BitVec 8) : BitVec.ofInt 8 (v.toNat : Int) = v := by simp
theorem ofInt8_inj {x y : Int} (hx : 0 ≤ x ∧ x < 256) (hy : 0 ≤ y ∧ y < 256) : BitVec.ofInt 8 x = BitVec.ofInt 8 y ↔ x = y := by
 constructor
 ·intro h
  have h2 := congrArg BitVec.toNat h
  rw [BitVec.toNat_ofInt, BitVec.toNat_ofInt] at h2
  omega
 ·intro h
  rw [h]
theorem or_xor (s x y : Int) (hs : 0 ≤ s ∧ s < 256) (hx : 0 ≤ x ∧ x < 256) (hy : 0 ≤ y ∧ y < 256) :
  (0 ≤ bits .or .u8 s (bits .xor .u8 x y) ∧ bits .or .u8 s (bits .xor .u8 x y) < 256) ∧ (bits .or .u8 s (bits .xor .u8 x y) = 0 ↔ s = 0 ∧ x = y) := by
 have e1 : bits .xor .u8 x y = ((BitVec.ofInt 8 x ^^^ BitVec.ofInt 8 y).toNat : Int) := wrap8 _
 have e2 : bits .or .u8 s (bits .xor .u8 x y) = ((BitVec.ofInt 8 s ||| (BitVec.ofInt 8 x ^^^ BitVec.ofInt 8 y)).toNat : Int) := by
  rw [e1]
  refine Eq.trans (show bits .or .u8 s ((BitVec.ofInt 8 x ^^^ BitVec.ofInt 8 y).toNat : Int) = IntKind.u8.wrap ((BitVec.ofInt 8 s ||| BitVec.ofInt 8 ((BitVec.ofInt 8 x ^^^ BitVec.ofInt 8 y).toNat : Int)).toNat : Int) from rfl) ?_
  rw [ofInt8_nat, wrap8]
 rw [e2]
 have hlt := (BitVec.ofInt 8 s ||| (BitVec.ofInt 8 x ^^^ BitVec.ofInt 8 y)).isLt
 refine ⟨⟨by omega, by omega⟩, ?_⟩
 have h1 : (((BitVec.ofInt 8 s ||| (BitVec.ofInt 8 x ^^^ BitVec.ofInt 8 y)).toNat : Nat) : Int) = 0 ↔ (BitVec.ofInt 8 s ||| (BitVec.ofInt 8 x ^^^ BitVec.ofInt 8 y)) = 0#8 := by
  constructor
  ·intro h
   apply BitVec.eq_of_toNat_eq
   simp only [BitVec.toNat_ofNat]
   omega
  ·intro h
   rw [h]
   rfl
 rw [h1, BitVec.or_eq_zero_iff, BitVec.xor_eq_zero_iff, ofInt8_inj hx hy]
 have h2 : BitVec.ofInt 8 s = 0#8 ↔ s = 0 := by
  have h := ofInt8_inj hs (y := 0) (by omega)
  exact h
 rw [h2]
theorem take_next_iff {xs ys : List Int} {k : Nat} (h1 : k < xs.length) (h2 : k < ys.length) : xs.take (k + 1) = ys.take (k + 1) ↔ xs.take k = ys.take k ∧ xs.getD k 0 = ys.getD k 0 := by
 constructor
 ·intro h
  constructor
  ·have h3 := congrArg (List.take k) h
   rw [List.take_take, List.take_take, Nat.min_eq_left (by omega)] at h3
   exact h3
  ·have h3 := congrArg (fun l => l[k]?) h
   simp only [List.getElem?_take, if_pos (Nat.lt_succ_self k)] at h3
   rw [List.getD_eq_getElem?_getD, List.getD_eq_getElem?_getD, h3]
 ·intro h
  exact take_next_eq h1 h2 h.1 h.2
theorem hequal_calls (w : World) (A B : Option Addr) (ca cb : Nat) (xs ys : List Int) (hA : (Kd.int .u8).C w A xs.length xs) (hB : (Kd.int .u8).C w B ys.length ys) (hbx : Byts xs) (hby : Byts ys) (hs : xs.length ≤ 1000000000000) (ht : ys.length ≤ 1000000000000) :
  Calls Tryd.prog 39 #[.slice A xs.length ca, .slice B ys.length cb] w fun e w' => e = .returned (.bool (decide (xs = ys))) ∧ Below w.heap.size w w' := by
 have HA := Lib.hid hA
 have HB := Lib.hid hB
 have HBX := Lib.hid hbx
 have HBY := Lib.hid hby
 clear hA hB hbx hby
 by_cases hl : xs.length = ys.length
 ·have hne : ((xs.length : Int) != (ys.length : Int)) = false := by simp [hl]
  have HL := Lib.hid hl
  clear hl
  go_enter Tryd.func39, Tryd.ntmps39
  go_wp2
  go_loopg [5, 14] xs.length (fun kq s5 s14 wr => ∃ (k m : Nat) (s : Int), wr = w.drewN m ∧ k + kq = xs.length ∧ s5 = .int .u8 s ∧ s14 = .int .i64 k ∧ Hid (0 ≤ s ∧ s < 256) ∧ Hid (s = 0 ↔ xs.take k = ys.take k))
  case atStart => exact ⟨0, 0, 0, rfl, by omega, rfl, rfl, (by omega : (0 : Int) ≤ 0 ∧ (0 : Int) < 256), (by simp : (0 : Int) = 0 ↔ xs.take 0 = ys.take 0)⟩
  case round =>
   obtain ⟨k, m, s, rfl, hk, rfl, rfl, hs1, htk⟩ := hrel
   by_cases hlt : k < xs.length
   ·obtain ⟨ad, hAa, hcell⟩ := C_at_int HA.out k hlt
    obtain ⟨bd, hBb, hcelb⟩ := C_at_int HB.out k (by rw [← HL.out]; exact hlt)
    subst hAa
    subst hBb
    have h2 : k < ys.length := by rw [← HL.out]; exact hlt
    have hki : (k : Int) < (xs.length : Int) := by omega
    have hki2 : (k : Int) < (ys.length : Int) := by omega
    have bx := Byts.get HBX.out k hlt
    have bY := Byts.get HBY.out k h2
    obtain ⟨x, hx⟩ : ∃ x, x = xs.getD k 0 := ⟨_, rfl⟩
    obtain ⟨y, hy⟩ : ∃ y, y = ys.getD k 0 := ⟨_, rfl⟩
    rw [← hx] at hcell bx
    rw [← hy] at hcelb bY
    have hcell1 : (w.drewN m).cell? (ad.add k) = some (.int .u8 x) := hcell
    have hcelb1 : (w.drewN m).cell? (bd.add k) = some (.int .u8 y) := hcelb
    have HX := Lib.hid hx
    have HY := Lib.hid hy
    have H12 := Lib.hid (And.intro hlt h2)
    have HBXY := Lib.hid (And.intro bx bY)
    clear hx hy hlt h2 bx bY
    go_wp2_with fail
    go_region_with (fail)
    all_goals
     go_wp2_with fail
     go_roundg (gk - 1)
     case measure => omega
     case rel =>
      have hr := or_xor s x y hs1.out HBXY.out.1 HBXY.out.2
      refine ⟨k + 1, m + 1, _, rfl, by omega, rfl, by go_num, hr.1, ?_⟩
      show _ = 0 ↔ _
      rw [hr.2, htk.out, take_next_iff H12.out.1 H12.out.2, HX.out, HY.out]
   ·have hge : ¬ (k : Int) < (xs.length : Int) := by omega
    have hke : k = xs.length := by omega
    have he : s = 0 ↔ xs = ys := by
     rw [htk.out, hke, List.take_length]
     have := HL.out
     rw [this, List.take_length]
    have HE := Lib.hid he
    clear hlt hke he htk
    go_wp2_with fail
    go_ret
    refine ⟨?_, kA (Below.refl _ _) m⟩
    have hd : decide (xs = ys) = (s == 0) := by
     by_cases h0 : s = 0
     ·rw [decide_eq_true (HE.out.1 h0), h0]; rfl
     ·rw [decide_eq_false (fun h => h0 (HE.out.2 h))]
      simp [h0]
    rw [hd]
    rfl
 ·have hne : ((xs.length : Int) != (ys.length : Int)) = true := by simp; omega
  go_enter Tryd.func39, Tryd.ntmps39
  go_wp2
  go_ret
  exact ⟨by rw [decide_eq_false (fun h => hl (by rw [h]))]; rfl, Below.refl _ _⟩
end Go.Proofs.YtkkomfomjpcbfaaDoor
