import Derived.Test.YtmllgglcdlcdhaaDoorCXorGetsB9
import Derived.Test.YtmllgglcdlcdhaaDoorShelf
import Derived.Test.YtmllgglcdlcdhaaDoorCXorGetsB8p
import Derived.Lib.BitFns
import Derived.Lib.ItoaNum
import Derived.Lib.TrailingZeros
import Derived.Shelf.Spec.TrailingZeros
import Derived.RowKit
namespace Go.Proofs.YtmllgglcdlcdhaaDoor.Bq
end Go.Proofs.YtmllgglcdlcdhaaDoor.Bq
section
namespace Go.Proofs.YtmllgglcdlcdhaaDoor
open Go.RowKit Go.Proofs.YtmllgglcdlcdhaaDoorW.PrintWords Go.Proofs.YtmllgglcdlcdhaaDoorW.PrintMore Go.Proofs.YtmllgglcdlcdhaaDoorW.PrintLast Bq
set_option linter.unusedVariables false
set_option maxRecDepth 100000
set_option linter.unusedSimpArgs false
attribute [local go_sem ↓] Go.wp_at_zero Go.wp_at_succ
theorem lead_calls (n : Int) (w : World) (h0 : 0 ≤ n) (h1 : n ≤ 18446744073709551615) :
    Calls Tryd.prog 73 #[.int .u64 n] w fun e w' => e = .returned (.int .i64 (64 - (Lib.bitLen n.toNat : Int))) ∧ w = w' := by
  go_enter Tryd.func73, Tryd.ntmps73
  go_wp2_with (go_at_call 75; refine (Tryd.bits_LeadingZeros64 n _ h0 h1).mono ?_; rintro e w' ⟨rfl, rfl⟩)
  go_ret
  exact ⟨rfl, rfl⟩
theorem eq_take {xs ys : List Int} (h : xs.length = ys.length) (hk : xs.take xs.length = ys.take xs.length) : xs = ys := by
  rw [List.take_of_length_le (Nat.le_refl _), List.take_of_length_le (by omega)] at hk
  exact hk
theorem take_next_eq {xs ys : List Int} {k : Nat} (h1 : k < xs.length) (h2 : k < ys.length) (hk : xs.take k = ys.take k) (he : xs.getD k 0 = ys.getD k 0) : xs.take (k + 1) = ys.take (k + 1) := by
  rw [List.take_succ_eq_append_getElem h1, List.take_succ_eq_append_getElem h2, hk]
  rw [List.getD_eq_getElem?_getD, List.getD_eq_getElem?_getD, List.getElem?_eq_getElem h1, List.getElem?_eq_getElem h2] at he
  simp only [Option.getD_some] at he
  rw [he]
set_option maxHeartbeats 2000000 in
theorem requal_calls (w : World) (A B : Option Addr) (ca cb : Nat) (xs ys : List Int) (hA : (Kd.int .u8).C w A xs.length xs) (hB : (Kd.int .u8).C w B ys.length ys) (hs : xs.length ≤ 1000000000000) (ht : ys.length ≤ 1000000000000) :
    Calls Tryd.prog 14 #[.slice A xs.length ca, .slice B ys.length cb] w fun e w' => e = .returned (.bool (decide (xs = ys))) ∧ ∃ n, w' = w.drewN n := by
  have HA := Lib.hid hA
  have HB := Lib.hid hB
  clear hA hB
  by_cases hl : xs.length = ys.length
  · have hne : ((xs.length : Int) != (ys.length : Int)) = false := by simp [hl]
    have HL := Lib.hid hl
    go_enter Tryd.func14, Tryd.ntmps14
    go_wp2
    go_loopg [13] xs.length (fun kq s13 wr => ∃ (k m : Nat), wr = w.drewN m ∧ k + kq = xs.length ∧ s13 = .int .i64 k ∧ Hid (xs.take k = ys.take k))
    case atStart => exact ⟨0, 0, rfl, by omega, rfl, rfl⟩
    case round =>
      obtain ⟨k, m, rfl, hk, rfl, htk⟩ := hrel
      by_cases hlt : k < xs.length
      · obtain ⟨ad, hAa, hcell⟩ := C_at_int HA.out k hlt
        obtain ⟨bd, hBb, hcelb⟩ := C_at_int HB.out k (by rw [← HL.out]; exact hlt)
        subst hAa
        subst hBb
        have h2 : k < ys.length := by rw [← HL.out]; exact hlt
        obtain ⟨x, hx⟩ : ∃ x, x = xs.getD k 0 := ⟨_, rfl⟩
        obtain ⟨y, hy⟩ : ∃ y, y = ys.getD k 0 := ⟨_, rfl⟩
        rw [← hx] at hcell
        rw [← hy] at hcelb
        have HX := Lib.hid hx
        have HY := Lib.hid hy
        clear hx hy
        by_cases he : x = y
        · have HE := Lib.hid he
          have hq : (x != y) = false := by simp [he]
          clear he
          go_wp2
          go_quiet (fail)
          go_wp2
          go_roundg (gk - 1)
          case measure => omega
          case rel => exact ⟨k + 1, _, rfl, by omega, by go_num, take_next_eq hlt h2 htk.out (by rw [← HX.out, ← HY.out, HE.out])⟩
        · have HE := Lib.hid he
          have hq : (x != y) = true := by simp [he]
          clear he
          go_wp2
          go_quiet (fail)
          go_wp2
          go_ret
          refine ⟨?_, _, World.drewN_drewN _ _ _⟩
          rw [decide_eq_false (fun h => HE.out (by rw [HX.out, HY.out, h]))]
          rfl
      · have hge : (ys.length : Int) ≤ (k : Int) := by omega
        go_wp2
        go_ret
        refine ⟨?_, _, rfl⟩
        have : k = xs.length := by omega
        subst this
        rw [decide_eq_true (eq_take HL.out htk.out)]
        rfl
  · have hne : ((xs.length : Int) != (ys.length : Int)) = true := by simp; omega
    go_enter Tryd.func14, Tryd.ntmps14
    go_wp2
    go_ret
    exact ⟨by rw [decide_eq_false (fun h => hl (by rw [h]))]; rfl, 0, rfl⟩
end Go.Proofs.YtmllgglcdlcdhaaDoor
end
section
namespace Go.Proofs.YtmllgglcdlcdhaaDoor
open Go Go.RowKit Go.Proofs.YtmllgglcdlcdhaaDoorW.PrintWords Go.Proofs.YtmllgglcdlcdhaaDoorW.PrintMore Go.Proofs.YtmllgglcdlcdhaaDoorW.PrintLast Bq
set_option linter.unusedVariables false
set_option maxRecDepth 100000
set_option linter.unusedSimpArgs false
attribute [local go_sem ↓] Go.wp_at_zero Go.wp_at_succ
theorem below_lower {B B' : Nat} {w w1 : World} (h : Below B' w w1) (hB : B ≤ B') : Below B w w1 := ⟨h.os, h.tape, h.output, h.size, fun k hk => h.block k (by omega)⟩
theorem info_bool : (Tryd.prog.info? 4).map (fun i => (i.zero, i.size, i.bytes)) = some (some (.bool false), 1, 1) := by kernel_rfl
theorem bit_eq (n i : Nat) : (((n : Int) / 2 ^ i) % 2 == 1) = n.testBit i := by
  rw [Nat.testBit_eq_decide_div_mod_eq]
  have e : ((n : Int) / 2 ^ i) % 2 = ((n / 2 ^ i % 2 : Nat) : Int) := by simp
  rw [e]
  by_cases h : n / 2 ^ i % 2 = 1
  · rw [h]; rfl
  · have : n / 2 ^ i % 2 = 0 := by omega
    rw [this]; rfl
theorem take_nb_next (n w j : Nat) (h : j < w) : (nb n w).take (j + 1) = (nb n w).take j ++ [n.testBit (w - 1 - j)] := by
  have hl : j < (nb n w).length := by rw [nb_length]; exact h
  rw [List.take_succ_eq_append_getElem hl]
  have h2 := nb_get n w j h
  rw [List.getElem?_eq_getElem hl] at h2
  injection h2 with h2
  rw [h2]
set_option maxHeartbeats 2000000 in
theorem rput_calls (w : World) (base : Nat) (ok : Nat → Prop) (v : Value) (bs : List Bool) (n width : Nat) (hR : Kd.bool.R 4 w base ok v bs) (hbase : base ≤ w.heap.size) (hw : width ≤ 64) (hn : n < 18446744073709551616) (hl : bs.length ≤ 100000000) :
    Calls Tryd.prog 48 #[v, .int .u64 n, .int .i64 width] w fun e w' => ∃ v', e = .returned v' ∧ Kd.bool.R 4 w' base (fun k => ok k ∨ w.heap.size ≤ k) v' (bs ++ nb n width) ∧ Mod ok w w' := by
  have HR := Lib.hid hR
  clear hR
  go_enter Tryd.func48, Tryd.ntmps48
  go_wp2
  go_loopg [0, 7] width (fun kq s0 s7 wr => ∃ (j : Nat) (ts : List Bool), j + kq = width ∧ s7 = .int .i64 ((kq : Int) - 1) ∧ ts.length ≤ 100000000 + j ∧ Hid (ts = bs ++ (nb n width).take j) ∧ Hid (Kd.bool.R 4 wr base (fun k => ok k ∨ w.heap.size ≤ k) s0 ts) ∧ Hid (Mod ok w wr))
  case atStart => exact ⟨0, bs, by omega, rfl, by omega, by rw [List.take_zero, List.append_nil]; rfl, Kd.R_mono HR.out (fun _ h => .inl h), Mod.refl _ _⟩
  case round =>
    obtain ⟨j, ts, hj, rfl, hts, hT, hRr, hM⟩ := hrel
    obtain ⟨A, c, hs0⟩ := Kd.R_slice hRr.out
    subst hs0
    have hsz := hM.out.size
    by_cases hlt : 0 < gk
    · have e1 : (0 : Int) ≤ (gk : Int) - 1 := by omega
      have e2 : ((gk : Int) - 1).toNat = width - 1 - j := by omega
      have e4 : bits .and .u64 ((n : Int) / 2 ^ (width - 1 - j)) 1 = (n : Int) / 2 ^ (width - 1 - j) % 2 := by
        have h : (n : Int) / 2 ^ (width - 1 - j) = ((n / 2 ^ (width - 1 - j) : Nat) : Int) := by simp
        rw [h]
        have h2 := Nat.div_le_self n (2 ^ (width - 1 - j))
        generalize n / 2 ^ (width - 1 - j) = y at h2 ⊢
        exact and_one _ (by omega) (by omega)
      obtain ⟨b, hb⟩ : ∃ b, b = n.testBit (width - 1 - j) := ⟨_, rfl⟩
      have e5 : ((n : Int) / 2 ^ (width - 1 - j) % 2 == 1) = b := by rw [hb, bit_eq]
      have HBB := Lib.hid hb
      clear hb
      go_wp2_with (at_builtin; refine Kd.R_append Kd.bool (w0 := wr) (W := wr) base rfl (.tmp 14) (.tmp 21) 58 4 (.bool false) 1 rfl Tryd.underlying58 info_bool rfl (by decide) (by decide) _ ts b [.bool b] (fun k => ok k ∨ w.heap.size ≤ k) (fun _ => False) rfl rfl rfl (fun _ h => h.elim) (fun k hk => .inr (Nat.le_trans hsz hk)) hRr.out (Below.refl _ _) (Nat.le_trans hbase hsz) (by omega) ?_; intro v1 w2 hR2 _ hg2 _; have HR2 := Lib.hid hR2; have HG2 := Lib.hid hg2; clear hR2 hg2)
      go_roundg (gk - 1)
      case measure => omega
      case rel =>
        refine ⟨j + 1, ts ++ [b], by omega, by go_num, by rw [List.length_append]; simp; omega, ?_, HR2.out, hM.out.grown HG2.out (fun k hk => hRr.out.1 k hk)⟩
        show ts ++ [b] = _
        rw [hT.out, HBB.out, take_nb_next n width j (by omega), List.append_assoc]
    · have hg0 : gk = 0 := by omega
      subst hg0
      go_wp2_with fail
      go_ret
      refine ⟨_, rfl, ?_, hM.out⟩
      have hX : bs ++ nb n width = ts := by rw [hT.out, List.take_of_length_le (by rw [nb_length]; omega)]
      rw [hX]
      exact hRr.out
theorem C_at_bool {w : World} {A : Option Addr} {n : Nat} {xs : List Bool} (h : Kd.bool.C w A n xs) (i : Nat) (hi : i < n) : ∃ ad, A = some ad ∧ w.cell? (ad.add i) = some (.bool (xs.getD i false)) := by
  obtain ⟨ad, c, e, _, hK, hc⟩ := Kd.C_get h false (i : Int) (by omega) (by omega)
  rw [Int.toNat_natCast] at hK hc
  have hk : c = [.bool (xs.getD i false)] := hK
  subst hk
  have h2 := hc 0 _ rfl
  refine ⟨ad, e, ?_⟩
  have e1 : i * Kd.bool.sz + 0 = i := by show i * 1 + 0 = i; omega
  rw [e1] at h2
  exact h2
theorem or_byte (x : Int) (r : Nat) (h0 : 0 ≤ x) (h1 : x < 256) (hr : r < 8) : bits .or .u8 x (128 / 2 ^ r) = ((x.toNat ||| 2 ^ (7 - r) : Nat) : Int) := by
  obtain ⟨y, rfl⟩ := Int.eq_ofNat_of_zero_le h0
  have e : (128 : Int) / 2 ^ r = ((2 ^ (7 - r) : Nat) : Int) := by
    have : ∀ r : Fin 8, (128 : Int) / 2 ^ r.val = ((2 ^ (7 - r.val) : Nat) : Int) := by decide
    exact this ⟨r, hr⟩
  have e2 : 2 ^ (7 - r) < 256 := Nat.lt_of_lt_of_le (Nat.pow_lt_pow_right (by decide) (show 7 - r < 8 by omega)) (by decide)
  rw [e, (bits_nat .u8 8 (by decide) wraps_u8 y (2 ^ (7 - r)) (by omega) (by omega)).2, Int.toNat_natCast]
set_option maxHeartbeats 2000000 in
theorem rbytes_calls (w : World) (A : Option Addr) (c : Nat) (bs : List Bool) (hC : Kd.bool.C w A bs.length bs) (hl : bs.length ≤ 100000000) :
    Calls Tryd.prog 29 #[.slice A bs.length c] w fun e w' => ∃ v, e = .returned v ∧ (Kd.int .u8).R 5 w' w.heap.size (fun k => w.heap.size ≤ k) v (packI bs) ∧ Below w.heap.size w w' := by
  have HC := Lib.hid hC
  clear hC
  obtain ⟨m, hm⟩ : ∃ m, m = (bs.length + 7) / 8 := ⟨_, rfl⟩
  have hmi : ((bs.length : Int) + 7) / 8 = (m : Int) := by omega
  have HM := Lib.hid hm
  have HMI := Lib.hid hmi
  clear hmi
  have hm2 : m ≤ 100000000 := by omega
  clear hm
  go_enter Tryd.func29, Tryd.ntmps29
  go_wp2_with (at_make; refine Kd.R_make (Kd.int .u8) (w0 := w) (W := w) w.heap.size 5 rfl rfl 24 (.tmp 9) (.tmp 9) rfl (((bs.length : Int) + 7) / 8) rfl rfl Tryd.underlying24 (.int .u8 0) 1 info_u8 rfl (by decide) (by decide) 0 (okp := fun _ => False) (ok := fun k => w.heap.size ≤ k) rfl (fun _ h => h.elim) (Nat.le_refl _) (by omega) (by have := hm2; omega) (Below.refl _ _) (Nat.le_refl _) ?_; intro v1 w1 hR hB _ _; have HR := Lib.hid hR; have HB := Lib.hid hB; clear hR hB)
  rw [HMI.out, Int.toNat_natCast] at HR
  have hst : Byts (List.replicate m (0 : Int)) ∧ (List.replicate m (0 : Int)).length = m ∧ ∀ j, bitAt (List.replicate m (0 : Int)) j = (decide (j < 0) && bs.getD j false) := by
    refine ⟨fun x hx => ?_, by simp, fun j => ?_⟩
    · have := (List.mem_replicate.1 hx).2
      omega
    · unfold bitAt
      rw [decide_eq_false (by omega), Bool.false_and, List.getD_eq_getElem?_getD, List.getElem?_replicate]
      split <;> simp
  have HST := Lib.hid hst
  clear hst
  go_loopg [13] bs.length (fun kq s13 wr => ∃ (k : Nat) (xs : List Int), k + kq = bs.length ∧ s13 = .int .i64 k ∧ Hid (xs.length = m) ∧ Hid (Byts xs) ∧ Hid (∀ j, bitAt xs j = (decide (j < k) && bs.getD j false)) ∧ Hid ((Kd.int .u8).R 5 wr w.heap.size (fun k => w.heap.size ≤ k) v1 xs) ∧ Hid (Below w.heap.size w wr))
  case atStart => exact ⟨0, _, by omega, rfl, HST.out.2.1, HST.out.1, HST.out.2.2, HR.out, HB.out⟩
  case round =>
    obtain ⟨k, xs, hk, rfl, hxm, hby, hbit, hR, hBr⟩ := hrel
    by_cases hlt : k < bs.length
    · obtain ⟨ad, hA, hcell⟩ := C_at_bool HC.out k hlt
      subst hA
      have hcell2 : wr.cell? (ad.add k) = some (.bool (bs.getD k false)) := by
        rw [hBr.out.cell (World.block_lt_of_cell? w _ hcell)]
        exact hcell
      clear hcell
      obtain ⟨b, hb⟩ : ∃ b, b = bs.getD k false := ⟨_, rfl⟩
      rw [← hb] at hcell2
      have HBB := Lib.hid hb
      clear hb
      cases b with
      | false =>
        go_wp2_with fail
        go_roundg (gk - 1)
        case measure => omega
        case rel =>
          refine ⟨k + 1, xs, by omega, by go_num, hxm.out, hby.out, fun j => ?_, hR.out, hBr.out⟩
          rw [hbit.out j]
          by_cases hjk : j = k
          · subst hjk
            rw [← HBB.out]; simp
          · have : decide (j < k + 1) = decide (j < k) := by
              apply decide_eq_decide.2
              omega
            rw [this]
      | true =>
        have hq : k / 8 < xs.length := by have := hxm.out; have := HM.out; omega
        obtain ⟨gr, cap, hs3, hgb, hgl, _⟩ := Kd.R_form hR.out (by omega)
        have hxb : 0 ≤ rdOf 0 xs ((k / 8 : Nat) : Int) ∧ rdOf 0 xs ((k / 8 : Nat) : Int) < 256 := by
          have h := Byts.get hby.out (k / 8) hq
          exact h
        have HXB := Lib.hid hxb
        clear hxb
        subst hs3
        obtain ⟨q, hqq⟩ : ∃ q, q = k / 8 := ⟨_, rfl⟩
        obtain ⟨r, hrr⟩ : ∃ r, r = k % 8 := ⟨_, rfl⟩
        obtain ⟨hcl, hfz⟩ := own_at_of (d := 0) (Kd.own_of_R hR.out) (i := ((q : Nat) : Int)) (by omega) (by omega)
        rw [Int.toNat_natCast] at hcl hfz
        obtain ⟨x, hx⟩ : ∃ x : Int, x = rdOf 0 xs ((q : Nat) : Int) := ⟨_, rfl⟩
        rw [← hx] at hcl
        have HX := Lib.hid hx
        have e1 : ((k : Int) / 8).toNat = q := by omega
        have e2 : ((k : Int) % 8).toNat = r := by omega
        have e3 : (0 : Int) ≤ (k : Int) / 8 := by omega
        have e4 : (k : Int) / 8 < (xs.length : Int) := by omega
        have HQ := Lib.hid hq
        have HQQ := Lib.hid hqq
        have HRR := Lib.hid hrr
        clear hq hx hqq hrr
        go_wp2_with fail
        go_roundg (gk - 1)
        case measure => omega
        case rel =>
          have hr8 : r < 8 := by rw [HRR.out]; exact Nat.mod_lt _ (by decide)
          have hx2 : 0 ≤ x ∧ x < 256 := by rw [HX.out, HQQ.out]; exact HXB.out
          have hor := or_byte x r hx2.1 hx2.2 hr8
          rw [hor]
          obtain ⟨hR3, hg3⟩ := Kd.R_put hR.out ((q : Nat) : Int) ((x.toNat ||| 2 ^ (7 - r) : Nat) : Int)
          rw [Int.toNat_natCast] at hR3 hg3
          have hxs : xs.set q ((x.toNat ||| 2 ^ (7 - r) : Nat) : Int) = xs.set (k / 8) ((((xs.getD (k / 8) 0).toNat ||| 2 ^ (7 - k % 8)) : Nat) : Int) := by
            have : x = xs.getD (k / 8) 0 := by rw [HX.out, HQQ.out]; rfl
            rw [this, HQQ.out, HRR.out]
          have hk8 : k < 8 * xs.length := by have := hxm.out; have := HM.out; omega
          refine ⟨k + 1, _, by omega, by go_num, ?_, ?_, fun j => ?_, hR3, hBr.out.grown hg3 hBr.out.size (fun g hg => by injection hg with hg; omega)⟩
          · show (xs.set q _).length = m
            rw [List.length_set]
            exact hxm.out
          · intro y hy
            rcases List.mem_or_eq_of_mem_set hy with h | h
            · exact hby.out y h
            · have h1 : x.toNat ||| 2 ^ (7 - r) < 2 ^ 8 := Nat.or_lt_two_pow (by omega) (Nat.pow_lt_pow_right (by decide) (by omega))
              have h2 : (2 : Nat) ^ 8 = 256 := by decide
              omega
          · rw [hxs, bitAt_set xs k j hby.out hk8, hbit.out j]
            by_cases hjk : j = k
            · subst hjk
              rw [← HBB.out]; simp
            · have : decide (j < k + 1) = decide (j < k) := by
                apply decide_eq_decide.2
                omega
              rw [this, decide_eq_false hjk, Bool.or_false]
    · have hkk : k = bs.length := by omega
      go_wp2_with fail
      go_ret
      have hX : packI bs = xs := by
        apply bits_ext
        · rw [packI_length, hxm.out, HM.out]
        · exact byts_packI bs
        · exact hby.out
        · intro j hj
          rw [packI_length] at hj
          rw [bitAt_pack bs.length bs j (Nat.le_refl _) hj, hbit.out j]
          by_cases hjl : j < bs.length
          · rw [decide_eq_true (by omega), Bool.true_and]
          · rw [List.getD_eq_getElem?_getD, List.getElem?_eq_none (by omega)]
            simp
      rw [hX]
      exact ⟨_, rfl, hR.out, hBr.out⟩
theorem bnum_take_next (bs : List Bool) (k : Nat) (h : k < bs.length) : bnum (bs.take (k + 1)) = 2 * bnum (bs.take k) + (bs.getD k false).toNat := by
  rw [List.take_succ_eq_append_getElem h, bnum_snoc, List.getD_eq_getElem?_getD, List.getElem?_eq_getElem h]
  rfl
set_option maxHeartbeats 1000000 in
theorem number_calls (w : World) (A : Option Addr) (c : Nat) (bs : List Bool) (hC : Kd.bool.C w A bs.length bs) (hl : bs.length ≤ 64) :
    Calls Tryd.prog 57 #[.slice A bs.length c] w fun e w' => e = .returned (.int .u64 (bnum bs : Nat)) ∧ w = w' := by
  have HC := Lib.hid hC
  clear hC
  go_enter Tryd.func57, Tryd.ntmps57
  go_wp2
  go_loopg [8, 3] bs.length (fun kq s8 s3 wr => w = wr ∧ ∃ (k a : Nat), k + kq = bs.length ∧ s8 = .int .i64 k ∧ s3 = .int .u64 a ∧ Hid (a = bnum (bs.take k)))
  case atStart => exact ⟨rfl, 0, 0, by omega, rfl, rfl, rfl⟩
  case round =>
    obtain ⟨rfl, k, a, hk, rfl, rfl, ha⟩ := hrel
    by_cases hlt : k < bs.length
    · obtain ⟨ad, hA, hcell⟩ := C_at_bool HC.out k hlt
      subst hA
      obtain ⟨b, hb⟩ : ∃ b, b = bs.getD k false := ⟨_, rfl⟩
      rw [← hb] at hcell
      have hnx := bnum_take_next bs k hlt
      rw [← hb, ← ha.out] at hnx
      have hbd : 2 * a + b.toNat < 18446744073709551616 := by
        rw [← hnx]
        have h1 := bnum_lt (bs.take (k + 1))
        have h2 : (2 : Nat) ^ (bs.take (k + 1)).length ≤ 2 ^ 64 := Nat.pow_le_pow_right (by decide) (by rw [List.length_take]; omega)
        exact Nat.lt_of_lt_of_le h1 h2
      have HNX := Lib.hid hnx
      clear hb hnx
      cases b with
      | false =>
        have hbd2 : 2 * a < 18446744073709551616 := by simpa using hbd
        clear hbd
        go_wp2_with fail
        go_roundg (gk - 1)
        case measure => omega
        case rel => exact ⟨rfl, k + 1, a * 2, by omega, by go_num, by go_num, by show a * 2 = _; have := HNX.out; simp at this; omega⟩
      | true =>
        have hbd2 : 2 * a + 1 < 18446744073709551616 := by simpa using hbd
        clear hbd
        go_wp2_with fail
        go_roundg (gk - 1)
        case measure => omega
        case rel => exact ⟨rfl, k + 1, a * 2 + 1, by omega, by go_num, by go_num, by show a * 2 + 1 = _; have := HNX.out; simp at this; omega⟩
    · have hke : k = bs.length := by omega
      go_wp2_with fail
      go_ret
      have hx : bnum bs = a := by rw [ha.out, List.take_of_length_le (by omega)]
      exact ⟨by rw [hx]; rfl, rfl⟩
theorem bit_get (x : Int) (r : Nat) (h0 : 0 ≤ x) (h1 : x < 256) (hr : r < 8) : (bits .and .u8 (x / 2 ^ (7 - r)) 1 == 1) = x.toNat.testBit (7 - r) := by
  obtain ⟨y, rfl⟩ := Int.eq_ofNat_of_zero_le h0
  have e1 : (y : Int) / 2 ^ (7 - r) = ((y / 2 ^ (7 - r) : Nat) : Int) := by simp
  have h2 := Nat.div_le_self y (2 ^ (7 - r))
  rw [Int.toNat_natCast, Nat.testBit_eq_decide_div_mod_eq, e1]
  generalize y / 2 ^ (7 - r) = z at h2 ⊢
  have h3 := bits_mask .u8 8 (by decide) wraps_u8 1 (by omega) (z : Int) (by omega) (by omega)
  have h4 : bits .and .u8 (z : Int) 1 = (z : Int) % 2 := by simpa using h3
  rw [h4]
  by_cases h : z % 2 = 1
  · have : (z : Int) % 2 = 1 := by omega
    rw [this, h]; rfl
  · have : (z : Int) % 2 = 0 := by omega
    rw [this]
    have h5 : z % 2 = 0 := by omega
    rw [h5]; rfl
theorem take_bits_next (xs : List Int) (n k : Nat) (h : k < n) : (bitsOf xs n).take (k + 1) = (bitsOf xs n).take k ++ [bitAt xs k] := by
  have hl : k < (bitsOf xs n).length := by rw [bitsOf_length]; exact h
  rw [List.take_succ_eq_append_getElem hl, bitsOf_get xs n k h]
set_option maxHeartbeats 2000000 in
theorem rbits_calls (w : World) (A : Option Addr) (c : Nat) (xs : List Int) (n : Nat) (hC : (Kd.int .u8).C w A xs.length xs) (hb : Byts xs) (hn : n ≤ 8 * xs.length) (hl : xs.length ≤ 1000000) :
    Calls Tryd.prog 35 #[.slice A xs.length c, .int .i64 n] w fun e w' => ∃ v, e = .returned v ∧ Kd.bool.R 4 w' w.heap.size (fun k => w.heap.size ≤ k) v (bitsOf xs n) ∧ Below w.heap.size w w' := by
  have HC := Lib.hid hC
  have HB := Lib.hid hb
  clear hC hb
  go_enter Tryd.func35, Tryd.ntmps35
  go_wp2
  have HR := Lib.hid (R_empty Kd.bool 4 w w.heap.size (fun k => w.heap.size ≤ k) (Nat.le_refl _) (Nat.le_refl _))
  have HBl := Lib.hid (below_alloc (Below.refl w.heap.size w) (.cells #[] 4))
  generalize w.alloc (.cells #[] 4) = w1 at HR HBl ⊢
  go_loopg [9, 5] n (fun kq s9 s5 wr => ∃ (k : Nat) (ts : List Bool), k + kq = n ∧ s9 = .int .i64 k ∧ ts.length = k ∧ Hid (ts = (bitsOf xs n).take k) ∧ Hid (Kd.bool.R 4 wr w.heap.size (fun k => w.heap.size ≤ k) s5 ts) ∧ Hid (Below w.heap.size w wr))
  case atStart => exact ⟨0, [], by omega, rfl, rfl, rfl, HR.out, HBl.out⟩
  case round =>
    obtain ⟨k, ts, hk, rfl, htl, hT, hR, hBr⟩ := hrel
    by_cases hlt : k < n
    · obtain ⟨q, hq⟩ : ∃ q, q = k / 8 := ⟨_, rfl⟩
      obtain ⟨r, hr⟩ : ∃ r, r = k % 8 := ⟨_, rfl⟩
      have hql : q < xs.length := by omega
      obtain ⟨ad, hA, hcell⟩ := C_at_int HC.out q hql
      subst hA
      obtain ⟨hx0, hx1⟩ := HB.out.get q hql
      have hcell2 : wr.cell? (ad.add q) = some (.int .u8 (xs.getD q 0)) := by
        rw [hBr.out.cell (World.block_lt_of_cell? w _ hcell)]
        exact hcell
      clear hcell
      have hbit := bit_get (xs.getD q 0) r hx0 hx1 (by omega)
      have hba : bitAt xs k = (xs.getD q 0).toNat.testBit (7 - r) := by unfold bitAt; rw [hq, hr]
      rw [← hba] at hbit
      obtain ⟨x, hx⟩ : ∃ x, x = xs.getD q 0 := ⟨_, rfl⟩
      rw [← hx] at hbit hcell2 hx0 hx1
      obtain ⟨b, hb⟩ : ∃ b, b = bitAt xs k := ⟨_, rfl⟩
      rw [← hb] at hbit
      have HBB := Lib.hid hb
      clear hx hba hb
      have e1 : ((k : Int) / 8).toNat = q := by omega
      have e2 : (7 - (k : Int) % 8).toNat = 7 - r := by omega
      have e3 : (0 : Int) ≤ (k : Int) / 8 := by omega
      have e4 : (k : Int) / 8 < (xs.length : Int) := by omega
      have e5 : (0 : Int) ≤ 7 - (k : Int) % 8 := by omega
      obtain ⟨A5, c5, hs5⟩ := Kd.R_slice hR.out
      subst hs5
      have hsz := hBr.out.size
      have hn8 : n ≤ 8000000 := by omega
      clear hq hr
      go_wp2_with (at_builtin; refine Kd.R_append Kd.bool (w0 := wr) (W := wr) w.heap.size rfl (.tmp 12) (.tmp 25) 58 4 (.bool false) 1 rfl Tryd.underlying58 info_bool rfl (by decide) (by decide) _ ts b [.bool b] (fun k => w.heap.size ≤ k) (fun _ => False) rfl rfl rfl (fun _ h => h.elim) (fun k hk => Nat.le_trans hsz hk) hR.out (Below.refl _ _) hsz (by omega) ?_; intro v1 w2 hR2 _ hg2 _; have HR2 := Lib.hid hR2; have HG2 := Lib.hid hg2; clear hR2 hg2)
      go_roundg (gk - 1)
      case measure => omega
      case rel =>
        refine ⟨k + 1, ts ++ [b], by omega, by go_num, by rw [List.length_append, htl]; rfl, ?_, HR2.out, hBr.out.trans (Mod.below (S := fun k => w.heap.size ≤ k) ((Mod.refl _ _).grown HG2.out (fun k hk => .inl (Kd.R_base hR.out k hk))) hsz (fun k hk => hk))⟩
        show ts ++ [b] = _
        rw [hT.out, HBB.out, take_bits_next xs n k hlt]
    · have hke : k = n := by omega
      go_wp2_with fail
      go_ret
      have hX : bitsOf xs n = ts := by rw [hT.out, List.take_of_length_le (by rw [bitsOf_length]; omega)]
      rw [hX]
      exact ⟨_, rfl, hR.out, hBr.out⟩
end Go.Proofs.YtmllgglcdlcdhaaDoor
end
section
namespace Go.Proofs.YtmllgglcdlcdhaaDoor
open Go.RowKit Go.Proofs.YtmllgglcdlcdhaaDoorW.PrintWords Go.Proofs.YtmllgglcdlcdhaaDoorW.PrintMore Go.Proofs.YtmllgglcdlcdhaaDoorW.PrintLast Bq
set_option linter.unusedVariables false
set_option maxRecDepth 100000
set_option linter.unusedSimpArgs false
attribute [local go_sem ↓] Go.wp_at_zero Go.wp_at_succ
theorem rzig_calls (n : Int) (w : World) (h0 : -9223372036854775808 ≤ n) (h1 : n ≤ 9223372036854775807) :
    Calls Tryd.prog 41 #[.int .i64 n] w fun e w' => e = .returned (.int .u64 (zigI n)) ∧ w = w' := by
  by_cases hn : n < 0
  · go_enter Tryd.func41, Tryd.ntmps41
    go_wp2
    go_ret
    refine ⟨congrArg Ending.returned (congrArg (Value.int IntKind.u64) ?_), rfl⟩
    unfold zigI
    rw [if_pos hn]
    omega
  · go_enter Tryd.func41, Tryd.ntmps41
    go_wp2
    go_ret
    refine ⟨congrArg Ending.returned (congrArg (Value.int IntKind.u64) ?_), rfl⟩
    unfold zigI
    rw [if_neg (by omega)]
    try omega
theorem rzag_calls (n : Int) (w : World) (h0 : 0 ≤ n) (h1 : n < 18446744073709551616) :
    Calls Tryd.prog 37 #[.int .u64 n] w fun e w' => e = .returned (.int .i64 (zagI n)) ∧ w = w' := by
  by_cases hn : n % 2 = 1
  · have hq : (n % 2 == 1) = true := by simp [hn]
    have HN := Lib.hid hn
    clear hn
    go_enter Tryd.func37, Tryd.ntmps37
    go_wp2
    go_ret
    refine ⟨congrArg Ending.returned (congrArg (Value.int IntKind.i64) ?_), rfl⟩
    unfold zagI
    rw [if_pos HN.out]
    have := HN.out
    omega
  · have hq : (n % 2 == 1) = false := by simp [hn]
    have HN := Lib.hid hn
    clear hn
    go_enter Tryd.func37, Tryd.ntmps37
    go_wp2
    go_ret
    refine ⟨congrArg Ending.returned (congrArg (Value.int IntKind.i64) ?_), rfl⟩
    unfold zagI
    rw [if_neg HN.out]
    try omega
theorem rputUvarint_calls (w : World) (n : Nat) (hn : n < 18446744073709551616) :
    Calls Tryd.prog 20 #[.int .u64 n] w fun e w' => ∃ v, e = .returned v ∧ (Kd.int .u8).R 5 w' w.heap.size (fun _ => True) v (ints (uv n)) ∧ Below w.heap.size w w' := by
  have hlen := uv_len10 n hn
  have HLEN := Lib.hid hlen
  clear hlen
  go_enter Tryd.func20, Tryd.ntmps20
  go_wp2
  have HR := Lib.hid (R_empty (Kd.int .u8) 5 w w.heap.size (fun _ => True) (Nat.le_refl _) trivial)
  have HB := Lib.hid (below_alloc (Below.refl w.heap.size w) (.cells #[] 5))
  generalize w.alloc (.cells #[] 5) = w1 at HR HB ⊢
  go_loopg [0, 3] n (fun m s0 s3 wr => s0 = .int .u64 m ∧ m < 18446744073709551616 ∧ ∃ pre, Hid (pre ++ uv m = uv n) ∧ Hid ((Kd.int .u8).R 5 wr w.heap.size (fun _ => True) s3 (ints pre)) ∧ Hid (Below w.heap.size w wr))
  case atStart => exact ⟨rfl, hn, [], rfl, HR.out, HB.out⟩
  case round =>
    obtain ⟨rfl, hgk, pre, hpre, hRr, hBr⟩ := hrel
    obtain ⟨A, c, hs3⟩ := Kd.R_slice hRr.out
    subst hs3
    have hpl : pre.length ≤ 9 := by
      have h1 := congrArg List.length hpre.out
      have h2 := uv_pos gk
      have h3 := HLEN.out
      rw [List.length_append] at h1
      omega
    have hBs := hBr.out.size
    by_cases hlt : 128 ≤ gk
    · have hb2 : decide ((128 : Int) ≤ (gk : Int)) = true := decide_eq_true (by omega)
      have HLT := Lib.hid hlt
      clear hlt
      have hmod : ((gk : Int) % 128 + 128) = ((gk % 128 + 128 : Nat) : Int) := by omega
      have HMOD := Lib.hid hmod
      clear hmod
      go_wp2_with (at_builtin; refine Kd.R_append (Kd.int .u8) (w0 := wr) (W := wr) w.heap.size rfl (.tmp 7) (.tmp 12) 24 5 (.int .u8 0) 1 rfl Tryd.underlying24 info_u8 rfl (by decide) (by decide) _ (ints pre) ((gk : Int) % 128 + 128) [.int .u8 ((gk : Int) % 128 + 128)] (fun _ => True) (fun _ => False) rfl rfl rfl (fun _ h => h.elim) (fun _ _ => trivial) hRr.out (Below.refl _ _) hBs (by rw [ints_length]; omega) ?_; intro v1 w2 hR2 _ hg2 _; have HR2 := Lib.hid hR2; have HG2 := Lib.hid hg2; clear hR2 hg2)
      go_roundg (gk / 128)
      case measure => have := HLT.out; omega
      case rel =>
        refine ⟨by go_num, by omega, pre ++ [gk % 128 + 128], ?_, ?_, hBr.out.trans (Mod.below (S := fun k => w.heap.size ≤ k) ((Mod.refl _ _).grown HG2.out (fun k hk => .inl (Kd.R_base hRr.out k hk))) hBs (fun k hk => hk))⟩
        · show pre ++ [gk % 128 + 128] ++ uv (gk / 128) = uv n
          rw [← hpre.out, uv_big gk HLT.out, List.append_assoc]
          rfl
        · rw [HMOD.out] at HR2
          rw [ints_append]
          exact HR2.out
    · have hb2 : decide ((128 : Int) ≤ (gk : Int)) = false := decide_eq_false (by omega)
      have hm256 : (gk : Int) % 256 = gk := by omega
      have HLT := Lib.hid hlt
      clear hlt
      go_wp2_with (at_builtin; refine Kd.R_append (Kd.int .u8) (w0 := wr) (W := wr) w.heap.size rfl (.tmp 16) (.tmp 19) 24 5 (.int .u8 0) 1 rfl Tryd.underlying24 info_u8 rfl (by decide) (by decide) _ (ints pre) (gk : Int) [.int .u8 (gk : Int)] (fun _ => True) (fun _ => False) rfl rfl rfl (fun _ h => h.elim) (fun _ _ => trivial) hRr.out (Below.refl _ _) hBs (by rw [ints_length]; omega) ?_; intro v1 w2 hR2 _ hg2 _; have HR2 := Lib.hid hR2; have HG2 := Lib.hid hg2; clear hR2 hg2)
      go_ret
      have hp : ints pre ++ [(gk : Int)] = ints (uv n) := by
        rw [← hpre.out, uv_small gk (by have := HLT.out; omega), ints_append]
        rfl
      have h2 := HR2.out
      rw [hp] at h2
      exact ⟨v1, rfl, h2, hBr.out.trans (Mod.below (S := fun k => w.heap.size ≤ k) ((Mod.refl _ _).grown HG2.out (fun k hk => .inl (Kd.R_base hRr.out k hk))) hBs (fun k hk => hk))⟩
theorem rputVarint_calls (w : World) (n : Int) (h0 : -9223372036854775808 ≤ n) (h1 : n ≤ 9223372036854775807) :
    Calls Tryd.prog 19 #[.int .i64 n] w fun e w' => ∃ v, e = .returned v ∧ (Kd.int .u8).R 5 w' w.heap.size (fun _ => True) v (ints (uv (zigI n).toNat)) ∧ Below w.heap.size w w' := by
  have hz : 0 ≤ zigI n ∧ zigI n < 18446744073709551616 := by unfold zigI; split <;> omega
  obtain ⟨z, hz2⟩ := Int.eq_ofNat_of_zero_le hz.1
  have hz3 : z < 18446744073709551616 := by omega
  have HZ := Lib.hid hz2
  clear hz hz2
  go_enter Tryd.func19, Tryd.ntmps19
  go_wp2_with fail
  refine (rzig_calls _ _ h0 h1).mono ?_
  rintro e w' ⟨rfl, rfl⟩
  rw [HZ.out]
  go_wp2_with fail
  refine (rputUvarint_calls _ z hz3).mono ?_
  rintro e w' ⟨v, rfl, hR, hB⟩
  have HR := Lib.hid hR
  have HB := Lib.hid hB
  clear hR hB
  go_wp2_with fail
  go_ret
  exact ⟨v, rfl, by rw [HZ.out, Int.toNat_natCast]; exact HR.out, HB.out⟩
end Go.Proofs.YtmllgglcdlcdhaaDoor
end
section
namespace Go.Proofs.YtmllgglcdlcdhaaDoor
open Go
set_option linter.unusedVariables false
theorem bitLen_is (x k : Nat) (h1 : 2 ^ k ≤ x) (h2 : x < 2 ^ (k + 1)) (hk : k < 64) : Lib.bitLen x = k + 1 := by
  have hx : x ≠ 0 := by
    have : 0 < 2 ^ k := Nat.pow_pos (by decide)
    omega
  have hx64 : x < 2 ^ 64 := Nat.lt_of_lt_of_le h2 (Nat.pow_le_pow_right (by decide) hk)
  obtain ⟨b1, b2, b3⟩ := Lib.bitLenAux_bounds 64 x hx64 hx
  have e : Lib.bitLen x = Lib.bitLenAux 64 x := rfl
  rw [e]
  generalize Lib.bitLenAux 64 x = L at b1 b2 b3 ⊢
  have g1 : k < L := by
    apply Nat.lt_of_not_le
    intro h
    have := Nat.pow_le_pow_right (n := 2) (by decide) h
    omega
  have g2 : L - 1 < k + 1 := by
    apply Nat.lt_of_not_le
    intro h
    have := Nat.pow_le_pow_right (n := 2) (by decide) h
    omega
  omega
theorem bitLen_zero : Lib.bitLen 0 = 0 := rfl
theorem bitLen_bounds (x : Nat) (hx : x ≠ 0) (h : x < 2 ^ 64) : 1 ≤ Lib.bitLen x ∧ Lib.bitLen x ≤ 64 ∧ 2 ^ (Lib.bitLen x - 1) ≤ x ∧ x < 2 ^ Lib.bitLen x := by
  obtain ⟨b1, b2, b3⟩ := Lib.bitLenAux_bounds 64 x h hx
  exact ⟨b1, Lib.bitLen_le x 64 (Nat.le_refl _) h, b2, b3⟩
theorem half_bit (n k : Nat) (h : n < 2 ^ (k + 1)) : (n.testBit k = false → n < 2 ^ k) ∧ (n.testBit k = true → 2 ^ k ≤ n) := by
  rw [Nat.testBit_eq_decide_div_mod_eq]
  have hp : 0 < 2 ^ k := Nat.pow_pos (by decide)
  have hd : n / 2 ^ k < 2 := by
    rw [Nat.div_lt_iff_lt_mul hp, Nat.mul_comm, ← Nat.pow_succ]
    exact h
  constructor
  · intro h2
    have h3 := of_decide_eq_false h2
    have h4 : n / 2 ^ k = 0 := by
      generalize n / 2 ^ k = d at hd h3 ⊢
      omega
    rcases Nat.div_eq_zero_iff.1 h4 with h5 | h5
    · omega
    · exact h5
  · intro h2
    have h3 := of_decide_eq_true h2
    apply Nat.le_of_not_lt
    intro h4
    rw [Nat.div_eq_of_lt h4] at h3
    omega
theorem odd_mod (c m i : Nat) (hc : c < i) : (2 ^ c * (2 * m + 1)) % 2 ^ i ≠ 0 := by
  intro h
  have h1 : 2 ^ (c + 1) ∣ 2 ^ c * (2 * m + 1) := Nat.dvd_trans (Nat.pow_dvd_pow 2 hc) (Nat.dvd_of_mod_eq_zero h)
  rw [Nat.pow_succ] at h1
  have h2 := Nat.dvd_of_mul_dvd_mul_left (Nat.pow_pos (n := c) (by decide)) h1
  omega
theorem ctz_is (n i : Nat) (hn : n < 2 ^ 64) (h0 : n % 2 ^ i = 0) (h1 : n.testBit i = true) : Lib.ctz 64 n = i := by
  rw [Nat.testBit_eq_decide_div_mod_eq] at h1
  have h1 := of_decide_eq_true h1
  have hn0 : n ≠ 0 := by
    rintro rfl
    simp at h1
  unfold Lib.ctz
  rw [if_neg hn0]
  obtain ⟨m, hm, hl⟩ := Lib.ctzFrom_spec 64 n (by omega) hn
  generalize Lib.ctzFrom 64 n = c at hm hl ⊢
  rcases Nat.lt_trichotomy c i with h | h | h
  · rw [hm] at h0
    exact absurd h0 (odd_mod c m i h)
  · exact h
  · exfalso
    have e : n / 2 ^ i = 2 ^ (c - i) * (2 * m + 1) := by
      have e2 : 2 ^ c = 2 ^ i * 2 ^ (c - i) := by rw [← Nat.pow_add]; congr 1; omega
      rw [hm, e2, Nat.mul_assoc, Nat.mul_div_cancel_left _ (Nat.pow_pos (by decide))]
    have e3 : 2 ^ (c - i) = 2 * 2 ^ (c - i - 1) := by rw [← Nat.pow_succ']; congr 1; omega
    rw [e, e3, Nat.mul_assoc, Nat.mul_mod_right] at h1
    omega
theorem mod_next (n i : Nat) (h0 : n % 2 ^ i = 0) (h1 : n.testBit i = false) : n % 2 ^ (i + 1) = 0 := by
  rw [Nat.testBit_eq_decide_div_mod_eq] at h1
  have h1 := of_decide_eq_false h1
  obtain ⟨q, rfl⟩ := Nat.dvd_of_mod_eq_zero h0
  rw [Nat.mul_div_cancel_left _ (Nat.pow_pos (by decide))] at h1
  have hq : q = 2 * (q / 2) := by omega
  rw [hq, Nat.pow_succ, ← Nat.mul_assoc, Nat.mul_mod_right]
theorem ctz_zero : Lib.ctz 64 0 = 64 := rfl
end Go.Proofs.YtmllgglcdlcdhaaDoor
end
section
namespace Go.Proofs.YtmllgglcdlcdhaaDoor
open Go.RowKit Go.Proofs.YtmllgglcdlcdhaaDoorW.PrintWords Go.Proofs.YtmllgglcdlcdhaaDoorW.PrintMore Go.Proofs.YtmllgglcdlcdhaaDoorW.PrintLast Bq
set_option linter.unusedVariables false
set_option maxRecDepth 100000
set_option linter.unusedSimpArgs false
attribute [local go_sem ↓] Go.wp_at_zero Go.wp_at_succ
theorem bit_and1 (n i : Nat) (hn : n < 18446744073709551616) : bits .and .u64 ((n : Int) / 2 ^ i) 1 = (n : Int) / 2 ^ i % 2 := by
  have h : (n : Int) / 2 ^ i = ((n / 2 ^ i : Nat) : Int) := by simp
  rw [h]
  have h2 := Nat.div_le_self n (2 ^ i)
  generalize n / 2 ^ i = y at h2 ⊢
  exact and_one _ (by omega) (by omega)
theorem bit_eq1 (n i : Nat) : (((n : Int) / 2 ^ i) % 2 == 1) = n.testBit i := by
  rw [Nat.testBit_eq_decide_div_mod_eq]
  have e : ((n : Int) / 2 ^ i) % 2 = ((n / 2 ^ i % 2 : Nat) : Int) := by simp
  rw [e]
  by_cases h : n / 2 ^ i % 2 = 1
  · rw [h]; rfl
  · have : n / 2 ^ i % 2 = 0 := by omega
    rw [this]; rfl
set_option maxHeartbeats 1000000 in
theorem rlead_calls (n : Nat) (w : World) (hn : n < 18446744073709551616) :
    Calls Tryd.prog 67 #[.int .u64 n] w fun e w' => e = .returned (.int .i64 (64 - (Lib.bitLen n : Int))) ∧ w = w' := by
  have HN := Lib.hid hn
  clear hn
  go_enter Tryd.func67, Tryd.ntmps67
  go_wp2
  go_loopg [4] 64 (fun kq s4 wr => w = wr ∧ ∃ k : Nat, k + kq = 64 ∧ s4 = .int .i64 k ∧ Hid (n < 2 ^ (64 - k)))
  case atStart => exact ⟨rfl, 0, by omega, rfl, HN.out⟩
  case round =>
    obtain ⟨rfl, k, hk, rfl, hlt⟩ := hrel
    by_cases hk64 : k < 64
    · obtain ⟨i, hi⟩ : ∃ i, i = 63 - k := ⟨_, rfl⟩
      have e1 : (63 - (k : Int)).toNat = i := by omega
      have e2 : (0 : Int) ≤ 63 - (k : Int) := by omega
      have hb := half_bit n i (by rw [hi, show 63 - k + 1 = 64 - k by omega]; exact hlt.out)
      have HBB := Lib.hid hb
      have HI := Lib.hid hi
      have e3 := bit_and1 n i HN.out
      obtain ⟨b, hbb⟩ : ∃ b, b = n.testBit i := ⟨_, rfl⟩
      have e4 : ((n : Int) / 2 ^ i % 2 == 1) = b := by rw [bit_eq1, hbb]
      have HB2 := Lib.hid hbb
      clear hb hi hbb
      cases b with
      | true =>
        go_wp2_with fail
        go_ret
        have hi := HI.out
        have h1 := HBB.out.2 HB2.out.symm
        have h2 := bitLen_is n i h1 (by rw [hi, show 63 - k + 1 = 64 - k by omega]; exact hlt.out) (by omega)
        refine ⟨congrArg Ending.returned (congrArg (Value.int IntKind.i64) ?_), rfl⟩
        rw [h2]
        omega
      | false =>
        go_wp2_with fail
        go_roundg (gk - 1)
        case measure => omega
        case rel =>
          refine ⟨rfl, k + 1, by omega, by go_num, ?_⟩
          show n < 2 ^ (64 - (k + 1))
          have h := HBB.out.1 HB2.out.symm
          have hi := HI.out
          rw [hi] at h
          rwa [show 64 - (k + 1) = 63 - k by omega]
    · have hke : k = 64 := by omega
      subst hke
      go_wp2_with fail
      go_ret
      have h0 : n = 0 := by have := hlt.out; simpa using this
      refine ⟨?_, rfl⟩
      rw [h0, bitLen_zero]
      rfl
set_option maxHeartbeats 1000000 in
theorem rtrail_calls (n : Nat) (w : World) (hn : n < 18446744073709551616) :
    Calls Tryd.prog 68 #[.int .u64 n] w fun e w' => e = .returned (.int .i64 (Lib.ctz 64 n)) ∧ w = w' := by
  have HN := Lib.hid hn
  clear hn
  go_enter Tryd.func68, Tryd.ntmps68
  go_wp2
  go_loopg [4] 64 (fun kq s4 wr => w = wr ∧ ∃ k : Nat, k + kq = 64 ∧ s4 = .int .i64 k ∧ Hid (n % 2 ^ k = 0))
  case atStart => exact ⟨rfl, 0, by omega, rfl, Nat.mod_one n⟩
  case round =>
    obtain ⟨rfl, k, hk, rfl, hlt⟩ := hrel
    by_cases hk64 : k < 64
    · have e3 := bit_and1 n k HN.out
      obtain ⟨b, hbb⟩ : ∃ b, b = n.testBit k := ⟨_, rfl⟩
      have e4 : ((n : Int) / 2 ^ k % 2 == 1) = b := by rw [bit_eq1, hbb]
      have HB2 := Lib.hid hbb
      clear hbb
      cases b with
      | true =>
        go_wp2_with fail
        go_ret
        have h2 := ctz_is n k HN.out hlt.out HB2.out.symm
        exact ⟨by rw [h2]; rfl, rfl⟩
      | false =>
        go_wp2_with fail
        go_roundg (gk - 1)
        case measure => omega
        case rel => exact ⟨rfl, k + 1, by omega, by go_num, mod_next n k hlt.out HB2.out.symm⟩
    · have hke : k = 64 := by omega
      subst hke
      go_wp2_with fail
      go_ret
      have h0 : n = 0 := by
        have h1 := hlt.out
        have h2 := HN.out
        rw [Nat.mod_eq_of_lt (by simpa using h2)] at h1
        exact h1
      refine ⟨?_, rfl⟩
      rw [h0, ctz_zero]
      rfl
theorem tz_core (n c idx : Nat) (w : World) (hx0 : ((n : Int) == 0) = false)
    (key : IntKind.u64.wrap (bits BinOp.and IntKind.u64 (n : Int) (IntKind.u64.wrap (-(n : Int))) * 285870213051353865) / 288230376151711744 = (idx : Int))
    (hi : idx < 64) (hk : c < 64) (hcell : w.cell? ⟨0, idx, none⟩ = some (.int .u8 c)) :
    Calls Tryd.prog 76 #[.int .u64 n] w fun e w' => e = .returned (.int .i64 c) ∧ w' = w := by
  go_enter Tryd.func76, Tryd.ntmps76
  go_wp2_with (simp only [key])
  go_ret
  exact ⟨rfl, rfl⟩
theorem tz_zero (w : World) : Calls Tryd.prog 76 #[.int .u64 0] w fun e w' => e = .returned (.int .i64 64) ∧ w' = w := by
  go_enter Tryd.func76, Tryd.ntmps76
  go_wp2
  go_ret
  exact ⟨rfl, rfl⟩
theorem tz_calls (n : Nat) (w : World) (hn : n < 18446744073709551616) (hT : TabAt 0 Lib.deBruijn64tab w) :
    Calls Tryd.prog 76 #[.int .u64 n] w fun e w' => e = .returned (.int .i64 (Lib.ctz 64 n)) ∧ w' = w := by
  by_cases h0 : n = 0
  · subst h0
    exact tz_zero w
  · obtain ⟨hlow, hk⟩ := Lib.lowest_bit 64 n h0 hn
    obtain ⟨hi, htab⟩ := Lib.deBruijn64_at _ hk
    have hcell := hT _ hi
    rw [htab] at hcell
    exact tz_core n _ _ w (by simp; omega) (tz64_key n _ hn h0 hlow) hi hk hcell
theorem trail_calls (n : Nat) (w : World) (hn : n < 18446744073709551616) (hT : TabAt 0 Lib.deBruijn64tab w) :
    Calls Tryd.prog 74 #[.int .u64 n] w fun e w' => e = .returned (.int .i64 (Lib.ctz 64 n)) ∧ w = w' := by
  have HT := Lib.hid hT
  clear hT
  go_enter Tryd.func74, Tryd.ntmps74
  go_wp2_with (go_at_call 76; refine (tz_calls n _ hn HT.out).mono ?_; rintro e w' ⟨rfl, rfl⟩)
  go_ret
  exact ⟨rfl, rfl⟩
end Go.Proofs.YtmllgglcdlcdhaaDoor
end
section
namespace Go.Proofs.YtmllgglcdlcdhaaDoor.Xs
open Go Go.RowKit Go.Proofs.YtmllgglcdlcdhaaDoor Bq
set_option linter.unusedVariables false
structure Win where
  set : Bool
  lead : Nat
  trail : Nat
def u64 (d : Int) : Nat := (d % 18446744073709551616).toNat
def tz : Nat → Nat → Nat
  | 0, _ => 0
  | f + 1, x => if x % 2 = 1 then 0 else 1 + tz f (x / 2)
def leadX (x : Nat) : Nat := min (63 - Nat.log2 x) 31
def trailX (x : Nat) : Nat := tz 64 x
theorem tz_dvd : ∀ (f x : Nat), 2 ^ tz f x ∣ x
  | 0, x => ⟨x, by simp [tz]⟩
  | f + 1, x => by
    unfold tz
    by_cases h : x % 2 = 1
    · rw [if_pos h]; exact ⟨x, by simp⟩
    · rw [if_neg h]
      obtain ⟨c, hc⟩ := tz_dvd f (x / 2)
      refine ⟨c, ?_⟩
      have e : x = 2 * (x / 2) := by omega
      rw [Nat.add_comm, Nat.pow_succ, Nat.mul_comm (2 ^ tz f (x / 2)) 2, Nat.mul_assoc, ← hc]
      exact e
theorem trail_le (x : Nat) (h0 : x ≠ 0) : trailX x ≤ Nat.log2 x := by
  have h : 2 ^ trailX x ≤ x := Nat.le_of_dvd (by omega) (tz_dvd 64 x)
  exact (Nat.le_log2 h0).2 h
theorem lead_lt (x : Nat) (h0 : x ≠ 0) (hx : x < 2 ^ 64) : x < 2 ^ (64 - leadX x) := by
  have h1 : Nat.log2 x < 64 := (Nat.log2_lt h0).2 hx
  have h2 : x < 2 ^ (Nat.log2 x + 1) := Nat.lt_log2_self
  refine Nat.lt_of_lt_of_le h2 (Nat.pow_le_pow_right (by decide) ?_)
  unfold leadX
  omega
theorem lead_trail (x : Nat) (h0 : x ≠ 0) (hx : x < 2 ^ 64) : leadX x + trailX x ≤ 63 := by
  have h1 : Nat.log2 x < 64 := (Nat.log2_lt h0).2 hx
  have h2 := trail_le x h0
  unfold leadX
  omega
theorem lead_le (x : Nat) : leadX x ≤ 31 := Nat.min_le_right _ _
def changeB (d : Int) : List Bool :=
  if d = 0 then nb 0 1
  else if -8191 ≤ d ∧ d ≤ 8192 then nb 2 2 ++ nb (u64 d) 14
  else if -65535 ≤ d ∧ d ≤ 65536 then nb 6 3 ++ nb (u64 d) 17
  else if -524287 ≤ d ∧ d ≤ 524288 then nb 14 4 ++ nb (u64 d) 20
  else nb 15 4 ++ nb (u64 d) 64
def turnB (x : Nat) (w : Win) : List Bool × Win :=
  if x = 0 then (nb 0 1, w)
  else if w.set = true ∧ w.lead ≤ leadX x ∧ w.trail ≤ trailX x then (nb 1 1 ++ (nb 0 1 ++ nb (x / 2 ^ w.trail) (64 - w.lead - w.trail)), w)
  else (nb 1 1 ++ (nb 1 1 ++ (nb (leadX x) 5 ++ (nb ((64 - leadX x - trailX x) % 64) 6 ++ nb (x / 2 ^ trailX x) (64 - leadX x - trailX x)))), ⟨true, leadX x, trailX x⟩)
def getX (w : Nat) (r : List Bool) : Except Int (Nat × List Bool) := if r.length < w then .error 6 else .ok (bnum (r.take w), r.drop w)
def signX (n w : Nat) : Int := if w < 64 ∧ 2 ^ (w - 1) < n then (n : Int) - 2 ^ w else wrap64 (n : Int)
def signR (w : Nat) (r : List Bool) : Except Int (Int × List Bool) := match getX w r with
  | .error e => .error e
  | .ok (n, r) => .ok (signX n w, r)
def changeR : List Nat → List Bool → Except Int (Int × List Bool)
  | [], r => signR 64 r
  | w :: ws, r => match getX 1 r with
    | .error e => .error e
    | .ok (n, r) => if n = 0 then (if w = 0 then .ok (0, r) else signR w r) else changeR ws r
def turnR (w : Win) (r : List Bool) : Except Int (Nat × Win × List Bool) := match getX 1 r with
  | .error e => .error e
  | .ok (n, r) => if n = 0 then .ok (0, w, r) else match getX 1 r with
    | .error e => .error e
    | .ok (n, r) => if n = 0 then (if w.set = true then (match getX (64 - w.lead - w.trail) r with
        | .error e => .error e
        | .ok (n, r) => .ok (n * 2 ^ w.trail, w, r)) else .error 8) else match getX 5 r with
      | .error e => .error e
      | .ok (l, r) => match getX 6 r with
        | .error e => .error e
        | .ok (m, r) => if 64 < l + (if m = 0 then 64 else m) then .error 8 else match getX (if m = 0 then 64 else m) r with
          | .error e => .error e
          | .ok (n, r) => .ok (n * 2 ^ (64 - l - (if m = 0 then 64 else m)), ⟨true, l, 64 - l - (if m = 0 then 64 else m)⟩, r)
theorem getX_nb (n w : Nat) (r : List Bool) : getX w (nb n w ++ r) = .ok (n % 2 ^ w, r) := by
  unfold getX
  have hl := nb_length n w
  rw [if_neg (by rw [List.length_append]; omega), List.take_left' hl, List.drop_left' hl, bnum_nb]
theorem u64_neg (d : Int) (h : -18446744073709551616 ≤ d ∧ d < 0) : (u64 d : Int) = d + 18446744073709551616 := by unfold u64; omega
theorem sign_back (d : Int) (w : Nat) (hw : 2 ≤ w ∧ w < 64) (h1 : -(2 ^ (w - 1) : Int) < d) (h2 : d ≤ 2 ^ (w - 1)) : signX (u64 d % 2 ^ w) w = d := by
  obtain ⟨m, rfl⟩ : ∃ m, w = m + 1 := ⟨w - 1, by omega⟩
  have hm : m < 63 := by omega
  simp only [Nat.add_sub_cancel] at h1 h2 ⊢
  have hp : (2 : Nat) ^ m ≤ 2 ^ 62 := Nat.pow_le_pow_right (by decide) (by omega)
  have hq : (2 : Nat) ^ (m + 1) = 2 * 2 ^ m := by rw [Nat.pow_succ]; omega
  have hpi : ((2 : Nat) ^ m : Nat) = ((2 : Int) ^ m) := by simp
  have hpos : 0 < (2 : Nat) ^ m := Nat.pos_of_ne_zero (by simp)
  have hqi : ((2 : Int) ^ (m + 1)) = 2 * ((2 ^ m : Nat) : Int) := by rw [Int.pow_succ, hpi]; omega
  rw [← hpi] at h1 h2
  have hd64 : (18446744073709551616 : Nat) = 2 ^ (m + 1) * 2 ^ (63 - m) := by rw [← Nat.pow_add, show m + 1 + (63 - m) = 64 by omega]
  obtain ⟨P, hP⟩ : ∃ P, P = 2 ^ m := ⟨_, rfl⟩
  rw [← hP] at hp hq hpos hqi h1 h2
  unfold signX
  by_cases hn : 0 ≤ d
  · have hu : u64 d = d.toNat := by unfold u64; rw [Int.emod_eq_of_lt hn (by omega)]
    rw [hu, hq, Nat.add_sub_cancel, ← hP, Nat.mod_eq_of_lt (by omega), if_neg (by omega)]
    unfold wrap64
    omega
  · have hu : u64 d = 18446744073709551616 - (-d).toNat := by have := u64_neg d (by omega); omega
    have hr : u64 d % 2 ^ (m + 1) = 2 * P - (-d).toNat := by
      rw [hu, hd64, hq]
      have hpp : 0 < 2 ^ (63 - m) := Nat.pos_of_ne_zero (by simp)
      have e : 2 * P * 2 ^ (63 - m) - (-d).toNat = (2 * P - (-d).toNat) + 2 * P * (2 ^ (63 - m) - 1) := by
        have : 2 * P * 2 ^ (63 - m) = 2 * P + 2 * P * (2 ^ (63 - m) - 1) := by
          obtain ⟨q, hq2⟩ : ∃ q, 2 ^ (63 - m) = q + 1 := ⟨2 ^ (63 - m) - 1, by omega⟩
          rw [hq2, Nat.mul_succ, Nat.add_sub_cancel, Nat.add_comm]
        omega
      rw [e, Nat.add_mul_mod_self_left, Nat.mod_eq_of_lt (by omega)]
    rw [hr, Nat.add_sub_cancel, ← hP, if_pos (by constructor <;> omega), hqi]
    omega
theorem change_back (d : Int) (hd : -9223372036854775808 ≤ d ∧ d ≤ 9223372036854775807) (r : List Bool) : changeR [0, 14, 17, 20] (changeB d ++ r) = .ok (d, r) := by
  unfold changeB
  split
  · rename_i h
    subst h
    rfl
  · split
    · rename_i h
      rw [List.append_assoc]
      show signR 14 (nb (u64 d) 14 ++ r) = _
      unfold signR
      rw [getX_nb]
      simp only
      rw [sign_back d 14 (by decide) (by omega) (by omega)]
    · split
      · rename_i h
        rw [List.append_assoc]
        show signR 17 (nb (u64 d) 17 ++ r) = _
        unfold signR
        rw [getX_nb]
        simp only
        rw [sign_back d 17 (by decide) (by omega) (by omega)]
      · split
        · rename_i h
          rw [List.append_assoc]
          show signR 20 (nb (u64 d) 20 ++ r) = _
          unfold signR
          rw [getX_nb]
          simp only
          rw [sign_back d 20 (by decide) (by omega) (by omega)]
        · rw [List.append_assoc]
          show signR 64 (nb (u64 d) 64 ++ r) = _
          unfold signR
          rw [getX_nb]
          simp only
          have e : signX (u64 d % 2 ^ 64) 64 = d := by
            unfold signX
            rw [if_neg (by omega)]
            unfold u64 wrap64
            omega
          rw [e]
def okW (w : Win) : Prop := w.set = true → w.lead + w.trail ≤ 63
theorem turnB_ok (x : Nat) (w : Win) (hx : x < 2 ^ 64) (hw : okW w) : okW (turnB x w).2 := by
  unfold turnB
  split
  · exact hw
  · rename_i h0
    split
    · exact hw
    · exact fun _ => lead_trail x h0 hx
theorem turn_back (x : Nat) (w : Win) (hx : x < 2 ^ 64) (hw : okW w) (r : List Bool) : turnR w ((turnB x w).1 ++ r) = .ok (x, (turnB x w).2, r) := by
  unfold turnB
  split
  · rename_i h
    subst h
    rfl
  · rename_i h0
    have hlt := lead_lt x h0 hx
    have hle := lead_trail x h0 hx
    have hl31 := lead_le x
    split
    · rename_i hc
      obtain ⟨c1, c2, c3⟩ := hc
      have hww := hw c1
      simp only [List.append_assoc]
      unfold turnR
      rw [getX_nb]
      simp only
      rw [if_neg (by decide), getX_nb]
      simp only
      rw [if_pos (by decide)]
      rw [if_pos c1, getX_nb]
      simp only
      have hdv : 2 ^ w.trail ∣ x := Nat.dvd_trans (Nat.pow_dvd_pow 2 c3) (tz_dvd 64 x)
      have hsm : x / 2 ^ w.trail < 2 ^ (64 - w.lead - w.trail) := by
        rw [Nat.div_lt_iff_lt_mul (Nat.pos_of_ne_zero (by simp)), ← Nat.pow_add]
        refine Nat.lt_of_lt_of_le hlt (Nat.pow_le_pow_right (by decide) (by omega))
      rw [Nat.mod_eq_of_lt hsm, Nat.div_mul_cancel hdv]
    · obtain ⟨L, hL⟩ : ∃ L, L = leadX x := ⟨_, rfl⟩
      obtain ⟨T, hT⟩ : ∃ T, T = trailX x := ⟨_, rfl⟩
      rw [← hL] at hlt hle hl31
      rw [← hT] at hle
      rw [← hL, ← hT]
      have hdv : 2 ^ T ∣ x := by rw [hT]; exact tz_dvd 64 x
      have hsm : x / 2 ^ T < 2 ^ (64 - L - T) := by
        rw [Nat.div_lt_iff_lt_mul (Nat.pos_of_ne_zero (by simp)), ← Nat.pow_add]
        refine Nat.lt_of_lt_of_le hlt (Nat.pow_le_pow_right (by decide) (by omega))
      have hm : (if (64 - L - T) % 64 = 0 then 64 else (64 - L - T) % 64) = 64 - L - T := by split <;> omega
      simp only [List.append_assoc]
      unfold turnR
      rw [getX_nb]
      simp only
      rw [if_neg (by decide), getX_nb]
      simp only
      rw [if_neg (by decide)]
      rw [getX_nb]
      simp only
      rw [getX_nb]
      simp only
      rw [Nat.mod_eq_of_lt (show L < 2 ^ 5 by omega), Nat.mod_eq_of_lt (show (64 - L - T) % 64 < 2 ^ 6 by omega), hm, if_neg (by omega), getX_nb]
      simp only
      rw [Nat.mod_eq_of_lt hsm, show 64 - L - (64 - L - T) = T by omega, Nat.div_mul_cancel hdv]
end Go.Proofs.YtmllgglcdlcdhaaDoor.Xs
end
section
namespace Go.Proofs.YtmllgglcdlcdhaaDoor.Xs
open Go Go.RowKit Go.Proofs.YtmllgglcdlcdhaaDoor Bq
set_option linter.unusedVariables false
theorem leadX_is (x : Nat) (h0 : x ≠ 0) (hx : x < 2 ^ 64) : leadX x = min (64 - Lib.bitLen x) 31 := by
  have h1 : Nat.log2 x < 64 := (Nat.log2_lt h0).2 hx
  rw [bitLen_is x (Nat.log2 x) (Nat.log2_self_le h0) Nat.lt_log2_self h1]
  unfold leadX
  omega
theorem tz_odd : ∀ (f x : Nat), x ≠ 0 → x < 2 ^ f → x / 2 ^ tz f x % 2 = 1
  | 0, x, h0, hx => absurd hx (by simp; omega)
  | f + 1, x, h0, hx => by
    unfold tz
    by_cases h : x % 2 = 1
    · rw [if_pos h]; simpa using h
    · rw [if_neg h, Nat.add_comm, Nat.pow_succ, Nat.mul_comm, ← Nat.div_div_eq_div_mul]
      exact tz_odd f (x / 2) (by omega) (by rw [Nat.pow_succ] at hx; omega)
theorem trailX_is (x : Nat) (h0 : x ≠ 0) (hx : x < 2 ^ 64) : trailX x = Lib.ctz 64 x := by
  refine (ctz_is x (trailX x) hx (Nat.mod_eq_zero_of_dvd (tz_dvd 64 x)) ?_).symm
  rw [Nat.testBit_eq_decide_div_mod_eq]
  exact decide_eq_true (tz_odd 64 x h0 hx)
end Go.Proofs.YtmllgglcdlcdhaaDoor.Xs
end
section
namespace Go.Proofs.YtmllgglcdlcdhaaDoor
open Bq
set_option linter.unusedVariables false
theorem p128 (k : Nat) : 128 ^ (k + 1) = 128 * 128 ^ k := by rw [Nat.pow_succ, Nat.mul_comm]
theorem k_lt {n k : Nat} (h : n * 128 ^ k < 18446744073709551616) (hk : k = 0 ∨ 0 < n) : k < 10 := by
  rcases hk with rfl | hk
  · decide
  · apply Nat.lt_of_not_le
    intro h10
    have h1 : 128 ^ 10 ≤ 128 ^ k := Nat.pow_le_pow_right (by decide) h10
    have h2 : 1 * 128 ^ k ≤ n * 128 ^ k := Nat.mul_le_mul_right _ hk
    have h3 : (128 : Nat) ^ 10 = 1180591620717411303424 := by decide
    omega
theorem k9 {n k : Nat} (h : n * 128 ^ k < 18446744073709551616) (hk : k = 9) : n ≤ 1 := by
  subst hk
  have h3 : (128 : Nat) ^ 9 = 9223372036854775808 := by decide
  rw [h3] at h
  omega
theorem step128 {n k : Nat} (h : n * 128 ^ k < 18446744073709551616) : n / 128 * 128 ^ (k + 1) < 18446744073709551616 := by
  rw [p128, ← Nat.mul_assoc]
  exact Nat.lt_of_le_of_lt (Nat.mul_le_mul_right _ (Nat.div_mul_le_self n 128)) h
theorem sum128 (n k : Nat) : n % 128 * 128 ^ k + n / 128 * 128 ^ (k + 1) = n * 128 ^ k := by
  rw [p128, ← Nat.mul_assoc, ← Nat.add_mul]
  congr 1
  omega
theorem ug_uv (rest : List Int) : ∀ (b n k acc : Nat), n ≤ b → n * 128 ^ k < 18446744073709551616 → (k = 0 ∨ 0 < n) →
    ug k acc (ints (uv n) ++ rest) = (((acc + n * 128 ^ k : Nat) : Int), ((k + (uv n).length : Nat) : Int), 0) := by
  intro b
  induction b with
  | zero =>
    intro n k acc hb h hk
    have hn : n = 0 := by omega
    subst hn
    have hk0 : k = 0 := by omega
    subst hk0
    rw [uv_small 0 (by decide)]
    simp [ints, ug]
  | succ b ih =>
    intro n k acc hb h hk
    have hk10 := k_lt h hk
    by_cases hn : n < 128
    · rw [uv_small n hn]
      show ug k acc ((n : Int) :: rest) = _
      rw [ug, if_neg (by omega), if_neg (by
        rintro ⟨h9, h1⟩
        have := k9 h h9
        omega), if_pos (by omega), if_neg (by
        rintro ⟨h1, h2⟩
        omega)]
      simp
    · rw [uv_big n (by omega)]
      show ug k acc (((n % 128 + 128 : Nat) : Int) :: (ints (uv (n / 128)) ++ rest)) = _
      rw [ug, if_neg (by omega), if_neg (by
        rintro ⟨h9, h1⟩
        have := k9 h h9
        omega), if_neg (by omega)]
      have e : (((n % 128 + 128 : Nat) : Int).toNat - 128) = n % 128 := by omega
      rw [e, ih (n / 128) (k + 1) _ (by omega) (step128 h) (.inr (by omega)), Nat.add_assoc acc, sum128, List.length_cons, Nat.add_assoc k 1, Nat.add_comm 1]
theorem uget_uv (n : Nat) (h : n < 18446744073709551616) (rest : List Int) : uget (ints (uv n) ++ rest) = ((n : Int), ((uv n).length : Int), 0) := by
  have := ug_uv rest n n 0 0 (Nat.le_refl _) (by simpa using h) (.inl rfl)
  simpa [uget] using this
theorem ug_cut : ∀ (b n k acc i : Nat), n ≤ b → n * 128 ^ k < 18446744073709551616 → (k = 0 ∨ 0 < n) → i < (uv n).length →
    (ug k acc ((ints (uv n)).take i)).2.2 = 6 := by
  intro b
  induction b with
  | zero =>
    intro n k acc i hb h hk hi
    have hn : n = 0 := by omega
    subst hn
    have hk0 : k = 0 := by omega
    subst hk0
    rw [uv_small 0 (by decide)] at hi ⊢
    have hi0 : i = 0 := by simpa using hi
    subst hi0
    simp [ints, ug]
  | succ b ih =>
    intro n k acc i hb h hk hi
    have hk10 := k_lt h hk
    cases i with
    | zero => simp [ug, hk10]
    | succ i =>
      by_cases hn : n < 128
      · rw [uv_small n hn] at hi
        simp at hi
      · rw [uv_big n (by omega)] at hi ⊢
        show (ug k acc (((n % 128 + 128 : Nat) : Int) :: (ints (uv (n / 128))).take i)).2.2 = 6
        rw [ug, if_neg (by omega), if_neg (by
          rintro ⟨h9, h1⟩
          have := k9 h h9
          omega), if_neg (by omega)]
        exact ih (n / 128) (k + 1) _ i (by omega) (step128 h) (.inr (by omega)) (by simpa using hi)
theorem uget_cut (n : Nat) (h : n < 18446744073709551616) (i : Nat) (hi : i < (uv n).length) : (uget ((ints (uv n)).take i)).2.2 = 6 :=
  ug_cut n n 0 0 i (Nat.le_refl _) (by simpa using h) (.inl rfl) hi
end Go.Proofs.YtmllgglcdlcdhaaDoor
end
section
namespace Go.Proofs.YtmllgglcdlcdhaaDoor.Xs
open Go Go.RowKit Go.Proofs.YtmllgglcdlcdhaaDoor Bq
set_option linter.unusedVariables false
def bytesB (l : List Int) : List Bool := l.flatMap (fun x => nb x.toNat 8)
theorem bytesB_cons (x : Int) (l : List Int) : bytesB (x :: l) = nb x.toNat 8 ++ bytesB l := rfl
def fewR : Nat → List Int → List Bool → Except Int (Int × List Bool)
  | 0, _, _ => .error 8
  | f + 1, b, r => match getX 8 r with
    | .error e => .error e
    | .ok (x, r) => if (uget (b ++ [(x : Int)])).2.2 = 0 then .ok ((uget (b ++ [(x : Int)])).1, r) else if (uget (b ++ [(x : Int)])).2.2 = 6 then fewR f (b ++ [(x : Int)]) r else .error 8
theorem few_from (n : Nat) (h : n < 18446744073709551616) (r : List Bool) : ∀ (d i f : Nat), i + (d + 1) = (uv n).length → d < f →
    fewR f ((ints (uv n)).take i) (bytesB ((ints (uv n)).drop i) ++ r) = .ok ((n : Int), r)
  | d, i, 0, hi, hf => absurd hf (Nat.not_lt_zero _)
  | d, i, f + 1, hi, hf => by
    have hl : (ints (uv n)).length = (uv n).length := by simp [ints]
    have hil : i < (ints (uv n)).length := by omega
    obtain ⟨x, hx⟩ : ∃ x, x = (ints (uv n))[i] := ⟨_, rfl⟩
    have hxb : 0 ≤ x ∧ x < 256 := by
      have hm : x ∈ ints (uv n) := by rw [hx]; exact List.getElem_mem _
      obtain ⟨y, hy, rfl⟩ := List.mem_map.1 hm
      have := uv_lt n y hy
      omega
    have hxn : ((x.toNat : Nat) : Int) = x := by omega
    have ht : (ints (uv n)).take i ++ [x] = (ints (uv n)).take (i + 1) := by rw [hx, List.take_append_getElem hil]
    rw [List.drop_eq_getElem_cons hil, ← hx, bytesB_cons, List.append_assoc]
    unfold fewR
    rw [getX_nb]
    simp only
    rw [Nat.mod_eq_of_lt (show x.toNat < 2 ^ 8 by omega), hxn, ht]
    by_cases he : d = 0
    · subst he
      have e1 : (ints (uv n)).take (i + 1) = ints (uv n) ++ [] := by rw [List.append_nil]; exact List.take_of_length_le (by omega)
      have e2 : (ints (uv n)).drop (i + 1) = [] := List.drop_eq_nil_iff.2 (by omega)
      rw [e1, uget_uv n h [], if_pos rfl, e2]
      rfl
    · have hc := uget_cut n h (i + 1) (by omega)
      rw [if_neg (by rw [hc]; decide), if_pos hc]
      obtain ⟨d', rfl⟩ : ∃ d', d = d' + 1 := ⟨d - 1, by omega⟩
      exact few_from n h r d' (i + 1) f (by omega) (by omega)
theorem few_back (n : Nat) (h : n < 18446744073709551616) (r : List Bool) : fewR 11 [] (bytesB (ints (uv n)) ++ r) = .ok ((n : Int), r) := by
  have hp := uv_pos n
  have hl := uv_len10 n h
  exact few_from n h r ((uv n).length - 1) 0 11 (by omega) (by omega)
structure St where
  n : Nat
  t : Int
  v : Nat
  step : Nat
  w : Win
def addB (s : St) (t : Int) (v : Nat) : List Bool × St :=
  if s.n = 0 then (bytesB (ints (uv (zigI t).toNat)) ++ nb v 64, ⟨1, t, v, 0, s.w⟩)
  else if s.n = 1 then (bytesB (ints (uv (u64 (t - s.t)))) ++ (turnB (v ^^^ s.v) s.w).1, ⟨2, t, v, u64 (t - s.t), (turnB (v ^^^ s.v) s.w).2⟩)
  else (changeB (wrap64 ((u64 (t - s.t) : Int) - s.step)) ++ (turnB (v ^^^ s.v) s.w).1, ⟨s.n + 1, t, v, u64 (t - s.t), (turnB (v ^^^ s.v) s.w).2⟩)
def nextR (s : St) (r : List Bool) : Except Int ((Int × Nat) × St × List Bool) :=
  if s.n = 0 then (match fewR 11 [] r with
    | .error e => .error e
    | .ok (u, r) => match getX 64 r with
      | .error e => .error e
      | .ok (v, r) => .ok ((zagI u, v), ⟨1, zagI u, v, 0, s.w⟩, r))
  else if s.n = 1 then (match fewR 11 [] r with
    | .error e => .error e
    | .ok (u, r) => match turnR s.w r with
      | .error e => .error e
      | .ok (x, w, r) => .ok ((wrap64 (s.t + u), s.v ^^^ x), ⟨2, wrap64 (s.t + u), s.v ^^^ x, u.toNat, w⟩, r))
  else (match changeR [0, 14, 17, 20] r with
    | .error e => .error e
    | .ok (d, r) => match turnR s.w r with
      | .error e => .error e
      | .ok (x, w, r) => .ok ((wrap64 (s.t + u64 (s.step + d)), s.v ^^^ x), ⟨s.n + 1, wrap64 (s.t + u64 (s.step + d)), s.v ^^^ x, u64 (s.step + d), w⟩, r))
structure OkS (s : St) : Prop where
  t : -9223372036854775808 ≤ s.t ∧ s.t ≤ 9223372036854775807
  v : s.v < 2 ^ 64
  step : s.step < 18446744073709551616
  w : okW s.w
theorem u64_lt (d : Int) : u64 d < 18446744073709551616 := by unfold u64; omega
theorem addB_ok {s : St} (h : OkS s) (t : Int) (v : Nat) (ht : -9223372036854775808 ≤ t ∧ t ≤ 9223372036854775807) (hv : v < 2 ^ 64) : OkS (addB s t v).2 := by
  have hx : v ^^^ s.v < 2 ^ 64 := Nat.xor_lt_two_pow hv h.v
  unfold addB
  split
  · exact ⟨ht, hv, (by show (0 : Nat) < 18446744073709551616; decide), h.w⟩
  · split
    · exact ⟨ht, hv, u64_lt _, turnB_ok _ _ hx h.w⟩
    · exact ⟨ht, hv, u64_lt _, turnB_ok _ _ hx h.w⟩
theorem zig_lt (t : Int) (ht : -9223372036854775808 ≤ t ∧ t ≤ 9223372036854775807) : (zigI t).toNat < 18446744073709551616 ∧ ((zigI t).toNat : Int) = zigI t := by
  unfold zigI
  split <;> omega
theorem t_back (t o : Int) (ht : -9223372036854775808 ≤ t ∧ t ≤ 9223372036854775807) (ho : -9223372036854775808 ≤ o ∧ o ≤ 9223372036854775807) : wrap64 (o + u64 (t - o)) = t := by
  unfold u64 wrap64
  omega
theorem step_back (a b : Nat) (ha : a < 18446744073709551616) (hb : b < 18446744073709551616) : u64 ((b : Int) + wrap64 ((a : Int) - b)) = a := by
  unfold u64 wrap64
  omega
theorem next_back {s : St} (h : OkS s) (t : Int) (v : Nat) (ht : -9223372036854775808 ≤ t ∧ t ≤ 9223372036854775807) (hv : v < 2 ^ 64) (r : List Bool) : nextR s ((addB s t v).1 ++ r) = .ok ((t, v), (addB s t v).2, r) := by
  have hx : v ^^^ s.v < 2 ^ 64 := Nat.xor_lt_two_pow hv h.v
  have hxx : s.v ^^^ (v ^^^ s.v) = v := by rw [Nat.xor_comm v, ← Nat.xor_assoc, Nat.xor_self, Nat.zero_xor]
  unfold addB nextR
  by_cases h0 : s.n = 0
  · simp only [if_pos h0, List.append_assoc]
    obtain ⟨z1, z2⟩ := zig_lt t ht
    rw [few_back _ z1]
    simp only
    rw [getX_nb]
    simp only
    rw [z2, zag_zig, Nat.mod_eq_of_lt hv]
  · simp only [if_neg h0]
    by_cases h1 : s.n = 1
    · simp only [if_pos h1, List.append_assoc]
      rw [few_back _ (u64_lt _)]
      simp only
      rw [turn_back _ _ hx h.w]
      simp only
      rw [hxx, t_back t s.t ht h.t]
      rfl
    · simp only [if_neg h1, List.append_assoc]
      have hd := wrap64_wf ((u64 (t - s.t) : Int) - s.step)
      have hdb : -9223372036854775808 ≤ wrap64 ((u64 (t - s.t) : Int) - s.step) ∧ wrap64 ((u64 (t - s.t) : Int) - s.step) ≤ 9223372036854775807 := by unfold wrap64; omega
      rw [change_back _ hdb]
      simp only
      rw [turn_back _ _ hx h.w]
      simp only
      rw [hxx, step_back _ _ (u64_lt _) h.step, t_back t s.t ht h.t]
def allB : St → List (Int × Nat) → List Bool
  | _, [] => []
  | s, x :: l => (addB s x.1 x.2).1 ++ allB (addB s x.1 x.2).2 l
def allR : Nat → St → List Bool → Except Int (List (Int × Nat) × List Bool)
  | 0, _, r => .ok ([], r)
  | n + 1, s, r => match nextR s r with
    | .error e => .error e
    | .ok (x, s, r) => match allR n s r with
      | .error e => .error e
      | .ok (l, r) => .ok (x :: l, r)
def st0 : St := ⟨0, 0, 0, 0, ⟨false, 0, 0⟩⟩
theorem st0_ok : OkS st0 := ⟨by decide, by decide, by decide, fun h => by cases h⟩
def SmpOk (x : Int × Nat) : Prop := (-9223372036854775808 ≤ x.1 ∧ x.1 ≤ 9223372036854775807) ∧ x.2 < 2 ^ 64
theorem all_back : ∀ (l : List (Int × Nat)) (s : St), OkS s → (∀ x ∈ l, SmpOk x) → ∀ r, allR l.length s (allB s l ++ r) = .ok (l, r)
  | [], s, _, _, r => rfl
  | x :: l, s, h, hl, r => by
    have hx := hl x (List.mem_cons_self ..)
    show (match nextR s (((addB s x.1 x.2).1 ++ allB (addB s x.1 x.2).2 l) ++ r) with
      | Except.error e => Except.error e
      | Except.ok (x, s, r) => match allR l.length s r with
        | Except.error e => Except.error e
        | Except.ok (l, r) => Except.ok (x :: l, r) : Except Int (List (Int × Nat) × List Bool)) = _
    rw [List.append_assoc, next_back h x.1 x.2 hx.1 hx.2]
    simp only
    rw [all_back l _ (addB_ok h x.1 x.2 hx.1 hx.2) (fun y hy => hl y (List.mem_cons_of_mem _ hy)) r]
def packB (l : List (Int × Nat)) : List Bool := nb l.length 16 ++ allB st0 l
def unpackR (r : List Bool) : Except Int (List (Int × Nat) × List Bool) := match getX 16 r with
  | .error e => .error e
  | .ok (n, r) => allR n st0 r
theorem unpack_back (l : List (Int × Nat)) (hn : l.length < 65536) (hl : ∀ x ∈ l, SmpOk x) (r : List Bool) : unpackR (packB l ++ r) = .ok (l, r) := by
  unfold unpackR packB
  rw [List.append_assoc, getX_nb]
  simp only
  rw [Nat.mod_eq_of_lt (show l.length < 2 ^ 16 by omega)]
  exact all_back l st0 st0_ok hl r
end Go.Proofs.YtmllgglcdlcdhaaDoor.Xs
end
section
namespace Go.Proofs.YtmllgglcdlcdhaaDoor.Xs
open Go Go.RowKit Go.Proofs.YtmllgglcdlcdhaaDoor Bq
set_option linter.unusedVariables false
def packL (l : List (Int × Nat)) : List Int := packI (packB l)
def getL (b : List Int) : Except Int (List (Int × Nat)) := match unpackR (bitsOf b (8 * b.length)) with
  | .error e => .error e
  | .ok (l, _) => if packL l = b then .ok l else .error 8
theorem bitsOf_take (xs : List Int) (n k : Nat) (h : k ≤ n) : (bitsOf xs n).take k = bitsOf xs k := by
  unfold bitsOf
  rw [← List.map_take, List.take_range, Nat.min_eq_left h]
theorem bitsOf_app (xs ys : List Int) : bitsOf (xs ++ ys) (8 * xs.length) = bitsOf xs (8 * xs.length) := by
  unfold bitsOf
  refine List.map_congr_left fun i hi => ?_
  have hi := List.mem_range.1 hi
  unfold bitAt
  rw [List.getD_eq_getElem?_getD, List.getD_eq_getElem?_getD, List.getElem?_append_left (by omega)]
theorem bitsOf_longer (xs ys : List Int) : ∃ q, bitsOf (xs ++ ys) (8 * (xs ++ ys).length) = bitsOf xs (8 * xs.length) ++ q := by
  refine ⟨(bitsOf (xs ++ ys) (8 * (xs ++ ys).length)).drop (8 * xs.length), ?_⟩
  have h := List.take_append_drop (8 * xs.length) (bitsOf (xs ++ ys) (8 * (xs ++ ys).length))
  rw [bitsOf_take _ _ _ (by rw [List.length_append]; omega), bitsOf_app] at h
  exact h.symm
theorem bits_pack (bs : List Bool) : ∃ q, bitsOf (packI bs) (8 * (packI bs).length) = bs ++ q := by
  have hl : bs.length ≤ 8 * (packI bs).length := by unfold packI; rw [ints_length, pack_length]; omega
  refine ⟨(bitsOf (packI bs) (8 * (packI bs).length)).drop bs.length, ?_⟩
  have h := List.take_append_drop bs.length (bitsOf (packI bs) (8 * (packI bs).length))
  rw [bitsOf_take _ _ _ hl, bitsOf_pack] at h
  exact h.symm
theorem unpack_pack (l : List (Int × Nat)) (hn : l.length < 65536) (hl : ∀ x ∈ l, SmpOk x) (more : List Int) : ∃ q, unpackR (bitsOf (packL l ++ more) (8 * (packL l ++ more).length)) = .ok (l, q) := by
  obtain ⟨q1, h1⟩ := bitsOf_longer (packL l) more
  obtain ⟨q2, h2⟩ := bits_pack (packB l)
  rw [h1]
  unfold packL
  rw [h2, List.append_assoc]
  exact ⟨_, unpack_back l hn hl _⟩
theorem get_more (l : List (Int × Nat)) (hn : l.length < 65536) (hl : ∀ x ∈ l, SmpOk x) (more : List Int) : getL (packL l ++ more) = if more = [] then .ok l else .error 8 := by
  obtain ⟨q, h⟩ := unpack_pack l hn hl more
  unfold getL
  rw [h]
  simp only
  by_cases hm : more = []
  · subst hm
    rw [if_pos rfl, if_pos (by simp)]
  · rw [if_neg hm, if_neg (fun e => hm (by have := congrArg List.length e; rw [List.length_append] at this; exact List.eq_nil_of_length_eq_zero (by omega)))]
theorem get_back (l : List (Int × Nat)) (hn : l.length < 65536) (hl : ∀ x ∈ l, SmpOk x) : getL (packL l) = .ok l := by
  have h := get_more l hn hl []
  rw [List.append_nil, if_pos rfl] at h
  exact h
theorem bytesB_length (l : List Int) : (bytesB l).length = 8 * l.length := by
  induction l with
  | nil => rfl
  | cons x l ih => rw [bytesB_cons, List.length_append, nb_length, ih, List.length_cons]; omega
end Go.Proofs.YtmllgglcdlcdhaaDoor.Xs
end
section
namespace Go.Proofs.YtmllgglcdlcdhaaDoor.Xs
open Go Go.RowKit Go.Proofs.YtmllgglcdlcdhaaDoor Bq
set_option linter.unusedVariables false
theorem wrapu (n : Int) : IntKind.u64.wrap n = ((u64 n : Nat) : Int) := by rw [wrap_u64']; unfold u64; omega
theorem u_sub (a b : Int) : IntKind.u64.wrap (IntKind.u64.wrap a - IntKind.u64.wrap b) = ((u64 (a - b) : Nat) : Int) := by
  rw [wrap_u64', wrap_u64', wrap_u64']; unfold u64; omega
theorem t_add (a : Int) (b : Int) : wrap64 (IntKind.u64.wrap (IntKind.u64.wrap a + b)) = wrap64 (a + b) := by
  rw [wrap_u64', wrap_u64']; unfold wrap64; omega
theorem step_add (a d : Int) : IntKind.u64.wrap (a + IntKind.u64.wrap d) = ((u64 (a + d) : Nat) : Int) := by
  rw [wrap_u64', wrap_u64']; unfold u64; omega
theorem and_mask (n k : Nat) (hn : n < 18446744073709551616) (hk : k < 64) : bits .and .u64 (n : Int) ((2 ^ k - 1 : Nat) : Int) = ((n % 2 ^ k : Nat) : Int) := by
  have h1 : (2 : Nat) ^ k ≤ 2 ^ 63 := Nat.pow_le_pow_right (by decide) (by omega)
  have hA : (BitVec.ofInt 64 (n : Int)).toNat = n := by rw [BitVec.toNat_ofInt]; omega
  have hB : (BitVec.ofInt 64 ((2 ^ k - 1 : Nat) : Int)).toNat = 2 ^ k - 1 := by rw [BitVec.toNat_ofInt]; omega
  show IntKind.u64.wrap (((BitVec.ofInt 64 (n : Int)) &&& (BitVec.ofInt 64 ((2 ^ k - 1 : Nat) : Int))).toNat : Int) = _
  rw [BitVec.toNat_and, hA, hB, Nat.and_two_pow_sub_one_eq_mod, wrap_u64']
  have : n % 2 ^ k ≤ n := Nat.mod_le _ _
  omega
theorem sign_form (n w : Nat) (hw : w < 64) (hn : n < 2 ^ w) : signX n w = if 2 ^ (w - 1) < n then (n : Int) - 2 ^ w else (n : Int) := by
  unfold signX
  have h : (2 : Nat) ^ w ≤ 2 ^ 63 := Nat.pow_le_pow_right (by decide) (by omega)
  by_cases hc : 2 ^ (w - 1) < n
  · rw [if_pos ⟨hw, hc⟩, if_pos hc]
  · rw [if_neg (fun h => hc h.2), if_neg hc]
    unfold wrap64
    omega
theorem xor_u (a b : Nat) (ha : a < 18446744073709551616) (hb : b < 18446744073709551616) : bits .xor .u64 (a : Int) (b : Int) = ((a ^^^ b : Nat) : Int) := by
  have hA : (BitVec.ofInt 64 (a : Int)).toNat = a := by rw [BitVec.toNat_ofInt]; omega
  have hB : (BitVec.ofInt 64 (b : Int)).toNat = b := by rw [BitVec.toNat_ofInt]; omega
  show IntKind.u64.wrap (((BitVec.ofInt 64 (a : Int)) ^^^ (BitVec.ofInt 64 (b : Int))).toNat : Int) = _
  rw [BitVec.toNat_xor, hA, hB, wrap_u64']
  have : a ^^^ b < 2 ^ 64 := Nat.xor_lt_two_pow (by omega) (by omega)
  omega
theorem change_len (d : Int) : (changeB d).length ≤ 68 := by
  unfold changeB
  repeat' split
  all_goals simp [nb_length]
theorem turn_len (x : Nat) (w : Win) (hw : okW w) (hx : x < 2 ^ 64) : (turnB x w).1.length ≤ 77 := by
  unfold turnB
  split
  · simp [nb_length]
  · split
    · simp only [List.length_append, nb_length]; omega
    · simp only [List.length_append, nb_length]; omega
theorem add_len {s : St} (h : OkS s) (t : Int) (v : Nat) (ht : -9223372036854775808 ≤ t ∧ t ≤ 9223372036854775807) (hv : v < 2 ^ 64) : (addB s t v).1.length ≤ 157 := by
  have hx : v ^^^ s.v < 2 ^ 64 := Nat.xor_lt_two_pow hv h.v
  have h1 := uv_len10 _ (zig_lt t ht).1
  have h2 := uv_len10 _ (u64_lt (t - s.t))
  have h3 := turn_len (v ^^^ s.v) s.w h.w hx
  have h4 := change_len (wrap64 ((u64 (t - s.t) : Int) - s.step))
  have i1 : (ints (uv (zigI t).toNat)).length = (uv (zigI t).toNat).length := by simp [ints]
  have i2 : (ints (uv (u64 (t - s.t)))).length = (uv (u64 (t - s.t))).length := by simp [ints]
  unfold addB
  split
  · simp only [List.length_append, bytesB_length, nb_length]; omega
  · split
    · simp only [List.length_append, bytesB_length]; omega
    · simp only [List.length_append]; omega
theorem all_len : ∀ (l : List (Int × Nat)) (s : St), OkS s → (∀ x ∈ l, SmpOk x) → (allB s l).length ≤ 157 * l.length
  | [], s, _, _ => Nat.le_refl _
  | x :: l, s, h, hl => by
    have hx := hl x (List.mem_cons_self ..)
    have h1 := add_len h x.1 x.2 hx.1 hx.2
    have h2 := all_len l _ (addB_ok h x.1 x.2 hx.1 hx.2) (fun y hy => hl y (List.mem_cons_of_mem _ hy))
    show ((addB s x.1 x.2).1 ++ allB (addB s x.1 x.2).2 l).length ≤ _
    rw [List.length_append, List.length_cons]
    omega
end Go.Proofs.YtmllgglcdlcdhaaDoor.Xs
end
