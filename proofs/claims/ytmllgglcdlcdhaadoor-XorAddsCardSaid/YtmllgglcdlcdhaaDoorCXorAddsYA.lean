import Derived.Test.YtmllgglcdlcdhaaDoorCXorAddsB8p
import Derived.Test.YtmllgglcdlcdhaaDoorShelf
import Derived.Test.YtmllgglcdlcdhaaDoorCXorAddsHC
import Derived.Lib.BitFns
import Derived.Lib.ItoaNum
import Derived.Lib.TrailingZeros
import Derived.Shelf.Spec.TrailingZeros
import Derived.Deep.LoopGhost
namespace Go.Proofs.YtmllgglcdlcdhaaDoor.Bq
end Go.Proofs.YtmllgglcdlcdhaaDoor.Bq
section
namespace Go.Proofs.YtmllgglcdlcdhaaDoor
open Go.RowKit Go.Proofs.YtmllgglcdlcdhaaDoorW.PrintWords Go.Proofs.YtmllgglcdlcdhaaDoorW.PrintMore Go.Proofs.YtmllgglcdlcdhaaDoorW.PrintLast Bq
set_option linter.unusedVariables false
set_option maxRecDepth 100000
set_option linter.unusedSimpArgs false
attribute [local go_sem ↓] Go.wp_at_zero Go.wp_at_succ
theorem lead_calls (n : Int) (w : World) (h0 : 0 ≤ n) (h1 : n ≤ 18446744073709551615) :
    Calls Tryd.prog 73 #[.int .u64 n] w fun e w' => e = .returned (.int .i64 (64 - (Lib.bitLen n.toNat : Int))) ∧ w = w' := by
  go_enter Tryd.func73, Tryd.ntmps73
  go_wp2_with (go_at_call 75; refine (Tryd.bits_LeadingZeros64 n _ h0 h1).mono ?_; rintro e w' ⟨rfl, rfl⟩)
  go_ret
  exact ⟨rfl, rfl⟩
theorem eq_take {xs ys : List Int} (h : xs.length = ys.length) (hk : xs.take xs.length = ys.take xs.length) : xs = ys := by
  rw [List.take_of_length_le (Nat.le_refl _), List.take_of_length_le (by omega)] at hk
  exact hk
theorem take_next_eq {xs ys : List Int} {k : Nat} (h1 : k < xs.length) (h2 : k < ys.length) (hk : xs.take k = ys.take k) (he : xs.getD k 0 = ys.getD k 0) : xs.take (k + 1) = ys.take (k + 1) := by
  rw [List.take_succ_eq_append_getElem h1, List.take_succ_eq_append_getElem h2, hk]
  rw [List.getD_eq_getElem?_getD, List.getD_eq_getElem?_getD, List.getElem?_eq_getElem h1, List.getElem?_eq_getElem h2] at he
  simp only [Option.getD_some] at he
  rw [he]
set_option maxHeartbeats 2000000 in
theorem requal_calls (w : World) (A B : Option Addr) (ca cb : Nat) (xs ys : List Int) (hA : (Kd.int .u8).C w A xs.length xs) (hB : (Kd.int .u8).C w B ys.length ys) (hs : xs.length ≤ 1000000000000) (ht : ys.length ≤ 1000000000000) :
    Calls Tryd.prog 14 #[.slice A xs.length ca, .slice B ys.length cb] w fun e w' => e = .returned (.bool (decide (xs = ys))) ∧ ∃ n, w' = w.drewN n := by
  have HA := Lib.hid hA
  have HB := Lib.hid hB
  clear hA hB
  by_cases hl : xs.length = ys.length
  · have hne : ((xs.length : Int) != (ys.length : Int)) = false := by simp [hl]
    have HL := Lib.hid hl
    go_enter Tryd.func14, Tryd.ntmps14
    go_wp2
    go_loopg [13] xs.length (fun kq s13 wr => ∃ (k m : Nat), wr = w.drewN m ∧ k + kq = xs.length ∧ s13 = .int .i64 k ∧ Hid (xs.take k = ys.take k))
    case atStart => exact ⟨0, 0, rfl, by omega, rfl, rfl⟩
    case round =>
      obtain ⟨k, m, rfl, hk, rfl, htk⟩ := hrel
      by_cases hlt : k < xs.length
      · obtain ⟨ad, hAa, hcell⟩ := C_at_int HA.out k hlt
        obtain ⟨bd, hBb, hcelb⟩ := C_at_int HB.out k (by rw [← HL.out]; exact hlt)
        subst hAa
        subst hBb
        have h2 : k < ys.length := by rw [← HL.out]; exact hlt
        obtain ⟨x, hx⟩ : ∃ x, x = xs.getD k 0 := ⟨_, rfl⟩
        obtain ⟨y, hy⟩ : ∃ y, y = ys.getD k 0 := ⟨_, rfl⟩
        rw [← hx] at hcell
        rw [← hy] at hcelb
        have HX := Lib.hid hx
        have HY := Lib.hid hy
        clear hx hy
        by_cases he : x = y
        · have HE := Lib.hid he
          have hq : (x != y) = false := by simp [he]
          clear he
          go_wp2
          go_quiet (fail)
          go_wp2
          go_roundg (gk - 1)
          case measure => omega
          case rel => exact ⟨k + 1, _, rfl, by omega, by go_num, take_next_eq hlt h2 htk.out (by rw [← HX.out, ← HY.out, HE.out])⟩
        · have HE := Lib.hid he
          have hq : (x != y) = true := by simp [he]
          clear he
          go_wp2
          go_quiet (fail)
          go_wp2
          go_ret
          refine ⟨?_, _, World.drewN_drewN _ _ _⟩
          rw [decide_eq_false (fun h => HE.out (by rw [HX.out, HY.out, h]))]
          rfl
      · have hge : (ys.length : Int) ≤ (k : Int) := by omega
        go_wp2
        go_ret
        refine ⟨?_, _, rfl⟩
        have : k = xs.length := by omega
        subst this
        rw [decide_eq_true (eq_take HL.out htk.out)]
        rfl
  · have hne : ((xs.length : Int) != (ys.length : Int)) = true := by simp; omega
    go_enter Tryd.func14, Tryd.ntmps14
    go_wp2
    go_ret
    exact ⟨by rw [decide_eq_false (fun h => hl (by rw [h]))]; rfl, 0, rfl⟩
end Go.Proofs.YtmllgglcdlcdhaaDoor
end
section
namespace Go.Proofs.YtmllgglcdlcdhaaDoor
open Go Go.RowKit Go.Proofs.YtmllgglcdlcdhaaDoorW.PrintWords Go.Proofs.YtmllgglcdlcdhaaDoorW.PrintMore Go.Proofs.YtmllgglcdlcdhaaDoorW.PrintLast Bq
set_option linter.unusedVariables false
set_option maxRecDepth 100000
set_option linter.unusedSimpArgs false
attribute [local go_sem ↓] Go.wp_at_zero Go.wp_at_succ
theorem below_lower {B B' : Nat} {w w1 : World} (h : Below B' w w1) (hB : B ≤ B') : Below B w w1 := ⟨h.os, h.tape, h.output, h.size, fun k hk => h.block k (by omega)⟩
theorem info_bool : (Tryd.prog.info? 4).map (fun i => (i.zero, i.size, i.bytes)) = some (some (.bool false), 1, 1) := by kernel_rfl
theorem bit_eq (n i : Nat) : (((n : Int) / 2 ^ i) % 2 == 1) = n.testBit i := by
  rw [Nat.testBit_eq_decide_div_mod_eq]
  have e : ((n : Int) / 2 ^ i) % 2 = ((n / 2 ^ i % 2 : Nat) : Int) := by simp
  rw [e]
  by_cases h : n / 2 ^ i % 2 = 1
  · rw [h]; rfl
  · have : n / 2 ^ i % 2 = 0 := by omega
    rw [this]; rfl
theorem take_nb_next (n w j : Nat) (h : j < w) : (nb n w).take (j + 1) = (nb n w).take j ++ [n.testBit (w - 1 - j)] := by
  have hl : j < (nb n w).length := by rw [nb_length]; exact h
  rw [List.take_succ_eq_append_getElem hl]
  have h2 := nb_get n w j h
  rw [List.getElem?_eq_getElem hl] at h2
  injection h2 with h2
  rw [h2]
set_option maxHeartbeats 2000000 in
theorem rput_calls (w : World) (base : Nat) (ok : Nat → Prop) (v : Value) (bs : List Bool) (n width : Nat) (hR : Kd.bool.R 4 w base ok v bs) (hbase : base ≤ w.heap.size) (hw : width ≤ 64) (hn : n < 18446744073709551616) (hl : bs.length ≤ 100000000) :
    Calls Tryd.prog 48 #[v, .int .u64 n, .int .i64 width] w fun e w' => ∃ v', e = .returned v' ∧ Kd.bool.R 4 w' base (fun k => ok k ∨ w.heap.size ≤ k) v' (bs ++ nb n width) ∧ Mod ok w w' := by
  have HR := Lib.hid hR
  clear hR
  go_enter Tryd.func48, Tryd.ntmps48
  go_wp2
  go_loopg [0, 7] width (fun kq s0 s7 wr => ∃ (j : Nat) (ts : List Bool), j + kq = width ∧ s7 = .int .i64 ((kq : Int) - 1) ∧ ts.length ≤ 100000000 + j ∧ Hid (ts = bs ++ (nb n width).take j) ∧ Hid (Kd.bool.R 4 wr base (fun k => ok k ∨ w.heap.size ≤ k) s0 ts) ∧ Hid (Mod ok w wr))
  case atStart => exact ⟨0, bs, by omega, rfl, by omega, by rw [List.take_zero, List.append_nil]; rfl, Kd.R_mono HR.out (fun _ h => .inl h), Mod.refl _ _⟩
  case round =>
    obtain ⟨j, ts, hj, rfl, hts, hT, hRr, hM⟩ := hrel
    obtain ⟨A, c, hs0⟩ := Kd.R_slice hRr.out
    subst hs0
    have hsz := hM.out.size
    by_cases hlt : 0 < gk
    · have e1 : (0 : Int) ≤ (gk : Int) - 1 := by omega
      have e2 : ((gk : Int) - 1).toNat = width - 1 - j := by omega
      have e4 : bits .and .u64 ((n : Int) / 2 ^ (width - 1 - j)) 1 = (n : Int) / 2 ^ (width - 1 - j) % 2 := by
        have h : (n : Int) / 2 ^ (width - 1 - j) = ((n / 2 ^ (width - 1 - j) : Nat) : Int) := by simp
        rw [h]
        have h2 := Nat.div_le_self n (2 ^ (width - 1 - j))
        generalize n / 2 ^ (width - 1 - j) = y at h2 ⊢
        exact and_one _ (by omega) (by omega)
      obtain ⟨b, hb⟩ : ∃ b, b = n.testBit (width - 1 - j) := ⟨_, rfl⟩
      have e5 : ((n : Int) / 2 ^ (width - 1 - j) % 2 == 1) = b := by rw [hb, bit_eq]
      have HBB := Lib.hid hb
      clear hb
      go_wp2_with (at_builtin; refine Kd.R_append Kd.bool (w0 := wr) (W := wr) base rfl (.tmp 14) (.tmp 21) 58 4 (.bool false) 1 rfl Tryd.underlying58 info_bool rfl (by decide) (by decide) _ ts b [.bool b] (fun k => ok k ∨ w.heap.size ≤ k) (fun _ => False) rfl rfl rfl (fun _ h => h.elim) (fun k hk => .inr (Nat.le_trans hsz hk)) hRr.out (Below.refl _ _) (Nat.le_trans hbase hsz) (by omega) ?_; intro v1 w2 hR2 _ hg2 _; have HR2 := Lib.hid hR2; have HG2 := Lib.hid hg2; clear hR2 hg2)
      go_roundg (gk - 1)
      case measure => omega
      case rel =>
        refine ⟨j + 1, ts ++ [b], by omega, by go_num, by rw [List.length_append]; simp; omega, ?_, HR2.out, hM.out.grown HG2.out (fun k hk => hRr.out.1 k hk)⟩
        show ts ++ [b] = _
        rw [hT.out, HBB.out, take_nb_next n width j (by omega), List.append_assoc]
    · have hg0 : gk = 0 := by omega
      subst hg0
      go_wp2_with fail
      go_ret
      refine ⟨_, rfl, ?_, hM.out⟩
      have hX : bs ++ nb n width = ts := by rw [hT.out, List.take_of_length_le (by rw [nb_length]; omega)]
      rw [hX]
      exact hRr.out
theorem C_at_bool {w : World} {A : Option Addr} {n : Nat} {xs : List Bool} (h : Kd.bool.C w A n xs) (i : Nat) (hi : i < n) : ∃ ad, A = some ad ∧ w.cell? (ad.add i) = some (.bool (xs.getD i false)) := by
  obtain ⟨ad, c, e, _, hK, hc⟩ := Kd.C_get h false (i : Int) (by omega) (by omega)
  rw [Int.toNat_natCast] at hK hc
  have hk : c = [.bool (xs.getD i false)] := hK
  subst hk
  have h2 := hc 0 _ rfl
  refine ⟨ad, e, ?_⟩
  have e1 : i * Kd.bool.sz + 0 = i := by show i * 1 + 0 = i; omega
  rw [e1] at h2
  exact h2
theorem or_byte (x : Int) (r : Nat) (h0 : 0 ≤ x) (h1 : x < 256) (hr : r < 8) : bits .or .u8 x (128 / 2 ^ r) = ((x.toNat ||| 2 ^ (7 - r) : Nat) : Int) := by
  obtain ⟨y, rfl⟩ := Int.eq_ofNat_of_zero_le h0
  have e : (128 : Int) / 2 ^ r = ((2 ^ (7 - r) : Nat) : Int) := by
    have : ∀ r : Fin 8, (128 : Int) / 2 ^ r.val = ((2 ^ (7 - r.val) : Nat) : Int) := by decide
    exact this ⟨r, hr⟩
  have e2 : 2 ^ (7 - r) < 256 := Nat.lt_of_lt_of_le (Nat.pow_lt_pow_right (by decide) (show 7 - r < 8 by omega)) (by decide)
  rw [e, (bits_nat .u8 8 (by decide) wraps_u8 y (2 ^ (7 - r)) (by omega) (by omega)).2, Int.toNat_natCast]
set_option maxHeartbeats 2000000 in
theorem rbytes_calls (w : World) (A : Option Addr) (c : Nat) (bs : List Bool) (hC : Kd.bool.C w A bs.length bs) (hl : bs.length ≤ 100000000) :
    Calls Tryd.prog 29 #[.slice A bs.length c] w fun e w' => ∃ v, e = .returned v ∧ (Kd.int .u8).R 5 w' w.heap.size (fun k => w.heap.size ≤ k) v (packI bs) ∧ Below w.heap.size w w' := by
  have HC := Lib.hid hC
  clear hC
  obtain ⟨m, hm⟩ : ∃ m, m = (bs.length + 7) / 8 := ⟨_, rfl⟩
  have hmi : ((bs.length : Int) + 7) / 8 = (m : Int) := by omega
  have HM := Lib.hid hm
  have HMI := Lib.hid hmi
  clear hmi
  have hm2 : m ≤ 100000000 := by omega
  clear hm
  go_enter Tryd.func29, Tryd.ntmps29
  go_wp2_with (at_make; refine Kd.R_make (Kd.int .u8) (w0 := w) (W := w) w.heap.size 5 rfl rfl 24 (.tmp 9) (.tmp 9) rfl (((bs.length : Int) + 7) / 8) rfl rfl Tryd.underlying24 (.int .u8 0) 1 info_u8 rfl (by decide) (by decide) 0 (okp := fun _ => False) (ok := fun k => w.heap.size ≤ k) rfl (fun _ h => h.elim) (Nat.le_refl _) (by omega) (by have := hm2; omega) (Below.refl _ _) (Nat.le_refl _) ?_; intro v1 w1 hR hB _ _; have HR := Lib.hid hR; have HB := Lib.hid hB; clear hR hB)
  rw [HMI.out, Int.toNat_natCast] at HR
  have hst : Byts (List.replicate m (0 : Int)) ∧ (List.replicate m (0 : Int)).length = m ∧ ∀ j, bitAt (List.replicate m (0 : Int)) j = (decide (j < 0) && bs.getD j false) := by
    refine ⟨fun x hx => ?_, by simp, fun j => ?_⟩
    · have := (List.mem_replicate.1 hx).2
      omega
    · unfold bitAt
      rw [decide_eq_false (by omega), Bool.false_and, List.getD_eq_getElem?_getD, List.getElem?_replicate]
      split <;> simp
  have HST := Lib.hid hst
  clear hst
  go_loopg [13] bs.length (fun kq s13 wr => ∃ (k : Nat) (xs : List Int), k + kq = bs.length ∧ s13 = .int .i64 k ∧ Hid (xs.length = m) ∧ Hid (Byts xs) ∧ Hid (∀ j, bitAt xs j = (decide (j < k) && bs.getD j false)) ∧ Hid ((Kd.int .u8).R 5 wr w.heap.size (fun k => w.heap.size ≤ k) v1 xs) ∧ Hid (Below w.heap.size w wr))
  case atStart => exact ⟨0, _, by omega, rfl, HST.out.2.1, HST.out.1, HST.out.2.2, HR.out, HB.out⟩
  case round =>
    obtain ⟨k, xs, hk, rfl, hxm, hby, hbit, hR, hBr⟩ := hrel
    by_cases hlt : k < bs.length
    · obtain ⟨ad, hA, hcell⟩ := C_at_bool HC.out k hlt
      subst hA
      have hcell2 : wr.cell? (ad.add k) = some (.bool (bs.getD k false)) := by
        rw [hBr.out.cell (World.block_lt_of_cell? w _ hcell)]
        exact hcell
      clear hcell
      obtain ⟨b, hb⟩ : ∃ b, b = bs.getD k false := ⟨_, rfl⟩
      rw [← hb] at hcell2
      have HBB := Lib.hid hb
      clear hb
      cases b with
      | false =>
        go_wp2_with fail
        go_roundg (gk - 1)
        case measure => omega
        case rel =>
          refine ⟨k + 1, xs, by omega, by go_num, hxm.out, hby.out, fun j => ?_, hR.out, hBr.out⟩
          rw [hbit.out j]
          by_cases hjk : j = k
          · subst hjk
            rw [← HBB.out]; simp
          · have : decide (j < k + 1) = decide (j < k) := by
              apply decide_eq_decide.2
              omega
            rw [this]
      | true =>
        have hq : k / 8 < xs.length := by have := hxm.out; have := HM.out; omega
        obtain ⟨gr, cap, hs3, hgb, hgl, _⟩ := Kd.R_form hR.out (by omega)
        have hxb : 0 ≤ rdOf 0 xs ((k / 8 : Nat) : Int) ∧ rdOf 0 xs ((k / 8 : Nat) : Int) < 256 := by
          have h := Byts.get hby.out (k / 8) hq
          exact h
        have HXB := Lib.hid hxb
        clear hxb
        subst hs3
        obtain ⟨q, hqq⟩ : ∃ q, q = k / 8 := ⟨_, rfl⟩
        obtain ⟨r, hrr⟩ : ∃ r, r = k % 8 := ⟨_, rfl⟩
        obtain ⟨hcl, hfz⟩ := own_at_of (d := 0) (Kd.own_of_R hR.out) (i := ((q : Nat) : Int)) (by omega) (by omega)
        rw [Int.toNat_natCast] at hcl hfz
        obtain ⟨x, hx⟩ : ∃ x : Int, x = rdOf 0 xs ((q : Nat) : Int) := ⟨_, rfl⟩
        rw [← hx] at hcl
        have HX := Lib.hid hx
        have e1 : ((k : Int) / 8).toNat = q := by omega
        have e2 : ((k : Int) % 8).toNat = r := by omega
        have e3 : (0 : Int) ≤ (k : Int) / 8 := by omega
        have e4 : (k : Int) / 8 < (xs.length : Int) := by omega
        have HQ := Lib.hid hq
        have HQQ := Lib.hid hqq
        have HRR := Lib.hid hrr
        clear hq hx hqq hrr
        go_wp2_with fail
        go_roundg (gk - 1)
        case measure => omega
        case rel =>
          have hr8 : r < 8 := by rw [HRR.out]; exact Nat.mod_lt _ (by decide)
          have hx2 : 0 ≤ x ∧ x < 256 := by rw [HX.out, HQQ.out]; exact HXB.out
          have hor := or_byte x r hx2.1 hx2.2 hr8
          rw [hor]
          obtain ⟨hR3, hg3⟩ := Kd.R_put hR.out ((q : Nat) : Int) ((x.toNat ||| 2 ^ (7 - r) : Nat) : Int)
          rw [Int.toNat_natCast] at hR3 hg3
          have hxs : xs.set q ((x.toNat ||| 2 ^ (7 - r) : Nat) : Int) = xs.set (k / 8) ((((xs.getD (k / 8) 0).toNat ||| 2 ^ (7 - k % 8)) : Nat) : Int) := by
            have : x = xs.getD (k / 8) 0 := by rw [HX.out, HQQ.out]; rfl
            rw [this, HQQ.out, HRR.out]
          have hk8 : k < 8 * xs.length := by have := hxm.out; have := HM.out; omega
          refine ⟨k + 1, _, by omega, by go_num, ?_, ?_, fun j => ?_, hR3, hBr.out.grown hg3 hBr.out.size (fun g hg => by injection hg with hg; omega)⟩
          · show (xs.set q _).length = m
            rw [List.length_set]
            exact hxm.out
          · intro y hy
            rcases List.mem_or_eq_of_mem_set hy with h | h
            · exact hby.out y h
            · have h1 : x.toNat ||| 2 ^ (7 - r) < 2 ^ 8 := Nat.or_lt_two_pow (by omega) (Nat.pow_lt_pow_right (by decide) (by omega))
              have h2 : (2 : Nat) ^ 8 = 256 := by decide
              omega
          · rw [hxs, bitAt_set xs k j hby.out hk8, hbit.out j]
            by_cases hjk : j = k
            · subst hjk
              rw [← HBB.out]; simp
            · have : decide (j < k + 1) = decide (j < k) := by
                apply decide_eq_decide.2
                omega
              rw [this, decide_eq_false hjk, Bool.or_false]
    · have hkk : k = bs.length := by omega
      go_wp2_with fail
      go_ret
      have hX : packI bs = xs := by
        apply bits_ext
        · rw [packI_length, hxm.out, HM.out]
        · exact byts_packI bs
        · exact hby.out
        · intro j hj
          rw [packI_length] at hj
          rw [bitAt_pack bs.length bs j (Nat.le_refl _) hj, hbit.out j]
          by_cases hjl : j < bs.length
          · rw [decide_eq_true (by omega), Bool.true_and]
          · rw [List.getD_eq_getElem?_getD, List.getElem?_eq_none (by omega)]
            simp
      rw [hX]
      exact ⟨_, rfl, hR.out, hBr.out⟩
end Go.Proofs.YtmllgglcdlcdhaaDoor
end
section
namespace Go.Proofs.YtmllgglcdlcdhaaDoor
open Go Go.RowKit Go.Proofs.YtmllgglcdlcdhaaDoorW.PrintWords Go.Proofs.YtmllgglcdlcdhaaDoorW.PrintMore Go.Proofs.YtmllgglcdlcdhaaDoorW.PrintLast Bq Xs
set_option linter.unusedVariables false
set_option maxRecDepth 100000
set_option linter.unusedSimpArgs false
attribute [local go_sem ↓] Go.wp_at_zero Go.wp_at_succ
structure RrB (w : World) (ok : Nat → Prop) (q : Nat) (v : Value) (bits : List Bool) (a : Nat) (σ : Sg) : Prop where
  blk : w.heap[q]? = some (.cells #[v, .int .i64 (a : Nat), .int .i64 (errT σ)] 74 (0, 0))
  R : Kd.bool.R 4 w 0 ok v bits
  rem : ∀ r, σ = .ok r → a ≤ bits.length ∧ r = bits.drop a
  small : bits.length ≤ 1000000
  okq : ¬ ok q
  good : goodE σ
def Rr (w : World) (ok : Nat → Prop) (q : Nat) (σ : Sg) : Prop := ∃ v bits a, RrB w ok q v bits a σ
section
variable {w w1 : World} {ok : Nat → Prop} {q : Nat} {σ : Sg} {v : Value} {bits : List Bool} {a : Nat}
theorem RrB.kept {S : Nat → Prop} (h : RrB w ok q v bits a σ) (hm : Mod S w w1) (hq : ¬ S q) (hs : ∀ k, ok k → k < w.heap.size → ¬ S k) : RrB w1 ok q v bits a σ := ⟨hm.blk h.blk hq, Kd.R_step h.R (fun k ho hk => hm.block k hk (hs k ho hk)), h.rem, h.small, h.okq, h.good⟩
theorem Rr.kept {S : Nat → Prop} (h : Rr w ok q σ) (hm : Mod S w w1) (hq : ¬ S q) (hs : ∀ k, ok k → k < w.heap.size → ¬ S k) : Rr w1 ok q σ := by
  obtain ⟨v, bits, a, h⟩ := h
  exact ⟨v, bits, a, h.kept hm hq hs⟩
theorem Rr.below (h : Rr w ok q σ) (hB : Below w.heap.size w w1) : Rr w1 ok q σ := h.kept (Mod.of_below hB (fun _ => False)) id (fun _ _ _ => id)
theorem Rr.drewN (h : Rr w ok q σ) (n : Nat) : Rr (w.drewN n) ok q σ := h.below (pw_below_drewN (Below.refl _ _) n)
theorem Rr.good (h : Rr w ok q σ) : goodE σ := by obtain ⟨v, bits, a, h⟩ := h; exact h.good
theorem Rr.qlt (h : Rr w ok q σ) : q < w.heap.size := by obtain ⟨v, bits, a, h⟩ := h; exact blk_lt h.blk
theorem Rr.okq (h : Rr w ok q σ) : ¬ ok q := by obtain ⟨v, bits, a, h⟩ := h; exact h.okq
theorem Rr.failed {r : List Bool} (h : Rr w ok q (.ok r)) (e : Int) (he : e ≠ 0) : Rr (w.setCell ⟨q, 2, none⟩ (.int .i64 e)) ok q (.error e) ∧ Mod (fun k => k = q) w (w.setCell ⟨q, 2, none⟩ (.int .i64 e)) := by
  obtain ⟨v, bits, a, h⟩ := h
  have hm : Mod (fun k => k = q) w (w.setCell ⟨q, 2, none⟩ (.int .i64 e)) := (Mod.refl (fun k => k = q) w).setCell (p := ⟨q, 2, none⟩) (.inl rfl) _
  exact ⟨⟨v, bits, a, blk_put h.blk 2 _ rfl, Kd.R_step h.R (fun k ho hk => hm.block k hk (fun e => h.okq (e ▸ ho))), (fun r hr => by cases hr), h.small, h.okq, (fun e2 h2 => by injection h2 with h2; omega)⟩, hm⟩
end
end Go.Proofs.YtmllgglcdlcdhaaDoor
end
section
namespace Go.Proofs.YtmllgglcdlcdhaaDoor
open Go.RowKit Go.Proofs.YtmllgglcdlcdhaaDoorW.PrintWords Go.Proofs.YtmllgglcdlcdhaaDoorW.PrintMore Go.Proofs.YtmllgglcdlcdhaaDoorW.PrintLast Bq
set_option linter.unusedVariables false
set_option maxRecDepth 100000
set_option linter.unusedSimpArgs false
attribute [local go_sem ↓] Go.wp_at_zero Go.wp_at_succ
theorem rzig_calls (n : Int) (w : World) (h0 : -9223372036854775808 ≤ n) (h1 : n ≤ 9223372036854775807) :
    Calls Tryd.prog 41 #[.int .i64 n] w fun e w' => e = .returned (.int .u64 (zigI n)) ∧ w = w' := by
  by_cases hn : n < 0
  · go_enter Tryd.func41, Tryd.ntmps41
    go_wp2
    go_ret
    refine ⟨congrArg Ending.returned (congrArg (Value.int IntKind.u64) ?_), rfl⟩
    unfold zigI
    rw [if_pos hn]
    omega
  · go_enter Tryd.func41, Tryd.ntmps41
    go_wp2
    go_ret
    refine ⟨congrArg Ending.returned (congrArg (Value.int IntKind.u64) ?_), rfl⟩
    unfold zigI
    rw [if_neg (by omega)]
    try omega
theorem rputUvarint_calls (w : World) (n : Nat) (hn : n < 18446744073709551616) :
    Calls Tryd.prog 20 #[.int .u64 n] w fun e w' => ∃ v, e = .returned v ∧ (Kd.int .u8).R 5 w' w.heap.size (fun _ => True) v (ints (uv n)) ∧ Below w.heap.size w w' := by
  have hlen := uv_len10 n hn
  have HLEN := Lib.hid hlen
  clear hlen
  go_enter Tryd.func20, Tryd.ntmps20
  go_wp2
  have HR := Lib.hid (R_empty (Kd.int .u8) 5 w w.heap.size (fun _ => True) (Nat.le_refl _) trivial)
  have HB := Lib.hid (below_alloc (Below.refl w.heap.size w) (.cells #[] 5))
  generalize w.alloc (.cells #[] 5) = w1 at HR HB ⊢
  go_loopg [0, 3] n (fun m s0 s3 wr => s0 = .int .u64 m ∧ m < 18446744073709551616 ∧ ∃ pre, Hid (pre ++ uv m = uv n) ∧ Hid ((Kd.int .u8).R 5 wr w.heap.size (fun _ => True) s3 (ints pre)) ∧ Hid (Below w.heap.size w wr))
  case atStart => exact ⟨rfl, hn, [], rfl, HR.out, HB.out⟩
  case round =>
    obtain ⟨rfl, hgk, pre, hpre, hRr, hBr⟩ := hrel
    obtain ⟨A, c, hs3⟩ := Kd.R_slice hRr.out
    subst hs3
    have hpl : pre.length ≤ 9 := by
      have h1 := congrArg List.length hpre.out
      have h2 := uv_pos gk
      have h3 := HLEN.out
      rw [List.length_append] at h1
      omega
    have hBs := hBr.out.size
    by_cases hlt : 128 ≤ gk
    · have hb2 : decide ((128 : Int) ≤ (gk : Int)) = true := decide_eq_true (by omega)
      have HLT := Lib.hid hlt
      clear hlt
      have hmod : ((gk : Int) % 128 + 128) = ((gk % 128 + 128 : Nat) : Int) := by omega
      have HMOD := Lib.hid hmod
      clear hmod
      go_wp2_with (at_builtin; refine Kd.R_append (Kd.int .u8) (w0 := wr) (W := wr) w.heap.size rfl (.tmp 7) (.tmp 12) 24 5 (.int .u8 0) 1 rfl Tryd.underlying24 info_u8 rfl (by decide) (by decide) _ (ints pre) ((gk : Int) % 128 + 128) [.int .u8 ((gk : Int) % 128 + 128)] (fun _ => True) (fun _ => False) rfl rfl rfl (fun _ h => h.elim) (fun _ _ => trivial) hRr.out (Below.refl _ _) hBs (by rw [ints_length]; omega) ?_; intro v1 w2 hR2 _ hg2 _; have HR2 := Lib.hid hR2; have HG2 := Lib.hid hg2; clear hR2 hg2)
      go_roundg (gk / 128)
      case measure => have := HLT.out; omega
      case rel =>
        refine ⟨by go_num, by omega, pre ++ [gk % 128 + 128], ?_, ?_, hBr.out.trans (Mod.below (S := fun k => w.heap.size ≤ k) ((Mod.refl _ _).grown HG2.out (fun k hk => .inl (Kd.R_base hRr.out k hk))) hBs (fun k hk => hk))⟩
        · show pre ++ [gk % 128 + 128] ++ uv (gk / 128) = uv n
          rw [← hpre.out, uv_big gk HLT.out, List.append_assoc]
          rfl
        · rw [HMOD.out] at HR2
          rw [ints_append]
          exact HR2.out
    · have hb2 : decide ((128 : Int) ≤ (gk : Int)) = false := decide_eq_false (by omega)
      have hm256 : (gk : Int) % 256 = gk := by omega
      have HLT := Lib.hid hlt
      clear hlt
      go_wp2_with (at_builtin; refine Kd.R_append (Kd.int .u8) (w0 := wr) (W := wr) w.heap.size rfl (.tmp 16) (.tmp 19) 24 5 (.int .u8 0) 1 rfl Tryd.underlying24 info_u8 rfl (by decide) (by decide) _ (ints pre) (gk : Int) [.int .u8 (gk : Int)] (fun _ => True) (fun _ => False) rfl rfl rfl (fun _ h => h.elim) (fun _ _ => trivial) hRr.out (Below.refl _ _) hBs (by rw [ints_length]; omega) ?_; intro v1 w2 hR2 _ hg2 _; have HR2 := Lib.hid hR2; have HG2 := Lib.hid hg2; clear hR2 hg2)
      go_ret
      have hp : ints pre ++ [(gk : Int)] = ints (uv n) := by
        rw [← hpre.out, uv_small gk (by have := HLT.out; omega), ints_append]
        rfl
      have h2 := HR2.out
      rw [hp] at h2
      exact ⟨v1, rfl, h2, hBr.out.trans (Mod.below (S := fun k => w.heap.size ≤ k) ((Mod.refl _ _).grown HG2.out (fun k hk => .inl (Kd.R_base hRr.out k hk))) hBs (fun k hk => hk))⟩
theorem rputVarint_calls (w : World) (n : Int) (h0 : -9223372036854775808 ≤ n) (h1 : n ≤ 9223372036854775807) :
    Calls Tryd.prog 19 #[.int .i64 n] w fun e w' => ∃ v, e = .returned v ∧ (Kd.int .u8).R 5 w' w.heap.size (fun _ => True) v (ints (uv (zigI n).toNat)) ∧ Below w.heap.size w w' := by
  have hz : 0 ≤ zigI n ∧ zigI n < 18446744073709551616 := by unfold zigI; split <;> omega
  obtain ⟨z, hz2⟩ := Int.eq_ofNat_of_zero_le hz.1
  have hz3 : z < 18446744073709551616 := by omega
  have HZ := Lib.hid hz2
  clear hz hz2
  go_enter Tryd.func19, Tryd.ntmps19
  go_wp2_with fail
  refine (rzig_calls _ _ h0 h1).mono ?_
  rintro e w' ⟨rfl, rfl⟩
  rw [HZ.out]
  go_wp2_with fail
  refine (rputUvarint_calls _ z hz3).mono ?_
  rintro e w' ⟨v, rfl, hR, hB⟩
  have HR := Lib.hid hR
  have HB := Lib.hid hB
  clear hR hB
  go_wp2_with fail
  go_ret
  exact ⟨v, rfl, by rw [HZ.out, Int.toNat_natCast]; exact HR.out, HB.out⟩
end Go.Proofs.YtmllgglcdlcdhaaDoor
end
section
namespace Go.Proofs.YtmllgglcdlcdhaaDoor
open Go
set_option linter.unusedVariables false
theorem bitLen_is (x k : Nat) (h1 : 2 ^ k ≤ x) (h2 : x < 2 ^ (k + 1)) (hk : k < 64) : Lib.bitLen x = k + 1 := by
  have hx : x ≠ 0 := by
    have : 0 < 2 ^ k := Nat.pow_pos (by decide)
    omega
  have hx64 : x < 2 ^ 64 := Nat.lt_of_lt_of_le h2 (Nat.pow_le_pow_right (by decide) hk)
  obtain ⟨b1, b2, b3⟩ := Lib.bitLenAux_bounds 64 x hx64 hx
  have e : Lib.bitLen x = Lib.bitLenAux 64 x := rfl
  rw [e]
  generalize Lib.bitLenAux 64 x = L at b1 b2 b3 ⊢
  have g1 : k < L := by
    apply Nat.lt_of_not_le
    intro h
    have := Nat.pow_le_pow_right (n := 2) (by decide) h
    omega
  have g2 : L - 1 < k + 1 := by
    apply Nat.lt_of_not_le
    intro h
    have := Nat.pow_le_pow_right (n := 2) (by decide) h
    omega
  omega
theorem bitLen_zero : Lib.bitLen 0 = 0 := rfl
theorem bitLen_bounds (x : Nat) (hx : x ≠ 0) (h : x < 2 ^ 64) : 1 ≤ Lib.bitLen x ∧ Lib.bitLen x ≤ 64 ∧ 2 ^ (Lib.bitLen x - 1) ≤ x ∧ x < 2 ^ Lib.bitLen x := by
  obtain ⟨b1, b2, b3⟩ := Lib.bitLenAux_bounds 64 x h hx
  exact ⟨b1, Lib.bitLen_le x 64 (Nat.le_refl _) h, b2, b3⟩
theorem half_bit (n k : Nat) (h : n < 2 ^ (k + 1)) : (n.testBit k = false → n < 2 ^ k) ∧ (n.testBit k = true → 2 ^ k ≤ n) := by
  rw [Nat.testBit_eq_decide_div_mod_eq]
  have hp : 0 < 2 ^ k := Nat.pow_pos (by decide)
  have hd : n / 2 ^ k < 2 := by
    rw [Nat.div_lt_iff_lt_mul hp, Nat.mul_comm, ← Nat.pow_succ]
    exact h
  constructor
  · intro h2
    have h3 := of_decide_eq_false h2
    have h4 : n / 2 ^ k = 0 := by
      generalize n / 2 ^ k = d at hd h3 ⊢
      omega
    rcases Nat.div_eq_zero_iff.1 h4 with h5 | h5
    · omega
    · exact h5
  · intro h2
    have h3 := of_decide_eq_true h2
    apply Nat.le_of_not_lt
    intro h4
    rw [Nat.div_eq_of_lt h4] at h3
    omega
theorem odd_mod (c m i : Nat) (hc : c < i) : (2 ^ c * (2 * m + 1)) % 2 ^ i ≠ 0 := by
  intro h
  have h1 : 2 ^ (c + 1) ∣ 2 ^ c * (2 * m + 1) := Nat.dvd_trans (Nat.pow_dvd_pow 2 hc) (Nat.dvd_of_mod_eq_zero h)
  rw [Nat.pow_succ] at h1
  have h2 := Nat.dvd_of_mul_dvd_mul_left (Nat.pow_pos (n := c) (by decide)) h1
  omega
theorem ctz_is (n i : Nat) (hn : n < 2 ^ 64) (h0 : n % 2 ^ i = 0) (h1 : n.testBit i = true) : Lib.ctz 64 n = i := by
  rw [Nat.testBit_eq_decide_div_mod_eq] at h1
  have h1 := of_decide_eq_true h1
  have hn0 : n ≠ 0 := by
    rintro rfl
    simp at h1
  unfold Lib.ctz
  rw [if_neg hn0]
  obtain ⟨m, hm, hl⟩ := Lib.ctzFrom_spec 64 n (by omega) hn
  generalize Lib.ctzFrom 64 n = c at hm hl ⊢
  rcases Nat.lt_trichotomy c i with h | h | h
  · rw [hm] at h0
    exact absurd h0 (odd_mod c m i h)
  · exact h
  · exfalso
    have e : n / 2 ^ i = 2 ^ (c - i) * (2 * m + 1) := by
      have e2 : 2 ^ c = 2 ^ i * 2 ^ (c - i) := by rw [← Nat.pow_add]; congr 1; omega
      rw [hm, e2, Nat.mul_assoc, Nat.mul_div_cancel_left _ (Nat.pow_pos (by decide))]
    have e3 : 2 ^ (c - i) = 2 * 2 ^ (c - i - 1) := by rw [← Nat.pow_succ']; congr 1; omega
    rw [e, e3, Nat.mul_assoc, Nat.mul_mod_right] at h1
    omega
theorem mod_next (n i : Nat) (h0 : n % 2 ^ i = 0) (h1 : n.testBit i = false) : n % 2 ^ (i + 1) = 0 := by
  rw [Nat.testBit_eq_decide_div_mod_eq] at h1
  have h1 := of_decide_eq_false h1
  obtain ⟨q, rfl⟩ := Nat.dvd_of_mod_eq_zero h0
  rw [Nat.mul_div_cancel_left _ (Nat.pow_pos (by decide))] at h1
  have hq : q = 2 * (q / 2) := by omega
  rw [hq, Nat.pow_succ, ← Nat.mul_assoc, Nat.mul_mod_right]
theorem ctz_zero : Lib.ctz 64 0 = 64 := rfl
end Go.Proofs.YtmllgglcdlcdhaaDoor
end
section
namespace Go.Proofs.YtmllgglcdlcdhaaDoor
open Go.RowKit Go.Proofs.YtmllgglcdlcdhaaDoorW.PrintWords Go.Proofs.YtmllgglcdlcdhaaDoorW.PrintMore Go.Proofs.YtmllgglcdlcdhaaDoorW.PrintLast Bq
set_option linter.unusedVariables false
set_option maxRecDepth 100000
set_option linter.unusedSimpArgs false
attribute [local go_sem ↓] Go.wp_at_zero Go.wp_at_succ
theorem bit_and1 (n i : Nat) (hn : n < 18446744073709551616) : bits .and .u64 ((n : Int) / 2 ^ i) 1 = (n : Int) / 2 ^ i % 2 := by
  have h : (n : Int) / 2 ^ i = ((n / 2 ^ i : Nat) : Int) := by simp
  rw [h]
  have h2 := Nat.div_le_self n (2 ^ i)
  generalize n / 2 ^ i = y at h2 ⊢
  exact and_one _ (by omega) (by omega)
theorem bit_eq1 (n i : Nat) : (((n : Int) / 2 ^ i) % 2 == 1) = n.testBit i := by
  rw [Nat.testBit_eq_decide_div_mod_eq]
  have e : ((n : Int) / 2 ^ i) % 2 = ((n / 2 ^ i % 2 : Nat) : Int) := by simp
  rw [e]
  by_cases h : n / 2 ^ i % 2 = 1
  · rw [h]; rfl
  · have : n / 2 ^ i % 2 = 0 := by omega
    rw [this]; rfl
set_option maxHeartbeats 1000000 in
theorem rlead_calls (n : Nat) (w : World) (hn : n < 18446744073709551616) :
    Calls Tryd.prog 67 #[.int .u64 n] w fun e w' => e = .returned (.int .i64 (64 - (Lib.bitLen n : Int))) ∧ w = w' := by
  have HN := Lib.hid hn
  clear hn
  go_enter Tryd.func67, Tryd.ntmps67
  go_wp2
  go_loopg [4] 64 (fun kq s4 wr => w = wr ∧ ∃ k : Nat, k + kq = 64 ∧ s4 = .int .i64 k ∧ Hid (n < 2 ^ (64 - k)))
  case atStart => exact ⟨rfl, 0, by omega, rfl, HN.out⟩
  case round =>
    obtain ⟨rfl, k, hk, rfl, hlt⟩ := hrel
    by_cases hk64 : k < 64
    · obtain ⟨i, hi⟩ : ∃ i, i = 63 - k := ⟨_, rfl⟩
      have e1 : (63 - (k : Int)).toNat = i := by omega
      have e2 : (0 : Int) ≤ 63 - (k : Int) := by omega
      have hb := half_bit n i (by rw [hi, show 63 - k + 1 = 64 - k by omega]; exact hlt.out)
      have HBB := Lib.hid hb
      have HI := Lib.hid hi
      have e3 := bit_and1 n i HN.out
      obtain ⟨b, hbb⟩ : ∃ b, b = n.testBit i := ⟨_, rfl⟩
      have e4 : ((n : Int) / 2 ^ i % 2 == 1) = b := by rw [bit_eq1, hbb]
      have HB2 := Lib.hid hbb
      clear hb hi hbb
      cases b with
      | true =>
        go_wp2_with fail
        go_ret
        have hi := HI.out
        have h1 := HBB.out.2 HB2.out.symm
        have h2 := bitLen_is n i h1 (by rw [hi, show 63 - k + 1 = 64 - k by omega]; exact hlt.out) (by omega)
        refine ⟨congrArg Ending.returned (congrArg (Value.int IntKind.i64) ?_), rfl⟩
        rw [h2]
        omega
      | false =>
        go_wp2_with fail
        go_roundg (gk - 1)
        case measure => omega
        case rel =>
          refine ⟨rfl, k + 1, by omega, by go_num, ?_⟩
          show n < 2 ^ (64 - (k + 1))
          have h := HBB.out.1 HB2.out.symm
          have hi := HI.out
          rw [hi] at h
          rwa [show 64 - (k + 1) = 63 - k by omega]
    · have hke : k = 64 := by omega
      subst hke
      go_wp2_with fail
      go_ret
      have h0 : n = 0 := by have := hlt.out; simpa using this
      refine ⟨?_, rfl⟩
      rw [h0, bitLen_zero]
      rfl
set_option maxHeartbeats 1000000 in
theorem rtrail_calls (n : Nat) (w : World) (hn : n < 18446744073709551616) :
    Calls Tryd.prog 68 #[.int .u64 n] w fun e w' => e = .returned (.int .i64 (Lib.ctz 64 n)) ∧ w = w' := by
  have HN := Lib.hid hn
  clear hn
  go_enter Tryd.func68, Tryd.ntmps68
  go_wp2
  go_loopg [4] 64 (fun kq s4 wr => w = wr ∧ ∃ k : Nat, k + kq = 64 ∧ s4 = .int .i64 k ∧ Hid (n % 2 ^ k = 0))
  case atStart => exact ⟨rfl, 0, by omega, rfl, Nat.mod_one n⟩
  case round =>
    obtain ⟨rfl, k, hk, rfl, hlt⟩ := hrel
    by_cases hk64 : k < 64
    · have e3 := bit_and1 n k HN.out
      obtain ⟨b, hbb⟩ : ∃ b, b = n.testBit k := ⟨_, rfl⟩
      have e4 : ((n : Int) / 2 ^ k % 2 == 1) = b := by rw [bit_eq1, hbb]
      have HB2 := Lib.hid hbb
      clear hbb
      cases b with
      | true =>
        go_wp2_with fail
        go_ret
        have h2 := ctz_is n k HN.out hlt.out HB2.out.symm
        exact ⟨by rw [h2]; rfl, rfl⟩
      | false =>
        go_wp2_with fail
        go_roundg (gk - 1)
        case measure => omega
        case rel => exact ⟨rfl, k + 1, by omega, by go_num, mod_next n k hlt.out HB2.out.symm⟩
    · have hke : k = 64 := by omega
      subst hke
      go_wp2_with fail
      go_ret
      have h0 : n = 0 := by
        have h1 := hlt.out
        have h2 := HN.out
        rw [Nat.mod_eq_of_lt (by simpa using h2)] at h1
        exact h1
      refine ⟨?_, rfl⟩
      rw [h0, ctz_zero]
      rfl
theorem tz_core (n c idx : Nat) (w : World) (hx0 : ((n : Int) == 0) = false)
    (key : IntKind.u64.wrap (bits BinOp.and IntKind.u64 (n : Int) (IntKind.u64.wrap (-(n : Int))) * 285870213051353865) / 288230376151711744 = (idx : Int))
    (hi : idx < 64) (hk : c < 64) (hcell : w.cell? ⟨0, idx, none⟩ = some (.int .u8 c)) :
    Calls Tryd.prog 76 #[.int .u64 n] w fun e w' => e = .returned (.int .i64 c) ∧ w' = w := by
  go_enter Tryd.func76, Tryd.ntmps76
  go_wp2_with (simp only [key])
  go_ret
  exact ⟨rfl, rfl⟩
theorem tz_zero (w : World) : Calls Tryd.prog 76 #[.int .u64 0] w fun e w' => e = .returned (.int .i64 64) ∧ w' = w := by
  go_enter Tryd.func76, Tryd.ntmps76
  go_wp2
  go_ret
  exact ⟨rfl, rfl⟩
theorem tz_calls (n : Nat) (w : World) (hn : n < 18446744073709551616) (hT : TabAt 0 Lib.deBruijn64tab w) :
    Calls Tryd.prog 76 #[.int .u64 n] w fun e w' => e = .returned (.int .i64 (Lib.ctz 64 n)) ∧ w' = w := by
  by_cases h0 : n = 0
  · subst h0
    exact tz_zero w
  · obtain ⟨hlow, hk⟩ := Lib.lowest_bit 64 n h0 hn
    obtain ⟨hi, htab⟩ := Lib.deBruijn64_at _ hk
    have hcell := hT _ hi
    rw [htab] at hcell
    exact tz_core n _ _ w (by simp; omega) (tz64_key n _ hn h0 hlow) hi hk hcell
theorem trail_calls (n : Nat) (w : World) (hn : n < 18446744073709551616) (hT : TabAt 0 Lib.deBruijn64tab w) :
    Calls Tryd.prog 74 #[.int .u64 n] w fun e w' => e = .returned (.int .i64 (Lib.ctz 64 n)) ∧ w = w' := by
  have HT := Lib.hid hT
  clear hT
  go_enter Tryd.func74, Tryd.ntmps74
  go_wp2_with (go_at_call 76; refine (tz_calls n _ hn HT.out).mono ?_; rintro e w' ⟨rfl, rfl⟩)
  go_ret
  exact ⟨rfl, rfl⟩
end Go.Proofs.YtmllgglcdlcdhaaDoor
end
section
namespace Go.Proofs.YtmllgglcdlcdhaaDoor.Xs
open Go Go.RowKit Go.Proofs.YtmllgglcdlcdhaaDoor Bq
set_option linter.unusedVariables false
theorem leadX_is (x : Nat) (h0 : x ≠ 0) (hx : x < 2 ^ 64) : leadX x = min (64 - Lib.bitLen x) 31 := by
  have h1 : Nat.log2 x < 64 := (Nat.log2_lt h0).2 hx
  rw [bitLen_is x (Nat.log2 x) (Nat.log2_self_le h0) Nat.lt_log2_self h1]
  unfold leadX
  omega
theorem tz_odd : ∀ (f x : Nat), x ≠ 0 → x < 2 ^ f → x / 2 ^ tz f x % 2 = 1
  | 0, x, h0, hx => absurd hx (by simp; omega)
  | f + 1, x, h0, hx => by
    unfold tz
    by_cases h : x % 2 = 1
    · rw [if_pos h]; simpa using h
    · rw [if_neg h, Nat.add_comm, Nat.pow_succ, Nat.mul_comm, ← Nat.div_div_eq_div_mul]
      exact tz_odd f (x / 2) (by omega) (by rw [Nat.pow_succ] at hx; omega)
theorem trailX_is (x : Nat) (h0 : x ≠ 0) (hx : x < 2 ^ 64) : trailX x = Lib.ctz 64 x := by
  refine (ctz_is x (trailX x) hx (Nat.mod_eq_zero_of_dvd (tz_dvd 64 x)) ?_).symm
  rw [Nat.testBit_eq_decide_div_mod_eq]
  exact decide_eq_true (tz_odd 64 x h0 hx)
end Go.Proofs.YtmllgglcdlcdhaaDoor.Xs
end
section
namespace Go.Proofs.YtmllgglcdlcdhaaDoor
open Go Go.RowKit Go.Proofs.YtmllgglcdlcdhaaDoorW.PrintWords Go.Proofs.YtmllgglcdlcdhaaDoorW.PrintMore Go.Proofs.YtmllgglcdlcdhaaDoorW.PrintLast Bq Xs
set_option linter.unusedVariables false
set_option maxRecDepth 100000
set_option linter.unusedSimpArgs false
attribute [local go_sem ↓] Go.wp_at_zero Go.wp_at_succ
abbrev pkCells (g : Nat) (s : St) : Array Value := #[.pointer (some ⟨g, 0, none⟩), .int .i64 (s.n : Nat), .int .i64 s.t, .int .u64 (s.v : Nat), .int .u64 (s.step : Nat), .int .i64 (s.w.lead : Nat), .int .i64 (s.w.trail : Nat), .bool s.w.set]
structure Pk (w0 w : World) (ok : Nat → Prop) (p g : Nat) (bs : List Bool) (s : St) : Prop where
  blk : w.heap[p]? = some (.cells (pkCells g s) 88 (0, 0))
  wr : Wr w ok g bs
  okp : ¬ ok p
  fr : ∀ k, w.heap.size ≤ k → ok k
  lo : ∀ k, ok k → w0.heap.size ≤ k
  lp : w0.heap.size ≤ p
  bel : Below w0.heap.size w0 w
theorem Pk.drewN {w0 w : World} {ok : Nat → Prop} {p g : Nat} {bs : List Bool} {s : St} (h : Pk w0 w ok p g bs s) (n : Nat) : Pk w0 (w.drewN n) ok p g bs s :=
  ⟨h.blk, h.wr.drewN n, h.okp, h.fr, h.lo, h.lp, pw_below_drewN h.bel n⟩
theorem Pk.ptr {w0 w : World} {ok : Nat → Prop} {p g : Nat} {bs : List Bool} {s : St} (h : Pk w0 w ok p g bs s) : w.cell? ⟨p, 0, none⟩ = some (.pointer (some ⟨g, 0, none⟩)) := (blk_cell h.blk 0).trans rfl
theorem wr_put (w : World) (ok : Nat → Prop) (g : Nat) (bs : List Bool) (n width : Nat) (h : Wr w ok g bs) (hn : n < 18446744073709551616) (hw : width ≤ 64) (hx : width = 64 ∨ n < 2 ^ width) (hl : bs.length + width ≤ 8388608) :
    Calls Tryd.prog 45 #[.pointer (some ⟨g, 0, none⟩), .int .u64 (n : Nat), .int .i64 (width : Nat)] w fun e w' => e = .returned (.int .i64 0) ∧ Wr w' (fun k => ok k ∨ w.heap.size ≤ k) g (bs ++ nb n width) ∧ Mod ok w w' := by
  have hb : badW (width : Nat) n = false := by
    unfold badW
    rw [decide_eq_false (by omega), decide_eq_false (show ¬ (64 : Int) < (width : Nat) by omega)]
    rcases hx with hx | hx
    · rw [decide_eq_false (show ¬ ((width : Nat) : Int) < 64 by omega)]; rfl
    · rw [Int.toNat_natCast, Nat.div_eq_of_lt hx]; simp
  have hE : putE bs.length (width : Nat) n = 0 := by
    unfold putE
    rw [hb, if_neg (by decide), if_neg (by omega)]
  refine (put_calls w ok g bs n (width : Nat) h (by omega) hn (by omega) (by omega)).mono ?_
  rintro e w' ⟨rfl, h1, h2⟩
  unfold putBits at h1
  rw [if_pos hE, Int.toNat_natCast] at h1
  exact ⟨by rw [hE], h1, h2⟩
theorem Pk.put {w0 w : World} {ok : Nat → Prop} {p g : Nat} {bs : List Bool} {s : St} (h : Pk w0 w ok p g bs s) (n width : Nat) (hn : n < 18446744073709551616) (hw : width ≤ 64) (hx : width = 64 ∨ n < 2 ^ width) (hl : bs.length + width ≤ 8388608) :
    Calls Tryd.prog 45 #[.pointer (some ⟨g, 0, none⟩), .int .u64 (n : Nat), .int .i64 (width : Nat)] w fun e w' => e = .returned (.int .i64 0) ∧ Pk w0 w' ok p g (bs ++ nb n width) s ∧ Mod ok w w' := by
  refine (wr_put w ok g bs n width h.wr hn hw hx hl).mono ?_
  rintro e w' ⟨rfl, h1, h2⟩
  exact ⟨rfl, ⟨h2.blk h.blk h.okp, h1.mono (fun k hk => hk.elim id (h.fr k)), h.okp, fun k hk => h.fr k (Nat.le_trans h2.size hk), h.lo, h.lp, h.bel.trans (h2.below h.bel.size h.lo)⟩, h2⟩
theorem wr_putI (w : World) (ok : Nat → Prop) (g : Nat) (bs : List Bool) (N V : Int) (n width : Nat) (eN : N = (n : Nat)) (eV : V = (width : Nat)) (h : Wr w ok g bs) (hn : n < 18446744073709551616) (hw : width ≤ 64) (hx : width = 64 ∨ n < 2 ^ width) (hl : bs.length + width ≤ 8388608) :
    Calls Tryd.prog 45 #[.pointer (some ⟨g, 0, none⟩), .int .u64 N, .int .i64 V] w fun e w' => e = .returned (.int .i64 0) ∧ Wr w' (fun k => ok k ∨ w.heap.size ≤ k) g (bs ++ nb n width) ∧ Mod ok w w' := by
  subst eN eV
  exact wr_put w ok g bs n width h hn hw hx hl
theorem Pk.putI {w0 w : World} {ok : Nat → Prop} {p g : Nat} {bs : List Bool} {s : St} (h : Pk w0 w ok p g bs s) (N V : Int) (n width : Nat) (eN : N = (n : Nat)) (eV : V = (width : Nat)) (hn : n < 18446744073709551616) (hw : width ≤ 64) (hx : width = 64 ∨ n < 2 ^ width) (hl : bs.length + width ≤ 8388608) :
    Calls Tryd.prog 45 #[.pointer (some ⟨g, 0, none⟩), .int .u64 N, .int .i64 V] w fun e w' => e = .returned (.int .i64 0) ∧ Pk w0 w' ok p g (bs ++ nb n width) s ∧ Mod ok w w' := by
  subst eN eV
  exact h.put n width hn hw hx hl
theorem Pk.window {w0 w : World} {ok : Nat → Prop} {p g : Nat} {bs : List Bool} {s : St} (h : Pk w0 w ok p g bs s) (L T : Nat) :
    Pk w0 (((w.setCell ⟨p, 5, none⟩ (.int .i64 (L : Nat))).setCell ⟨p, 6, none⟩ (.int .i64 (T : Nat))).setCell ⟨p, 7, none⟩ (.bool true)) ok p g bs ⟨s.n, s.t, s.v, s.step, ⟨true, L, T⟩⟩ ∧ Mod (fun k => k = p) w (((w.setCell ⟨p, 5, none⟩ (.int .i64 (L : Nat))).setCell ⟨p, 6, none⟩ (.int .i64 (T : Nat))).setCell ⟨p, 7, none⟩ (.bool true)) := by
  have hm : Mod (fun k => k = p) w (((w.setCell ⟨p, 5, none⟩ (.int .i64 (L : Nat))).setCell ⟨p, 6, none⟩ (.int .i64 (T : Nat))).setCell ⟨p, 7, none⟩ (.bool true)) :=
    (((Mod.refl (fun k => k = p) w).setCell (p := ⟨p, 5, none⟩) (.inl rfl) _).setCell (p := ⟨p, 6, none⟩) (.inl rfl) _).setCell (p := ⟨p, 7, none⟩) (.inl rfl) _
  exact ⟨⟨blk_put (blk_put (blk_put h.blk 5 _ rfl) 6 _ rfl) 7 _ rfl, h.wr.kept hm (fun k ho _ e => h.okp (e ▸ ho)), h.okp, fun k hk => h.fr k (Nat.le_trans hm.size hk), h.lo, h.lp, h.bel.trans (hm.below h.bel.size (fun k e => by rw [e]; exact h.lp))⟩, hm⟩
theorem Pk.last {w0 w : World} {ok : Nat → Prop} {p g : Nat} {bs : List Bool} {s : St} (h : Pk w0 w ok p g bs s) (n v step : Nat) (t : Int) :
    Pk w0 ((((w.setCell ⟨p, 4, none⟩ (.int .u64 (step : Nat))).setCell ⟨p, 2, none⟩ (.int .i64 t)).setCell ⟨p, 3, none⟩ (.int .u64 (v : Nat))).setCell ⟨p, 1, none⟩ (.int .i64 (n : Nat))) ok p g bs ⟨n, t, v, step, s.w⟩ := by
  have hm : Mod (fun k => k = p) w ((((w.setCell ⟨p, 4, none⟩ (.int .u64 (step : Nat))).setCell ⟨p, 2, none⟩ (.int .i64 t)).setCell ⟨p, 3, none⟩ (.int .u64 (v : Nat))).setCell ⟨p, 1, none⟩ (.int .i64 (n : Nat))) :=
    ((((Mod.refl (fun k => k = p) w).setCell (p := ⟨p, 4, none⟩) (.inl rfl) _).setCell (p := ⟨p, 2, none⟩) (.inl rfl) _).setCell (p := ⟨p, 3, none⟩) (.inl rfl) _).setCell (p := ⟨p, 1, none⟩) (.inl rfl) _
  exact ⟨blk_put (blk_put (blk_put (blk_put h.blk 4 _ rfl) 2 _ rfl) 3 _ rfl) 1 _ rfl, h.wr.kept hm (fun k ho _ e => h.okp (e ▸ ho)), h.okp, fun k hk => h.fr k (Nat.le_trans hm.size hk), h.lo, h.lp, h.bel.trans (hm.below h.bel.size (fun k e => by rw [e]; exact h.lp))⟩
set_option maxHeartbeats 2000000 in
theorem change_calls (w0 w : World) (ok : Nat → Prop) (p g : Nat) (bs : List Bool) (s : St) (d : Int) (hd : -9223372036854775808 ≤ d ∧ d ≤ 9223372036854775807) (h : Pk w0 w ok p g bs s) (hl : bs.length + 68 ≤ 8388608) :
    Calls Tryd.prog 66 #[.pointer (some ⟨p, 0, none⟩), .int .i64 d] w fun e w' => e = .returned (.tuple #[]) ∧ Pk w0 w' ok p g (bs ++ changeB d) s ∧ Mod ok w w' := by
  have c0 := h.ptr
  have H := Lib.hid h
  clear h
  obtain ⟨u, hu⟩ : ∃ u : Nat, u = u64 d := ⟨_, rfl⟩
  have hu2 : u < 18446744073709551616 := by rw [hu]; exact u64_lt d
  have hw : IntKind.u64.wrap d = (u : Int) := by rw [hu]; exact wrapu d
  by_cases h0 : d = 0
  · have HE : Hid (changeB d = nb 0 1) := by unfold Hid changeB; rw [if_pos h0]
    subst h0
    clear hw hu
    go_enter Tryd.func66, Tryd.ntmps66
    go_wp2_with fail
    refine (H.out.put 0 1 (by decide) (by decide) (by decide) (by omega)).mono ?_
    rintro e w1 ⟨rfl, h1, m1⟩
    have H1 := Lib.hid h1
    have M1 := Lib.hid m1
    clear h1 m1
    go_wp2_with fail
    go_end0
    exact ⟨rfl, by rw [HE.out]; exact H1.out, M1.out⟩
  · have hb0 : (d == 0) = false := beq_false_of_ne h0
    by_cases h1 : -8191 ≤ d ∧ d ≤ 8192
    · have HE : Hid (changeB d = nb 2 2 ++ nb u 14) := by unfold Hid changeB; rw [if_neg h0, if_pos h1, ← hu]
      obtain ⟨h1a, h1b⟩ := h1
      obtain ⟨q, hq⟩ : ∃ q : Nat, q = u % 16384 := ⟨_, rfl⟩
      have hq2 : q < 2 ^ 14 := by omega
      have ha : bits .and .u64 (u : Int) 16383 = (q : Int) := by rw [hq]; exact and_mask u 14 hu2 (by decide)
      have HQ : Hid (nb q 14 = nb u 14) := by unfold Hid; rw [hq]; exact nb_mod u 14
      clear hu hq
      go_enter Tryd.func66, Tryd.ntmps66
      go_wp2_with fail
      refine (H.out.put 2 2 (by decide) (by decide) (by decide) (by omega)).mono ?_
      rintro e w1 ⟨rfl, h1, m1⟩
      have H1 := Lib.hid h1
      have M1 := Lib.hid m1
      have c1 := h1.ptr
      clear h1 m1
      go_wp2_with fail
      refine (H1.out.put q 14 (by omega) (by decide) (.inr hq2) (by rw [List.length_append, nb_length]; omega)).mono ?_
      rintro e w2 ⟨rfl, h2, m2⟩
      have H2 := Lib.hid h2
      have M2 := Lib.hid m2
      clear h2 m2
      go_wp2_with fail
      go_end0
      refine ⟨rfl, ?_, M1.out.trans M2.out (fun _ _ h => h)⟩
      rw [HE.out, ← HQ.out, ← List.append_assoc]
      exact H2.out
    · have n0 := h1
      clear h1
      have t0 : (d ≥ -8191 ∧ ¬ d ≤ 8192) ∨ ¬ d ≥ -8191 := by omega
      by_cases h1 : -65535 ≤ d ∧ d ≤ 65536
      · have HE : Hid (changeB d = nb 6 3 ++ nb u 17) := by unfold Hid changeB; rw [if_neg h0, if_neg n0, if_pos h1, ← hu]
        obtain ⟨h1a, h1b⟩ := h1
        obtain ⟨q, hq⟩ : ∃ q : Nat, q = u % 131072 := ⟨_, rfl⟩
        have hq2 : q < 2 ^ 17 := by omega
        have ha : bits .and .u64 (u : Int) 131071 = (q : Int) := by rw [hq]; exact and_mask u 17 hu2 (by decide)
        have HQ : Hid (nb q 17 = nb u 17) := by unfold Hid; rw [hq]; exact nb_mod u 17
        clear hu hq
        rcases t0 with ⟨e1, e2⟩ | e1
        · go_enter Tryd.func66, Tryd.ntmps66
          go_wp2_with fail
          refine (H.out.put 6 3 (by decide) (by decide) (by decide) (by omega)).mono ?_
          rintro e w1 ⟨rfl, h1, m1⟩
          have H1 := Lib.hid h1
          have M1 := Lib.hid m1
          have c1 := h1.ptr
          clear h1 m1
          go_wp2_with fail
          refine (H1.out.put q 17 (by omega) (by decide) (.inr hq2) (by rw [List.length_append, nb_length]; omega)).mono ?_
          rintro e w2 ⟨rfl, h2, m2⟩
          have H2 := Lib.hid h2
          have M2 := Lib.hid m2
          clear h2 m2
          go_wp2_with fail
          go_end0
          refine ⟨rfl, ?_, M1.out.trans M2.out (fun _ _ h => h)⟩
          rw [HE.out, ← HQ.out, ← List.append_assoc]
          exact H2.out
        · go_enter Tryd.func66, Tryd.ntmps66
          go_wp2_with fail
          refine (H.out.put 6 3 (by decide) (by decide) (by decide) (by omega)).mono ?_
          rintro e w1 ⟨rfl, h1, m1⟩
          have H1 := Lib.hid h1
          have M1 := Lib.hid m1
          have c1 := h1.ptr
          clear h1 m1
          go_wp2_with fail
          refine (H1.out.put q 17 (by omega) (by decide) (.inr hq2) (by rw [List.length_append, nb_length]; omega)).mono ?_
          rintro e w2 ⟨rfl, h2, m2⟩
          have H2 := Lib.hid h2
          have M2 := Lib.hid m2
          clear h2 m2
          go_wp2_with fail
          go_end0
          refine ⟨rfl, ?_, M1.out.trans M2.out (fun _ _ h => h)⟩
          rw [HE.out, ← HQ.out, ← List.append_assoc]
          exact H2.out
      · have n1 := h1
        clear h1
        have t1 : (d ≥ -65535 ∧ ¬ d ≤ 65536) ∨ ¬ d ≥ -65535 := by omega
        by_cases h1 : -524287 ≤ d ∧ d ≤ 524288
        · have HE : Hid (changeB d = nb 14 4 ++ nb u 20) := by unfold Hid changeB; rw [if_neg h0, if_neg n0, if_neg n1, if_pos h1, ← hu]
          obtain ⟨h1a, h1b⟩ := h1
          obtain ⟨q, hq⟩ : ∃ q : Nat, q = u % 1048576 := ⟨_, rfl⟩
          have hq2 : q < 2 ^ 20 := by omega
          have ha : bits .and .u64 (u : Int) 1048575 = (q : Int) := by rw [hq]; exact and_mask u 20 hu2 (by decide)
          have HQ : Hid (nb q 20 = nb u 20) := by unfold Hid; rw [hq]; exact nb_mod u 20
          clear hu hq
          rcases t1 with ⟨e1, e2⟩ | e1
          · have f0a : d ≥ -8191 := by omega
            have f0b : ¬ d ≤ 8192 := by omega
            clear t0
            go_enter Tryd.func66, Tryd.ntmps66
            go_wp2_with fail
            refine (H.out.put 14 4 (by decide) (by decide) (by decide) (by omega)).mono ?_
            rintro e w1 ⟨rfl, h1, m1⟩
            have H1 := Lib.hid h1
            have M1 := Lib.hid m1
            have c1 := h1.ptr
            clear h1 m1
            go_wp2_with fail
            refine (H1.out.put q 20 (by omega) (by decide) (.inr hq2) (by rw [List.length_append, nb_length]; omega)).mono ?_
            rintro e w2 ⟨rfl, h2, m2⟩
            have H2 := Lib.hid h2
            have M2 := Lib.hid m2
            clear h2 m2
            go_wp2_with fail
            go_end0
            refine ⟨rfl, ?_, M1.out.trans M2.out (fun _ _ h => h)⟩
            rw [HE.out, ← HQ.out, ← List.append_assoc]
            exact H2.out
          · have f0a : ¬ d ≥ -8191 := by omega
            clear t0
            go_enter Tryd.func66, Tryd.ntmps66
            go_wp2_with fail
            refine (H.out.put 14 4 (by decide) (by decide) (by decide) (by omega)).mono ?_
            rintro e w1 ⟨rfl, h1, m1⟩
            have H1 := Lib.hid h1
            have M1 := Lib.hid m1
            have c1 := h1.ptr
            clear h1 m1
            go_wp2_with fail
            refine (H1.out.put q 20 (by omega) (by decide) (.inr hq2) (by rw [List.length_append, nb_length]; omega)).mono ?_
            rintro e w2 ⟨rfl, h2, m2⟩
            have H2 := Lib.hid h2
            have M2 := Lib.hid m2
            clear h2 m2
            go_wp2_with fail
            go_end0
            refine ⟨rfl, ?_, M1.out.trans M2.out (fun _ _ h => h)⟩
            rw [HE.out, ← HQ.out, ← List.append_assoc]
            exact H2.out
        · have n2 := h1
          clear h1
          have t2 : (d ≥ -524287 ∧ ¬ d ≤ 524288) ∨ ¬ d ≥ -524287 := by omega
          have HE : Hid (changeB d = nb 15 4 ++ nb u 64) := by unfold Hid changeB; rw [if_neg h0, if_neg n0, if_neg n1, if_neg n2, ← hu]
          clear hu n0 n1 n2
          rcases t2 with ⟨e1, e2⟩ | e1
          · have d3 : d ≥ -65535 := by omega
            have d4 : ¬ d ≤ 65536 := by omega
            have d5 : d ≥ -8191 := by omega
            have d6 : ¬ d ≤ 8192 := by omega
            clear t0 t1
            go_enter Tryd.func66, Tryd.ntmps66
            go_wp2_with fail
            refine (H.out.put 15 4 (by decide) (by decide) (by decide) (by omega)).mono ?_
            rintro e w1 ⟨rfl, h1, m1⟩
            have H1 := Lib.hid h1
            have M1 := Lib.hid m1
            have c1 := h1.ptr
            clear h1 m1
            go_wp2_with fail
            refine (H1.out.put u 64 (by omega) (by decide) (.inl rfl) (by rw [List.length_append, nb_length]; omega)).mono ?_
            rintro e w2 ⟨rfl, h2, m2⟩
            have H2 := Lib.hid h2
            have M2 := Lib.hid m2
            clear h2 m2
            go_wp2_with fail
            go_end0
            refine ⟨rfl, ?_, M1.out.trans M2.out (fun _ _ h => h)⟩
            rw [HE.out, ← List.append_assoc]
            exact H2.out
          · have d3 : ¬ d ≥ -65535 := by omega
            have d5 : ¬ d ≥ -8191 := by omega
            clear t0 t1
            go_enter Tryd.func66, Tryd.ntmps66
            go_wp2_with fail
            refine (H.out.put 15 4 (by decide) (by decide) (by decide) (by omega)).mono ?_
            rintro e w1 ⟨rfl, h1, m1⟩
            have H1 := Lib.hid h1
            have M1 := Lib.hid m1
            have c1 := h1.ptr
            clear h1 m1
            go_wp2_with fail
            refine (H1.out.put u 64 (by omega) (by decide) (.inl rfl) (by rw [List.length_append, nb_length]; omega)).mono ?_
            rintro e w2 ⟨rfl, h2, m2⟩
            have H2 := Lib.hid h2
            have M2 := Lib.hid m2
            clear h2 m2
            go_wp2_with fail
            go_end0
            refine ⟨rfl, ?_, M1.out.trans M2.out (fun _ _ h => h)⟩
            rw [HE.out, ← List.append_assoc]
            exact H2.out
end Go.Proofs.YtmllgglcdlcdhaaDoor
end
section
namespace Go.Proofs.YtmllgglcdlcdhaaDoor
open Go.RowKit Go.Proofs.YtmllgglcdlcdhaaDoorW.PrintWords Go.Proofs.YtmllgglcdlcdhaaDoorW.PrintMore Bq
set_option linter.unusedVariables false
set_option maxRecDepth 100000
set_option linter.unusedSimpArgs false
attribute [local go_sem ↓] Go.wp_at_zero Go.wp_at_succ
structure RdB (w : World) (ok : Nat → Prop) (g : Nat) (at_ n : Nat) (v : Value) (xs : List Int) : Prop where
  blk : w.heap[g]? = some (.cells #[.bool true, .int .i64 at_, .int .i64 n, v] 98 (0, 0))
  row : (Kd.int .u8).R 5 w 0 ok v xs
  okg : ok g
  le : at_ ≤ n
  le8 : n ≤ 8 * xs.length
  byts : Byts xs
  small : xs.length ≤ 1000000000000
def Rd (w : World) (ok : Nat → Prop) (g : Nat) (rem : List Bool) : Prop := ∃ at_ n v xs, RdB w ok g at_ n v xs ∧ rem = (bitsOf xs n).drop at_
theorem RdB.drewN {w : World} {ok : Nat → Prop} {g at_ n : Nat} {v : Value} {xs : List Int} (h : RdB w ok g at_ n v xs) (m : Nat) : RdB (w.drewN m) ok g at_ n v xs :=
  ⟨h.blk, Kd.R_drewN h.row m, h.okg, h.le, h.le8, h.byts, h.small⟩
theorem RdB.drew {w : World} {ok : Nat → Prop} {g at_ n : Nat} {v : Value} {xs : List Int} (h : RdB w ok g at_ n v xs) : RdB w.drew ok g at_ n v xs :=
  ⟨h.blk, Kd.R_drew h.row, h.okg, h.le, h.le8, h.byts, h.small⟩
theorem RdB.kept {w w1 : World} {ok S : Nat → Prop} {g at_ n : Nat} {v : Value} {xs : List Int} (h : RdB w ok g at_ n v xs) (hm : Mod S w w1) (hs : ∀ k, ok k → k < w.heap.size → ¬ S k) : RdB w1 ok g at_ n v xs :=
  ⟨hm.blk h.blk (hs g h.okg (blk_lt h.blk)), Kd.R_step h.row (fun k ho hk => hm.block k hk (hs k ho hk)), h.okg, h.le, h.le8, h.byts, h.small⟩
theorem Rd.kept {w w1 : World} {ok S : Nat → Prop} {g : Nat} {rem : List Bool} (h : Rd w ok g rem) (hm : Mod S w w1) (hs : ∀ k, ok k → k < w.heap.size → ¬ S k) : Rd w1 ok g rem := by
  obtain ⟨a, n, v, xs, h1, h2⟩ := h
  exact ⟨a, n, v, xs, h1.kept hm hs, h2⟩
theorem Rd.bound {w : World} {ok : Nat → Prop} {g : Nat} {rem : List Bool} (h : Rd w ok g rem) : Rd w (fun k => ok k ∧ k < w.heap.size) g rem := by
  obtain ⟨a, n, v, xs, h1, h2⟩ := h
  exact ⟨a, n, v, xs, ⟨h1.blk, Kd.R_mono (Kd.R_bound h1.row) (fun k hk => ⟨hk.1, hk.2.2.1⟩), ⟨h1.okg, blk_lt h1.blk⟩, h1.le, h1.le8, h1.byts, h1.small⟩, h2⟩
theorem Rd.mono {w : World} {ok ok' : Nat → Prop} {g : Nat} {rem : List Bool} (h : Rd w ok g rem) (hs : ∀ k, ok k → ok' k) : Rd w ok' g rem := by
  obtain ⟨a, n, v, xs, h1, h2⟩ := h
  exact ⟨a, n, v, xs, ⟨h1.blk, Kd.R_mono h1.row hs, hs g h1.okg, h1.le, h1.le8, h1.byts, h1.small⟩, h2⟩
theorem rok_made (w : World) (g : Nat) (b : Bool) (a n : Int) (v : Value) (hg : w.heap[g]? = some (.cells #[.bool b, .int .i64 a, .int .i64 n, v] 98 (0, 0))) :
    Calls Tryd.prog 69 #[.pointer (some ⟨g, 0, none⟩)] w fun e w' => e = .returned (.bool b) ∧ w = w' := by
  have h0 : w.cell? ⟨g, 0, none⟩ = some (.bool b) := (blk_cell hg 0).trans rfl
  go_enter Tryd.func69, Tryd.ntmps69
  go_wp2
  go_ret
  exact ⟨rfl, rfl⟩
end Go.Proofs.YtmllgglcdlcdhaaDoor
end
section
namespace Go.Proofs.YtmllgglcdlcdhaaDoor
open Go.RowKit Go.Proofs.YtmllgglcdlcdhaaDoorW.PrintWords Go.Proofs.YtmllgglcdlcdhaaDoorW.PrintMore Bq
set_option linter.unusedVariables false
set_option maxRecDepth 100000
set_option linter.unusedSimpArgs false
attribute [local go_sem ↓] Go.wp_at_zero Go.wp_at_succ
def getE (rem : List Bool) (width : Int) : Int := if width < 0 ∨ 64 < width then 1 else if (rem.length : Int) < width then 6 else 0
def getN (rem : List Bool) (width : Int) : Int := if getE rem width = 0 then bnum (rem.take width.toNat) else 0
def getR (rem : List Bool) (width : Int) : List Bool := if getE rem width = 0 then rem.drop width.toNat else rem
theorem take_next (xs : List Int) (a n k : Nat) (h : a + k < n) : ((bitsOf xs n).drop a).take (k + 1) = ((bitsOf xs n).drop a).take k ++ [bitAt xs (a + k)] := by
  have hl : k < ((bitsOf xs n).drop a).length := by rw [List.length_drop, bitsOf_length]; omega
  rw [List.take_succ_eq_append_getElem hl, List.getElem_drop, bitsOf_get xs n (a + k) h]
theorem next_bit (xs : List Int) (o k c : Nat) (x : Int) (hk : k < 64) (ho : o < 2 ^ k) (hx0 : 0 ≤ x) (hx1 : x < 256) (hx : x = rdOf 0 xs ((c / 8 : Nat) : Int)) :
    bits .or .u64 (IntKind.u64.wrap ((o : Int) * 2)) (IntKind.u64.wrap (bits .and .u8 (x / 2 ^ (7 - c % 8)) 1)) = ((2 * o + (bitAt xs c).toNat : Nat) : Int) := by
  obtain ⟨y, rfl⟩ := Int.eq_ofNat_of_zero_le hx0
  have hp : (2 : Nat) ^ k ≤ 2 ^ 63 := Nat.pow_le_pow_right (by decide) (by omega)
  have hy : y / 2 ^ (7 - c % 8) < 256 := Nat.lt_of_le_of_lt (Nat.div_le_self _ _) (by omega)
  have e1 : ((y : Int) / 2 ^ (7 - c % 8)) = ((y / 2 ^ (7 - c % 8) : Nat) : Int) := by simp
  have hb : (bitAt xs c).toNat = y / 2 ^ (7 - c % 8) % 2 := by
    unfold bitAt
    have hy2 : xs.getD (c / 8) 0 = (y : Int) := by rw [hx]; unfold rdOf; rw [Int.toNat_natCast]
    rw [hy2, Int.toNat_natCast, Nat.toNat_testBit]
  rw [hb, e1]
  generalize y / 2 ^ (7 - c % 8) = m at *
  have e2 : bits .and .u8 (m : Int) 1 = (m : Int) % 2 := by
    have := bits_mask .u8 8 (by decide) wraps_u8 1 (by omega) (m : Int) (Int.natCast_nonneg _) (by omega)
    simpa using this
  rw [e2, wraps_u64 _ (by omega) (by omega), wraps_u64 _ (by omega) (by omega)]
  rw [bits_join .u64 64 (by decide) wraps_u64 1 _ _ (by omega) (by omega) (by omega) (by omega) (by omega) (by omega)]
  omega
theorem RdB.step {w0 w : World} {ok : Nat → Prop} {g c n gr cap : Nat} {xs : List Int} (h : RdB w ok g c n (.slice (some ⟨gr, 0, none⟩) xs.length cap) xs) (hm : Mod (fun k => k = g) w0 w) (hc : c < n) :
    RdB (w.setCell ⟨g, 1, none⟩ (.int .i64 ((c : Int) + 1))) ok g (c + 1) n (.slice (some ⟨gr, 0, none⟩) xs.length cap) xs ∧ Mod (fun k => k = g) w0 (w.setCell ⟨g, 1, none⟩ (.int .i64 ((c : Int) + 1))) :=
  ⟨⟨blk_set h.blk 1 (.int .i64 ((c : Int) + 1)), Kd.R_set h.row h.blk (by decide) 1 _, h.okg, hc, h.le8, h.byts, h.small⟩, hm.setCell (.inl rfl) _⟩
set_option maxHeartbeats 4000000 in
theorem get_calls (w : World) (ok : Nat → Prop) (g : Nat) (rem : List Bool) (width : Int) (hW : Rd w ok g rem)
    (hw1 : -9223372036854775808 ≤ width) (hw2 : width ≤ 9223372036854775807) :
    Calls Tryd.prog 52 #[.pointer (some ⟨g, 0, none⟩), .int .i64 width] w fun e w' =>
      e = .returned (.tuple #[.int .u64 (getN rem width), .int .i64 (getE rem width)]) ∧ Rd w' ok g (getR rem width) ∧ Mod (fun k => k = g) w w' := by
  obtain ⟨a, n, v, xs, h, hrem⟩ := hW
  have hlen : rem.length = n - a := by rw [hrem, List.length_drop, bitsOf_length]
  have hg := h.blk
  have hle := h.le
  have hle8 := h.le8
  have hsm := h.small
  have H := Lib.hid h
  have HREM := Lib.hid hrem
  have HLEN := Lib.hid hlen
  clear h hrem hlen
  have g1 : w.cell? ⟨g, 1, none⟩ = some (.int .i64 a) := (blk_cell hg 1).trans rfl
  have g2 : w.cell? ⟨g, 2, none⟩ = some (.int .i64 n) := (blk_cell hg 2).trans rfl
  have hsub : IntKind.i64.wrap ((n : Int) - a) = (n : Int) - a := IntWalk.i64_in _ (by omega)
  have hfin : ∀ x : Int, x = getE rem width → x ≠ 0 → Rd w ok g (getR rem width) ∧ Mod (fun k => k = g) w w ∧ getN rem width = 0 := by
    intro x hx h0
    unfold getR getN
    rw [if_neg (by rw [← hx]; exact h0), if_neg (by rw [← hx]; exact h0)]
    exact ⟨⟨a, n, v, xs, H.out, HREM.out⟩, Mod.refl _ _, rfl⟩
  have HF := Lib.hid hfin
  clear hfin
  by_cases h1 : width < 0
  · have hE : getE rem width = 1 := by unfold getE; rw [if_pos (Or.inl h1)]
    have HE := Lib.hid hE
    clear hE
    go_enter Tryd.func52, Tryd.ntmps52
    go_wp2_with (go_at_call 69; refine (rok_made _ _ _ _ _ _ hg).mono ?_; rintro e w' ⟨rfl, rfl⟩)
    go_ret2
    obtain ⟨b1, b2, b3⟩ := HF.out 1 HE.out.symm (by decide)
    exact ⟨by rw [HE.out, b3]; rfl, b1, b2⟩
  · by_cases h2 : 64 < width
    · have hE : getE rem width = 1 := by unfold getE; rw [if_pos (Or.inr h2)]
      have HE := Lib.hid hE
      clear hE
      go_enter Tryd.func52, Tryd.ntmps52
      go_wp2_with (go_at_call 69; refine (rok_made _ _ _ _ _ _ hg).mono ?_; rintro e w' ⟨rfl, rfl⟩)
      go_ret2
      obtain ⟨b1, b2, b3⟩ := HF.out 1 HE.out.symm (by decide)
      exact ⟨by rw [HE.out, b3]; rfl, b1, b2⟩
    · by_cases h3 : (n : Int) - a < width
      · have hd : decide ((n : Int) - a < width) = true := decide_eq_true h3
        have hE : getE rem width = 6 := by unfold getE; rw [if_neg (by omega), if_pos (by have := HLEN.out; omega)]
        have HE := Lib.hid hE
        clear hE
        go_enter Tryd.func52, Tryd.ntmps52
        go_wp2_with (go_at_call 69; refine (rok_made _ _ _ _ _ _ hg).mono ?_; rintro e w' ⟨rfl, rfl⟩)
        go_quiet (fail)
        go_wp2_with fail
        go_ret2
        obtain ⟨b1, b2, b3⟩ := HF.out 6 HE.out.symm (by decide)
        obtain ⟨a1, a2, a3, a4, a5, a6⟩ := b1
        exact ⟨by rw [HE.out, b3]; rfl, ⟨a1, a2, a3, a4, a5.drewN _, a6⟩, b2.drewN _⟩
      · have hd : decide ((n : Int) - a < width) = false := decide_eq_false h3
        have hE : getE rem width = 0 := by unfold getE; rw [if_neg (by omega), if_neg (by have := HLEN.out; omega)]
        have HE := Lib.hid hE
        clear hE
        obtain ⟨wd, hwd⟩ := Int.eq_ofNat_of_zero_le (show 0 ≤ width by omega)
        have hwd2 : wd ≤ 64 := by omega
        have hwd3 : a + wd ≤ n := by omega
        subst hwd
        have hb1 : decide ((wd : Int) < 0) = false := decide_eq_false (by omega)
        have hb2 : decide (64 < (wd : Int)) = false := decide_eq_false (by omega)
        go_enter Tryd.func52, Tryd.ntmps52
        go_wp2_with (go_at_call 69; refine (rok_made _ _ _ _ _ _ hg).mono ?_; rintro e w' ⟨rfl, rfl⟩)
        go_quiet (fail)
        go_wp2_with fail
        have hl0 := H.out.row
        clear g1 g2 hg hd hsub
        go_loopg [6, 28] wd (fun kq s6 s28 wr => ∃ k, k + kq = wd ∧ s28 = .int .i64 k ∧ s6 = .int .u64 (bnum (rem.take k)) ∧ RdB wr ok g (a + k) n v xs ∧ Mod (fun k => k = g) w wr)
        case atStart => exact ⟨0, by omega, rfl, rfl, H.out.drewN _, (Mod.refl _ _).drewN _⟩
        case round =>
          obtain ⟨k, hk, rfl, rfl, hr, hm⟩ := hrel
          have HM := Lib.hid hm
          have HR := Lib.hid hr
          clear hm hr hl0
          obtain ⟨o, ho⟩ : ∃ o, o = bnum (rem.take k) := ⟨_, rfl⟩
          have hob : o < 2 ^ k := by
            rw [ho]
            have := bnum_lt (rem.take k)
            have h2 : (rem.take k).length ≤ k := List.length_take_le _ _
            exact Nat.lt_of_lt_of_le this (Nat.pow_le_pow_right (by decide) h2)
          rw [← ho]
          have HO := Lib.hid ho
          have HOB := Lib.hid hob
          clear ho hob
          by_cases hz : gk = 0
          · subst hz
            have hkw : ¬ ((k : Int) < (wd : Int)) := by omega
            go_wp2_with fail
            go_ret2
            have hke : k = wd := by omega
            subst hke
            refine ⟨?_, ?_, HM.out⟩
            · unfold getN
              rw [if_pos HE.out, HE.out, Int.toNat_natCast, ← HO.out]
              rfl
            · unfold getR
              rw [if_pos HE.out, Int.toNat_natCast, HREM.out, List.drop_drop]
              exact ⟨_, _, _, _, HR.out, rfl⟩
          · have hkw : (k : Int) < (wd : Int) := by omega
            obtain ⟨c, hc⟩ : ∃ c, c = a + k := ⟨_, rfl⟩
            have hr2 := HR.out
            rw [← hc] at hr2
            have hcn : c < n := by omega
            have hc8 : c / 8 < xs.length := by have := hr2.le8; omega
            have hxb := hr2.byts
            have hsm2 := hr2.small
            obtain ⟨gr, cap, hv, _, hgr, _⟩ := Kd.R_form hr2.row (by omega)
            subst hv
            have hg := hr2.blk
            have g1 : wr.cell? ⟨g, 1, none⟩ = some (.int .i64 c) := (blk_cell hg 1).trans rfl
            have g3 : wr.cell? ⟨g, 3, none⟩ = some (.slice (some ⟨gr, 0, none⟩) xs.length cap) := (blk_cell hg 3).trans rfl
            have f1 := blk_frozen hg 1
            have r1 := (own_at_of (d := 0) (Kd.own_of_R hr2.row) (i := ((c / 8 : Nat) : Int)) (by omega) (by omega)).1
            rw [Int.toNat_natCast] at r1
            have hx0 : 0 ≤ rdOf 0 xs ((c / 8 : Nat) : Int) ∧ rdOf 0 xs ((c / 8 : Nat) : Int) < 256 := by
              unfold rdOf
              rw [Int.toNat_natCast, List.getD_eq_getElem?_getD, List.getElem?_eq_getElem hc8]
              exact hxb _ (List.getElem_mem hc8)
            obtain ⟨x, hx⟩ : ∃ x, x = rdOf 0 xs ((c / 8 : Nat) : Int) := ⟨_, rfl⟩
            rw [← hx] at r1 hx0
            obtain ⟨hx1, hx2⟩ := hx0
            have HX := Lib.hid hx
            have HC := Lib.hid hc
            have HR2 := Lib.hid hr2
            clear hx hc hr2 hxb
            have e1 : IntKind.i64.wrap ((c : Int) / 8) = (c : Int) / 8 := IntWalk.i64_in _ (by omega)
            have e2 : (0 : Int) ≤ (c : Int) / 8 := by omega
            have e3 : ((c : Int) / 8).toNat = c / 8 := by omega
            have e4 : (c : Int) / 8 < (xs.length : Int) := by omega
            have e5 : IntKind.i64.wrap (7 - (c : Int) % 8) = 7 - (c : Int) % 8 := IntWalk.i64_in _ (by omega)
            have e6 : (0 : Int) ≤ 7 - (c : Int) % 8 := by omega
            have e7 : (0 : Int) ≤ (c : Int) := by omega
            go_wp2_with fail
            go_quiet (fail)
            go_wp2_with fail
            go_roundg (gk - 1)
            case measure => omega
            case rel =>
              have hst := RdB.step (HR2.out.drewN nq) (HM.out.drewN nq) hcn
              refine ⟨k + 1, by omega, by go_num, ?_, by rw [← Nat.add_assoc, ← HC.out]; exact hst.1, hst.2⟩
              congr 1
              rw [next_bit xs o k c x (by omega) HOB.out hx1 (by omega) HX.out, HREM.out, take_next xs a n k (by rw [← HC.out]; exact hcn), bnum_snoc, ← HREM.out, ← HO.out, HC.out]
end Go.Proofs.YtmllgglcdlcdhaaDoor
end
section
namespace Go.Proofs.YtmllgglcdlcdhaaDoor
open Go.RowKit Go.Proofs.YtmllgglcdlcdhaaDoorW.PrintWords Go.Proofs.YtmllgglcdlcdhaaDoorW.PrintMore Bq
set_option linter.unusedVariables false
set_option maxRecDepth 100000
set_option linter.unusedSimpArgs false
attribute [local go_sem ↓] Go.wp_at_zero Go.wp_at_succ
theorem Rd.blk {w : World} {ok : Nat → Prop} {g : Nat} {rem : List Bool} (h : Rd w ok g rem) : ∃ cs, w.heap[g]? = some (.cells cs 98 (0, 0)) := by
  obtain ⟨a, n, v, xs, h1, h2⟩ := h
  exact ⟨_, h1.blk⟩
set_option maxHeartbeats 1000000 in
theorem newReader_ok (w : World) (A : Option Addr) (c : Nat) (xs : List Int) (n : Nat) (hC : (Kd.int .u8).C w A xs.length xs) (hs : xs.length ≤ 1000000000) (hn : n ≤ 8 * xs.length) (hb : Byts xs) :
    Calls Tryd.prog 31 #[.slice A xs.length c, .int .i64 n] w fun e w' => ∃ g : Nat, e = .returned (.tuple #[.pointer (some ⟨g, 0, none⟩), .int .i64 0]) ∧ Rd w' (fun k => w.heap.size ≤ k) g (bitsOf xs n) ∧ Below w.heap.size w w' := by
  have h0 : ¬ ((n : Int) < 0) := by omega
  have h1 : ¬ (8 * (xs.length : Int) < (n : Int)) := by omega
  have HB := Lib.hid hb
  clear hb
  go_enter Tryd.func31, Tryd.ntmps31
  go_wp2_with (at_builtin; refine (plain_int .u8).list_append (W := w.alloc (.cells #[] 5)) (base := w.heap.size) (ok := fun _ => True) (xs := []) (ys := xs) rfl (.tmp 16) (.tmp 17) 24 (.int .u8 0) 1 rfl Tryd.underlying24 info_u8 rfl (by decide) xs.length c rfl rfl (R_empty _ _ w _ _ (Nat.le_refl _) trivial) (Kd.C_below hC ((Below.refl _ w).alloc (Nat.le_refl _) _)) (fun _ _ => trivial) (by simp) (by simp; omega) ?_; intro v1 w1 hR1 hg1 _; obtain ⟨A1, k1, rfl⟩ := Kd.R_slice hR1; have hb1 : Below w.heap.size w w1 := below_row ((Below.refl _ w).alloc (Nat.le_refl _) _) hg1 (Nat.le_refl _) (by simp); have hsz := hb1.size; have HR1 := Lib.hid hR1; have HB1 := Lib.hid hb1; clear hR1 hg1 hb1)
  go_ret2
  exact ⟨w1.heap.size, rfl, ⟨0, n, _, xs, ⟨blk_new w1 _, Kd.R_lower (Kd.R_mono (Kd.R_bound (Kd.R_alloc HR1.out _)) (fun k hk => hk.2.1)) (Nat.zero_le _), hsz, Nat.zero_le _, hn, HB.out, by omega⟩, by rw [List.drop_zero]⟩, HB1.out.alloc hsz _⟩
end Go.Proofs.YtmllgglcdlcdhaaDoor
end
section
namespace Go.Proofs.YtmllgglcdlcdhaaDoor
open Go Go.RowKit Go.Proofs.YtmllgglcdlcdhaaDoorW.PrintWords Go.Proofs.YtmllgglcdlcdhaaDoorW.PrintMore Go.Proofs.YtmllgglcdlcdhaaDoorW.PrintLast Bq Xs
set_option linter.unusedVariables false
set_option maxRecDepth 100000
set_option linter.unusedSimpArgs false
attribute [local go_sem ↓] Go.wp_at_zero Go.wp_at_succ
abbrev rkCells (g : Nat) (s : St) (e : Int) : Array Value := #[.pointer (some ⟨g, 0, none⟩), .int .i64 (s.n : Nat), .int .i64 s.t, .int .u64 (s.v : Nat), .int .u64 (s.step : Nat), .int .i64 (s.w.lead : Nat), .int .i64 (s.w.trail : Nat), .bool s.w.set, .int .i64 e]
structure Rk (w : World) (ok : Nat → Prop) (q g : Nat) (σ : Sg) (s : St) : Prop where
  blk : w.heap[q]? = some (.cells (rkCells g s (errT σ)) 68 (0, 0))
  rd : ∀ r, σ = .ok r → Rd w ok g r
  okq : ¬ ok q
  good : goodE σ
  lt : g < q
abbrev TwoB (g q : Nat) : Nat → Prop := fun k => k = g ∨ k = q
section
variable {w w1 : World} {ok : Nat → Prop} {q g : Nat} {σ : Sg} {s : St} {r : List Bool}
theorem Rk.failed (h : Rk w ok q g (.ok r) s) (e : Int) (he : e ≠ 0) : Rk (w.setCell ⟨q, 8, none⟩ (.int .i64 e)) ok q g (.error e) s ∧ Mod (TwoB g q) w (w.setCell ⟨q, 8, none⟩ (.int .i64 e)) :=
  ⟨⟨blk_put h.blk 8 _ rfl, (fun r h => by cases h), h.okq, (fun e2 h2 => by injection h2 with h2; omega), h.lt⟩, (Mod.refl _ w).setCell (p := ⟨q, 8, none⟩) (.inl (.inr rfl)) _⟩
theorem Rk.drewN (h : Rk w ok q g σ s) (n : Nat) : Rk (w.drewN n) ok q g σ s := ⟨h.blk, fun r hr => by
  obtain ⟨a, m, v, xs, h1, h2⟩ := h.rd r hr
  exact ⟨a, m, v, xs, h1.drewN n, h2⟩, h.okq, h.good, h.lt⟩
theorem Rk.kept {S : Nat → Prop} (h : Rk w ok q g σ s) (hm : Mod S w w1) (hq : ¬ S q) (hs : ∀ k, ok k → k < w.heap.size → ¬ S k) : Rk w1 ok q g σ s := ⟨hm.blk h.blk hq, fun r hr => (h.rd r hr).kept hm hs, h.okq, h.good, h.lt⟩
theorem Rk.below (h : Rk w ok q g σ s) (hB : Below w.heap.size w w1) : Rk w1 ok q g σ s := h.kept (Mod.of_below hB (fun _ => False)) id (fun _ _ _ => id)
theorem Rk.bound (h : Rk w ok q g σ s) : Rk w (fun k => ok k ∧ k < w.heap.size) q g σ s := ⟨h.blk, fun r hr => (h.rd r hr).bound, fun hk => h.okq hk.1, h.good, h.lt⟩
theorem Rk.back {ok1 : Nat → Prop} (h : Rk w ok1 q g σ s) (hk : ∀ k, ok1 k → ok k) (hq : ¬ ok q) : Rk w ok q g σ s := ⟨h.blk, fun r hr => (h.rd r hr).mono hk, hq, h.good, h.lt⟩
theorem Rk.qlt (h : Rk w ok q g σ s) : q < w.heap.size := blk_lt h.blk
theorem Rk.e0 (h : Rk w ok q g (.ok r) s) : w.cell? ⟨q, 8, none⟩ = some (.int .i64 0) := (blk_cell h.blk 8).trans rfl
end
set_option maxHeartbeats 1000000 in
theorem rkget (w : World) (ok : Nat → Prop) (q g : Nat) (σ : Sg) (s : St) (h : Rk w ok q g σ s) (W : Int) (width : Nat) (hW : ∀ r, σ = .ok r → W = (width : Nat) ∧ width ≤ 64) :
    Calls Tryd.prog 32 #[.pointer (some ⟨q, 0, none⟩), .int .i64 W] w fun e w' => e = .returned (.int .u64 ((getT width σ).1 : Nat)) ∧ Rk w' ok q g (getT width σ).2 s ∧ Mod (TwoB g q) w w' := by
  cases σ with
  | error e =>
    have c8 : w.cell? ⟨q, 8, none⟩ = some (.int .i64 e) := (blk_cell h.blk 8).trans rfl
    have he : e ≠ 0 := h.good e rfl
    have hb : (e == 0) = false := beq_false_of_ne he
    have H := Lib.hid h
    clear h hW he
    go_enter Tryd.func32, Tryd.ntmps32
    go_wp2
    go_ret
    exact ⟨rfl, H.out, Mod.refl _ _⟩
  | ok r =>
    obtain ⟨hWw, hw⟩ := hW r rfl
    subst hWw
    clear hW
    have hrd := h.rd r rfl
    obtain ⟨cs, hgb⟩ := hrd.blk
    have hqg : q ≠ g := blk_ne h.blk hgb (by decide)
    have c0 : w.cell? ⟨q, 0, none⟩ = some (.pointer (some ⟨g, 0, none⟩)) := (blk_cell h.blk 0).trans rfl
    have c8 : w.cell? ⟨q, 8, none⟩ = some (.int .i64 0) := h.e0
    have HG := Lib.hid (get_calls w ok g r (width : Nat) hrd (by omega) (by omega))
    have H := Lib.hid h
    have HQG := Lib.hid hqg
    clear h hrd hgb
    have hx : (getX width r = .error 6 ∧ getE r (width : Nat) = 6 ∧ getN r (width : Nat) = 0) ∨ (∃ n : Nat, getX width r = .ok (n, getR r (width : Nat)) ∧ getE r (width : Nat) = 0 ∧ getN r (width : Nat) = (n : Nat)) := by
      by_cases hl : r.length < width
      · left
        have hE : getE r (width : Nat) = 6 := by unfold getE; rw [if_neg (by omega), if_pos (by omega)]
        refine ⟨by unfold getX; rw [if_pos hl], hE, ?_⟩
        unfold getN
        rw [hE, if_neg (by decide)]
      · right
        have hE : getE r (width : Nat) = 0 := by unfold getE; rw [if_neg (by omega), if_neg (by omega)]
        refine ⟨bnum (r.take width), ?_, hE, ?_⟩
        · unfold getX getR
          rw [if_neg hl, hE, if_pos rfl, Int.toNat_natCast]
        · unfold getN
          rw [hE, if_pos rfl, Int.toNat_natCast]
    rcases hx with ⟨hx1, hx2, hx3⟩ | ⟨n, hx1, hx2, hx3⟩
    · rw [hx2, hx3] at HG
      have HX := Lib.hid hx1
      clear hx1 hx2 hx3
      go_enter Tryd.func32, Tryd.ntmps32
      go_wp2_with (go_at_call 52; refine HG.out.mono ?_; rintro e w1 ⟨rfl, h1, m1⟩; have hb1 := m1.blk H.out.blk HQG.out; have d8 : w1.cell? ⟨q, 8, none⟩ = some (.int .i64 0) := (blk_cell hb1 8).trans rfl; have f8 := blk_frozen hb1 8; have H1 := Lib.hid h1; have M1 := Lib.hid m1; clear h1 m1 hb1)
      go_ret
      rw [getT_no HX.out]
      refine ⟨rfl, ⟨blk_put (M1.out.blk H.out.blk HQG.out) 8 _ rfl, (fun r h => by cases h), H.out.okq, (fun e h => by injection h with h; omega), H.out.lt⟩, ?_⟩
      exact (M1.out.weaken (S' := TwoB g q) (fun _ _ h => .inl h)).setCell (p := ⟨q, 8, none⟩) (.inl (.inr rfl)) _
    · rw [hx2, hx3] at HG
      have HX := Lib.hid hx1
      clear hx1 hx2 hx3
      go_enter Tryd.func32, Tryd.ntmps32
      go_wp2_with (go_at_call 52; refine HG.out.mono ?_; rintro e w1 ⟨rfl, h1, m1⟩; have hb1 := m1.blk H.out.blk HQG.out; have d8 : w1.cell? ⟨q, 8, none⟩ = some (.int .i64 0) := (blk_cell hb1 8).trans rfl; have f8 := blk_frozen hb1 8; have H1 := Lib.hid h1; have M1 := Lib.hid m1; clear h1 m1 hb1)
      go_ret
      rw [getT_ok HX.out]
      have hm : Mod (fun k => k = q) w1 (w1.setCell ⟨q, 8, none⟩ (.int .i64 0)) := (Mod.refl (fun k => k = q) w1).setCell (p := ⟨q, 8, none⟩) (.inl rfl) _
      refine ⟨rfl, ⟨blk_put (M1.out.blk H.out.blk HQG.out) 8 _ rfl, fun r2 h2 => ?_, H.out.okq, (fun e h => by cases h), H.out.lt⟩, ?_⟩
      · injection h2 with h2
        subst h2
        exact H1.out.kept hm (fun k ho _ e => H.out.okq (e ▸ ho))
      · exact (M1.out.weaken (S' := TwoB g q) (fun _ _ h => .inl h)).setCell (p := ⟨q, 8, none⟩) (.inl (.inr rfl)) _
end Go.Proofs.YtmllgglcdlcdhaaDoor
end
