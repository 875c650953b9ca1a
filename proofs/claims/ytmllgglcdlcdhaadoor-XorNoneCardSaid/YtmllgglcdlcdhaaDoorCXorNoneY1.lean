import Derived.Test.YtmllgglcdlcdhaaDoorCXorNoneB8p
import Derived.Test.YtmllgglcdlcdhaaDoorShelf
import Derived.Test.YtmllgglcdlcdhaaDoorCXorNoneHC
namespace Go.Proofs.YtmllgglcdlcdhaaDoor.Bq
end Go.Proofs.YtmllgglcdlcdhaaDoor.Bq
section
namespace Go.Proofs.YtmllgglcdlcdhaaDoor
open Go.RowKit Go.Proofs.YtmllgglcdlcdhaaDoorW.PrintWords Go.Proofs.YtmllgglcdlcdhaaDoorW.PrintMore Go.Proofs.YtmllgglcdlcdhaaDoorW.PrintLast Bq
set_option linter.unusedVariables false
set_option maxRecDepth 100000
set_option linter.unusedSimpArgs false
attribute [local go_sem ↓] Go.wp_at_zero Go.wp_at_succ
theorem lead_calls (n : Int) (w : World) (h0 : 0 ≤ n) (h1 : n ≤ 18446744073709551615) :
    Calls Tryd.prog 73 #[.int .u64 n] w fun e w' => e = .returned (.int .i64 (64 - (Lib.bitLen n.toNat : Int))) ∧ w = w' := by
  go_enter Tryd.func73, Tryd.ntmps73
  go_wp2_with (go_at_call 75; refine (Tryd.bits_LeadingZeros64 n _ h0 h1).mono ?_; rintro e w' ⟨rfl, rfl⟩)
  go_ret
  exact ⟨rfl, rfl⟩
theorem eq_take {xs ys : List Int} (h : xs.length = ys.length) (hk : xs.take xs.length = ys.take xs.length) : xs = ys := by
  rw [List.take_of_length_le (Nat.le_refl _), List.take_of_length_le (by omega)] at hk
  exact hk
theorem take_next_eq {xs ys : List Int} {k : Nat} (h1 : k < xs.length) (h2 : k < ys.length) (hk : xs.take k = ys.take k) (he : xs.getD k 0 = ys.getD k 0) : xs.take (k + 1) = ys.take (k + 1) := by
  rw [List.take_succ_eq_append_getElem h1, List.take_succ_eq_append_getElem h2, hk]
  rw [List.getD_eq_getElem?_getD, List.getD_eq_getElem?_getD, List.getElem?_eq_getElem h1, List.getElem?_eq_getElem h2] at he
  simp only [Option.getD_some] at he
  rw [he]
set_option maxHeartbeats 2000000 in
theorem requal_calls (w : World) (A B : Option Addr) (ca cb : Nat) (xs ys : List Int) (hA : (Kd.int .u8).C w A xs.length xs) (hB : (Kd.int .u8).C w B ys.length ys) (hs : xs.length ≤ 1000000000000) (ht : ys.length ≤ 1000000000000) :
    Calls Tryd.prog 14 #[.slice A xs.length ca, .slice B ys.length cb] w fun e w' => e = .returned (.bool (decide (xs = ys))) ∧ ∃ n, w' = w.drewN n := by
  have HA := Lib.hid hA
  have HB := Lib.hid hB
  clear hA hB
  by_cases hl : xs.length = ys.length
  · have hne : ((xs.length : Int) != (ys.length : Int)) = false := by simp [hl]
    have HL := Lib.hid hl
    go_enter Tryd.func14, Tryd.ntmps14
    go_wp2
    go_loopg [13] xs.length (fun kq s13 wr => ∃ (k m : Nat), wr = w.drewN m ∧ k + kq = xs.length ∧ s13 = .int .i64 k ∧ Hid (xs.take k = ys.take k))
    case atStart => exact ⟨0, 0, rfl, by omega, rfl, rfl⟩
    case round =>
      obtain ⟨k, m, rfl, hk, rfl, htk⟩ := hrel
      by_cases hlt : k < xs.length
      · obtain ⟨ad, hAa, hcell⟩ := C_at_int HA.out k hlt
        obtain ⟨bd, hBb, hcelb⟩ := C_at_int HB.out k (by rw [← HL.out]; exact hlt)
        subst hAa
        subst hBb
        have h2 : k < ys.length := by rw [← HL.out]; exact hlt
        obtain ⟨x, hx⟩ : ∃ x, x = xs.getD k 0 := ⟨_, rfl⟩
        obtain ⟨y, hy⟩ : ∃ y, y = ys.getD k 0 := ⟨_, rfl⟩
        rw [← hx] at hcell
        rw [← hy] at hcelb
        have HX := Lib.hid hx
        have HY := Lib.hid hy
        clear hx hy
        by_cases he : x = y
        · have HE := Lib.hid he
          have hq : (x != y) = false := by simp [he]
          clear he
          go_wp2
          go_quiet (fail)
          go_wp2
          go_roundg (gk - 1)
          case measure => omega
          case rel => exact ⟨k + 1, _, rfl, by omega, by go_num, take_next_eq hlt h2 htk.out (by rw [← HX.out, ← HY.out, HE.out])⟩
        · have HE := Lib.hid he
          have hq : (x != y) = true := by simp [he]
          clear he
          go_wp2
          go_quiet (fail)
          go_wp2
          go_ret
          refine ⟨?_, _, World.drewN_drewN _ _ _⟩
          rw [decide_eq_false (fun h => HE.out (by rw [HX.out, HY.out, h]))]
          rfl
      · have hge : (ys.length : Int) ≤ (k : Int) := by omega
        go_wp2
        go_ret
        refine ⟨?_, _, rfl⟩
        have : k = xs.length := by omega
        subst this
        rw [decide_eq_true (eq_take HL.out htk.out)]
        rfl
  · have hne : ((xs.length : Int) != (ys.length : Int)) = true := by simp; omega
    go_enter Tryd.func14, Tryd.ntmps14
    go_wp2
    go_ret
    exact ⟨by rw [decide_eq_false (fun h => hl (by rw [h]))]; rfl, 0, rfl⟩
end Go.Proofs.YtmllgglcdlcdhaaDoor
end
section
namespace Go.Proofs.YtmllgglcdlcdhaaDoor
open Go Go.RowKit Go.Proofs.YtmllgglcdlcdhaaDoorW.PrintWords Go.Proofs.YtmllgglcdlcdhaaDoorW.PrintMore Go.Proofs.YtmllgglcdlcdhaaDoorW.PrintLast Bq
set_option linter.unusedVariables false
set_option maxRecDepth 100000
set_option linter.unusedSimpArgs false
attribute [local go_sem ↓] Go.wp_at_zero Go.wp_at_succ
theorem below_lower {B B' : Nat} {w w1 : World} (h : Below B' w w1) (hB : B ≤ B') : Below B w w1 := ⟨h.os, h.tape, h.output, h.size, fun k hk => h.block k (by omega)⟩
theorem info_bool : (Tryd.prog.info? 4).map (fun i => (i.zero, i.size, i.bytes)) = some (some (.bool false), 1, 1) := by kernel_rfl
theorem bit_eq (n i : Nat) : (((n : Int) / 2 ^ i) % 2 == 1) = n.testBit i := by
  rw [Nat.testBit_eq_decide_div_mod_eq]
  have e : ((n : Int) / 2 ^ i) % 2 = ((n / 2 ^ i % 2 : Nat) : Int) := by simp
  rw [e]
  by_cases h : n / 2 ^ i % 2 = 1
  · rw [h]; rfl
  · have : n / 2 ^ i % 2 = 0 := by omega
    rw [this]; rfl
theorem take_nb_next (n w j : Nat) (h : j < w) : (nb n w).take (j + 1) = (nb n w).take j ++ [n.testBit (w - 1 - j)] := by
  have hl : j < (nb n w).length := by rw [nb_length]; exact h
  rw [List.take_succ_eq_append_getElem hl]
  have h2 := nb_get n w j h
  rw [List.getElem?_eq_getElem hl] at h2
  injection h2 with h2
  rw [h2]
set_option maxHeartbeats 2000000 in
theorem rput_calls (w : World) (base : Nat) (ok : Nat → Prop) (v : Value) (bs : List Bool) (n width : Nat) (hR : Kd.bool.R 4 w base ok v bs) (hbase : base ≤ w.heap.size) (hw : width ≤ 64) (hn : n < 18446744073709551616) (hl : bs.length ≤ 100000000) :
    Calls Tryd.prog 48 #[v, .int .u64 n, .int .i64 width] w fun e w' => ∃ v', e = .returned v' ∧ Kd.bool.R 4 w' base (fun k => ok k ∨ w.heap.size ≤ k) v' (bs ++ nb n width) ∧ Mod ok w w' := by
  have HR := Lib.hid hR
  clear hR
  go_enter Tryd.func48, Tryd.ntmps48
  go_wp2
  go_loopg [0, 7] width (fun kq s0 s7 wr => ∃ (j : Nat) (ts : List Bool), j + kq = width ∧ s7 = .int .i64 ((kq : Int) - 1) ∧ ts.length ≤ 100000000 + j ∧ Hid (ts = bs ++ (nb n width).take j) ∧ Hid (Kd.bool.R 4 wr base (fun k => ok k ∨ w.heap.size ≤ k) s0 ts) ∧ Hid (Mod ok w wr))
  case atStart => exact ⟨0, bs, by omega, rfl, by omega, by rw [List.take_zero, List.append_nil]; rfl, Kd.R_mono HR.out (fun _ h => .inl h), Mod.refl _ _⟩
  case round =>
    obtain ⟨j, ts, hj, rfl, hts, hT, hRr, hM⟩ := hrel
    obtain ⟨A, c, hs0⟩ := Kd.R_slice hRr.out
    subst hs0
    have hsz := hM.out.size
    by_cases hlt : 0 < gk
    · have e1 : (0 : Int) ≤ (gk : Int) - 1 := by omega
      have e2 : ((gk : Int) - 1).toNat = width - 1 - j := by omega
      have e4 : bits .and .u64 ((n : Int) / 2 ^ (width - 1 - j)) 1 = (n : Int) / 2 ^ (width - 1 - j) % 2 := by
        have h : (n : Int) / 2 ^ (width - 1 - j) = ((n / 2 ^ (width - 1 - j) : Nat) : Int) := by simp
        rw [h]
        have h2 := Nat.div_le_self n (2 ^ (width - 1 - j))
        generalize n / 2 ^ (width - 1 - j) = y at h2 ⊢
        exact and_one _ (by omega) (by omega)
      obtain ⟨b, hb⟩ : ∃ b, b = n.testBit (width - 1 - j) := ⟨_, rfl⟩
      have e5 : ((n : Int) / 2 ^ (width - 1 - j) % 2 == 1) = b := by rw [hb, bit_eq]
      have HBB := Lib.hid hb
      clear hb
      go_wp2_with (at_builtin; refine Kd.R_append Kd.bool (w0 := wr) (W := wr) base rfl (.tmp 14) (.tmp 21) 58 4 (.bool false) 1 rfl Tryd.underlying58 info_bool rfl (by decide) (by decide) _ ts b [.bool b] (fun k => ok k ∨ w.heap.size ≤ k) (fun _ => False) rfl rfl rfl (fun _ h => h.elim) (fun k hk => .inr (Nat.le_trans hsz hk)) hRr.out (Below.refl _ _) (Nat.le_trans hbase hsz) (by omega) ?_; intro v1 w2 hR2 _ hg2 _; have HR2 := Lib.hid hR2; have HG2 := Lib.hid hg2; clear hR2 hg2)
      go_roundg (gk - 1)
      case measure => omega
      case rel =>
        refine ⟨j + 1, ts ++ [b], by omega, by go_num, by rw [List.length_append]; simp; omega, ?_, HR2.out, hM.out.grown HG2.out (fun k hk => hRr.out.1 k hk)⟩
        show ts ++ [b] = _
        rw [hT.out, HBB.out, take_nb_next n width j (by omega), List.append_assoc]
    · have hg0 : gk = 0 := by omega
      subst hg0
      go_wp2_with fail
      go_ret
      refine ⟨_, rfl, ?_, hM.out⟩
      have hX : bs ++ nb n width = ts := by rw [hT.out, List.take_of_length_le (by rw [nb_length]; omega)]
      rw [hX]
      exact hRr.out
theorem C_at_bool {w : World} {A : Option Addr} {n : Nat} {xs : List Bool} (h : Kd.bool.C w A n xs) (i : Nat) (hi : i < n) : ∃ ad, A = some ad ∧ w.cell? (ad.add i) = some (.bool (xs.getD i false)) := by
  obtain ⟨ad, c, e, _, hK, hc⟩ := Kd.C_get h false (i : Int) (by omega) (by omega)
  rw [Int.toNat_natCast] at hK hc
  have hk : c = [.bool (xs.getD i false)] := hK
  subst hk
  have h2 := hc 0 _ rfl
  refine ⟨ad, e, ?_⟩
  have e1 : i * Kd.bool.sz + 0 = i := by show i * 1 + 0 = i; omega
  rw [e1] at h2
  exact h2
theorem or_byte (x : Int) (r : Nat) (h0 : 0 ≤ x) (h1 : x < 256) (hr : r < 8) : bits .or .u8 x (128 / 2 ^ r) = ((x.toNat ||| 2 ^ (7 - r) : Nat) : Int) := by
  obtain ⟨y, rfl⟩ := Int.eq_ofNat_of_zero_le h0
  have e : (128 : Int) / 2 ^ r = ((2 ^ (7 - r) : Nat) : Int) := by
    have : ∀ r : Fin 8, (128 : Int) / 2 ^ r.val = ((2 ^ (7 - r.val) : Nat) : Int) := by decide
    exact this ⟨r, hr⟩
  have e2 : 2 ^ (7 - r) < 256 := Nat.lt_of_lt_of_le (Nat.pow_lt_pow_right (by decide) (show 7 - r < 8 by omega)) (by decide)
  rw [e, (bits_nat .u8 8 (by decide) wraps_u8 y (2 ^ (7 - r)) (by omega) (by omega)).2, Int.toNat_natCast]
set_option maxHeartbeats 2000000 in
theorem rbytes_calls (w : World) (A : Option Addr) (c : Nat) (bs : List Bool) (hC : Kd.bool.C w A bs.length bs) (hl : bs.length ≤ 100000000) :
    Calls Tryd.prog 29 #[.slice A bs.length c] w fun e w' => ∃ v, e = .returned v ∧ (Kd.int .u8).R 5 w' w.heap.size (fun k => w.heap.size ≤ k) v (packI bs) ∧ Below w.heap.size w w' := by
  have HC := Lib.hid hC
  clear hC
  obtain ⟨m, hm⟩ : ∃ m, m = (bs.length + 7) / 8 := ⟨_, rfl⟩
  have hmi : ((bs.length : Int) + 7) / 8 = (m : Int) := by omega
  have HM := Lib.hid hm
  have HMI := Lib.hid hmi
  clear hmi
  have hm2 : m ≤ 100000000 := by omega
  clear hm
  go_enter Tryd.func29, Tryd.ntmps29
  go_wp2_with (at_make; refine Kd.R_make (Kd.int .u8) (w0 := w) (W := w) w.heap.size 5 rfl rfl 24 (.tmp 9) (.tmp 9) rfl (((bs.length : Int) + 7) / 8) rfl rfl Tryd.underlying24 (.int .u8 0) 1 info_u8 rfl (by decide) (by decide) 0 (okp := fun _ => False) (ok := fun k => w.heap.size ≤ k) rfl (fun _ h => h.elim) (Nat.le_refl _) (by omega) (by have := hm2; omega) (Below.refl _ _) (Nat.le_refl _) ?_; intro v1 w1 hR hB _ _; have HR := Lib.hid hR; have HB := Lib.hid hB; clear hR hB)
  rw [HMI.out, Int.toNat_natCast] at HR
  have hst : Byts (List.replicate m (0 : Int)) ∧ (List.replicate m (0 : Int)).length = m ∧ ∀ j, bitAt (List.replicate m (0 : Int)) j = (decide (j < 0) && bs.getD j false) := by
    refine ⟨fun x hx => ?_, by simp, fun j => ?_⟩
    · have := (List.mem_replicate.1 hx).2
      omega
    · unfold bitAt
      rw [decide_eq_false (by omega), Bool.false_and, List.getD_eq_getElem?_getD, List.getElem?_replicate]
      split <;> simp
  have HST := Lib.hid hst
  clear hst
  go_loopg [13] bs.length (fun kq s13 wr => ∃ (k : Nat) (xs : List Int), k + kq = bs.length ∧ s13 = .int .i64 k ∧ Hid (xs.length = m) ∧ Hid (Byts xs) ∧ Hid (∀ j, bitAt xs j = (decide (j < k) && bs.getD j false)) ∧ Hid ((Kd.int .u8).R 5 wr w.heap.size (fun k => w.heap.size ≤ k) v1 xs) ∧ Hid (Below w.heap.size w wr))
  case atStart => exact ⟨0, _, by omega, rfl, HST.out.2.1, HST.out.1, HST.out.2.2, HR.out, HB.out⟩
  case round =>
    obtain ⟨k, xs, hk, rfl, hxm, hby, hbit, hR, hBr⟩ := hrel
    by_cases hlt : k < bs.length
    · obtain ⟨ad, hA, hcell⟩ := C_at_bool HC.out k hlt
      subst hA
      have hcell2 : wr.cell? (ad.add k) = some (.bool (bs.getD k false)) := by
        rw [hBr.out.cell (World.block_lt_of_cell? w _ hcell)]
        exact hcell
      clear hcell
      obtain ⟨b, hb⟩ : ∃ b, b = bs.getD k false := ⟨_, rfl⟩
      rw [← hb] at hcell2
      have HBB := Lib.hid hb
      clear hb
      cases b with
      | false =>
        go_wp2_with fail
        go_roundg (gk - 1)
        case measure => omega
        case rel =>
          refine ⟨k + 1, xs, by omega, by go_num, hxm.out, hby.out, fun j => ?_, hR.out, hBr.out⟩
          rw [hbit.out j]
          by_cases hjk : j = k
          · subst hjk
            rw [← HBB.out]; simp
          · have : decide (j < k + 1) = decide (j < k) := by
              apply decide_eq_decide.2
              omega
            rw [this]
      | true =>
        have hq : k / 8 < xs.length := by have := hxm.out; have := HM.out; omega
        obtain ⟨gr, cap, hs3, hgb, hgl, _⟩ := Kd.R_form hR.out (by omega)
        have hxb : 0 ≤ rdOf 0 xs ((k / 8 : Nat) : Int) ∧ rdOf 0 xs ((k / 8 : Nat) : Int) < 256 := by
          have h := Byts.get hby.out (k / 8) hq
          exact h
        have HXB := Lib.hid hxb
        clear hxb
        subst hs3
        obtain ⟨q, hqq⟩ : ∃ q, q = k / 8 := ⟨_, rfl⟩
        obtain ⟨r, hrr⟩ : ∃ r, r = k % 8 := ⟨_, rfl⟩
        obtain ⟨hcl, hfz⟩ := own_at_of (d := 0) (Kd.own_of_R hR.out) (i := ((q : Nat) : Int)) (by omega) (by omega)
        rw [Int.toNat_natCast] at hcl hfz
        obtain ⟨x, hx⟩ : ∃ x : Int, x = rdOf 0 xs ((q : Nat) : Int) := ⟨_, rfl⟩
        rw [← hx] at hcl
        have HX := Lib.hid hx
        have e1 : ((k : Int) / 8).toNat = q := by omega
        have e2 : ((k : Int) % 8).toNat = r := by omega
        have e3 : (0 : Int) ≤ (k : Int) / 8 := by omega
        have e4 : (k : Int) / 8 < (xs.length : Int) := by omega
        have HQ := Lib.hid hq
        have HQQ := Lib.hid hqq
        have HRR := Lib.hid hrr
        clear hq hx hqq hrr
        go_wp2_with fail
        go_roundg (gk - 1)
        case measure => omega
        case rel =>
          have hr8 : r < 8 := by rw [HRR.out]; exact Nat.mod_lt _ (by decide)
          have hx2 : 0 ≤ x ∧ x < 256 := by rw [HX.out, HQQ.out]; exact HXB.out
          have hor := or_byte x r hx2.1 hx2.2 hr8
          rw [hor]
          obtain ⟨hR3, hg3⟩ := Kd.R_put hR.out ((q : Nat) : Int) ((x.toNat ||| 2 ^ (7 - r) : Nat) : Int)
          rw [Int.toNat_natCast] at hR3 hg3
          have hxs : xs.set q ((x.toNat ||| 2 ^ (7 - r) : Nat) : Int) = xs.set (k / 8) ((((xs.getD (k / 8) 0).toNat ||| 2 ^ (7 - k % 8)) : Nat) : Int) := by
            have : x = xs.getD (k / 8) 0 := by rw [HX.out, HQQ.out]; rfl
            rw [this, HQQ.out, HRR.out]
          have hk8 : k < 8 * xs.length := by have := hxm.out; have := HM.out; omega
          refine ⟨k + 1, _, by omega, by go_num, ?_, ?_, fun j => ?_, hR3, hBr.out.grown hg3 hBr.out.size (fun g hg => by injection hg with hg; omega)⟩
          · show (xs.set q _).length = m
            rw [List.length_set]
            exact hxm.out
          · intro y hy
            rcases List.mem_or_eq_of_mem_set hy with h | h
            · exact hby.out y h
            · have h1 : x.toNat ||| 2 ^ (7 - r) < 2 ^ 8 := Nat.or_lt_two_pow (by omega) (Nat.pow_lt_pow_right (by decide) (by omega))
              have h2 : (2 : Nat) ^ 8 = 256 := by decide
              omega
          · rw [hxs, bitAt_set xs k j hby.out hk8, hbit.out j]
            by_cases hjk : j = k
            · subst hjk
              rw [← HBB.out]; simp
            · have : decide (j < k + 1) = decide (j < k) := by
                apply decide_eq_decide.2
                omega
              rw [this, decide_eq_false hjk, Bool.or_false]
    · have hkk : k = bs.length := by omega
      go_wp2_with fail
      go_ret
      have hX : packI bs = xs := by
        apply bits_ext
        · rw [packI_length, hxm.out, HM.out]
        · exact byts_packI bs
        · exact hby.out
        · intro j hj
          rw [packI_length] at hj
          rw [bitAt_pack bs.length bs j (Nat.le_refl _) hj, hbit.out j]
          by_cases hjl : j < bs.length
          · rw [decide_eq_true (by omega), Bool.true_and]
          · rw [List.getD_eq_getElem?_getD, List.getElem?_eq_none (by omega)]
            simp
      rw [hX]
      exact ⟨_, rfl, hR.out, hBr.out⟩
theorem bnum_take_next (bs : List Bool) (k : Nat) (h : k < bs.length) : bnum (bs.take (k + 1)) = 2 * bnum (bs.take k) + (bs.getD k false).toNat := by
  rw [List.take_succ_eq_append_getElem h, bnum_snoc, List.getD_eq_getElem?_getD, List.getElem?_eq_getElem h]
  rfl
set_option maxHeartbeats 1000000 in
theorem number_calls (w : World) (A : Option Addr) (c : Nat) (bs : List Bool) (hC : Kd.bool.C w A bs.length bs) (hl : bs.length ≤ 64) :
    Calls Tryd.prog 57 #[.slice A bs.length c] w fun e w' => e = .returned (.int .u64 (bnum bs : Nat)) ∧ w = w' := by
  have HC := Lib.hid hC
  clear hC
  go_enter Tryd.func57, Tryd.ntmps57
  go_wp2
  go_loopg [8, 3] bs.length (fun kq s8 s3 wr => w = wr ∧ ∃ (k a : Nat), k + kq = bs.length ∧ s8 = .int .i64 k ∧ s3 = .int .u64 a ∧ Hid (a = bnum (bs.take k)))
  case atStart => exact ⟨rfl, 0, 0, by omega, rfl, rfl, rfl⟩
  case round =>
    obtain ⟨rfl, k, a, hk, rfl, rfl, ha⟩ := hrel
    by_cases hlt : k < bs.length
    · obtain ⟨ad, hA, hcell⟩ := C_at_bool HC.out k hlt
      subst hA
      obtain ⟨b, hb⟩ : ∃ b, b = bs.getD k false := ⟨_, rfl⟩
      rw [← hb] at hcell
      have hnx := bnum_take_next bs k hlt
      rw [← hb, ← ha.out] at hnx
      have hbd : 2 * a + b.toNat < 18446744073709551616 := by
        rw [← hnx]
        have h1 := bnum_lt (bs.take (k + 1))
        have h2 : (2 : Nat) ^ (bs.take (k + 1)).length ≤ 2 ^ 64 := Nat.pow_le_pow_right (by decide) (by rw [List.length_take]; omega)
        exact Nat.lt_of_lt_of_le h1 h2
      have HNX := Lib.hid hnx
      clear hb hnx
      cases b with
      | false =>
        have hbd2 : 2 * a < 18446744073709551616 := by simpa using hbd
        clear hbd
        go_wp2_with fail
        go_roundg (gk - 1)
        case measure => omega
        case rel => exact ⟨rfl, k + 1, a * 2, by omega, by go_num, by go_num, by show a * 2 = _; have := HNX.out; simp at this; omega⟩
      | true =>
        have hbd2 : 2 * a + 1 < 18446744073709551616 := by simpa using hbd
        clear hbd
        go_wp2_with fail
        go_roundg (gk - 1)
        case measure => omega
        case rel => exact ⟨rfl, k + 1, a * 2 + 1, by omega, by go_num, by go_num, by show a * 2 + 1 = _; have := HNX.out; simp at this; omega⟩
    · have hke : k = bs.length := by omega
      go_wp2_with fail
      go_ret
      have hx : bnum bs = a := by rw [ha.out, List.take_of_length_le (by omega)]
      exact ⟨by rw [hx]; rfl, rfl⟩
theorem bit_get (x : Int) (r : Nat) (h0 : 0 ≤ x) (h1 : x < 256) (hr : r < 8) : (bits .and .u8 (x / 2 ^ (7 - r)) 1 == 1) = x.toNat.testBit (7 - r) := by
  obtain ⟨y, rfl⟩ := Int.eq_ofNat_of_zero_le h0
  have e1 : (y : Int) / 2 ^ (7 - r) = ((y / 2 ^ (7 - r) : Nat) : Int) := by simp
  have h2 := Nat.div_le_self y (2 ^ (7 - r))
  rw [Int.toNat_natCast, Nat.testBit_eq_decide_div_mod_eq, e1]
  generalize y / 2 ^ (7 - r) = z at h2 ⊢
  have h3 := bits_mask .u8 8 (by decide) wraps_u8 1 (by omega) (z : Int) (by omega) (by omega)
  have h4 : bits .and .u8 (z : Int) 1 = (z : Int) % 2 := by simpa using h3
  rw [h4]
  by_cases h : z % 2 = 1
  · have : (z : Int) % 2 = 1 := by omega
    rw [this, h]; rfl
  · have : (z : Int) % 2 = 0 := by omega
    rw [this]
    have h5 : z % 2 = 0 := by omega
    rw [h5]; rfl
theorem take_bits_next (xs : List Int) (n k : Nat) (h : k < n) : (bitsOf xs n).take (k + 1) = (bitsOf xs n).take k ++ [bitAt xs k] := by
  have hl : k < (bitsOf xs n).length := by rw [bitsOf_length]; exact h
  rw [List.take_succ_eq_append_getElem hl, bitsOf_get xs n k h]
set_option maxHeartbeats 2000000 in
theorem rbits_calls (w : World) (A : Option Addr) (c : Nat) (xs : List Int) (n : Nat) (hC : (Kd.int .u8).C w A xs.length xs) (hb : Byts xs) (hn : n ≤ 8 * xs.length) (hl : xs.length ≤ 1000000) :
    Calls Tryd.prog 35 #[.slice A xs.length c, .int .i64 n] w fun e w' => ∃ v, e = .returned v ∧ Kd.bool.R 4 w' w.heap.size (fun k => w.heap.size ≤ k) v (bitsOf xs n) ∧ Below w.heap.size w w' := by
  have HC := Lib.hid hC
  have HB := Lib.hid hb
  clear hC hb
  go_enter Tryd.func35, Tryd.ntmps35
  go_wp2
  have HR := Lib.hid (R_empty Kd.bool 4 w w.heap.size (fun k => w.heap.size ≤ k) (Nat.le_refl _) (Nat.le_refl _))
  have HBl := Lib.hid (below_alloc (Below.refl w.heap.size w) (.cells #[] 4))
  generalize w.alloc (.cells #[] 4) = w1 at HR HBl ⊢
  go_loopg [9, 5] n (fun kq s9 s5 wr => ∃ (k : Nat) (ts : List Bool), k + kq = n ∧ s9 = .int .i64 k ∧ ts.length = k ∧ Hid (ts = (bitsOf xs n).take k) ∧ Hid (Kd.bool.R 4 wr w.heap.size (fun k => w.heap.size ≤ k) s5 ts) ∧ Hid (Below w.heap.size w wr))
  case atStart => exact ⟨0, [], by omega, rfl, rfl, rfl, HR.out, HBl.out⟩
  case round =>
    obtain ⟨k, ts, hk, rfl, htl, hT, hR, hBr⟩ := hrel
    by_cases hlt : k < n
    · obtain ⟨q, hq⟩ : ∃ q, q = k / 8 := ⟨_, rfl⟩
      obtain ⟨r, hr⟩ : ∃ r, r = k % 8 := ⟨_, rfl⟩
      have hql : q < xs.length := by omega
      obtain ⟨ad, hA, hcell⟩ := C_at_int HC.out q hql
      subst hA
      obtain ⟨hx0, hx1⟩ := HB.out.get q hql
      have hcell2 : wr.cell? (ad.add q) = some (.int .u8 (xs.getD q 0)) := by
        rw [hBr.out.cell (World.block_lt_of_cell? w _ hcell)]
        exact hcell
      clear hcell
      have hbit := bit_get (xs.getD q 0) r hx0 hx1 (by omega)
      have hba : bitAt xs k = (xs.getD q 0).toNat.testBit (7 - r) := by unfold bitAt; rw [hq, hr]
      rw [← hba] at hbit
      obtain ⟨x, hx⟩ : ∃ x, x = xs.getD q 0 := ⟨_, rfl⟩
      rw [← hx] at hbit hcell2 hx0 hx1
      obtain ⟨b, hb⟩ : ∃ b, b = bitAt xs k := ⟨_, rfl⟩
      rw [← hb] at hbit
      have HBB := Lib.hid hb
      clear hx hba hb
      have e1 : ((k : Int) / 8).toNat = q := by omega
      have e2 : (7 - (k : Int) % 8).toNat = 7 - r := by omega
      have e3 : (0 : Int) ≤ (k : Int) / 8 := by omega
      have e4 : (k : Int) / 8 < (xs.length : Int) := by omega
      have e5 : (0 : Int) ≤ 7 - (k : Int) % 8 := by omega
      obtain ⟨A5, c5, hs5⟩ := Kd.R_slice hR.out
      subst hs5
      have hsz := hBr.out.size
      have hn8 : n ≤ 8000000 := by omega
      clear hq hr
      go_wp2_with (at_builtin; refine Kd.R_append Kd.bool (w0 := wr) (W := wr) w.heap.size rfl (.tmp 12) (.tmp 25) 58 4 (.bool false) 1 rfl Tryd.underlying58 info_bool rfl (by decide) (by decide) _ ts b [.bool b] (fun k => w.heap.size ≤ k) (fun _ => False) rfl rfl rfl (fun _ h => h.elim) (fun k hk => Nat.le_trans hsz hk) hR.out (Below.refl _ _) hsz (by omega) ?_; intro v1 w2 hR2 _ hg2 _; have HR2 := Lib.hid hR2; have HG2 := Lib.hid hg2; clear hR2 hg2)
      go_roundg (gk - 1)
      case measure => omega
      case rel =>
        refine ⟨k + 1, ts ++ [b], by omega, by go_num, by rw [List.length_append, htl]; rfl, ?_, HR2.out, hBr.out.trans (Mod.below (S := fun k => w.heap.size ≤ k) ((Mod.refl _ _).grown HG2.out (fun k hk => .inl (Kd.R_base hR.out k hk))) hsz (fun k hk => hk))⟩
        show ts ++ [b] = _
        rw [hT.out, HBB.out, take_bits_next xs n k hlt]
    · have hke : k = n := by omega
      go_wp2_with fail
      go_ret
      have hX : bitsOf xs n = ts := by rw [hT.out, List.take_of_length_le (by rw [bitsOf_length]; omega)]
      rw [hX]
      exact ⟨_, rfl, hR.out, hBr.out⟩
end Go.Proofs.YtmllgglcdlcdhaaDoor
end
