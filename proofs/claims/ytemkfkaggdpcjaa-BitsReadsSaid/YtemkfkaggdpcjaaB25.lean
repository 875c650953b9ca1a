/- The document's Bits and Number. -/
import Derived.Test.YtemkfkaggdpcjaaB20
import Derived.Test.YtemkfkaggdpcjaaB17
import Derived.Test.YtemkfkaggdpcjaaB7
namespace Go.Proofs.Ytemkfkaggdpcjaa
open Go.RowKit Go.Proofs.YtemkfkaggdpcjaaW.PrintWords Go.Proofs.YtemkfkaggdpcjaaW.PrintMore Go.Proofs.YtemkfkaggdpcjaaW.PrintLast Bq
set_option linter.unusedVariables false
set_option linter.unusedSimpArgs false
attribute [local go_sem ↓] Go.wp_at_zero Go.wp_at_succ

theorem bnum_take_next (bs : List Bool) (k : Nat) (h : k < bs.length) : bnum (bs.take (k + 1)) = 2 * bnum (bs.take k) + (bs.getD k false).toNat := by
  rw [List.take_succ_eq_append_getElem h, bnum_snoc, List.getD_eq_getElem?_getD, List.getElem?_eq_getElem h]
  rfl

set_option maxHeartbeats 1000000 in
theorem number_calls (w : World) (A : Option Addr) (c : Nat) (bs : List Bool) (hC : Kd.bool.C w A bs.length bs) (hl : bs.length ≤ 64) :
    Calls Try.prog 34 #[.slice A bs.length c] w fun e w' => e = .returned (.int .u64 (bnum bs : Nat)) ∧ w = w' := by
  have HC := Lib.hid hC
  clear hC
  go_enter Try.func34, Try.ntmps34
  go_wp2
  go_loopg [8, 3] bs.length (fun kq s8 s3 wr => w = wr ∧ ∃ (k a : Nat), k + kq = bs.length ∧ s8 = .int .i64 k ∧ s3 = .int .u64 a ∧ Hid (a = bnum (bs.take k)))
  case atStart => exact ⟨rfl, 0, 0, by omega, rfl, rfl, rfl⟩
  case round =>
    obtain ⟨rfl, k, a, hk, rfl, rfl, ha⟩ := hrel
    by_cases hlt : k < bs.length
    · obtain ⟨ad, hA, hcell⟩ := C_at_bool HC.out k hlt
      subst hA
      obtain ⟨b, hb⟩ : ∃ b, b = bs.getD k false := ⟨_, rfl⟩
      rw [← hb] at hcell
      have hnx := bnum_take_next bs k hlt
      rw [← hb, ← ha.out] at hnx
      have hbd : 2 * a + b.toNat < 18446744073709551616 := by
        rw [← hnx]
        have h1 := bnum_lt (bs.take (k + 1))
        have h2 : (2 : Nat) ^ (bs.take (k + 1)).length ≤ 2 ^ 64 := Nat.pow_le_pow_right (by decide) (by rw [List.length_take]; omega)
        exact Nat.lt_of_lt_of_le h1 h2
      have HNX := Lib.hid hnx
      clear hb hnx
      cases b with
      | false =>
        have hbd2 : 2 * a < 18446744073709551616 := by simpa using hbd
        clear hbd
        go_wp2_with fail
        go_roundg (gk - 1)
        case measure => omega
        case rel => exact ⟨rfl, k + 1, a * 2, by omega, by go_num, by go_num, by show a * 2 = _; have := HNX.out; simp at this; omega⟩
      | true =>
        have hbd2 : 2 * a + 1 < 18446744073709551616 := by simpa using hbd
        clear hbd
        go_wp2_with fail
        go_roundg (gk - 1)
        case measure => omega
        case rel => exact ⟨rfl, k + 1, a * 2 + 1, by omega, by go_num, by go_num, by show a * 2 + 1 = _; have := HNX.out; simp at this; omega⟩
    · have hke : k = bs.length := by omega
      go_wp2_with fail
      go_ret
      have hx : bnum bs = a := by rw [ha.out, List.take_of_length_le (by omega)]
      exact ⟨by rw [hx]; rfl, rfl⟩

theorem bit_get (x : Int) (r : Nat) (h0 : 0 ≤ x) (h1 : x < 256) (hr : r < 8) : (bits .and .u8 (x / 2 ^ (7 - r)) 1 == 1) = x.toNat.testBit (7 - r) := by
  obtain ⟨y, rfl⟩ := Int.eq_ofNat_of_zero_le h0
  have e1 : (y : Int) / 2 ^ (7 - r) = ((y / 2 ^ (7 - r) : Nat) : Int) := by simp
  have h2 := Nat.div_le_self y (2 ^ (7 - r))
  rw [Int.toNat_natCast, Nat.testBit_eq_decide_div_mod_eq, e1]
  generalize y / 2 ^ (7 - r) = z at h2 ⊢
  have h3 := bits_mask .u8 8 (by decide) wraps_u8 1 (by omega) (z : Int) (by omega) (by omega)
  have h4 : bits .and .u8 (z : Int) 1 = (z : Int) % 2 := by simpa using h3
  rw [h4]
  by_cases h : z % 2 = 1
  · have : (z : Int) % 2 = 1 := by omega
    rw [this, h]; rfl
  · have : (z : Int) % 2 = 0 := by omega
    rw [this]
    have h5 : z % 2 = 0 := by omega
    rw [h5]; rfl
theorem take_bits_next (xs : List Int) (n k : Nat) (h : k < n) : (bitsOf xs n).take (k + 1) = (bitsOf xs n).take k ++ [bitAt xs k] := by
  have hl : k < (bitsOf xs n).length := by rw [bitsOf_length]; exact h
  rw [List.take_succ_eq_append_getElem hl, bitsOf_get xs n k h]

set_option maxHeartbeats 2000000 in
theorem rbits_calls (w : World) (A : Option Addr) (c : Nat) (xs : List Int) (n : Nat) (hC : (Kd.int .u8).C w A xs.length xs) (hb : Byts xs) (hn : n ≤ 8 * xs.length) (hl : xs.length ≤ 1000000) :
    Calls Try.prog 32 #[.slice A xs.length c, .int .i64 n] w fun e w' => ∃ v, e = .returned v ∧ Kd.bool.R 4 w' w.heap.size (fun k => w.heap.size ≤ k) v (bitsOf xs n) ∧ Below w.heap.size w w' := by
  have HC := Lib.hid hC
  have HB := Lib.hid hb
  clear hC hb
  go_enter Try.func32, Try.ntmps32
  go_wp2
  have HR := Lib.hid (R_empty Kd.bool 4 w w.heap.size (fun k => w.heap.size ≤ k) (Nat.le_refl _) (Nat.le_refl _))
  have HBl := Lib.hid (below_alloc (Below.refl w.heap.size w) (.cells #[] 4))
  generalize w.alloc (.cells #[] 4) = w1 at HR HBl ⊢
  go_loopg [9, 5] n (fun kq s9 s5 wr => ∃ (k : Nat) (ts : List Bool), k + kq = n ∧ s9 = .int .i64 k ∧ ts.length = k ∧ Hid (ts = (bitsOf xs n).take k) ∧ Hid (Kd.bool.R 4 wr w.heap.size (fun k => w.heap.size ≤ k) s5 ts) ∧ Hid (Below w.heap.size w wr))
  case atStart => exact ⟨0, [], by omega, rfl, rfl, rfl, HR.out, HBl.out⟩
  case round =>
    obtain ⟨k, ts, hk, rfl, htl, hT, hR, hBr⟩ := hrel
    by_cases hlt : k < n
    · obtain ⟨q, hq⟩ : ∃ q, q = k / 8 := ⟨_, rfl⟩
      obtain ⟨r, hr⟩ : ∃ r, r = k % 8 := ⟨_, rfl⟩
      have hql : q < xs.length := by omega
      obtain ⟨ad, hA, hcell⟩ := C_at_int HC.out q hql
      subst hA
      obtain ⟨hx0, hx1⟩ := HB.out.get q hql
      have hcell2 : wr.cell? (ad.add q) = some (.int .u8 (xs.getD q 0)) := by
        rw [hBr.out.cell (World.block_lt_of_cell? w _ hcell)]
        exact hcell
      clear hcell
      have hbit := bit_get (xs.getD q 0) r hx0 hx1 (by omega)
      have hba : bitAt xs k = (xs.getD q 0).toNat.testBit (7 - r) := by unfold bitAt; rw [hq, hr]
      rw [← hba] at hbit
      obtain ⟨x, hx⟩ : ∃ x, x = xs.getD q 0 := ⟨_, rfl⟩
      rw [← hx] at hbit hcell2 hx0 hx1
      obtain ⟨b, hb⟩ : ∃ b, b = bitAt xs k := ⟨_, rfl⟩
      rw [← hb] at hbit
      have HBB := Lib.hid hb
      clear hx hba hb
      have e1 : ((k : Int) / 8).toNat = q := by omega
      have e2 : (7 - (k : Int) % 8).toNat = 7 - r := by omega
      have e3 : (0 : Int) ≤ (k : Int) / 8 := by omega
      have e4 : (k : Int) / 8 < (xs.length : Int) := by omega
      have e5 : (0 : Int) ≤ 7 - (k : Int) % 8 := by omega
      obtain ⟨A5, c5, hs5⟩ := Kd.R_slice hR.out
      subst hs5
      have hsz := hBr.out.size
      have hn8 : n ≤ 8000000 := by omega
      clear hq hr
      go_wp2_with (at_builtin; refine Kd.R_append Kd.bool (w0 := wr) (W := wr) w.heap.size rfl (.tmp 12) (.tmp 25) 23 4 (.bool false) 1 rfl Try.underlying23 info_bool rfl (by decide) (by decide) _ ts b [.bool b] (fun k => w.heap.size ≤ k) (fun _ => False) rfl rfl rfl (fun _ h => h.elim) (fun k hk => Nat.le_trans hsz hk) hR.out (Below.refl _ _) hsz (by omega) ?_; intro v1 w2 hR2 _ hg2 _; have HR2 := Lib.hid hR2; have HG2 := Lib.hid hg2; clear hR2 hg2)
      go_roundg (gk - 1)
      case measure => omega
      case rel =>
        refine ⟨k + 1, ts ++ [b], by omega, by go_num, by rw [List.length_append, htl]; rfl, ?_, HR2.out, hBr.out.trans (Mod.below (S := fun k => w.heap.size ≤ k) ((Mod.refl _ _).grown HG2.out (fun k hk => .inl (Kd.R_base hR.out k hk))) hsz (fun k hk => hk))⟩
        show ts ++ [b] = _
        rw [hT.out, HBB.out, take_bits_next xs n k hlt]
    · have hke : k = n := by omega
      go_wp2_with fail
      go_ret
      have hX : bitsOf xs n = ts := by rw [hT.out, List.take_of_length_le (by rw [bitsOf_length]; omega)]
      rw [hX]
      exact ⟨_, rfl, hR.out, hBr.out⟩
end Go.Proofs.Ytemkfkaggdpcjaa
