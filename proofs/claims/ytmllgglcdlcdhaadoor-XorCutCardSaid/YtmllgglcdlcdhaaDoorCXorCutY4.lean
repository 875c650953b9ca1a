import Derived.Test.YtmllgglcdlcdhaaDoorCXorCutB10
import Derived.Test.YtmllgglcdlcdhaaDoorShelf
import Derived.Test.YtmllgglcdlcdhaaDoorCXorCutB8p
import Derived.Lib.BitFns
import Derived.Lib.ItoaNum
import Derived.Lib.TrailingZeros
import Derived.Shelf.Spec.TrailingZeros
import Derived.RowKit
namespace Go.Proofs.YtmllgglcdlcdhaaDoor.Bq
end Go.Proofs.YtmllgglcdlcdhaaDoor.Bq
section
namespace Go.Proofs.YtmllgglcdlcdhaaDoor
open Go.RowKit Go.Proofs.YtmllgglcdlcdhaaDoorW.PrintWords Go.Proofs.YtmllgglcdlcdhaaDoorW.PrintMore Go.Proofs.YtmllgglcdlcdhaaDoorW.PrintLast Bq
set_option linter.unusedVariables false
set_option maxRecDepth 100000
set_option linter.unusedSimpArgs false
attribute [local go_sem ↓] Go.wp_at_zero Go.wp_at_succ
theorem lead_calls (n : Int) (w : World) (h0 : 0 ≤ n) (h1 : n ≤ 18446744073709551615) :
    Calls Tryd.prog 73 #[.int .u64 n] w fun e w' => e = .returned (.int .i64 (64 - (Lib.bitLen n.toNat : Int))) ∧ w = w' := by
  go_enter Tryd.func73, Tryd.ntmps73
  go_wp2_with (go_at_call 75; refine (Tryd.bits_LeadingZeros64 n _ h0 h1).mono ?_; rintro e w' ⟨rfl, rfl⟩)
  go_ret
  exact ⟨rfl, rfl⟩
theorem eq_take {xs ys : List Int} (h : xs.length = ys.length) (hk : xs.take xs.length = ys.take xs.length) : xs = ys := by
  rw [List.take_of_length_le (Nat.le_refl _), List.take_of_length_le (by omega)] at hk
  exact hk
theorem take_next_eq {xs ys : List Int} {k : Nat} (h1 : k < xs.length) (h2 : k < ys.length) (hk : xs.take k = ys.take k) (he : xs.getD k 0 = ys.getD k 0) : xs.take (k + 1) = ys.take (k + 1) := by
  rw [List.take_succ_eq_append_getElem h1, List.take_succ_eq_append_getElem h2, hk]
  rw [List.getD_eq_getElem?_getD, List.getD_eq_getElem?_getD, List.getElem?_eq_getElem h1, List.getElem?_eq_getElem h2] at he
  simp only [Option.getD_some] at he
  rw [he]
set_option maxHeartbeats 2000000 in
theorem requal_calls (w : World) (A B : Option Addr) (ca cb : Nat) (xs ys : List Int) (hA : (Kd.int .u8).C w A xs.length xs) (hB : (Kd.int .u8).C w B ys.length ys) (hs : xs.length ≤ 1000000000000) (ht : ys.length ≤ 1000000000000) :
    Calls Tryd.prog 14 #[.slice A xs.length ca, .slice B ys.length cb] w fun e w' => e = .returned (.bool (decide (xs = ys))) ∧ ∃ n, w' = w.drewN n := by
  have HA := Lib.hid hA
  have HB := Lib.hid hB
  clear hA hB
  by_cases hl : xs.length = ys.length
  · have hne : ((xs.length : Int) != (ys.length : Int)) = false := by simp [hl]
    have HL := Lib.hid hl
    go_enter Tryd.func14, Tryd.ntmps14
    go_wp2
    go_loopg [13] xs.length (fun kq s13 wr => ∃ (k m : Nat), wr = w.drewN m ∧ k + kq = xs.length ∧ s13 = .int .i64 k ∧ Hid (xs.take k = ys.take k))
    case atStart => exact ⟨0, 0, rfl, by omega, rfl, rfl⟩
    case round =>
      obtain ⟨k, m, rfl, hk, rfl, htk⟩ := hrel
      by_cases hlt : k < xs.length
      · obtain ⟨ad, hAa, hcell⟩ := C_at_int HA.out k hlt
        obtain ⟨bd, hBb, hcelb⟩ := C_at_int HB.out k (by rw [← HL.out]; exact hlt)
        subst hAa
        subst hBb
        have h2 : k < ys.length := by rw [← HL.out]; exact hlt
        obtain ⟨x, hx⟩ : ∃ x, x = xs.getD k 0 := ⟨_, rfl⟩
        obtain ⟨y, hy⟩ : ∃ y, y = ys.getD k 0 := ⟨_, rfl⟩
        rw [← hx] at hcell
        rw [← hy] at hcelb
        have HX := Lib.hid hx
        have HY := Lib.hid hy
        clear hx hy
        by_cases he : x = y
        · have HE := Lib.hid he
          have hq : (x != y) = false := by simp [he]
          clear he
          go_wp2
          go_quiet (fail)
          go_wp2
          go_roundg (gk - 1)
          case measure => omega
          case rel => exact ⟨k + 1, _, rfl, by omega, by go_num, take_next_eq hlt h2 htk.out (by rw [← HX.out, ← HY.out, HE.out])⟩
        · have HE := Lib.hid he
          have hq : (x != y) = true := by simp [he]
          clear he
          go_wp2
          go_quiet (fail)
          go_wp2
          go_ret
          refine ⟨?_, _, World.drewN_drewN _ _ _⟩
          rw [decide_eq_false (fun h => HE.out (by rw [HX.out, HY.out, h]))]
          rfl
      · have hge : (ys.length : Int) ≤ (k : Int) := by omega
        go_wp2
        go_ret
        refine ⟨?_, _, rfl⟩
        have : k = xs.length := by omega
        subst this
        rw [decide_eq_true (eq_take HL.out htk.out)]
        rfl
  · have hne : ((xs.length : Int) != (ys.length : Int)) = true := by simp; omega
    go_enter Tryd.func14, Tryd.ntmps14
    go_wp2
    go_ret
    exact ⟨by rw [decide_eq_false (fun h => hl (by rw [h]))]; rfl, 0, rfl⟩
end Go.Proofs.YtmllgglcdlcdhaaDoor
end
section
namespace Go.Proofs.YtmllgglcdlcdhaaDoor
open Go Go.RowKit Go.Proofs.YtmllgglcdlcdhaaDoorW.PrintWords Go.Proofs.YtmllgglcdlcdhaaDoorW.PrintMore Go.Proofs.YtmllgglcdlcdhaaDoorW.PrintLast Bq
set_option linter.unusedVariables false
set_option maxRecDepth 100000
set_option linter.unusedSimpArgs false
attribute [local go_sem ↓] Go.wp_at_zero Go.wp_at_succ
theorem below_lower {B B' : Nat} {w w1 : World} (h : Below B' w w1) (hB : B ≤ B') : Below B w w1 := ⟨h.os, h.tape, h.output, h.size, fun k hk => h.block k (by omega)⟩
theorem info_bool : (Tryd.prog.info? 4).map (fun i => (i.zero, i.size, i.bytes)) = some (some (.bool false), 1, 1) := by kernel_rfl
theorem bit_eq (n i : Nat) : (((n : Int) / 2 ^ i) % 2 == 1) = n.testBit i := by
  rw [Nat.testBit_eq_decide_div_mod_eq]
  have e : ((n : Int) / 2 ^ i) % 2 = ((n / 2 ^ i % 2 : Nat) : Int) := by simp
  rw [e]
  by_cases h : n / 2 ^ i % 2 = 1
  · rw [h]; rfl
  · have : n / 2 ^ i % 2 = 0 := by omega
    rw [this]; rfl
theorem take_nb_next (n w j : Nat) (h : j < w) : (nb n w).take (j + 1) = (nb n w).take j ++ [n.testBit (w - 1 - j)] := by
  have hl : j < (nb n w).length := by rw [nb_length]; exact h
  rw [List.take_succ_eq_append_getElem hl]
  have h2 := nb_get n w j h
  rw [List.getElem?_eq_getElem hl] at h2
  injection h2 with h2
  rw [h2]
set_option maxHeartbeats 2000000 in
theorem rput_calls (w : World) (base : Nat) (ok : Nat → Prop) (v : Value) (bs : List Bool) (n width : Nat) (hR : Kd.bool.R 4 w base ok v bs) (hbase : base ≤ w.heap.size) (hw : width ≤ 64) (hn : n < 18446744073709551616) (hl : bs.length ≤ 100000000) :
    Calls Tryd.prog 48 #[v, .int .u64 n, .int .i64 width] w fun e w' => ∃ v', e = .returned v' ∧ Kd.bool.R 4 w' base (fun k => ok k ∨ w.heap.size ≤ k) v' (bs ++ nb n width) ∧ Mod ok w w' := by
  have HR := Lib.hid hR
  clear hR
  go_enter Tryd.func48, Tryd.ntmps48
  go_wp2
  go_loopg [0, 7] width (fun kq s0 s7 wr => ∃ (j : Nat) (ts : List Bool), j + kq = width ∧ s7 = .int .i64 ((kq : Int) - 1) ∧ ts.length ≤ 100000000 + j ∧ Hid (ts = bs ++ (nb n width).take j) ∧ Hid (Kd.bool.R 4 wr base (fun k => ok k ∨ w.heap.size ≤ k) s0 ts) ∧ Hid (Mod ok w wr))
  case atStart => exact ⟨0, bs, by omega, rfl, by omega, by rw [List.take_zero, List.append_nil]; rfl, Kd.R_mono HR.out (fun _ h => .inl h), Mod.refl _ _⟩
  case round =>
    obtain ⟨j, ts, hj, rfl, hts, hT, hRr, hM⟩ := hrel
    obtain ⟨A, c, hs0⟩ := Kd.R_slice hRr.out
    subst hs0
    have hsz := hM.out.size
    by_cases hlt : 0 < gk
    · have e1 : (0 : Int) ≤ (gk : Int) - 1 := by omega
      have e2 : ((gk : Int) - 1).toNat = width - 1 - j := by omega
      have e4 : bits .and .u64 ((n : Int) / 2 ^ (width - 1 - j)) 1 = (n : Int) / 2 ^ (width - 1 - j) % 2 := by
        have h : (n : Int) / 2 ^ (width - 1 - j) = ((n / 2 ^ (width - 1 - j) : Nat) : Int) := by simp
        rw [h]
        have h2 := Nat.div_le_self n (2 ^ (width - 1 - j))
        generalize n / 2 ^ (width - 1 - j) = y at h2 ⊢
        exact and_one _ (by omega) (by omega)
      obtain ⟨b, hb⟩ : ∃ b, b = n.testBit (width - 1 - j) := ⟨_, rfl⟩
      have e5 : ((n : Int) / 2 ^ (width - 1 - j) % 2 == 1) = b := by rw [hb, bit_eq]
      have HBB := Lib.hid hb
      clear hb
      go_wp2_with (at_builtin; refine Kd.R_append Kd.bool (w0 := wr) (W := wr) base rfl (.tmp 14) (.tmp 21) 58 4 (.bool false) 1 rfl Tryd.underlying58 info_bool rfl (by decide) (by decide) _ ts b [.bool b] (fun k => ok k ∨ w.heap.size ≤ k) (fun _ => False) rfl rfl rfl (fun _ h => h.elim) (fun k hk => .inr (Nat.le_trans hsz hk)) hRr.out (Below.refl _ _) (Nat.le_trans hbase hsz) (by omega) ?_; intro v1 w2 hR2 _ hg2 _; have HR2 := Lib.hid hR2; have HG2 := Lib.hid hg2; clear hR2 hg2)
      go_roundg (gk - 1)
      case measure => omega
      case rel =>
        refine ⟨j + 1, ts ++ [b], by omega, by go_num, by rw [List.length_append]; simp; omega, ?_, HR2.out, hM.out.grown HG2.out (fun k hk => hRr.out.1 k hk)⟩
        show ts ++ [b] = _
        rw [hT.out, HBB.out, take_nb_next n width j (by omega), List.append_assoc]
    · have hg0 : gk = 0 := by omega
      subst hg0
      go_wp2_with fail
      go_ret
      refine ⟨_, rfl, ?_, hM.out⟩
      have hX : bs ++ nb n width = ts := by rw [hT.out, List.take_of_length_le (by rw [nb_length]; omega)]
      rw [hX]
      exact hRr.out
end Go.Proofs.YtmllgglcdlcdhaaDoor
end
section
namespace Go.Proofs.YtmllgglcdlcdhaaDoor
open Go.RowKit Go.Proofs.YtmllgglcdlcdhaaDoorW.PrintWords Go.Proofs.YtmllgglcdlcdhaaDoorW.PrintMore Go.Proofs.YtmllgglcdlcdhaaDoorW.PrintLast Bq
set_option linter.unusedVariables false
set_option maxRecDepth 100000
set_option linter.unusedSimpArgs false
attribute [local go_sem ↓] Go.wp_at_zero Go.wp_at_succ
end Go.Proofs.YtmllgglcdlcdhaaDoor
end
section
namespace Go.Proofs.YtmllgglcdlcdhaaDoor
open Go
set_option linter.unusedVariables false
theorem bitLen_is (x k : Nat) (h1 : 2 ^ k ≤ x) (h2 : x < 2 ^ (k + 1)) (hk : k < 64) : Lib.bitLen x = k + 1 := by
  have hx : x ≠ 0 := by
    have : 0 < 2 ^ k := Nat.pow_pos (by decide)
    omega
  have hx64 : x < 2 ^ 64 := Nat.lt_of_lt_of_le h2 (Nat.pow_le_pow_right (by decide) hk)
  obtain ⟨b1, b2, b3⟩ := Lib.bitLenAux_bounds 64 x hx64 hx
  have e : Lib.bitLen x = Lib.bitLenAux 64 x := rfl
  rw [e]
  generalize Lib.bitLenAux 64 x = L at b1 b2 b3 ⊢
  have g1 : k < L := by
    apply Nat.lt_of_not_le
    intro h
    have := Nat.pow_le_pow_right (n := 2) (by decide) h
    omega
  have g2 : L - 1 < k + 1 := by
    apply Nat.lt_of_not_le
    intro h
    have := Nat.pow_le_pow_right (n := 2) (by decide) h
    omega
  omega
theorem bitLen_bounds (x : Nat) (hx : x ≠ 0) (h : x < 2 ^ 64) : 1 ≤ Lib.bitLen x ∧ Lib.bitLen x ≤ 64 ∧ 2 ^ (Lib.bitLen x - 1) ≤ x ∧ x < 2 ^ Lib.bitLen x := by
  obtain ⟨b1, b2, b3⟩ := Lib.bitLenAux_bounds 64 x h hx
  exact ⟨b1, Lib.bitLen_le x 64 (Nat.le_refl _) h, b2, b3⟩
theorem odd_mod (c m i : Nat) (hc : c < i) : (2 ^ c * (2 * m + 1)) % 2 ^ i ≠ 0 := by
  intro h
  have h1 : 2 ^ (c + 1) ∣ 2 ^ c * (2 * m + 1) := Nat.dvd_trans (Nat.pow_dvd_pow 2 hc) (Nat.dvd_of_mod_eq_zero h)
  rw [Nat.pow_succ] at h1
  have h2 := Nat.dvd_of_mul_dvd_mul_left (Nat.pow_pos (n := c) (by decide)) h1
  omega
theorem ctz_is (n i : Nat) (hn : n < 2 ^ 64) (h0 : n % 2 ^ i = 0) (h1 : n.testBit i = true) : Lib.ctz 64 n = i := by
  rw [Nat.testBit_eq_decide_div_mod_eq] at h1
  have h1 := of_decide_eq_true h1
  have hn0 : n ≠ 0 := by
    rintro rfl
    simp at h1
  unfold Lib.ctz
  rw [if_neg hn0]
  obtain ⟨m, hm, hl⟩ := Lib.ctzFrom_spec 64 n (by omega) hn
  generalize Lib.ctzFrom 64 n = c at hm hl ⊢
  rcases Nat.lt_trichotomy c i with h | h | h
  · rw [hm] at h0
    exact absurd h0 (odd_mod c m i h)
  · exact h
  · exfalso
    have e : n / 2 ^ i = 2 ^ (c - i) * (2 * m + 1) := by
      have e2 : 2 ^ c = 2 ^ i * 2 ^ (c - i) := by rw [← Nat.pow_add]; congr 1; omega
      rw [hm, e2, Nat.mul_assoc, Nat.mul_div_cancel_left _ (Nat.pow_pos (by decide))]
    have e3 : 2 ^ (c - i) = 2 * 2 ^ (c - i - 1) := by rw [← Nat.pow_succ']; congr 1; omega
    rw [e, e3, Nat.mul_assoc, Nat.mul_mod_right] at h1
    omega
end Go.Proofs.YtmllgglcdlcdhaaDoor
end
section
namespace Go.Proofs.YtmllgglcdlcdhaaDoor
open Go.RowKit Go.Proofs.YtmllgglcdlcdhaaDoorW.PrintWords Go.Proofs.YtmllgglcdlcdhaaDoorW.PrintMore Go.Proofs.YtmllgglcdlcdhaaDoorW.PrintLast Bq
set_option linter.unusedVariables false
set_option maxRecDepth 100000
set_option linter.unusedSimpArgs false
attribute [local go_sem ↓] Go.wp_at_zero Go.wp_at_succ
theorem tz_core (n c idx : Nat) (w : World) (hx0 : ((n : Int) == 0) = false)
    (key : IntKind.u64.wrap (bits BinOp.and IntKind.u64 (n : Int) (IntKind.u64.wrap (-(n : Int))) * 285870213051353865) / 288230376151711744 = (idx : Int))
    (hi : idx < 64) (hk : c < 64) (hcell : w.cell? ⟨0, idx, none⟩ = some (.int .u8 c)) :
    Calls Tryd.prog 76 #[.int .u64 n] w fun e w' => e = .returned (.int .i64 c) ∧ w' = w := by
  go_enter Tryd.func76, Tryd.ntmps76
  go_wp2_with (simp only [key])
  go_ret
  exact ⟨rfl, rfl⟩
theorem tz_zero (w : World) : Calls Tryd.prog 76 #[.int .u64 0] w fun e w' => e = .returned (.int .i64 64) ∧ w' = w := by
  go_enter Tryd.func76, Tryd.ntmps76
  go_wp2
  go_ret
  exact ⟨rfl, rfl⟩
theorem tz_calls (n : Nat) (w : World) (hn : n < 18446744073709551616) (hT : TabAt 0 Lib.deBruijn64tab w) :
    Calls Tryd.prog 76 #[.int .u64 n] w fun e w' => e = .returned (.int .i64 (Lib.ctz 64 n)) ∧ w' = w := by
  by_cases h0 : n = 0
  · subst h0
    exact tz_zero w
  · obtain ⟨hlow, hk⟩ := Lib.lowest_bit 64 n h0 hn
    obtain ⟨hi, htab⟩ := Lib.deBruijn64_at _ hk
    have hcell := hT _ hi
    rw [htab] at hcell
    exact tz_core n _ _ w (by simp; omega) (tz64_key n _ hn h0 hlow) hi hk hcell
theorem trail_calls (n : Nat) (w : World) (hn : n < 18446744073709551616) (hT : TabAt 0 Lib.deBruijn64tab w) :
    Calls Tryd.prog 74 #[.int .u64 n] w fun e w' => e = .returned (.int .i64 (Lib.ctz 64 n)) ∧ w = w' := by
  have HT := Lib.hid hT
  clear hT
  go_enter Tryd.func74, Tryd.ntmps74
  go_wp2_with (go_at_call 76; refine (tz_calls n _ hn HT.out).mono ?_; rintro e w' ⟨rfl, rfl⟩)
  go_ret
  exact ⟨rfl, rfl⟩
end Go.Proofs.YtmllgglcdlcdhaaDoor
end
section
namespace Go.Proofs.YtmllgglcdlcdhaaDoor.Xs
open Go Go.RowKit Go.Proofs.YtmllgglcdlcdhaaDoor Bq
set_option linter.unusedVariables false
structure Win where
  set : Bool
  lead : Nat
  trail : Nat
def u64 (d : Int) : Nat := (d % 18446744073709551616).toNat
def tz : Nat → Nat → Nat
  | 0, _ => 0
  | f + 1, x => if x % 2 = 1 then 0 else 1 + tz f (x / 2)
def leadX (x : Nat) : Nat := min (63 - Nat.log2 x) 31
def trailX (x : Nat) : Nat := tz 64 x
theorem tz_dvd : ∀ (f x : Nat), 2 ^ tz f x ∣ x
  | 0, x => ⟨x, by simp [tz]⟩
  | f + 1, x => by
    unfold tz
    by_cases h : x % 2 = 1
    · rw [if_pos h]; exact ⟨x, by simp⟩
    · rw [if_neg h]
      obtain ⟨c, hc⟩ := tz_dvd f (x / 2)
      refine ⟨c, ?_⟩
      have e : x = 2 * (x / 2) := by omega
      rw [Nat.add_comm, Nat.pow_succ, Nat.mul_comm (2 ^ tz f (x / 2)) 2, Nat.mul_assoc, ← hc]
      exact e
theorem trail_le (x : Nat) (h0 : x ≠ 0) : trailX x ≤ Nat.log2 x := by
  have h : 2 ^ trailX x ≤ x := Nat.le_of_dvd (by omega) (tz_dvd 64 x)
  exact (Nat.le_log2 h0).2 h
theorem lead_lt (x : Nat) (h0 : x ≠ 0) (hx : x < 2 ^ 64) : x < 2 ^ (64 - leadX x) := by
  have h1 : Nat.log2 x < 64 := (Nat.log2_lt h0).2 hx
  have h2 : x < 2 ^ (Nat.log2 x + 1) := Nat.lt_log2_self
  refine Nat.lt_of_lt_of_le h2 (Nat.pow_le_pow_right (by decide) ?_)
  unfold leadX
  omega
theorem lead_trail (x : Nat) (h0 : x ≠ 0) (hx : x < 2 ^ 64) : leadX x + trailX x ≤ 63 := by
  have h1 : Nat.log2 x < 64 := (Nat.log2_lt h0).2 hx
  have h2 := trail_le x h0
  unfold leadX
  omega
theorem lead_le (x : Nat) : leadX x ≤ 31 := Nat.min_le_right _ _
def changeB (d : Int) : List Bool :=
  if d = 0 then nb 0 1
  else if -8191 ≤ d ∧ d ≤ 8192 then nb 2 2 ++ nb (u64 d) 14
  else if -65535 ≤ d ∧ d ≤ 65536 then nb 6 3 ++ nb (u64 d) 17
  else if -524287 ≤ d ∧ d ≤ 524288 then nb 14 4 ++ nb (u64 d) 20
  else nb 15 4 ++ nb (u64 d) 64
def turnB (x : Nat) (w : Win) : List Bool × Win :=
  if x = 0 then (nb 0 1, w)
  else if w.set = true ∧ w.lead ≤ leadX x ∧ w.trail ≤ trailX x then (nb 1 1 ++ (nb 0 1 ++ nb (x / 2 ^ w.trail) (64 - w.lead - w.trail)), w)
  else (nb 1 1 ++ (nb 1 1 ++ (nb (leadX x) 5 ++ (nb ((64 - leadX x - trailX x) % 64) 6 ++ nb (x / 2 ^ trailX x) (64 - leadX x - trailX x)))), ⟨true, leadX x, trailX x⟩)
def getX (w : Nat) (r : List Bool) : Except Int (Nat × List Bool) := if r.length < w then .error 6 else .ok (bnum (r.take w), r.drop w)
def signX (n w : Nat) : Int := if w < 64 ∧ 2 ^ (w - 1) < n then (n : Int) - 2 ^ w else wrap64 (n : Int)
def signR (w : Nat) (r : List Bool) : Except Int (Int × List Bool) := match getX w r with
  | .error e => .error e
  | .ok (n, r) => .ok (signX n w, r)
def changeR : List Nat → List Bool → Except Int (Int × List Bool)
  | [], r => signR 64 r
  | w :: ws, r => match getX 1 r with
    | .error e => .error e
    | .ok (n, r) => if n = 0 then (if w = 0 then .ok (0, r) else signR w r) else changeR ws r
def turnR (w : Win) (r : List Bool) : Except Int (Nat × Win × List Bool) := match getX 1 r with
  | .error e => .error e
  | .ok (n, r) => if n = 0 then .ok (0, w, r) else match getX 1 r with
    | .error e => .error e
    | .ok (n, r) => if n = 0 then (if w.set = true then (match getX (64 - w.lead - w.trail) r with
        | .error e => .error e
        | .ok (n, r) => .ok (n * 2 ^ w.trail, w, r)) else .error 8) else match getX 5 r with
      | .error e => .error e
      | .ok (l, r) => match getX 6 r with
        | .error e => .error e
        | .ok (m, r) => if 64 < l + (if m = 0 then 64 else m) then .error 8 else match getX (if m = 0 then 64 else m) r with
          | .error e => .error e
          | .ok (n, r) => .ok (n * 2 ^ (64 - l - (if m = 0 then 64 else m)), ⟨true, l, 64 - l - (if m = 0 then 64 else m)⟩, r)
theorem getX_nb (n w : Nat) (r : List Bool) : getX w (nb n w ++ r) = .ok (n % 2 ^ w, r) := by
  unfold getX
  have hl := nb_length n w
  rw [if_neg (by rw [List.length_append]; omega), List.take_left' hl, List.drop_left' hl, bnum_nb]
theorem u64_neg (d : Int) (h : -18446744073709551616 ≤ d ∧ d < 0) : (u64 d : Int) = d + 18446744073709551616 := by unfold u64; omega
theorem sign_back (d : Int) (w : Nat) (hw : 2 ≤ w ∧ w < 64) (h1 : -(2 ^ (w - 1) : Int) < d) (h2 : d ≤ 2 ^ (w - 1)) : signX (u64 d % 2 ^ w) w = d := by
  obtain ⟨m, rfl⟩ : ∃ m, w = m + 1 := ⟨w - 1, by omega⟩
  have hm : m < 63 := by omega
  simp only [Nat.add_sub_cancel] at h1 h2 ⊢
  have hp : (2 : Nat) ^ m ≤ 2 ^ 62 := Nat.pow_le_pow_right (by decide) (by omega)
  have hq : (2 : Nat) ^ (m + 1) = 2 * 2 ^ m := by rw [Nat.pow_succ]; omega
  have hpi : ((2 : Nat) ^ m : Nat) = ((2 : Int) ^ m) := by simp
  have hpos : 0 < (2 : Nat) ^ m := Nat.pos_of_ne_zero (by simp)
  have hqi : ((2 : Int) ^ (m + 1)) = 2 * ((2 ^ m : Nat) : Int) := by rw [Int.pow_succ, hpi]; omega
  rw [← hpi] at h1 h2
  have hd64 : (18446744073709551616 : Nat) = 2 ^ (m + 1) * 2 ^ (63 - m) := by rw [← Nat.pow_add, show m + 1 + (63 - m) = 64 by omega]
  obtain ⟨P, hP⟩ : ∃ P, P = 2 ^ m := ⟨_, rfl⟩
  rw [← hP] at hp hq hpos hqi h1 h2
  unfold signX
  by_cases hn : 0 ≤ d
  · have hu : u64 d = d.toNat := by unfold u64; rw [Int.emod_eq_of_lt hn (by omega)]
    rw [hu, hq, Nat.add_sub_cancel, ← hP, Nat.mod_eq_of_lt (by omega), if_neg (by omega)]
    unfold wrap64
    omega
  · have hu : u64 d = 18446744073709551616 - (-d).toNat := by have := u64_neg d (by omega); omega
    have hr : u64 d % 2 ^ (m + 1) = 2 * P - (-d).toNat := by
      rw [hu, hd64, hq]
      have hpp : 0 < 2 ^ (63 - m) := Nat.pos_of_ne_zero (by simp)
      have e : 2 * P * 2 ^ (63 - m) - (-d).toNat = (2 * P - (-d).toNat) + 2 * P * (2 ^ (63 - m) - 1) := by
        have : 2 * P * 2 ^ (63 - m) = 2 * P + 2 * P * (2 ^ (63 - m) - 1) := by
          obtain ⟨q, hq2⟩ : ∃ q, 2 ^ (63 - m) = q + 1 := ⟨2 ^ (63 - m) - 1, by omega⟩
          rw [hq2, Nat.mul_succ, Nat.add_sub_cancel, Nat.add_comm]
        omega
      rw [e, Nat.add_mul_mod_self_left, Nat.mod_eq_of_lt (by omega)]
    rw [hr, Nat.add_sub_cancel, ← hP, if_pos (by constructor <;> omega), hqi]
    omega
theorem change_back (d : Int) (hd : -9223372036854775808 ≤ d ∧ d ≤ 9223372036854775807) (r : List Bool) : changeR [0, 14, 17, 20] (changeB d ++ r) = .ok (d, r) := by
  unfold changeB
  split
  · rename_i h
    subst h
    rfl
  · split
    · rename_i h
      rw [List.append_assoc]
      show signR 14 (nb (u64 d) 14 ++ r) = _
      unfold signR
      rw [getX_nb]
      simp only
      rw [sign_back d 14 (by decide) (by omega) (by omega)]
    · split
      · rename_i h
        rw [List.append_assoc]
        show signR 17 (nb (u64 d) 17 ++ r) = _
        unfold signR
        rw [getX_nb]
        simp only
        rw [sign_back d 17 (by decide) (by omega) (by omega)]
      · split
        · rename_i h
          rw [List.append_assoc]
          show signR 20 (nb (u64 d) 20 ++ r) = _
          unfold signR
          rw [getX_nb]
          simp only
          rw [sign_back d 20 (by decide) (by omega) (by omega)]
        · rw [List.append_assoc]
          show signR 64 (nb (u64 d) 64 ++ r) = _
          unfold signR
          rw [getX_nb]
          simp only
          have e : signX (u64 d % 2 ^ 64) 64 = d := by
            unfold signX
            rw [if_neg (by omega)]
            unfold u64 wrap64
            omega
          rw [e]
def okW (w : Win) : Prop := w.set = true → w.lead + w.trail ≤ 63
theorem turnB_ok (x : Nat) (w : Win) (hx : x < 2 ^ 64) (hw : okW w) : okW (turnB x w).2 := by
  unfold turnB
  split
  · exact hw
  · rename_i h0
    split
    · exact hw
    · exact fun _ => lead_trail x h0 hx
theorem turn_back (x : Nat) (w : Win) (hx : x < 2 ^ 64) (hw : okW w) (r : List Bool) : turnR w ((turnB x w).1 ++ r) = .ok (x, (turnB x w).2, r) := by
  unfold turnB
  split
  · rename_i h
    subst h
    rfl
  · rename_i h0
    have hlt := lead_lt x h0 hx
    have hle := lead_trail x h0 hx
    have hl31 := lead_le x
    split
    · rename_i hc
      obtain ⟨c1, c2, c3⟩ := hc
      have hww := hw c1
      simp only [List.append_assoc]
      unfold turnR
      rw [getX_nb]
      simp only
      rw [if_neg (by decide), getX_nb]
      simp only
      rw [if_pos (by decide)]
      rw [if_pos c1, getX_nb]
      simp only
      have hdv : 2 ^ w.trail ∣ x := Nat.dvd_trans (Nat.pow_dvd_pow 2 c3) (tz_dvd 64 x)
      have hsm : x / 2 ^ w.trail < 2 ^ (64 - w.lead - w.trail) := by
        rw [Nat.div_lt_iff_lt_mul (Nat.pos_of_ne_zero (by simp)), ← Nat.pow_add]
        refine Nat.lt_of_lt_of_le hlt (Nat.pow_le_pow_right (by decide) (by omega))
      rw [Nat.mod_eq_of_lt hsm, Nat.div_mul_cancel hdv]
    · obtain ⟨L, hL⟩ : ∃ L, L = leadX x := ⟨_, rfl⟩
      obtain ⟨T, hT⟩ : ∃ T, T = trailX x := ⟨_, rfl⟩
      rw [← hL] at hlt hle hl31
      rw [← hT] at hle
      rw [← hL, ← hT]
      have hdv : 2 ^ T ∣ x := by rw [hT]; exact tz_dvd 64 x
      have hsm : x / 2 ^ T < 2 ^ (64 - L - T) := by
        rw [Nat.div_lt_iff_lt_mul (Nat.pos_of_ne_zero (by simp)), ← Nat.pow_add]
        refine Nat.lt_of_lt_of_le hlt (Nat.pow_le_pow_right (by decide) (by omega))
      have hm : (if (64 - L - T) % 64 = 0 then 64 else (64 - L - T) % 64) = 64 - L - T := by split <;> omega
      simp only [List.append_assoc]
      unfold turnR
      rw [getX_nb]
      simp only
      rw [if_neg (by decide), getX_nb]
      simp only
      rw [if_neg (by decide)]
      rw [getX_nb]
      simp only
      rw [getX_nb]
      simp only
      rw [Nat.mod_eq_of_lt (show L < 2 ^ 5 by omega), Nat.mod_eq_of_lt (show (64 - L - T) % 64 < 2 ^ 6 by omega), hm, if_neg (by omega), getX_nb]
      simp only
      rw [Nat.mod_eq_of_lt hsm, show 64 - L - (64 - L - T) = T by omega, Nat.div_mul_cancel hdv]
end Go.Proofs.YtmllgglcdlcdhaaDoor.Xs
end
section
namespace Go.Proofs.YtmllgglcdlcdhaaDoor.Xs
open Go Go.RowKit Go.Proofs.YtmllgglcdlcdhaaDoor Bq
set_option linter.unusedVariables false
theorem leadX_is (x : Nat) (h0 : x ≠ 0) (hx : x < 2 ^ 64) : leadX x = min (64 - Lib.bitLen x) 31 := by
  have h1 : Nat.log2 x < 64 := (Nat.log2_lt h0).2 hx
  rw [bitLen_is x (Nat.log2 x) (Nat.log2_self_le h0) Nat.lt_log2_self h1]
  unfold leadX
  omega
theorem tz_odd : ∀ (f x : Nat), x ≠ 0 → x < 2 ^ f → x / 2 ^ tz f x % 2 = 1
  | 0, x, h0, hx => absurd hx (by simp; omega)
  | f + 1, x, h0, hx => by
    unfold tz
    by_cases h : x % 2 = 1
    · rw [if_pos h]; simpa using h
    · rw [if_neg h, Nat.add_comm, Nat.pow_succ, Nat.mul_comm, ← Nat.div_div_eq_div_mul]
      exact tz_odd f (x / 2) (by omega) (by rw [Nat.pow_succ] at hx; omega)
theorem trailX_is (x : Nat) (h0 : x ≠ 0) (hx : x < 2 ^ 64) : trailX x = Lib.ctz 64 x := by
  refine (ctz_is x (trailX x) hx (Nat.mod_eq_zero_of_dvd (tz_dvd 64 x)) ?_).symm
  rw [Nat.testBit_eq_decide_div_mod_eq]
  exact decide_eq_true (tz_odd 64 x h0 hx)
end Go.Proofs.YtmllgglcdlcdhaaDoor.Xs
end
section
namespace Go.Proofs.YtmllgglcdlcdhaaDoor
open Bq
set_option linter.unusedVariables false
theorem p128 (k : Nat) : 128 ^ (k + 1) = 128 * 128 ^ k := by rw [Nat.pow_succ, Nat.mul_comm]
theorem k_lt {n k : Nat} (h : n * 128 ^ k < 18446744073709551616) (hk : k = 0 ∨ 0 < n) : k < 10 := by
  rcases hk with rfl | hk
  · decide
  · apply Nat.lt_of_not_le
    intro h10
    have h1 : 128 ^ 10 ≤ 128 ^ k := Nat.pow_le_pow_right (by decide) h10
    have h2 : 1 * 128 ^ k ≤ n * 128 ^ k := Nat.mul_le_mul_right _ hk
    have h3 : (128 : Nat) ^ 10 = 1180591620717411303424 := by decide
    omega
theorem k9 {n k : Nat} (h : n * 128 ^ k < 18446744073709551616) (hk : k = 9) : n ≤ 1 := by
  subst hk
  have h3 : (128 : Nat) ^ 9 = 9223372036854775808 := by decide
  rw [h3] at h
  omega
theorem step128 {n k : Nat} (h : n * 128 ^ k < 18446744073709551616) : n / 128 * 128 ^ (k + 1) < 18446744073709551616 := by
  rw [p128, ← Nat.mul_assoc]
  exact Nat.lt_of_le_of_lt (Nat.mul_le_mul_right _ (Nat.div_mul_le_self n 128)) h
theorem sum128 (n k : Nat) : n % 128 * 128 ^ k + n / 128 * 128 ^ (k + 1) = n * 128 ^ k := by
  rw [p128, ← Nat.mul_assoc, ← Nat.add_mul]
  congr 1
  omega
theorem ug_uv (rest : List Int) : ∀ (b n k acc : Nat), n ≤ b → n * 128 ^ k < 18446744073709551616 → (k = 0 ∨ 0 < n) →
    ug k acc (ints (uv n) ++ rest) = (((acc + n * 128 ^ k : Nat) : Int), ((k + (uv n).length : Nat) : Int), 0) := by
  intro b
  induction b with
  | zero =>
    intro n k acc hb h hk
    have hn : n = 0 := by omega
    subst hn
    have hk0 : k = 0 := by omega
    subst hk0
    rw [uv_small 0 (by decide)]
    simp [ints, ug]
  | succ b ih =>
    intro n k acc hb h hk
    have hk10 := k_lt h hk
    by_cases hn : n < 128
    · rw [uv_small n hn]
      show ug k acc ((n : Int) :: rest) = _
      rw [ug, if_neg (by omega), if_neg (by
        rintro ⟨h9, h1⟩
        have := k9 h h9
        omega), if_pos (by omega), if_neg (by
        rintro ⟨h1, h2⟩
        omega)]
      simp
    · rw [uv_big n (by omega)]
      show ug k acc (((n % 128 + 128 : Nat) : Int) :: (ints (uv (n / 128)) ++ rest)) = _
      rw [ug, if_neg (by omega), if_neg (by
        rintro ⟨h9, h1⟩
        have := k9 h h9
        omega), if_neg (by omega)]
      have e : (((n % 128 + 128 : Nat) : Int).toNat - 128) = n % 128 := by omega
      rw [e, ih (n / 128) (k + 1) _ (by omega) (step128 h) (.inr (by omega)), Nat.add_assoc acc, sum128, List.length_cons, Nat.add_assoc k 1, Nat.add_comm 1]
theorem uget_uv (n : Nat) (h : n < 18446744073709551616) (rest : List Int) : uget (ints (uv n) ++ rest) = ((n : Int), ((uv n).length : Int), 0) := by
  have := ug_uv rest n n 0 0 (Nat.le_refl _) (by simpa using h) (.inl rfl)
  simpa [uget] using this
theorem ug_cut : ∀ (b n k acc i : Nat), n ≤ b → n * 128 ^ k < 18446744073709551616 → (k = 0 ∨ 0 < n) → i < (uv n).length →
    (ug k acc ((ints (uv n)).take i)).2.2 = 6 := by
  intro b
  induction b with
  | zero =>
    intro n k acc i hb h hk hi
    have hn : n = 0 := by omega
    subst hn
    have hk0 : k = 0 := by omega
    subst hk0
    rw [uv_small 0 (by decide)] at hi ⊢
    have hi0 : i = 0 := by simpa using hi
    subst hi0
    simp [ints, ug]
  | succ b ih =>
    intro n k acc i hb h hk hi
    have hk10 := k_lt h hk
    cases i with
    | zero => simp [ug, hk10]
    | succ i =>
      by_cases hn : n < 128
      · rw [uv_small n hn] at hi
        simp at hi
      · rw [uv_big n (by omega)] at hi ⊢
        show (ug k acc (((n % 128 + 128 : Nat) : Int) :: (ints (uv (n / 128))).take i)).2.2 = 6
        rw [ug, if_neg (by omega), if_neg (by
          rintro ⟨h9, h1⟩
          have := k9 h h9
          omega), if_neg (by omega)]
        exact ih (n / 128) (k + 1) _ i (by omega) (step128 h) (.inr (by omega)) (by simpa using hi)
theorem uget_cut (n : Nat) (h : n < 18446744073709551616) (i : Nat) (hi : i < (uv n).length) : (uget ((ints (uv n)).take i)).2.2 = 6 :=
  ug_cut n n 0 0 i (Nat.le_refl _) (by simpa using h) (.inl rfl) hi
end Go.Proofs.YtmllgglcdlcdhaaDoor
end
section
namespace Go.Proofs.YtmllgglcdlcdhaaDoor.Xs
open Go Go.RowKit Go.Proofs.YtmllgglcdlcdhaaDoor Bq
set_option linter.unusedVariables false
def bytesB (l : List Int) : List Bool := l.flatMap (fun x => nb x.toNat 8)
theorem bytesB_cons (x : Int) (l : List Int) : bytesB (x :: l) = nb x.toNat 8 ++ bytesB l := rfl
def fewR : Nat → List Int → List Bool → Except Int (Int × List Bool)
  | 0, _, _ => .error 8
  | f + 1, b, r => match getX 8 r with
    | .error e => .error e
    | .ok (x, r) => if (uget (b ++ [(x : Int)])).2.2 = 0 then .ok ((uget (b ++ [(x : Int)])).1, r) else if (uget (b ++ [(x : Int)])).2.2 = 6 then fewR f (b ++ [(x : Int)]) r else .error 8
theorem few_from (n : Nat) (h : n < 18446744073709551616) (r : List Bool) : ∀ (d i f : Nat), i + (d + 1) = (uv n).length → d < f →
    fewR f ((ints (uv n)).take i) (bytesB ((ints (uv n)).drop i) ++ r) = .ok ((n : Int), r)
  | d, i, 0, hi, hf => absurd hf (Nat.not_lt_zero _)
  | d, i, f + 1, hi, hf => by
    have hl : (ints (uv n)).length = (uv n).length := by simp [ints]
    have hil : i < (ints (uv n)).length := by omega
    obtain ⟨x, hx⟩ : ∃ x, x = (ints (uv n))[i] := ⟨_, rfl⟩
    have hxb : 0 ≤ x ∧ x < 256 := by
      have hm : x ∈ ints (uv n) := by rw [hx]; exact List.getElem_mem _
      obtain ⟨y, hy, rfl⟩ := List.mem_map.1 hm
      have := uv_lt n y hy
      omega
    have hxn : ((x.toNat : Nat) : Int) = x := by omega
    have ht : (ints (uv n)).take i ++ [x] = (ints (uv n)).take (i + 1) := by rw [hx, List.take_append_getElem hil]
    rw [List.drop_eq_getElem_cons hil, ← hx, bytesB_cons, List.append_assoc]
    unfold fewR
    rw [getX_nb]
    simp only
    rw [Nat.mod_eq_of_lt (show x.toNat < 2 ^ 8 by omega), hxn, ht]
    by_cases he : d = 0
    · subst he
      have e1 : (ints (uv n)).take (i + 1) = ints (uv n) ++ [] := by rw [List.append_nil]; exact List.take_of_length_le (by omega)
      have e2 : (ints (uv n)).drop (i + 1) = [] := List.drop_eq_nil_iff.2 (by omega)
      rw [e1, uget_uv n h [], if_pos rfl, e2]
      rfl
    · have hc := uget_cut n h (i + 1) (by omega)
      rw [if_neg (by rw [hc]; decide), if_pos hc]
      obtain ⟨d', rfl⟩ : ∃ d', d = d' + 1 := ⟨d - 1, by omega⟩
      exact few_from n h r d' (i + 1) f (by omega) (by omega)
theorem few_back (n : Nat) (h : n < 18446744073709551616) (r : List Bool) : fewR 11 [] (bytesB (ints (uv n)) ++ r) = .ok ((n : Int), r) := by
  have hp := uv_pos n
  have hl := uv_len10 n h
  exact few_from n h r ((uv n).length - 1) 0 11 (by omega) (by omega)
structure St where
  n : Nat
  t : Int
  v : Nat
  step : Nat
  w : Win
def addB (s : St) (t : Int) (v : Nat) : List Bool × St :=
  if s.n = 0 then (bytesB (ints (uv (zigI t).toNat)) ++ nb v 64, ⟨1, t, v, 0, s.w⟩)
  else if s.n = 1 then (bytesB (ints (uv (u64 (t - s.t)))) ++ (turnB (v ^^^ s.v) s.w).1, ⟨2, t, v, u64 (t - s.t), (turnB (v ^^^ s.v) s.w).2⟩)
  else (changeB (wrap64 ((u64 (t - s.t) : Int) - s.step)) ++ (turnB (v ^^^ s.v) s.w).1, ⟨s.n + 1, t, v, u64 (t - s.t), (turnB (v ^^^ s.v) s.w).2⟩)
def nextR (s : St) (r : List Bool) : Except Int ((Int × Nat) × St × List Bool) :=
  if s.n = 0 then (match fewR 11 [] r with
    | .error e => .error e
    | .ok (u, r) => match getX 64 r with
      | .error e => .error e
      | .ok (v, r) => .ok ((zagI u, v), ⟨1, zagI u, v, 0, s.w⟩, r))
  else if s.n = 1 then (match fewR 11 [] r with
    | .error e => .error e
    | .ok (u, r) => match turnR s.w r with
      | .error e => .error e
      | .ok (x, w, r) => .ok ((wrap64 (s.t + u), s.v ^^^ x), ⟨2, wrap64 (s.t + u), s.v ^^^ x, u.toNat, w⟩, r))
  else (match changeR [0, 14, 17, 20] r with
    | .error e => .error e
    | .ok (d, r) => match turnR s.w r with
      | .error e => .error e
      | .ok (x, w, r) => .ok ((wrap64 (s.t + u64 (s.step + d)), s.v ^^^ x), ⟨s.n + 1, wrap64 (s.t + u64 (s.step + d)), s.v ^^^ x, u64 (s.step + d), w⟩, r))
structure OkS (s : St) : Prop where
  t : -9223372036854775808 ≤ s.t ∧ s.t ≤ 9223372036854775807
  v : s.v < 2 ^ 64
  step : s.step < 18446744073709551616
  w : okW s.w
theorem u64_lt (d : Int) : u64 d < 18446744073709551616 := by unfold u64; omega
theorem addB_ok {s : St} (h : OkS s) (t : Int) (v : Nat) (ht : -9223372036854775808 ≤ t ∧ t ≤ 9223372036854775807) (hv : v < 2 ^ 64) : OkS (addB s t v).2 := by
  have hx : v ^^^ s.v < 2 ^ 64 := Nat.xor_lt_two_pow hv h.v
  unfold addB
  split
  · exact ⟨ht, hv, (by show (0 : Nat) < 18446744073709551616; decide), h.w⟩
  · split
    · exact ⟨ht, hv, u64_lt _, turnB_ok _ _ hx h.w⟩
    · exact ⟨ht, hv, u64_lt _, turnB_ok _ _ hx h.w⟩
theorem zig_lt (t : Int) (ht : -9223372036854775808 ≤ t ∧ t ≤ 9223372036854775807) : (zigI t).toNat < 18446744073709551616 ∧ ((zigI t).toNat : Int) = zigI t := by
  unfold zigI
  split <;> omega
theorem t_back (t o : Int) (ht : -9223372036854775808 ≤ t ∧ t ≤ 9223372036854775807) (ho : -9223372036854775808 ≤ o ∧ o ≤ 9223372036854775807) : wrap64 (o + u64 (t - o)) = t := by
  unfold u64 wrap64
  omega
theorem step_back (a b : Nat) (ha : a < 18446744073709551616) (hb : b < 18446744073709551616) : u64 ((b : Int) + wrap64 ((a : Int) - b)) = a := by
  unfold u64 wrap64
  omega
theorem next_back {s : St} (h : OkS s) (t : Int) (v : Nat) (ht : -9223372036854775808 ≤ t ∧ t ≤ 9223372036854775807) (hv : v < 2 ^ 64) (r : List Bool) : nextR s ((addB s t v).1 ++ r) = .ok ((t, v), (addB s t v).2, r) := by
  have hx : v ^^^ s.v < 2 ^ 64 := Nat.xor_lt_two_pow hv h.v
  have hxx : s.v ^^^ (v ^^^ s.v) = v := by rw [Nat.xor_comm v, ← Nat.xor_assoc, Nat.xor_self, Nat.zero_xor]
  unfold addB nextR
  by_cases h0 : s.n = 0
  · simp only [if_pos h0, List.append_assoc]
    obtain ⟨z1, z2⟩ := zig_lt t ht
    rw [few_back _ z1]
    simp only
    rw [getX_nb]
    simp only
    rw [z2, zag_zig, Nat.mod_eq_of_lt hv]
  · simp only [if_neg h0]
    by_cases h1 : s.n = 1
    · simp only [if_pos h1, List.append_assoc]
      rw [few_back _ (u64_lt _)]
      simp only
      rw [turn_back _ _ hx h.w]
      simp only
      rw [hxx, t_back t s.t ht h.t]
      rfl
    · simp only [if_neg h1, List.append_assoc]
      have hd := wrap64_wf ((u64 (t - s.t) : Int) - s.step)
      have hdb : -9223372036854775808 ≤ wrap64 ((u64 (t - s.t) : Int) - s.step) ∧ wrap64 ((u64 (t - s.t) : Int) - s.step) ≤ 9223372036854775807 := by unfold wrap64; omega
      rw [change_back _ hdb]
      simp only
      rw [turn_back _ _ hx h.w]
      simp only
      rw [hxx, step_back _ _ (u64_lt _) h.step, t_back t s.t ht h.t]
def allB : St → List (Int × Nat) → List Bool
  | _, [] => []
  | s, x :: l => (addB s x.1 x.2).1 ++ allB (addB s x.1 x.2).2 l
def allR : Nat → St → List Bool → Except Int (List (Int × Nat) × List Bool)
  | 0, _, r => .ok ([], r)
  | n + 1, s, r => match nextR s r with
    | .error e => .error e
    | .ok (x, s, r) => match allR n s r with
      | .error e => .error e
      | .ok (l, r) => .ok (x :: l, r)
def st0 : St := ⟨0, 0, 0, 0, ⟨false, 0, 0⟩⟩
theorem st0_ok : OkS st0 := ⟨by decide, by decide, by decide, fun h => by cases h⟩
def SmpOk (x : Int × Nat) : Prop := (-9223372036854775808 ≤ x.1 ∧ x.1 ≤ 9223372036854775807) ∧ x.2 < 2 ^ 64
theorem all_back : ∀ (l : List (Int × Nat)) (s : St), OkS s → (∀ x ∈ l, SmpOk x) → ∀ r, allR l.length s (allB s l ++ r) = .ok (l, r)
  | [], s, _, _, r => rfl
  | x :: l, s, h, hl, r => by
    have hx := hl x (List.mem_cons_self ..)
    show (match nextR s (((addB s x.1 x.2).1 ++ allB (addB s x.1 x.2).2 l) ++ r) with
      | Except.error e => Except.error e
      | Except.ok (x, s, r) => match allR l.length s r with
        | Except.error e => Except.error e
        | Except.ok (l, r) => Except.ok (x :: l, r) : Except Int (List (Int × Nat) × List Bool)) = _
    rw [List.append_assoc, next_back h x.1 x.2 hx.1 hx.2]
    simp only
    rw [all_back l _ (addB_ok h x.1 x.2 hx.1 hx.2) (fun y hy => hl y (List.mem_cons_of_mem _ hy)) r]
def packB (l : List (Int × Nat)) : List Bool := nb l.length 16 ++ allB st0 l
def unpackR (r : List Bool) : Except Int (List (Int × Nat) × List Bool) := match getX 16 r with
  | .error e => .error e
  | .ok (n, r) => allR n st0 r
theorem unpack_back (l : List (Int × Nat)) (hn : l.length < 65536) (hl : ∀ x ∈ l, SmpOk x) (r : List Bool) : unpackR (packB l ++ r) = .ok (l, r) := by
  unfold unpackR packB
  rw [List.append_assoc, getX_nb]
  simp only
  rw [Nat.mod_eq_of_lt (show l.length < 2 ^ 16 by omega)]
  exact all_back l st0 st0_ok hl r
end Go.Proofs.YtmllgglcdlcdhaaDoor.Xs
end
section
namespace Go.Proofs.YtmllgglcdlcdhaaDoor.Xs
open Go Go.RowKit Go.Proofs.YtmllgglcdlcdhaaDoor Bq
set_option linter.unusedVariables false
theorem getX_ext {w : Nat} {r : List Bool} {n : Nat} {r' : List Bool} (h : getX w r = .ok (n, r')) (q : List Bool) : getX w (r ++ q) = .ok (n, r' ++ q) := by
  unfold getX at h ⊢
  split at h
  · cases h
  · rename_i hl
    injection h with h
    injection h with h1 h2
    rw [if_neg (by rw [List.length_append]; omega), List.take_append_of_le_length (by omega), List.drop_append_of_le_length (by omega), h1, h2]
theorem signR_ext {w : Nat} {r : List Bool} {d : Int} {r' : List Bool} (h : signR w r = .ok (d, r')) (q : List Bool) : signR w (r ++ q) = .ok (d, r' ++ q) := by
  unfold signR at h ⊢
  cases hg : getX w r with
  | error e => rw [hg] at h; cases h
  | ok v =>
    obtain ⟨n, r1⟩ := v
    rw [hg] at h
    rw [getX_ext hg]
    simp only at h ⊢
    injection h with h
    injection h with h1 h2
    rw [h1, h2]
theorem changeR_ext : ∀ (ws : List Nat) {r : List Bool} {d : Int} {r' : List Bool} (h : changeR ws r = .ok (d, r')) (q : List Bool), changeR ws (r ++ q) = .ok (d, r' ++ q)
  | [], r, d, r', h, q => signR_ext h q
  | w :: ws, r, d, r', h, q => by
    unfold changeR at h ⊢
    cases hg : getX 1 r with
    | error e => rw [hg] at h; cases h
    | ok v =>
      obtain ⟨n, r1⟩ := v
      rw [hg] at h
      rw [getX_ext hg]
      simp only at h ⊢
      by_cases hn : n = 0
      · rw [if_pos hn] at h ⊢
        by_cases hw : w = 0
        · rw [if_pos hw] at h ⊢
          injection h with h
          injection h with h1 h2
          rw [h1, h2]
        · rw [if_neg hw] at h ⊢
          exact signR_ext h q
      · rw [if_neg hn] at h ⊢
        exact changeR_ext ws h q
theorem turnR_ext {w : Win} {r : List Bool} {x : Nat} {w' : Win} {r' : List Bool} (h : turnR w r = .ok (x, w', r')) (q : List Bool) : turnR w (r ++ q) = .ok (x, w', r' ++ q) := by
  unfold turnR at h ⊢
  cases hg : getX 1 r with
  | error e => rw [hg] at h; cases h
  | ok v =>
    obtain ⟨n, r1⟩ := v
    rw [hg] at h
    rw [getX_ext hg]
    simp only at h ⊢
    by_cases hn : n = 0
    · rw [if_pos hn] at h ⊢
      injection h with h
      injection h with h1 h2
      injection h2 with h2 h3
      rw [h1, h2, h3]
    · rw [if_neg hn] at h ⊢
      cases hg2 : getX 1 r1 with
      | error e => rw [hg2] at h; cases h
      | ok v =>
        obtain ⟨n2, r2⟩ := v
        rw [hg2] at h
        rw [getX_ext hg2]
        simp only at h ⊢
        by_cases hn2 : n2 = 0
        · rw [if_pos hn2] at h ⊢
          by_cases hs : w.set = true
          · rw [if_pos hs] at h ⊢
            cases hg3 : getX (64 - w.lead - w.trail) r2 with
            | error e => rw [hg3] at h; cases h
            | ok v =>
              obtain ⟨n3, r3⟩ := v
              rw [hg3] at h
              rw [getX_ext hg3]
              simp only at h ⊢
              injection h with h
              injection h with h1 h2
              injection h2 with h2 h3
              rw [h1, h2, h3]
          · rw [if_neg hs] at h
            cases h
        · rw [if_neg hn2] at h ⊢
          cases hg3 : getX 5 r2 with
          | error e => rw [hg3] at h; cases h
          | ok v =>
            obtain ⟨l, r3⟩ := v
            rw [hg3] at h
            rw [getX_ext hg3]
            simp only at h ⊢
            cases hg4 : getX 6 r3 with
            | error e => rw [hg4] at h; cases h
            | ok v =>
              obtain ⟨m, r4⟩ := v
              rw [hg4] at h
              rw [getX_ext hg4]
              simp only at h ⊢
              by_cases hb : 64 < l + (if m = 0 then 64 else m)
              · rw [if_pos hb] at h
                cases h
              · rw [if_neg hb] at h ⊢
                cases hg5 : getX (if m = 0 then 64 else m) r4 with
                | error e => rw [hg5] at h; cases h
                | ok v =>
                  obtain ⟨y, r5⟩ := v
                  rw [hg5] at h
                  rw [getX_ext hg5]
                  simp only at h ⊢
                  injection h with h
                  injection h with h1 h2
                  injection h2 with h2 h3
                  rw [h1, h2, h3]
theorem fewR_ext : ∀ (f : Nat) (b : List Int) {r : List Bool} {u : Int} {r' : List Bool} (h : fewR f b r = .ok (u, r')) (q : List Bool), fewR f b (r ++ q) = .ok (u, r' ++ q)
  | 0, b, r, u, r', h, q => by cases h
  | f + 1, b, r, u, r', h, q => by
    unfold fewR at h ⊢
    cases hg : getX 8 r with
    | error e => rw [hg] at h; cases h
    | ok v =>
      obtain ⟨x, r1⟩ := v
      rw [hg] at h
      rw [getX_ext hg]
      simp only at h ⊢
      by_cases h0 : (uget (b ++ [(x : Int)])).2.2 = 0
      · rw [if_pos h0] at h ⊢
        injection h with h
        injection h with h1 h2
        rw [h1, h2]
      · rw [if_neg h0] at h ⊢
        by_cases h6 : (uget (b ++ [(x : Int)])).2.2 = 6
        · rw [if_pos h6] at h ⊢
          exact fewR_ext f _ h q
        · rw [if_neg h6] at h
          cases h
theorem nextR_ext {s : St} {r : List Bool} {x : Int × Nat} {s' : St} {r' : List Bool} (h : nextR s r = .ok (x, s', r')) (q : List Bool) : nextR s (r ++ q) = .ok (x, s', r' ++ q) := by
  unfold nextR at h ⊢
  by_cases h0 : s.n = 0
  · rw [if_pos h0] at h ⊢
    cases hg : fewR 11 [] r with
    | error e => rw [hg] at h; cases h
    | ok v =>
      obtain ⟨u, r1⟩ := v
      rw [hg] at h
      rw [fewR_ext _ _ hg]
      simp only at h ⊢
      cases hg2 : getX 64 r1 with
      | error e => rw [hg2] at h; cases h
      | ok v =>
        obtain ⟨y, r2⟩ := v
        rw [hg2] at h
        rw [getX_ext hg2]
        simp only at h ⊢
        injection h with h
        injection h with h1 h2
        injection h2 with h2 h3
        rw [h1, h2, h3]
  · rw [if_neg h0] at h ⊢
    by_cases h1 : s.n = 1
    · rw [if_pos h1] at h ⊢
      cases hg : fewR 11 [] r with
      | error e => rw [hg] at h; cases h
      | ok v =>
        obtain ⟨u, r1⟩ := v
        rw [hg] at h
        rw [fewR_ext _ _ hg]
        simp only at h ⊢
        cases hg2 : turnR s.w r1 with
        | error e => rw [hg2] at h; cases h
        | ok v =>
          obtain ⟨y, w2, r2⟩ := v
          rw [hg2] at h
          rw [turnR_ext hg2]
          simp only at h ⊢
          injection h with h
          injection h with h1 h2
          injection h2 with h2 h3
          rw [h1, h2, h3]
    · rw [if_neg h1] at h ⊢
      cases hg : changeR [0, 14, 17, 20] r with
      | error e => rw [hg] at h; cases h
      | ok v =>
        obtain ⟨u, r1⟩ := v
        rw [hg] at h
        rw [changeR_ext _ hg]
        simp only at h ⊢
        cases hg2 : turnR s.w r1 with
        | error e => rw [hg2] at h; cases h
        | ok v =>
          obtain ⟨y, w2, r2⟩ := v
          rw [hg2] at h
          rw [turnR_ext hg2]
          simp only at h ⊢
          injection h with h
          injection h with h1 h2
          injection h2 with h2 h3
          rw [h1, h2, h3]
theorem allR_ext : ∀ (n : Nat) (s : St) {r : List Bool} {l : List (Int × Nat)} {r' : List Bool} (h : allR n s r = .ok (l, r')) (q : List Bool), allR n s (r ++ q) = .ok (l, r' ++ q)
  | 0, s, r, l, r', h, q => by
    unfold allR at h ⊢
    injection h with h
    injection h with h1 h2
    rw [h1, h2]
  | n + 1, s, r, l, r', h, q => by
    unfold allR at h ⊢
    cases hg : nextR s r with
    | error e => rw [hg] at h; cases h
    | ok v =>
      obtain ⟨x, s1, r1⟩ := v
      rw [hg] at h
      rw [nextR_ext hg]
      simp only at h ⊢
      cases hg2 : allR n s1 r1 with
      | error e => rw [hg2] at h; cases h
      | ok v =>
        obtain ⟨l2, r2⟩ := v
        rw [hg2] at h
        rw [allR_ext n s1 hg2]
        simp only at h ⊢
        injection h with h
        injection h with h1 h2
        rw [h1, h2]
theorem unpackR_ext {r : List Bool} {l : List (Int × Nat)} {r' : List Bool} (h : unpackR r = .ok (l, r')) (q : List Bool) : unpackR (r ++ q) = .ok (l, r' ++ q) := by
  unfold unpackR at h ⊢
  cases hg : getX 16 r with
  | error e => rw [hg] at h; cases h
  | ok v =>
    obtain ⟨n, r1⟩ := v
    rw [hg] at h
    rw [getX_ext hg]
    simp only at h ⊢
    exact allR_ext n st0 h q
end Go.Proofs.YtmllgglcdlcdhaaDoor.Xs
end
section
namespace Go.Proofs.YtmllgglcdlcdhaaDoor.Xs
open Go Go.RowKit Go.Proofs.YtmllgglcdlcdhaaDoor Bq
set_option linter.unusedVariables false
def packL (l : List (Int × Nat)) : List Int := packI (packB l)
def getL (b : List Int) : Except Int (List (Int × Nat)) := match unpackR (bitsOf b (8 * b.length)) with
  | .error e => .error e
  | .ok (l, _) => if packL l = b then .ok l else .error 8
theorem bitsOf_take (xs : List Int) (n k : Nat) (h : k ≤ n) : (bitsOf xs n).take k = bitsOf xs k := by
  unfold bitsOf
  rw [← List.map_take, List.take_range, Nat.min_eq_left h]
theorem bitsOf_app (xs ys : List Int) : bitsOf (xs ++ ys) (8 * xs.length) = bitsOf xs (8 * xs.length) := by
  unfold bitsOf
  refine List.map_congr_left fun i hi => ?_
  have hi := List.mem_range.1 hi
  unfold bitAt
  rw [List.getD_eq_getElem?_getD, List.getD_eq_getElem?_getD, List.getElem?_append_left (by omega)]
theorem bitsOf_longer (xs ys : List Int) : ∃ q, bitsOf (xs ++ ys) (8 * (xs ++ ys).length) = bitsOf xs (8 * xs.length) ++ q := by
  refine ⟨(bitsOf (xs ++ ys) (8 * (xs ++ ys).length)).drop (8 * xs.length), ?_⟩
  have h := List.take_append_drop (8 * xs.length) (bitsOf (xs ++ ys) (8 * (xs ++ ys).length))
  rw [bitsOf_take _ _ _ (by rw [List.length_append]; omega), bitsOf_app] at h
  exact h.symm
theorem bits_pack (bs : List Bool) : ∃ q, bitsOf (packI bs) (8 * (packI bs).length) = bs ++ q := by
  have hl : bs.length ≤ 8 * (packI bs).length := by unfold packI; rw [ints_length, pack_length]; omega
  refine ⟨(bitsOf (packI bs) (8 * (packI bs).length)).drop bs.length, ?_⟩
  have h := List.take_append_drop bs.length (bitsOf (packI bs) (8 * (packI bs).length))
  rw [bitsOf_take _ _ _ hl, bitsOf_pack] at h
  exact h.symm
theorem unpack_pack (l : List (Int × Nat)) (hn : l.length < 65536) (hl : ∀ x ∈ l, SmpOk x) (more : List Int) : ∃ q, unpackR (bitsOf (packL l ++ more) (8 * (packL l ++ more).length)) = .ok (l, q) := by
  obtain ⟨q1, h1⟩ := bitsOf_longer (packL l) more
  obtain ⟨q2, h2⟩ := bits_pack (packB l)
  rw [h1]
  unfold packL
  rw [h2, List.append_assoc]
  exact ⟨_, unpack_back l hn hl _⟩
theorem get_more (l : List (Int × Nat)) (hn : l.length < 65536) (hl : ∀ x ∈ l, SmpOk x) (more : List Int) : getL (packL l ++ more) = if more = [] then .ok l else .error 8 := by
  obtain ⟨q, h⟩ := unpack_pack l hn hl more
  unfold getL
  rw [h]
  simp only
  by_cases hm : more = []
  · subst hm
    rw [if_pos rfl, if_pos (by simp)]
  · rw [if_neg hm, if_neg (fun e => hm (by have := congrArg List.length e; rw [List.length_append] at this; exact List.eq_nil_of_length_eq_zero (by omega)))]
theorem get_back (l : List (Int × Nat)) (hn : l.length < 65536) (hl : ∀ x ∈ l, SmpOk x) : getL (packL l) = .ok l := by
  have h := get_more l hn hl []
  rw [List.append_nil, if_pos rfl] at h
  exact h
theorem put_back {b : List Int} {l : List (Int × Nat)} (h : getL b = .ok l) : packL l = b := by
  unfold getL at h
  cases hg : unpackR (bitsOf b (8 * b.length)) with
  | error e => rw [hg] at h; cases h
  | ok v =>
    obtain ⟨l2, r⟩ := v
    rw [hg] at h
    simp only at h
    by_cases he : packL l2 = b
    · rw [if_pos he] at h
      injection h with h
      rw [← h, he]
    · rw [if_neg he] at h
      cases h
theorem get_cut (l : List (Int × Nat)) (hn : l.length < 65536) (hl : ∀ x ∈ l, SmpOk x) (c : Nat) (hc : c < (packL l).length) : ∃ e, getL ((packL l).take c) = .error e := by
  cases hg : getL ((packL l).take c) with
  | error e => exact ⟨e, rfl⟩
  | ok x =>
    exfalso
    have hx := put_back hg
    have hlen : ((packL l).take c).length = c := by rw [List.length_take]; omega
    obtain ⟨q, hq⟩ := bitsOf_longer ((packL l).take c) ((packL l).drop c)
    rw [List.take_append_drop] at hq
    obtain ⟨q2, h2⟩ := unpack_pack l hn hl []
    rw [List.append_nil, hq] at h2
    unfold getL at hg
    cases hu : unpackR (bitsOf ((packL l).take c) (8 * ((packL l).take c).length)) with
    | error e => rw [hu] at hg; cases hg
    | ok v =>
      obtain ⟨y, r⟩ := v
      rw [hu] at hg
      simp only at hg
      have hy : y = x := by
        by_cases he : packL y = (packL l).take c
        · rw [if_pos he] at hg
          injection hg
        · rw [if_neg he] at hg
          cases hg
      rw [unpackR_ext hu] at h2
      injection h2 with h2
      injection h2 with h2 h3
      rw [← hy, h2] at hx
      have := congrArg List.length hx
      omega
theorem bytesB_length (l : List Int) : (bytesB l).length = 8 * l.length := by
  induction l with
  | nil => rfl
  | cons x l ih => rw [bytesB_cons, List.length_append, nb_length, ih, List.length_cons]; omega
end Go.Proofs.YtmllgglcdlcdhaaDoor.Xs
end
section
namespace Go.Proofs.YtmllgglcdlcdhaaDoor.Xs
open Go Go.RowKit Go.Proofs.YtmllgglcdlcdhaaDoor Bq
set_option linter.unusedVariables false
theorem wrapu (n : Int) : IntKind.u64.wrap n = ((u64 n : Nat) : Int) := by rw [wrap_u64']; unfold u64; omega
theorem u_sub (a b : Int) : IntKind.u64.wrap (IntKind.u64.wrap a - IntKind.u64.wrap b) = ((u64 (a - b) : Nat) : Int) := by
  rw [wrap_u64', wrap_u64', wrap_u64']; unfold u64; omega
theorem t_add (a : Int) (b : Int) : wrap64 (IntKind.u64.wrap (IntKind.u64.wrap a + b)) = wrap64 (a + b) := by
  rw [wrap_u64', wrap_u64']; unfold wrap64; omega
theorem step_add (a d : Int) : IntKind.u64.wrap (a + IntKind.u64.wrap d) = ((u64 (a + d) : Nat) : Int) := by
  rw [wrap_u64', wrap_u64']; unfold u64; omega
theorem and_mask (n k : Nat) (hn : n < 18446744073709551616) (hk : k < 64) : bits .and .u64 (n : Int) ((2 ^ k - 1 : Nat) : Int) = ((n % 2 ^ k : Nat) : Int) := by
  have h1 : (2 : Nat) ^ k ≤ 2 ^ 63 := Nat.pow_le_pow_right (by decide) (by omega)
  have hA : (BitVec.ofInt 64 (n : Int)).toNat = n := by rw [BitVec.toNat_ofInt]; omega
  have hB : (BitVec.ofInt 64 ((2 ^ k - 1 : Nat) : Int)).toNat = 2 ^ k - 1 := by rw [BitVec.toNat_ofInt]; omega
  show IntKind.u64.wrap (((BitVec.ofInt 64 (n : Int)) &&& (BitVec.ofInt 64 ((2 ^ k - 1 : Nat) : Int))).toNat : Int) = _
  rw [BitVec.toNat_and, hA, hB, Nat.and_two_pow_sub_one_eq_mod, wrap_u64']
  have : n % 2 ^ k ≤ n := Nat.mod_le _ _
  omega
theorem sign_form (n w : Nat) (hw : w < 64) (hn : n < 2 ^ w) : signX n w = if 2 ^ (w - 1) < n then (n : Int) - 2 ^ w else (n : Int) := by
  unfold signX
  have h : (2 : Nat) ^ w ≤ 2 ^ 63 := Nat.pow_le_pow_right (by decide) (by omega)
  by_cases hc : 2 ^ (w - 1) < n
  · rw [if_pos ⟨hw, hc⟩, if_pos hc]
  · rw [if_neg (fun h => hc h.2), if_neg hc]
    unfold wrap64
    omega
theorem xor_u (a b : Nat) (ha : a < 18446744073709551616) (hb : b < 18446744073709551616) : bits .xor .u64 (a : Int) (b : Int) = ((a ^^^ b : Nat) : Int) := by
  have hA : (BitVec.ofInt 64 (a : Int)).toNat = a := by rw [BitVec.toNat_ofInt]; omega
  have hB : (BitVec.ofInt 64 (b : Int)).toNat = b := by rw [BitVec.toNat_ofInt]; omega
  show IntKind.u64.wrap (((BitVec.ofInt 64 (a : Int)) ^^^ (BitVec.ofInt 64 (b : Int))).toNat : Int) = _
  rw [BitVec.toNat_xor, hA, hB, wrap_u64']
  have : a ^^^ b < 2 ^ 64 := Nat.xor_lt_two_pow (by omega) (by omega)
  omega
theorem change_len (d : Int) : (changeB d).length ≤ 68 := by
  unfold changeB
  repeat' split
  all_goals simp [nb_length]
theorem turn_len (x : Nat) (w : Win) (hw : okW w) (hx : x < 2 ^ 64) : (turnB x w).1.length ≤ 77 := by
  unfold turnB
  split
  · simp [nb_length]
  · split
    · simp only [List.length_append, nb_length]; omega
    · simp only [List.length_append, nb_length]; omega
theorem add_len {s : St} (h : OkS s) (t : Int) (v : Nat) (ht : -9223372036854775808 ≤ t ∧ t ≤ 9223372036854775807) (hv : v < 2 ^ 64) : (addB s t v).1.length ≤ 157 := by
  have hx : v ^^^ s.v < 2 ^ 64 := Nat.xor_lt_two_pow hv h.v
  have h1 := uv_len10 _ (zig_lt t ht).1
  have h2 := uv_len10 _ (u64_lt (t - s.t))
  have h3 := turn_len (v ^^^ s.v) s.w h.w hx
  have h4 := change_len (wrap64 ((u64 (t - s.t) : Int) - s.step))
  have i1 : (ints (uv (zigI t).toNat)).length = (uv (zigI t).toNat).length := by simp [ints]
  have i2 : (ints (uv (u64 (t - s.t)))).length = (uv (u64 (t - s.t))).length := by simp [ints]
  unfold addB
  split
  · simp only [List.length_append, bytesB_length, nb_length]; omega
  · split
    · simp only [List.length_append, bytesB_length]; omega
    · simp only [List.length_append]; omega
theorem all_len : ∀ (l : List (Int × Nat)) (s : St), OkS s → (∀ x ∈ l, SmpOk x) → (allB s l).length ≤ 157 * l.length
  | [], s, _, _ => Nat.le_refl _
  | x :: l, s, h, hl => by
    have hx := hl x (List.mem_cons_self ..)
    have h1 := add_len h x.1 x.2 hx.1 hx.2
    have h2 := all_len l _ (addB_ok h x.1 x.2 hx.1 hx.2) (fun y hy => hl y (List.mem_cons_of_mem _ hy))
    show ((addB s x.1 x.2).1 ++ allB (addB s x.1 x.2).2 l).length ≤ _
    rw [List.length_append, List.length_cons]
    omega
end Go.Proofs.YtmllgglcdlcdhaaDoor.Xs
end
section
namespace Go.Proofs.YtmllgglcdlcdhaaDoor
open Go Go.RowKit Go.Proofs.YtmllgglcdlcdhaaDoorW.PrintWords Go.Proofs.YtmllgglcdlcdhaaDoorW.PrintMore Go.Proofs.YtmllgglcdlcdhaaDoorW.PrintLast Bq Xs
set_option linter.unusedVariables false
set_option maxRecDepth 100000
set_option linter.unusedSimpArgs false
attribute [local go_sem ↓] Go.wp_at_zero Go.wp_at_succ
abbrev pkCells (g : Nat) (s : St) : Array Value := #[.pointer (some ⟨g, 0, none⟩), .int .i64 (s.n : Nat), .int .i64 s.t, .int .u64 (s.v : Nat), .int .u64 (s.step : Nat), .int .i64 (s.w.lead : Nat), .int .i64 (s.w.trail : Nat), .bool s.w.set]
structure Pk (w0 w : World) (ok : Nat → Prop) (p g : Nat) (bs : List Bool) (s : St) : Prop where
  blk : w.heap[p]? = some (.cells (pkCells g s) 88 (0, 0))
  wr : Wr w ok g bs
  okp : ¬ ok p
  fr : ∀ k, w.heap.size ≤ k → ok k
  lo : ∀ k, ok k → w0.heap.size ≤ k
  lp : w0.heap.size ≤ p
  bel : Below w0.heap.size w0 w
theorem Pk.drewN {w0 w : World} {ok : Nat → Prop} {p g : Nat} {bs : List Bool} {s : St} (h : Pk w0 w ok p g bs s) (n : Nat) : Pk w0 (w.drewN n) ok p g bs s :=
  ⟨h.blk, h.wr.drewN n, h.okp, h.fr, h.lo, h.lp, pw_below_drewN h.bel n⟩
theorem Pk.ptr {w0 w : World} {ok : Nat → Prop} {p g : Nat} {bs : List Bool} {s : St} (h : Pk w0 w ok p g bs s) : w.cell? ⟨p, 0, none⟩ = some (.pointer (some ⟨g, 0, none⟩)) := (blk_cell h.blk 0).trans rfl
theorem wr_put (w : World) (ok : Nat → Prop) (g : Nat) (bs : List Bool) (n width : Nat) (h : Wr w ok g bs) (hn : n < 18446744073709551616) (hw : width ≤ 64) (hx : width = 64 ∨ n < 2 ^ width) (hl : bs.length + width ≤ 8388608) :
    Calls Tryd.prog 45 #[.pointer (some ⟨g, 0, none⟩), .int .u64 (n : Nat), .int .i64 (width : Nat)] w fun e w' => e = .returned (.int .i64 0) ∧ Wr w' (fun k => ok k ∨ w.heap.size ≤ k) g (bs ++ nb n width) ∧ Mod ok w w' := by
  have hb : badW (width : Nat) n = false := by
    unfold badW
    rw [decide_eq_false (by omega), decide_eq_false (show ¬ (64 : Int) < (width : Nat) by omega)]
    rcases hx with hx | hx
    · rw [decide_eq_false (show ¬ ((width : Nat) : Int) < 64 by omega)]; rfl
    · rw [Int.toNat_natCast, Nat.div_eq_of_lt hx]; simp
  have hE : putE bs.length (width : Nat) n = 0 := by
    unfold putE
    rw [hb, if_neg (by decide), if_neg (by omega)]
  refine (put_calls w ok g bs n (width : Nat) h (by omega) hn (by omega) (by omega)).mono ?_
  rintro e w' ⟨rfl, h1, h2⟩
  unfold putBits at h1
  rw [if_pos hE, Int.toNat_natCast] at h1
  exact ⟨by rw [hE], h1, h2⟩
theorem Pk.put {w0 w : World} {ok : Nat → Prop} {p g : Nat} {bs : List Bool} {s : St} (h : Pk w0 w ok p g bs s) (n width : Nat) (hn : n < 18446744073709551616) (hw : width ≤ 64) (hx : width = 64 ∨ n < 2 ^ width) (hl : bs.length + width ≤ 8388608) :
    Calls Tryd.prog 45 #[.pointer (some ⟨g, 0, none⟩), .int .u64 (n : Nat), .int .i64 (width : Nat)] w fun e w' => e = .returned (.int .i64 0) ∧ Pk w0 w' ok p g (bs ++ nb n width) s ∧ Mod ok w w' := by
  refine (wr_put w ok g bs n width h.wr hn hw hx hl).mono ?_
  rintro e w' ⟨rfl, h1, h2⟩
  exact ⟨rfl, ⟨h2.blk h.blk h.okp, h1.mono (fun k hk => hk.elim id (h.fr k)), h.okp, fun k hk => h.fr k (Nat.le_trans h2.size hk), h.lo, h.lp, h.bel.trans (h2.below h.bel.size h.lo)⟩, h2⟩
theorem wr_putI (w : World) (ok : Nat → Prop) (g : Nat) (bs : List Bool) (N V : Int) (n width : Nat) (eN : N = (n : Nat)) (eV : V = (width : Nat)) (h : Wr w ok g bs) (hn : n < 18446744073709551616) (hw : width ≤ 64) (hx : width = 64 ∨ n < 2 ^ width) (hl : bs.length + width ≤ 8388608) :
    Calls Tryd.prog 45 #[.pointer (some ⟨g, 0, none⟩), .int .u64 N, .int .i64 V] w fun e w' => e = .returned (.int .i64 0) ∧ Wr w' (fun k => ok k ∨ w.heap.size ≤ k) g (bs ++ nb n width) ∧ Mod ok w w' := by
  subst eN eV
  exact wr_put w ok g bs n width h hn hw hx hl
theorem Pk.putI {w0 w : World} {ok : Nat → Prop} {p g : Nat} {bs : List Bool} {s : St} (h : Pk w0 w ok p g bs s) (N V : Int) (n width : Nat) (eN : N = (n : Nat)) (eV : V = (width : Nat)) (hn : n < 18446744073709551616) (hw : width ≤ 64) (hx : width = 64 ∨ n < 2 ^ width) (hl : bs.length + width ≤ 8388608) :
    Calls Tryd.prog 45 #[.pointer (some ⟨g, 0, none⟩), .int .u64 N, .int .i64 V] w fun e w' => e = .returned (.int .i64 0) ∧ Pk w0 w' ok p g (bs ++ nb n width) s ∧ Mod ok w w' := by
  subst eN eV
  exact h.put n width hn hw hx hl
theorem Pk.window {w0 w : World} {ok : Nat → Prop} {p g : Nat} {bs : List Bool} {s : St} (h : Pk w0 w ok p g bs s) (L T : Nat) :
    Pk w0 (((w.setCell ⟨p, 5, none⟩ (.int .i64 (L : Nat))).setCell ⟨p, 6, none⟩ (.int .i64 (T : Nat))).setCell ⟨p, 7, none⟩ (.bool true)) ok p g bs ⟨s.n, s.t, s.v, s.step, ⟨true, L, T⟩⟩ ∧ Mod (fun k => k = p) w (((w.setCell ⟨p, 5, none⟩ (.int .i64 (L : Nat))).setCell ⟨p, 6, none⟩ (.int .i64 (T : Nat))).setCell ⟨p, 7, none⟩ (.bool true)) := by
  have hm : Mod (fun k => k = p) w (((w.setCell ⟨p, 5, none⟩ (.int .i64 (L : Nat))).setCell ⟨p, 6, none⟩ (.int .i64 (T : Nat))).setCell ⟨p, 7, none⟩ (.bool true)) :=
    (((Mod.refl (fun k => k = p) w).setCell (p := ⟨p, 5, none⟩) (.inl rfl) _).setCell (p := ⟨p, 6, none⟩) (.inl rfl) _).setCell (p := ⟨p, 7, none⟩) (.inl rfl) _
  exact ⟨⟨blk_put (blk_put (blk_put h.blk 5 _ rfl) 6 _ rfl) 7 _ rfl, h.wr.kept hm (fun k ho _ e => h.okp (e ▸ ho)), h.okp, fun k hk => h.fr k (Nat.le_trans hm.size hk), h.lo, h.lp, h.bel.trans (hm.below h.bel.size (fun k e => by rw [e]; exact h.lp))⟩, hm⟩
theorem Pk.last {w0 w : World} {ok : Nat → Prop} {p g : Nat} {bs : List Bool} {s : St} (h : Pk w0 w ok p g bs s) (n v step : Nat) (t : Int) :
    Pk w0 ((((w.setCell ⟨p, 4, none⟩ (.int .u64 (step : Nat))).setCell ⟨p, 2, none⟩ (.int .i64 t)).setCell ⟨p, 3, none⟩ (.int .u64 (v : Nat))).setCell ⟨p, 1, none⟩ (.int .i64 (n : Nat))) ok p g bs ⟨n, t, v, step, s.w⟩ := by
  have hm : Mod (fun k => k = p) w ((((w.setCell ⟨p, 4, none⟩ (.int .u64 (step : Nat))).setCell ⟨p, 2, none⟩ (.int .i64 t)).setCell ⟨p, 3, none⟩ (.int .u64 (v : Nat))).setCell ⟨p, 1, none⟩ (.int .i64 (n : Nat))) :=
    ((((Mod.refl (fun k => k = p) w).setCell (p := ⟨p, 4, none⟩) (.inl rfl) _).setCell (p := ⟨p, 2, none⟩) (.inl rfl) _).setCell (p := ⟨p, 3, none⟩) (.inl rfl) _).setCell (p := ⟨p, 1, none⟩) (.inl rfl) _
  exact ⟨blk_put (blk_put (blk_put (blk_put h.blk 4 _ rfl) 2 _ rfl) 3 _ rfl) 1 _ rfl, h.wr.kept hm (fun k ho _ e => h.okp (e ▸ ho)), h.okp, fun k hk => h.fr k (Nat.le_trans hm.size hk), h.lo, h.lp, h.bel.trans (hm.below h.bel.size (fun k e => by rw [e]; exact h.lp))⟩
set_option maxHeartbeats 2000000 in
theorem change_calls (w0 w : World) (ok : Nat → Prop) (p g : Nat) (bs : List Bool) (s : St) (d : Int) (hd : -9223372036854775808 ≤ d ∧ d ≤ 9223372036854775807) (h : Pk w0 w ok p g bs s) (hl : bs.length + 68 ≤ 8388608) :
    Calls Tryd.prog 66 #[.pointer (some ⟨p, 0, none⟩), .int .i64 d] w fun e w' => e = .returned (.tuple #[]) ∧ Pk w0 w' ok p g (bs ++ changeB d) s ∧ Mod ok w w' := by
  have c0 := h.ptr
  have H := Lib.hid h
  clear h
  obtain ⟨u, hu⟩ : ∃ u : Nat, u = u64 d := ⟨_, rfl⟩
  have hu2 : u < 18446744073709551616 := by rw [hu]; exact u64_lt d
  have hw : IntKind.u64.wrap d = (u : Int) := by rw [hu]; exact wrapu d
  by_cases h0 : d = 0
  · have HE : Hid (changeB d = nb 0 1) := by unfold Hid changeB; rw [if_pos h0]
    subst h0
    clear hw hu
    go_enter Tryd.func66, Tryd.ntmps66
    go_wp2_with fail
    refine (H.out.put 0 1 (by decide) (by decide) (by decide) (by omega)).mono ?_
    rintro e w1 ⟨rfl, h1, m1⟩
    have H1 := Lib.hid h1
    have M1 := Lib.hid m1
    clear h1 m1
    go_wp2_with fail
    go_end0
    exact ⟨rfl, by rw [HE.out]; exact H1.out, M1.out⟩
  · have hb0 : (d == 0) = false := beq_false_of_ne h0
    by_cases h1 : -8191 ≤ d ∧ d ≤ 8192
    · have HE : Hid (changeB d = nb 2 2 ++ nb u 14) := by unfold Hid changeB; rw [if_neg h0, if_pos h1, ← hu]
      obtain ⟨h1a, h1b⟩ := h1
      obtain ⟨q, hq⟩ : ∃ q : Nat, q = u % 16384 := ⟨_, rfl⟩
      have hq2 : q < 2 ^ 14 := by omega
      have ha : bits .and .u64 (u : Int) 16383 = (q : Int) := by rw [hq]; exact and_mask u 14 hu2 (by decide)
      have HQ : Hid (nb q 14 = nb u 14) := by unfold Hid; rw [hq]; exact nb_mod u 14
      clear hu hq
      go_enter Tryd.func66, Tryd.ntmps66
      go_wp2_with fail
      refine (H.out.put 2 2 (by decide) (by decide) (by decide) (by omega)).mono ?_
      rintro e w1 ⟨rfl, h1, m1⟩
      have H1 := Lib.hid h1
      have M1 := Lib.hid m1
      have c1 := h1.ptr
      clear h1 m1
      go_wp2_with fail
      refine (H1.out.put q 14 (by omega) (by decide) (.inr hq2) (by rw [List.length_append, nb_length]; omega)).mono ?_
      rintro e w2 ⟨rfl, h2, m2⟩
      have H2 := Lib.hid h2
      have M2 := Lib.hid m2
      clear h2 m2
      go_wp2_with fail
      go_end0
      refine ⟨rfl, ?_, M1.out.trans M2.out (fun _ _ h => h)⟩
      rw [HE.out, ← HQ.out, ← List.append_assoc]
      exact H2.out
    · have n0 := h1
      clear h1
      have t0 : (d ≥ -8191 ∧ ¬ d ≤ 8192) ∨ ¬ d ≥ -8191 := by omega
      by_cases h1 : -65535 ≤ d ∧ d ≤ 65536
      · have HE : Hid (changeB d = nb 6 3 ++ nb u 17) := by unfold Hid changeB; rw [if_neg h0, if_neg n0, if_pos h1, ← hu]
        obtain ⟨h1a, h1b⟩ := h1
        obtain ⟨q, hq⟩ : ∃ q : Nat, q = u % 131072 := ⟨_, rfl⟩
        have hq2 : q < 2 ^ 17 := by omega
        have ha : bits .and .u64 (u : Int) 131071 = (q : Int) := by rw [hq]; exact and_mask u 17 hu2 (by decide)
        have HQ : Hid (nb q 17 = nb u 17) := by unfold Hid; rw [hq]; exact nb_mod u 17
        clear hu hq
        rcases t0 with ⟨e1, e2⟩ | e1
        · go_enter Tryd.func66, Tryd.ntmps66
          go_wp2_with fail
          refine (H.out.put 6 3 (by decide) (by decide) (by decide) (by omega)).mono ?_
          rintro e w1 ⟨rfl, h1, m1⟩
          have H1 := Lib.hid h1
          have M1 := Lib.hid m1
          have c1 := h1.ptr
          clear h1 m1
          go_wp2_with fail
          refine (H1.out.put q 17 (by omega) (by decide) (.inr hq2) (by rw [List.length_append, nb_length]; omega)).mono ?_
          rintro e w2 ⟨rfl, h2, m2⟩
          have H2 := Lib.hid h2
          have M2 := Lib.hid m2
          clear h2 m2
          go_wp2_with fail
          go_end0
          refine ⟨rfl, ?_, M1.out.trans M2.out (fun _ _ h => h)⟩
          rw [HE.out, ← HQ.out, ← List.append_assoc]
          exact H2.out
        · go_enter Tryd.func66, Tryd.ntmps66
          go_wp2_with fail
          refine (H.out.put 6 3 (by decide) (by decide) (by decide) (by omega)).mono ?_
          rintro e w1 ⟨rfl, h1, m1⟩
          have H1 := Lib.hid h1
          have M1 := Lib.hid m1
          have c1 := h1.ptr
          clear h1 m1
          go_wp2_with fail
          refine (H1.out.put q 17 (by omega) (by decide) (.inr hq2) (by rw [List.length_append, nb_length]; omega)).mono ?_
          rintro e w2 ⟨rfl, h2, m2⟩
          have H2 := Lib.hid h2
          have M2 := Lib.hid m2
          clear h2 m2
          go_wp2_with fail
          go_end0
          refine ⟨rfl, ?_, M1.out.trans M2.out (fun _ _ h => h)⟩
          rw [HE.out, ← HQ.out, ← List.append_assoc]
          exact H2.out
      · have n1 := h1
        clear h1
        have t1 : (d ≥ -65535 ∧ ¬ d ≤ 65536) ∨ ¬ d ≥ -65535 := by omega
        by_cases h1 : -524287 ≤ d ∧ d ≤ 524288
        · have HE : Hid (changeB d = nb 14 4 ++ nb u 20) := by unfold Hid changeB; rw [if_neg h0, if_neg n0, if_neg n1, if_pos h1, ← hu]
          obtain ⟨h1a, h1b⟩ := h1
          obtain ⟨q, hq⟩ : ∃ q : Nat, q = u % 1048576 := ⟨_, rfl⟩
          have hq2 : q < 2 ^ 20 := by omega
          have ha : bits .and .u64 (u : Int) 1048575 = (q : Int) := by rw [hq]; exact and_mask u 20 hu2 (by decide)
          have HQ : Hid (nb q 20 = nb u 20) := by unfold Hid; rw [hq]; exact nb_mod u 20
          clear hu hq
          rcases t1 with ⟨e1, e2⟩ | e1
          · have f0a : d ≥ -8191 := by omega
            have f0b : ¬ d ≤ 8192 := by omega
            clear t0
            go_enter Tryd.func66, Tryd.ntmps66
            go_wp2_with fail
            refine (H.out.put 14 4 (by decide) (by decide) (by decide) (by omega)).mono ?_
            rintro e w1 ⟨rfl, h1, m1⟩
            have H1 := Lib.hid h1
            have M1 := Lib.hid m1
            have c1 := h1.ptr
            clear h1 m1
            go_wp2_with fail
            refine (H1.out.put q 20 (by omega) (by decide) (.inr hq2) (by rw [List.length_append, nb_length]; omega)).mono ?_
            rintro e w2 ⟨rfl, h2, m2⟩
            have H2 := Lib.hid h2
            have M2 := Lib.hid m2
            clear h2 m2
            go_wp2_with fail
            go_end0
            refine ⟨rfl, ?_, M1.out.trans M2.out (fun _ _ h => h)⟩
            rw [HE.out, ← HQ.out, ← List.append_assoc]
            exact H2.out
          · have f0a : ¬ d ≥ -8191 := by omega
            clear t0
            go_enter Tryd.func66, Tryd.ntmps66
            go_wp2_with fail
            refine (H.out.put 14 4 (by decide) (by decide) (by decide) (by omega)).mono ?_
            rintro e w1 ⟨rfl, h1, m1⟩
            have H1 := Lib.hid h1
            have M1 := Lib.hid m1
            have c1 := h1.ptr
            clear h1 m1
            go_wp2_with fail
            refine (H1.out.put q 20 (by omega) (by decide) (.inr hq2) (by rw [List.length_append, nb_length]; omega)).mono ?_
            rintro e w2 ⟨rfl, h2, m2⟩
            have H2 := Lib.hid h2
            have M2 := Lib.hid m2
            clear h2 m2
            go_wp2_with fail
            go_end0
            refine ⟨rfl, ?_, M1.out.trans M2.out (fun _ _ h => h)⟩
            rw [HE.out, ← HQ.out, ← List.append_assoc]
            exact H2.out
        · have n2 := h1
          clear h1
          have t2 : (d ≥ -524287 ∧ ¬ d ≤ 524288) ∨ ¬ d ≥ -524287 := by omega
          have HE : Hid (changeB d = nb 15 4 ++ nb u 64) := by unfold Hid changeB; rw [if_neg h0, if_neg n0, if_neg n1, if_neg n2, ← hu]
          clear hu n0 n1 n2
          rcases t2 with ⟨e1, e2⟩ | e1
          · have d3 : d ≥ -65535 := by omega
            have d4 : ¬ d ≤ 65536 := by omega
            have d5 : d ≥ -8191 := by omega
            have d6 : ¬ d ≤ 8192 := by omega
            clear t0 t1
            go_enter Tryd.func66, Tryd.ntmps66
            go_wp2_with fail
            refine (H.out.put 15 4 (by decide) (by decide) (by decide) (by omega)).mono ?_
            rintro e w1 ⟨rfl, h1, m1⟩
            have H1 := Lib.hid h1
            have M1 := Lib.hid m1
            have c1 := h1.ptr
            clear h1 m1
            go_wp2_with fail
            refine (H1.out.put u 64 (by omega) (by decide) (.inl rfl) (by rw [List.length_append, nb_length]; omega)).mono ?_
            rintro e w2 ⟨rfl, h2, m2⟩
            have H2 := Lib.hid h2
            have M2 := Lib.hid m2
            clear h2 m2
            go_wp2_with fail
            go_end0
            refine ⟨rfl, ?_, M1.out.trans M2.out (fun _ _ h => h)⟩
            rw [HE.out, ← List.append_assoc]
            exact H2.out
          · have d3 : ¬ d ≥ -65535 := by omega
            have d5 : ¬ d ≥ -8191 := by omega
            clear t0 t1
            go_enter Tryd.func66, Tryd.ntmps66
            go_wp2_with fail
            refine (H.out.put 15 4 (by decide) (by decide) (by decide) (by omega)).mono ?_
            rintro e w1 ⟨rfl, h1, m1⟩
            have H1 := Lib.hid h1
            have M1 := Lib.hid m1
            have c1 := h1.ptr
            clear h1 m1
            go_wp2_with fail
            refine (H1.out.put u 64 (by omega) (by decide) (.inl rfl) (by rw [List.length_append, nb_length]; omega)).mono ?_
            rintro e w2 ⟨rfl, h2, m2⟩
            have H2 := Lib.hid h2
            have M2 := Lib.hid m2
            clear h2 m2
            go_wp2_with fail
            go_end0
            refine ⟨rfl, ?_, M1.out.trans M2.out (fun _ _ h => h)⟩
            rw [HE.out, ← List.append_assoc]
            exact H2.out
end Go.Proofs.YtmllgglcdlcdhaaDoor
end
