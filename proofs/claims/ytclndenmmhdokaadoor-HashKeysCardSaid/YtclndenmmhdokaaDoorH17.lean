/- xxHash64: in plain words; its small functions. -/
import Derived.Test.YtclndenmmhdokaaDoorHA
import Derived.Test.YtclndenmmhdokaaDoorHC
import Derived.Test.YtclndenmmhdokaaDoorQB
import Derived.StillTailTactics
import Derived.IntWalk
namespace Go.Proofs.YtclndenmmhdokaaDoor
open Go Go.RowKit Go.Proofs.YtclndenmmhdokaaDoorW.PrintWords Go.Proofs.YtclndenmmhdokaaDoorW.PrintMore Go.Proofs.YtclndenmmhdokaaDoorW.PrintLast
set_option linter.unusedVariables false
set_option linter.unusedSimpArgs false
attribute [local go_sem ↓] Go.wp_at_zero Go.wp_at_succ
namespace Xx
/-- A word turned left. -/
def rl (n : Nat) (x : Int) : Int := bits .or .u64 (x * 2 ^ n % 18446744073709551616) (x / 2 ^ (64 - n))
def x2 (a b : Int) : Int := bits .xor .u64 a b
/-- Bytes as a number, the lowest one first. -/
def le : List Int → Int
  | [] => 0
  | x :: xs => x + 256 * le xs
def round (a x : Int) : Int := rl 31 ((a + x * 14029467366897019727) % 18446744073709551616) * 11400714785074694791 % 18446744073709551616
def merge (h a : Int) : Int := (x2 h (round 0 a) * 11400714785074694791 + 9650029242287828579) % 18446744073709551616
/-- 32 bytes taken into four parts. -/
def stripe (a b : List Int) : List Int := (List.range 4).map fun i => round (a.getD i 0) (le ((b.drop (8 * i)).take 8))
def acc (b : List Int) : Nat → List Int
  | 0 => [6983438078262162902, 14029467366897019727, 0, 7046029288634856825]
  | j + 1 => stripe (acc b j) (b.drop (32 * j))
def whole (a : List Int) : Int := (rl 1 (a.getD 0 0) + rl 7 (a.getD 1 0) + rl 12 (a.getD 2 0) + rl 18 (a.getD 3 0)) % 18446744073709551616
def merges (a : List Int) (h : Int) : Nat → Int
  | 0 => h
  | k + 1 => merge (merges a h k) (a.getD k 0)
def start (b : List Int) : Int := if 32 ≤ b.length then merges (acc b (b.length / 32)) (whole (acc b (b.length / 32))) 4 else 2870177450012600261
def e8 (b : List Int) (h : Int) : Nat → Int
  | 0 => h
  | j + 1 => (rl 27 (x2 (e8 b h j) (round 0 (le ((b.drop (8 * j)).take 8)))) * 11400714785074694791 + 9650029242287828579) % 18446744073709551616
def e4 (b : List Int) (h : Int) : Int := (rl 23 (x2 h (le (b.take 4) * 11400714785074694791 % 18446744073709551616)) * 14029467366897019727 + 1609587929392839161) % 18446744073709551616
def e1 (b : List Int) (h : Int) : Nat → Int
  | 0 => h
  | j + 1 => rl 11 (x2 (e1 b h j) (b.getD j 0 * 2870177450012600261 % 18446744073709551616)) * 11400714785074694791 % 18446744073709551616
def last (h : Int) : Int :=
  let h1 := x2 h (h / 2 ^ 33) * 14029467366897019727 % 18446744073709551616
  let h2 := x2 h1 (h1 / 2 ^ 29) * 1609587929392839161 % 18446744073709551616
  x2 h2 (h2 / 2 ^ 32)
/-- What is behind the whole stripes. -/
def r32 (b : List Int) : List Int := b.drop (32 * (b.length / 32))
def r8 (b : List Int) : List Int := (r32 b).drop (8 * ((r32 b).length / 8))
def r4 (b : List Int) : List Int := if 4 ≤ (r8 b).length then (r8 b).drop 4 else r8 b
def h8 (b : List Int) : Int := e8 (r32 b) ((start b + b.length) % 18446744073709551616) ((r32 b).length / 8)
def h4 (b : List Int) : Int := if 4 ≤ (r8 b).length then e4 (r8 b) (h8 b) else h8 b
/-- The sum xxHash64. -/
def xx (b : List Int) : Int := last (e1 (r4 b) (h4 b) (r4 b).length)
theorem le_rng : ∀ xs : List Int, Byts xs → 0 ≤ le xs ∧ le xs < 256 ^ xs.length
  | [], _ => by simp [le]
  | x :: xs, h => by
    have h1 := h x (List.mem_cons_self ..)
    have h2 := le_rng xs (fun y hy => h y (List.mem_cons_of_mem _ hy))
    rw [le, List.length_cons, Int.pow_succ]
    omega
theorem le_drop (xs : List Int) (i : Nat) (h : i < xs.length) : le (xs.drop i) = xs.getD i 0 + 256 * le (xs.drop (i + 1)) := by rw [drop_get xs i h, le]
theorem le_snoc (xs : List Int) (y : Int) : le (xs ++ [y]) = le xs + y * 256 ^ xs.length := by
  induction xs with
  | nil => simp [le]
  | cons x xs ih => rw [List.cons_append, le, ih, le, List.length_cons, Int.pow_succ, Int.mul_add, Int.add_assoc, ← Int.mul_assoc, Int.mul_comm 256 y, Int.mul_assoc, Int.mul_comm (256 : Int) ((256 : Int) ^ xs.length)]
theorem le_take (xs : List Int) (i : Nat) (h : i < xs.length) : le (xs.take (i + 1)) = le (xs.take i) + xs.getD i 0 * 256 ^ i := by
  have hl : (xs.take i).length = i := by rw [List.length_take]; omega
  rw [List.take_succ_eq_append_getElem h, le_snoc, hl, List.getD_eq_getElem?_getD, List.getElem?_eq_getElem h]
  rfl
end Xx
theorem or_u64 (a b : Nat) (h : b < 256) (ha : a < 72057594037927936) : bits .or .u64 ((a * 256 : Nat) : Int) (b : Int) = ((a * 256 + b : Nat) : Int) := by
  have h1 : a * 256 < 2 ^ 64 := by omega
  have h2 : b < 2 ^ 64 := by omega
  rw [(bits_nat .u64 64 (by decide) (fun m a b => by rw [IntKind.wrap_u64]; omega) (a * 256) b h1 h2).2]
  congr 1
  have h3 := Nat.two_pow_add_eq_or_of_lt (i := 8) h a
  rw [Nat.mul_comm a 256]
  exact h3.symm
theorem rot64_calls (x N : Int) (w : World) (hN : N ∈ ([31, 1, 7, 12, 18, 27, 23, 11] : List Int)) :
    Calls Tryd.prog 40 #[.int .u64 x, .int .i64 N] w fun e w' => e = .returned (.int .u64 (Xx.rl N.toNat x)) ∧ w = w' := by
  have hs : bits .and .u64 (IntKind.u64.wrap N) 63 = ((N.toNat : Nat) : Int) ∧ 0 < N.toNat ∧ N.toNat < 64 := by
    have : ∀ M ∈ ([31, 1, 7, 12, 18, 27, 23, 11] : List Int), bits .and .u64 (IntKind.u64.wrap M) 63 = ((M.toNat : Nat) : Int) ∧ 0 < M.toNat ∧ M.toNat < 64 := by decide
    exact this N hN
  obtain ⟨hs, hn, hn2⟩ := hs
  obtain ⟨n, hnn⟩ : ∃ n, n = N.toNat := ⟨_, rfl⟩
  rw [← hnn] at hs hn hn2
  rw [← hnn]
  obtain ⟨m, hm⟩ : ∃ m, m = 64 - n := ⟨_, rfl⟩
  have e1 : ((n : Int)).toNat = n := by omega
  have e2 : (64 - (n : Int)).toNat = m := by omega
  have e3 : IntKind.u64.wrap (64 - (n : Int)) = 64 - (n : Int) := by rw [IntKind.wrap_u64]; omega
  have e4 : (0 : Int) ≤ 64 - (n : Int) := by omega
  have HM := Lib.hid hm
  clear hm hnn
  go_enter Tryd.func40, Tryd.ntmps40
  go_wp2
  go_ret
  refine ⟨?_, rfl⟩
  unfold Xx.rl
  rw [← HM.out]
  rfl
theorem left_calls (x N : Int) (w : World) (hN : N ∈ ([31, 1, 7, 12, 18, 27, 23, 11] : List Int)) :
    Calls Tryd.prog 44 #[.int .u64 x, .int .u64 N] w fun e w' => e = .returned (.int .u64 (Xx.rl N.toNat x)) ∧ w = w' := by
  have hs : N = ((N.toNat : Nat) : Int) ∧ 0 < N.toNat ∧ N.toNat < 64 := by
    have : ∀ M ∈ ([31, 1, 7, 12, 18, 27, 23, 11] : List Int), M = ((M.toNat : Nat) : Int) ∧ 0 < M.toNat ∧ M.toNat < 64 := by decide
    exact this N hN
  obtain ⟨hs, hn, hn2⟩ := hs
  obtain ⟨n, hnn⟩ : ∃ n, n = N.toNat := ⟨_, rfl⟩
  rw [← hnn] at hs hn hn2
  rw [← hnn]
  subst hs
  obtain ⟨m, hm⟩ : ∃ m, m = 64 - n := ⟨_, rfl⟩
  have e2 : (64 - (n : Int)).toNat = m := by omega
  have e3 : IntKind.u64.wrap (64 - (n : Int)) = 64 - (n : Int) := by rw [IntKind.wrap_u64]; omega
  have e4 : (0 : Int) ≤ 64 - (n : Int) := by omega
  have HM := Lib.hid hm
  clear hm hnn hN
  go_enter Tryd.func44, Tryd.ntmps44
  go_wp2
  go_ret
  refine ⟨?_, rfl⟩
  unfold Xx.rl
  rw [← HM.out]
  rfl
theorem xround_calls (a x : Int) (w : World) : Calls Tryd.prog 38 #[.int .u64 a, .int .u64 x] w fun e w' => e = .returned (.int .u64 (Xx.round a x)) ∧ w = w' := by
  have hw : ∀ x, IntKind.u64.wrap x = x % 18446744073709551616 := IntKind.wrap_u64
  go_enter Tryd.func38, Tryd.ntmps38
  go_wp2_with (go_at_call 40; refine (rot64_calls _ _ _ (by decide)).mono ?_; rintro e w' ⟨rfl, rfl⟩)
  go_ret
  exact ⟨rfl, rfl⟩
theorem rround_calls (a x : Int) (w : World) : Calls Tryd.prog 42 #[.int .u64 a, .int .u64 x] w fun e w' => e = .returned (.int .u64 (Xx.round a x)) ∧ w = w' := by
  have hw : ∀ x, IntKind.u64.wrap x = x % 18446744073709551616 := IntKind.wrap_u64
  go_enter Tryd.func42, Tryd.ntmps42
  go_wp2_with (go_at_call 44; refine (left_calls _ _ _ (by decide)).mono ?_; rintro e w' ⟨rfl, rfl⟩)
  go_ret
  exact ⟨rfl, rfl⟩
theorem xmerge_calls (a x : Int) (w : World) : Calls Tryd.prog 41 #[.int .u64 a, .int .u64 x] w fun e w' => e = .returned (.int .u64 (Xx.merge a x)) ∧ w = w' := by
  have hw : ∀ x, IntKind.u64.wrap x = x % 18446744073709551616 := IntKind.wrap_u64
  go_enter Tryd.func41, Tryd.ntmps41
  go_wp2_with (go_at_call 38; refine (xround_calls _ _ _).mono ?_; rintro e w' ⟨rfl, rfl⟩)
  go_ret
  exact ⟨rfl, rfl⟩
theorem rmerge_calls (a x : Int) (w : World) : Calls Tryd.prog 45 #[.int .u64 a, .int .u64 x] w fun e w' => e = .returned (.int .u64 (Xx.merge a x)) ∧ w = w' := by
  have hw : ∀ x, IntKind.u64.wrap x = x % 18446744073709551616 := IntKind.wrap_u64
  go_enter Tryd.func45, Tryd.ntmps45
  go_wp2_with (go_at_call 42; refine (rround_calls _ _ _).mono ?_; rintro e w' ⟨rfl, rfl⟩)
  go_ret
  exact ⟨rfl, rfl⟩
theorem pow256_le (n : Nat) (h : n ≤ 7) : (256 : Int) ^ n ≤ 72057594037927936 := by
  have : ∀ k : Fin 8, (256 : Int) ^ k.val ≤ 72057594037927936 := by decide
  exact this ⟨n, by omega⟩
set_option maxHeartbeats 1000000 in
theorem xlow_calls (w : World) (A : Option Addr) (c : Nat) (xs : List Int) (hC : (Kd.int .u8).C w A xs.length xs) (hb : Byts xs) (hl : xs.length ≤ 8) :
    Calls Tryd.prog 39 #[.slice A xs.length c] w fun e w' => e = .returned (.int .u64 (Xx.le xs)) ∧ w = w' := by
  have HC := Lib.hid hC
  have HB := Lib.hid hb
  clear hC hb
  go_enter Tryd.func39, Tryd.ntmps39
  go_wp2
  go_loopg [3, 4] xs.length (fun kq s3 s4 wr => wr = w ∧ kq ≤ xs.length ∧ s4 = .int .i64 ((kq : Int) - 1) ∧ s3 = .int .u64 (Xx.le (xs.drop kq)))
  case atStart => exact ⟨rfl, Nat.le_refl _, by go_num, by rw [List.drop_length]; rfl⟩
  case round =>
    obtain ⟨rfl, hk, rfl, rfl⟩ := hrel
    by_cases hlt : 0 < gk
    · obtain ⟨i, hi⟩ : ∃ i, gk = i + 1 := ⟨gk - 1, by omega⟩
      have hsplit := Xx.le_drop xs i (by omega)
      rw [← hi] at hsplit
      obtain ⟨ad, hA, c0⟩ := C_at_int HC.out i (by omega)
      subst hA
      have hbx := HB.out.get i (by omega)
      obtain ⟨x, hx⟩ : ∃ x : Nat, xs.getD i 0 = x := ⟨(xs.getD i 0).toNat, by omega⟩
      have hr := Xx.le_rng (xs.drop gk) (fun y hy => HB.out y (List.mem_of_mem_drop hy))
      obtain ⟨L, hL⟩ : ∃ L : Nat, Xx.le (xs.drop gk) = L := ⟨(Xx.le (xs.drop gk)).toNat, by omega⟩
      have hp := pow256_le (xs.drop gk).length (by rw [List.length_drop]; omega)
      rw [hL] at hsplit hr
      rw [hx] at hsplit c0 hbx
      have hor : bits .or .u64 ((L : Int) * 256) (x : Int) = ((L * 256 + x : Nat) : Int) := by
        have h := or_u64 L x (by omega) (by omega)
        have e : ((L * 256 : Nat) : Int) = (L : Int) * 256 := by omega
        rw [← e]
        exact h
      have e1 : IntKind.u64.wrap ((L : Int) * 256) = (L : Int) * 256 := by rw [IntKind.wrap_u64]; omega
      have e2 : IntKind.u64.wrap (x : Int) = (x : Int) := by rw [IntKind.wrap_u64]; omega
      have e3 : IntKind.i64.wrap (((gk : Int) - 1) - 1) = ((i : Nat) : Int) - 1 := by rw [IntWalk.i64_in _ (by omega)]; omega
      have e4 : (0 : Int) ≤ (gk : Int) - 1 := by omega
      have e5 : ((gk : Int) - 1).toNat = i := by omega
      have e6 : (gk : Int) - 1 < (xs.length : Int) := by omega
      have HS := Lib.hid hsplit
      have HI := Lib.hid hi
      clear hsplit hi hr hp hbx
      rw [hL]
      clear hL
      go_wp2_with fail
      go_roundg i
      case measure => have := HI.out; omega
      case rel =>
        refine ⟨rfl, by have := HI.out; omega, rfl, ?_⟩
        have := HS.out
        congr 1
        omega
    · have hg : gk = 0 := by omega
      subst hg
      rw [List.drop_zero]
      go_wp2_with fail
      go_ret
      exact ⟨rfl, rfl⟩
set_option maxHeartbeats 1000000 in
theorem rlow_calls (w : World) (A : Option Addr) (c : Nat) (xs : List Int) (hC : (Kd.int .u8).C w A xs.length xs) (hb : Byts xs) (hl : xs.length ≤ 8) :
    Calls Tryd.prog 43 #[.slice A xs.length c] w fun e w' => e = .returned (.int .u64 (Xx.le xs)) ∧ w = w' := by
  have HC := Lib.hid hC
  have HB := Lib.hid hb
  clear hC hb
  go_enter Tryd.func43, Tryd.ntmps43
  go_wp2
  go_loopg [3, 8] xs.length (fun kq s3 s8 wr => ∃ i : Nat, i + kq = xs.length ∧ wr = w ∧ s8 = .int .i64 i ∧ s3 = .int .u64 (Xx.le (xs.take i)))
  case atStart => exact ⟨0, by omega, rfl, rfl, rfl⟩
  case round =>
    obtain ⟨i, hi, rfl, rfl, rfl⟩ := hrel
    by_cases hlt : i < xs.length
    · have hsplit := Xx.le_take xs i hlt
      obtain ⟨ad, hA, c0⟩ := C_at_int HC.out i hlt
      subst hA
      have hbx := HB.out.get i hlt
      obtain ⟨x, hx⟩ : ∃ x : Nat, xs.getD i 0 = x := ⟨(xs.getD i 0).toNat, by omega⟩
      have hr := Xx.le_rng (xs.take i) (fun y hy => HB.out y (List.mem_of_mem_take hy))
      have htl : (xs.take i).length = i := by rw [List.length_take]; omega
      rw [htl] at hr
      obtain ⟨L, hL⟩ : ∃ L : Nat, Xx.le (xs.take i) = L := ⟨(Xx.le (xs.take i)).toNat, by omega⟩
      rw [hL] at hsplit hr
      rw [hx] at hsplit c0 hbx
      have hr2 := Xx.le_rng (xs.take (i + 1)) (fun y hy => HB.out y (List.mem_of_mem_take hy))
      have htl2 : (xs.take (i + 1)).length = i + 1 := by rw [List.length_take]; omega
      have hp2 : (256 : Int) ^ (i + 1) ≤ 18446744073709551616 := by
        have : ∀ k : Fin 8, (256 : Int) ^ (k.val + 1) ≤ 18446744073709551616 := by decide
        exact this ⟨i, by omega⟩
      rw [htl2, hsplit] at hr2
      have e0 : IntKind.i64.wrap (8 * (i : Int)) = 8 * (i : Int) := IntWalk.i64_in _ (by omega)
      obtain ⟨p, hp⟩ : ∃ p : Int, 8 * (i : Int) = p := ⟨_, rfl⟩
      obtain ⟨pn, hpn⟩ : ∃ pn : Nat, pn = 8 * i := ⟨_, rfl⟩
      rw [hp] at e0
      have e5 : IntKind.u64.wrap p = p := by rw [IntKind.wrap_u64]; omega
      have e6 : p.toNat = pn := by omega
      have e7 : (0 : Int) ≤ p := by omega
      have e8 : pn < 64 := by omega
      have hpow : (2 : Int) ^ pn = 256 ^ i := by rw [hpn, Int.pow_mul]; rfl
      obtain ⟨y, hy⟩ : ∃ y : Int, (x : Int) * 256 ^ i = y := ⟨_, rfl⟩
      have e2 : IntKind.u64.wrap (x : Int) = (x : Int) := by rw [IntKind.wrap_u64]; omega
      have hy0 : 0 ≤ y := by
        rw [← hy]
        exact Int.mul_nonneg (by omega) (Int.pow_nonneg (by decide))
      rw [hy] at hsplit hr2
      have hym : (x : Int) * 2 ^ pn = y := by rw [hpow]; exact hy
      have hy2 : y % 18446744073709551616 = y := by omega
      have hsum : ((L : Int) + y) % 18446744073709551616 = (L : Int) + y := by omega
      have hw : ∀ x, IntKind.u64.wrap x = x % 18446744073709551616 := IntKind.wrap_u64
      have HS := Lib.hid hsplit
      have li : (i : Int) < (xs.length : Int) := by omega
      clear hsplit hr hr2 hbx hp2 htl htl2 hpn hpow hy
      rw [hL]
      clear hL
      go_wp2_with fail
      go_roundg (gk - 1)
      case measure => omega
      case rel => exact ⟨i + 1, by omega, rfl, by go_num, by rw [HS.out]⟩
    · have hil : i = xs.length := by omega
      subst hil
      rw [List.take_length]
      go_wp2_with fail
      go_ret
      exact ⟨rfl, rfl⟩
end Go.Proofs.YtclndenmmhdokaaDoor
