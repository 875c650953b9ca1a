import Derived.Test.YtclndenmmhdokaaDoorCHashBackPHLx2
import Derived.Lib.OthersKept
import Derived.Laws.RangeAny
import Derived.Test.YtclndenmmhdokaaDoorProg
import Derived.Below
import Derived.Deep.Draws
import Derived.Deep.AppendLies
import Derived.Maps.AppendAt
import Derived.OwnWalk
import Derived.Laws.BytesArg
import Derived.Laws.MakeOwn
import Derived.Laws.OwnMore
import Derived.Deep.OwnRows
import Derived.Tactics
import Derived.Lib.ConvBytes
import Derived.Laws.Slices
import Derived.WalkKit
import Derived.KernelRfl
import Derived.RowKit3
import Derived.Deep.LoopGhost
import Derived.Deep.QuietTactic
import Derived.BigQuiet
import Derived.WideLaws
import Derived.Deep.DeepCutAuto
import Derived.Deep.CutBlock
import Derived.Deep.RegionHeld3
import Derived.Laws.Rows
import Derived.Lib.AppendStr
import Derived.ArgAppend
import Derived.Laws.IdiomCopy
import Derived.OrdersHeld
import Derived.Laws.BitsLemmas
import Derived.RowKit
import Derived.Test.YtclndenmmhdokaaDoorCHashBackQB
import Derived.Test.YtclndenmmhdokaaDoorCHashBackWWords
import Derived.Laws.StructEq
import Derived.Test.YtclndenmmhdokaaDoorCHashBackHA
namespace Go.Proofs.YtclndenmmhdokaaDoor.Bq
end Go.Proofs.YtclndenmmhdokaaDoor.Bq
section
namespace Go.Proofs.YtclndenmmhdokaaDoor
open Go Go.RowKit Go.Lib Go.Proofs.YtclndenmmhdokaaDoorW.PrintWords Go.Proofs.YtclndenmmhdokaaDoorW.PrintMore Go.Proofs.YtclndenmmhdokaaDoorW.PrintLast Bq
set_option linter.unusedVariables false
set_option linter.unusedSimpArgs false
attribute [local go_sem ↓] Go.wp_at_zero Go.wp_at_succ
def sixV (c : Int) : Option Nat := if 65 ≤ c ∧ c ≤ 90 then some (c - 65).toNat else if 97 ≤ c ∧ c ≤ 122 then some (c - 71).toNat else if 48 ≤ c ∧ c ≤ 57 then some (c + 4).toNat else if c = 45 then some 62 else if c = 95 then some 63 else none
theorem sixV_lt {c : Int} {v : Nat} (h : sixV c = some v) : v < 64 ∧ 0 ≤ c ∧ c < 128 := by
  unfold sixV at h
  repeat' split at h
  all_goals simp only [Option.some.injEq, reduceCtorEq] at h
  all_goals omega
theorem sixV_high {c : Int} (h : 128 ≤ c) : sixV c = none := by
  unfold sixV
  rw [if_neg (by omega), if_neg (by omega), if_neg (by omega), if_neg (by omega), if_neg (by omega)]
theorem w_small (x : Int) (h0 : 0 ≤ x) (h1 : x < 100) : IntKind.u64.wrap (wrap32 x) = x := by
  rw [← i32_w, IntKind.wrap_i32, IntKind.wrap_u64]
  omega
theorem w_small' (x : Int) (h0 : 0 ≤ x) (h1 : x < 200) : IntKind.u64.wrap x = x := by
  rw [IntKind.wrap_u64]
  omega
theorem below_dr {w w' : World} (h : Drawn0 w w') : Below w.heap.size w w' := by
  obtain ⟨n, rfl⟩ := h
  exact pw_below_drewN (Below.refl _ _) n
theorem dr_trans {B : Nat} {w w1 w' : World} (h : Below B w w1) (hD : Drawn0 w1 w') : Below B w w' := by
  obtain ⟨n, rfl⟩ := hD
  exact pw_below_drewN h n
theorem six_f (c : Int) : PHL.hash_six.f 3 c = some ((((sixV c).getD 0 : Nat) : Int), (sixV c).isSome) := by
  simp only [PHL.hash_six.f, PHL.hash_six.j0, PHL.hash_six.j1, PHL.hash_six.j2, decide_eq_true_eq, Bool.false_eq_true, if_false, reduceIte]
  unfold sixV
  (repeat' split) <;> first
    | (exfalso; omega)
    | rfl
    | (simp only [Option.getD_some, Option.isSome_some, Option.some.injEq, Prod.mk.injEq, and_true]; rw [w_small _ (by omega) (by omega)]; omega)
    | (simp only [Option.getD_some, Option.isSome_some, Option.some.injEq, Prod.mk.injEq, and_true]; rw [w_small _ (by omega) (by omega), w_small' _ (by omega) (by omega)]; omega)
theorem six_calls (c : Int) (w : World) : Calls Tryd.prog 51 #[.int .i32 c] w fun e w' => e = .returned (.tuple #[.int .u64 (((sixV c).getD 0 : Nat) : Int), .bool (sixV c).isSome]) ∧ Drawn0 w w' :=
  PHL.hash_six.calls 3 c _ _ w (six_f c)
def unL : List UInt8 → Nat → Nat → List Int → List Int × Int
  | [], X, n, out => if n = 6 ∨ X % 2 ^ n ≠ 0 then ([], 8) else (out, 0)
  | c :: l, X, n, out => match sixV (c.toNat : Int) with
    | none => ([], 8)
    | some v => if 8 ≤ n + 6 then unL l ((X * 64 + v) % 256) (n - 2) (out ++ [(((X * 64 + v) / 2 ^ (n - 2) % 256 : Nat) : Int)]) else unL l ((X * 64 + v) % 256) (n + 6) out
theorem hu_drop (s : ByteArray) (i : Nat) (h : i < s.size) : s.data.toList.drop i = s[i] :: s.data.toList.drop (i + 1) := by
  have hl : i < s.data.toList.length := by simpa using h
  rw [List.drop_eq_getElem_cons hl]
  congr 1
theorem or64 (a v : Nat) (hv : v < 64) (ha : a < 72057594037927936) : bits .or .u64 ((a * 64 : Nat) : Int) (v : Int) = ((a * 64 + v : Nat) : Int) := by
  rw [(bits_nat .u64 64 (by decide) (fun m a b => by rw [IntKind.wrap_u64]; omega) (a * 64) v (by omega) (by omega)).2]
  congr 1
  have h3 := Nat.two_pow_add_eq_or_of_lt (i := 6) hv a
  rw [Nat.mul_comm a 64]
  exact h3.symm
theorem and_mask (a n : Nat) (ha : a < 18446744073709551616) (hn : n ≤ 8) : bits .and .u64 (a : Int) ((2 ^ n - 1 : Nat) : Int) = ((a % 2 ^ n : Nat) : Int) := by
  have hp : 2 ^ n ≤ 2 ^ 8 := Nat.pow_le_pow_right (by decide) hn
  rw [(bits_nat .u64 64 (by decide) (fun m a b => by rw [IntKind.wrap_u64]; omega) a (2 ^ n - 1) ha (by omega)).1]
  congr 1
  exact Nat.and_two_pow_sub_one_eq_mod a n
theorem R_iterAt {w : World} {base k pos p0 : Nat} {s : ByteArray} {v : Value} {xs : List Int} (h : (Kd.int .u8).R 5 w base (fun j => j ≠ k) v xs) : (Kd.int .u8).R 5 (w.iterAt k s pos) base (fun j => j ≠ k) v xs :=
  Kd.R_step h (fun j hj _ => iterAt_other w k j s pos hj)
set_option maxRecDepth 20000 in
set_option maxHeartbeats 4000000 in
theorem unarmor_calls (w : World) (s : ByteArray) (hs : s.size ≤ 1000000) (r1 : List Int) (r2 : Int) (h : unL s.data.toList 0 0 [] = (r1, r2)) :
    Calls Tryd.prog 28 #[.string s] w fun e w' => ∃ v : Value, e = .returned (.tuple #[v, .int .i64 r2]) ∧ (Kd.int .u8).R 5 w' w.heap.size (fun _ => True) v r1 ∧ Below w.heap.size w w' := by
  have H0 := Lib.hid h
  clear h
  obtain ⟨m0, hm0⟩ : ∃ m0 : Nat, (3 * (s.size : Int)) / 4 = m0 := ⟨((3 * (s.size : Int)) / 4).toNat, by omega⟩
  have hm0b : m0 ≤ 10000000 := by omega
  have HM0 := Lib.hid hm0
  clear hm0
  have q0 : IntKind.i64.wrap (3 * (s.size : Int)) = 3 * (s.size : Int) := IntWalk.i64_in _ (by omega)
  go_enter Tryd.func28, Tryd.ntmps28
  go_upto_region 3 with (show wpList _ _ _ ({ dst := _, op := .makeSlice _ _ _, type := _, pos := _, after := _, guard := _ } :: _) _ _; refine wl_make0 w.heap.size m0 (fun _ => True) rfl _ _ rfl rfl (congrArg (Value.int .i64) HM0.out) (Nat.le_refl _) trivial (by omega) ?_; intro v1 w1 hR1 hB1; have HR1 := Lib.hid hR1; have HB1 := Lib.hid hB1; clear hR1 hB1)
  obtain ⟨it, hit⟩ : ∃ it, it = w1.heap.size := ⟨_, rfl⟩
  obtain ⟨W2, hW2⟩ : ∃ W2, W2 = w1.iter s 0 := ⟨_, rfl⟩
  have HB2 : Hid (Below w.heap.size w W2) := Lib.hid (by rw [hW2]; exact HB1.out.alloc HB1.out.size _)
  have HI2 : Hid (W2.heap[it]? = some (.stringIter s 0)) := Lib.hid (by rw [hW2, hit]; exact World.iter_heap _ _ _)
  have HR2 : Hid ((Kd.int .u8).R 5 W2 w.heap.size (fun j => j ≠ it) v1 []) := Lib.hid (by
    have h1 := Kd.R_mono (Kd.R_bound HR1.out) (ok' := fun j => j ≠ it) (fun j hj => by have := hj.2.2.1; omega)
    rw [hW2]
    exact Kd.R_below h1 ((Below.refl _ _).alloc (Nat.le_refl _) _))
  have HIW : Hid (w.heap.size ≤ it) := Lib.hid (by rw [hit]; exact HB1.out.size)
  go_upto_region 4 with fail
  rw [← hW2, ← hit]
  clear hW2 hit HB1 HR1
  go_loopg [4, 5, 6] s.size (fun kq s4 s5 s6 wr => ∃ (pos X n : Nat) (out : List Int), pos + kq = s.size ∧ s5 = .int .u64 (X : Int) ∧ s6 = .int .i64 (n : Int) ∧ X < 256 ∧ n < 8 ∧ out.length ≤ pos ∧ Hid (unL (s.data.toList.drop pos) X n out = (r1, r2)) ∧ Hid ((Kd.int .u8).R 5 wr w.heap.size (fun j => j ≠ it) s4 out) ∧ Hid (wr.heap[it]? = some (.stringIter s pos)) ∧ Hid (Below w.heap.size w wr))
  case atStart => exact ⟨0, 0, 0, [], by omega, rfl, rfl, by decide, by decide, Nat.le_refl _, H0.out, HR2.out, HI2.out, HB2.out⟩
  case round =>
    obtain ⟨pos, X, n, out, hk, rfl, rfl, hX, hn, hol, HU, HR, HI, HB⟩ := hrel
    obtain ⟨A4, c4, hs4⟩ := Kd.R_slice HR.out
    subst hs4
    by_cases hlt : pos < s.size
    · obtain ⟨c, hc⟩ : ∃ c : Int, c = ((Utf8.decode s pos).1 : Int) := ⟨_, rfl⟩
      obtain ⟨st, hst⟩ : ∃ st, st = (Utf8.decode s pos).2 := ⟨_, rfl⟩
      have hnx := fun ty => run_next_any_at (P := Tryd.prog) wr it s pos ty HI.out hlt
      simp only [← hc, ← hst] at hnx
      have hsix : sixV c = sixV ((s[pos]'hlt).toNat : Int) ∧ ((s[pos]'hlt).toNat < 128 → st = 1) := by
        by_cases ha : (s[pos]'hlt).toNat < 128
        · rw [hc, hst, decode_ascii s pos hlt ha]
          exact ⟨rfl, fun _ => rfl⟩
        · have hd := (decode_high s pos hlt (by omega)).1
          exact ⟨by rw [sixV_high (by omega), sixV_high (by omega)], fun h => absurd h ha⟩
      have hd := hu_drop s pos hlt
      have HU2 : Hid (unL ((s[pos]'hlt) :: s.data.toList.drop (pos + 1)) X n out = (r1, r2)) := Lib.hid (by rw [← hd]; exact HU.out)
      have HSX := Lib.hid hsix
      have HLT := Lib.hid hlt
      clear hc hst hd hsix HU
      cases hv : sixV c with
      | none =>
        have hres : r1 = [] ∧ r2 = 8 := by
          have h := HU2.out
          unfold unL at h
          rw [← HSX.out.1, hv] at h
          exact ⟨(congrArg Prod.fst h).symm, (congrArg Prod.snd h).symm⟩
        obtain ⟨rfl, rfl⟩ := hres
        have h6 := fun W => six_calls c W
        rw [hv] at h6
        clear hv
        go_wp2_with (go_at_call 51; refine (h6 _).mono ?_; rintro e w' ⟨rfl, hD⟩; have HB5 : Hid (Below w.heap.size w w') := Lib.hid (dr_trans (below_iterAt HB.out HIW.out s _) hD); clear hD)
        go_ret2
        exact ⟨.slice none 0 0, rfl, Kd.R_nil _ _ _ _ _, HB5.out⟩
      | some v =>
        obtain ⟨hv64, hc0, hc1⟩ := sixV_lt hv
        have hst1 : st = 1 := HSX.out.2 (by
          by_cases ha : (s[pos]'hlt).toNat < 128
          · exact ha
          · exfalso
            have h1 := HSX.out.1
            rw [hv, sixV_high (c := ((s[pos]'hlt).toNat : Int)) (by omega)] at h1
            cases h1)
        subst hst1
        have HU3 : Hid ((if 8 ≤ n + 6 then unL (s.data.toList.drop (pos + 1)) ((X * 64 + v) % 256) (n - 2) (out ++ [(((X * 64 + v) / 2 ^ (n - 2) % 256 : Nat) : Int)]) else unL (s.data.toList.drop (pos + 1)) ((X * 64 + v) % 256) (n + 6) out) = (r1, r2)) := Lib.hid (by
          have h := HU2.out
          unfold unL at h
          rw [← HSX.out.1, hv] at h
          exact h)
        have h6 := fun W => six_calls c W
        rw [hv] at h6
        simp only [Option.getD_some, Option.isSome_some] at h6
        have hor := or64 X v hv64 (by omega)
        rw [show ((X * 64 : Nat) : Int) = (X : Int) * 64 by omega] at hor
        obtain ⟨Y, hY⟩ : ∃ Y, Y = X * 64 + v := ⟨_, rfl⟩
        rw [← hY] at hor
        have hYl : Y < 16384 := by omega
        have HY := Lib.hid hY
        have e1 : IntKind.u64.wrap ((X : Int) * 64) = (X : Int) * 64 := by rw [IntKind.wrap_u64]; omega
        have hand := and_mask Y 8 (by omega) (Nat.le_refl _)
        rw [show ((2 ^ 8 - 1 : Nat) : Int) = 255 from rfl, show (2 : Nat) ^ 8 = 256 from rfl] at hand
        obtain ⟨Z, hZ⟩ : ∃ Z, Z = Y % 256 := ⟨_, rfl⟩
        rw [← hZ] at hand
        have HZ := Lib.hid hZ
        have hZl : Z < 256 := by omega
        have HSV := Lib.hid hv
        clear hY hZ hv hc0 hc1 HU2 HSX hlt
        obtain ⟨W9, hW9⟩ : ∃ W9, W9 = wr.iterAt it s (pos + 1) := ⟨_, rfl⟩
        have HR9 : Hid ((Kd.int .u8).R 5 W9 w.heap.size (fun j => j ≠ it) (.slice A4 out.length c4) out) := Lib.hid (by rw [hW9]; exact R_iterAt (p0 := 0) HR.out)
        have HI9 : Hid (W9.heap[it]? = some (.stringIter s (pos + 1))) := Lib.hid (by rw [hW9]; exact iterAt_heap wr it s pos _ HI.out)
        have HB9 : Hid (Below w.heap.size w W9) := Lib.hid (by rw [hW9]; exact below_iterAt HB.out HIW.out s _)
        rw [← hW9] at hnx
        clear hW9
        by_cases h8 : 8 ≤ n + 6
        · obtain ⟨m, hm⟩ : ∃ m, n = m + 2 := ⟨n - 2, by omega⟩
          subst hm
          have HU4 : Hid (unL (s.data.toList.drop (pos + 1)) Z m (out ++ [((Y / 2 ^ m % 256 : Nat) : Int)]) = (r1, r2)) := Lib.hid (by
            have h := HU3.out
            rw [if_pos h8, ← HY.out, ← HZ.out] at h
            exact h)
          have n1 : IntKind.i64.wrap (((m + 2 : Nat) : Int) + 6) = ((m + 8 : Nat) : Int) := by rw [IntWalk.i64_in _ (by omega)]; omega
          have n2 : (8 : Int) ≤ ((m + 8 : Nat) : Int) := by omega
          have n3 : IntKind.i64.wrap (((m + 8 : Nat) : Int) - 8) = (m : Int) := by rw [IntWalk.i64_in _ (by omega)]; omega
          have n4 : IntKind.u64.wrap (m : Int) = (m : Int) := by rw [IntKind.wrap_u64]; omega
          have n5 : m < 64 := by omega
          obtain ⟨B, hB⟩ : ∃ B : Nat, B = Y / 2 ^ m % 256 := ⟨_, rfl⟩
          rw [← hB] at HU4
          have n6 : (Y : Int) / 2 ^ m % 256 = (B : Int) := by rw [hB]; simp
          have n7 : IntKind.u8.wrap ((Y : Int) / 2 ^ m) = (B : Int) := by rw [IntKind.wrap_u8]; exact n6
          clear hB
          go_upto_region 14 with (first
            | (go_at_call 51; refine (h6 _).mono ?_; rintro e w' ⟨rfl, hD⟩; have HB5 : Hid (Below w.heap.size w w') := Lib.hid (dr_trans HB9.out hD); have HR5 := Lib.hid (Kd.R_below HR9.out (below_dr hD)); have HI5 : Hid (w'.heap[it]? = some (.stringIter s (pos + 1))) := Lib.hid (((below_dr hD : Below W9.heap.size W9 w').block it (blk_lt HI9.out)).trans HI9.out); clear hD)
            | (at_builtin; refine Kd.R_append (Kd.int .u8) (w0 := w) w.heap.size rfl (.tmp 38) (.tmp 44) 28 5 (.int .u8 0) 1 rfl Tryd.underlying28 info_u8' rfl (by decide) (by decide) _ out (B : Int) [.int .u8 (B : Int)] (fun j => j ≠ it) (fun _ => False) rfl rfl rfl (fun _ h => h.elim) (fun k hk => by have := blk_lt HI5.out; omega) HR5.out HB5.out (below_size' HB5.out) (by omega) ?_; intro v7 w7 hR7 hB7 hg7 _; have HR7 := Lib.hid hR7; have HB7 := Lib.hid hB7; have HI7 : Hid (w7.heap[it]? = some (.stringIter s (pos + 1))) := Lib.hid ((hg7.block it (blk_lt HI5.out) (fun e => (HR5.out).1 it e.symm rfl)).trans HI5.out); clear hR7 hB7 hg7))
          go_wp2_with fail
          go_roundg (gk - 1)
          case measure => have := HLT.out; omega
          case rel => exact ⟨pos + 1, Z, m, out ++ [(B : Int)], by have := HLT.out; omega, rfl, (by first | rfl | exact congrArg (Value.int .i64) (by omega)), hZl, by omega, by rw [List.length_append, List.length_singleton]; omega, HU4.out, HR7.out, HI7.out, HB7.out⟩
        · have HU4 : Hid (unL (s.data.toList.drop (pos + 1)) Z (n + 6) out = (r1, r2)) := Lib.hid (by
            have h := HU3.out
            rw [if_neg h8, ← HY.out, ← HZ.out] at h
            exact h)
          have n1 : IntKind.i64.wrap ((n : Int) + 6) = ((n + 6 : Nat) : Int) := by rw [IntWalk.i64_in _ (by omega)]; omega
          have n2 : ¬ (8 : Int) ≤ ((n + 6 : Nat) : Int) := by omega
          go_wp2_with (go_at_call 51; refine (h6 _).mono ?_; rintro e w' ⟨rfl, hD⟩; have HB5 : Hid (Below w.heap.size w w') := Lib.hid (dr_trans HB9.out hD); have HR5 := Lib.hid (Kd.R_below HR9.out (below_dr hD)); have HI5 : Hid (w'.heap[it]? = some (.stringIter s (pos + 1))) := Lib.hid (((below_dr hD : Below W9.heap.size W9 w').block it (blk_lt HI9.out)).trans HI9.out); clear hD)
          go_roundg (gk - 1)
          case measure => have := HLT.out; omega
          case rel => exact ⟨pos + 1, Z, n + 6, out, by have := HLT.out; omega, rfl, (by first | rfl | exact congrArg (Value.int .i64) (by omega)), hZl, by omega, by omega, HU4.out, HR5.out, HI5.out, HB5.out⟩
    · have hnx := fun ty => run_next_end_at (P := Tryd.prog) wr it s pos ty HI.out hlt
      have hps : pos = s.size := by omega
      have hres : (if n = 6 ∨ X % 2 ^ n ≠ 0 then (([] : List Int), (8 : Int)) else (out, 0)) = (r1, r2) := by
        have h := HU.out
        rw [List.drop_of_length_le (by rw [hps]; simp)] at h
        exact h
      have HRES := Lib.hid hres
      clear hres hps HU
      by_cases h6 : n = 6
      · subst h6
        have hr := HRES.out
        rw [if_pos (.inl rfl)] at hr
        obtain ⟨rfl, rfl⟩ : ([] : List Int) = r1 ∧ (8 : Int) = r2 := ⟨congrArg Prod.fst hr, congrArg Prod.snd hr⟩
        clear hr
        go_wp2_with fail
        go_ret2
        exact ⟨.slice none 0 0, rfl, Kd.R_nil _ _ _ _ _, HB.out⟩
      · have hne : (n : Int) ≠ 6 := by omega
        have n4 : IntKind.u64.wrap (n : Int) = (n : Int) := by rw [IntKind.wrap_u64]; omega
        have n5 : n < 64 := by omega
        have hpw : 2 ^ n ≤ 128 := by
          have : ∀ j : Fin 8, 2 ^ j.val ≤ 128 := by decide
          exact this ⟨n, hn⟩
        have hp1 : 0 < 2 ^ n := Nat.pow_pos (by decide)
        have hand := and_mask X n (by omega) (by omega)
        obtain ⟨P, hP⟩ : ∃ P, P = 2 ^ n := ⟨_, rfl⟩
        rw [← hP] at hand hpw hp1
        have n6 : (2 : Int) ^ n = (P : Int) := by rw [hP]; simp
        have n7 : (P : Int) % 18446744073709551616 = (P : Int) := by omega
        have n7' : IntKind.u64.wrap (P : Int) = (P : Int) := by rw [IntKind.wrap_u64]; omega
        have n8 : IntKind.u64.wrap ((P : Int) - 1) = ((P - 1 : Nat) : Int) := by rw [IntKind.wrap_u64]; omega
        have n9 : ((P : Int) - 1) % 18446744073709551616 = ((P - 1 : Nat) : Int) := by omega
        obtain ⟨Z, hZ⟩ : ∃ Z, Z = X % P := ⟨_, rfl⟩
        rw [← hZ] at hand
        have HZ : Hid (X % 2 ^ n = Z) := Lib.hid (by rw [hZ, hP])
        have HN := Lib.hid h6
        clear hP hZ h6
        by_cases hz : Z = 0
        · subst hz
          have hr := HRES.out
          rw [if_neg (by rw [HZ.out]; exact fun h => h.elim HN.out (fun h => h rfl))] at hr
          obtain ⟨rfl, rfl⟩ : out = r1 ∧ (0 : Int) = r2 := ⟨congrArg Prod.fst hr, congrArg Prod.snd hr⟩
          clear hr
          go_wp2_with fail
          go_ret2
          exact ⟨_, rfl, Kd.R_mono HR.out (fun _ _ => trivial), HB.out⟩
        · have hr := HRES.out
          rw [if_pos (.inr (by rw [HZ.out]; exact hz))] at hr
          obtain ⟨rfl, rfl⟩ : ([] : List Int) = r1 ∧ (8 : Int) = r2 := ⟨congrArg Prod.fst hr, congrArg Prod.snd hr⟩
          clear hr
          have hzi : ((Z : Int) != 0) = true := by simp; omega
          have hzj : ((Z : Int) == 0) = false := by simp; omega
          go_wp2_with fail
          go_ret2
          exact ⟨.slice none 0 0, rfl, Kd.R_nil _ _ _ _ _, HB.out⟩
end Go.Proofs.YtclndenmmhdokaaDoor
end
section
namespace Go.Proofs.YtclndenmmhdokaaDoor
open Go Go.RowKit Bq
set_option linter.unusedVariables false
set_option linter.unusedSimpArgs false
def rowV (vs : List Nat) : List Bool := vs.flatMap fun v => nb v 6
theorem rowV_length (vs : List Nat) : (rowV vs).length = 6 * vs.length := by
  induction vs with
  | nil => rfl
  | cons v vs ih => unfold rowV at *; rw [List.flatMap_cons, List.length_append, nb_length, ih, List.length_cons]; omega
theorem rowV_cons (v : Nat) (vs : List Nat) : rowV (v :: vs) = nb v 6 ++ rowV vs := by unfold rowV; rw [List.flatMap_cons]
def rest8 (R : List Bool) : List Bool := R.drop (8 * (R.length / 8))
def full8 (R : List Bool) : List Bool := R.take (8 * (R.length / 8))
theorem rest8_length (R : List Bool) : (rest8 R).length = R.length % 8 := by unfold rest8; rw [List.length_drop]; omega
theorem full8_length (R : List Bool) : (full8 R).length = 8 * (R.length / 8) := by unfold full8; rw [List.length_take]; omega
theorem full_rest (R : List Bool) : full8 R ++ rest8 R = R := List.take_append_drop _ _
theorem low_pow (Y m : Nat) (h : m ≤ 8) : Y % 256 % 2 ^ m = Y % 2 ^ m := by
  refine Nat.mod_mod_of_dvd Y ?_
  exact Nat.pow_dvd_pow 2 h
theorem six_more (X v n : Nat) (r : List Bool) (hl : r.length = n) (hx : X % 2 ^ n = bnum r) (hv : v < 64) : (X * 64 + v) % 2 ^ (n + 6) = bnum (r ++ nb v 6) := by
  rw [bnum_append, nb_length, bnum_nb, ← hx]
  have hp : 2 ^ (n + 6) = 2 ^ n * 64 := by rw [Nat.pow_add]
  have hp0 : 0 < 2 ^ n := Nat.pow_pos (by decide)
  rw [hp]
  have h1 := Nat.div_add_mod X (2 ^ n)
  obtain ⟨q, hq⟩ : ∃ q, q = X / 2 ^ n := ⟨_, rfl⟩
  obtain ⟨m, hm⟩ : ∃ m, m = X % 2 ^ n := ⟨_, rfl⟩
  have hmlt : m < 2 ^ n := by rw [hm]; exact Nat.mod_lt _ hp0
  rw [← hq, ← hm] at h1
  rw [← hm]
  have e : X * 64 + v = q * (2 ^ n * 64) + (m * 64 + v) := by
    rw [← h1, Nat.add_mul, Nat.mul_comm (2 ^ n) q, Nat.mul_assoc, Nat.add_assoc]
  rw [e, Nat.add_comm, Nat.add_mul_mod_self_right, Nat.mod_eq_of_lt]
  · have : v % 2 ^ 6 = v := Nat.mod_eq_of_lt hv
    rw [this]
  · have := Nat.mul_le_mul_right 64 (Nat.succ_le_of_lt hmlt)
    rw [Nat.succ_mul] at this
    omega
theorem eight_pick (x m : Nat) (r : List Bool) (hl : r.length = m + 8) (hx : x % 2 ^ (m + 8) = bnum r) : x / 2 ^ m % 256 = bnum (r.take 8) ∧ x % 2 ^ m = bnum (r.drop 8) := by
  have h1 := bnum_append (r.take 8) (r.drop 8)
  rw [List.take_append_drop] at h1
  have hd : (r.drop 8).length = m := by rw [List.length_drop]; omega
  have ht : (r.take 8).length = 8 := by rw [List.length_take]; omega
  rw [hd] at h1
  have h2 := bnum_lt (r.drop 8)
  rw [hd] at h2
  have hp : 2 ^ (m + 8) = 2 ^ m * 256 := by rw [Nat.pow_add]
  have hp0 : 0 < 2 ^ m := Nat.pow_pos (by decide)
  have e1 : x % 2 ^ m = x % 2 ^ (m + 8) % 2 ^ m := by rw [hp, Nat.mod_mul_right_mod]
  have e2 : x / 2 ^ m % 256 = x % 2 ^ (m + 8) / 2 ^ m := by rw [hp, Nat.mod_mul_right_div_self]
  constructor
  · rw [e2, hx, h1, Nat.add_comm, Nat.add_mul_div_right _ _ hp0, Nat.div_eq_of_lt h2, Nat.zero_add]
  · rw [e1, hx, h1, Nat.add_comm, Nat.add_mul_mod_self_right, Nat.mod_eq_of_lt h2]
def unR (R : List Bool) : List Int × Int := if R.length % 8 = 6 ∨ bnum (rest8 R) ≠ 0 then ([], 8) else (packI (full8 R), 0)
theorem packI_append (q : Nat) (a t : List Bool) (h : a.length = 8 * q) : packI (a ++ t) = packI a ++ packI t := by unfold packI; rw [pack_append q a t h, ints_append]
theorem packI_byte (t : List Bool) (h : t.length = 8) : packI t = [((bnum t : Nat) : Int)] := by
  unfold packI
  rw [pack_short t (by intro e; rw [e] at h; simp at h) (by omega)]
  unfold byte8
  rw [h]
  simp [ints]
theorem unL_row : ∀ (l : List UInt8) (vs : List Nat) (R : List Bool) (X n : Nat) (out : List Int), l.map (fun c => sixV (c.toNat : Int)) = vs.map some → n = R.length % 8 → R.length % 2 = 0 → X % 2 ^ n = bnum (rest8 R) → out = packI (full8 R) →
    unL l X n out = unR (R ++ rowV vs)
  | [], vs, R, X, n, out, hl, hn, h2, hX, ho => by
    have hvs : vs = [] := by
      rw [List.map_nil] at hl
      exact List.map_eq_nil_iff.1 hl.symm
    subst hvs
    subst ho
    unfold unL unR
    rw [show rowV [] = [] from rfl, List.append_nil, hX, hn]
  | c :: l, vs, R, X, n, out, hl, hn, h2, hX, ho => by
    rcases vs with _ | ⟨v, vs⟩
    · rw [List.map_cons, List.map_nil] at hl
      cases hl
    · rw [List.map_cons, List.map_cons] at hl
      injection hl with hv hl
      obtain ⟨hv64, _, _⟩ := sixV_lt hv
      unfold unL
      rw [hv]
      simp only
      have hr := rest8_length R
      have hm := six_more X v n (rest8 R) (by rw [hr, hn]) hX hv64
      have hsp : R ++ nb v 6 = full8 R ++ (rest8 R ++ nb v 6) := by rw [← List.append_assoc, full_rest]
      have hfl := full8_length R
      rw [rowV_cons, ← List.append_assoc]
      by_cases h8 : 8 ≤ n + 6
      · rw [if_pos h8]
        have hn8 : n < 8 := by omega
        have hlen : (R ++ nb v 6).length = 8 * (R.length / 8 + 1) + (n - 2) := by rw [List.length_append, nb_length]; omega
        obtain ⟨p1, p2⟩ := eight_pick (X * 64 + v) (n - 2) (rest8 R ++ nb v 6) (by rw [List.length_append, nb_length, hr]; omega) (by rw [show n - 2 + 8 = n + 6 by omega]; exact hm)
        have hf' : full8 (R ++ nb v 6) = full8 R ++ (rest8 R ++ nb v 6).take 8 := by
          have e : (R ++ nb v 6).length / 8 = R.length / 8 + 1 := by rw [hlen]; omega
          unfold full8 at hsp hfl ⊢
          rw [e, hsp, List.take_append, List.take_of_length_le (l := List.take (8 * (R.length / 8)) R) (by omega), hfl]
          congr 2
          omega
        have hr' : rest8 (R ++ nb v 6) = (rest8 R ++ nb v 6).drop 8 := by
          have e : (R ++ nb v 6).length / 8 = R.length / 8 + 1 := by rw [hlen]; omega
          have h9 : rest8 (R ++ nb v 6) = (R ++ nb v 6).drop (8 * (R.length / 8) + 8) := by
            unfold rest8
            rw [e]
            congr 1
          rw [h9, hsp, List.drop_append, List.drop_of_length_le (by omega), hfl]
          simp
        refine unL_row l vs (R ++ nb v 6) _ (n - 2) _ hl (by rw [hlen]; omega) (by rw [hlen]; omega) ?_ ?_
        · rw [low_pow _ _ (by omega), p2, hr']
        · rw [ho, hf', packI_append (R.length / 8) _ _ hfl, packI_byte ((rest8 R ++ nb v 6).take 8) (by rw [List.length_take, List.length_append, nb_length, hr]; omega), p1]
      · rw [if_neg h8]
        have hlen : (R ++ nb v 6).length = 8 * (R.length / 8) + (n + 6) := by rw [List.length_append, nb_length]; omega
        have hf' : full8 (R ++ nb v 6) = full8 R := by
          have e : (R ++ nb v 6).length / 8 = R.length / 8 := by rw [hlen]; omega
          unfold full8 at hsp hfl ⊢
          rw [e, hsp, List.take_append, List.take_of_length_le (l := List.take (8 * (R.length / 8)) R) (by omega), hfl]
          simp
        have hr' : rest8 (R ++ nb v 6) = rest8 R ++ nb v 6 := by
          have e : (R ++ nb v 6).length / 8 = R.length / 8 := by rw [hlen]; omega
          have h9 : rest8 (R ++ nb v 6) = (R ++ nb v 6).drop (8 * (R.length / 8)) := by
            unfold rest8
            rw [e]
          rw [h9, hsp, List.drop_append, List.drop_of_length_le (by omega), hfl]
          simp
        refine unL_row l vs (R ++ nb v 6) _ (n + 6) _ hl (by rw [hlen]; omega) (by rw [hlen]; omega) ?_ ?_
        · rw [low_pow _ _ (by omega), hm, hr']
        · rw [ho, hf']
theorem unL_vals (l : List UInt8) (vs : List Nat) (h : l.map (fun c => sixV (c.toNat : Int)) = vs.map some) : unL l 0 0 [] = unR (rowV vs) := by
  have := unL_row l vs [] 0 0 [] h rfl rfl rfl (by unfold full8; simp [packI, pack_nil, ints])
  rwa [List.nil_append] at this
theorem unL_bad : ∀ (l : List UInt8) (X n : Nat) (out : List Int), (∃ c ∈ l, sixV (c.toNat : Int) = none) → unL l X n out = ([], 8)
  | [], X, n, out, h => by obtain ⟨c, hc, _⟩ := h; cases hc
  | c :: l, X, n, out, h => by
    unfold unL
    cases hv : sixV (c.toNat : Int) with
    | none => rfl
    | some v =>
      have h2 : ∃ c ∈ l, sixV (c.toNat : Int) = none := by
        obtain ⟨d, hd, he⟩ := h
        rcases List.mem_cons.1 hd with rfl | hd
        · rw [hv] at he; cases he
        · exact ⟨d, hd, he⟩
      simp only
      split
      · exact unL_bad l _ _ _ h2
      · exact unL_bad l _ _ _ h2
theorem vals_or (l : List UInt8) : (∃ c ∈ l, sixV (c.toNat : Int) = none) ∨ ∃ vs : List Nat, l.map (fun c => sixV (c.toNat : Int)) = vs.map some := by
  induction l with
  | nil => exact .inr ⟨[], rfl⟩
  | cons c l ih =>
    cases hv : sixV (c.toNat : Int) with
    | none => exact .inl ⟨c, List.mem_cons_self, hv⟩
    | some v =>
      rcases ih with ⟨d, hd, he⟩ | ⟨vs, hvs⟩
      · exact .inl ⟨d, List.mem_cons_of_mem _ hd, he⟩
      · exact .inr ⟨v :: vs, by rw [List.map_cons, List.map_cons, hv, hvs]⟩
theorem lett_six : ∀ v : Fin 64, sixV (lett.getD v.val 0) = some v.val ∧ 0 ≤ lett.getD v.val 0 ∧ lett.getD v.val 0 < 128 := by decide
theorem six_lett (c : Int) (v : Nat) (h : sixV c = some v) : lett.getD v 0 = c := by
  have h1 : ∀ k : Fin 128, ∀ v, sixV (k.val : Int) = some v → lett.getD v 0 = (k.val : Int) := by decide
  obtain ⟨_, h2, h3⟩ := sixV_lt h
  obtain ⟨n, rfl⟩ := Int.eq_ofNat_of_zero_le h2
  exact h1 ⟨n, by omega⟩ v h
theorem lett_inj {a b : Nat} (ha : a < 64) (hb : b < 64) (h : lett.getD a 0 = lett.getD b 0) : a = b := by
  have h1 := (lett_six ⟨a, ha⟩).1
  have h2 := (lett_six ⟨b, hb⟩).1
  simp only at h1 h2
  rw [h, h2] at h1
  exact (Option.some.inj h1).symm
theorem arm_row : ∀ vs : List Nat, (∀ v ∈ vs, v < 64) → arm (rowV vs) = vs.map (fun v => lett.getD v 0)
  | [], _ => arm_nil
  | v :: vs, h => by
    have hv := h v List.mem_cons_self
    have hn : nb v 6 ≠ [] := fun e => by have := congrArg List.length e; rw [nb_length] at this; cases this
    rw [rowV_cons, arm_append 1 (nb v 6) _ (by rw [nb_length]), arm_short _ hn (by rw [nb_length]; omega), six1_full _ (nb_length _ _), bnum_nb, Nat.mod_eq_of_lt (by omega : v < 2 ^ 6), arm_row vs (fun u hu => h u (List.mem_cons_of_mem _ hu))]
    rfl
theorem arm_full (R : List Bool) (q : Nat) (hR : R.length = 6 * q) : arm (full8 R) = arm R ↔ ¬ (R.length % 8 = 6 ∨ bnum (rest8 R) ≠ 0) := by
  have hfl := full8_length R
  have hrl := rest8_length R
  by_cases h6 : R.length % 8 = 6
  · refine ⟨fun h => ?_, fun h => absurd (.inl h6) h⟩
    have h1 := congrArg List.length h
    rw [arm_length, arm_length, hfl] at h1
    omega
  · have hcond : (R.length % 8 = 6 ∨ bnum (rest8 R) ≠ 0) ↔ bnum (rest8 R) ≠ 0 := ⟨fun h => h.resolve_left h6, .inr⟩
    rw [hcond]
    by_cases h0 : R.length % 8 = 0
    · have hr : rest8 R = [] := List.eq_nil_of_length_eq_zero (by omega)
      have hf : full8 R = R := by
        have := full_rest R
        rwa [hr, List.append_nil] at this
      rw [hf, hr]
      exact ⟨fun _ h => h rfl, fun _ => rfl⟩
    · obtain ⟨d, hd⟩ : ∃ d, d = 6 * (q - 1) := ⟨_, rfl⟩
      have hq : 0 < q := by omega
      have hdl : (R.take d).length = 6 * (q - 1) := by rw [List.length_take]; omega
      have ht : (full8 R).drop d ++ rest8 R = R.drop d := by
        have h1 : (full8 R ++ rest8 R).drop d = R.drop d := by rw [full_rest]
        rw [← h1, List.drop_append, show d - (full8 R).length = 0 by omega, List.drop_zero]
      have hft : (full8 R).take d = R.take d := by
        have h1 : (full8 R ++ rest8 R).take d = R.take d := by rw [full_rest]
        rw [← h1, List.take_append, show d - (full8 R).length = 0 by omega, List.take_zero, List.append_nil]
      have hfl2 : ((full8 R).drop d).length + (rest8 R).length = 6 := by rw [List.length_drop]; omega
      have e1 : arm (full8 R) = arm (R.take d) ++ [six1 ((full8 R).drop d)] := by
        rw [← arm_short ((full8 R).drop d) (fun e => by have := congrArg List.length e; rw [List.length_drop, List.length_nil] at this; omega) (by omega), ← arm_append (q - 1) _ _ hdl, ← hft, List.take_append_drop]
      have e2 : arm R = arm (R.take d) ++ [six1 (R.drop d)] := by
        rw [← arm_short (R.drop d) (fun e => by have := congrArg List.length e; rw [List.length_drop, List.length_nil] at this; omega) (by rw [List.length_drop]; omega), ← arm_append (q - 1) _ _ hdl, List.take_append_drop]
      have e3 : six1 ((full8 R).drop d) = lett.getD (bnum ((full8 R).drop d) * 2 ^ (rest8 R).length) 0 := by
        unfold six1
        rw [show 6 - ((full8 R).drop d).length = (rest8 R).length by omega]
      have e4 : six1 (R.drop d) = lett.getD (bnum ((full8 R).drop d) * 2 ^ (rest8 R).length + bnum (rest8 R)) 0 := by
        rw [six1_full _ (by rw [List.length_drop]; omega), ← ht, bnum_append]
      have hlt := bnum_lt ((full8 R).drop d ++ rest8 R)
      rw [List.length_append, hfl2, bnum_append] at hlt
      rw [e1, e2, e3, e4]
      constructor
      · intro h hne
        have h1 := List.append_cancel_left h
        injection h1 with h1 _
        have := lett_inj (by omega) (by omega) h1
        omega
      · intro h
        have hz : bnum (rest8 R) = 0 := Classical.byContradiction h
        rw [hz, Nat.add_zero]
theorem armor_pack (T : List Bool) (q : Nat) (h : T.length = 8 * q) : armor (packI T) = arm T := by
  unfold armor
  have h1 : (packI T).length = q := by unfold packI; rw [ints_length, pack_length]; omega
  rw [h1, ← h, bitsOf_pack]
theorem pack_bits (a : List Int) (hb : Byts a) : packI (bitsOf a (8 * a.length)) = a := by
  have hl : (packI (bitsOf a (8 * a.length))).length = a.length := by unfold packI; rw [ints_length, pack_length, bitsOf_length]; omega
  refine bits_ext _ _ hl (byts_packI _) hb (fun i hi => ?_)
  rw [hl] at hi
  rw [bitAt_pack _ _ i (Nat.le_refl _) (by rw [bitsOf_length]; omega), List.getD_eq_getElem?_getD, List.getElem?_eq_getElem (by rw [bitsOf_length]; omega)]
  simp [bitsOf]
theorem arm_vals (l : List Bool) : ∃ vs : List Nat, arm l = vs.map (fun v => lett.getD v 0) ∧ (∀ v ∈ vs, v < 64) ∧ rowV vs = l ++ List.replicate ((6 - l.length % 6) % 6) false := by
  induction hn : l.length using Nat.strongRecOn generalizing l with
  | _ n ih =>
    by_cases h : l = []
    · subst h
      refine ⟨[], arm_nil, (fun v hv => by cases hv), ?_⟩
      subst hn
      rfl
    · have hp := (List.length_pos_iff.2 h)
      by_cases h6 : 6 ≤ l.length
      · obtain ⟨vs, h1, h2, h3⟩ := ih (l.drop 6).length (by rw [List.length_drop]; omega) (l.drop 6) rfl
        have ht : (l.take 6).length = 6 := by rw [List.length_take]; omega
        have hlt := bnum_lt (l.take 6)
        rw [ht] at hlt
        refine ⟨bnum (l.take 6) :: vs, ?_, ?_, ?_⟩
        · rw [arm_cons l h, six1_full _ ht, h1, List.map_cons]
        · intro v hv
          rcases List.mem_cons.1 hv with rfl | hv
          · exact hlt
          · exact h2 v hv
        · have hnb := nb_bnum (l.take 6)
          rw [ht] at hnb
          rw [rowV_cons, h3, hnb, ← List.append_assoc, List.take_append_drop, List.length_drop, hn]
          congr 2
          omega
      · refine ⟨[bnum l * 2 ^ (6 - l.length)], ?_, ?_, ?_⟩
        · rw [arm_short l h (by omega)]
          rfl
        · intro v hv
          rw [List.mem_singleton.1 hv]
          have h1 := bnum_lt l
          have h2 : 2 ^ l.length * 2 ^ (6 - l.length) = 64 := by rw [← Nat.pow_add, show l.length + (6 - l.length) = 6 by omega]
          rw [← h2]
          exact Nat.mul_lt_mul_of_pos_right h1 (Nat.pow_pos (by decide))
        · have hz : ∀ p, bnum (List.replicate p false) = 0 := fun p => by
            induction p with
            | zero => rfl
            | succ p ih =>
              rw [List.replicate_succ', bnum_snoc, ih]
              rfl
          have h1 : bnum (l ++ List.replicate (6 - l.length) false) = bnum l * 2 ^ (6 - l.length) := by rw [bnum_append, hz, List.length_replicate, Nat.add_zero]
          have h2 := nb_bnum (l ++ List.replicate (6 - l.length) false)
          rw [h1, List.length_append, List.length_replicate, show l.length + (6 - l.length) = 6 by omega] at h2
          rw [rowV_cons, h2, show rowV [] = [] from rfl, List.append_nil, ← hn]
          congr 2
          omega
def nib (c : Int) : Int := if 48 ≤ c ∧ c ≤ 57 then c - 48 else if 97 ≤ c ∧ c ≤ 102 then c - 87 else 16
def pairs : List Int → List Int
  | a :: b :: l => (16 * nib a + nib b) :: pairs l
  | _ => []
def badN (l : List Int) : Bool := l.any (fun c => decide (15 < nib c))
def unhexP (l : List Int) : List Int × Int := if l.length % 2 = 1 ∨ badN l = true then ([], 8) else (pairs l, 0)
theorem nib_range (c : Int) : 0 ≤ nib c ∧ nib c ≤ 16 := by unfold nib; split <;> (try split) <;> omega
theorem nib_hex : ∀ v : Fin 16, nib (hexD.getD v.val 0) = v.val ∧ 0 ≤ hexD.getD v.val 0 ∧ hexD.getD v.val 0 < 128 := by decide
theorem hex_nib (c : Int) (h : nib c ≤ 15) : hexD.getD (nib c).toNat 0 = c := by
  unfold nib at h ⊢
  split at h
  · rename_i h1
    rw [if_pos h1]
    obtain ⟨n, hn⟩ : ∃ n : Nat, c = 48 + n := ⟨(c - 48).toNat, by omega⟩
    subst hn
    rw [show ((48 : Int) + n - 48).toNat = n by omega]
    have : ∀ k : Fin 10, hexD.getD k.val 0 = 48 + (k.val : Int) := by decide
    exact this ⟨n, by omega⟩
  · rename_i h1
    split at h
    · rename_i h2
      rw [if_neg h1, if_pos h2]
      obtain ⟨n, hn⟩ : ∃ n : Nat, c = 97 + n := ⟨(c - 97).toNat, by omega⟩
      subst hn
      rw [show ((97 : Int) + n - 87).toNat = n + 10 by omega]
      have : ∀ k : Fin 6, hexD.getD (k.val + 10) 0 = 97 + (k.val : Int) := by decide
      exact this ⟨n, by omega⟩
    · omega
theorem pairs_hex : ∀ a : List Int, Byts a → pairs (hex a) = a ∧ badN (hex a) = false
  | [], _ => ⟨rfl, rfl⟩
  | x :: a, h => by
    have hx := h x List.mem_cons_self
    obtain ⟨i1, i2⟩ := pairs_hex a (fun y hy => h y (List.mem_cons_of_mem _ hy))
    have h1 := (nib_hex ⟨(x / 16).toNat, by omega⟩).1
    have h2 := (nib_hex ⟨(x % 16).toNat, by omega⟩).1
    simp only at h1 h2
    have e : hex (x :: a) = hexD.getD (x / 16).toNat 0 :: hexD.getD (x % 16).toNat 0 :: hex a := rfl
    rw [e]
    constructor
    · simp only [pairs, i1, h1, h2]
      congr 1
      omega
    · unfold badN at i2 ⊢
      rw [List.any_cons, List.any_cons, i2, h1, h2, decide_eq_false (by omega), decide_eq_false (by omega)]
      rfl
theorem hex_pairs : ∀ l : List Int, l.length % 2 = 0 → badN l = false → hex (pairs l) = l ∧ Byts (pairs l)
  | [], _, _ => ⟨rfl, fun x hx => by cases hx⟩
  | [a], h, _ => by simp at h
  | a :: b :: l, h, hb => by
    unfold badN at hb
    rw [List.any_cons, List.any_cons, Bool.or_eq_false_iff, Bool.or_eq_false_iff] at hb
    obtain ⟨h1, h2, h3⟩ := hb
    have h1 := of_decide_eq_false h1
    have h2 := of_decide_eq_false h2
    have ra := nib_range a
    have rb := nib_range b
    obtain ⟨i1, i2⟩ := hex_pairs l (by simp at h; omega) h3
    have ha := hex_nib a (by omega)
    have hb := hex_nib b (by omega)
    constructor
    · show hex ((16 * nib a + nib b) :: pairs l) = _
      have e : ∀ y ys, hex (y :: ys) = hexD.getD (y / 16).toNat 0 :: hexD.getD (y % 16).toNat 0 :: hex ys := fun _ _ => rfl
      rw [e, i1, show (16 * nib a + nib b) / 16 = nib a by omega, show (16 * nib a + nib b) % 16 = nib b by omega, ha, hb]
    · intro x hx
      rcases List.mem_cons.1 hx with rfl | hx
      · omega
      · exact i2 x hx
end Go.Proofs.YtclndenmmhdokaaDoor
end
section
namespace Go.Proofs.YtclndenmmhdokaaDoor.PHB
open Go.RowKit Go.Proofs.YtclndenmmhdokaaDoorW.PrintWords Go.Proofs.YtclndenmmhdokaaDoorW.PrintLast Go.Proofs.YtclndenmmhdokaaDoorW.PrintMore
attribute [local go_sem] max2_int min2_int max_two min_two max_three min_three max_four min_four
set_option linter.unusedVariables false
set_option linter.unusedSimpArgs false
def errW : Option Int → Value
 | none => .nilIface
 | some c => .iface 0 (.int .i64 c)
theorem errW_none : errW none = .nilIface := rfl
theorem errW_some (c : Int) : errW (some c) = .iface 0 (.int .i64 c) := rfl
theorem info5 : (Tryd.prog.info? 5).map (fun i => (i.zero, i.size, i.bytes)) = some (some (.int .u8 0), 1, 1) := by kernel_rfl
def rd_L2 (xs : List (List Int)) (i : Int) : (List Int) := xs.getD i.toNat ([] : List Int)
theorem at_L2 {w : World} {A : Option Addr} {n : Nat} {xs : List (List Int)} (h : Kd.C (Kd.slice 5 (Kd.int .u8)) w A n xs) (i : Int) (h0 : 0 ≤ i) (h1 : i < n) : ∃ ad A0 c0, A = some ad ∧ w.cell? (ad.add i.toNat) = some (.slice A0 (rd_L2 xs i).length c0) ∧ (rd_L2 xs i).length ≤ c0 ∧ (Kd.int .u8).C w A0 (rd_L2 xs i).length (rd_L2 xs i) := by
 obtain ⟨ad, c, e, _, hK, hc0⟩ := Kd.C_get h ([] : List Int) i h0 h1
 have hc : ∀ j u, c[j]? = some u → w.cell? (ad.add (i.toNat * 1 + j)) = some u := hc0
 obtain ⟨A0, c0, rfl, l0, g0⟩ := hK
 exact ⟨ad, A0, c0, e, by have hq := hc 0 _ rfl; rwa [Nat.mul_one, Nat.add_zero] at hq, l0, g0⟩
end Go.Proofs.YtclndenmmhdokaaDoor.PHB
end
section
namespace Go.Proofs.YtclndenmmhdokaaDoor
open Go Go.RowKit Go.Proofs.YtclndenmmhdokaaDoorW.PrintWords Go.Proofs.YtclndenmmhdokaaDoorW.PrintMore Go.Proofs.YtclndenmmhdokaaDoorW.PrintLast Bq
set_option linter.unusedVariables false
set_option linter.unusedSimpArgs false
attribute [local go_sem ↓] Go.wp_at_zero Go.wp_at_succ
theorem bitsOf_next (xs : List Int) (i : Nat) (hi : i < xs.length) : bitsOf xs (8 * (i + 1)) = bitsOf xs (8 * i) ++ nb (xs.getD i 0).toNat 8 := by
  unfold bitsOf nb
  rw [Nat.mul_add, List.range_add, List.map_append, List.map_map]
  congr 1
  apply List.map_congr_left
  intro j hj
  have hj : j < 8 := List.mem_range.1 hj
  show bitAt xs (8 * i + j) = _
  unfold bitAt
  rw [show (8 * i + j) / 8 = i by omega, show 7 - (8 * i + j) % 8 = 8 - 1 - j by omega]
theorem arm_step (d r : List Bool) (m : Nat) (hd : d.length = 6 * m) (hr : 6 ≤ r.length) : arm (d ++ r.take 6) = arm d ++ [lett.getD (bnum (r.take 6)) 0] := by
  have ht : (r.take 6).length = 6 := by rw [List.length_take]; omega
  rw [arm_append m d _ hd, arm_short (r.take 6) (by intro e; rw [e] at ht; simp at ht) (by omega), six1_full _ ht]
theorem low_bits (X n : Nat) (h : n < 6) : X % 64 % 2 ^ n = X % 2 ^ n := by
  have : ∀ k : Fin 6, 2 ^ k.val ∣ 64 := by decide
  exact Nat.mod_mod_of_dvd X (this ⟨n, h⟩)
theorem eight_more (X c n : Nat) (r : List Bool) (hl : r.length = n) (hx : X % 2 ^ n = bnum r) (hc : c < 256) : (X * 256 + c) % 2 ^ (n + 8) = bnum (r ++ nb c 8) := by
  rw [bnum_append, nb_length, bnum_nb, ← hx]
  have hp : 2 ^ (n + 8) = 2 ^ n * 256 := by rw [Nat.pow_add]
  have hp0 : 0 < 2 ^ n := Nat.pow_pos (by decide)
  rw [hp]
  have h1 := Nat.div_add_mod X (2 ^ n)
  obtain ⟨q, hq⟩ : ∃ q, q = X / 2 ^ n := ⟨_, rfl⟩
  obtain ⟨m, hm⟩ : ∃ m, m = X % 2 ^ n := ⟨_, rfl⟩
  have hmlt : m < 2 ^ n := by rw [hm]; exact Nat.mod_lt _ hp0
  rw [← hq, ← hm] at h1
  rw [← hm]
  have e : X * 256 + c = q * (2 ^ n * 256) + (m * 256 + c) := by
    rw [← h1, Nat.add_mul, Nat.mul_comm (2 ^ n) q, Nat.mul_assoc, Nat.add_assoc]
  rw [e, Nat.add_comm, Nat.add_mul_mod_self_right, Nat.mod_eq_of_lt]
  · have : c % 2 ^ 8 = c := Nat.mod_eq_of_lt hc
    rw [this]
  · have := Nat.mul_le_mul_right 256 (Nat.succ_le_of_lt hmlt)
    rw [Nat.succ_mul] at this
    omega
set_option maxRecDepth 20000 in
set_option maxHeartbeats 4000000 in
theorem armor_calls (w : World) (A : Option Addr) (c : Nat) (xs : List Int) (hC : (Kd.int .u8).C w A xs.length xs) (hb : Byts xs) (hl : xs.length ≤ 1000000) :
    Calls Tryd.prog 32 #[.slice A xs.length c] w fun e w' => e = .returned (.string (strOfNums (armor xs))) ∧ Below w.heap.size w w' := by
  have HC := Lib.hid hC
  have HB := Lib.hid hb
  clear hC hb
  obtain ⟨m0, hm0⟩ : ∃ m0 : Nat, (4 * (xs.length : Int) + 2) / 3 = m0 := ⟨((4 * (xs.length : Int) + 2) / 3).toNat, by omega⟩
  have hm0b : m0 ≤ 10000000 := by omega
  have HM0 := Lib.hid hm0
  clear hm0
  have q0 : IntKind.i64.wrap (4 * (xs.length : Int)) = 4 * (xs.length : Int) := IntWalk.i64_in _ (by omega)
  have q1 : IntKind.i64.wrap (4 * (xs.length : Int) + 2) = 4 * (xs.length : Int) + 2 := IntWalk.i64_in _ (by omega)
  go_enter Tryd.func32, Tryd.ntmps32
  go_wp2_with (show wpList _ _ _ ({ dst := _, op := .makeSlice _ _ _, type := _, pos := _, after := _, guard := _ } :: _) _ _; refine wl_make0 0 m0 (fun k => w.heap.size ≤ k) rfl _ _ rfl rfl (congrArg (Value.int .i64) HM0.out) (Nat.zero_le _) (Nat.le_refl _) (by omega) ?_; intro v1 w1 hR1 hB1; have HR1 := Lib.hid hR1; have HB1 := Lib.hid hB1; clear hR1 hB1)
  go_loopg [3, 4, 5, 16] xs.length (fun kq s3 s4 s5 s16 wr => ∃ (i m X : Nat) (d r : List Bool), i + kq = xs.length ∧ s16 = .int .i64 i ∧ s4 = .int .u64 X ∧ s5 = .int .i64 r.length ∧ X < 64 ∧ r.length < 6 ∧ X % 2 ^ r.length = bnum r ∧ d.length ≤ 8 * i ∧ Hid (d.length = 6 * m) ∧ Hid (d ++ r = bitsOf xs (8 * i)) ∧ Hid ((Kd.int .u8).R 5 wr 0 (fun k => w.heap.size ≤ k) s3 (arm d)) ∧ Hid (Below w.heap.size w wr))
  case atStart => exact ⟨0, 0, 0, [], [], by omega, rfl, rfl, rfl, by decide, by decide, rfl, Nat.le_refl _, rfl, rfl, by rw [arm_nil]; exact HR1.out, HB1.out⟩
  case round =>
    obtain ⟨i, m, X, d, r, hi, rfl, rfl, rfl, hX, hr6, hXr, hdl, hd6, hdr, hR, hBr⟩ := hrel
    have hbs := hBr.out.size
    by_cases hlt : i < xs.length
    · obtain ⟨ad, hA, c0⟩ := C_at_int HC.out i hlt
      subst hA
      have hbx := HB.out.get i hlt
      obtain ⟨x, hx⟩ : ∃ x : Nat, xs.getD i 0 = x := ⟨(xs.getD i 0).toNat, by omega⟩
      rw [hx] at c0 hbx
      rw [← hBr.out.cell (World.block_lt_of_cell? w _ c0)] at c0
      have hx256 : x < 256 := by omega
      obtain ⟨X1, hX1⟩ : ∃ X1, X1 = X * 256 + x := ⟨_, rfl⟩
      have hor : bits .or .u64 ((X : Int) * 256) (x : Int) = (X1 : Int) := by
        have h := or_u64 X x hx256 (by omega)
        have e : ((X * 256 : Nat) : Int) = (X : Int) * 256 := by omega
        rw [← e, hX1]
        exact h
      have hX1l : X1 < 16384 := by omega
      have e1 : IntKind.u64.wrap ((X : Int) * 256) = (X : Int) * 256 := by rw [IntKind.wrap_u64]; omega
      have e2 : IntKind.u64.wrap (x : Int) = (x : Int) := by rw [IntKind.wrap_u64]; omega
      obtain ⟨r1, hr1⟩ : ∃ r1, r1 = r ++ nb x 8 := ⟨_, rfl⟩
      have hr1l : r1.length = r.length + 8 := by rw [hr1, List.length_append, nb_length]
      have hX1r : X1 % 2 ^ r1.length = bnum r1 := by rw [hr1l, hr1, hX1]; exact eight_more X x r.length r rfl hXr hx256
      have hdr1 : d ++ r1 = bitsOf xs (8 * (i + 1)) := by rw [hr1, ← List.append_assoc, hdr.out, bitsOf_next xs i hlt, hx]; rfl
      have e3 : IntKind.i64.wrap ((r.length : Int) + 8) = (r1.length : Int) := by rw [IntWalk.i64_in _ (by omega)]; omega
      have HDR1 := Lib.hid hdr1
      have HX1R := Lib.hid hX1r
      have HR1L := Lib.hid hr1l
      have li : (i : Int) < (xs.length : Int) := by omega
      clear hr1 hdr1 hX1r hX1 hXr hx hbx hx256 hr1l
      generalize gk = GK at *
      go_wp2_with fail
      clear hor e1 e2 c0
      generalize wr = wq at hR hBr ⊢
      obtain ⟨J, hJ⟩ : ∃ J, J = r1.length / 6 := ⟨_, rfl⟩
      have hr1b : r1.length ≤ 13 := by have := HR1L.out; omega
      have hJ1 : 6 * J ≤ r1.length := by omega
      have hJ2 : r1.length < 6 * J + 6 := by omega
      clear hJ
      go_loopg [3, 5] J (fun kq s3 s5 wr => ∃ (m' : Nat) (d' r' : List Bool), s5 = .int .i64 r'.length ∧ 6 * kq ≤ r'.length ∧ r'.length < 6 * kq + 6 ∧ d'.length + r'.length ≤ 8 * i + 14 ∧ r'.length ≤ 13 ∧ Hid (X1 % 2 ^ r'.length = bnum r') ∧ Hid (d'.length = 6 * m') ∧ Hid (d' ++ r' = bitsOf xs (8 * (i + 1))) ∧ Hid ((Kd.int .u8).R 5 wr 0 (fun k => w.heap.size ≤ k) s3 (arm d')) ∧ Hid (Below w.heap.size w wr))
      case atStart => exact ⟨m, d, r1, rfl, hJ1, hJ2, by omega, hr1b, HX1R.out, hd6.out, HDR1.out, hR.out, hBr.out⟩
      case round =>
        obtain ⟨m', d', r', rfl, ha1, ha2, ha3, ha4, hX', hd', hdr', hR', hB'⟩ := hrel
        obtain ⟨A4, c4, hs3⟩ := Kd.R_slice hR'.out
        subst hs3
        have hbs' := hB'.out.size
        have hal : (arm d').length ≤ 10000000 := by rw [arm_length]; omega
        by_cases hg : 0 < gk
        · obtain ⟨n2, hn2⟩ : ∃ n2, r'.length = n2 + 6 := ⟨r'.length - 6, by omega⟩
          have hpk := six_pick X1 n2 r' hn2 (by rw [← hn2]; exact hX'.out)
          obtain ⟨b6, hb6⟩ : ∃ b6, b6 = bnum (r'.take 6) := ⟨_, rfl⟩
          have ht6 : (r'.take 6).length = 6 := by rw [List.length_take]; omega
          have hb64 : b6 < 64 := by
            rw [hb6]
            have := bnum_lt (r'.take 6)
            rw [ht6] at this
            exact this
          rw [← hb6] at hpk
          have e1 : IntKind.i64.wrap ((r'.length : Int) - 6) = (n2 : Int) := by rw [IntWalk.i64_in _ (by omega)]; omega
          have e2 : IntKind.u64.wrap (n2 : Int) = (n2 : Int) := by rw [IntKind.wrap_u64]; omega
          have e3 : bits .and .u64 ((X1 : Int) / 2 ^ n2) 63 = (b6 : Int) := by
            have hdv : X1 / 2 ^ n2 < 2 ^ 64 := by
              have := Nat.div_le_self X1 (2 ^ n2)
              omega
            have h := (bits_nat .u64 64 (by decide) (fun m a b => by rw [IntKind.wrap_u64]; omega) (X1 / 2 ^ n2) 63 hdv (by decide)).1
            have e : ((X1 / 2 ^ n2 : Nat) : Int) = (X1 : Int) / 2 ^ n2 := by simp
            rw [← e]
            refine h.trans ?_
            have h63 : X1 / 2 ^ n2 &&& 63 = X1 / 2 ^ n2 % 64 := Nat.and_two_pow_sub_one_eq_mod (X1 / 2 ^ n2) 6
            rw [h63, hpk.1]
          have hS : (⟨#[65, 66, 67, 68, 69, 70, 71, 72, 73, 74, 75, 76, 77, 78, 79, 80, 81, 82, 83, 84, 85, 86, 87, 88, 89, 90, 97, 98, 99, 100, 101, 102, 103, 104, 105, 106, 107, 108, 109, 110, 111, 112, 113, 114, 115, 116, 117, 118, 119, 120, 121, 122, 48, 49, 50, 51, 52, 53, 54, 55, 56, 57, 45, 95]⟩ : ByteArray) = lettS := rfl
          have hlg := lettS_get b6 hb64
          have HLG := Lib.hid hlg
          have hn64 : n2 < 64 := by omega
          have hss : lettS.size = 64 := rfl
          have HB6 := Lib.hid hb6
          have HPK := Lib.hid hpk.2
          have HN2 := Lib.hid hn2
          have g6 : (6 : Int) ≤ (r'.length : Int) := by omega
          clear hlg hb6 hpk hn2 ht6
          go_wp2_with (at_builtin; refine Kd.R_append (Kd.int .u8) (w0 := wr) (W := wr) 0 rfl (.tmp 31) (.tmp 38) 28 5 (.int .u8 0) 1 rfl Tryd.underlying28 info_u8' rfl (by decide) (by decide) _ (arm d') ((lettS[b6]'hb64).toNat : Int) [.int .u8 ((lettS[b6]'hb64).toNat : Int)] (fun k => w.heap.size ≤ k) (fun _ => False) rfl rfl rfl (fun _ h => h.elim) (fun k hk => by omega) hR'.out (Below.refl _ _) (Nat.zero_le _) (by omega) ?_; intro v2 w2 hR2 _ hg2 _; have HR2 := Lib.hid hR2; have HG2 := Lib.hid hg2; clear hR2 hg2)
          go_roundg (gk - 1)
          case measure => omega
          case rel =>
            have hn2 := HN2.out
            have hr6' : 6 ≤ r'.length := by omega
            have hdl6 : (r'.drop 6).length = n2 := by rw [List.length_drop]; omega
            have htl6 : (r'.take 6).length = 6 := by rw [List.length_take]; omega
            have harm := arm_step d' r' m' hd'.out hr6'
            refine ⟨m' + 1, d' ++ r'.take 6, r'.drop 6, by rw [hdl6], by omega, by omega, by rw [List.length_append]; omega, by omega, by rw [hdl6]; exact HPK.out, by rw [List.length_append, htl6, hd'.out]; rfl, by rw [List.append_assoc, List.take_append_drop]; exact hdr'.out, ?_, hB'.out.grown HG2.out hbs' (fun k hk => hR'.out.1 k hk)⟩
            rw [harm, ← HB6.out, ← HLG.out]
            exact HR2.out
        · have hlt6 : r'.length < 6 := by omega
          have hng : ¬ (6 : Int) ≤ (r'.length : Int) := by omega
          have e3 : bits .and .u64 (X1 : Int) 63 = ((X1 % 64 : Nat) : Int) := by
            have h := (bits_nat .u64 64 (by decide) (fun m a b => by rw [IntKind.wrap_u64]; omega) X1 63 (by omega) (by decide)).1
            refine h.trans ?_
            have h63 : X1 &&& 63 = X1 % 64 := Nat.and_two_pow_sub_one_eq_mod X1 6
            rw [h63]
          obtain ⟨X2, hX2⟩ : ∃ X2, X2 = X1 % 64 := ⟨_, rfl⟩
          rw [← hX2] at e3
          have HX2 := Lib.hid hX2
          have hX2l : X2 < 64 := by omega
          clear hX2
          go_wp2_with fail
          go_roundg (GK - 1)
          case measure => omega
          case rel =>
            have hlen := congrArg List.length hdr'.out
            rw [List.length_append, bitsOf_length] at hlen
            refine ⟨i + 1, m', X2, d', r', by omega, by go_num, rfl, rfl, hX2l, hlt6, ?_, by omega, hd'.out, hdr'.out, hR'.out, hB'.out⟩
            rw [HX2.out, low_bits X1 _ hlt6]
            exact hX'.out
    · have hil : i = xs.length := by omega
      have hdrl : d ++ r = bitsOf xs (8 * xs.length) := by rw [← hil]; exact hdr.out
      have HDR := Lib.hid hdrl
      have HIL := Lib.hid hil
      have hal : (arm d).length ≤ 10000000 := by rw [arm_length]; omega
      obtain ⟨A4, c4, hs3⟩ := Kd.R_slice hR.out
      subst hs3
      clear hil hdrl hdr
      have li : ¬ (i : Int) < (xs.length : Int) := by omega
      by_cases hr0 : r.length = 0
      · have hr00 : ¬ (0 : Int) < (r.length : Int) := by omega
        have hconv := Kd.C_string (P := Tryd.prog) (src := 28) (dst := 9) (c := c4) Tryd.underlying28 Tryd.underlying5 Tryd.underlying9 (Kd.R_reads' hR.out).2.2
        have HR0 := Lib.hid hr0
        clear hr0
        go_wp2_with fail
        go_ret
        refine ⟨?_, hBr.out⟩
        have hr : r = [] := List.eq_nil_of_length_eq_zero HR0.out
        have e : armor xs = arm d := by rw [armor, ← HDR.out, hr, List.append_nil]
        rw [e]
        rfl
      · have hr00 : (0 : Int) < (r.length : Int) := by omega
        obtain ⟨k, hk⟩ : ∃ k, r.length + k = 6 := ⟨6 - r.length, by omega⟩
        have e1 : IntKind.i64.wrap (6 - (r.length : Int)) = (k : Int) := by rw [IntWalk.i64_in _ (by omega)]; omega
        have e2 : IntKind.u64.wrap (k : Int) = (k : Int) := by rw [IntKind.wrap_u64]; omega
        have hk6 : k < 6 := by omega
        have hpw : 2 ^ k ≤ 32 := by
          have : ∀ j : Fin 6, 2 ^ j.val ≤ 32 := by decide
          exact this ⟨k, hk6⟩
        have hXk : X * 2 ^ k < 2048 := Nat.lt_of_le_of_lt (Nat.mul_le_mul_left X hpw) (by omega)
        have hmod : X * 2 ^ k % 64 = bnum r * 2 ^ k := by
          have h64 : 64 = 2 ^ r.length * 2 ^ k := by rw [← Nat.pow_add, hk]
          rw [h64, Nat.mul_mod_mul_right, hXr]
        obtain ⟨Y, hY⟩ : ∃ Y, Y = X * 2 ^ k := ⟨_, rfl⟩
        obtain ⟨b6, hb6⟩ : ∃ b6, b6 = Y % 64 := ⟨_, rfl⟩
        have hb64 : b6 < 64 := by omega
        have e4 : (X : Int) * 2 ^ k = (Y : Int) := by
          rw [hY]
          simp
        have e5 : (Y : Int) % 18446744073709551616 = (Y : Int) := by omega
        have e5' : IntKind.u64.wrap (Y : Int) = (Y : Int) := by rw [IntKind.wrap_u64]; exact e5
        have e6 : bits .and .u64 (Y : Int) 63 = (b6 : Int) := by
          have h := (bits_nat .u64 64 (by decide) (fun m a b => by rw [IntKind.wrap_u64]; omega) Y 63 (by omega) (by decide)).1
          refine h.trans ?_
          have h63 : Y &&& 63 = Y % 64 := Nat.and_two_pow_sub_one_eq_mod Y 6
          rw [h63, ← hb6]
        have hS : (⟨#[65, 66, 67, 68, 69, 70, 71, 72, 73, 74, 75, 76, 77, 78, 79, 80, 81, 82, 83, 84, 85, 86, 87, 88, 89, 90, 97, 98, 99, 100, 101, 102, 103, 104, 105, 106, 107, 108, 109, 110, 111, 112, 113, 114, 115, 116, 117, 118, 119, 120, 121, 122, 48, 49, 50, 51, 52, 53, 54, 55, 56, 57, 45, 95]⟩ : ByteArray) = lettS := rfl
        have HLG := Lib.hid (lettS_get b6 hb64)
        have hss : lettS.size = 64 := rfl
        have hk64 : k < 64 := by omega
        have HB6 : Hid (b6 = bnum r * 2 ^ (6 - r.length)) := Lib.hid (by
          have e : 6 - r.length = k := by omega
          rw [hb6, hY, hmod, e])
        have HRN := Lib.hid hr0
        clear hY hb6 hmod hXk hpw hk
        obtain ⟨Zs, hZs⟩ : ∃ Zs, Zs = arm d ++ [((lettS[b6]'hb64).toNat : Int)] := ⟨_, rfl⟩
        have HZ := Lib.hid hZs
        clear hZs
        go_wp2_with (at_builtin; refine Kd.R_append (Kd.int .u8) (w0 := wr) (W := wr) 0 rfl (.tmp 45) (.tmp 53) 28 5 (.int .u8 0) 1 rfl Tryd.underlying28 info_u8' rfl (by decide) (by decide) _ (arm d) ((lettS[b6]'hb64).toNat : Int) [.int .u8 ((lettS[b6]'hb64).toNat : Int)] (fun k => w.heap.size ≤ k) (fun _ => False) rfl rfl rfl (fun _ h => h.elim) (fun k hk => by omega) hR.out (Below.refl _ _) (Nat.zero_le _) (by omega) ?_; intro v2 w2 hR2 _ hg2 _; rw [← HZ.out] at hR2; obtain ⟨A5, c5, hv2⟩ := Kd.R_slice hR2; subst hv2; have hconv := Kd.C_string (P := Tryd.prog) (src := 28) (dst := 9) (c := c5) Tryd.underlying28 Tryd.underlying5 Tryd.underlying9 (Kd.R_reads' hR2).2.2; have HR2 := Lib.hid hR2; have HG2 := Lib.hid hg2; clear hR2 hg2)
        go_ret
        refine ⟨?_, hBr.out.grown HG2.out hbs (fun k hk => hR.out.1 k hk)⟩
        have hrne : r ≠ [] := by
          intro e
          exact HRN.out (by rw [e]; rfl)
        have e : armor xs = Zs := by
          rw [HZ.out, armor, ← HDR.out, arm_append m d r hd6.out, arm_short r hrne (by omega), HLG.out, HB6.out]
          rfl
        rw [e]
        rfl
end Go.Proofs.YtclndenmmhdokaaDoor
end
section
namespace Go.Proofs.YtclndenmmhdokaaDoor
open Go.RowKit Go.Proofs.YtclndenmmhdokaaDoorW.PrintWords Go.Proofs.YtclndenmmhdokaaDoorW.PrintMore Go.Proofs.YtclndenmmhdokaaDoorW.PrintLast
set_option linter.unusedVariables false
set_option linter.unusedSimpArgs false
attribute [local go_sem ↓] Go.wp_at_zero Go.wp_at_succ
section
variable {ops : Array Oper} {rest : List Oper} {o : Oper} {a : Act} {w : World} {Q : Exit → Act → World → Prop}
end
end Go.Proofs.YtclndenmmhdokaaDoor
end
section
namespace Go.Proofs.YtclndenmmhdokaaDoor
open Go Go.RowKit Go.Proofs.YtclndenmmhdokaaDoorW.PrintWords Go.Proofs.YtclndenmmhdokaaDoorW.PrintMore Go.Proofs.YtclndenmmhdokaaDoorW.PrintLast Bq
set_option linter.unusedVariables false
set_option linter.unusedSimpArgs false
attribute [local go_sem ↓] Go.wp_at_zero Go.wp_at_succ
end Go.Proofs.YtclndenmmhdokaaDoor
end
section
namespace Go.Proofs.YtclndenmmhdokaaDoor
open Go Go.RowKit Go.Proofs.YtclndenmmhdokaaDoorW.PrintWords Go.Proofs.YtclndenmmhdokaaDoorW.PrintMore Go.Proofs.YtclndenmmhdokaaDoorW.PrintLast Bq
set_option linter.unusedVariables false
set_option linter.unusedSimpArgs false
attribute [local go_sem ↓] Go.wp_at_zero Go.wp_at_succ
end Go.Proofs.YtclndenmmhdokaaDoor
end
section
namespace Go.Proofs.YtclndenmmhdokaaDoor
open Go Go.RowKit Go.Proofs.YtclndenmmhdokaaDoorW.PrintWords Go.Proofs.YtclndenmmhdokaaDoorW.PrintMore Go.Proofs.YtclndenmmhdokaaDoorW.PrintLast Bq
set_option linter.unusedVariables false
set_option linter.unusedSimpArgs false
attribute [local go_sem ↓] Go.wp_at_zero Go.wp_at_succ
structure Wst (w wr : World) (L : List Int) : Prop where
  r : Blk wr w.heap.size .u32 77 (List.replicate 64 0)
  o : Blk wr (w.heap.size + 1) .u32 77 L
  b : Below w.heap.size w wr
theorem Wst.size {w wr : World} {L : List Int} (h : Wst w wr L) : w.heap.size + 2 ≤ wr.heap.size := blk_lt h.o
theorem Wst.drew {w wr : World} {L : List Int} (h : Wst w wr L) : Wst w wr.drew L := ⟨h.r, h.o, h.b.drew⟩
theorem Wst.below {w wr w1 : World} {L : List Int} (h : Wst w wr L) (hb : Below wr.heap.size wr w1) : Wst w w1 L :=
  ⟨(hb.block _ (blk_lt h.r)).trans h.r, (hb.block _ (blk_lt h.o)).trans h.o, h.b.trans (below_lower hb (by have := h.size; omega))⟩
theorem Wst.set {w wr : World} {L L' : List Int} (h : Wst w wr L) (i : Nat) (x : Int) (e : L.set i x = L') : Wst w (wr.setCell ⟨w.heap.size + 1, i, none⟩ (.int .u32 x)) L' :=
  ⟨Blk.other h.r (by omega), Blk.cast (Blk.put h.o i x) e, h.b.setCell (p := ⟨w.heap.size + 1, i, none⟩) (Nat.le_succ _) _⟩
end Go.Proofs.YtclndenmmhdokaaDoor
end
section
namespace Go.Proofs.YtclndenmmhdokaaDoor
open Go Go.RowKit Go.Proofs.YtclndenmmhdokaaDoorW.PrintWords Go.Proofs.YtclndenmmhdokaaDoorW.PrintMore Go.Proofs.YtclndenmmhdokaaDoorW.PrintLast Bq
set_option linter.unusedVariables false
set_option linter.unusedSimpArgs false
attribute [local go_sem ↓] Go.wp_at_zero Go.wp_at_succ
section
variable {ops : Array Oper} {rest : List Oper} {o : Oper} {a : Act} {w : World} {Q : Exit → Act → World → Prop}
end
structure Bst (w wr : World) (kb vb : Nat) (sl vl W : List Int) : Prop where
  s : Blk wr w.heap.size .u32 44 sl
  r : Blk wr (w.heap.size + 1) .u32 44 (List.replicate 8 0)
  k : Blk wr kb .u32 77 Sha.K
  ww : Blk wr (kb + 1) .u32 77 W
  v : Blk wr vb .u32 44 vl
  b : Below w.heap.size w wr
  hk : w.heap.size + 2 ≤ kb
  hv : kb + 2 ≤ vb
theorem Bst.drew {w wr : World} {kb vb : Nat} {sl vl W : List Int} (h : Bst w wr kb vb sl vl W) : Bst w wr.drew kb vb sl vl W := ⟨h.s, h.r, h.k, h.ww, h.v, h.b.drew, h.hk, h.hv⟩
theorem Bst.put {w wr : World} {kb vb : Nat} {sl W : List Int} {st : Sha.V8} (h : Bst w wr kb vb sl st.list W) (V : Sha.V8) : Bst w (put8A wr vb V) kb vb sl V.list W := by
  have h1 := h.hk
  have h2 := h.hv
  have hb : Below w.heap.size w (put8A wr vb V) := by
    have hg : w.heap.size ≤ vb := by omega
    exact ((((((((h.b.setCell (p := ⟨vb, 0, none⟩) hg _).setCell (p := ⟨vb, 1, none⟩) hg _).setCell (p := ⟨vb, 2, none⟩) hg _).setCell (p := ⟨vb, 3, none⟩) hg _).setCell (p := ⟨vb, 4, none⟩) hg _).setCell (p := ⟨vb, 5, none⟩) hg _).setCell (p := ⟨vb, 6, none⟩) hg _).setCell (p := ⟨vb, 7, none⟩) hg _)
  exact ⟨(put8A_far (by omega)).trans h.s, (put8A_far (by omega)).trans h.r, (put8A_far (by omega)).trans h.k, (put8A_far (by omega)).trans h.ww, put8A_blk h.v, hb, h1, h2⟩
theorem Bst.put8 {w wr : World} {kb vb : Nat} {sl W : List Int} {st : Sha.V8} (h : Bst w wr kb vb sl st.list W) (V : Sha.V8) {x0 x1 x2 x3 x4 x5 x6 x7 : Int} (e0 : x0 = V.a) (e1 : x1 = V.b) (e2 : x2 = V.c) (e3 : x3 = V.d) (e4 : x4 = V.e) (e5 : x5 = V.f) (e6 : x6 = V.g) (e7 : x7 = V.h) :
    Bst w ((((((((wr.setCell ⟨vb, 0, none⟩ (.int .u32 x0)).setCell ⟨vb, 1, none⟩ (.int .u32 x1)).setCell ⟨vb, 2, none⟩ (.int .u32 x2)).setCell ⟨vb, 3, none⟩ (.int .u32 x3)).setCell ⟨vb, 4, none⟩ (.int .u32 x4)).setCell ⟨vb, 5, none⟩ (.int .u32 x5)).setCell ⟨vb, 6, none⟩ (.int .u32 x6)).setCell ⟨vb, 7, none⟩ (.int .u32 x7)) kb vb sl V.list W := by
  subst e0 e1 e2 e3 e4 e5 e6 e7
  exact h.put V
end Go.Proofs.YtclndenmmhdokaaDoor
end
section
namespace Go.Proofs.YtclndenmmhdokaaDoor
open Go Go.RowKit Go.Proofs.YtclndenmmhdokaaDoorW.PrintWords Go.Proofs.YtclndenmmhdokaaDoorW.PrintMore Go.Proofs.YtclndenmmhdokaaDoorW.PrintLast Bq
set_option linter.unusedVariables false
set_option linter.unusedSimpArgs false
attribute [local go_sem ↓] Go.wp_at_zero Go.wp_at_succ
end Go.Proofs.YtclndenmmhdokaaDoor
end
