/- Keys, xored. -/
import Derived.Test.YtclndenmmhdokaaDoorH9
import Derived.Laws.CopyOwn
namespace Go.Proofs.YtclndenmmhdokaaDoor
open Go.RowKit Go.Proofs.YtclndenmmhdokaaDoorW.PrintWords Go.Proofs.YtclndenmmhdokaaDoorW.PrintMore Go.Proofs.YtclndenmmhdokaaDoorW.PrintLast
set_option linter.unusedVariables false
set_option linter.unusedSimpArgs false
attribute [local go_sem ↓] Go.wp_at_zero Go.wp_at_succ
namespace Sha
def xor8 (c : Int) (l : List Int) : List Int := l.map fun b => bits .xor .u8 b c
/-- A key's 64 bytes. -/
def key64 (k : List Int) : List Int := if 64 < k.length then sum k ++ List.replicate 32 0 else k ++ List.replicate (64 - k.length) 0
def mac (k t : List Int) : List Int := sum (xor8 92 (key64 k) ++ sum (xor8 54 (key64 k) ++ t))
theorem xor8_length (c : Int) (l : List Int) : (xor8 c l).length = l.length := by simp [xor8]
theorem key64_length (k : List Int) : (key64 k).length = 64 := by
  unfold key64
  split
  · rw [List.length_append, sum_length]; rfl
  · rw [List.length_append, List.length_replicate]; omega
theorem byts_zeros (n : Nat) : Byts (List.replicate n 0) := fun x hx => by
  have := List.eq_of_mem_replicate hx
  omega
theorem byts_app {a b : List Int} (ha : Byts a) (hb : Byts b) : Byts (a ++ b) := fun x hx => (List.mem_append.1 hx).elim (ha x) (hb x)
theorem byts_key64 (k : List Int) (h : Byts k) : Byts (key64 k) := by
  unfold key64
  split
  · exact byts_app (byts_sum _) (byts_zeros _)
  · exact byts_app h (byts_zeros _)
theorem u8_and_lt (k : IntKind) (a b : BitVec 8) : 0 ≤ ((a ^^^ b).toNat : Int) ∧ ((a ^^^ b).toNat : Int) < 256 := by have := (a ^^^ b).isLt; omega
theorem byts_xor8 (c : Int) (l : List Int) : Byts (xor8 c l) := fun x hx => by
  obtain ⟨y, _, rfl⟩ := List.mem_map.1 hx
  have h := IntKind.wrap_u8 ((BitVec.ofInt 8 y ^^^ BitVec.ofInt 8 c).toNat : Int)
  have h2 := u8_and_lt .u8 (BitVec.ofInt 8 y) (BitVec.ofInt 8 c)
  show 0 ≤ bits .xor .u8 y c ∧ bits .xor .u8 y c < 256
  unfold bits
  first | (simp only []; omega) | exact h2 | (simp [IntKind.wrap_u8]; omega)
end Sha
theorem mixN_len (s v : List Int) (k : Nat) (hs : s.length = v.length) (hk : k ≤ v.length) : (s.take k ++ v.drop k).length = v.length := by
  rw [List.length_append, List.length_take, List.length_drop]; omega
theorem mixN_get (s v : List Int) (k : Nat) (hs : s.length = v.length) (hk : k < v.length) : (s.take k ++ v.drop k).getD k 0 = v.getD k 0 := by
  rw [List.getD_eq_getElem?_getD, List.getElem?_append_right (by rw [List.length_take]; omega), List.length_take, Nat.min_eq_left (by omega), Nat.sub_self, List.getElem?_drop, Nat.add_zero, ← List.getD_eq_getElem?_getD]
theorem mixN_set (s v : List Int) (k : Nat) (hs : s.length = v.length) (hk : k < v.length) : (s.take k ++ v.drop k).set k (s.getD k 0) = s.take (k + 1) ++ v.drop (k + 1) := by
  have h1 : (s.take k).length = k := by rw [List.length_take]; omega
  rw [List.set_append_right _ _ (by omega), h1, Nat.sub_self, List.drop_eq_getElem_cons hk, List.set_cons_zero, List.take_succ_eq_append_getElem (by omega), List.append_assoc, List.getD_eq_getElem?_getD, List.getElem?_eq_getElem (by omega)]
  rfl
/-- A block as a row that is read. -/
theorem Blk.C {w : World} {g t : Nat} {k : IntKind} {xs : List Int} (h : Blk w g k t xs) (hm : xs.length ≤ 9223372036854775807) : (Kd.int k).C w (some ⟨g, 0, none⟩) xs.length xs := by
  refine ⟨rfl, hm, fun hp => ⟨⟨g, 0, none⟩, rfl, fun i p hi => ⟨[.int k p], rfl, rfl, fun j u hu => ?_⟩⟩⟩
  rcases j with _ | j
  · injection hu with hu
    subst hu
    have hlt : i < xs.length := (List.getElem?_eq_some_iff.1 hi).1
    have hg := h.get i hlt
    rw [List.getD_eq_getElem?_getD, hi] at hg
    have e : (⟨g, 0, none⟩ : Addr).add (i * 1 + 0) = ⟨g, i, none⟩ := by rw [Addr.add_mid]; simp
    exact (congrArg w.cell? e).trans hg
  · cases hu
theorem Blk.F {w : World} {g t : Nat} {k : IntKind} {xs : List Int} (h : Blk w g k t xs) (hm : xs.length ≤ 9223372036854775807) : Kd.F (Kd.int k) w (fun j => j = g) (some ⟨g, 0, none⟩) xs.length xs :=
  fun W hW => Blk.C (t := t) ((hW g rfl h.lt).trans h) hm

set_option maxHeartbeats 4000000 in
theorem pad_calls (w : World) (xs : List Int) (c : Int) (hl : xs.length = 64) (hb : Byts xs) :
    Calls Tryd.prog 49 #[.agg (nums .u8 xs).toArray, .int .u8 c] w fun e w' => e = .returned (.slice (some ⟨w.heap.size, 0, none⟩) 64 64) ∧ Blk w' w.heap.size .u8 66 (Sha.xor8 c xs) ∧ Below w.heap.size w w' := by
  have HB := Lib.hid hb
  clear hb
  go_enter Tryd.func49, Tryd.ntmps49
  go_upto_region 1 with fail
  obtain ⟨Y, hY⟩ : ∃ Y, Y = Sha.xor8 c xs := ⟨_, rfl⟩
  have hYl : Y.length = xs.length := by rw [hY, Sha.xor8_length]
  obtain ⟨w1, hw1⟩ : ∃ w1, w1 = w.alloc (.cells (nums .u8 xs).toArray 66) := ⟨_, rfl⟩
  have k1 : Blk w1 w.heap.size .u8 66 (Y.take 0 ++ xs.drop 0) := by rw [hw1]; exact blk_new w _
  have b1 : Below w.heap.size w w1 := by rw [hw1]; exact (Below.refl _ w).alloc (Nat.le_refl _) _
  rw [← hw1]
  have HY := Lib.hid hY
  have K1 := Lib.hid k1
  have B1 := Lib.hid b1
  clear hw1 hY k1 b1
  go_wp2_with fail
  go_loopg [6] 64 (fun kq s6 wr => ∃ k : Nat, k + kq = 64 ∧ s6 = .int .i64 k ∧ Hid (Blk wr w.heap.size .u8 66 (Y.take k ++ xs.drop k)) ∧ Hid (Below w.heap.size w wr))
  case atStart => exact ⟨0, by omega, rfl, K1.out, B1.out⟩
  case round =>
    obtain ⟨k, hk, rfl, h1, hBr⟩ := hrel
    by_cases hlt : k < 64
    · have c0 := h1.out.get k (by rw [mixN_len _ _ _ hYl (by omega)]; omega)
      rw [mixN_get _ _ _ hYl (by omega)] at c0
      have f0 := h1.out.free k
      obtain ⟨x, hx⟩ : ∃ x, x = xs.getD k 0 := ⟨_, rfl⟩
      obtain ⟨y, hy⟩ : ∃ y, bits .xor .u8 x c = y := ⟨_, rfl⟩
      have hyY : y = Y.getD k 0 := by
        rw [← hy, HY.out, hx]
        unfold Sha.xor8
        rw [List.getD_eq_getElem?_getD, List.getD_eq_getElem?_getD, List.getElem?_map, List.getElem?_eq_getElem (by omega)]
        rfl
      rw [← hx] at c0
      have HYY := Lib.hid hyY
      have lk : (k : Int) < 64 := by omega
      clear hx hyY
      go_wp2_with fail
      go_roundg (gk - 1)
      case measure => omega
      case rel =>
        refine ⟨k + 1, by omega, by go_num, ?_, hBr.out.setCell (p := ⟨w.heap.size, k, none⟩) (Nat.le_refl _) _⟩
        rw [HYY.out]
        exact Blk.cast (Blk.put h1.out k _) (mixN_set _ _ _ hYl (by omega))
    · have hk64 : k = 64 := by omega
      subst hk64
      have h2 := h1.out
      rw [List.take_of_length_le (by omega), List.drop_of_length_le (by omega), List.append_nil, HY.out] at h2
      have H2 := Lib.hid h2
      clear h2 hlt hk
      go_wp2_with fail
      go_ret
      exact ⟨rfl, H2.out, hBr.out⟩
end Go.Proofs.YtclndenmmhdokaaDoor
