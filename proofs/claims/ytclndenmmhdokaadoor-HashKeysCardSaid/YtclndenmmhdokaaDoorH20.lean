/- Bytes as digits: the document's Hex, the program's Hex. -/
import Derived.Test.YtclndenmmhdokaaDoorH11
import Derived.Test.YtclndenmmhdokaaDoorE1
namespace Go.Proofs.YtclndenmmhdokaaDoor
open Go Go.RowKit Go.Proofs.YtclndenmmhdokaaDoorW.PrintWords Go.Proofs.YtclndenmmhdokaaDoorW.PrintMore Go.Proofs.YtclndenmmhdokaaDoorW.PrintLast Bq
set_option linter.unusedVariables false
set_option linter.unusedSimpArgs false
attribute [local go_sem ↓] Go.wp_at_zero Go.wp_at_succ

theorem sN_append (a b : List Int) : strOfNums (a ++ b) = strOfNums a ++ strOfNums b := by
  simp only [strOfNums, List.map_append]
  apply ByteArray.ext
  simp
def hexD : List Int := [48, 49, 50, 51, 52, 53, 54, 55, 56, 57, 97, 98, 99, 100, 101, 102]
def hexS : ByteArray := ⟨#[48, 49, 50, 51, 52, 53, 54, 55, 56, 57, 97, 98, 99, 100, 101, 102]⟩
def hex1 (x : Int) : List Int := [hexD.getD (x / 16).toNat 0, hexD.getD (x % 16).toNat 0]
def hex (xs : List Int) : List Int := xs.flatMap hex1
theorem hexS_cut (n : Nat) (h : n < 16) : hexS.extract n (n + 1) = strOfNums [hexD.getD n 0] := by
  have : ∀ k : Fin 16, hexS.extract k.val (k.val + 1) = strOfNums [hexD.getD k.val 0] := by decide
  exact this ⟨n, h⟩
theorem hex_length (xs : List Int) : (hex xs).length = 2 * xs.length := by
  unfold hex
  rw [List.length_flatMap]
  have : xs.map (fun x => (hex1 x).length) = xs.map (fun _ => 2) := rfl
  rw [this]
  clear this
  induction xs with
  | nil => rfl
  | cons x xs ih => rw [List.map_cons, List.sum_cons, ih, List.length_cons]; omega
theorem hex_next (xs : List Int) (i : Nat) (h : i < xs.length) : hex (xs.take i) ++ hex1 (xs.getD i 0) = hex (xs.take (i + 1)) := by
  unfold hex
  rw [List.take_succ_eq_append_getElem h, List.flatMap_append, List.getD_eq_getElem?_getD, List.getElem?_eq_getElem h]
  simp
set_option maxHeartbeats 2000000 in
theorem rhex_calls (w : World) (A : Option Addr) (c : Nat) (xs : List Int) (hC : (Kd.int .u8).C w A xs.length xs) (hb : Byts xs) (hl : xs.length ≤ 1000000000) :
    Calls Tryd.prog 35 #[.slice A xs.length c] w fun e w' => e = .returned (.string (strOfNums (hex xs))) ∧ Below w.heap.size w w' := by
  have HC := Lib.hid hC
  have HB := Lib.hid hb
  clear hC hb
  have hS : (⟨#[48, 49, 50, 51, 52, 53, 54, 55, 56, 57, 97, 98, 99, 100, 101, 102]⟩ : ByteArray) = hexS := rfl
  have hSs : hexS.size = 16 := rfl
  go_enter Tryd.func35, Tryd.ntmps35
  go_wp2
  go_loopg [3, 8] xs.length (fun kq s3 s8 wr => ∃ (i : Nat) (S : ByteArray), i + kq = xs.length ∧ s8 = .int .i64 i ∧ s3 = .string S ∧ S.size ≤ 2 * i ∧ Hid (S = strOfNums (hex (xs.take i))) ∧ Hid (Below w.heap.size w wr))
  case atStart => exact ⟨0, ⟨#[]⟩, by omega, rfl, rfl, by decide, rfl, Below.refl _ _⟩
  case round =>
    obtain ⟨i, S, hi, rfl, rfl, hSl, hSS, hBr⟩ := hrel
    by_cases hlt : i < xs.length
    · obtain ⟨ad, hA, c0⟩ := C_at_int HC.out i hlt
      subst hA
      have hbx := HB.out.get i hlt
      obtain ⟨x, hx⟩ : ∃ x, x = xs.getD i 0 := ⟨_, rfl⟩
      rw [← hx] at c0 hbx
      rw [← hBr.out.cell (World.block_lt_of_cell? w _ c0)] at c0
      obtain ⟨p, hp⟩ : ∃ p : Nat, x / 16 = p := ⟨(x / 16).toNat, by omega⟩
      obtain ⟨q, hq⟩ : ∃ q : Nat, x % 16 = q := ⟨(x % 16).toNat, by omega⟩
      have hp16 : p < 16 := by omega
      have hq16 : q < 16 := by omega
      have e1 : IntKind.u8.wrap ((p : Int) + 1) = ((p + 1 : Nat) : Int) := by rw [IntKind.wrap_u8]; omega
      have e2 : IntKind.u8.wrap ((q : Int) + 1) = ((q + 1 : Nat) : Int) := by rw [IntKind.wrap_u8]; omega
      have e3 : ((p + 1 : Nat) : Int) = (p : Int) + 1 := by omega
      obtain ⟨P1, hP1⟩ : ∃ P1, hexS.extract p (p + 1) = P1 := ⟨_, rfl⟩
      obtain ⟨Q1, hQ1⟩ : ∃ Q1, hexS.extract q (q + 1) = Q1 := ⟨_, rfl⟩
      have hPs : P1.size = 1 := by rw [← hP1, hexS_cut p hp16]; rfl
      have hQs : Q1.size = 1 := by rw [← hQ1, hexS_cut q hq16]; rfl
      have t1 : x.tdiv 16 = (p : Int) := by rw [Int.tdiv_eq_ediv_of_nonneg (by omega)]; exact hp
      have t2 : x.tmod 16 = (q : Int) := by rw [Int.tmod_eq_emod_of_nonneg (by omega)]; exact hq
      have li : (i : Int) < (xs.length : Int) := by omega
      have hPQ : (P1 ++ Q1).size = 2 := by rw [ByteArray.size_append, hPs, hQs]
      have HX := Lib.hid hx
      have hbx1 := hbx.1
      have hbx2 := hbx.2
      clear hx hbx
      go_upto_region 5 with fail
      go_quiet (fail)
      go_wp2_with fail
      go_roundg (gk - 1)
      case measure => omega
      case rel =>
        refine ⟨i + 1, _, by omega, by go_num, rfl, by rw [ByteArray.size_append, hPQ]; omega, ?_, pw_below_drewN hBr.out nq⟩
        show S ++ (P1 ++ Q1) = strOfNums (hex (xs.take (i + 1)))
        have ep : (x / 16).toNat = p := by omega
        have eq : (x % 16).toNat = q := by omega
        rw [← hex_next xs i hlt, sN_append, hSS.out, ← HX.out, hex1, ep, eq, show [hexD.getD p 0, hexD.getD q 0] = [hexD.getD p 0] ++ [hexD.getD q 0] from rfl, sN_append, ← hexS_cut p hp16, ← hexS_cut q hq16, hP1, hQ1]
    · have hil : i = xs.length := by omega
      have HI := Lib.hid hil
      clear hil
      go_wp2_with fail
      go_ret
      refine ⟨?_, hBr.out⟩
      have e := hSS.out
      rw [HI.out, List.take_length] at e
      rw [← e]
      rfl
end Go.Proofs.YtclndenmmhdokaaDoor
