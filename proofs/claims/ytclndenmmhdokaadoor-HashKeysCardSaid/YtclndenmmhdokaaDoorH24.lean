/- Few texts, and short ones? And HashFast. -/
import Derived.Test.YtclndenmmhdokaaDoorH23
namespace Go.Proofs.YtclndenmmhdokaaDoor
open Go Go.RowKit Go.Proofs.YtclndenmmhdokaaDoorW.PrintWords Go.Proofs.YtclndenmmhdokaaDoorW.PrintMore Go.Proofs.YtclndenmmhdokaaDoorW.PrintLast Bq
set_option linter.unusedVariables false
set_option linter.unusedSimpArgs false
attribute [local go_sem ↓] Go.wp_at_zero Go.wp_at_succ
def shortB (xss : List (List Int)) : Bool := (xss.all fun xs => decide (xs.length ≤ 2000)) && decide (xss.length ≤ 30)
theorem shortB_true {xss : List (List Int)} (h : shortB xss = true) : (∀ xs ∈ xss, xs.length ≤ 2000) ∧ xss.length ≤ 30 := by
  unfold shortB at h
  rw [Bool.and_eq_true] at h
  exact ⟨fun xs hx => of_decide_eq_true (List.all_eq_true.1 h.1 xs hx), of_decide_eq_true h.2⟩
theorem short_flat {xss : List (List Int)} (h : shortB xss = true) : xss.flatten.length ≤ 60000 := by
  obtain ⟨h1, h2⟩ := shortB_true h
  clear h
  have : ∀ yss : List (List Int), (∀ xs ∈ yss, xs.length ≤ 2000) → yss.flatten.length ≤ 2000 * yss.length := by
    intro yss
    induction yss with
    | nil => intro _; simp
    | cons y ys ih =>
      intro h
      have a := h y (List.mem_cons_self ..)
      have b := ih (fun z hz => h z (List.mem_cons_of_mem _ hz))
      rw [List.flatten_cons, List.length_append, List.length_cons]
      omega
  have := this xss h1
  omega
set_option maxHeartbeats 2000000 in
theorem short_calls (w : World) (A : Option Addr) (c : Nat) (xss : List (List Int)) (hC : (Kd.slice 5 (Kd.int .u8)).C w A xss.length xss) :
    Calls Tryd.prog 13 #[.slice A xss.length c] w fun e w' => e = .returned (.bool (shortB xss)) ∧ w = w' := by
  have HC := Lib.hid hC
  have hmax : xss.length ≤ 9223372036854775807 := hC.2.1
  clear hC
  go_enter Tryd.func13, Tryd.ntmps13
  go_wp2
  go_loopg [7] xss.length (fun kq s7 wr => ∃ k : Nat, k + kq = xss.length ∧ s7 = .int .i64 k ∧ wr = w ∧ Hid (∀ xs ∈ xss.take k, xs.length ≤ 2000))
  case atStart => exact ⟨0, by omega, rfl, rfl, fun xs hx => by simp at hx⟩
  case round =>
    obtain ⟨k, hk, rfl, rfl, hT⟩ := hrel
    by_cases hlt : k < xss.length
    · obtain ⟨ad, B, cb, hA, hcell, hcb, hBC⟩ := rows_get HC.out k hlt
      subst hA
      obtain ⟨xs, hxs⟩ : ∃ xs, xs = xss.getD k [] := ⟨_, rfl⟩
      rw [← hxs] at hcell
      have hmem : xs ∈ xss := by
        rw [hxs, List.getD_eq_getElem?_getD, List.getElem?_eq_getElem hlt]
        exact List.getElem_mem hlt
      have li : (k : Int) < (xss.length : Int) := by omega
      have HX := Lib.hid hxs
      have HM := Lib.hid hmem
      clear hxs hmem hBC
      by_cases h2 : xs.length ≤ 2000
      · have h2i : ¬ (2000 : Int) < (xs.length : Int) := by omega
        have H2 := Lib.hid h2
        clear h2
        go_wp2_with fail
        go_roundg (gk - 1)
        case measure => omega
        case rel =>
          refine ⟨k + 1, by omega, by go_num, rfl, fun ys hy => ?_⟩
          rw [List.take_succ_eq_append_getElem hlt] at hy
          rcases List.mem_append.1 hy with hy | hy
          · exact hT.out ys hy
          · have e : ys = xs := by
              rw [List.mem_singleton.1 hy, HX.out, List.getD_eq_getElem?_getD, List.getElem?_eq_getElem hlt]
              rfl
            rw [e]
            exact H2.out
      · have h2i : (2000 : Int) < (xs.length : Int) := by omega
        have H2 := Lib.hid h2
        clear h2
        go_wp2_with fail
        go_ret
        refine ⟨?_, rfl⟩
        have hf : shortB xss = false := by
          cases hb : shortB xss with
          | false => rfl
          | true => exact absurd ((shortB_true hb).1 xs HM.out) H2.out
        rw [hf]
        rfl
    · have hke : k = xss.length := by omega
      subst hke
      have h1 := hT.out
      rw [List.take_length] at h1
      have hs : decide ((xss.length : Int) ≤ 30) = shortB xss := by
        unfold shortB
        have h2 : (xss.all fun xs => decide (xs.length ≤ 2000)) = true := List.all_eq_true.2 (fun xs hx => decide_eq_true (h1 xs hx))
        rw [h2, Bool.true_and]
        have e : ((xss.length : Int) ≤ 30) ↔ (xss.length ≤ 30) := by omega
        exact decide_eq_decide.2 e
      have HS := Lib.hid hs
      clear h1 hs
      go_wp2_with fail
      go_ret
      refine ⟨?_, rfl⟩
      rw [← HS.out]
      rfl
end Go.Proofs.YtclndenmmhdokaaDoor
