import Derived.Test.YtbpmgaaipkenkaaDoorCLimitSeriesG2
import Derived.Lib.ValidLaws
namespace Go.Proofs.YtbpmgaaipkenkaaDoor.Pu
open Go Go.RowKit Go.Proofs.YtbpmgaaipkenkaaDoorW.PrintWords Go.Proofs.YtbpmgaaipkenkaaDoorW.PrintLast Go.Proofs.YtbpmgaaipkenkaaDoorW.PrintMore
set_option linter.unusedVariables false
theorem w64 {x : Int} (h0 : -9223372036854775808 ≤ x) (h1 : x ≤ 9223372036854775807) : wrap64 x = x := by unfold wrap64; omega
theorem wn {n : Nat} {x : Int} (h : x = (n : Int)) (hn : n ≤ 9223372036854775807) : wrap64 x = (n : Int) := by
  rw [h]
  exact w64 (by omega) (by omega)
theorem w1 (n : Nat) (h : n ≤ 9000000000000000000) : wrap64 ((n : Int) + 1) = ((n + 1 : Nat) : Int) := wn rfl (by omega)
theorem w2 (n : Nat) (h : n ≤ 9000000000000000000) : wrap64 (((n + 1 : Nat) : Int) + 1) = ((n + 2 : Nat) : Int) := wn (by omega) (by omega)
abbrev Str := List UInt8
def B (s : ByteArray) : Str := s.data.toList
theorem B_length (s : ByteArray) : (B s).length = s.size := data_length s
theorem toList_B (s : ByteArray) : s.toList = B s := ByteArray.toList_eq s
theorem B_inj {a b : ByteArray} (h : B a = B b) : a = b := Go.WideShapes.bytes_inj h
theorem B_mk (a : Array UInt8) : B ⟨a⟩ = a.toList := rfl
theorem bt_B (s : ByteArray) (n : Nat) : bt s (n : Int) = (((B s).getD n 0).toNat : Int) := by
  unfold bt B
  rw [Int.toNat_natCast]
  by_cases h : n < s.size
  · rw [dif_pos h, List.getD_eq_getElem?_getD, List.getElem?_eq_getElem (by rw [data_length]; exact h)]
    simp
    rfl
  · rw [dif_neg h, List.getD_eq_getElem?_getD, List.getElem?_eq_none (by rw [data_length]; omega)]
    rfl
theorem B_append (a b : ByteArray) : B (a ++ b) = B a ++ B b := by
  unfold B
  simp [ByteArray.data_append]
def str (l : Str) : ByteArray := ⟨l.toArray⟩
theorem B_str (l : Str) : B (str l) = l := by simp [B, str]
theorem str_B (s : ByteArray) : str (B s) = s := B_inj (B_str _)
theorem drop_cons (l : Str) (n : Nat) (h : n < l.length) : l.drop n = l.getD n 0 :: l.drop (n + 1) := by
  rw [List.drop_eq_getElem_cons h, List.getD_eq_getElem?_getD, List.getElem?_eq_getElem h]
  rfl
theorem getD_drop (l : Str) (n i : Nat) : (l.drop n).getD i 0 = l.getD (n + i) 0 := by
  simp [List.getD_eq_getElem?_getD, List.getElem?_drop]
theorem succ_of {k d : Nat} (h : d < k) : ∃ m, k = m + 1 := ⟨k - 1, by omega⟩
theorem Ev.at {α : Type} {g : Nat → Option α} {r : α} (K : Nat) (h : ∀ k, K < k → g k = some r) : Ev g r := ⟨K + 1, fun k hk => h k (by omega)⟩
theorem Ev.add {α : Type} {g : Nat → Option α} {r : α} (h : Ev g r) : Ev (fun k => g (k + 1)) r := by
  obtain ⟨K, h⟩ := h
  exact ⟨K, fun k hk => h (k + 1) (by omega)⟩
end Go.Proofs.YtbpmgaaipkenkaaDoor.Pu
