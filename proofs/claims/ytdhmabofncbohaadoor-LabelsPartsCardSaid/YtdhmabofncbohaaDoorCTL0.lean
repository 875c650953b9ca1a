import Derived.Test.YtdhmabofncbohaaDoorCTK
import Derived.Test.YtdhmabofncbohaaDoorShelf
namespace Go.Proofs.YtdhmabofncbohaaDoor
open Go Go.RowKit Go.Proofs.YtdhmabofncbohaaDoorW.PrintWords
set_option linter.unusedVariables false
def Tab (w : World) : Prop := Lib.Utf8Tabs 0 1 w
theorem Tab_below {w w1 : World} (h : Tab w) (hb : Below w.heap.size w w1) : Tab w1 :=
  ⟨fun c hc => (hb.cell (World.block_lt_of_cell? w _ (h.1 c hc))).trans (h.1 c hc), fun i hi => ⟨(hb.cell (World.block_lt_of_cell? w _ (h.2 i hi).1)).trans (h.2 i hi).1, (hb.cell (World.block_lt_of_cell? w _ (h.2 i hi).2)).trans (h.2 i hi).2⟩⟩
theorem valid_calls (s : ByteArray) (w : World) (hs : s.size ≤ 9223372036854775807) (hT : Tab w) :
    Calls Tryd.prog 57 #[.string s] w fun e w' => e = .returned (.bool (Lib.validD s.data.toList)) ∧ Below w.heap.size w w' :=
  Any.utf8_ValidString Tryd.laysValid s w hs hT
def fstB (c : Int) : Bool := (decide (97 ≤ c) && decide (c ≤ 122)) || (decide (65 ≤ c) && decide (c ≤ 90)) || (c == 95)
def letB (c : Int) : Bool := fstB c || (decide (48 ≤ c) && decide (c ≤ 57))
theorem letB_high {c : Int} (h : 128 ≤ c) : letB c = false := by
  unfold letB fstB
  have h1 : decide (c ≤ 122) = false := decide_eq_false (by omega)
  have h2 : decide (c ≤ 90) = false := decide_eq_false (by omega)
  have h3 : decide (c ≤ 57) = false := decide_eq_false (by omega)
  have h4 : (c == 95) = false := beq_eq_false_iff_ne.mpr (by omega)
  simp [h1, h2, h3, h4]
def namedB (l : List UInt8) : Bool := !l.isEmpty && decide (l.length ≤ 64) && l.all (fun b => letB b.toNat) && fstB (l.getD 0 0).toNat
theorem namedB_letters {l : List UInt8} (h : namedB l = true) : l ≠ [] ∧ l.length ≤ 64 ∧ (∀ b ∈ l, letB b.toNat = true) ∧ fstB (l.getD 0 0).toNat = true := by
  unfold namedB at h
  simp only [Bool.and_eq_true, List.all_eq_true, decide_eq_true_eq, Bool.not_eq_true', List.isEmpty_eq_false_iff] at h
  exact ⟨h.1.1.1, h.1.1.2, h.1.2, h.2⟩
theorem namedB_no {l : List UInt8} {i : Nat} (hi : i < l.length) (h : letB (l.getD i 0).toNat = false ∨ (i = 0 ∧ fstB (l.getD 0 0).toNat = false)) : namedB l = false := by
  cases hn : namedB l with
  | false => rfl
  | true =>
    exfalso
    obtain ⟨_, _, h1, h2⟩ := namedB_letters hn
    rcases h with h | ⟨_, h⟩
    · have := h1 (l.getD i 0) (by rw [List.getD_eq_getElem?_getD, List.getElem?_eq_getElem hi]; exact List.getElem_mem hi)
      rw [h] at this
      cases this
    · rw [h2] at h
      cases h
theorem namedB_yes {l : List UInt8} (h0 : 0 < l.length) (h1 : l.length ≤ 64) (h2 : ∀ i, i < l.length → letB (l.getD i 0).toNat = true) (h3 : fstB (l.getD 0 0).toNat = true) : namedB l = true := by
  unfold namedB
  simp only [Bool.and_eq_true, List.all_eq_true, decide_eq_true_eq, Bool.not_eq_true', List.isEmpty_eq_false_iff]
  refine ⟨⟨⟨List.length_pos_iff.1 h0, h1⟩, fun b hb => ?_⟩, h3⟩
  obtain ⟨i, hi, rfl⟩ := List.getElem_of_mem hb
  have := h2 i hi
  rwa [List.getD_eq_getElem?_getD, List.getElem?_eq_getElem hi] at this
theorem namedB_long {l : List UInt8} (h : 64 < l.length) : namedB l = false := by
  unfold namedB
  rw [decide_eq_false (by omega)]
  simp
theorem byte_at (s : ByteArray) (i : Nat) (h : i < s.size) : s[i] = s.data.toList.getD i 0 := by
  rw [List.getD_eq_getElem?_getD, List.getElem?_eq_getElem (by rw [data_length]; exact h)]
  simp
  rfl
theorem less_gt : ∀ x y : List UInt8, Op.bytesLess y x = (!(Op.bytesLess x y) && !(x == y))
  | [], [] => rfl
  | [], b :: y => by simp [Op.bytesLess]
  | a :: x, [] => by simp [Op.bytesLess]
  | a :: x, b :: y => by
    have ih := less_gt x y
    simp only [Op.bytesLess]
    by_cases h1 : a < b
    · have h2 : ¬ b < a := by rw [UInt8.lt_iff_toNat_lt] at h1 ⊢; omega
      have h3 : (b == a) = false := beq_eq_false_iff_ne.mpr (fun h => by rw [UInt8.lt_iff_toNat_lt, h] at h1; omega)
      simp [h1, h2, h3]
    · by_cases h2 : b < a
      · have h3 : (a == b) = false := beq_eq_false_iff_ne.mpr (fun h => by rw [UInt8.lt_iff_toNat_lt, h] at h2; omega)
        simp [h1, h2, h3]
      · have h3 : a = b := by
          rw [UInt8.lt_iff_toNat_lt] at h1 h2
          exact UInt8.toNat_inj.1 (by omega)
        subst h3
        simp [h1, ih]
end Go.Proofs.YtdhmabofncbohaaDoor
