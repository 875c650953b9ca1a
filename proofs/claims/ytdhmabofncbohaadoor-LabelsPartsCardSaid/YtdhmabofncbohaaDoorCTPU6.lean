import Derived.Test.YtdhmabofncbohaaDoorCTPU5
import Derived.Test.YtdhmabofncbohaaDoorCTPLBx16
import Derived.Test.YtdhmabofncbohaaDoorCTPLBx17
import Derived.Test.YtdhmabofncbohaaDoorCTPLBx18
import Derived.Test.YtdhmabofncbohaaDoorCTPLBx19
import Derived.Test.YtdhmabofncbohaaDoorCTPLBx20
namespace Go.Proofs.YtdhmabofncbohaaDoor.Pu
open Go Go.RowKit Go.Proofs.YtdhmabofncbohaaDoor Go.Proofs.YtdhmabofncbohaaDoor.PLB Go.Proofs.YtdhmabofncbohaaDoorW.PrintWords Go.Proofs.YtdhmabofncbohaaDoorW.PrintLast Go.Proofs.YtdhmabofncbohaaDoorW.PrintMore
set_option linter.unusedVariables false
set_option linter.unusedSimpArgs false
def namesB (l : List ByteArray) : Bool := decide (l.length ≤ 60) && l.all (fun x => decide (x.size ≤ 400))
theorem rdO (l : List ByteArray) (n : Nat) : rdOf ByteArray.empty l (n : Int) = l.getD n ByteArray.empty := by unfold rdOf; rw [Int.toNat_natCast]
theorem names_l0 (l : List ByteArray) (hl : l.length ≤ 60) : ∀ (d n : Nat), n + d = l.length → Ev (fun k => manometerlaw05_names.l0 k l (l.length : Int) (n : Int)) ((l.drop n).all (fun x => decide (x.size ≤ 400)))
  | d, n, hd => by
    refine Ev.step (f := _) (fun k => by simp only [manometerlaw05_names.l0]; rfl) ?_
    by_cases hlt : n < l.length
    · obtain ⟨d, rfl⟩ : ∃ e, d = e + 1 := ⟨d - 1, by omega⟩
      have ih := names_l0 l hl d (n + 1) (by omega)
      rw [dropB l n hlt, List.all_cons]
      have e1 : (n : Int) < (l.length : Int) := by omega
      have e2 : (0 : Int) ≤ (n : Int) := by omega
      simp only [if_pos e1, if_pos e2, rdO, w1 n (by omega)]
      by_cases h1 : (l.getD n ByteArray.empty).size ≤ 400
      · simp only [if_neg (show ¬ ((l.getD n ByteArray.empty).size : Int) > 400 by omega), decide_eq_true h1, Bool.true_and]
        exact ih
      · simp only [if_pos (show ((l.getD n ByteArray.empty).size : Int) > 400 by omega), decide_eq_false h1, Bool.false_and]
        exact Ev.now _
    · rw [List.drop_of_length_le (by omega)]
      simp only [if_neg (show ¬ (n : Int) < (l.length : Int) by omega)]
      exact Ev.now _
theorem names_ev (l : List ByteArray) : Ev (fun k => manometerlaw05_names.f k l) (namesB l) := by
  unfold manometerlaw05_names.f namesB
  by_cases h : l.length ≤ 60
  · simp only [if_neg (show ¬ (l.length : Int) > 60 by omega), decide_eq_true h, Bool.true_and]
    exact names_l0 l h l.length 0 (by omega)
  · simp only [if_pos (show (l.length : Int) > 60 by omega), decide_eq_false h, Bool.false_and]
    exact Ev.now _
theorem names_of {l : List ByteArray} (h : namesB l = true) : l.length ≤ 60 := by
  unfold namesB at h
  simp only [Bool.and_eq_true, decide_eq_true_eq] at h
  exact h.1
def getL (nm : ByteArray) : List Lab → ByteArray
  | [] => ⟨#[]⟩
  | z :: l => if B z.f0 = B nm then z.f1 else getL nm l
def amB (names : List ByteArray) (x : ByteArray) : Bool := names.any (fun y => decide (B y = B x))
def nameL : Str := [95, 95, 110, 97, 109, 101, 95, 95]
def byL (names : List ByteArray) (l : List Lab) : List Lab := l.filter (fun z => amB names z.f0)
def woL (names : List ByteArray) (l : List Lab) : List Lab := l.filter (fun z => !decide (B z.f0 = nameL) && !amB names z.f0)
def withL (l : List Lab) (a b : ByteArray) : List Lab × Int := if rightB l = 0 then makeB (l.filter (fun z => !decide (B z.f0 = B a)) ++ [⟨a, b⟩]) else ([], rightB l)
theorem Get_l0 (l : List Lab) (x : ByteArray) (hl : l.length ≤ 100000) : ∀ (d n : Nat), n + d = l.length → Ev (fun k => labels_Get.l0 k x l (l.length : Int) (n : Int)) (getL x (l.drop n))
  | d, n, hd => by
    refine Ev.step (f := _) (fun k => by simp only [labels_Get.l0]; rfl) ?_
    by_cases hlt : n < l.length
    · obtain ⟨d, rfl⟩ : ∃ e, d = e + 1 := ⟨d - 1, by omega⟩
      have ih := Get_l0 l x hl d (n + 1) (by omega)
      rw [dropS l n hlt]
      have e1 : (n : Int) < (l.length : Int) := by omega
      have e2 : (0 : Int) ≤ (n : Int) := by omega
      simp only [if_pos e1, if_pos e2, rdn, w1 n (by omega), toList_B, getL]
      by_cases h1 : B (l.getD n z44).f0 = B x
      · simp only [if_pos h1]
        exact Ev.now _
      · simp only [if_neg h1]
        exact ih
    · rw [List.drop_of_length_le (by omega)]
      simp only [if_neg (show ¬ (n : Int) < (l.length : Int) by omega)]
      exact Ev.now _
theorem Get_ev (l : List Lab) (x : ByteArray) (hl : l.length ≤ 100000) : Ev (fun k => labels_Get.f k l x) (getL x l) := Get_l0 l x hl l.length 0 (by omega)
theorem RGet_l0 (l : List Lab) (x : ByteArray) (hl : l.length ≤ 100000) : ∀ (d n : Nat), n + d = l.length → Ev (fun k => manometerref05_Get.l0 k x l (l.length : Int) (n : Int)) (getL x (l.drop n))
  | d, n, hd => by
    refine Ev.step (f := _) (fun k => by simp only [manometerref05_Get.l0]; rfl) ?_
    by_cases hlt : n < l.length
    · obtain ⟨d, rfl⟩ : ∃ e, d = e + 1 := ⟨d - 1, by omega⟩
      have ih := RGet_l0 l x hl d (n + 1) (by omega)
      rw [dropS l n hlt]
      have e1 : (n : Int) < (l.length : Int) := by omega
      have e2 : (0 : Int) ≤ (n : Int) := by omega
      simp only [if_pos e1, if_pos e2, rdn, w1 n (by omega), toList_B, getL]
      by_cases h1 : B (l.getD n z44).f0 = B x
      · simp only [if_pos h1]
        exact Ev.now _
      · simp only [if_neg h1]
        exact ih
    · rw [List.drop_of_length_le (by omega)]
      simp only [if_neg (show ¬ (n : Int) < (l.length : Int) by omega)]
      exact Ev.now _
theorem RGet_ev (l : List Lab) (x : ByteArray) (hl : l.length ≤ 100000) : Ev (fun k => manometerref05_Get.f k l x) (getL x l) := RGet_l0 l x hl l.length 0 (by omega)
theorem among_l0 (l : List ByteArray) (x : ByteArray) (hl : l.length ≤ 100000) : ∀ (d n : Nat), n + d = l.length → Ev (fun k => labels_among.l0 k x l (l.length : Int) (n : Int)) (amB (l.drop n) x)
  | d, n, hd => by
    refine Ev.step (f := _) (fun k => by simp only [labels_among.l0]; rfl) ?_
    by_cases hlt : n < l.length
    · obtain ⟨d, rfl⟩ : ∃ e, d = e + 1 := ⟨d - 1, by omega⟩
      have ih := among_l0 l x hl d (n + 1) (by omega)
      unfold amB at ih ⊢
      rw [dropB l n hlt, List.any_cons]
      have e1 : (n : Int) < (l.length : Int) := by omega
      have e2 : (0 : Int) ≤ (n : Int) := by omega
      simp only [if_pos e1, if_pos e2, rdO, w1 n (by omega), toList_B]
      by_cases h1 : B (l.getD n ByteArray.empty) = B x
      · simp only [if_pos h1, decide_eq_true h1, Bool.true_or]
        exact Ev.now _
      · simp only [if_neg h1, decide_eq_false h1, Bool.false_or]
        exact ih
    · rw [List.drop_of_length_le (by omega)]
      simp only [if_neg (show ¬ (n : Int) < (l.length : Int) by omega)]
      exact Ev.now _
theorem among_ev (l : List ByteArray) (x : ByteArray) (hl : l.length ≤ 100000) : Ev (fun k => labels_among.f k l x) (amB l x) := among_l0 l x hl l.length 0 (by omega)
theorem RIn_l0 (l : List ByteArray) (x : ByteArray) (hl : l.length ≤ 100000) : ∀ (d n : Nat), n + d = l.length → Ev (fun k => manometerref05_In.l0 k x l (l.length : Int) (n : Int)) (amB (l.drop n) x)
  | d, n, hd => by
    refine Ev.step (f := _) (fun k => by simp only [manometerref05_In.l0]; rfl) ?_
    by_cases hlt : n < l.length
    · obtain ⟨d, rfl⟩ : ∃ e, d = e + 1 := ⟨d - 1, by omega⟩
      have ih := RIn_l0 l x hl d (n + 1) (by omega)
      unfold amB at ih ⊢
      rw [dropB l n hlt, List.any_cons]
      have e1 : (n : Int) < (l.length : Int) := by omega
      have e2 : (0 : Int) ≤ (n : Int) := by omega
      simp only [if_pos e1, if_pos e2, rdO, w1 n (by omega), toList_B]
      by_cases h1 : B (l.getD n ByteArray.empty) = B x
      · simp only [if_pos h1, decide_eq_true h1, Bool.true_or]
        exact Ev.now _
      · simp only [if_neg h1, decide_eq_false h1, Bool.false_or]
        exact ih
    · rw [List.drop_of_length_le (by omega)]
      simp only [if_neg (show ¬ (n : Int) < (l.length : Int) by omega)]
      exact Ev.now _
theorem RIn_ev (l : List ByteArray) (x : ByteArray) (hl : l.length ≤ 100000) : Ev (fun k => manometerref05_In.f k l x) (amB l x) := RIn_l0 l x hl l.length 0 (by omega)
theorem By_l0 (l : List Lab) (nm : List ByteArray) (hl : l.length ≤ 100000) (hn : nm.length ≤ 100000) : ∀ (d n : Nat) (acc : List Lab), n + d = l.length → acc.length ≤ n → Ev (fun k => labels_By.l0 k nm acc l (l.length : Int) (n : Int)) (acc ++ (l.drop n).filter (fun z => amB nm z.f0))
  | d, n, acc, hd, ha => by
    refine Ev.step (f := _) (fun k => by simp only [labels_By.l0]; rfl) ?_
    by_cases hlt : n < l.length
    · obtain ⟨d, rfl⟩ : ∃ e, d = e + 1 := ⟨d - 1, by omega⟩
      have ih := By_l0 l nm hl hn d (n + 1) acc (by omega) (by omega)
      have ih' := By_l0 l nm hl hn d (n + 1) (acc ++ [l.getD n z44]) (by omega) (by simp; omega)
      rw [List.append_assoc, List.singleton_append] at ih'
      rw [dropS l n hlt, List.filter_cons]
      have e1 : (n : Int) < (l.length : Int) := by omega
      have e2 : (0 : Int) ≤ (n : Int) := by omega
      have e3 : acc.length < 4398046511104 := by omega
      have ham := among_ev nm (l.getD n z44).f0 hn
      simp only [if_pos e1, if_pos e2, rdn, w1 n (by omega), toList_B, if_pos e3]
      refine ham.bind ?_
      cases h : amB nm (l.getD n z44).f0 with
      | true => simp only [if_true]; exact ih'
      | false => simp only [Bool.false_eq_true, if_false]; exact ih
    · rw [List.drop_of_length_le (by omega), List.filter_nil, List.append_nil]
      simp only [if_neg (show ¬ (n : Int) < (l.length : Int) by omega)]
      exact Ev.now _
theorem RBy_l0 (l : List Lab) (nm : List ByteArray) (hl : l.length ≤ 100000) (hn : nm.length ≤ 100000) : ∀ (d n : Nat) (acc : List Lab), n + d = l.length → acc.length ≤ n → Ev (fun k => manometerref05_By.l0 k nm acc l (l.length : Int) (n : Int)) (acc ++ (l.drop n).filter (fun z => amB nm z.f0))
  | d, n, acc, hd, ha => by
    refine Ev.step (f := _) (fun k => by simp only [manometerref05_By.l0]; rfl) ?_
    by_cases hlt : n < l.length
    · obtain ⟨d, rfl⟩ : ∃ e, d = e + 1 := ⟨d - 1, by omega⟩
      have ih := RBy_l0 l nm hl hn d (n + 1) acc (by omega) (by omega)
      have ih' := RBy_l0 l nm hl hn d (n + 1) (acc ++ [l.getD n z44]) (by omega) (by simp; omega)
      rw [List.append_assoc, List.singleton_append] at ih'
      rw [dropS l n hlt, List.filter_cons]
      have e1 : (n : Int) < (l.length : Int) := by omega
      have e2 : (0 : Int) ≤ (n : Int) := by omega
      have e3 : acc.length < 4398046511104 := by omega
      have ham := RIn_ev nm (l.getD n z44).f0 hn
      simp only [if_pos e1, if_pos e2, rdn, w1 n (by omega), toList_B, if_pos e3]
      refine ham.bind ?_
      cases h : amB nm (l.getD n z44).f0 with
      | true => simp only [if_true]; exact ih'
      | false => simp only [Bool.false_eq_true, if_false]; exact ih
    · rw [List.drop_of_length_le (by omega), List.filter_nil, List.append_nil]
      simp only [if_neg (show ¬ (n : Int) < (l.length : Int) by omega)]
      exact Ev.now _
theorem Wo_l0 (l : List Lab) (nm : List ByteArray) (hl : l.length ≤ 100000) (hn : nm.length ≤ 100000) : ∀ (d n : Nat) (acc : List Lab), n + d = l.length → acc.length ≤ n → Ev (fun k => labels_Without.l0 k nm acc l (l.length : Int) (n : Int)) (acc ++ (l.drop n).filter (fun z => !decide (B z.f0 = nameL) && !amB nm z.f0))
  | d, n, acc, hd, ha => by
    refine Ev.step (f := _) (fun k => by simp only [labels_Without.l0]; rfl) ?_
    by_cases hlt : n < l.length
    · obtain ⟨d, rfl⟩ : ∃ e, d = e + 1 := ⟨d - 1, by omega⟩
      have ih := Wo_l0 l nm hl hn d (n + 1) acc (by omega) (by omega)
      have ih' := Wo_l0 l nm hl hn d (n + 1) (acc ++ [l.getD n z44]) (by omega) (by simp; omega)
      rw [List.append_assoc, List.singleton_append] at ih'
      rw [dropS l n hlt, List.filter_cons]
      have e1 : (n : Int) < (l.length : Int) := by omega
      have e2 : (0 : Int) ≤ (n : Int) := by omega
      have e3 : acc.length < 4398046511104 := by omega
      have ham := among_ev nm (l.getD n z44).f0 hn
      simp only [if_pos e1, if_pos e2, rdn, w1 n (by omega), toList_B, if_pos e3]
      by_cases h1 : B (l.getD n z44).f0 = nameL
      · simp only [if_pos (show B (l.getD n z44).f0 = ([95, 95, 110, 97, 109, 101, 95, 95] : Str) from h1), decide_eq_true h1, Bool.not_true, Bool.false_and, Bool.false_eq_true, if_false]
        exact ih
      · simp only [if_neg (show ¬ B (l.getD n z44).f0 = ([95, 95, 110, 97, 109, 101, 95, 95] : Str) from h1), decide_eq_false h1, Bool.not_false, Bool.true_and]
        refine ham.bind ?_
        cases h : amB nm (l.getD n z44).f0 with
        | true => simp only [if_true, Bool.not_true, Bool.false_eq_true, if_false]; exact ih
        | false => simp only [Bool.false_eq_true, if_false, Bool.not_false, if_true]; exact ih'
    · rw [List.drop_of_length_le (by omega), List.filter_nil, List.append_nil]
      simp only [if_neg (show ¬ (n : Int) < (l.length : Int) by omega)]
      exact Ev.now _
theorem RWo_l0 (l : List Lab) (nm : List ByteArray) (hl : l.length ≤ 100000) (hn : nm.length ≤ 100000) : ∀ (d n : Nat) (acc : List Lab), n + d = l.length → acc.length ≤ n → Ev (fun k => manometerref05_Without.l0 k nm acc l (l.length : Int) (n : Int)) (acc ++ (l.drop n).filter (fun z => !decide (B z.f0 = nameL) && !amB nm z.f0))
  | d, n, acc, hd, ha => by
    refine Ev.step (f := _) (fun k => by simp only [manometerref05_Without.l0]; rfl) ?_
    by_cases hlt : n < l.length
    · obtain ⟨d, rfl⟩ : ∃ e, d = e + 1 := ⟨d - 1, by omega⟩
      have ih := RWo_l0 l nm hl hn d (n + 1) acc (by omega) (by omega)
      have ih' := RWo_l0 l nm hl hn d (n + 1) (acc ++ [l.getD n z44]) (by omega) (by simp; omega)
      rw [List.append_assoc, List.singleton_append] at ih'
      rw [dropS l n hlt, List.filter_cons]
      have e1 : (n : Int) < (l.length : Int) := by omega
      have e2 : (0 : Int) ≤ (n : Int) := by omega
      have e3 : acc.length < 4398046511104 := by omega
      have ham := RIn_ev nm (l.getD n z44).f0 hn
      simp only [if_pos e1, if_pos e2, rdn, w1 n (by omega), toList_B, if_pos e3]
      refine ham.bind ?_
      cases h : amB nm (l.getD n z44).f0 with
      | true => simp only [if_true, Bool.not_true, Bool.and_false, Bool.false_eq_true, if_false]; exact ih
      | false =>
        simp only [Bool.false_eq_true, if_false, Bool.not_false, Bool.and_true]
        by_cases h1 : B (l.getD n z44).f0 = nameL
        · simp only [if_pos (show B (l.getD n z44).f0 = ([95, 95, 110, 97, 109, 101, 95, 95] : Str) from h1), decide_eq_true h1, Bool.not_true, Bool.false_eq_true, if_false]
          exact ih
        · simp only [if_neg (show ¬ B (l.getD n z44).f0 = ([95, 95, 110, 97, 109, 101, 95, 95] : Str) from h1), decide_eq_false h1, Bool.not_false, if_true]
          exact ih'
    · rw [List.drop_of_length_le (by omega), List.filter_nil, List.append_nil]
      simp only [if_neg (show ¬ (n : Int) < (l.length : Int) by omega)]
      exact Ev.now _
theorem By_ev (l : List Lab) (nm : List ByteArray) (hl : l.length ≤ 100000) (hn : nm.length ≤ 100000) : Ev (fun k => labels_By.f k l nm) (byL nm l) ∧ Ev (fun k => manometerref05_By.f k l nm) (byL nm l) :=
  ⟨By_l0 l nm hl hn l.length 0 [] (by omega) (Nat.le_refl _), RBy_l0 l nm hl hn l.length 0 [] (by omega) (Nat.le_refl _)⟩
theorem Wo_ev (l : List Lab) (nm : List ByteArray) (hl : l.length ≤ 100000) (hn : nm.length ≤ 100000) : Ev (fun k => labels_Without.f k l nm) (woL nm l) ∧ Ev (fun k => manometerref05_Without.f k l nm) (woL nm l) :=
  ⟨Wo_l0 l nm hl hn l.length 0 [] (by omega) (Nat.le_refl _), RWo_l0 l nm hl hn l.length 0 [] (by omega) (Nat.le_refl _)⟩
theorem With_l0 (l : List Lab) (x y : ByteArray) (hl : l.length ≤ 10000) (r : List Lab × Int) (hr : Ev (fun k => labels_Make.f k (l.filter (fun z => !decide (B z.f0 = B x)) ++ [(⟨x, y⟩ : Lab)])) r) : ∀ (d n : Nat) (acc : List Lab), n + d = l.length → acc.length ≤ n → acc ++ (l.drop n).filter (fun z => !decide (B z.f0 = B x)) = l.filter (fun z => !decide (B z.f0 = B x)) → Ev (fun k => labels_With.l0 k x y acc l (l.length : Int) (n : Int)) r
  | d, n, acc, hd, ha, he => by
    refine Ev.step (f := _) (fun k => by simp only [labels_With.l0]; rfl) ?_
    have e3 : acc.length < 4398046511104 := by omega
    by_cases hlt : n < l.length
    · obtain ⟨d, rfl⟩ : ∃ e, d = e + 1 := ⟨d - 1, by omega⟩
      rw [dropS l n hlt, List.filter_cons] at he
      have e1 : (n : Int) < (l.length : Int) := by omega
      have e2 : (0 : Int) ≤ (n : Int) := by omega
      simp only [if_pos e1, if_pos e2, rdn, w1 n (by omega), toList_B, if_pos e3]
      by_cases h1 : B (l.getD n z44).f0 = B x
      · simp only [if_pos h1]
        rw [decide_eq_true h1] at he
        exact With_l0 l x y hl r hr d (n + 1) acc (by omega) (by omega) he
      · simp only [if_neg h1]
        rw [decide_eq_false h1] at he
        exact With_l0 l x y hl r hr d (n + 1) (acc ++ [l.getD n z44]) (by omega) (by simp; omega) (by rw [List.append_assoc]; exact he)
    · rw [List.drop_of_length_le (by omega), List.filter_nil, List.append_nil] at he
      simp only [if_neg (show ¬ (n : Int) < (l.length : Int) by omega), he]
      rw [he] at e3
      simp only [if_pos e3]
      exact hr.bind (Ev.now _)
theorem RWith_l0 (l : List Lab) (x y : ByteArray) (hl : l.length ≤ 10000) (r : List Lab × Int) (hr : Ev (fun k => manometerref05_Make.f k (l.filter (fun z => !decide (B z.f0 = B x)) ++ [(⟨x, y⟩ : Lab)])) r) : ∀ (d n : Nat) (acc : List Lab), n + d = l.length → acc.length ≤ n → acc ++ (l.drop n).filter (fun z => !decide (B z.f0 = B x)) = l.filter (fun z => !decide (B z.f0 = B x)) → Ev (fun k => manometerref05_With.l0 k x y acc l (l.length : Int) (n : Int)) r
  | d, n, acc, hd, ha, he => by
    refine Ev.step (f := _) (fun k => by simp only [manometerref05_With.l0]; rfl) ?_
    have e3 : acc.length < 4398046511104 := by omega
    by_cases hlt : n < l.length
    · obtain ⟨d, rfl⟩ : ∃ e, d = e + 1 := ⟨d - 1, by omega⟩
      rw [dropS l n hlt, List.filter_cons] at he
      have e1 : (n : Int) < (l.length : Int) := by omega
      have e2 : (0 : Int) ≤ (n : Int) := by omega
      simp only [if_pos e1, if_pos e2, rdn, w1 n (by omega), toList_B, if_pos e3]
      by_cases h1 : B (l.getD n z44).f0 = B x
      · simp only [if_pos h1]
        rw [decide_eq_true h1] at he
        exact RWith_l0 l x y hl r hr d (n + 1) acc (by omega) (by omega) he
      · simp only [if_neg h1]
        rw [decide_eq_false h1] at he
        exact RWith_l0 l x y hl r hr d (n + 1) (acc ++ [l.getD n z44]) (by omega) (by simp; omega) (by rw [List.append_assoc]; exact he)
    · rw [List.drop_of_length_le (by omega), List.filter_nil, List.append_nil] at he
      simp only [if_neg (show ¬ (n : Int) < (l.length : Int) by omega), he]
      rw [he] at e3
      simp only [if_pos e3]
      exact hr.bind (Ev.now _)
theorem with_sm (l : List Lab) (a b : ByteArray) (hs : Sm l) (hl : l.length ≤ 10000) (ha : a.size ≤ 100000) (hb : b.size ≤ 100000) : Sm (l.filter (fun z => !decide (B z.f0 = B a)) ++ [(⟨a, b⟩ : Lab)]) := by
  refine ⟨by have := List.length_filter_le (fun z : Lab => !decide (B z.f0 = B a)) l; simp; omega, fun x hx => ?_⟩
  rcases List.mem_append.1 hx with h | h
  · exact hs.2 x (List.mem_filter.1 h).1
  · rw [List.mem_singleton.1 h]
    exact ⟨ha, hb⟩
theorem With_ev (l : List Lab) (a b : ByteArray) (hs : Sm l) (hl : l.length ≤ 10000) (ha : a.size ≤ 100000) (hb : b.size ≤ 100000) : Ev (fun k => labels_With.f k l a b) (withL l a b) ∧ Ev (fun k => manometerref05_With.f k l a b) (withL l a b) := by
  unfold labels_With.f manometerref05_With.f withL
  obtain ⟨r1, r2⟩ := Right_ev l hs
  obtain ⟨m1, m2⟩ := Make_ev _ (with_sm l a b hs hl ha hb)
  by_cases h : rightB l = 0
  · rw [if_pos h]
    rw [h] at r1 r2
    have e1 : (0 : Int) ≤ ((l.length + 1 : Nat) : Int) := by omega
    have e2 : (((l.length + 1 : Nat) : Int)).toNat ≤ 8796093022208 := by omega
    constructor
    · refine r1.bind ?_
      simp only [if_true, w1 l.length (by omega), if_pos e1, if_pos e2, List.replicate_zero]
      exact With_l0 l a b hl _ m1 l.length 0 [] (by omega) (Nat.le_refl _) rfl
    · refine r2.bind ?_
      simp only [if_true]
      exact RWith_l0 l a b hl _ m2 l.length 0 [] (by omega) (Nat.le_refl _) rfl
  · rw [if_neg h]
    constructor
    · refine r1.bind ?_
      simp only [if_neg h]
      exact Ev.now _
    · refine r2.bind ?_
      simp only [if_neg h]
      exact Ev.now _
theorem withL_len (l : List Lab) (a b : ByteArray) : (withL l a b).1.length ≤ 16 := by
  unfold withL
  split
  · exact makeB_len _
  · simp
theorem few1 {a b : ByteArray} (h : fewB [(⟨a, b⟩ : Lab)] = true) : a.size ≤ 400 ∧ b.size ≤ 400 := (few_of h).2 ⟨a, b⟩ (by simp)
theorem labelsParts (l : List Lab) (nm : List ByteArray) (x : Lab) : ∃ k, manometerlaw05_LabelsParts.f k l nm x.f0 x.f1 = some true := by
  obtain ⟨a, b⟩ := x
  have hj : ∀ z : Bool, (z = false → fewB l = true ∧ fewB [(⟨a, b⟩ : Lab)] = true ∧ namesB nm = true) → Ev (fun k => manometerlaw05_LabelsParts.j0 k l nm z a b) true := by
    intro z hz
    refine Ev.step (f := _) (fun k => by simp only [manometerlaw05_LabelsParts.j0]; rfl) ?_
    cases z with
    | true =>
      simp only [if_true]
      exact live_ev.bind (Ev.now _)
    | false =>
      obtain ⟨h1, h2, h3⟩ := hz rfl
      have hs := few_sm h1
      have hl := (few_of h1).1
      have hn := names_of h3
      obtain ⟨h4, h5⟩ := few1 h2
      obtain ⟨w1, w2⟩ := With_ev l a b hs (by omega) (by omega) (by omega)
      have wl := withL_len l a b
      simp only [Bool.false_eq_true, if_false]
      refine w1.bind (w2.bind ?_)
      refine (Get_ev l a (by omega)).bind ((RGet_ev l a (by omega)).bind ?_)
      simp only [if_true]
      obtain ⟨b1, b2⟩ := By_ev l nm (by omega) (by omega)
      obtain ⟨c1, c2⟩ := Wo_ev l nm (by omega) (by omega)
      have bl : (byL nm l).length ≤ l.length := List.length_filter_le _ _
      have cl : (woL nm l).length ≤ l.length := List.length_filter_le _ _
      refine b1.bind (b2.bind ?_)
      refine (Same_ev _ _ (by omega)).2.bind ?_
      simp only [sameB_refl, if_true]
      refine c1.bind (c2.bind ?_)
      refine (Same_ev _ _ (by omega)).2.bind ?_
      simp only [sameB_refl, if_true]
      refine (Same_ev _ _ (by omega)).2.bind ?_
      simp only [sameB_refl, if_true, beq_self_eq_true]
      exact Ev.now _
  refine Ev.rounds ?_
  unfold manometerlaw05_LabelsParts.f
  refine live_ev.bind ?_
  simp only [if_true]
  refine (few_ev l).bind ?_
  cases h1 : fewB l with
  | false => exact hj true (by simp)
  | true =>
    simp only [if_true]
    refine (few_ev [(⟨a, b⟩ : Lab)]).bind ?_
    cases h2 : fewB [(⟨a, b⟩ : Lab)] with
    | false => exact hj true (by simp)
    | true =>
      simp only [if_true]
      refine (names_ev nm).bind ?_
      exact hj _ (fun h => ⟨h1, h2, by simpa using h⟩)
end Go.Proofs.YtdhmabofncbohaaDoor.Pu
