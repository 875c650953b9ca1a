import Derived.Test.YtdhmabofncbohaaDoorCLabelsThreePU2
import Derived.Test.YtdhmabofncbohaaDoorCLabelsThreePLBx10
import Derived.Test.YtdhmabofncbohaaDoorCLabelsThreePLBx13
import Derived.Test.YtdhmabofncbohaaDoorCLabelsThreePLBx5
import Derived.Test.YtdhmabofncbohaaDoorCLabelsThreePLBx6
import Derived.Test.YtdhmabofncbohaaDoorCLabelsThreePLBx14
namespace Go.Proofs.YtdhmabofncbohaaDoor.Pu
open Go Go.RowKit Go.Proofs.YtdhmabofncbohaaDoor Go.Proofs.YtdhmabofncbohaaDoor.PLB Go.Proofs.YtdhmabofncbohaaDoorW.PrintWords Go.Proofs.YtdhmabofncbohaaDoorW.PrintLast Go.Proofs.YtdhmabofncbohaaDoorW.PrintMore
set_option linter.unusedVariables false
set_option linter.unusedSimpArgs false
abbrev Lab := S44
theorem rdn (l : List Lab) (n : Nat) : rd_T44 l (n : Int) = l.getD n z44 := by unfold rd_T44; rw [Int.toNat_natCast]
theorem dropS (l : List Lab) (n : Nat) (h : n < l.length) : l.drop n = l.getD n z44 :: l.drop (n + 1) := by
  rw [List.drop_eq_getElem_cons h, List.getD_eq_getElem?_getD, List.getElem?_eq_getElem h]
  rfl
def fewB (l : List Lab) : Bool := decide (l.length ≤ 60) && l.all (fun x => decide (x.f0.size ≤ 400) && decide (x.f1.size ≤ 400))
theorem few_l0 (l : List Lab) (hl : l.length ≤ 60) : ∀ (d n k : Nat), n + d = l.length → d < k → manometerlaw05_few.l0 k l (l.length : Int) (n : Int) = some ((l.drop n).all (fun x => decide (x.f0.size ≤ 400) && decide (x.f1.size ≤ 400)))
  | d, n, k, hd, hk => by
    obtain ⟨k, rfl⟩ := succ_of hk
    by_cases hlt : n < l.length
    · obtain ⟨d, rfl⟩ : ∃ e, d = e + 1 := ⟨d - 1, by omega⟩
      have ih := few_l0 l hl d (n + 1) k (by omega) (by omega)
      rw [dropS l n hlt, List.all_cons]
      simp only [manometerlaw05_few.l0]
      rw [if_pos (by omega), if_pos (by omega), if_pos (by omega), rdn, w1 n (by omega), ih]
      generalize l.getD n z44 = x
      by_cases h1 : x.f0.size ≤ 400
      · rw [if_neg (by omega), decide_eq_true h1, Bool.true_and]
        by_cases h2 : x.f1.size ≤ 400
        · rw [if_neg (by omega), decide_eq_true h2, Bool.true_and]
        · rw [if_pos (by omega), decide_eq_false h2]; rfl
      · rw [if_pos (by omega), decide_eq_false h1]; rfl
    · rw [List.drop_of_length_le (by omega)]
      simp only [manometerlaw05_few.l0]
      rw [if_neg (by omega)]
      rfl
theorem few_ev (l : List Lab) : Ev (fun k => manometerlaw05_few.f k l) (fewB l) := by
  unfold manometerlaw05_few.f fewB
  by_cases h : l.length ≤ 60
  · simp only [if_neg (show ¬ (l.length : Int) > 60 by omega), decide_eq_true h, Bool.true_and]
    exact Ev.at l.length (fun k hk => few_l0 l h l.length 0 k (by omega) hk)
  · simp only [if_pos (show (l.length : Int) > 60 by omega), decide_eq_false h, Bool.false_and]
    exact Ev.now _
theorem few_of {l : List Lab} (h : fewB l = true) : l.length ≤ 60 ∧ ∀ x ∈ l, x.f0.size ≤ 400 ∧ x.f1.size ≤ 400 := by
  unfold fewB at h
  simp only [Bool.and_eq_true, decide_eq_true_eq, List.all_eq_true] at h
  exact h
def pr (x : Lab) : Str × Str := (B x.f0, B x.f1)
theorem pr_inj {x y : Lab} (h : pr x = pr y) : x = y := by
  obtain ⟨a, b⟩ := x
  obtain ⟨c, d⟩ := y
  have h1 : a = c := B_inj (congrArg Prod.fst h)
  have h2 : b = d := B_inj (congrArg Prod.snd h)
  rw [h1, h2]
theorem prs_inj {a b : List Lab} (h : a.map pr = b.map pr) : a = b := by
  induction a generalizing b with
  | nil => cases b with
    | nil => rfl
    | cons _ _ => cases h
  | cons x a ih => cases b with
    | nil => cases h
    | cons y b =>
      injection h with h1 h2
      rw [pr_inj h1, ih h2]
def sameB (a b : List Lab) : Bool := decide (a.map pr = b.map pr)
theorem sameB_refl (a : List Lab) : sameB a a = true := decide_eq_true rfl
theorem sameB_eq {a b : List Lab} : sameB a b = true ↔ a = b := ⟨fun h => prs_inj (of_decide_eq_true h), fun h => by rw [h]; exact sameB_refl b⟩
theorem ne_test (x y : Lab) : ((!(x.f0.toList == y.f0.toList) || (!(x.f1.toList == y.f1.toList))) = true) ↔ ¬ pr x = pr y := by
  rw [toList_B, toList_B, toList_B, toList_B]
  unfold pr
  rw [Prod.mk.injEq]
  simp only [Bool.or_eq_true, Bool.not_eq_true', beq_eq_false_iff_ne, ne_eq]
  exact Decidable.not_and_iff_or_not.symm
theorem Same_l0 (a b : List Lab) (hs : a.length ≤ 1000000000000) (hab : a.length = b.length) : ∀ (d n k : Nat), n + d = a.length → d < k →
    labels_Same.l0 k a b (a.length : Int) (n : Int) = some (decide ((a.drop n).map pr = (b.drop n).map pr)) ∧ manometerref05_Same.l0 k a b (a.length : Int) (n : Int) = some (decide ((a.drop n).map pr = (b.drop n).map pr))
  | d, n, k, hd, hk => by
    obtain ⟨k, rfl⟩ := succ_of hk
    by_cases hlt : n < a.length
    · obtain ⟨d, rfl⟩ : ∃ e, d = e + 1 := ⟨d - 1, by omega⟩
      obtain ⟨ih1, ih2⟩ := Same_l0 a b hs hab d (n + 1) k (by omega) (by omega)
      rw [dropS a n hlt, dropS b n (by omega), List.map_cons, List.map_cons]
      simp only [labels_Same.l0, manometerref05_Same.l0]
      rw [if_pos (by omega), if_pos (by omega), if_pos (by omega), if_pos (by omega), rdn, rdn, w1 n (by omega), ih1, ih2]
      rw [if_pos (show (n : Int) < (a.length : Int) by omega), if_pos (show (0 : Int) ≤ (n : Int) by omega), if_pos (show (n : Int) < (a.length : Int) by omega), if_pos (show (n : Int) < (b.length : Int) by omega)]
      generalize a.getD n z44 = x
      generalize b.getD n z44 = y
      by_cases h : pr x = pr y
      · have h1 := fun z => ((ne_test x y).1 z) h
        rw [if_neg h1, h]
        simp
      · rw [if_pos ((ne_test x y).2 h)]
        simp [h]
    · rw [List.drop_of_length_le (by omega), List.drop_of_length_le (by omega)]
      simp only [labels_Same.l0, manometerref05_Same.l0]
      rw [if_neg (by omega), if_neg (by omega)]
      exact ⟨rfl, rfl⟩
theorem Same_ev (a b : List Lab) (hs : a.length ≤ 1000000000000) : Ev (fun k => labels_Same.f k a b) (sameB a b) ∧ Ev (fun k => manometerref05_Same.f k a b) (sameB a b) := by
  unfold labels_Same.f manometerref05_Same.f
  by_cases h : a.length = b.length
  · simp only [if_pos (show (a.length : Int) = (b.length : Int) by omega)]
    exact ⟨Ev.at a.length (fun k hk => (Same_l0 a b hs h a.length 0 k (by omega) hk).1), Ev.at a.length (fun k hk => (Same_l0 a b hs h a.length 0 k (by omega) hk).2)⟩
  · have hf : sameB a b = false := decide_eq_false (fun he => h (by rw [prs_inj he]))
    simp only [if_neg (show ¬ (a.length : Int) = (b.length : Int) by omega), hf]
    exact ⟨Ev.now _, Ev.now _⟩
def tc (x y : Str) : Int := if Op.bytesLess x y = true then -1 else if Op.bytesLess y x = true then 1 else 0
theorem less_irrefl : ∀ x : Str, Op.bytesLess x x = false
  | [] => rfl
  | a :: x => by
    simp only [Op.bytesLess, less_irrefl x]
    have h : ¬ a < a := by rw [UInt8.lt_iff_toNat_lt]; omega
    simp [h]
theorem less_trans : ∀ {x y z : Str}, Op.bytesLess x y = true → Op.bytesLess y z = true → Op.bytesLess x z = true
  | _, [], _, h, _ => by cases h' : (‹Str›) <;> simp [Op.bytesLess] at h
  | x, b :: y, [], _, h => by simp [Op.bytesLess] at h
  | [], b :: y, c :: z, _, _ => rfl
  | a :: x, b :: y, c :: z, h1, h2 => by
    simp only [Op.bytesLess, Bool.or_eq_true, decide_eq_true_eq, Bool.and_eq_true, beq_iff_eq] at h1 h2 ⊢
    rcases h1 with h1 | ⟨rfl, h1⟩
    · rcases h2 with h2 | ⟨rfl, h2⟩
      · left
        rw [UInt8.lt_iff_toNat_lt] at h1 h2 ⊢
        omega
      · exact .inl h1
    · rcases h2 with h2 | ⟨rfl, h2⟩
      · exact .inl h2
      · exact .inr ⟨rfl, less_trans h1 h2⟩
theorem less_asymm {x y : Str} (h : Op.bytesLess x y = true) : Op.bytesLess y x = false := by
  rw [less_gt x y, h]
  rfl
theorem less_total {x y : Str} (h1 : Op.bytesLess x y = false) (h2 : Op.bytesLess y x = false) : x = y := by
  rw [less_gt x y, h1] at h2
  simpa using h2
theorem tc_zero {x y : Str} : tc x y = 0 ↔ x = y := by
  unfold tc
  constructor
  · intro h
    cases h1 : Op.bytesLess x y with
    | true => rw [h1] at h; cases h
    | false => cases h2 : Op.bytesLess y x with
      | true => rw [h1, h2] at h; cases h
      | false => exact less_total h1 h2
  · rintro rfl
    rw [less_irrefl]
    rfl
theorem tc_neg (x y : Str) : tc y x = -tc x y := by
  unfold tc
  cases h1 : Op.bytesLess x y with
  | true => rw [less_asymm h1]; rfl
  | false => cases h2 : Op.bytesLess y x <;> rfl
theorem tc_cases (x y : Str) : tc x y = -1 ∨ tc x y = 0 ∨ tc x y = 1 := by
  unfold tc
  split
  · exact .inl rfl
  · split
    · exact .inr (.inr rfl)
    · exact .inr (.inl rfl)
theorem tc_lt {x y : Str} : tc x y = -1 ↔ Op.bytesLess x y = true := by
  unfold tc
  constructor
  · intro h
    cases h1 : Op.bytesLess x y with
    | true => rfl
    | false => rw [h1] at h; cases h2 : Op.bytesLess y x <;> rw [h2] at h <;> cases h
  · intro h
    rw [h]
    rfl
def cmpL : List (Str × Str) → List (Str × Str) → Int
  | [], [] => 0
  | [], _ :: _ => -1
  | _ :: _, [] => 1
  | x :: a, y :: b => if tc x.1 y.1 = 0 then (if tc x.2 y.2 = 0 then cmpL a b else tc x.2 y.2) else tc x.1 y.1
theorem cmpL_zero : ∀ {a b : List (Str × Str)}, cmpL a b = 0 ↔ a = b
  | [], [] => by simp [cmpL]
  | [], _ :: _ => by simp [cmpL]
  | _ :: _, [] => by simp [cmpL]
  | x :: a, y :: b => by
    unfold cmpL
    by_cases h1 : tc x.1 y.1 = 0
    · rw [if_pos h1]
      by_cases h2 : tc x.2 y.2 = 0
      · rw [if_pos h2, cmpL_zero]
        have e1 := tc_zero.1 h1
        have e2 := tc_zero.1 h2
        have : x = y := Prod.ext e1 e2
        rw [this]
        simp
      · rw [if_neg h2]
        constructor
        · exact fun h => absurd h h2
        · intro h
          injection h with h _
          exact absurd (tc_zero.2 (by rw [h])) h2
    · rw [if_neg h1]
      constructor
      · exact fun h => absurd h h1
      · intro h
        injection h with h _
        exact absurd (tc_zero.2 (by rw [h])) h1
theorem cmpL_neg : ∀ a b : List (Str × Str), cmpL b a = -cmpL a b
  | [], [] => rfl
  | [], _ :: _ => rfl
  | _ :: _, [] => rfl
  | x :: a, y :: b => by
    unfold cmpL
    have e1 := tc_neg x.1 y.1
    have e2 := tc_neg x.2 y.2
    by_cases h1 : tc x.1 y.1 = 0
    · rw [if_pos h1, if_pos (by omega)]
      by_cases h2 : tc x.2 y.2 = 0
      · rw [if_pos h2, if_pos (by omega), cmpL_neg a b]
      · rw [if_neg h2, if_neg (by omega), e2]
    · rw [if_neg h1, if_neg (by omega), e1]
theorem cmpL_cases : ∀ a b : List (Str × Str), cmpL a b = -1 ∨ cmpL a b = 0 ∨ cmpL a b = 1
  | [], [] => .inr (.inl rfl)
  | [], _ :: _ => .inl rfl
  | _ :: _, [] => .inr (.inr rfl)
  | x :: a, y :: b => by
    unfold cmpL
    split
    · split
      · exact cmpL_cases a b
      · exact tc_cases _ _
    · exact tc_cases _ _
theorem tc_trans {x y z : Str} (h1 : tc x y ≤ 0) (h2 : tc y z ≤ 0) : tc x z ≤ 0 ∧ (tc x z = 0 → tc x y = 0 ∧ tc y z = 0) := by
  rcases tc_cases x y with a | a | a
  · rcases tc_cases y z with b | b | b
    · have := tc_lt.2 (less_trans (tc_lt.1 a) (tc_lt.1 b))
      omega
    · rw [tc_zero.1 b] at a
      omega
    · omega
  · have e := tc_zero.1 a
    subst e
    exact ⟨h2, fun h => ⟨a, h⟩⟩
  · omega
theorem cmpL_trans : ∀ {a b c : List (Str × Str)}, cmpL a b ≤ 0 → cmpL b c ≤ 0 → cmpL a c ≤ 0 ∧ (cmpL a c = 0 → cmpL a b = 0 ∧ cmpL b c = 0)
  | [], [], [], _, _ => by simp [cmpL]
  | [], [], _ :: _, _, _ => by simp [cmpL]
  | [], _ :: _, [], _, h => by simp [cmpL] at h
  | [], _ :: _, _ :: _, _, _ => by simp [cmpL]
  | _ :: _, [], _, h, _ => by simp [cmpL] at h
  | _ :: _, _ :: _, [], _, h => by simp [cmpL] at h
  | x :: a, y :: b, z :: c, h1, h2 => by
    unfold cmpL at h1 h2 ⊢
    by_cases p1 : tc x.1 y.1 = 0
    · by_cases p2 : tc y.1 z.1 = 0
      · have p3 : tc x.1 z.1 = 0 := by rw [tc_zero.1 p1, tc_zero.1 p2]; exact tc_zero.2 rfl
        rw [if_pos p1] at h1 ⊢
        rw [if_pos p2] at h2 ⊢
        rw [if_pos p3]
        by_cases q1 : tc x.2 y.2 = 0
        · by_cases q2 : tc y.2 z.2 = 0
          · have q3 : tc x.2 z.2 = 0 := by rw [tc_zero.1 q1, tc_zero.1 q2]; exact tc_zero.2 rfl
            rw [if_pos q1] at h1 ⊢
            rw [if_pos q2] at h2 ⊢
            rw [if_pos q3]
            exact cmpL_trans h1 h2
          · rw [if_pos q1] at h1 ⊢
            rw [if_neg q2] at h2 ⊢
            have e := tc_zero.1 q1
            rw [e, if_neg q2]
            exact ⟨h2, fun h => absurd h q2⟩
        · rw [if_neg q1] at h1 ⊢
          have h2' : tc y.2 z.2 ≤ 0 := by
            by_cases q2 : tc y.2 z.2 = 0
            · omega
            · rw [if_neg q2] at h2; exact h2
          obtain ⟨t1, t2⟩ := tc_trans h1 h2'
          rw [if_neg (fun h => q1 (t2 h).1)]
          exact ⟨t1, fun h => absurd (t2 h).1 q1⟩
      · have e := tc_zero.1 p1
        rw [if_pos p1] at h1 ⊢
        rw [if_neg p2] at h2 ⊢
        rw [e, if_neg p2]
        exact ⟨h2, fun h => absurd h p2⟩
    · rw [if_neg p1] at h1 ⊢
      have h2' : tc y.1 z.1 ≤ 0 := by
        by_cases p2 : tc y.1 z.1 = 0
        · omega
        · rw [if_neg p2] at h2; exact h2
      obtain ⟨t1, t2⟩ := tc_trans h1 h2'
      rw [if_neg (fun h => p1 (t2 h).1)]
      exact ⟨t1, fun h => absurd (t2 h).1 p1⟩
theorem mn_nat (a b : Nat) : mn (a : Int) (b : Int) = ((min a b : Nat) : Int) := by unfold mn; omega
theorem text_f (a b : ByteArray) : manometerref05_text.f a b = some (tc (B a) (B b)) := by
  unfold manometerref05_text.f tc
  rw [toList_B, toList_B]
  split
  · rfl
  · split <;> rfl
theorem rest_len (a b : List Lab) (n : Nat) (ha : n ≤ a.length) (hb : n ≤ b.length) (h : n = a.length ∨ n = b.length) :
    (if (a.length : Int) < (b.length : Int) then (some (-1)) else (if (a.length : Int) > (b.length : Int) then (some 1) else (some (0 : Int)))) = some (cmpL ((a.drop n).map pr) ((b.drop n).map pr)) := by
  rcases Nat.lt_or_ge n a.length with h1 | h1
  · have h2 : b.length ≤ n := by omega
    rw [dropS a n h1, List.drop_of_length_le h2, if_neg (by omega), if_pos (by omega)]
    rfl
  · rw [List.drop_of_length_le h1]
    rcases Nat.lt_or_ge n b.length with h2 | h2
    · rw [dropS b n h2, if_pos (by omega)]
      rfl
    · rw [List.drop_of_length_le h2, if_neg (by omega), if_neg (by omega)]
      rfl
theorem cmp_pr (x y : Lab) (a b : List (Str × Str)) : cmpL (pr x :: a) (pr y :: b) = if tc (B x.f0) (B y.f0) = 0 then (if tc (B x.f1) (B y.f1) = 0 then cmpL a b else tc (B x.f1) (B y.f1)) else tc (B x.f0) (B y.f0) := by
  rw [cmpL]
  rfl
theorem ref_Compare_l0 (a b : List Lab) (m : Nat) (hs : a.length ≤ 1000000000000) (ha : m ≤ a.length) (hb : m ≤ b.length) (he : m = a.length ∨ m = b.length) : ∀ (d n k : Nat), n + d = m → d < k →
    manometerref05_Compare.l0 k a b (m : Int) (n : Int) = some (cmpL ((a.drop n).map pr) ((b.drop n).map pr))
  | d, n, k, hd, hk => by
    obtain ⟨k, rfl⟩ := succ_of hk
    by_cases hlt : n < m
    · obtain ⟨d, rfl⟩ : ∃ e, d = e + 1 := ⟨d - 1, by omega⟩
      have ih := ref_Compare_l0 a b m hs ha hb he d (n + 1) k (by omega) (by omega)
      rw [dropS a n (by omega), dropS b n (by omega), List.map_cons, List.map_cons]
      simp only [manometerref05_Compare.l0]
      rw [if_pos (by omega), if_pos (by omega), if_pos (by omega), if_pos (by omega), rdn, rdn, w1 n (by omega), ih, text_f, Option.bind_some, text_f]
      generalize a.getD n z44 = x
      generalize b.getD n z44 = y
      rw [cmp_pr]
      by_cases h1 : tc (B x.f0) (B y.f0) = 0
      · rw [if_pos h1, if_pos h1, Option.bind_some]
        by_cases h2 : tc (B x.f1) (B y.f1) = 0
        · rw [if_pos h2, if_pos h2]
        · rw [if_neg h2, if_neg h2]
      · rw [if_neg h1, if_neg h1]
    · have hn : n = m := by omega
      subst hn
      rw [← rest_len a b n ha hb he]
      simp only [manometerref05_Compare.l0]
      rw [if_neg (by omega)]
theorem Compare_l0 (a b : List Lab) (m : Nat) (hs : a.length ≤ 1000000000000) (ha : m ≤ a.length) (hb : m ≤ b.length) (he : m = a.length ∨ m = b.length) : ∀ (d n k : Nat), n + d = m → 2 * d + 1 < k →
    labels_Compare.l0 k a b (m : Int) (n : Int) = some (cmpL ((a.drop n).map pr) ((b.drop n).map pr))
  | d, n, k, hd, hk => by
    obtain ⟨k, rfl⟩ : ∃ j, k = j + 2 := ⟨k - 2, by omega⟩
    by_cases hlt : n < m
    · obtain ⟨d, rfl⟩ : ∃ e, d = e + 1 := ⟨d - 1, by omega⟩
      have ih := Compare_l0 a b m hs ha hb he d (n + 1) k (by omega) (by omega)
      rw [dropS a n (by omega), dropS b n (by omega), List.map_cons, List.map_cons]
      simp only [labels_Compare.l0, labels_Compare.j1]
      rw [if_pos (by omega), if_pos (by omega), if_pos (by omega), if_pos (by omega), rdn, rdn, w1 n (by omega), ih]
      generalize a.getD n z44 = x
      generalize b.getD n z44 = y
      rw [cmp_pr]
      simp only [toList_B]
      cases h1 : Op.bytesLess (B x.f0) (B y.f0) with
      | true =>
        have e1 : tc (B x.f0) (B y.f0) = -1 := tc_lt.2 h1
        rw [if_pos (by simp), if_pos (by simp), e1, if_neg (by decide)]
      | false =>
        rw [if_neg (by simp)]
        by_cases h2 : B x.f0 = B y.f0
        · have e1 : tc (B x.f0) (B y.f0) = 0 := tc_zero.2 h2
          rw [if_pos h2, if_pos e1]
          cases h3 : Op.bytesLess (B x.f1) (B y.f1) with
          | true =>
            have e2 : tc (B x.f1) (B y.f1) = -1 := tc_lt.2 h3
            rw [if_pos (by simp), e2, if_neg (by decide)]
          | false =>
            rw [if_neg (by simp)]
            by_cases h4 : B x.f1 = B y.f1
            · have e2 : tc (B x.f1) (B y.f1) = 0 := tc_zero.2 h4
              rw [if_pos e2, h2, h4, if_neg (by simp)]
            · have e2 : tc (B x.f1) (B y.f1) ≠ 0 := fun h => h4 (tc_zero.1 h)
              have e3 : tc (B x.f1) (B y.f1) = 1 := by
                rcases tc_cases (B x.f1) (B y.f1) with h | h | h
                · rw [tc_lt.1 h] at h3; cases h3
                · exact absurd h e2
                · exact h
              rw [if_neg e2, e3, if_pos (by simp [h4])]
        · have e1 : tc (B x.f0) (B y.f0) ≠ 0 := fun h => h2 (tc_zero.1 h)
          have e3 : tc (B x.f0) (B y.f0) = 1 := by
            rcases tc_cases (B x.f0) (B y.f0) with h | h | h
            · rw [tc_lt.1 h] at h1; cases h1
            · exact absurd h e1
            · exact h
          rw [if_neg h2, if_neg e1, e3, if_neg (by simp), if_pos (by simp [h2])]
    · have hn : n = m := by omega
      subst hn
      rw [← rest_len a b n ha hb he]
      simp only [labels_Compare.l0]
      rw [if_neg (by omega)]
def cmpB (a b : List Lab) : Int := cmpL (a.map pr) (b.map pr)
theorem Compare_ev (a b : List Lab) (hs : a.length ≤ 1000000000000) : Ev (fun k => labels_Compare.f k a b) (cmpB a b) ∧ Ev (fun k => manometerref05_Compare.f k a b) (cmpB a b) := by
  unfold labels_Compare.f manometerref05_Compare.f
  rw [mn_nat]
  have h1 : min a.length b.length = a.length ∨ min a.length b.length = b.length := by omega
  exact ⟨Ev.at (2 * min a.length b.length + 1) (fun k hk => Compare_l0 a b _ hs (by omega) (by omega) h1 (min a.length b.length) 0 k (by omega) hk),
    Ev.at (min a.length b.length) (fun k hk => ref_Compare_l0 a b _ hs (by omega) (by omega) h1 (min a.length b.length) 0 k (by omega) hk)⟩
theorem cmpB_zero {a b : List Lab} : cmpB a b = 0 ↔ a = b := by
  unfold cmpB
  rw [cmpL_zero]
  exact ⟨prs_inj, fun h => by rw [h]⟩
theorem cmpB_bounds (a b : List Lab) : cmpB a b = -1 ∨ cmpB a b = 0 ∨ cmpB a b = 1 := cmpL_cases _ _
theorem cmpB_neg (a b : List Lab) : cmpB b a = -cmpB a b := cmpL_neg _ _
theorem labelsThree (a b c : List Lab) : ∃ k, manometerlaw05_LabelsThree.f k a b c = some true := by
  have hj : ∀ z : Bool, (z = false → a.length ≤ 60 ∧ b.length ≤ 60 ∧ c.length ≤ 60) → Ev (fun k => manometerlaw05_LabelsThree.j0 k a b c z) true := by
    intro z hz
    refine Ev.step (fun k => by rw [manometerlaw05_LabelsThree.j0]) ?_
    cases z with
    | true =>
      simp only [if_true]
      exact live_ev.bind (Ev.now _)
    | false =>
      obtain ⟨h1, h2, h3⟩ := hz rfl
      simp only [Bool.false_eq_true, if_false]
      refine (Compare_ev a b (by omega)).1.bind ?_
      refine (Compare_ev b c (by omega)).1.bind ?_
      refine (Compare_ev a c (by omega)).1.bind ?_
      refine (Same_ev a b (by omega)).1.bind ?_
      have e1 : ((cmpB a b == 0) == sameB a b) = true := by
        by_cases h : a = b
        · rw [cmpB_zero.2 h, sameB_eq.2 h]; rfl
        · have n1 : ¬ cmpB a b = 0 := fun h' => h (cmpB_zero.1 h')
          have n2 : sameB a b = false := by
            cases hs : sameB a b with
            | true => exact absurd (sameB_eq.1 hs) h
            | false => rfl
          rw [n2]
          simp [n1]
      simp only [if_pos e1]
      refine (Compare_ev b a (by omega)).1.bind ?_
      have e2 : cmpB b a = wrap64 (-cmpB a b) := by
        rw [cmpB_neg]
        rcases cmpB_bounds a b with h | h | h <;> rw [h] <;> exact (w64 (by decide) (by decide)).symm
      simp only [if_pos e2]
      by_cases g1 : cmpB a b > 0
      · simp only [if_pos g1]; exact Ev.now _
      · simp only [if_neg g1]
        by_cases g2 : cmpB b c > 0
        · simp only [if_pos g2]; exact Ev.now _
        · simp only [if_neg g2]
          obtain ⟨t1, t2⟩ := cmpL_trans (a := a.map pr) (b := b.map pr) (c := c.map pr) (by unfold cmpB at g1; omega) (by unfold cmpB at g2; omega)
          simp only [if_pos (show cmpB a c ≤ 0 from t1)]
          by_cases g3 : cmpB a c < 0
          · simp only [if_pos g3]; exact Ev.now _
          · simp only [if_neg g3]
            have t3 : cmpB a c = 0 := by have : cmpB a c ≤ 0 := t1; omega
            obtain ⟨t4, t5⟩ := t2 t3
            simp only [if_pos (show cmpB a b = 0 from t4)]
            have t6 : (cmpB b c == 0) = true := by rw [show cmpB b c = 0 from t5]; rfl
            rw [t6]
            exact Ev.now _
  have h : Ev (fun k => manometerlaw05_LabelsThree.f k a b c) true := by
    unfold manometerlaw05_LabelsThree.f
    refine live_ev.bind ?_
    simp only [if_true]
    refine (few_ev a).bind ?_
    cases ha : fewB a with
    | false => exact hj true (by simp)
    | true =>
      simp only [if_true]
      refine (few_ev b).bind ?_
      cases hb : fewB b with
      | false => exact hj true (by simp)
      | true =>
        simp only [if_true]
        refine (few_ev c).bind ?_
        refine hj _ fun hc => ⟨(few_of ha).1, (few_of hb).1, (few_of (l := c) ?_).1⟩
        simpa using hc
  exact h.rounds
end Go.Proofs.YtdhmabofncbohaaDoor.Pu
