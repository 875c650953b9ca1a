import Derived.Test.YtdhmabofncbohaaDoorCLabelsToldL1
import Derived.Test.YtdhmabofncbohaaDoorCLabelsToldPLBx13
import Derived.Test.YtdhmabofncbohaaDoorCLabelsToldPLBx15
import Derived.Test.YtdhmabofncbohaaDoorCLabelsToldPLBx5
import Derived.Test.YtdhmabofncbohaaDoorCLabelsToldPLBx6
import Derived.Test.YtdhmabofncbohaaDoorCLabelsToldPLBx16
import Derived.Test.YtdhmabofncbohaaDoorCLabelsToldPLBx1
import Derived.Test.YtdhmabofncbohaaDoorCLabelsToldPLBx14
import Derived.Test.YtdhmabofncbohaaDoorCLabelsToldPU5
import Derived.Test.YtdhmabofncbohaaDoorCLabelsToldPLBx2
import Derived.Test.YtdhmabofncbohaaDoorCLabelsToldPLBx4
import Derived.Test.YtdhmabofncbohaaDoorCLabelsToldO2
section
namespace Go.Proofs.YtdhmabofncbohaaDoor.PLB
open Go.RowKit Go.Proofs.YtdhmabofncbohaaDoorW.PrintWords Go.Proofs.YtdhmabofncbohaaDoorW.PrintLast Go.Proofs.YtdhmabofncbohaaDoorW.PrintMore
attribute [local go_sem] max2_int min2_int max_two min_two max_three min_three max_four min_four
set_option linter.unusedVariables false
set_option linter.unusedSimpArgs false
end Go.Proofs.YtdhmabofncbohaaDoor.PLB
end
section
namespace Go.Proofs.YtdhmabofncbohaaDoor.PLB
open Go.RowKit Go.Proofs.YtdhmabofncbohaaDoorW.PrintWords Go.Proofs.YtdhmabofncbohaaDoorW.PrintLast Go.Proofs.YtdhmabofncbohaaDoorW.PrintMore
attribute [local go_sem] max2_int min2_int max_two min_two max_three min_three max_four min_four
set_option linter.unusedVariables false
set_option linter.unusedSimpArgs false
end Go.Proofs.YtdhmabofncbohaaDoor.PLB
end
section
namespace Go.Proofs.YtdhmabofncbohaaDoor.PLB
open Go.RowKit Go.Proofs.YtdhmabofncbohaaDoorW.PrintWords Go.Proofs.YtdhmabofncbohaaDoorW.PrintLast Go.Proofs.YtdhmabofncbohaaDoorW.PrintMore
attribute [local go_sem] max2_int min2_int max_two min_two max_three min_three max_four min_four
set_option linter.unusedVariables false
set_option linter.unusedSimpArgs false
end Go.Proofs.YtdhmabofncbohaaDoor.PLB
end
section
namespace Go.Proofs.YtdhmabofncbohaaDoor.PLB
open Go.RowKit Go.Proofs.YtdhmabofncbohaaDoorW.PrintWords Go.Proofs.YtdhmabofncbohaaDoorW.PrintLast Go.Proofs.YtdhmabofncbohaaDoorW.PrintMore
attribute [local go_sem] max2_int min2_int max_two min_two max_three min_three max_four min_four
set_option linter.unusedVariables false
set_option linter.unusedSimpArgs false
attribute [local go_sem high] eqA44
end Go.Proofs.YtdhmabofncbohaaDoor.PLB
end
section
namespace Go.Proofs.YtdhmabofncbohaaDoor.Pu
open Go Go.RowKit Go.Proofs.YtdhmabofncbohaaDoor Go.Proofs.YtdhmabofncbohaaDoor.PLB Go.Proofs.YtdhmabofncbohaaDoorW.PrintWords Go.Proofs.YtdhmabofncbohaaDoorW.PrintLast Go.Proofs.YtdhmabofncbohaaDoorW.PrintMore
set_option linter.unusedVariables false
set_option linter.unusedSimpArgs false
abbrev Up (l : List Lab) : Prop := l.Pairwise (fun a b => lt a.f0 b.f0)
def RightP (l : List Lab) : Prop := (∀ x ∈ l, wrongB false x = 0) ∧ Up l
theorem nle (x q : Str) : (Op.bytesLess x q || decide (x = q)) = true ↔ ¬ Op.bytesLess q x = true := by
  constructor
  · intro h h'
    rw [Bool.or_eq_true] at h
    rcases h with h | h
    · rw [less_asymm h] at h'; cases h'
    · rw [of_decide_eq_true h, less_irrefl] at h'; cases h'
  · intro h
    by_cases h1 : Op.bytesLess x q = true
    · rw [h1]; rfl
    · have : x = q := less_total (by simpa using h1) (by simpa using h)
      simp [this]
theorem rgt_some : ∀ (l : List Lab) (q : Str), rgt (some q) l = 0 ↔ RightP l ∧ ∀ x ∈ l, Op.bytesLess q (B x.f0) = true
  | [], q => by simp [rgt, RightP]
  | x :: l, q => by
    unfold rgt
    by_cases hw : wrongB false x = 0
    · simp only [if_pos hw]
      by_cases hc : Op.bytesLess q (B x.f0) = true
      · have h1 : ¬ (Op.bytesLess (B x.f0) q || decide (B x.f0 = q)) = true := fun h => (nle _ _).1 h hc
        rw [if_neg h1, rgt_some l (B x.f0)]
        unfold RightP
        constructor
        · rintro ⟨⟨a, b⟩, c⟩
          refine ⟨⟨fun z hz => ?_, List.pairwise_cons.2 ⟨c, b⟩⟩, fun z hz => ?_⟩
          · rcases List.mem_cons.1 hz with rfl | hz
            · exact hw
            · exact a z hz
          · rcases List.mem_cons.1 hz with rfl | hz
            · exact hc
            · exact less_trans hc (c z hz)
        · rintro ⟨⟨a, b⟩, c⟩
          exact ⟨⟨fun z hz => a z (List.mem_cons_of_mem _ hz), (List.pairwise_cons.1 b).2⟩, (List.pairwise_cons.1 b).1⟩
      · rw [if_pos ((nle _ _).2 hc)]
        constructor
        · intro h; cases h
        · rintro ⟨_, c⟩
          exact absurd (c x List.mem_cons_self) hc
    · simp only [if_neg hw]
      constructor
      · intro h; exact absurd h hw
      · rintro ⟨⟨a, _⟩, _⟩
        exact absurd (a x List.mem_cons_self) hw
theorem rgt_none : ∀ (l : List Lab), rgt none l = 0 ↔ RightP l
  | [] => by simp [rgt, RightP]
  | x :: l => by
    unfold rgt
    by_cases hw : wrongB false x = 0
    · simp only [if_pos hw, Bool.false_eq_true, if_false]
      rw [rgt_some l (B x.f0)]
      unfold RightP
      constructor
      · rintro ⟨⟨a, b⟩, c⟩
        refine ⟨fun z hz => ?_, List.pairwise_cons.2 ⟨c, b⟩⟩
        rcases List.mem_cons.1 hz with rfl | hz
        · exact hw
        · exact a z hz
      · rintro ⟨a, b⟩
        exact ⟨⟨fun z hz => a z (List.mem_cons_of_mem _ hz), (List.pairwise_cons.1 b).2⟩, (List.pairwise_cons.1 b).1⟩
    · simp only [if_neg hw]
      constructor
      · intro h; exact absurd h hw
      · rintro ⟨a, _⟩
        exact absurd (a x List.mem_cons_self) hw
theorem right_zero (l : List Lab) : rightB l = 0 ↔ l.length ≤ 16 ∧ RightP l := by
  unfold rightB
  by_cases h : l.length ≤ 16
  · rw [if_pos h, rgt_none]
    exact ⟨fun h' => ⟨h, h'⟩, fun h' => h'.2⟩
  · rw [if_neg h]
    exact ⟨fun h1 => (by cases h1), fun h1 => absurd h1.1 h⟩
theorem firstW_none : ∀ l : List Lab, firstW l = none ↔ ∀ x ∈ l, wrongB true x = 0
  | [] => by simp [firstW]
  | x :: l => by
    unfold firstW
    by_cases h : wrongB true x = 0
    · rw [if_pos h, firstW_none l]
      simp [h]
    · rw [if_neg h]
      simp [h]
theorem wrong_both (x : Lab) : wrongB false x = 0 ↔ wrongB true x = 0 ∧ ¬ B x.f1 = [] := by
  unfold wrongB
  simp only [Bool.false_eq_true, if_false, if_true]
  split
  · split
    · split
      · next h => simp [h]
      · next h => simp [h]
    · simp
  · simp
theorem rmk_up : ∀ (l seen : List Lab), Up (seen ++ l) → (∀ x ∈ l, ¬ B x.f1 = []) → (seen ++ l).length ≤ 16 → rmk seen seen l = (seen ++ l, 0)
  | [], seen, hu, _, hl => by
    unfold rmk
    rw [List.append_nil] at hl ⊢
    rw [if_pos hl]
  | x :: l, seen, hu, hn, hl => by
    unfold rmk
    have hlt : ∀ z ∈ seen, lt z.f0 x.f0 := fun z hz => (List.pairwise_append.1 hu).2.2 z hz x List.mem_cons_self
    have ha : ¬ seen.any (fun z => decide (B z.f0 = B x.f0)) = true := by
      intro h
      obtain ⟨z, hz, e⟩ := List.any_eq_true.1 h
      have := hlt z hz
      unfold lt at this
      rw [of_decide_eq_true e, less_irrefl] at this
      cases this
    rw [if_neg ha, if_neg (hn x List.mem_cons_self)]
    have hi : ins seen x = seen ++ [x] := by
      have := ins_app seen [] x hlt (fun z hz => by simp at hz)
      rw [List.append_nil] at this
      exact this
    have e : seen ++ x :: l = (seen ++ [x]) ++ l := by simp
    rw [e] at hu hl
    rw [hi, e, rmk_up l (seen ++ [x]) hu (fun z hz => hn z (List.mem_cons_of_mem _ hz)) hl]
theorem makeB_right (l : List Lab) (h : rightB l = 0) : makeB l = (l, 0) := by
  obtain ⟨h1, h2, h3⟩ := (right_zero l).1 h
  have hf : firstW l = none := (firstW_none l).2 fun x hx => ((wrong_both x).1 (h2 x hx)).1
  unfold makeB
  rw [hf]
  exact rmk_up l [] h3 (fun x hx => ((wrong_both x).1 (h2 x hx)).2) h1
end Go.Proofs.YtdhmabofncbohaaDoor.Pu
end
section
namespace Go.Proofs.YtdhmabofncbohaaDoor.Pu
open Go Go.RowKit Go.Proofs.YtdhmabofncbohaaDoor Go.Proofs.YtdhmabofncbohaaDoor.PLB Go.Proofs.YtdhmabofncbohaaDoorW.PrintWords Go.Proofs.YtdhmabofncbohaaDoorW.PrintLast Go.Proofs.YtdhmabofncbohaaDoorW.PrintMore
set_option linter.unusedVariables false
set_option linter.unusedSimpArgs false
def ints (l : Str) : List Int := l.map fun b => (b.toNat : Int)
theorem ints_length (l : Str) : (ints l).length = l.length := List.length_map _
theorem ints_append (a b : Str) : ints (a ++ b) = ints a ++ ints b := List.map_append
theorem B_nums (l : Str) : B (strOfNums (ints l)) = l := by
  unfold B strOfNums ints
  simp [Function.comp_def]
theorem strOf (l : Str) : strOfNums (ints l) = str l := B_inj (by rw [B_nums, B_str])
def unq (acc : Str) (n : Nat) : Str → Str × Nat × Int
  | [] => ([], 0, 6)
  | c :: r =>
    if c = 34 then (acc, n + 1, 0)
    else if c = 10 then ([], 0, 8)
    else if c = 92 then
      match r with
      | [] => ([], 0, 6)
      | d :: r' => if d = 34 ∨ d = 92 then unq (acc ++ [d]) (n + 2) r' else if d = 110 then unq (acc ++ [10]) (n + 2) r' else ([], 0, 8)
    else unq (acc ++ [c]) (n + 1) r
def told (x : Str × Nat × Int) : ByteArray × Int × Int := (str x.1, (x.2.1 : Int), x.2.2)
theorem u8eq (c : UInt8) (m : Nat) (hm : m < 256) : ((c.toNat : Int) = (m : Int)) ↔ c = UInt8.ofNat m := by
  constructor
  · intro h
    apply UInt8.toNat_inj.1
    simp
    omega
  · rintro rfl
    simp
    omega
theorem c34 (c : UInt8) : ((c.toNat : Int) = 34) ↔ c = 34 := u8eq c 34 (by decide)
theorem c10 (c : UInt8) : ((c.toNat : Int) = 10) ↔ c = 10 := u8eq c 10 (by decide)
theorem c92 (c : UInt8) : ((c.toNat : Int) = 92) ↔ c = 92 := u8eq c 92 (by decide)
theorem c110 (c : UInt8) : ((c.toNat : Int) = 110) ↔ c = 110 := u8eq c 110 (by decide)
theorem take_nums (acc : Str) (c : UInt8) : ints acc ++ [(c.toNat : Int)] = ints (acc ++ [c]) := by rw [ints_append]; rfl
theorem Unq_l0 (s : ByteArray) (hs : s.size ≤ 1000000000000) : ∀ (d n k : Nat) (acc : Str), n + d = s.size → acc.length ≤ n → 2 * d + 1 < k → labels_Unquote.l0 k s (ints acc) (n : Int) = some (told (unq acc n ((B s).drop n))) := by
  intro d
  induction d using Nat.strongRecOn with
  | _ d ih =>
    intro n k acc hd ha hk
    obtain ⟨k, rfl⟩ := succ_of hk
    have hl := B_length s
    have hil := ints_length acc
    by_cases hlt : n < s.size
    · have hdr := drop_cons (B s) n (by omega)
      rw [hdr]
      simp only [labels_Unquote.l0]
      rw [if_pos (by omega), if_pos (by omega), bt_B]
      generalize (B s).getD n 0 = c
      unfold unq
      by_cases h34 : c = 34
      · rw [if_pos ((c34 c).2 h34), if_pos h34, w1 n (by omega), strOf]
        rfl
      rw [if_neg (fun h => h34 ((c34 c).1 h)), if_neg h34]
      by_cases h10 : c = 10
      · rw [if_pos ((c10 c).2 h10), if_pos h10]
        rfl
      rw [if_neg (fun h => h10 ((c10 c).1 h)), if_neg h10]
      by_cases h92 : c = 92
      · rw [if_pos ((c92 c).2 h92), if_pos h92, w1 n (by omega)]
        by_cases hlt2 : n + 1 < s.size
        · have hdr2 := drop_cons (B s) (n + 1) (by omega)
          rw [hdr2, if_neg (by omega), if_pos (by omega), if_pos (by omega), bt_B]
          obtain ⟨e, he⟩ : ∃ e, e = (B s).getD (n + 1) 0 := ⟨_, rfl⟩
          have hbt := bt_B s (n + 1)
          rw [← he] at hbt ⊢
          have hA := ih (d - 2) (by omega) (n + 2) (k - 1) (acc ++ [e]) (by omega) (by rw [List.length_append]; simp; omega) (by omega)
          have hN := ih (d - 2) (by omega) (n + 2) (k - 1) (acc ++ [10]) (by omega) (by rw [List.length_append]; simp; omega) (by omega)
          obtain ⟨k, rfl⟩ : ∃ m, k = m + 1 := ⟨k - 1, by omega⟩
          rw [Nat.add_sub_cancel] at hA hN
          simp only [labels_Unquote.j1]
          have h10i : ints acc ++ [10] = ints (acc ++ [10]) := take_nums acc 10
          by_cases e34 : e = 34
          · have b1 : (((e.toNat : Int) == 34) = true) := beq_iff_eq.mpr ((c34 e).2 e34)
            rw [if_pos ((c34 e).2 e34), b1, if_pos rfl, if_pos (by omega), if_pos (by omega), if_pos (by omega), w2 n (by omega), hbt, take_nums, hA, if_pos (.inl e34)]
          · rw [if_neg (fun h => e34 ((c34 e).1 h))]
            by_cases e92 : e = 92
            · have b1 : (((e.toNat : Int) == 92) = true) := beq_iff_eq.mpr ((c92 e).2 e92)
              rw [b1, if_pos rfl, if_pos (by omega), if_pos (by omega), if_pos (by omega), w2 n (by omega), hbt, take_nums, hA, if_pos (.inr e92)]
            · have b1 : (((e.toNat : Int) == 92) = false) := beq_eq_false_iff_ne.mpr (fun h => e92 ((c92 e).1 h))
              rw [b1, if_neg (by decide), if_neg (c := e = 34 ∨ e = 92) (by rintro (h | h); exact e34 h; exact e92 h)]
              by_cases e110 : e = 110
              · rw [if_pos ((c110 e).2 e110), if_pos e110, if_pos (by omega), w2 n (by omega), h10i, hN]
              · rw [if_neg (fun h => e110 ((c110 e).1 h)), if_neg e110]
                rfl
        · have he : (B s).drop (n + 1) = [] := List.drop_of_length_le (by omega)
          rw [he, if_pos (by omega)]
          rfl
      · rw [if_neg (fun h => h92 ((c92 c).1 h)), if_neg h92, if_pos (by omega), w1 n (by omega), take_nums, ih (d - 1) (by omega) (n + 1) k (acc ++ [c]) (by omega) (by rw [List.length_append]; simp; omega) (by omega)]
    · have he : (B s).drop n = [] := List.drop_of_length_le (by omega)
      simp only [labels_Unquote.l0]
      rw [if_neg (by omega), he]
      rfl
theorem RUnq_l0 (s : ByteArray) (hs : s.size ≤ 1000000000000) : ∀ (d n k : Nat) (acc : Str), n + d = s.size → acc.length ≤ n → 2 * d + 1 < k → manometerref05_Unquote.l0 k s (ints acc) (n : Int) = some (told (unq acc n ((B s).drop n))) := by
  intro d
  induction d using Nat.strongRecOn with
  | _ d ih =>
    intro n k acc hd ha hk
    obtain ⟨k, rfl⟩ := succ_of hk
    have hl := B_length s
    have hil := ints_length acc
    by_cases hlt : n < s.size
    · have hdr := drop_cons (B s) n (by omega)
      rw [hdr]
      simp only [manometerref05_Unquote.l0]
      rw [if_pos (by omega), if_pos (by omega), bt_B]
      generalize (B s).getD n 0 = c
      unfold unq
      by_cases h34 : c = 34
      · rw [if_pos ((c34 c).2 h34), if_pos h34, w1 n (by omega), strOf]
        rfl
      rw [if_neg (fun h => h34 ((c34 c).1 h)), if_neg h34]
      by_cases h10 : c = 10
      · rw [if_pos ((c10 c).2 h10), if_pos h10]
        rfl
      rw [if_neg (fun h => h10 ((c10 c).1 h)), if_neg h10]
      by_cases h92 : c = 92
      · rw [if_pos ((c92 c).2 h92), if_pos h92, w1 n (by omega)]
        by_cases hlt2 : n + 1 < s.size
        · have hdr2 := drop_cons (B s) (n + 1) (by omega)
          rw [hdr2, if_neg (by omega), if_pos (by omega), if_pos (by omega), bt_B]
          obtain ⟨e, he⟩ : ∃ e, e = (B s).getD (n + 1) 0 := ⟨_, rfl⟩
          rw [← he]
          have hA := ih (d - 2) (by omega) (n + 2) (k - 1) (acc ++ [e]) (by omega) (by rw [List.length_append]; simp; omega) (by omega)
          have hN := ih (d - 2) (by omega) (n + 2) (k - 1) (acc ++ [10]) (by omega) (by rw [List.length_append]; simp; omega) (by omega)
          obtain ⟨k, rfl⟩ : ∃ m, k = m + 1 := ⟨k - 1, by omega⟩
          rw [Nat.add_sub_cancel] at hA hN
          simp only [manometerref05_Unquote.j1]
          have h10i : ints acc ++ [10] = ints (acc ++ [10]) := take_nums acc 10
          by_cases e34 : e = 34
          · have n110 : ¬ (e.toNat : Int) = 110 := by rw [e34]; decide
            rw [if_pos ((c34 e).2 e34), if_neg (by decide), if_neg n110, if_pos (by omega), w2 n (by omega), take_nums, hA, if_pos (.inl e34)]
          · rw [if_neg (fun h => e34 ((c34 e).1 h))]
            by_cases e92 : e = 92
            · have n110 : ¬ (e.toNat : Int) = 110 := by rw [e92]; decide
              rw [if_pos ((c92 e).2 e92), if_neg (by decide), if_neg n110, if_pos (by omega), w2 n (by omega), take_nums, hA, if_pos (.inr e92)]
            · rw [if_neg (fun h => e92 ((c92 e).1 h)), if_neg (c := e = 34 ∨ e = 92) (by rintro (h | h); exact e34 h; exact e92 h)]
              by_cases e110 : e = 110
              · have b1 : (((e.toNat : Int) != 110) = false) := bne_eq_false_iff_eq.mpr ((c110 e).2 e110)
                rw [b1, if_neg (by decide), if_pos ((c110 e).2 e110), if_pos e110, if_pos (by omega), w2 n (by omega), h10i, hN]
              · have b1 : (((e.toNat : Int) != 110) = true) := bne_iff_ne.mpr (fun h => e110 ((c110 e).1 h))
                rw [b1, if_pos rfl, if_neg e110]
                rfl
        · have he : (B s).drop (n + 1) = [] := List.drop_of_length_le (by omega)
          rw [he, if_pos (by omega)]
          rfl
      · rw [if_neg (fun h => h92 ((c92 c).1 h)), if_neg h92, if_pos (by omega), w1 n (by omega), take_nums, ih (d - 1) (by omega) (n + 1) k (acc ++ [c]) (by omega) (by rw [List.length_append]; simp; omega) (by omega)]
    · have he : (B s).drop n = [] := List.drop_of_length_le (by omega)
      simp only [manometerref05_Unquote.l0]
      rw [if_neg (by omega), he]
      rfl
def unquoteL : Str → Str × Nat × Int
  | [] => ([], 0, 6)
  | c :: r => if c = 34 then unq [] 1 r else ([], 0, 8)
theorem Unquote_ev (s : ByteArray) (hs : s.size ≤ 1000000000000) : Ev (fun k => labels_Unquote.f k s) (told (unquoteL (B s))) ∧ Ev (fun k => manometerref05_Unquote.f k s) (told (unquoteL (B s))) := by
  have hl := B_length s
  unfold labels_Unquote.f manometerref05_Unquote.f
  rw [toList_B]
  by_cases he : B s = []
  · simp only [if_pos he]
    rw [he]
    exact ⟨Ev.now _, Ev.now _⟩
  · have hp := List.length_pos_iff.2 he
    have h0 := bt_B s 0
    have hd := drop_cons (B s) 0 hp
    rw [List.drop_zero] at hd
    have e0 : bt s 0 = (((B s).getD 0 0).toNat : Int) := h0
    simp only [if_neg he, if_pos (show (0 : Int) < (s.size : Int) by omega), e0]
    generalize (B s).getD 0 0 = c at hd
    have h1 := Unq_l0 s hs (s.size - 1) 1
    have h2 := RUnq_l0 s hs (s.size - 1) 1
    have ed : (B s).drop 1 = (B s).tail := by rw [List.drop_one]
    rw [hd]
    unfold unquoteL
    by_cases h34 : c = 34
    · simp only [if_pos ((c34 c).2 h34), if_pos h34]
      exact ⟨Ev.at (2 * s.size + 2) (fun k hk => h1 k [] (by omega) (Nat.zero_le _) (by omega)), Ev.at (2 * s.size + 2) (fun k hk => h2 k [] (by omega) (Nat.zero_le _) (by omega))⟩
    · simp only [if_neg (fun h => h34 ((c34 c).1 h)), if_neg h34]
      exact ⟨Ev.now _, Ev.now _⟩
def esc (c : UInt8) : Str := if c = 34 ∨ c = 92 then [92, c] else if c = 10 then [92, 110] else [c]
def quoteL (l : Str) : Str := [34] ++ l.flatMap esc ++ [34]
theorem esc_length (c : UInt8) : (esc c).length ≤ 2 := by unfold esc; split <;> (try split) <;> simp
theorem Quote_l0 (s : ByteArray) (hs : s.size ≤ 1000000000000) : ∀ (d n k : Nat) (acc : Str), n + d = s.size → acc.length ≤ 2 * n + 1 → 2 * d + 1 < k → labels_Quote.l0 k s (ints acc) (s.size : Int) (n : Int) = some (str (acc ++ ((B s).drop n).flatMap esc ++ [34]))
  | d, n, k, acc, hd, ha, hk => by
    obtain ⟨k, rfl⟩ := succ_of hk
    have hl := B_length s
    have hil := ints_length acc
    by_cases hlt : n < s.size
    · obtain ⟨d, rfl⟩ : ∃ e, d = e + 1 := ⟨d - 1, by omega⟩
      obtain ⟨k, rfl⟩ : ∃ m, k = m + 1 := ⟨k - 1, by omega⟩
      have hdr := drop_cons (B s) n (by omega)
      have hbt := bt_B s n
      obtain ⟨c, hc⟩ : ∃ c, c = (B s).getD n 0 := ⟨_, rfl⟩
      rw [← hc] at hdr hbt
      have hec := esc_length c
      have ih := Quote_l0 s hs d (n + 1) k (acc ++ esc c) (by omega) (by rw [List.length_append]; omega) (by omega)
      rw [hdr, List.flatMap_cons, ← List.append_assoc acc, ← ih]
      simp only [labels_Quote.l0, labels_Quote.j1]
      rw [if_pos (by omega), if_pos (by omega), if_pos (by omega), hbt, w1 n (by omega)]
      by_cases h34 : c = 34
      · have b1 : ((c.toNat : Int) == 34) = true := beq_iff_eq.mpr ((c34 c).2 h34)
        have e1 : ints acc ++ [92, (c.toNat : Int)] = ints (acc ++ esc c) := by rw [ints_append]; unfold esc; rw [if_pos (.inl h34)]; rfl
        rw [if_pos ((c34 c).2 h34), b1, if_pos rfl, if_pos (by omega), if_pos (by omega)]
        simp only [Option.bind_some]
        rw [if_pos (by simp; omega), e1]
      rw [if_neg (fun h => h34 ((c34 c).1 h))]
      by_cases h92 : c = 92
      · have b1 : ((c.toNat : Int) == 92) = true := beq_iff_eq.mpr ((c92 c).2 h92)
        have e1 : ints acc ++ [92, (c.toNat : Int)] = ints (acc ++ esc c) := by rw [ints_append]; unfold esc; rw [if_pos (.inr h92)]; rfl
        rw [b1, if_pos rfl, if_pos (by omega), if_pos (by omega)]
        simp only [Option.bind_some]
        rw [if_pos (by simp; omega), e1]
      have b1 : ((c.toNat : Int) == 92) = false := beq_eq_false_iff_ne.mpr (fun h => h92 ((c92 c).1 h))
      rw [b1, if_neg (by decide)]
      by_cases h10 : c = 10
      · have e1 : ints acc ++ [92, 110] = ints (acc ++ esc c) := by rw [ints_append]; unfold esc; rw [if_neg (by rintro (h | h); exact h34 h; exact h92 h), if_pos h10]; rfl
        rw [if_pos ((c10 c).2 h10)]
        simp only [Option.bind_some]
        rw [if_pos (by simp; omega), e1]
      · have e1 : ints acc ++ [(c.toNat : Int)] = ints (acc ++ esc c) := by rw [ints_append]; unfold esc; rw [if_neg (by rintro (h | h); exact h34 h; exact h92 h), if_neg h10]; rfl
        rw [if_neg (fun h => h10 ((c10 c).1 h)), if_pos (by omega), if_pos (by omega), if_pos (by omega), e1]
    · obtain rfl : d = 0 := by omega
      have he : (B s).drop n = [] := List.drop_of_length_le (by omega)
      have e1 : ints acc ++ [34] = ints (acc ++ [34]) := take_nums acc 34
      simp only [labels_Quote.l0]
      rw [if_neg (by omega), he, if_pos (by omega), e1, strOf]
      simp
theorem B_size (s : ByteArray) (l : Str) (h : B s = l) : s.size = l.length := by rw [← h, B_length]
theorem RQuote_l0 (s : ByteArray) (hs : s.size ≤ 1000000000000) : ∀ (d n k : Nat) (acc : ByteArray), n + d = s.size → acc.size ≤ 2 * n + 1 → 2 * d + 1 < k → manometerref05_Quote.l0 k s acc (s.size : Int) (n : Int) = some (str (B acc ++ ((B s).drop n).flatMap esc ++ [34]))
  | d, n, k, acc, hd, ha, hk => by
    obtain ⟨k, rfl⟩ := succ_of hk
    have hl := B_length s
    by_cases hlt : n < s.size
    · obtain ⟨d, rfl⟩ : ∃ e, d = e + 1 := ⟨d - 1, by omega⟩
      obtain ⟨k, rfl⟩ : ∃ m, k = m + 1 := ⟨k - 1, by omega⟩
      have hdr := drop_cons (B s) n (by omega)
      have hbt := bt_B s n
      have hex : B (s.extract n (n + 1)) = [(B s).getD n 0] := by
        rw [B_extract, List.drop_take, hdr]
        simp
      obtain ⟨c, hc⟩ : ∃ c, c = (B s).getD n 0 := ⟨_, rfl⟩
      rw [← hc] at hdr hbt hex
      have hec := esc_length c
      have hxs := B_size _ _ hex
      simp only [List.length_cons, List.length_nil] at hxs
      have key : ∀ z : ByteArray, B z = esc c → z.size ≤ 2 ∧ manometerref05_Quote.l0 k s (acc ++ z) (s.size : Int) ((n + 1 : Nat) : Int) = some (str (B acc ++ ((B s).drop n).flatMap esc ++ [34])) := fun z hz => by
        have hzs := B_size _ _ hz
        refine ⟨by omega, ?_⟩
        rw [RQuote_l0 s hs d (n + 1) k (acc ++ z) (by omega) (by rw [ByteArray.size_append]; omega) (by omega), B_append, hz, hdr, List.flatMap_cons]
        simp
      simp only [manometerref05_Quote.l0, manometerref05_Quote.j1]
      rw [if_pos (by omega), if_pos (by omega), if_pos (by omega), hbt, w1 n (by omega)]
      simp only [Int.toNat_natCast]
      by_cases h2 : c = 34 ∨ c = 92
      · obtain ⟨k1, k2⟩ := key ((⟨#[92]⟩ : ByteArray) ++ s.extract n (n + 1)) (by rw [B_append, hex]; unfold esc; rw [if_pos h2]; rfl)
        have hgo : (if (true = true) then (if (0 : Int) ≤ (n : Int) then (if (n : Int) ≤ ((n + 1 : Nat) : Int) then (if ((n + 1 : Nat) : Int) ≤ (s.size : Int) then (if 1 + (s.extract n (n + 1)).size ≤ 9223372036854775807 then (if acc.size + ((⟨#[92]⟩ : ByteArray) ++ s.extract n (n + 1)).size ≤ 9223372036854775807 then (manometerref05_Quote.l0 k s (acc ++ ((⟨#[92]⟩ : ByteArray) ++ s.extract n (n + 1))) (s.size : Int) ((n + 1 : Nat) : Int)) else none) else none) else none) else none) else none) else none) = some (str (B acc ++ ((B s).drop n).flatMap esc ++ [34])) := by
          rw [if_pos rfl, if_pos (by omega), if_pos (by omega), if_pos (by omega), if_pos (by omega), if_pos (by omega), k2]
        rcases h2 with h34 | h92
        · have b1 : ((c.toNat : Int) == 34) = true := beq_iff_eq.mpr ((c34 c).2 h34)
          rw [if_pos ((c34 c).2 h34), b1, if_pos rfl]
          rw [if_pos rfl] at hgo
          exact hgo
        · have b1 : ((c.toNat : Int) == 92) = true := beq_iff_eq.mpr ((c92 c).2 h92)
          have n34 : ¬ (c.toNat : Int) = 34 := by rw [h92]; decide
          rw [if_neg n34, b1, if_pos rfl]
          rw [if_pos rfl] at hgo
          exact hgo
      · have n34 : ¬ (c.toNat : Int) = 34 := fun h => h2 (.inl ((c34 c).1 h))
        have b1 : ((c.toNat : Int) == 92) = false := beq_eq_false_iff_ne.mpr (fun h => h2 (.inr ((c92 c).1 h)))
        rw [if_neg n34, b1, if_neg (by decide)]
        by_cases h10 : c = 10
        · obtain ⟨k1, k2⟩ := key (⟨#[92, 110]⟩ : ByteArray) (by unfold esc; rw [if_neg h2, if_pos h10]; rfl)
          rw [if_pos ((c10 c).2 h10), if_pos (by omega), k2]
        · obtain ⟨k1, k2⟩ := key (s.extract n (n + 1)) (by rw [hex]; unfold esc; rw [if_neg h2, if_neg h10])
          rw [if_neg (fun h => h10 ((c10 c).1 h)), if_pos (by omega), if_pos (by omega), if_pos (by omega), if_pos (by omega), k2]
    · obtain rfl : d = 0 := by omega
      have he : (B s).drop n = [] := List.drop_of_length_le (by omega)
      simp only [manometerref05_Quote.l0]
      rw [if_neg (by omega), he, if_pos (by omega)]
      congr 1
      apply B_inj
      rw [B_append, B_str]
      simp [B]
theorem Quote_ev (s : ByteArray) (hs : s.size ≤ 1000000000000) : Ev (fun k => labels_Quote.f k s) (str (quoteL (B s))) ∧ Ev (fun k => manometerref05_Quote.f k s) (str (quoteL (B s))) :=
  ⟨Ev.at (2 * s.size + 1) (fun k hk => Quote_l0 s hs s.size 0 k [34] (by omega) (Nat.le_refl _) hk), Ev.at (2 * s.size + 1) (fun k hk => RQuote_l0 s hs s.size 0 k (⟨#[34]⟩ : ByteArray) (by omega) (by decide) hk)⟩
end Go.Proofs.YtdhmabofncbohaaDoor.Pu
end
section
namespace Go.Proofs.YtdhmabofncbohaaDoor.Pu
open Go Go.RowKit Go.Proofs.YtdhmabofncbohaaDoor Go.Proofs.YtdhmabofncbohaaDoor.PLB Go.Proofs.YtdhmabofncbohaaDoorW.PrintWords Go.Proofs.YtdhmabofncbohaaDoorW.PrintLast Go.Proofs.YtdhmabofncbohaaDoorW.PrintMore
set_option linter.unusedVariables false
set_option linter.unusedSimpArgs false
theorem toList_str (l : Str) : (str l).toList = l := by rw [toList_B, B_str]
theorem size_str (l : Str) : (str l).size = l.length := by rw [← B_length, B_str]
theorem bt0_str (c : UInt8) (l : Str) : bt (str (c :: l)) 0 = (c.toNat : Int) := by
  have := bt_B (str (c :: l)) 0
  rw [B_str] at this
  exact this
theorem drop_str (l : Str) (n : Nat) : (str l).extract n (str l).size = str (l.drop n) := B_inj (by rw [B_extract, B_str, B_str, size_str, List.take_length])
theorem take_str (l : Str) (n : Nat) : (str l).extract 0 n = str (l.take n) := B_inj (by rw [B_extract, B_str, B_str, List.drop_zero])
theorem tail_str (c : UInt8) (l : Str) : (str (c :: l)).extract 1 (str (c :: l)).size = str l := drop_str (c :: l) 1
theorem c32 (c : UInt8) : ((c.toNat : Int) = 32) ↔ c = 32 := u8eq c 32 (by decide)
theorem c61 (c : UInt8) : ((c.toNat : Int) = 61) ↔ c = 61 := u8eq c 61 (by decide)
theorem dropW_le (p : UInt8 → Bool) (l : Str) : (l.dropWhile p).length ≤ l.length := by
  have e := congrArg List.length (List.takeWhile_append_dropWhile (p := p) (l := l))
  rw [List.length_append] at e
  omega
def bareL (l : Str) : Str := l.dropWhile (fun c => c == 32)
theorem bareL_le (l : Str) : (bareL l).length ≤ l.length := dropW_le _ _
theorem bare_ev : ∀ l : Str, Ev (fun k => labels_bare.f k (str l)) (str (bareL l))
  | [] => by
    refine Ev.step (f := _) (fun k => by simp only [labels_bare.f, labels_bare.l0]; rfl) ?_
    simp only [toList_str, if_true]
    exact Ev.now _
  | c :: l => by
    refine Ev.step (f := _) (fun k => by simp only [labels_bare.f, labels_bare.l0]; rfl) ?_
    have e1 : (0 : Int) < ((str (c :: l)).size : Int) := by rw [size_str, List.length_cons]; omega
    have e2 : (1 : Int) ≤ ((str (c :: l)).size : Int) := by rw [size_str, List.length_cons]; omega
    simp only [toList_str, if_neg (List.cons_ne_nil c l), if_pos e1, if_pos e2, bt0_str, tail_str]
    unfold bareL
    rw [List.dropWhile_cons]
    by_cases h : c = 32
    · have hb : (c == 32) = true := by rw [h]; rfl
      simp only [if_pos ((c32 c).2 h), hb, if_true]
      exact bare_ev l
    · have hb : (c == 32) = false := by simpa using h
      simp only [if_neg (fun h' => h ((c32 c).1 h')), hb, Bool.false_eq_true, if_false]
      exact Ev.now _
def isL (c : UInt8) : Bool := letB (c.toNat : Int)
theorem take_while (p : UInt8 → Bool) (l : Str) : l.take (l.takeWhile p).length = l.takeWhile p ∧ l.drop (l.takeWhile p).length = l.dropWhile p := by
  have e := List.takeWhile_append_dropWhile (p := p) (l := l)
  generalize l.takeWhile p = X at *
  generalize l.dropWhile p = Y at *
  subst e
  exact ⟨List.take_left, List.drop_left⟩
theorem pletter (c : UInt8) : labels_letter.f (wrap32 (c.toNat : Int)) = some (isL c, fstB (c.toNat : Int)) := by
  have := c.toNat_lt
  rw [w32 (by omega) (by omega)]
  exact letter_f _
theorem bt_str (l : Str) (n : Nat) : bt (str l) (n : Int) = ((l.getD n 0).toNat : Int) := by rw [bt_B, B_str]
theorem word_l0 (l : Str) (hl : l.length ≤ 1000000) : ∀ (d n : Nat), n + d = l.length → Ev (fun k => labels_word.l0 k (str l) ((str l).size : Int) (n : Int)) (str (l.take (n + ((l.drop n).takeWhile isL).length)), str (l.drop (n + ((l.drop n).takeWhile isL).length)))
  | d, n, hd => by
    have hz := size_str l
    refine Ev.step (f := _) (fun k => by simp only [labels_word.l0]; rfl) ?_
    by_cases hlt : n < l.length
    · obtain ⟨d, rfl⟩ : ∃ e, d = e + 1 := ⟨d - 1, by omega⟩
      have ih := word_l0 l hl d (n + 1) (by omega)
      have e1 : (n : Int) < ((str l).size : Int) := by omega
      have e2 : (0 : Int) ≤ (n : Int) := by omega
      have e3 : (n : Int) ≤ ((str l).size : Int) := by omega
      have ebt : bt (str l) (n : Int) = ((l.getD n 0).toNat : Int) := bt_str l n
      simp only [if_pos e1, if_pos e2, if_pos e3, ebt, pletter, Option.bind_some, w1 n (by omega), Int.toNat_natCast, take_str, drop_str]
      rw [drop_cons l n hlt, List.takeWhile_cons]
      cases h : isL (l.getD n 0) with
      | true =>
        simp only [if_true, List.length_cons]
        rw [show n + (((l.drop (n + 1)).takeWhile isL).length + 1) = n + 1 + ((l.drop (n + 1)).takeWhile isL).length by omega]
        exact ih
      | false =>
        rw [← drop_cons l n hlt]
        simp only [Bool.false_eq_true, if_false, List.length_nil, Nat.add_zero]
        exact Ev.now _
    · rw [List.drop_of_length_le (show l.length ≤ n by omega)]
      simp only [if_neg (show ¬ (n : Int) < ((str l).size : Int) by omega), List.takeWhile_nil, List.length_nil, Nat.add_zero]
      rw [List.take_of_length_le (by omega), List.drop_of_length_le (by omega)]
      exact Ev.now _
theorem word_ev (l : Str) (hl : l.length ≤ 1000000) : Ev (fun k => labels_word.f k (str l)) (str (l.takeWhile isL), str (l.dropWhile isL)) := by
  have h := word_l0 l hl l.length 0 (by omega)
  rw [List.drop_zero, Nat.zero_add, (take_while isL l).1, (take_while isL l).2] at h
  exact h
theorem unq_le : ∀ (d : Nat) (r acc : Str) (n : Nat), r.length ≤ d → (unq acc n r).1.length ≤ acc.length + r.length ∧ (unq acc n r).2.1 ≤ n + r.length
  | _, [], acc, n, _ => by unfold unq; simp
  | 0, c :: r, acc, n, h => by simp at h
  | d + 1, c :: r, acc, n, h => by
    rw [List.length_cons] at h
    unfold unq
    rw [List.length_cons]
    split
    · simp
    · split
      · simp
      · split
        · cases r with
          | nil => simp
          | cons e r =>
            rw [List.length_cons] at h
            simp only [List.length_cons]
            split
            · have := unq_le d r (acc ++ [e]) (n + 2) (by omega)
              rw [List.length_append, List.length_singleton] at this
              omega
            · split
              · have := unq_le d r (acc ++ [10]) (n + 2) (by omega)
                rw [List.length_append, List.length_singleton] at this
                omega
              · simp
        · have := unq_le d r (acc ++ [c]) (n + 1) (by omega)
          rw [List.length_append, List.length_singleton] at this
          omega
theorem unquoteL_le (l : Str) : (unquoteL l).1.length ≤ l.length ∧ (unquoteL l).2.1 ≤ l.length := by
  cases l with
  | nil => simp [unquoteL]
  | cons c r =>
    simp only [unquoteL]
    split
    · have := unq_le r.length r [] 1 (Nat.le_refl _)
      simp only [List.length_nil, List.length_cons] at this ⊢
      omega
    · simp
def pairL (s : Str) : Option (Lab × Str) :=
  if s.takeWhile isL = [] then none else match bareL (s.dropWhile isL) with
  | [] => none
  | c :: r => if c = 61 then (if (unquoteL (bareL r)).2.2 = 0 then some (⟨str (s.takeWhile isL), str (unquoteL (bareL r)).1⟩, bareL ((bareL r).drop (unquoteL (bareL r)).2.1)) else none) else none
def parseL : Nat → Str → List Lab → List Lab × Int
  | 0, _, _ => ([], 8)
  | d + 1, s, acc =>
    match s with
    | [] => ([], 8)
    | b :: s' =>
      if b = 125 then (if bareL s' = [] then makeB acc else ([], 8))
      else match pairL (b :: s') with
      | none => ([], 8)
      | some (x, r) => match r with
        | [] => ([], 8)
        | c :: r' => if c = 44 then parseL d (bareL r') (acc ++ [x]) else if c = 125 then (if bareL r' = [] then makeB (acc ++ [x]) else ([], 8)) else ([], 8)
theorem pairL_le {s : Str} {x : Lab} {r : Str} (h : pairL s = some (x, r)) : r.length < s.length ∧ x.f0.size ≤ s.length ∧ x.f1.size ≤ s.length := by
  unfold pairL at h
  have e := congrArg List.length (List.takeWhile_append_dropWhile (p := isL) (l := s))
  rw [List.length_append] at e
  have h1 := bareL_le (s.dropWhile isL)
  split at h
  · cases h
  · split at h
    · cases h
    · next c r' he =>
      rw [he, List.length_cons] at h1
      split at h
      · split at h
        · have h2 := Option.some.inj h
          have h3 := congrArg (fun p => p.1.f0) h2
          have h4 := congrArg (fun p => p.1.f1) h2
          have h5 := congrArg (fun p => p.2) h2
          simp only at h3 h4 h5
          subst h5
          rw [← h3, ← h4, size_str, size_str]
          have h6 := unquoteL_le (bareL r')
          have h7 := bareL_le r'
          have h8 := bareL_le ((bareL r').drop (unquoteL (bareL r')).2.1)
          rw [List.length_drop] at h8
          omega
        · cases h
      · cases h
def hd (c : UInt8) : Str → Bool
  | [] => false
  | b :: _ => b == c
theorem starts_f (s : Str) (c : UInt8) : labels_starts.f (str s) (c.toNat : Int) = some (hd c s) := by
  unfold labels_starts.f
  rw [toList_str]
  cases s with
  | nil => rfl
  | cons b s =>
    have e1 : (0 : Int) < ((str (b :: s)).size : Int) := by rw [size_str, List.length_cons]; omega
    rw [if_neg (List.cons_ne_nil b s), if_pos e1, bt0_str]
    unfold hd
    congr 1
    rw [Bool.eq_iff_iff, beq_iff_eq, beq_iff_eq]
    constructor
    · intro h
      apply UInt8.toNat_inj.1
      omega
    · rintro rfl
      rfl
theorem starts_125 (s : Str) : labels_starts.f (str s) 125 = some (hd 125 s) := starts_f s 125
theorem starts_123 (s : Str) : labels_starts.f (str s) 123 = some (hd 123 s) := starts_f s 123
theorem starts_61 (s : Str) : labels_starts.f (str s) 61 = some (hd 61 s) := starts_f s 61
theorem starts_44 (s : Str) : labels_starts.f (str s) 44 = some (hd 44 s) := starts_f s 44
theorem unq_ev (s : Str) (hs : s.length ≤ 1000000) : Ev (fun k => labels_Unquote.f k (str s)) (str (unquoteL s).1, ((unquoteL s).2.1 : Int), (unquoteL s).2.2) ∧ Ev (fun k => manometerref05_Unquote.f k (str s)) (str (unquoteL s).1, ((unquoteL s).2.1 : Int), (unquoteL s).2.2) := by
  have := Unquote_ev (str s) (by rw [size_str]; omega)
  rw [B_str] at this
  exact this
theorem one_le (c : UInt8) (r : Str) : (1 : Int) ≤ ((str (c :: r)).size : Int) := by rw [size_str, List.length_cons]; omega
theorem Sm.more {acc : List Lab} {x : Lab} {n : Nat} (h : Sm acc) (hn : acc.length + 1 ≤ 100000) (h0 : x.f0.size ≤ 100000) (h1 : x.f1.size ≤ 100000) : Sm (acc ++ [x]) := by
  refine ⟨by simp; omega, fun z hz => ?_⟩
  rcases List.mem_append.1 hz with hz | hz
  · exact h.2 z hz
  · rw [List.mem_singleton.1 hz]
    exact ⟨h0, h1⟩
theorem end_ev (r : Str) (acc : List Lab) (hs : Sm acc) : Ev (fun k => (labels_bare.f k (str r)).bind fun t162 => (if t162.toList = ([] : List UInt8) then ((labels_Make.f k acc).bind fun bt163 => (some (bt163.1, bt163.2))) else (some (([] : List Lab), 8)))) (if bareL r = [] then makeB acc else ([], 8)) := by
  refine (bare_ev r).bind ?_
  simp only [toList_str]
  by_cases h : bareL r = []
  · simp only [if_pos h]
    exact (Make_ev acc hs).1.bind (Ev.now _)
  · simp only [if_neg h]
    exact Ev.now _
theorem Parse_l0 : ∀ (d : Nat) (s : Str) (acc : List Lab), s.length < d → s.length + acc.length ≤ 100000 → Sm acc → Ev (fun k => labels_Parse.l0 k (str s) acc) (parseL d s acc)
  | 0, s, acc, h, _, _ => by omega
  | d + 1, s, acc, hsd, hsa, hs => by
    refine Ev.step (f := _) (fun k => by simp only [labels_Parse.l0]; rfl) ?_
    simp only [starts_125, Option.bind_some]
    unfold parseL
    have e3 : acc.length < 4398046511104 := by omega
    have key : hd 125 s = false → Ev (fun k => (labels_word.f k (str s)).bind fun bt167 => ((labels_bare.f k bt167.2).bind fun t169 => (if bt167.1.toList = ([] : List UInt8) then (some (([] : List Lab), 8)) else ((labels_starts.f t169 61).bind fun t170 => (if t170 = true then (if 1 ≤ (t169.size : Int) then ((labels_bare.f k (t169.extract 1 t169.size)).bind fun t171 => ((labels_Unquote.f k t171).bind fun bt172 => (if bt172.2.2 = 0 then (if acc.length < 4398046511104 then ((some (acc ++ [(⟨bt167.1, bt172.1⟩ : Lab)] : List Lab)).bind fun y175 => (if 0 ≤ bt172.2.1 then (if bt172.2.1 ≤ (t171.size : Int) then ((labels_bare.f k (t171.extract (bt172.2.1 : Int).toNat t171.size)).bind fun t178 => ((labels_starts.f t178 44).bind fun t179 => (if t179 = true then (if 1 ≤ (t178.size : Int) then ((labels_bare.f k (t178.extract 1 t178.size)).bind fun t180 => (labels_Parse.l0 k t180 y175)) else (none)) else ((labels_starts.f t178 125).bind fun t181 => (if t181 = true then (if 1 ≤ (t178.size : Int) then ((labels_bare.f k (t178.extract 1 t178.size)).bind fun t182 => (if t182.toList = ([] : List UInt8) then ((labels_Make.f k y175).bind fun bt183 => (some (bt183.1, bt183.2))) else (some (([] : List Lab), 8)))) else (none)) else (some (([] : List Lab), 8))))))) else (none)) else (none))) else (none)) else (some (([] : List Lab), 8))))) else (none)) else (some (([] : List Lab), 8)))))))
        (match pairL s with
          | none => ([], 8)
          | some (x, r) => match r with
            | [] => ([], 8)
            | c :: r' => if c = 44 then parseL d (bareL r') (acc ++ [x]) else if c = 125 then (if bareL r' = [] then makeB (acc ++ [x]) else ([], 8)) else ([], 8)) := by
      intro h0
      refine (word_ev s (by omega)).bind ?_
      have hle := fun x r (h : pairL s = some (x, r)) => pairL_le h
      unfold pairL at hle ⊢
      refine (bare_ev _).bind ?_
      simp only [toList_str]
      by_cases h1 : s.takeWhile isL = []
      · simp only [if_pos h1]
        exact Ev.now _
      · simp only [if_neg h1] at hle ⊢
        simp only [starts_61, Option.bind_some]
        have hb1 : (bareL (s.dropWhile isL)).length ≤ s.length := Nat.le_trans (bareL_le _) (dropW_le _ _)
        cases h2 : bareL (s.dropWhile isL) with
        | nil =>
          simp only [hd, Bool.false_eq_true, if_false]
          exact Ev.now _
        | cons c r =>
          rw [h2, List.length_cons] at hb1
          rw [h2] at hle
          by_cases h3 : c = 61
          · have : hd 61 (c :: r) = true := by rw [h3]; rfl
            simp only [this, if_true, if_pos (one_le c r), tail_str, if_pos h3]
            simp only [if_pos h3] at hle
            have hb2 := bareL_le r
            refine (bare_ev r).bind ((unq_ev (bareL r) (by omega)).1.bind ?_)
            obtain ⟨u1, u2⟩ := unquoteL_le (bareL r)
            by_cases h4 : (unquoteL (bareL r)).2.2 = 0
            · simp only [if_pos h4] at hle ⊢
              obtain ⟨z1, z2, z3⟩ := hle _ _ rfl
              generalize hx : (⟨str (s.takeWhile isL), str (unquoteL (bareL r)).1⟩ : Lab) = x at *
              have e4 : (0 : Int) ≤ ((unquoteL (bareL r)).2.1 : Int) := by omega
              have e5 : ((unquoteL (bareL r)).2.1 : Int) ≤ ((str (bareL r)).size : Int) := by rw [size_str]; omega
              simp only [if_pos e3, Option.bind_some, if_pos e4, if_pos e5, Int.toNat_natCast, drop_str]
              refine (bare_ev _).bind ?_
              simp only [starts_44, starts_125, Option.bind_some]
              have hs' : Sm (acc ++ [x]) := Sm.more (n := 0) hs (by omega) (by omega) (by omega)
              cases h5 : bareL ((bareL r).drop (unquoteL (bareL r)).2.1) with
              | nil =>
                simp only [hd, Bool.false_eq_true, if_false]
                exact Ev.now _
              | cons e r' =>
                rw [h5] at z1
                rw [List.length_cons] at z1
                have hb3 := bareL_le r'
                by_cases h6 : e = 44
                · have : hd 44 (e :: r') = true := by rw [h6]; rfl
                  simp only [this, if_true, if_pos (one_le e r'), tail_str, if_pos h6]
                  refine (bare_ev r').bind ?_
                  exact Parse_l0 d (bareL r') (acc ++ [x]) (by omega) (by simp; omega) hs'
                · have : hd 44 (e :: r') = false := by simpa [hd] using h6
                  simp only [this, Bool.false_eq_true, if_false, if_neg h6]
                  by_cases h7 : e = 125
                  · have : hd 125 (e :: r') = true := by rw [h7]; rfl
                    simp only [this, if_true, if_pos (one_le e r'), tail_str, if_pos h7]
                    exact end_ev r' (acc ++ [x]) hs'
                  · have : hd 125 (e :: r') = false := by simpa [hd] using h7
                    simp only [this, Bool.false_eq_true, if_false, if_neg h7]
                    exact Ev.now _
            · simp only [if_neg h4]
              exact Ev.now _
          · have : hd 61 (c :: r) = false := by simpa [hd] using h3
            simp only [this, Bool.false_eq_true, if_false, if_neg h3]
            exact Ev.now _
    cases s with
    | nil =>
      have h := key rfl
      simp only [hd, Bool.false_eq_true, if_false]
      exact h
    | cons b s =>
      by_cases h1 : b = 125
      · have : hd 125 (b :: s) = true := by rw [h1]; rfl
        simp only [this, if_true, if_pos (one_le b s), tail_str, if_pos h1]
        exact end_ev s acc hs
      · have h0 : hd 125 (b :: s) = false := by simpa [hd] using h1
        have h := key h0
        simp only [h0, Bool.false_eq_true, if_false, if_neg h1]
        exact h
def parse (s : Str) : List Lab × Int := match bareL s with
  | [] => ([], 8)
  | b :: s' => if b = 123 then parseL (s.length + 1) (bareL s') [] else ([], 8)
theorem Sm.nil : Sm [] := ⟨by simp, fun x hx => by simp at hx⟩
theorem Parse_ev (s : Str) (hs : s.length ≤ 100000) : Ev (fun k => labels_Parse.f k (str s)) (parse s) := by
  unfold labels_Parse.f parse
  refine (bare_ev s).bind ?_
  simp only [starts_123, Option.bind_some]
  have hb := bareL_le s
  cases h : bareL s with
  | nil =>
    simp only [hd, Bool.false_eq_true, if_false]
    exact Ev.now _
  | cons b r =>
    rw [h, List.length_cons] at hb
    by_cases h1 : b = 123
    · have : hd 123 (b :: r) = true := by rw [h1]; rfl
      simp only [this, if_true, if_pos (one_le b r), tail_str, if_pos h1]
      refine (bare_ev r).bind ?_
      have hb2 := bareL_le r
      exact Parse_l0 _ _ [] (by omega) (by simp; omega) Sm.nil
    · have : hd 123 (b :: r) = false := by simpa [hd] using h1
      simp only [this, Bool.false_eq_true, if_false, if_neg h1]
      exact Ev.now _
end Go.Proofs.YtdhmabofncbohaaDoor.Pu
end
section
namespace Go.Proofs.YtdhmabofncbohaaDoor.Pu
open Go Go.RowKit Go.Proofs.YtdhmabofncbohaaDoor Go.Proofs.YtdhmabofncbohaaDoor.PLB Go.Proofs.YtdhmabofncbohaaDoorW.PrintWords Go.Proofs.YtdhmabofncbohaaDoorW.PrintLast Go.Proofs.YtdhmabofncbohaaDoorW.PrintMore
set_option linter.unusedVariables false
set_option linter.unusedSimpArgs false
def item (x : Lab) : Str := B x.f0 ++ 61 :: quoteL (B x.f1)
def tailB (l : List Lab) : Str := l.flatMap fun x => 44 :: 32 :: item x
def bodyB : List Lab → Str
  | [] => []
  | x :: l => item x ++ tailB l
def printL (l : List Lab) : Str := 123 :: (bodyB l ++ [125])
theorem quoteL_le (l : Str) : (quoteL l).length ≤ 2 * l.length + 2 := by
  unfold quoteL
  have : (l.flatMap esc).length ≤ 2 * l.length := by
    induction l with
    | nil => simp
    | cons c l ih =>
      rw [List.flatMap_cons, List.length_append, List.length_cons]
      have := esc_length c
      omega
  simp only [List.length_append, List.length_cons, List.length_nil]
  omega
theorem quo_ev (s : ByteArray) (hs : s.size ≤ 1000000) : Ev (fun k => labels_Quote.f k s) (str (quoteL (B s))) ∧ Ev (fun k => manometerref05_Quote.f k s) (str (quoteL (B s))) := Quote_ev s (by omega)
theorem Print_pos (l : List Lab) (hs : Sm l) : ∀ (d n : Nat) (acc : ByteArray), n + d = l.length → 0 < n → acc.size ≤ 1000000 * n → Ev (fun k => labels_Print.l0 k acc l (l.length : Int) (n : Int)) (str (B acc ++ tailB (l.drop n) ++ [125])) ∧ Ev (fun k => manometerref05_Print.l0 k acc l (l.length : Int) (n : Int)) (str (B acc ++ tailB (l.drop n) ++ [125]))
  | d, n, acc, hd, hn, ha => by
    have hl := hs.1
    by_cases hlt : n < l.length
    · obtain ⟨d, rfl⟩ : ∃ e, d = e + 1 := ⟨d - 1, by omega⟩
      obtain ⟨s0, s1⟩ := hs.at n hlt
      rw [dropS l n hlt]
      have e1 : (n : Int) < (l.length : Int) := by omega
      have e2 : (0 : Int) ≤ (n : Int) := by omega
      have e3 : (n : Int) > 0 := by omega
      obtain ⟨q1, q2⟩ := quo_ev (l.getD n z44).f1 (by omega)
      have ih := Print_pos l hs d (n + 1)
      have hq := quoteL_le (B (l.getD n z44).f1)
      rw [B_length] at hq
      have es : ∀ x : Lab, tailB (x :: l.drop (n + 1)) = 44 :: 32 :: item x ++ tailB (l.drop (n + 1)) := fun x => by unfold tailB; rw [List.flatMap_cons]
      generalize hx : l.getD n z44 = x at *
      have m1 : (acc ++ (⟨#[44, 32]⟩ : ByteArray)).size = acc.size + 2 := by rw [ByteArray.size_append]; rfl
      have m2 : (x.f0 ++ (⟨#[61]⟩ : ByteArray)).size = x.f0.size + 1 := by rw [ByteArray.size_append]; rfl
      have m3 := size_str (quoteL (B x.f1))
      have m4 : ((x.f0 ++ (⟨#[61]⟩ : ByteArray)) ++ str (quoteL (B x.f1))).size = x.f0.size + 1 + (quoteL (B x.f1)).length := by rw [ByteArray.size_append, m2, m3]
      have m5 : ((acc ++ (⟨#[44, 32]⟩ : ByteArray)) ++ ((x.f0 ++ (⟨#[61]⟩ : ByteArray)) ++ str (quoteL (B x.f1)))).size = acc.size + 2 + (x.f0.size + 1 + (quoteL (B x.f1)).length) := by rw [ByteArray.size_append, m1, m4]
      have c1 : acc.size + 2 ≤ 9223372036854775807 := by omega
      have c2 : x.f0.size + 1 ≤ 9223372036854775807 := by omega
      have c3 : (x.f0 ++ (⟨#[61]⟩ : ByteArray)).size + (str (quoteL (B x.f1))).size ≤ 9223372036854775807 := by rw [m2, m3]; omega
      have c4 : (acc ++ (⟨#[44, 32]⟩ : ByteArray)).size + ((x.f0 ++ (⟨#[61]⟩ : ByteArray)) ++ str (quoteL (B x.f1))).size ≤ 9223372036854775807 := by rw [m1, m4]; omega
      obtain ⟨i1, i2⟩ := ih ((acc ++ (⟨#[44, 32]⟩ : ByteArray)) ++ ((x.f0 ++ (⟨#[61]⟩ : ByteArray)) ++ str (quoteL (B x.f1)))) (by omega) (by omega) (by rw [m5]; omega)
      have eb : B ((acc ++ (⟨#[44, 32]⟩ : ByteArray)) ++ ((x.f0 ++ (⟨#[61]⟩ : ByteArray)) ++ str (quoteL (B x.f1)))) ++ tailB (l.drop (n + 1)) ++ [125] = B acc ++ tailB (x :: l.drop (n + 1)) ++ [125] := by
        rw [es]
        unfold item
        simp only [B_append, B_str, B_mk]
        simp
      rw [eb] at i1 i2
      constructor
      · refine Ev.step (f := _) (fun k => by simp only [labels_Print.l0]; rfl) ?_
        simp only [if_pos e1, if_pos e2, if_pos e3, rdn, hx, if_pos c1, if_pos c2, w1 n (by omega)]
        refine q1.bind ?_
        simp only [if_pos c3, if_pos c4]
        exact i1
      · refine Ev.step (f := _) (fun k => by simp only [manometerref05_Print.l0]; rfl) ?_
        simp only [if_pos e1, if_pos e2, if_pos e3, rdn, hx, if_pos c1, if_pos c2, w1 n (by omega)]
        refine q2.bind ?_
        simp only [if_pos c3, if_pos c4]
        exact i2
    · rw [List.drop_of_length_le (by omega)]
      have c1 : acc.size + 1 ≤ 9223372036854775807 := by omega
      have e1 : ¬ (n : Int) < (l.length : Int) := by omega
      have eb : str (B acc ++ tailB [] ++ [125]) = acc ++ (⟨#[125]⟩ : ByteArray) := B_inj (by rw [B_str, B_append]; unfold tailB; simp [B])
      rw [eb]
      constructor
      · refine Ev.step (f := _) (fun k => by simp only [labels_Print.l0]; rfl) ?_
        simp only [if_neg e1, if_pos c1]
        exact Ev.now _
      · refine Ev.step (f := _) (fun k => by simp only [manometerref05_Print.l0]; rfl) ?_
        simp only [if_neg e1, if_pos c1]
        exact Ev.now _
theorem Print_ev (l : List Lab) (hs : Sm l) : Ev (fun k => labels_Print.f k l) (str (printL l)) ∧ Ev (fun k => manometerref05_Print.f k l) (str (printL l)) := by
  have hl := hs.1
  unfold labels_Print.f manometerref05_Print.f
  cases l with
  | nil =>
    constructor
    · refine Ev.step (f := _) (fun k => by simp only [labels_Print.l0]; rfl) ?_
      exact Ev.now _
    · refine Ev.step (f := _) (fun k => by simp only [manometerref05_Print.l0]; rfl) ?_
      exact Ev.now _
  | cons x l =>
    obtain ⟨s0, s1⟩ := hs.2 x List.mem_cons_self
    have e1 : (0 : Int) < ((x :: l).length : Int) := by rw [List.length_cons]; omega
    obtain ⟨q1, q2⟩ := quo_ev x.f1 (by omega)
    have hq := quoteL_le (B x.f1)
    rw [B_length] at hq
    have er : rd_T44 (x :: l) 0 = x := rfl
    have m1 : ((⟨#[123]⟩ : ByteArray)).size = 1 := rfl
    have m2 : (x.f0 ++ (⟨#[61]⟩ : ByteArray)).size = x.f0.size + 1 := by rw [ByteArray.size_append]; rfl
    have m3 := size_str (quoteL (B x.f1))
    have m4 : ((x.f0 ++ (⟨#[61]⟩ : ByteArray)) ++ str (quoteL (B x.f1))).size = x.f0.size + 1 + (quoteL (B x.f1)).length := by rw [ByteArray.size_append, m2, m3]
    have m5 : ((⟨#[123]⟩ : ByteArray) ++ ((x.f0 ++ (⟨#[61]⟩ : ByteArray)) ++ str (quoteL (B x.f1)))).size = 1 + (x.f0.size + 1 + (quoteL (B x.f1)).length) := by rw [ByteArray.size_append, m1, m4]
    have c2 : x.f0.size + 1 ≤ 9223372036854775807 := by omega
    have c3 : (x.f0 ++ (⟨#[61]⟩ : ByteArray)).size + (str (quoteL (B x.f1))).size ≤ 9223372036854775807 := by rw [m2, m3]; omega
    have c4 : ((⟨#[123]⟩ : ByteArray)).size + ((x.f0 ++ (⟨#[61]⟩ : ByteArray)) ++ str (quoteL (B x.f1))).size ≤ 9223372036854775807 := by rw [m1, m4]; omega
    have ew : wrap64 ((0 : Int) + 1) = ((1 : Nat) : Int) := wn (by decide) (by decide)
    obtain ⟨i1, i2⟩ := Print_pos (x :: l) hs l.length 1 ((⟨#[123]⟩ : ByteArray) ++ ((x.f0 ++ (⟨#[61]⟩ : ByteArray)) ++ str (quoteL (B x.f1)))) (by rw [List.length_cons]; omega) (by omega) (by rw [m5]; omega)
    have eb : B ((⟨#[123]⟩ : ByteArray) ++ ((x.f0 ++ (⟨#[61]⟩ : ByteArray)) ++ str (quoteL (B x.f1)))) ++ tailB ((x :: l).drop 1) ++ [125] = printL (x :: l) := by
      unfold printL bodyB item
      simp only [B_append, B_str, B_mk]
      simp
    rw [eb] at i1 i2
    constructor
    · refine Ev.step (f := _) (fun k => by simp only [labels_Print.l0]; rfl) ?_
      simp only [if_pos e1, if_pos (Int.le_refl 0), if_neg (show ¬ (0 : Int) > 0 by omega), er, if_pos c2, ew]
      refine q1.bind ?_
      simp only [if_pos c3, if_pos c4]
      exact i1
    · refine Ev.step (f := _) (fun k => by simp only [manometerref05_Print.l0]; rfl) ?_
      simp only [if_pos e1, if_pos (Int.le_refl 0), if_neg (show ¬ (0 : Int) > 0 by omega), er, if_pos c2, ew]
      refine q2.bind ?_
      simp only [if_pos c3, if_pos c4]
      exact i2
theorem unq_esc : ∀ (s acc rest : Str) (n : Nat), unq acc n (s.flatMap esc ++ 34 :: rest) = (acc ++ s, n + (s.flatMap esc).length + 1, 0)
  | [], acc, rest, n => by
    rw [List.flatMap_nil, List.nil_append]
    unfold unq
    simp
  | c :: s, acc, rest, n => by
    rw [List.flatMap_cons, List.append_assoc]
    by_cases h1 : c = 34 ∨ c = 92
    · have e : esc c = [92, c] := by unfold esc; rw [if_pos h1]
      rw [e]
      have e2 : unq acc n ([92, c] ++ (s.flatMap esc ++ 34 :: rest)) = unq (acc ++ [c]) (n + 2) (s.flatMap esc ++ 34 :: rest) := by
        conv => lhs; unfold unq
        simp only [List.cons_append, List.nil_append, show ¬ (92 : UInt8) = 34 by decide, show ¬ (92 : UInt8) = 10 by decide, if_false, if_true, if_pos h1]
      rw [e2, unq_esc s (acc ++ [c]) rest (n + 2)]
      simp
      omega
    · by_cases h2 : c = 10
      · have e : esc c = [92, 110] := by unfold esc; rw [if_neg h1, if_pos h2]
        rw [e]
        have e2 : unq acc n ([92, 110] ++ (s.flatMap esc ++ 34 :: rest)) = unq (acc ++ [10]) (n + 2) (s.flatMap esc ++ 34 :: rest) := by
          conv => lhs; unfold unq
          simp only [List.cons_append, List.nil_append, show ¬ (92 : UInt8) = 34 by decide, show ¬ (92 : UInt8) = 10 by decide, if_false, if_true, show ¬ ((110 : UInt8) = 34 ∨ (110 : UInt8) = 92) by decide]
        rw [e2, unq_esc s (acc ++ [10]) rest (n + 2), h2]
        simp
        omega
      · have e : esc c = [c] := by unfold esc; rw [if_neg h1, if_neg h2]
        rw [e]
        have h3 : ¬ c = 34 := fun h => h1 (.inl h)
        have h4 : ¬ c = 92 := fun h => h1 (.inr h)
        have e2 : unq acc n ([c] ++ (s.flatMap esc ++ 34 :: rest)) = unq (acc ++ [c]) (n + 1) (s.flatMap esc ++ 34 :: rest) := by
          conv => lhs; unfold unq
          simp only [List.cons_append, List.nil_append, if_neg h3, if_neg h2, if_neg h4]
        rw [e2, unq_esc s (acc ++ [c]) rest (n + 1)]
        simp
        omega
theorem unquote_quote (s rest : Str) : unquoteL (quoteL s ++ rest) = (s, (quoteL s).length, 0) := by
  unfold quoteL
  have e : [34] ++ s.flatMap esc ++ [34] ++ rest = 34 :: (s.flatMap esc ++ 34 :: rest) := by simp
  rw [e]
  show (if (34 : UInt8) = 34 then unq [] 1 (s.flatMap esc ++ 34 :: rest) else ([], 0, 8)) = _
  rw [if_pos rfl, unq_esc]
  simp
  omega
theorem bare_ne (c : UInt8) (l : Str) (h : ¬ c = 32) : bareL (c :: l) = c :: l := by
  unfold bareL
  rw [List.dropWhile_cons]
  have : (c == 32) = false := by simpa using h
  rw [this]
  rfl
theorem letters_split (a rest : Str) (ha : ∀ b ∈ a, isL b = true) : (a ++ 61 :: rest).takeWhile isL = a ∧ (a ++ 61 :: rest).dropWhile isL = 61 :: rest := by
  induction a with
  | nil =>
    have h : isL 61 = false := by decide
    simp [List.takeWhile_cons, List.dropWhile_cons, h]
  | cons c a ih =>
    have hc := ha c List.mem_cons_self
    obtain ⟨i1, i2⟩ := ih fun b hb => ha b (List.mem_cons_of_mem _ hb)
    rw [List.cons_append, List.takeWhile_cons, List.dropWhile_cons, hc]
    simp only [if_true, i1, i2]
    exact ⟨trivial, trivial⟩
theorem pair_item (x : Lab) (rest : Str) (hw : wrongB false x = 0) (hr : bareL rest = rest) : pairL (item x ++ rest) = some (x, rest) := by
  have hn : namedB (B x.f0) = true := by
    unfold wrongB at hw
    split at hw
    · next h => exact h
    · cases hw
  obtain ⟨n1, n2, n3, n4⟩ := namedB_letters hn
  unfold pairL item
  obtain ⟨e1, e2⟩ := letters_split (B x.f0) (quoteL (B x.f1) ++ rest) n3
  rw [List.append_assoc, List.cons_append, e1, e2, if_neg n1, bare_ne 61 _ (by decide)]
  have e3 : bareL (quoteL (B x.f1) ++ rest) = quoteL (B x.f1) ++ rest := by
    have : quoteL (B x.f1) ++ rest = 34 :: ((B x.f1).flatMap esc ++ [34] ++ rest) := by unfold quoteL; simp
    rw [this]
    exact bare_ne 34 _ (by decide)
  simp only [if_true, e3, unquote_quote]
  rw [List.drop_left, hr, str_B, str_B]
theorem item_head (x : Lab) (hw : wrongB false x = 0) : ∃ c r, item x = c :: r ∧ isL c = true := by
  have hn : namedB (B x.f0) = true := by
    unfold wrongB at hw
    split at hw
    · next h => exact h
    · cases hw
  obtain ⟨n1, n2, n3, n4⟩ := namedB_letters hn
  unfold item
  cases h : B x.f0 with
  | nil => exact absurd h n1
  | cons c a =>
    rw [h] at n3
    exact ⟨c, _, rfl, n3 c List.mem_cons_self⟩
theorem letter_not {c : UInt8} (h : isL c = true) : ¬ c = 32 ∧ ¬ c = 125 ∧ ¬ c = 123 := by
  refine ⟨?_, ?_, ?_⟩ <;> (rintro rfl; revert h; decide)
theorem parse_items : ∀ (l : List Lab) (x : Lab) (acc : List Lab) (d : Nat), l.length < d → (∀ z ∈ x :: l, wrongB false z = 0) → parseL d (item x ++ (tailB l ++ [125])) acc = makeB (acc ++ x :: l)
  | l, x, acc, 0, hd, _ => by omega
  | l, x, acc, d + 1, hd, hw => by
    have hx := hw x List.mem_cons_self
    obtain ⟨c, r, hc, hcl⟩ := item_head x hx
    have hp := pair_item x (tailB l ++ [125]) hx (by
      cases l with
      | nil => rfl
      | cons y l => unfold tailB; rw [List.flatMap_cons]; exact bare_ne 44 _ (by decide))
    rw [hc] at hp ⊢
    unfold parseL
    rw [List.cons_append] at hp ⊢
    simp only [if_neg (letter_not hcl).2.1, hp]
    cases l with
    | nil =>
      simp only [tailB, List.flatMap_nil, List.nil_append, show ¬ (125 : UInt8) = 44 by decide, if_false, if_true]
      rw [if_pos (show bareL [] = [] from rfl)]
    | cons y l =>
      have e : tailB (y :: l) ++ [125] = 44 :: 32 :: (item y ++ (tailB l ++ [125])) := by unfold tailB; rw [List.flatMap_cons]; simp
      obtain ⟨c', r', hc', hcl'⟩ := item_head y (hw y (by simp))
      have e2 : bareL (32 :: (item y ++ (tailB l ++ [125]))) = item y ++ (tailB l ++ [125]) := by
        rw [hc', List.cons_append]
        have := bare_ne c' (r' ++ (tailB l ++ [125])) (letter_not hcl').1
        unfold bareL at this ⊢
        rw [List.dropWhile_cons]
        exact this
      rw [e]
      simp only [if_true, e2]
      rw [List.length_cons] at hd
      rw [parse_items l y (acc ++ [x]) d (by omega) (fun z hz => hw z (List.mem_cons_of_mem _ hz))]
      simp
theorem parse_print (l : List Lab) (h : rightB l = 0) (d : Nat) (hd : l.length < d) : parseL d (bareL (bodyB l ++ [125])) [] = (l, 0) := by
  obtain ⟨h1, h2, h3⟩ := (right_zero l).1 h
  cases l with
  | nil =>
    obtain ⟨d, rfl⟩ : ∃ e, d = e + 1 := ⟨d - 1, by simp at hd; omega⟩
    rfl
  | cons x l =>
    obtain ⟨c, r, hc, hcl⟩ := item_head x (h2 x List.mem_cons_self)
    have e : bareL (bodyB (x :: l) ++ [125]) = item x ++ (tailB l ++ [125]) := by
      have eb : bodyB (x :: l) = item x ++ tailB l := rfl
      rw [eb, List.append_assoc, hc, List.cons_append]
      exact bare_ne c _ (letter_not hcl).1
    rw [e, parse_items l x [] d (by rw [List.length_cons] at hd; omega) h2, List.nil_append]
    exact makeB_right _ h
theorem tail_le : ∀ l : List Lab, (∀ x ∈ l, x.f0.size ≤ 400 ∧ x.f1.size ≤ 400) → l.length ≤ (tailB l).length ∧ (tailB l).length ≤ 1300 * l.length ∧ (∀ z ∈ l, (item z).length ≤ 1250)
  | [], _ => by simp [tailB]
  | z :: l, h => by
    obtain ⟨i1, i2, i3⟩ := tail_le l fun x hx => h x (List.mem_cons_of_mem _ hx)
    obtain ⟨a, b⟩ := h z List.mem_cons_self
    have hq := quoteL_le (B z.f1)
    rw [B_length] at hq
    have hi : (item z).length ≤ 1250 := by
      unfold item
      rw [List.length_append, List.length_cons, B_length]
      omega
    have e : (tailB (z :: l)).length = (item z).length + 2 + (tailB l).length := by
      unfold tailB
      rw [List.flatMap_cons, List.length_append, List.length_cons, List.length_cons]
    rw [e, List.length_cons]
    refine ⟨by omega, by omega, fun y hy => ?_⟩
    rcases List.mem_cons.1 hy with rfl | hy
    · exact hi
    · exact i3 y hy
theorem body_le (l : List Lab) (h : ∀ x ∈ l, x.f0.size ≤ 400 ∧ x.f1.size ≤ 400) (hl : l.length ≤ 16) : l.length ≤ (bodyB l).length + 1 ∧ (bodyB l).length ≤ 30000 := by
  cases l with
  | nil => simp [bodyB]
  | cons x l =>
    obtain ⟨a, b, c⟩ := tail_le l fun z hz => h z (List.mem_cons_of_mem _ hz)
    have d := (tail_le (x :: l) h).2.2 x List.mem_cons_self
    have e : bodyB (x :: l) = item x ++ tailB l := rfl
    rw [e, List.length_append]
    rw [List.length_cons] at hl ⊢
    omega
theorem told_ev (l : List Lab) (h : rightB l = 0) (hs : ∀ x ∈ l, x.f0.size ≤ 400 ∧ x.f1.size ≤ 400) : Ev (fun k => labels_Parse.f k (str (printL l))) (l, 0) := by
  obtain ⟨h1, h2, h3⟩ := (right_zero l).1 h
  obtain ⟨b1, b2⟩ := body_le l hs h1
  have hlen : (printL l).length = (bodyB l).length + 2 := by unfold printL; simp
  have hp := Parse_ev (printL l) (by omega)
  have e : parse (printL l) = (l, 0) := by
    unfold parse
    have e1 : bareL (printL l) = 123 :: (bodyB l ++ [125]) := bare_ne 123 _ (by decide)
    rw [e1]
    simp only [if_true]
    exact parse_print l h _ (by omega)
  rw [e] at hp
  exact hp
theorem labelsTold (l : List Lab) (s behind : ByteArray) : ∃ k, manometerlaw05_LabelsTold.f k l s behind = some true := by
  have hj1 : fewB l = true → Ev (fun k => manometerlaw05_LabelsTold.j1 k l false) true := by
    intro hf
    have hs := few_sm hf
    have hl := hs.1
    refine Ev.step (f := _) (fun k => by simp only [manometerlaw05_LabelsTold.j1]; rfl) ?_
    simp only [Bool.false_eq_true, if_false]
    refine (Right_ev l hs).1.bind ?_
    by_cases h : rightB l = 0
    · simp only [if_pos h]
      refine (Print_ev l hs).1.bind ?_
      refine (told_ev l h (few_of hf).2).bind ?_
      have hm := (Make_ev l hs).1
      rw [makeB_right l h] at hm
      refine hm.bind ?_
      simp only [if_true]
      refine (Same_ev l l (by omega)).1.bind ?_
      simp only [sameB_refl, if_true]
      refine (Same_ev l l (by omega)).1.bind ?_
      simp only [sameB_refl]
      exact Ev.now _
    · simp only [if_neg h]
      exact Ev.now _
  have hj : ∀ z : Bool, (z = false → fewB l = true ∧ s.size ≤ 2000 ∧ behind.size ≤ 2000) → Ev (fun k => manometerlaw05_LabelsTold.j0 k l s behind z) true := by
    intro z hz
    refine Ev.step (f := _) (fun k => by simp only [manometerlaw05_LabelsTold.j0]; rfl) ?_
    cases z with
    | true =>
      simp only [if_true]
      exact live_ev.bind (Ev.now _)
    | false =>
      obtain ⟨h1, h2, h3⟩ := hz rfl
      simp only [Bool.false_eq_true, if_false]
      refine (quo_ev s (by omega)).1.bind ?_
      have hq := quoteL_le (B s)
      rw [B_length] at hq
      have m := size_str (quoteL (B s))
      have c1 : (str (quoteL (B s))).size + behind.size ≤ 9223372036854775807 := by omega
      simp only [if_pos c1]
      have eb : str (quoteL (B s)) ++ behind = str (quoteL (B s) ++ B behind) := B_inj (by rw [B_append, B_str, B_str])
      have hu := (unq_ev (quoteL (B s) ++ B behind) (by rw [List.length_append, B_length]; omega)).1
      rw [unquote_quote, ← eb] at hu
      refine hu.bind ?_
      simp only [str_B, m, if_true]
      have e0 : ((0 : Int) != 0) = false := rfl
      simp only [e0]
      exact hj1 h1
  refine Ev.rounds ?_
  unfold manometerlaw05_LabelsTold.f
  refine live_ev.bind ?_
  simp only [if_true]
  refine (few_ev l).bind ?_
  cases h1 : fewB l with
  | false => exact hj true (by simp)
  | true =>
    simp only [if_true]
    by_cases h2 : (s.size : Int) > 2000
    · simp only [if_pos h2]
      exact hj true (by simp)
    · simp only [if_neg h2]
      exact hj _ (fun h => ⟨h1, by omega, by have := of_decide_eq_false h; omega⟩)
end Go.Proofs.YtdhmabofncbohaaDoor.Pu
end
section
namespace Go.Proofs.YtdhmabofncbohaaDoor
open Go.RowKit Go.Proofs.YtdhmabofncbohaaDoorW.PrintWords Go.Proofs.YtdhmabofncbohaaDoorW.PrintMore Go.Proofs.YtdhmabofncbohaaDoorW.PrintLast Go.Deep
set_option linter.unusedVariables false
section
variable {H : Type} {enc : TypeId × Value → H} {P : Program} {w : World} {base : Nat} {spare : Nat → Bool} {held : Bool}
theorem opens_iso {α β : Type} {d : Kd α} {wf : α → Prop} {t : TypeId} (f : β → α) (g : α → β) (hg : ∀ y, f (g y) = y) (h : Opens enc P w base spare held t d wf) :
    Opens enc P w base spare held t (Kd.iso d f) (fun x => wf (f x)) := by
  intro fuel cs x hx
  obtain ⟨a, hK, hw⟩ := h fuel cs x hx
  refine ⟨g a, ?_, ?_⟩
  · show d.K w (f (g a)) cs
    rw [hg]
    exact hK
  · show wf (f (g a))
    rw [hg]
    exact hw
end
end Go.Proofs.YtdhmabofncbohaaDoor
end
