import Derived.Test.YtdhmabofncbohaaDoorCLabelsToldPLBx15
import Derived.Test.YtdhmabofncbohaaDoorCLabelsToldPLBx14
import Derived.Test.YtdhmabofncbohaaDoorCLabelsToldPLBx13
import Derived.Test.YtdhmabofncbohaaDoorCLabelsToldPLBx3
namespace Go.Proofs.YtdhmabofncbohaaDoor.Pu
open Go Go.RowKit Go.Proofs.YtdhmabofncbohaaDoor Go.Proofs.YtdhmabofncbohaaDoor.PLB Go.Proofs.YtdhmabofncbohaaDoorW.PrintWords Go.Proofs.YtdhmabofncbohaaDoorW.PrintLast Go.Proofs.YtdhmabofncbohaaDoorW.PrintMore
set_option linter.unusedVariables false
set_option linter.unusedSimpArgs false
def Sm (l : List Lab) : Prop := l.length ≤ 100000 ∧ ∀ x ∈ l, x.f0.size ≤ 100000 ∧ x.f1.size ≤ 100000
theorem Sm.at {l : List Lab} (h : Sm l) (n : Nat) (hn : n < l.length) : (l.getD n z44).f0.size ≤ 100000 ∧ (l.getD n z44).f1.size ≤ 100000 := by
  rw [List.getD_eq_getElem?_getD, List.getElem?_eq_getElem hn]
  exact h.2 _ (List.getElem_mem hn)
theorem few_sm {l : List Lab} (h : fewB l = true) : Sm l := ⟨by have := (few_of h).1; omega, fun x hx => by have := (few_of h).2 x hx; omega⟩
def wrongB (e : Bool) (x : Lab) : Int := if namedB (B x.f0) = true then (if valuedB (B x.f1) = true then (if e = true then 0 else (if B x.f1 = [] then 51 else 0)) else 51) else 50
theorem wrong_f (x : Lab) (e : Bool) (h0 : x.f0.size ≤ 100000) (h1 : x.f1.size ≤ 100000) : labels_wrong.f x.f0 x.f1 e = some (wrongB e x) := by
  unfold labels_wrong.f wrongB
  rw [pNamed_f _ (by omega), pValued_f _ (by omega), toList_B]
  simp only [Option.bind_some]
  split <;> (try rfl)
  split <;> (try rfl)
  split <;> (try rfl)
  split <;> rfl
def rgt : Option Str → List Lab → Int
  | _, [] => 0
  | p, x :: l => if wrongB false x = 0 then (if (match p with | none => false | some q => Op.bytesLess (B x.f0) q || decide (B x.f0 = q)) = true then 53 else rgt (some (B x.f0)) l) else wrongB false x
def pv (l : List Lab) (n : Nat) : Option Str := if n = 0 then none else some (B (l.getD (n - 1) z44).f0)
def rightB (l : List Lab) : Int := if l.length ≤ 16 then rgt none l else 3
theorem wm1 (n : Nat) (h : n ≤ 9000000000000000000) : wrap64 (((n + 1 : Nat) : Int) - 1) = (n : Int) := wn (by omega) (by omega)
theorem Right_l0 (l : List Lab) (hs : Sm l) : ∀ (d n : Nat), n + d = l.length →
    Ev (fun k => labels_Right.l0 k l l (l.length : Int) (n : Int)) (rgt (pv l n) (l.drop n))
  | d, n, hd => by
    have hl := hs.1
    refine Ev.step (f := _) (fun k => by simp only [labels_Right.l0]; rfl) ?_
    by_cases hlt : n < l.length
    · obtain ⟨d, rfl⟩ : ∃ e, d = e + 1 := ⟨d - 1, by omega⟩
      have ih := Right_l0 l hs d (n + 1) (by omega)
      obtain ⟨s0, s1⟩ := hs.at n hlt
      have hp : pv l (n + 1) = some (B (l.getD n z44).f0) := by unfold pv; rw [if_neg (by omega)]; rfl
      rw [hp] at ih
      rw [dropS l n hlt]
      have e1 : (n : Int) < (l.length : Int) := by omega
      have e2 : (0 : Int) ≤ (n : Int) := by omega
      simp only [if_pos e1, if_pos e2, rdn, w1 n (by omega), wrong_f _ _ s0 s1, Option.bind_some, rgt]
      by_cases hw : wrongB false (l.getD n z44) = 0
      · simp only [if_pos hw]
        cases n with
        | zero =>
          simp only [if_neg (show ¬ ((0 : Nat) : Int) > 0 by omega)]
          exact ih
        | succ m =>
          have hq : pv l (m + 1) = some (B (l.getD m z44).f0) := by unfold pv; rw [if_neg (by omega)]; rfl
          have e3 : ((m + 1 : Nat) : Int) > 0 := by omega
          have e4 : (0 : Int) ≤ (m : Int) := by omega
          have e5 : (m : Int) < (l.length : Int) := by omega
          simp only [if_pos e3, wm1 m (by omega), if_pos e4, if_pos e5, rdn, hq, toList_B]
          by_cases h1 : Op.bytesLess (B (l.getD (m + 1) z44).f0) (B (l.getD m z44).f0) = true
          · simp only [h1, if_true, Bool.true_or]
            exact Ev.now _
          · have h1' : Op.bytesLess (B (l.getD (m + 1) z44).f0) (B (l.getD m z44).f0) = false := by simpa using h1
            simp only [h1', Bool.false_eq_true, if_false, Bool.false_or, decide_eq_true_eq]
            by_cases h2 : B (l.getD (m + 1) z44).f0 = B (l.getD m z44).f0
            · simp only [if_pos h2]
              exact Ev.now _
            · simp only [if_neg h2]
              exact ih
      · simp only [if_neg hw]
        exact Ev.now _
    · rw [List.drop_of_length_le (by omega)]
      simp only [if_neg (show ¬ (n : Int) < (l.length : Int) by omega)]
      exact Ev.now _
theorem RRight_l0 (l : List Lab) (hs : Sm l) : ∀ (d n : Nat), n + d = l.length →
    Ev (fun k => manometerref05_Right.l0 k l l (l.length : Int) (n : Int)) (rgt (pv l n) (l.drop n))
  | d, n, hd => by
    have hl := hs.1
    refine Ev.step (f := _) (fun k => by simp only [manometerref05_Right.l0]; rfl) ?_
    by_cases hlt : n < l.length
    · obtain ⟨d, rfl⟩ : ∃ e, d = e + 1 := ⟨d - 1, by omega⟩
      have ih := RRight_l0 l hs d (n + 1) (by omega)
      obtain ⟨s0, s1⟩ := hs.at n hlt
      have hp : pv l (n + 1) = some (B (l.getD n z44).f0) := by unfold pv; rw [if_neg (by omega)]; rfl
      rw [hp] at ih
      rw [dropS l n hlt]
      have e1 : (n : Int) < (l.length : Int) := by omega
      have e2 : (0 : Int) ≤ (n : Int) := by omega
      simp only [if_pos e1, if_pos e2, rdn, rgt, wrongB]
      refine Ev.bind (Named_ev _ (by omega)) ?_
      by_cases hn : namedB (B (l.getD n z44).f0) = true
      · simp only [if_pos hn]
        refine Ev.bind (Valued_ev _ (by omega)) ?_
        have j1t : Ev (fun k => manometerref05_Right.j1 k l (n : Int) l (l.length : Int) (n : Int) true (l.getD n z44).f0 (l.getD n z44).f1) 51 := by
          refine Ev.step (f := _) (fun k => by simp only [manometerref05_Right.j1]; rfl) ?_
          simp only [if_true]
          exact Ev.now _
        by_cases hv : valuedB (B (l.getD n z44).f1) = true
        · simp only [if_pos hv, toList_B, Bool.false_eq_true, if_false]
          by_cases he : B (l.getD n z44).f1 = []
          · have : (B (l.getD n z44).f1 == ([] : Str)) = true := by rw [he]; rfl
            simp only [this, if_pos he, if_neg (show ¬ (51 : Int) = 0 by omega)]
            exact j1t
          · have : (B (l.getD n z44).f1 == ([] : Str)) = false := by simpa using he
            simp only [this, if_neg he, if_true]
            refine Ev.step (f := _) (fun k => by simp only [manometerref05_Right.j1]; rfl) ?_
            simp only [Bool.false_eq_true, if_false, w1 n (by omega)]
            cases n with
            | zero =>
              simp only [if_neg (show ¬ ((0 : Nat) : Int) > 0 by omega)]
              exact ih
            | succ m =>
              have hq : pv l (m + 1) = some (B (l.getD m z44).f0) := by unfold pv; rw [if_neg (by omega)]; rfl
              have e3 : ((m + 1 : Nat) : Int) > 0 := by omega
              have e4 : (0 : Int) ≤ (m : Int) := by omega
              have e5 : (m : Int) < (l.length : Int) := by omega
              simp only [if_pos e3, wm1 m (by omega), if_pos e4, if_pos e5, rdn, hq, toList_B]
              by_cases h1 : Op.bytesLess (B (l.getD (m + 1) z44).f0) (B (l.getD m z44).f0) = true
              · simp only [h1, if_true, Bool.true_or]
                exact Ev.now _
              · have h1' : Op.bytesLess (B (l.getD (m + 1) z44).f0) (B (l.getD m z44).f0) = false := by simpa using h1
                simp only [h1', Bool.false_eq_true, if_false, Bool.false_or, decide_eq_true_eq]
                by_cases h2 : B (l.getD (m + 1) z44).f0 = B (l.getD m z44).f0
                · simp only [if_pos h2]
                  exact Ev.now _
                · simp only [if_neg h2]
                  exact ih
        · simp only [if_neg hv, if_neg (show ¬ (51 : Int) = 0 by omega)]
          exact j1t
      · simp only [if_neg hn, if_neg (show ¬ (50 : Int) = 0 by omega)]
        exact Ev.now _
    · rw [List.drop_of_length_le (by omega)]
      simp only [if_neg (show ¬ (n : Int) < (l.length : Int) by omega)]
      exact Ev.now _
theorem Right_ev (l : List Lab) (hs : Sm l) : Ev (fun k => labels_Right.f k l) (rightB l) ∧ Ev (fun k => manometerref05_Right.f k l) (rightB l) := by
  unfold labels_Right.f manometerref05_Right.f rightB
  by_cases h : l.length ≤ 16
  · simp only [if_neg (show ¬ (l.length : Int) > 16 by omega), if_pos h]
    exact ⟨Right_l0 l hs l.length 0 (by omega), RRight_l0 l hs l.length 0 (by omega)⟩
  · simp only [if_pos (show (l.length : Int) > 16 by omega), if_neg h]
    exact ⟨Ev.now _, Ev.now _⟩
abbrev lt (a b : ByteArray) : Prop := Op.bytesLess (B a) (B b) = true
theorem lt_irrefl (a : ByteArray) : ¬ lt a a := by unfold lt; rw [less_irrefl]; decide
theorem lt_trans {a b c : ByteArray} (h : lt a b) (h' : lt b c) : lt a c := less_trans h h'
theorem lt_total {a b : ByteArray} (h : ¬ lt a b) (h' : ¬ lt b a) : a = b := B_inj (less_total (by simpa using h) (by simpa using h'))
def ins (out : List Lab) (x : Lab) : List Lab := out.takeWhile (fun z => decide (lt z.f0 x.f0)) ++ x :: out.dropWhile (fun z => decide (lt z.f0 x.f0))
theorem ins_app (X Y : List Lab) (x : Lab) (h : ∀ z ∈ X, lt z.f0 x.f0) (h' : ∀ z ∈ Y, ¬ lt z.f0 x.f0) : ins (X ++ Y) x = X ++ x :: Y := by
  unfold ins
  have h1 : (X ++ Y).takeWhile (fun z => decide (lt z.f0 x.f0)) = X := by
    induction X with
    | nil => cases Y with
      | nil => rfl
      | cons y Y => simp [List.takeWhile_cons, h' y (List.mem_cons_self)]
    | cons a X ih => simp only [List.cons_append, List.takeWhile_cons, decide_eq_true (h a List.mem_cons_self), if_true, ih (fun z hz => h z (List.mem_cons_of_mem _ hz))]
  have h2 : (X ++ Y).dropWhile (fun z => decide (lt z.f0 x.f0)) = Y := by
    induction X with
    | nil => cases Y with
      | nil => rfl
      | cons y Y => simp [List.dropWhile_cons, h' y (List.mem_cons_self)]
    | cons a X ih =>
      have e := ih (fun z hz => h z (List.mem_cons_of_mem _ hz)) (by
        have := congrArg List.tail h1
        simpa only [List.cons_append, List.takeWhile_cons, decide_eq_true (h a List.mem_cons_self), if_true, List.tail_cons] using this)
      simp only [List.cons_append, List.dropWhile_cons, decide_eq_true (h a List.mem_cons_self), if_true, e]
  rw [h1, h2]
theorem put_l0 (x : Lab) : ∀ (l acc : List Lab), l.length + acc.length ≤ 1000000 → Ev (fun k => manometerref05_put.l0 k l acc x.f0 x.f1) (acc ++ ins l x)
  | [], acc, h => by
    refine Ev.step (f := _) (fun k => by simp only [manometerref05_put.l0]; rfl) ?_
    have h' : acc.length ≤ 1000000 := by simpa using h
    have e1 : acc.length < 4398046511104 := by omega
    have e2 : (acc ++ [(⟨x.f0, x.f1⟩ : Lab)]).length + ([] : List Lab).length < 4398046511104 := by simp; omega
    simp only [List.length_nil, if_neg (show ¬ ((0 : Nat) : Int) > 0 by omega), if_pos e1, Option.bind_some]
    simp only [List.length_nil] at e2
    simp only [if_pos e2, List.append_nil]
    exact Ev.now _
  | y :: l, acc, h => by
    refine Ev.step (f := _) (fun k => by simp only [manometerref05_put.l0]; rfl) ?_
    have h' : l.length + acc.length ≤ 999999 := by rw [List.length_cons] at h; omega
    have e0 : ((y :: l).length : Int) > 0 := by rw [List.length_cons]; omega
    have e1 : acc.length < 4398046511104 := by omega
    have e2 : (acc ++ [(⟨x.f0, x.f1⟩ : Lab)]).length + (y :: l).length < 4398046511104 := by simp; omega
    have e3 : 1 ≤ ((y :: l).length : Int) := by rw [List.length_cons]; omega
    have er : rd_T44 (y :: l) 0 = y := rfl
    simp only [if_pos e0, if_pos (show (0 : Int) < ((y :: l).length : Int) from e0), if_pos e1, if_pos e3, Option.bind_some, er, toList_B, List.drop_one, List.tail_cons, if_pos e2]
    by_cases hc : lt y.f0 x.f0
    · simp only [if_pos (show Op.bytesLess (B y.f0) (B x.f0) = true from hc)]
      have ih := put_l0 x l (acc ++ [y]) (by simp; omega)
      have he : acc ++ ins (y :: l) x = (acc ++ [y]) ++ ins l x := by
        unfold ins
        simp only [List.takeWhile_cons, List.dropWhile_cons, decide_eq_true hc, if_true]
        simp
      rw [he]
      exact ih
    · simp only [if_neg (show ¬ Op.bytesLess (B y.f0) (B x.f0) = true from hc)]
      have he : acc ++ ins (y :: l) x = (acc ++ [x]) ++ (y :: l) := by
        unfold ins
        simp only [List.takeWhile_cons, List.dropWhile_cons, decide_eq_false hc, Bool.false_eq_true, if_false]
        simp
      rw [he]
      exact Ev.now _
theorem put_ev (x : Lab) (l : List Lab) (h : l.length ≤ 1000000) : Ev (fun k => manometerref05_put.f k l x.f0 x.f1) (ins l x) := put_l0 x l [] (by simpa using h)
theorem ins_length (l : List Lab) (x : Lab) : (ins l x).length = l.length + 1 := by
  have := congrArg List.length (List.takeWhile_append_dropWhile (p := fun z : Lab => decide (lt z.f0 x.f0)) (l := l))
  unfold ins
  simp only [List.length_append, List.length_cons] at *
  omega
def firstW : List Lab → Option Int
  | [] => none
  | x :: l => if wrongB true x = 0 then firstW l else some (wrongB true x)
def rmk : List Lab → List Lab → List Lab → List Lab × Int
  | _, out, [] => if out.length ≤ 16 then (out, 0) else ([], 3)
  | seen, out, x :: l => if seen.any (fun z => decide (B z.f0 = B x.f0)) = true then ([], 52) else rmk (seen ++ [x]) (if B x.f1 = [] then out else ins out x) l
def makeB (l : List Lab) : List Lab × Int := match firstW l with | some e => ([], e) | none => rmk [] [] l
theorem Make_l0 (l : List Lab) (hs : Sm l) (r : List Lab × Int) (hr : Ev (fun k => labels_Make.l1 k l [] [] l (l.length : Int) 0) r) : ∀ (d n : Nat), n + d = l.length →
    Ev (fun k => labels_Make.l0 k l l (l.length : Int) (n : Int)) (match firstW (l.drop n) with | some e => ([], e) | none => r)
  | d, n, hd => by
    have hl := hs.1
    refine Ev.step (f := _) (fun k => by simp only [labels_Make.l0]; rfl) ?_
    by_cases hlt : n < l.length
    · obtain ⟨d, rfl⟩ : ∃ e, d = e + 1 := ⟨d - 1, by omega⟩
      have ih := Make_l0 l hs r hr d (n + 1) (by omega)
      obtain ⟨s0, s1⟩ := hs.at n hlt
      rw [dropS l n hlt]
      have e1 : (n : Int) < (l.length : Int) := by omega
      have e2 : (0 : Int) ≤ (n : Int) := by omega
      simp only [if_pos e1, if_pos e2, rdn, w1 n (by omega), wrong_f _ _ s0 s1, Option.bind_some, firstW]
      by_cases hw : wrongB true (l.getD n z44) = 0
      · simp only [if_pos hw]
        exact ih
      · simp only [if_neg hw]
        exact Ev.now _
    · rw [List.drop_of_length_le (by omega)]
      have e1 : ((l.length : Int)).toNat ≤ 8796093022208 := by omega
      have e2 : (0 : Int) ≤ (l.length : Int) := by omega
      simp only [if_neg (show ¬ (n : Int) < (l.length : Int) by omega), if_pos e2, if_pos e1, List.replicate_zero]
      exact hr
theorem RMake_l0 (l : List Lab) (hs : Sm l) (r : List Lab × Int) (hr : Ev (fun k => manometerref05_Make.l1 k l [] l (l.length : Int) 0) r) : ∀ (d n : Nat), n + d = l.length →
    Ev (fun k => manometerref05_Make.l0 k l l (l.length : Int) (n : Int)) (match firstW (l.drop n) with | some e => ([], e) | none => r)
  | d, n, hd => by
    have hl := hs.1
    refine Ev.step (f := _) (fun k => by simp only [manometerref05_Make.l0]; rfl) ?_
    by_cases hlt : n < l.length
    · obtain ⟨d, rfl⟩ : ∃ e, d = e + 1 := ⟨d - 1, by omega⟩
      have ih := RMake_l0 l hs r hr d (n + 1) (by omega)
      obtain ⟨s0, s1⟩ := hs.at n hlt
      rw [dropS l n hlt]
      have e1 : (n : Int) < (l.length : Int) := by omega
      have e2 : (0 : Int) ≤ (n : Int) := by omega
      simp only [if_pos e1, if_pos e2, rdn, w1 n (by omega), firstW, wrongB]
      refine Ev.bind (Named_ev _ (by omega)) ?_
      by_cases hn : namedB (B (l.getD n z44).f0) = true
      · simp only [if_pos hn]
        refine Ev.bind (Valued_ev _ (by omega)) ?_
        by_cases hv : valuedB (B (l.getD n z44).f1) = true
        · simp only [if_pos hv, if_true]
          exact ih
        · simp only [if_neg hv, if_neg (show ¬ (51 : Int) = 0 by omega)]
          exact Ev.now _
      · simp only [if_neg hn, if_neg (show ¬ (50 : Int) = 0 by omega)]
        exact Ev.now _
    · rw [List.drop_of_length_le (by omega)]
      simp only [if_neg (show ¬ (n : Int) < (l.length : Int) by omega)]
      exact hr
theorem Make_l2 (l acc : List Lab) (all : List ByteArray) (n : Int) (x : Lab) (ha : all.length ≤ 100000) : ∀ p : Nat, p ≤ all.length → ∃ q, q ≤ p ∧ (∀ i, q ≤ i → i < p → ¬ lt (all.getD i ByteArray.empty) x.f0) ∧ (q = 0 ∨ lt (all.getD (q - 1) ByteArray.empty) x.f0) ∧
    ∀ r, Ev (fun k => labels_Make.j3 k l acc all (q : Int) l (l.length : Int) n x.f0 x.f1) r → Ev (fun k => labels_Make.l2 k l acc all (p : Int) l (l.length : Int) n x.f0 x.f1) r
  | 0, _ => ⟨0, Nat.le_refl _, fun i _ h => by omega, .inl rfl, fun r h => by
      refine Ev.step (f := _) (fun k => by simp only [labels_Make.l2]; rfl) ?_
      simp only [if_neg (show ¬ ((0 : Nat) : Int) > 0 by omega)]
      exact h⟩
  | p + 1, hp => by
    have e3 : ((p + 1 : Nat) : Int) > 0 := by omega
    have e4 : (0 : Int) ≤ (p : Int) := by omega
    have e5 : (p : Int) < (all.length : Int) := by omega
    have er : rdOf ByteArray.empty all (p : Int) = all.getD p ByteArray.empty := by unfold rdOf; rw [Int.toNat_natCast]
    by_cases hc : lt (all.getD p ByteArray.empty) x.f0
    · refine ⟨p + 1, Nat.le_refl _, fun i _ h => by omega, .inr (by rw [Nat.add_sub_cancel]; exact hc), fun r h => ?_⟩
      refine Ev.step (f := _) (fun k => by simp only [labels_Make.l2]; rfl) ?_
      simp only [if_pos e3, wm1 p (by omega), if_pos e4, if_pos e5, er, toList_B, if_pos (show Op.bytesLess (B (all.getD p ByteArray.empty)) (B x.f0) = true from hc)]
      exact h
    · obtain ⟨q, h1, h2, h3, h4⟩ := Make_l2 l acc all n x ha p (by omega)
      refine ⟨q, by omega, fun i hi hi' => ?_, h3, fun r h => ?_⟩
      · by_cases hip : i = p
        · subst hip; exact hc
        · exact h2 i hi (by omega)
      · refine Ev.step (f := _) (fun k => by simp only [labels_Make.l2]; rfl) ?_
        simp only [if_pos e3, wm1 p (by omega), if_pos e4, if_pos e5, er, toList_B, if_neg (show ¬ Op.bytesLess (B (all.getD p ByteArray.empty)) (B x.f0) = true from hc)]
        exact h4 r h
theorem shift_app (A C : List ByteArray) (e x : ByteArray) : (Kd.shift ((A ++ C) ++ [e]) A.length).set A.length x = A ++ x :: C := by
  unfold Kd.shift
  have e1 : ((A ++ C) ++ [e]).drop A.length = C ++ [e] := by rw [List.append_assoc, List.drop_left]
  have e2 : ((A ++ C) ++ [e]).length - (A.length + 1) = C.length := by simp; omega
  have e3 : (C ++ [e]).take C.length = C := List.take_left
  rw [e1, e2, e3]
  cases C with
  | nil =>
    have e4 : (A ++ [] ++ [e]).take (A.length + 1) = A ++ [e] := by rw [List.append_nil]; exact List.take_of_length_le (by simp)
    rw [e4, List.append_nil, List.set_append_right _ _ (Nat.le_refl _), Nat.sub_self]
    rfl
  | cons c C =>
    have e4 : (A ++ c :: C ++ [e]).take (A.length + 1) = A ++ [c] := by
      rw [List.append_assoc, List.take_append]
      simp [List.take_of_length_le]
    rw [e4, List.append_assoc, List.set_append_right _ _ (Nat.le_refl _), Nat.sub_self]
    rfl
theorem shift_set (all : List ByteArray) (q : Nat) (x : ByteArray) (hq : q ≤ all.length) : (Kd.shift (all ++ [(⟨#[]⟩ : ByteArray)]) q).set q x = all.take q ++ x :: all.drop q := by
  have h := shift_app (all.take q) (all.drop q) ⟨#[]⟩ x
  rw [List.take_append_drop, List.length_take, Nat.min_eq_left hq] at h
  exact h
theorem Make_j3 (l acc : List Lab) (all : List ByteArray) (n : Nat) (x : Lab) (ha : all.length ≤ 100000) (hn : n ≤ 100000) (q : Nat) (hq : q ≤ all.length) :
    (q < all.length → all.getD q ByteArray.empty = x.f0 → Ev (fun k => labels_Make.j3 k l acc all (q : Int) l (l.length : Int) (n : Int) x.f0 x.f1) ([], 52)) ∧
    (¬ (q < all.length ∧ all.getD q ByteArray.empty = x.f0) → ∀ r, Ev (fun k => labels_Make.l1 k l acc (all.take q ++ x.f0 :: all.drop q) l (l.length : Int) ((n + 1 : Nat) : Int)) r → Ev (fun k => labels_Make.j3 k l acc all (q : Int) l (l.length : Int) (n : Int) x.f0 x.f1) r) := by
  have er : rdOf ByteArray.empty all (q : Int) = all.getD q ByteArray.empty := by unfold rdOf; rw [Int.toNat_natCast]
  have e1 : (0 : Int) ≤ (q : Int) := by omega
  have e2 : all.length < 8796093022208 := by omega
  have e3 : (0 : Int) ≤ ((q + 1 : Nat) : Int) := by omega
  have el : ((all ++ [(⟨#[]⟩ : ByteArray)]).length : Int) = (all.length : Int) + 1 := by simp
  have e4 : ((q + 1 : Nat) : Int) ≤ (all.length : Int) + 1 := by omega
  have e5 : (q : Int) ≤ (all.length : Int) + 1 := by omega
  have e6 : (q : Int) < (all.length : Int) + 1 := by omega
  constructor
  · intro h1 h2
    refine Ev.step (f := _) (fun k => by simp only [labels_Make.j3]; rfl) ?_
    have e7 : (q : Int) < (all.length : Int) := by omega
    simp only [if_pos e7, if_pos e1, er, h2, if_true]
    exact Ev.now _
  · intro h1 r hr
    refine Ev.step (f := _) (fun k => by simp only [labels_Make.j3]; rfl) ?_
    by_cases h2 : q < all.length
    · have h3 : ¬ all.getD q ByteArray.empty = x.f0 := fun h => h1 ⟨h2, h⟩
      have h4 : ¬ B (all.getD q ByteArray.empty) = B x.f0 := fun h => h3 (B_inj h)
      have e7 : (q : Int) < (all.length : Int) := by omega
      simp only [if_pos e7, if_pos e1, er, toList_B, if_neg h4, if_pos e2, Option.bind_some, w1 q (by omega), w1 n (by omega), if_pos e3, el, if_pos e4, if_pos e5, if_pos e6, Int.toNat_natCast, shift_set all q x.f0 hq]
      exact hr
    · have e7 : ¬ (q : Int) < (all.length : Int) := by omega
      simp only [if_neg e7, if_pos e1, if_pos e2, Option.bind_some, w1 q (by omega), w1 n (by omega), if_pos e3, el, if_pos e4, if_pos e5, if_pos e6, Int.toNat_natCast, shift_set all q x.f0 hq]
      exact hr
theorem cut_names (all : List ByteArray) (x : ByteArray) (hs : all.Pairwise lt) (q : Nat) (hq : q ≤ all.length) (h1 : ∀ i, q ≤ i → i < all.length → ¬ lt (all.getD i ByteArray.empty) x) (h2 : q = 0 ∨ lt (all.getD (q - 1) ByteArray.empty) x) :
    (∀ y ∈ all.take q, lt y x) ∧ (∀ y ∈ all.drop q, ¬ lt y x) ∧ ((q < all.length ∧ all.getD q ByteArray.empty = x) ↔ x ∈ all) := by
  have g : ∀ i (h : i < all.length), all.getD i ByteArray.empty = all[i] := fun i h => by rw [List.getD_eq_getElem?_getD, List.getElem?_eq_getElem h]; rfl
  have hp := List.pairwise_iff_getElem.1 hs
  have hA : ∀ y ∈ all.take q, lt y x := by
    intro y hy
    obtain ⟨i, hi, rfl⟩ := List.mem_iff_getElem.1 hy
    rw [List.length_take] at hi
    rw [List.getElem_take]
    rcases h2 with h2 | h2
    · omega
    · rw [g (q - 1) (by omega)] at h2
      by_cases hi' : i = q - 1
      · subst hi'; exact h2
      · exact lt_trans (hp i (q - 1) (by omega) (by omega) (by omega)) h2
  have hC : ∀ y ∈ all.drop q, ¬ lt y x := by
    intro y hy
    obtain ⟨i, hi, rfl⟩ := List.mem_iff_getElem.1 hy
    rw [List.length_drop] at hi
    rw [List.getElem_drop]
    have := h1 (q + i) (by omega) (by omega)
    rw [g (q + i) (by omega)] at this
    exact this
  refine ⟨hA, hC, ?_, ?_⟩
  · rintro ⟨h, rfl⟩
    rw [g q h]
    exact List.getElem_mem h
  · intro hx
    rw [← List.take_append_drop q all, List.mem_append] at hx
    rcases hx with hx | hx
    · exact absurd (hA _ hx) (lt_irrefl _)
    · obtain ⟨i, hi, e⟩ := List.mem_iff_getElem.1 hx
      rw [List.length_drop] at hi
      rw [List.getElem_drop] at e
      have hq' : q < all.length := by omega
      refine ⟨hq', ?_⟩
      rw [g q hq']
      by_cases h0 : i = 0
      · subst h0; exact e
      · have h3 := hp q (q + i) hq' (by omega) (by omega)
        rw [e] at h3
        have h4 := h1 q (Nat.le_refl _) hq'
        rw [g q hq'] at h4
        exact absurd h3 h4
theorem cut_sorted (all : List ByteArray) (x : ByteArray) (hs : all.Pairwise lt) (q : Nat) (hA : ∀ y ∈ all.take q, lt y x) (hC : ∀ y ∈ all.drop q, ¬ lt y x) (hx : x ∉ all) : (all.take q ++ x :: all.drop q).Pairwise lt := by
  rw [← List.take_append_drop q all] at hs
  rw [List.pairwise_append] at hs ⊢
  obtain ⟨p1, p2, p3⟩ := hs
  have hx' : ∀ y ∈ all.drop q, lt x y := fun y hy => by
    by_cases h : lt x y
    · exact h
    · have : y = x := lt_total (hC y hy) h
      exact absurd (by rw [← this]; exact List.mem_of_mem_drop hy) hx
  refine ⟨p1, List.pairwise_cons.2 ⟨hx', p2⟩, fun a ha b hb => ?_⟩
  rcases List.mem_cons.1 hb with rfl | hb
  · exact hA a ha
  · exact p3 a ha b hb
def P (nm : ByteArray) (z : Lab) : Bool := decide (B z.f0 = B nm) && !decide (B z.f1 = [])
theorem Make_l4 (l : List Lab) (all : List ByteArray) (j : Nat) (nm : ByteArray) (hl : l.length ≤ 100000) (hj : j ≤ 100000) : ∀ (d m : Nat) (acc : List Lab), m + d = l.length → acc.length ≤ j * 100000 + m →
    ∀ r, Ev (fun k => labels_Make.l3 k l (acc ++ (l.drop m).filter (P nm)) all (all.length : Int) ((j + 1 : Nat) : Int)) r → Ev (fun k => labels_Make.l4 k l acc nm all (all.length : Int) (j : Int) l (l.length : Int) (m : Int)) r
  | d, m, acc, hd, ha, r, hr => by
    refine Ev.step (f := _) (fun k => by simp only [labels_Make.l4]; rfl) ?_
    by_cases hlt : m < l.length
    · obtain ⟨d, rfl⟩ : ∃ e, d = e + 1 := ⟨d - 1, by omega⟩
      rw [dropS l m hlt, List.filter_cons] at hr
      have e1 : (m : Int) < (l.length : Int) := by omega
      have e2 : (0 : Int) ≤ (m : Int) := by omega
      simp only [if_pos e1, if_pos e2, rdn, w1 m (by omega), toList_B]
      unfold P at hr
      by_cases h1 : B (l.getD m z44).f0 = B nm
      · simp only [if_pos h1]
        by_cases h2 : B (l.getD m z44).f1 = []
        · simp only [if_pos h2]
          rw [decide_eq_true h1, decide_eq_true h2] at hr
          exact Make_l4 l all j nm hl hj d (m + 1) acc (by omega) (by omega) r hr
        · have e3 : acc.length < 4398046511104 := by omega
          simp only [if_neg h2, if_pos e3]
          rw [decide_eq_true h1, decide_eq_false h2] at hr
          refine Make_l4 l all j nm hl hj d (m + 1) (acc ++ [l.getD m z44]) (by omega) (by simp; omega) r ?_
          rw [List.append_assoc]
          exact hr
      · simp only [if_neg h1]
        rw [decide_eq_false h1] at hr
        exact Make_l4 l all j nm hl hj d (m + 1) acc (by omega) (by omega) r hr
    · simp only [if_neg (show ¬ (m : Int) < (l.length : Int) by omega), w1 j (by omega)]
      rw [List.drop_of_length_le (by omega), List.filter_nil, List.append_nil] at hr
      exact hr
theorem dropB (l : List ByteArray) (n : Nat) (h : n < l.length) : l.drop n = l.getD n ByteArray.empty :: l.drop (n + 1) := by
  rw [List.drop_eq_getElem_cons h, List.getD_eq_getElem?_getD, List.getElem?_eq_getElem h]
  rfl
theorem Make_l3 (l : List Lab) (all : List ByteArray) (hl : l.length ≤ 100000) (hj : all.length ≤ 100000) : ∀ (d j : Nat) (acc : List Lab), j + d = all.length → acc.length ≤ j * 100000 →
    Ev (fun k => labels_Make.l3 k l acc all (all.length : Int) (j : Int)) (rmk l (acc ++ (all.drop j).flatMap fun nm => l.filter (P nm)) [])
  | d, j, acc, hd, ha => by
    refine Ev.step (f := _) (fun k => by simp only [labels_Make.l3]; rfl) ?_
    by_cases hlt : j < all.length
    · obtain ⟨d, rfl⟩ : ∃ e, d = e + 1 := ⟨d - 1, by omega⟩
      have e1 : (j : Int) < (all.length : Int) := by omega
      have e2 : (0 : Int) ≤ (j : Int) := by omega
      have er : rdOf ByteArray.empty all (j : Int) = all.getD j ByteArray.empty := by unfold rdOf; rw [Int.toNat_natCast]
      simp only [if_pos e1, if_pos e2, er]
      refine Make_l4 l all j _ hl (by omega) l.length 0 acc (Nat.zero_add _) (Nat.le_add_right_of_le ha) _ ?_
      rw [dropB all j hlt, List.flatMap_cons, ← List.append_assoc, List.drop_zero]
      have hf := List.length_filter_le (P (all.getD j ByteArray.empty)) l
      exact Make_l3 l all hl hj d (j + 1) _ (by omega) (by rw [List.length_append]; omega)
    · rw [List.drop_of_length_le (by omega), List.flatMap_nil, List.append_nil]
      unfold rmk
      simp only [if_neg (show ¬ (j : Int) < (all.length : Int) by omega)]
      by_cases h : acc.length ≤ 16
      · simp only [if_pos h, if_neg (show ¬ (acc.length : Int) > 16 by omega)]
        exact Ev.now _
      · simp only [if_neg h, if_pos (show (acc.length : Int) > 16 by omega)]
        exact Ev.now _
theorem RMake_l2 (l out : List Lab) (n : Nat) (x : Lab) (hl : l.length ≤ 100000) (hn : n ≤ l.length) : ∀ (d j : Nat), j + d = n →
    (((l.take n).drop j).any (fun z => decide (B z.f0 = B x.f0)) = true → Ev (fun k => manometerref05_Make.l2 k l out l (l.length : Int) (n : Int) (n : Int) (j : Int) x.f0 x.f1) ([], 52)) ∧
    (((l.take n).drop j).any (fun z => decide (B z.f0 = B x.f0)) = false → out.length ≤ 1000000 → ∀ r, Ev (fun k => manometerref05_Make.l1 k l (if B x.f1 = [] then out else ins out x) l (l.length : Int) ((n + 1 : Nat) : Int)) r →
      Ev (fun k => manometerref05_Make.l2 k l out l (l.length : Int) (n : Int) (n : Int) (j : Int) x.f0 x.f1) r)
  | d, j, hd => by
    by_cases hlt : j < n
    · obtain ⟨d, rfl⟩ : ∃ e, d = e + 1 := ⟨d - 1, by omega⟩
      obtain ⟨ih1, ih2⟩ := RMake_l2 l out n x hl hn d (j + 1) (by omega)
      have hd1 : (l.take n).drop j = l.getD j z44 :: (l.take n).drop (j + 1) := by
        rw [dropS (l.take n) j (by rw [List.length_take]; omega)]
        congr 1
        simp [List.getD_eq_getElem?_getD, List.getElem?_take, hlt]
      rw [hd1, List.any_cons]
      have e1 : (j : Int) < (n : Int) := by omega
      have e2 : (0 : Int) ≤ (j : Int) := by omega
      have e3 : (j : Int) < (l.length : Int) := by omega
      by_cases h1 : B (l.getD j z44).f0 = B x.f0
      · rw [decide_eq_true h1, Bool.true_or]
        refine ⟨fun _ => ?_, fun h => by cases h⟩
        refine Ev.step (f := _) (fun k => by simp only [manometerref05_Make.l2]; rfl) ?_
        simp only [if_pos e1, if_pos e2, if_pos e3, rdn, toList_B, if_pos h1]
        exact Ev.now _
      · rw [decide_eq_false h1, Bool.false_or]
        refine ⟨fun h => ?_, fun h ho r hr => ?_⟩
        · refine Ev.step (f := _) (fun k => by simp only [manometerref05_Make.l2]; rfl) ?_
          simp only [if_pos e1, if_pos e2, if_pos e3, rdn, toList_B, if_neg h1, w1 j (by omega)]
          exact ih1 h
        · refine Ev.step (f := _) (fun k => by simp only [manometerref05_Make.l2]; rfl) ?_
          simp only [if_pos e1, if_pos e2, if_pos e3, rdn, toList_B, if_neg h1, w1 j (by omega)]
          exact ih2 h ho r hr
    · have hd0 : (l.take n).drop j = [] := List.drop_of_length_le (by rw [List.length_take]; omega)
      rw [hd0]
      refine ⟨fun h => by simp at h, fun _ ho r hr => ?_⟩
      refine Ev.step (f := _) (fun k => by simp only [manometerref05_Make.l2]; rfl) ?_
      simp only [if_neg (show ¬ (j : Int) < (n : Int) by omega), toList_B, w1 n (by omega)]
      by_cases he : B x.f1 = []
      · simp only [if_pos he] at hr ⊢
        exact hr
      · simp only [if_neg he] at hr ⊢
        exact Ev.bind (put_ev x out ho) hr
theorem Make_l1 (l : List Lab) (hl : l.length ≤ 100000) : ∀ (d n : Nat) (all : List ByteArray) (out : List Lab), n + d = l.length → all.length = n → out.length ≤ n → all.Pairwise lt → (∀ y, y ∈ all ↔ ∃ z ∈ l.take n, z.f0 = y) →
    out = all.flatMap (fun nm => (l.take n).filter (P nm)) →
    Ev (fun k => labels_Make.l1 k l [] all l (l.length : Int) (n : Int)) (rmk (l.take n) out (l.drop n)) ∧ Ev (fun k => manometerref05_Make.l1 k l out l (l.length : Int) (n : Int)) (rmk (l.take n) out (l.drop n))
  | d, n, all, out, hd, hal, hol, hs, hm, ho => by
    by_cases hlt : n < l.length
    · obtain ⟨d, rfl⟩ : ∃ e, d = e + 1 := ⟨d - 1, by omega⟩
      have e1 : (n : Int) < (l.length : Int) := by omega
      have e2 : (0 : Int) ≤ (n : Int) := by omega
      rw [dropS l n hlt]
      have ht : l.take (n + 1) = l.take n ++ [l.getD n z44] := by
        rw [List.take_succ_eq_append_getElem hlt, List.getD_eq_getElem?_getD, List.getElem?_eq_getElem hlt]
        rfl
      have ih := Make_l1 l hl d (n + 1)
      rw [ht] at ih
      generalize hgx : l.getD n z44 = x at *
      obtain ⟨q, q1, q2, q3, q4⟩ := Make_l2 l [] all (n : Int) x (by omega) all.length (Nat.le_refl _)
      obtain ⟨hA, hC, hX⟩ := cut_names all x.f0 hs q q1 q2 q3
      obtain ⟨j1, j2⟩ := Make_j3 l [] all n x (by omega) (by omega) q q1
      obtain ⟨m1, m2⟩ := RMake_l2 l out n x hl (by omega) n 0 (by omega)
      rw [List.drop_zero] at m1 m2
      have hany : (l.take n).any (fun z => decide (B z.f0 = B x.f0)) = true ↔ x.f0 ∈ all := by
        rw [hm, List.any_eq_true]
        constructor
        · rintro ⟨z, hz, h⟩
          exact ⟨z, hz, B_inj (of_decide_eq_true h)⟩
        · rintro ⟨z, hz, h⟩
          exact ⟨z, hz, by rw [h]; exact decide_eq_true rfl⟩
      have s1 : ∀ r, Ev (fun k => labels_Make.l2 k l [] all (all.length : Int) l (l.length : Int) (n : Int) x.f0 x.f1) r → Ev (fun k => labels_Make.l1 k l [] all l (l.length : Int) (n : Int)) r := by
        intro r hr
        refine Ev.step (f := _) (fun k => by simp only [labels_Make.l1]; rfl) ?_
        simp only [if_pos e1, if_pos e2, rdn, hgx]
        exact hr
      have s2 : ∀ r, Ev (fun k => manometerref05_Make.l2 k l out l (l.length : Int) (n : Int) (n : Int) ((0 : Nat) : Int) x.f0 x.f1) r → Ev (fun k => manometerref05_Make.l1 k l out l (l.length : Int) (n : Int)) r := by
        intro r hr
        refine Ev.step (f := _) (fun k => by simp only [manometerref05_Make.l1]; rfl) ?_
        simp only [if_pos e1, if_pos e2, rdn, hgx]
        exact hr
      by_cases hx : x.f0 ∈ all
      · have ha := hany.2 hx
        obtain ⟨x1, x2⟩ := hX.2 hx
        unfold rmk
        simp only [if_pos ha]
        exact ⟨s1 _ (q4 _ (j1 x1 x2)), s2 _ (m1 ha)⟩
      · have ha : (l.take n).any (fun z => decide (B z.f0 = B x.f0)) = false := by
          cases h : (l.take n).any (fun z => decide (B z.f0 = B x.f0)) with
          | false => rfl
          | true => exact absurd (hany.1 h) hx
        have hX' : ¬ (q < all.length ∧ all.getD q ByteArray.empty = x.f0) := fun h => hx (hX.1 h)
        have hq0 : all.take q ++ all.drop q = all := List.take_append_drop q all
        have hso := cut_sorted all x.f0 hs q hA hC hx
        have hno : ∀ nm ∈ all, P nm x = false := fun nm hnm => by
          unfold P
          have : ¬ B x.f0 = B nm := fun h => hx (by rw [B_inj h]; exact hnm)
          rw [decide_eq_false this, Bool.false_and]
        have hF : ∀ L : List ByteArray, (∀ nm ∈ L, nm ∈ all) → L.flatMap (fun nm => (l.take n ++ [x]).filter (P nm)) = L.flatMap (fun nm => (l.take n).filter (P nm)) := by
          intro L hL
          induction L with
          | nil => rfl
          | cons a L ih =>
            rw [List.flatMap_cons, List.flatMap_cons, ih (fun nm h => hL nm (List.mem_cons_of_mem _ h)), List.filter_append]
            have := hno a (hL a List.mem_cons_self)
            simp [this]
        have hself : (l.take n ++ [x]).filter (P x.f0) = if B x.f1 = [] then [] else [x] := by
          rw [List.filter_append]
          have h1 : (l.take n).filter (P x.f0) = [] := by
            rw [List.filter_eq_nil_iff]
            intro z hz h
            unfold P at h
            simp only [Bool.and_eq_true, decide_eq_true_eq] at h
            exact hx ((hm _).2 ⟨z, hz, B_inj h.1⟩)
          rw [h1, List.nil_append]
          unfold P
          by_cases he : B x.f1 = []
          · simp [he]
          · simp [he]
        have hparts : all.flatMap (fun nm => (l.take n).filter (P nm)) = (all.take q).flatMap (fun nm => (l.take n).filter (P nm)) ++ (all.drop q).flatMap (fun nm => (l.take n).filter (P nm)) := by
          rw [← List.flatMap_append, hq0]
        have hin : ∀ (L : List ByteArray) (z : Lab), z ∈ L.flatMap (fun nm => (l.take n).filter (P nm)) → z.f0 ∈ L := by
          intro L z hz
          obtain ⟨nm, hnm, hz⟩ := List.mem_flatMap.1 hz
          have := (List.mem_filter.1 hz).2
          unfold P at this
          simp only [Bool.and_eq_true, decide_eq_true_eq] at this
          rw [B_inj this.1]
          exact hnm
        have hout : (if B x.f1 = [] then out else ins out x) = (all.take q ++ x.f0 :: all.drop q).flatMap (fun nm => (l.take n ++ [x]).filter (P nm)) := by
          rw [List.flatMap_append, List.flatMap_cons, hF _ (fun nm h => List.mem_of_mem_take h), hF _ (fun nm h => List.mem_of_mem_drop h), hself]
          rw [ho, hparts]
          by_cases he : B x.f1 = []
          · rw [if_pos he, if_pos he, List.nil_append]
          · rw [if_neg he, if_neg he]
            rw [ins_app _ _ _ (fun z hz => hA _ (hin _ z hz)) (fun z hz => hC _ (hin _ z hz))]
            rfl
        obtain ⟨k1, k2⟩ := ih (all.take q ++ x.f0 :: all.drop q) (if B x.f1 = [] then out else ins out x) (by omega)
          (by have := congrArg List.length hq0; rw [List.length_append] at this ⊢; rw [List.length_cons]; omega)
          (by split
              · omega
              · rw [ins_length]; omega) hso
          (by
            intro y
            have h1 : y ∈ all.take q ++ x.f0 :: all.drop q ↔ y = x.f0 ∨ y ∈ all := by
              conv => rhs; rw [← hq0]
              simp only [List.mem_append, List.mem_cons]
              constructor
              · rintro (h | h | h)
                · exact .inr (.inl h)
                · exact .inl h
                · exact .inr (.inr h)
              · rintro (h | h | h)
                · exact .inr (.inl h)
                · exact .inl h
                · exact .inr (.inr h)
            rw [h1, hm]
            constructor
            · rintro (h | ⟨z, hz, h⟩)
              · exact ⟨x, by simp, h.symm⟩
              · exact ⟨z, by simp [hz], h⟩
            · rintro ⟨z, hz, h⟩
              rcases List.mem_append.1 hz with hz | hz
              · exact .inr ⟨z, hz, h⟩
              · exact .inl (by rw [← h, List.mem_singleton.1 hz])) hout
        unfold rmk
        simp only [ha, Bool.false_eq_true, if_false]
        exact ⟨s1 _ (q4 _ (j2 hX' _ k1)), s2 _ (m2 ha (by omega) _ k2)⟩
    · have hn : n = l.length := by omega
      have e1 : ¬ (n : Int) < (l.length : Int) := by omega
      rw [List.drop_of_length_le (by omega)]
      constructor
      · refine Ev.step (f := _) (fun k => by simp only [labels_Make.l1]; rfl) ?_
        simp only [if_neg e1]
        have h3 := Make_l3 l all hl (by omega) all.length 0 [] (by omega) (by simp)
        rw [List.drop_zero, List.nil_append] at h3
        rw [List.take_of_length_le (by omega)] at ho ⊢
        rw [ho]
        exact h3
      · refine Ev.step (f := _) (fun k => by simp only [manometerref05_Make.l1]; rfl) ?_
        simp only [if_neg e1]
        unfold rmk
        by_cases h : out.length ≤ 16
        · simp only [if_pos h, if_neg (show ¬ (out.length : Int) > 16 by omega)]
          exact Ev.now _
        · simp only [if_neg h, if_pos (show (out.length : Int) > 16 by omega)]
          exact Ev.now _
theorem Make_ev (l : List Lab) (hs : Sm l) : Ev (fun k => labels_Make.f k l) (makeB l) ∧ Ev (fun k => manometerref05_Make.f k l) (makeB l) := by
  obtain ⟨h1, h2⟩ := Make_l1 l hs.1 l.length 0 [] [] (by omega) rfl (Nat.le_refl _) List.Pairwise.nil (fun y => ⟨fun h => by simp at h, fun ⟨z, hz, _⟩ => by simp at hz⟩) rfl
  have e1 := Make_l0 l hs _ h1 l.length 0 (by omega)
  have e2 := RMake_l0 l hs _ h2 l.length 0 (by omega)
  rw [List.drop_zero, List.take_zero] at e1 e2
  exact ⟨e1, e2⟩
end Go.Proofs.YtdhmabofncbohaaDoor.Pu
