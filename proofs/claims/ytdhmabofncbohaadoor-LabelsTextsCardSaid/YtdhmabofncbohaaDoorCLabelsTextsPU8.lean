import Derived.Test.YtdhmabofncbohaaDoorCLabelsTextsPU5
import Derived.Test.YtdhmabofncbohaaDoorCLabelsTextsPU3
import Derived.Test.YtdhmabofncbohaaDoorCLabelsTextsPLBx4
import Derived.Test.YtdhmabofncbohaaDoorCLabelsTextsPLBx5
import Derived.Test.YtdhmabofncbohaaDoorCLabelsTextsPLBx11
import Derived.Test.YtdhmabofncbohaaDoorCLabelsTextsPLBx12
import Derived.Test.YtdhmabofncbohaaDoorCLabelsTextsPLBx13
namespace Go.Proofs.YtdhmabofncbohaaDoor.Pu
open Go Go.RowKit Go.Proofs.YtdhmabofncbohaaDoor Go.Proofs.YtdhmabofncbohaaDoor.PLB Go.Proofs.YtdhmabofncbohaaDoorW.PrintWords Go.Proofs.YtdhmabofncbohaaDoorW.PrintLast Go.Proofs.YtdhmabofncbohaaDoorW.PrintMore
set_option linter.unusedVariables false
set_option linter.unusedSimpArgs false
theorem toList_str (l : Str) : (str l).toList = l := by rw [toList_B, B_str]
theorem size_str (l : Str) : (str l).size = l.length := by rw [← B_length, B_str]
theorem bt0_str (c : UInt8) (l : Str) : bt (str (c :: l)) 0 = (c.toNat : Int) := by
  have := bt_B (str (c :: l)) 0
  rw [B_str] at this
  exact this
theorem drop_str (l : Str) (n : Nat) : (str l).extract n (str l).size = str (l.drop n) := B_inj (by rw [B_extract, B_str, B_str, size_str, List.take_length])
theorem take_str (l : Str) (n : Nat) : (str l).extract 0 n = str (l.take n) := B_inj (by rw [B_extract, B_str, B_str, List.drop_zero])
theorem tail_str (c : UInt8) (l : Str) : (str (c :: l)).extract 1 (str (c :: l)).size = str l := drop_str (c :: l) 1
theorem c32 (c : UInt8) : ((c.toNat : Int) = 32) ↔ c = 32 := u8eq c 32 (by decide)
theorem c44 (c : UInt8) : ((c.toNat : Int) = 44) ↔ c = 44 := u8eq c 44 (by decide)
theorem c61 (c : UInt8) : ((c.toNat : Int) = 61) ↔ c = 61 := u8eq c 61 (by decide)
theorem c125 (c : UInt8) : ((c.toNat : Int) = 125) ↔ c = 125 := u8eq c 125 (by decide)
theorem dropW_le (p : UInt8 → Bool) (l : Str) : (l.dropWhile p).length ≤ l.length := by
  have e := congrArg List.length (List.takeWhile_append_dropWhile (p := p) (l := l))
  rw [List.length_append] at e
  omega
def bareL (l : Str) : Str := l.dropWhile (fun c => c == 32)
theorem bareL_le (l : Str) : (bareL l).length ≤ l.length := dropW_le _ _
theorem bare_ev : ∀ l : Str, Ev (fun k => labels_bare.f k (str l)) (str (bareL l))
  | [] => by
    refine Ev.step (f := _) (fun k => by simp only [labels_bare.f, labels_bare.l0]; rfl) ?_
    simp only [toList_str, if_true]
    exact Ev.now _
  | c :: l => by
    refine Ev.step (f := _) (fun k => by simp only [labels_bare.f, labels_bare.l0]; rfl) ?_
    have e1 : (0 : Int) < ((str (c :: l)).size : Int) := by rw [size_str, List.length_cons]; omega
    have e2 : (1 : Int) ≤ ((str (c :: l)).size : Int) := by rw [size_str, List.length_cons]; omega
    simp only [toList_str, if_neg (List.cons_ne_nil c l), if_pos e1, if_pos e2, bt0_str, tail_str]
    unfold bareL
    rw [List.dropWhile_cons]
    by_cases h : c = 32
    · have hb : (c == 32) = true := by rw [h]; rfl
      simp only [if_pos ((c32 c).2 h), hb, if_true]
      exact bare_ev l
    · have hb : (c == 32) = false := by simpa using h
      simp only [if_neg (fun h' => h ((c32 c).1 h')), hb, Bool.false_eq_true, if_false]
      exact Ev.now _
theorem Bare_ev : ∀ l : Str, Ev (fun k => manometerref05_Bare.f k (str l)) (str (bareL l))
  | [] => by
    refine Ev.step (f := _) (fun k => by simp only [manometerref05_Bare.f, manometerref05_Bare.l0]; rfl) ?_
    have e1 : ¬ ((str []).size : Int) > 0 := by rw [size_str]; simp
    simp only [if_neg e1]
    exact Ev.now _
  | c :: l => by
    refine Ev.step (f := _) (fun k => by simp only [manometerref05_Bare.f, manometerref05_Bare.l0]; rfl) ?_
    have e1 : (0 : Int) < ((str (c :: l)).size : Int) := by rw [size_str, List.length_cons]; omega
    have e2 : (1 : Int) ≤ ((str (c :: l)).size : Int) := by rw [size_str, List.length_cons]; omega
    simp only [if_pos (show ((str (c :: l)).size : Int) > 0 from e1), if_pos e1, if_pos e2, bt0_str, tail_str]
    unfold bareL
    rw [List.dropWhile_cons]
    by_cases h : c = 32
    · have hb : (c == 32) = true := by rw [h]; rfl
      simp only [if_pos ((c32 c).2 h), hb, if_true]
      exact Bare_ev l
    · have hb : (c == 32) = false := by simpa using h
      simp only [if_neg (fun h' => h ((c32 c).1 h')), hb, Bool.false_eq_true, if_false]
      exact Ev.now _
def isL (c : UInt8) : Bool := letB (c.toNat : Int)
theorem take_while (p : UInt8 → Bool) (l : Str) : l.take (l.takeWhile p).length = l.takeWhile p ∧ l.drop (l.takeWhile p).length = l.dropWhile p := by
  have e := List.takeWhile_append_dropWhile (p := p) (l := l)
  generalize l.takeWhile p = X at *
  generalize l.dropWhile p = Y at *
  subst e
  exact ⟨List.take_left, List.drop_left⟩
theorem pletter (c : UInt8) : labels_letter.f (wrap32 (c.toNat : Int)) = some (isL c, fstB (c.toNat : Int)) := by
  have := c.toNat_lt
  rw [w32 (by omega) (by omega)]
  exact letter_f _
theorem bt_str (l : Str) (n : Nat) : bt (str l) (n : Int) = ((l.getD n 0).toNat : Int) := by rw [bt_B, B_str]
theorem word_l0 (l : Str) (hl : l.length ≤ 1000000) : ∀ (d n : Nat), n + d = l.length → Ev (fun k => labels_word.l0 k (str l) ((str l).size : Int) (n : Int)) (str (l.take (n + ((l.drop n).takeWhile isL).length)), str (l.drop (n + ((l.drop n).takeWhile isL).length)))
  | d, n, hd => by
    have hz := size_str l
    refine Ev.step (f := _) (fun k => by simp only [labels_word.l0]; rfl) ?_
    by_cases hlt : n < l.length
    · obtain ⟨d, rfl⟩ : ∃ e, d = e + 1 := ⟨d - 1, by omega⟩
      have ih := word_l0 l hl d (n + 1) (by omega)
      have e1 : (n : Int) < ((str l).size : Int) := by omega
      have e2 : (0 : Int) ≤ (n : Int) := by omega
      have e3 : (n : Int) ≤ ((str l).size : Int) := by omega
      have ebt : bt (str l) (n : Int) = ((l.getD n 0).toNat : Int) := bt_str l n
      simp only [if_pos e1, if_pos e2, if_pos e3, ebt, pletter, Option.bind_some, w1 n (by omega), Int.toNat_natCast, take_str, drop_str]
      rw [drop_cons l n hlt, List.takeWhile_cons]
      cases h : isL (l.getD n 0) with
      | true =>
        simp only [if_true, List.length_cons]
        rw [show n + (((l.drop (n + 1)).takeWhile isL).length + 1) = n + 1 + ((l.drop (n + 1)).takeWhile isL).length by omega]
        exact ih
      | false =>
        rw [← drop_cons l n hlt]
        simp only [Bool.false_eq_true, if_false, List.length_nil, Nat.add_zero]
        exact Ev.now _
    · rw [List.drop_of_length_le (show l.length ≤ n by omega)]
      simp only [if_neg (show ¬ (n : Int) < ((str l).size : Int) by omega), List.takeWhile_nil, List.length_nil, Nat.add_zero]
      rw [List.take_of_length_le (by omega), List.drop_of_length_le (by omega)]
      exact Ev.now _
theorem word_ev (l : Str) (hl : l.length ≤ 1000000) : Ev (fun k => labels_word.f k (str l)) (str (l.takeWhile isL), str (l.dropWhile isL)) := by
  have h := word_l0 l hl l.length 0 (by omega)
  rw [List.drop_zero, Nat.zero_add, (take_while isL l).1, (take_while isL l).2] at h
  exact h
theorem Word_l0 (l : Str) (hl : l.length ≤ 1000000) : ∀ (d n : Nat), n + d = l.length → Ev (fun k => manometerref05_Word.l0 k (str l) (n : Int)) (str (l.take (n + ((l.drop n).takeWhile isL).length)), str (l.drop (n + ((l.drop n).takeWhile isL).length)))
  | d, n, hd => by
    have hz := size_str l
    refine Ev.step (f := _) (fun k => by simp only [manometerref05_Word.l0]; rfl) ?_
    have e2 : (0 : Int) ≤ (n : Int) := by omega
    have e3 : (n : Int) ≤ ((str l).size : Int) := by omega
    by_cases hlt : n < l.length
    · obtain ⟨d, rfl⟩ : ∃ e, d = e + 1 := ⟨d - 1, by omega⟩
      have ih := Word_l0 l hl d (n + 1) (by omega)
      have e1 : (n : Int) < ((str l).size : Int) := by omega
      have ebt : bt (str l) (n : Int) = ((l.getD n 0).toNat : Int) := bt_str l n
      simp only [if_pos e1, if_pos e2, if_pos e3, ebt, Letter_f, Option.bind_some, w1 n (by omega), Int.toNat_natCast, take_str, drop_str]
      rw [drop_cons l n hlt, List.takeWhile_cons]
      have hi : isL (l.getD n 0) = letB ((l.getD n 0).toNat : Int) := rfl
      cases h : isL (l.getD n 0) with
      | true =>
        rw [h] at hi
        simp only [← hi, if_true, List.length_cons]
        rw [show n + (((l.drop (n + 1)).takeWhile isL).length + 1) = n + 1 + ((l.drop (n + 1)).takeWhile isL).length by omega]
        exact ih
      | false =>
        rw [h] at hi
        rw [← drop_cons l n hlt]
        simp only [← hi, Bool.false_eq_true, if_false, List.length_nil, Nat.add_zero]
        exact Ev.now _
    · rw [List.drop_of_length_le (show l.length ≤ n by omega)]
      simp only [if_neg (show ¬ (n : Int) < ((str l).size : Int) by omega), if_pos e2, if_pos e3, List.takeWhile_nil, List.length_nil, Nat.add_zero, Int.toNat_natCast, take_str, drop_str]
      exact Ev.now _
theorem Word_ev (l : Str) (hl : l.length ≤ 1000000) : Ev (fun k => manometerref05_Word.f k (str l)) (str (l.takeWhile isL), str (l.dropWhile isL)) := by
  have h := Word_l0 l hl l.length 0 (by omega)
  rw [List.drop_zero, Nat.zero_add, (take_while isL l).1, (take_while isL l).2] at h
  exact h
theorem unq_le : ∀ (d : Nat) (r acc : Str) (n : Nat), r.length ≤ d → (unq acc n r).1.length ≤ acc.length + r.length ∧ (unq acc n r).2.1 ≤ n + r.length
  | _, [], acc, n, _ => by unfold unq; simp
  | 0, c :: r, acc, n, h => by simp at h
  | d + 1, c :: r, acc, n, h => by
    rw [List.length_cons] at h
    unfold unq
    rw [List.length_cons]
    split
    · simp
    · split
      · simp
      · split
        · cases r with
          | nil => simp
          | cons e r =>
            rw [List.length_cons] at h
            simp only [List.length_cons]
            split
            · have := unq_le d r (acc ++ [e]) (n + 2) (by omega)
              rw [List.length_append, List.length_singleton] at this
              omega
            · split
              · have := unq_le d r (acc ++ [10]) (n + 2) (by omega)
                rw [List.length_append, List.length_singleton] at this
                omega
              · simp
        · have := unq_le d r (acc ++ [c]) (n + 1) (by omega)
          rw [List.length_append, List.length_singleton] at this
          omega
theorem unquoteL_le (l : Str) : (unquoteL l).1.length ≤ l.length ∧ (unquoteL l).2.1 ≤ l.length := by
  cases l with
  | nil => simp [unquoteL]
  | cons c r =>
    simp only [unquoteL]
    split
    · have := unq_le r.length r [] 1 (Nat.le_refl _)
      simp only [List.length_nil, List.length_cons] at this ⊢
      omega
    · simp
def pairL (s : Str) : Option (Lab × Str) :=
  if s.takeWhile isL = [] then none else match bareL (s.dropWhile isL) with
  | [] => none
  | c :: r => if c = 61 then (if (unquoteL (bareL r)).2.2 = 0 then some (⟨str (s.takeWhile isL), str (unquoteL (bareL r)).1⟩, bareL ((bareL r).drop (unquoteL (bareL r)).2.1)) else none) else none
def parseL : Nat → Str → List Lab → List Lab × Int
  | 0, _, _ => ([], 8)
  | d + 1, s, acc =>
    match s with
    | [] => ([], 8)
    | b :: s' =>
      if b = 125 then (if bareL s' = [] then makeB acc else ([], 8))
      else match pairL (b :: s') with
      | none => ([], 8)
      | some (x, r) => match r with
        | [] => ([], 8)
        | c :: r' => if c = 44 then parseL d (bareL r') (acc ++ [x]) else if c = 125 then (if bareL r' = [] then makeB (acc ++ [x]) else ([], 8)) else ([], 8)
theorem pairL_le {s : Str} {x : Lab} {r : Str} (h : pairL s = some (x, r)) : r.length < s.length ∧ x.f0.size ≤ s.length ∧ x.f1.size ≤ s.length := by
  unfold pairL at h
  have e := congrArg List.length (List.takeWhile_append_dropWhile (p := isL) (l := s))
  rw [List.length_append] at e
  have h1 := bareL_le (s.dropWhile isL)
  split at h
  · cases h
  · split at h
    · cases h
    · next c r' he =>
      rw [he, List.length_cons] at h1
      split at h
      · split at h
        · have h2 := Option.some.inj h
          have h3 := congrArg (fun p => p.1.f0) h2
          have h4 := congrArg (fun p => p.1.f1) h2
          have h5 := congrArg (fun p => p.2) h2
          simp only at h3 h4 h5
          subst h5
          rw [← h3, ← h4, size_str, size_str]
          have h6 := unquoteL_le (bareL r')
          have h7 := bareL_le r'
          have h8 := bareL_le ((bareL r').drop (unquoteL (bareL r')).2.1)
          rw [List.length_drop] at h8
          omega
        · cases h
      · cases h
def hd (c : UInt8) : Str → Bool
  | [] => false
  | b :: _ => b == c
theorem starts_f (s : Str) (c : UInt8) : labels_starts.f (str s) (c.toNat : Int) = some (hd c s) := by
  unfold labels_starts.f
  rw [toList_str]
  cases s with
  | nil => rfl
  | cons b s =>
    have e1 : (0 : Int) < ((str (b :: s)).size : Int) := by rw [size_str, List.length_cons]; omega
    rw [if_neg (List.cons_ne_nil b s), if_pos e1, bt0_str]
    unfold hd
    congr 1
    rw [Bool.eq_iff_iff, beq_iff_eq, beq_iff_eq]
    constructor
    · intro h
      apply UInt8.toNat_inj.1
      omega
    · rintro rfl
      rfl
theorem starts_125 (s : Str) : labels_starts.f (str s) 125 = some (hd 125 s) := starts_f s 125
theorem starts_123 (s : Str) : labels_starts.f (str s) 123 = some (hd 123 s) := starts_f s 123
theorem starts_61 (s : Str) : labels_starts.f (str s) 61 = some (hd 61 s) := starts_f s 61
theorem starts_44 (s : Str) : labels_starts.f (str s) 44 = some (hd 44 s) := starts_f s 44
theorem unq_ev (s : Str) (hs : s.length ≤ 1000000) : Ev (fun k => labels_Unquote.f k (str s)) (str (unquoteL s).1, ((unquoteL s).2.1 : Int), (unquoteL s).2.2) ∧ Ev (fun k => manometerref05_Unquote.f k (str s)) (str (unquoteL s).1, ((unquoteL s).2.1 : Int), (unquoteL s).2.2) := by
  have := Unquote_ev (str s) (by rw [size_str]; omega)
  rw [B_str] at this
  exact this
theorem one_le (c : UInt8) (r : Str) : (1 : Int) ≤ ((str (c :: r)).size : Int) := by rw [size_str, List.length_cons]; omega
theorem Sm.more {acc : List Lab} {x : Lab} {n : Nat} (h : Sm acc) (hn : acc.length + 1 ≤ 100000) (h0 : x.f0.size ≤ 100000) (h1 : x.f1.size ≤ 100000) : Sm (acc ++ [x]) := by
  refine ⟨by simp; omega, fun z hz => ?_⟩
  rcases List.mem_append.1 hz with hz | hz
  · exact h.2 z hz
  · rw [List.mem_singleton.1 hz]
    exact ⟨h0, h1⟩
theorem end_ev (r : Str) (acc : List Lab) (hs : Sm acc) : Ev (fun k => (labels_bare.f k (str r)).bind fun t162 => (if t162.toList = ([] : List UInt8) then ((labels_Make.f k acc).bind fun bt163 => (some (bt163.1, bt163.2))) else (some (([] : List Lab), 8)))) (if bareL r = [] then makeB acc else ([], 8)) := by
  refine (bare_ev r).bind ?_
  simp only [toList_str]
  by_cases h : bareL r = []
  · simp only [if_pos h]
    exact (Make_ev acc hs).1.bind (Ev.now _)
  · simp only [if_neg h]
    exact Ev.now _
theorem Parse_l0 : ∀ (d : Nat) (s : Str) (acc : List Lab), s.length < d → s.length + acc.length ≤ 100000 → Sm acc → Ev (fun k => labels_Parse.l0 k (str s) acc) (parseL d s acc)
  | 0, s, acc, h, _, _ => by omega
  | d + 1, s, acc, hsd, hsa, hs => by
    refine Ev.step (f := _) (fun k => by simp only [labels_Parse.l0]; rfl) ?_
    simp only [starts_125, Option.bind_some]
    unfold parseL
    have e3 : acc.length < 4398046511104 := by omega
    have key : hd 125 s = false → Ev (fun k => (labels_word.f k (str s)).bind fun bt167 => ((labels_bare.f k bt167.2).bind fun t169 => (if bt167.1.toList = ([] : List UInt8) then (some (([] : List Lab), 8)) else ((labels_starts.f t169 61).bind fun t170 => (if t170 = true then (if 1 ≤ (t169.size : Int) then ((labels_bare.f k (t169.extract 1 t169.size)).bind fun t171 => ((labels_Unquote.f k t171).bind fun bt172 => (if bt172.2.2 = 0 then (if acc.length < 4398046511104 then ((some (acc ++ [(⟨bt167.1, bt172.1⟩ : Lab)] : List Lab)).bind fun y175 => (if 0 ≤ bt172.2.1 then (if bt172.2.1 ≤ (t171.size : Int) then ((labels_bare.f k (t171.extract (bt172.2.1 : Int).toNat t171.size)).bind fun t178 => ((labels_starts.f t178 44).bind fun t179 => (if t179 = true then (if 1 ≤ (t178.size : Int) then ((labels_bare.f k (t178.extract 1 t178.size)).bind fun t180 => (labels_Parse.l0 k t180 y175)) else (none)) else ((labels_starts.f t178 125).bind fun t181 => (if t181 = true then (if 1 ≤ (t178.size : Int) then ((labels_bare.f k (t178.extract 1 t178.size)).bind fun t182 => (if t182.toList = ([] : List UInt8) then ((labels_Make.f k y175).bind fun bt183 => (some (bt183.1, bt183.2))) else (some (([] : List Lab), 8)))) else (none)) else (some (([] : List Lab), 8))))))) else (none)) else (none))) else (none)) else (some (([] : List Lab), 8))))) else (none)) else (some (([] : List Lab), 8)))))))
        (match pairL s with
          | none => ([], 8)
          | some (x, r) => match r with
            | [] => ([], 8)
            | c :: r' => if c = 44 then parseL d (bareL r') (acc ++ [x]) else if c = 125 then (if bareL r' = [] then makeB (acc ++ [x]) else ([], 8)) else ([], 8)) := by
      intro h0
      refine (word_ev s (by omega)).bind ?_
      have hle := fun x r (h : pairL s = some (x, r)) => pairL_le h
      unfold pairL at hle ⊢
      refine (bare_ev _).bind ?_
      simp only [toList_str]
      by_cases h1 : s.takeWhile isL = []
      · simp only [if_pos h1]
        exact Ev.now _
      · simp only [if_neg h1] at hle ⊢
        simp only [starts_61, Option.bind_some]
        have hb1 : (bareL (s.dropWhile isL)).length ≤ s.length := Nat.le_trans (bareL_le _) (dropW_le _ _)
        cases h2 : bareL (s.dropWhile isL) with
        | nil =>
          simp only [hd, Bool.false_eq_true, if_false]
          exact Ev.now _
        | cons c r =>
          rw [h2, List.length_cons] at hb1
          rw [h2] at hle
          by_cases h3 : c = 61
          · have : hd 61 (c :: r) = true := by rw [h3]; rfl
            simp only [this, if_true, if_pos (one_le c r), tail_str, if_pos h3]
            simp only [if_pos h3] at hle
            have hb2 := bareL_le r
            refine (bare_ev r).bind ((unq_ev (bareL r) (by omega)).1.bind ?_)
            obtain ⟨u1, u2⟩ := unquoteL_le (bareL r)
            by_cases h4 : (unquoteL (bareL r)).2.2 = 0
            · simp only [if_pos h4] at hle ⊢
              obtain ⟨z1, z2, z3⟩ := hle _ _ rfl
              generalize hx : (⟨str (s.takeWhile isL), str (unquoteL (bareL r)).1⟩ : Lab) = x at *
              have e4 : (0 : Int) ≤ ((unquoteL (bareL r)).2.1 : Int) := by omega
              have e5 : ((unquoteL (bareL r)).2.1 : Int) ≤ ((str (bareL r)).size : Int) := by rw [size_str]; omega
              simp only [if_pos e3, Option.bind_some, if_pos e4, if_pos e5, Int.toNat_natCast, drop_str]
              refine (bare_ev _).bind ?_
              simp only [starts_44, starts_125, Option.bind_some]
              have hs' : Sm (acc ++ [x]) := Sm.more (n := 0) hs (by omega) (by omega) (by omega)
              cases h5 : bareL ((bareL r).drop (unquoteL (bareL r)).2.1) with
              | nil =>
                simp only [hd, Bool.false_eq_true, if_false]
                exact Ev.now _
              | cons e r' =>
                rw [h5] at z1
                rw [List.length_cons] at z1
                have hb3 := bareL_le r'
                by_cases h6 : e = 44
                · have : hd 44 (e :: r') = true := by rw [h6]; rfl
                  simp only [this, if_true, if_pos (one_le e r'), tail_str, if_pos h6]
                  refine (bare_ev r').bind ?_
                  exact Parse_l0 d (bareL r') (acc ++ [x]) (by omega) (by simp; omega) hs'
                · have : hd 44 (e :: r') = false := by simpa [hd] using h6
                  simp only [this, Bool.false_eq_true, if_false, if_neg h6]
                  by_cases h7 : e = 125
                  · have : hd 125 (e :: r') = true := by rw [h7]; rfl
                    simp only [this, if_true, if_pos (one_le e r'), tail_str, if_pos h7]
                    exact end_ev r' (acc ++ [x]) hs'
                  · have : hd 125 (e :: r') = false := by simpa [hd] using h7
                    simp only [this, Bool.false_eq_true, if_false, if_neg h7]
                    exact Ev.now _
            · simp only [if_neg h4]
              exact Ev.now _
          · have : hd 61 (c :: r) = false := by simpa [hd] using h3
            simp only [this, Bool.false_eq_true, if_false, if_neg h3]
            exact Ev.now _
    cases s with
    | nil =>
      have h := key rfl
      simp only [hd, Bool.false_eq_true, if_false]
      exact h
    | cons b s =>
      by_cases h1 : b = 125
      · have : hd 125 (b :: s) = true := by rw [h1]; rfl
        simp only [this, if_true, if_pos (one_le b s), tail_str, if_pos h1]
        exact end_ev s acc hs
      · have h0 : hd 125 (b :: s) = false := by simpa [hd] using h1
        have h := key h0
        simp only [h0, Bool.false_eq_true, if_false, if_neg h1]
        exact h
def parse (s : Str) : List Lab × Int := match bareL s with
  | [] => ([], 8)
  | b :: s' => if b = 123 then parseL (s.length + 1) (bareL s') [] else ([], 8)
theorem Sm.nil : Sm [] := ⟨by simp, fun x hx => by simp at hx⟩
theorem Parse_ev (s : Str) (hs : s.length ≤ 100000) : Ev (fun k => labels_Parse.f k (str s)) (parse s) := by
  unfold labels_Parse.f parse
  refine (bare_ev s).bind ?_
  simp only [starts_123, Option.bind_some]
  have hb := bareL_le s
  cases h : bareL s with
  | nil =>
    simp only [hd, Bool.false_eq_true, if_false]
    exact Ev.now _
  | cons b r =>
    rw [h, List.length_cons] at hb
    by_cases h1 : b = 123
    · have : hd 123 (b :: r) = true := by rw [h1]; rfl
      simp only [this, if_true, if_pos (one_le b r), tail_str, if_pos h1]
      refine (bare_ev r).bind ?_
      have hb2 := bareL_le r
      exact Parse_l0 _ _ [] (by omega) (by simp; omega) Sm.nil
    · have : hd 123 (b :: r) = false := by simpa [hd] using h1
      simp only [this, Bool.false_eq_true, if_false, if_neg h1]
      exact Ev.now _
theorem pos_le (c : UInt8) (r : Str) : (0 : Int) < ((str (c :: r)).size : Int) := by rw [size_str, List.length_cons]; omega
theorem ne_bt (c m : UInt8) (r : Str) : (bt (str (c :: r)) 0 != (m.toNat : Int)) = !(c == m) := by
  rw [bt0_str, Bool.eq_iff_iff]
  simp only [bne_iff_ne, ne_eq, Bool.not_eq_true', beq_eq_false_iff_ne]
  constructor
  · rintro h rfl; exact h rfl
  · intro h h'
    exact h (UInt8.toNat_inj.1 (by omega))
theorem pair_j0t (s : ByteArray) (x : ByteArray) : Ev (fun k => manometerref05_pair.j0 k s x true) ((⟨#[]⟩ : ByteArray), (⟨#[]⟩ : ByteArray), (⟨#[]⟩ : ByteArray), false) := by
  refine Ev.step (f := _) (fun k => by simp only [manometerref05_pair.j0]; rfl) ?_
  simp only [if_true]
  exact Ev.now _
theorem pair_ev (s : Str) (hs : s.length ≤ 100000) : Ev (fun k => manometerref05_pair.f k (str s)) (match pairL s with | some (x, r) => (x.f0, x.f1, str r, true) | none => ((⟨#[]⟩ : ByteArray), (⟨#[]⟩ : ByteArray), (⟨#[]⟩ : ByteArray), false)) := by
  unfold manometerref05_pair.f pairL
  refine (Word_ev s (by omega)).bind ?_
  refine (Bare_ev _).bind ?_
  simp only [toList_str]
  by_cases h1 : s.takeWhile isL = []
  · simp only [if_pos h1]
    exact pair_j0t _ _
  · simp only [if_neg h1]
    have hb1 : (bareL (s.dropWhile isL)).length ≤ s.length := Nat.le_trans (bareL_le _) (dropW_le _ _)
    cases h2 : bareL (s.dropWhile isL) with
    | nil =>
      simp only [if_true]
      exact pair_j0t _ _
    | cons c r =>
      rw [h2, List.length_cons] at hb1
      have hne : (bt (str (c :: r)) 0 != 61) = !(c == 61) := ne_bt c 61 r
      simp only [if_neg (List.cons_ne_nil c r), if_pos (pos_le c r), hne]
      by_cases h3 : c = 61
      · have : (c == 61) = true := by rw [h3]; rfl
        simp only [this, Bool.not_true, if_pos h3]
        refine Ev.step (f := _) (fun k => by simp only [manometerref05_pair.j0]; rfl) ?_
        simp only [Bool.false_eq_true, if_false, if_pos (one_le c r), tail_str]
        have hb2 := bareL_le r
        refine (Bare_ev r).bind ((unq_ev (bareL r) (by omega)).2.bind ?_)
        obtain ⟨u1, u2⟩ := unquoteL_le (bareL r)
        by_cases h4 : (unquoteL (bareL r)).2.2 = 0
        · have e4 : (0 : Int) ≤ ((unquoteL (bareL r)).2.1 : Int) := by omega
          have e5 : ((unquoteL (bareL r)).2.1 : Int) ≤ ((str (bareL r)).size : Int) := by rw [size_str]; omega
          simp only [if_pos h4, if_pos e4, if_pos e5, Int.toNat_natCast, drop_str]
          exact (Bare_ev _).bind (Ev.now _)
        · simp only [if_neg h4]
          exact Ev.now _
      · have : (c == 61) = false := by simpa using h3
        simp only [this, Bool.not_false, if_neg h3]
        exact pair_j0t _ _
theorem RParse_end (r : Str) (acc : List Lab) (hs : Sm acc) : Ev (fun k => manometerref05_Parse.l0 k (str (125 :: r)) acc) (if bareL r = [] then makeB acc else ([], 8)) := by
  refine Ev.step (f := _) (fun k => by simp only [manometerref05_Parse.l0]; rfl) ?_
  have hne : (bt (str (125 :: r)) 0 != 125) = false := ne_bt 125 125 r
  simp only [toList_str, if_neg (List.cons_ne_nil (125 : UInt8) r), if_pos (pos_le 125 r), hne]
  refine Ev.step (f := _) (fun k => by simp only [manometerref05_Parse.j2]; rfl) ?_
  simp only [Bool.false_eq_true, if_false, toList_str, if_neg (List.cons_ne_nil (125 : UInt8) r), if_pos (one_le 125 r), tail_str]
  refine (Bare_ev r).bind ?_
  simp only [toList_str]
  by_cases h : bareL r = []
  · simp only [if_pos h]
    exact (Make_ev acc hs).2.bind (Ev.now _)
  · simp only [if_neg h]
    exact Ev.now _
theorem Parse_j3t (acc : List Lab) (r a b : ByteArray) : Ev (fun k => manometerref05_Parse.j3 k acc r true a b) ([], 8) := by
  refine Ev.step (f := _) (fun k => by simp only [manometerref05_Parse.j3]; rfl) ?_
  simp only [if_true]
  exact Ev.now _
theorem RParse_l0 : ∀ (d : Nat) (s : Str) (acc : List Lab), s.length < d → s.length + acc.length ≤ 100000 → Sm acc → Ev (fun k => manometerref05_Parse.l0 k (str s) acc) (parseL d s acc)
  | 0, s, acc, h, _, _ => by omega
  | d + 1, [], acc, hsd, hsa, hs => by
    refine Ev.step (f := _) (fun k => by simp only [manometerref05_Parse.l0]; rfl) ?_
    simp only [toList_str, if_true]
    refine Ev.step (f := _) (fun k => by simp only [manometerref05_Parse.j2]; rfl) ?_
    simp only [Bool.false_eq_true, if_false, toList_str, if_true]
    exact Ev.now _
  | d + 1, b :: s, acc, hsd, hsa, hs => by
    unfold parseL
    by_cases h1 : b = 125
    · subst h1
      simp only [if_true]
      exact RParse_end s acc hs
    · simp only [if_neg h1]
      refine Ev.step (f := _) (fun k => by simp only [manometerref05_Parse.l0]; rfl) ?_
      have hne : (bt (str (b :: s)) 0 != 125) = true := by rw [show (125 : Int) = ((125 : UInt8).toNat : Int) from rfl, ne_bt b 125 s]; simpa using h1
      simp only [toList_str, if_neg (List.cons_ne_nil b s), if_pos (pos_le b s), hne]
      refine Ev.step (f := _) (fun k => by simp only [manometerref05_Parse.j2]; rfl) ?_
      simp only [if_true]
      refine (pair_ev (b :: s) (by omega)).bind ?_
      cases h2 : pairL (b :: s) with
      | none =>
        simp only [Bool.false_eq_true, if_false]
        exact Parse_j3t _ _ _ _
      | some xr =>
        obtain ⟨x, r⟩ := xr
        obtain ⟨z1, z2, z3⟩ := pairL_le h2
        have e3 : acc.length < 4398046511104 := by omega
        simp only [if_true, toList_str]
        cases r with
        | nil => exact Parse_j3t _ _ _ _
        | cons c r =>
          rw [List.length_cons] at z1
          have hs' : Sm (acc ++ [x]) := Sm.more (n := 0) hs (by omega) (by omega) (by omega)
          have hbe : ((c :: r) == ([] : Str)) = false := rfl
          simp only [hbe]
          refine Ev.step (f := _) (fun k => by simp only [manometerref05_Parse.j3]; rfl) ?_
          simp only [Bool.false_eq_true, if_false, if_pos e3, Option.bind_some, if_pos (pos_le c r), bt0_str]
          by_cases h3 : c = 44
          · simp only [if_pos ((c44 c).2 h3), if_pos h3, if_pos (one_le c r), tail_str]
            refine (Bare_ev r).bind ?_
            have hb := bareL_le r
            exact RParse_l0 d (bareL r) (acc ++ [x]) (by omega) (by simp; omega) hs'
          · simp only [if_neg (fun h => h3 ((c44 c).1 h)), if_neg h3]
            by_cases h4 : c = 125
            · simp only [if_pos ((c125 c).2 h4), if_pos h4]
              subst h4
              exact RParse_end r (acc ++ [x]) hs'
            · simp only [if_neg (fun h => h4 ((c125 c).1 h)), if_neg h4]
              exact Ev.now _
theorem RParse_ev (s : Str) (hs : s.length ≤ 100000) : Ev (fun k => manometerref05_Parse.f k (str s)) (parse s) := by
  unfold manometerref05_Parse.f parse
  refine (Bare_ev s).bind ?_
  simp only [toList_str]
  have hb := bareL_le s
  have j0t : Ev (fun k => manometerref05_Parse.j0 k (str (bareL s)) true) ([], 8) := by
    refine Ev.step (f := _) (fun k => by simp only [manometerref05_Parse.j0]; rfl) ?_
    simp only [if_true]
    exact Ev.now _
  cases h : bareL s with
  | nil =>
    rw [h] at j0t
    simp only [if_true]
    exact j0t
  | cons b r =>
    rw [h] at j0t
    rw [h, List.length_cons] at hb
    have hne : (bt (str (b :: r)) 0 != 123) = !(b == 123) := ne_bt b 123 r
    simp only [if_neg (List.cons_ne_nil b r), if_pos (pos_le b r), hne]
    by_cases h1 : b = 123
    · have : (b == 123) = true := by rw [h1]; rfl
      simp only [this, Bool.not_true, if_pos h1]
      refine Ev.step (f := _) (fun k => by simp only [manometerref05_Parse.j0]; rfl) ?_
      simp only [Bool.false_eq_true, if_false, if_pos (one_le b r), tail_str]
      refine (Bare_ev r).bind ?_
      have hb2 := bareL_le r
      exact RParse_l0 _ _ [] (by omega) (by simp; omega) Sm.nil
    · have : (b == 123) = false := by simpa using h1
      simp only [this, Bool.not_false, if_neg h1]
      exact j0t
end Go.Proofs.YtdhmabofncbohaaDoor.Pu
