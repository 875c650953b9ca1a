import Derived.Test.YtbpmgaaipkenkaaDoorCLimitSeriesPMSx5
import Derived.Test.YtbpmgaaipkenkaaDoorCLimitSeriesPV
import Derived.Test.YtbpmgaaipkenkaaDoorCLimitSeriesM24
import Derived.Test.YtbpmgaaipkenkaaDoorCLimitSeriesM30
import Derived.Test.YtbpmgaaipkenkaaDoorCLimitSeriesG2
import Derived.Lib.LaidU8
import Derived.LaidMore
import Derived.Test.YtbpmgaaipkenkaaDoorCLimitSeriesPMCx0
import Derived.Test.YtbpmgaaipkenkaaDoorRows
import Derived.Lib.LaidU8T
section
namespace Go.Proofs.YtbpmgaaipkenkaaDoor.Pv
open Go Go.RowKit Go.Proofs.YtbpmgaaipkenkaaDoor Go.Proofs.YtbpmgaaipkenkaaDoor.Pu Go.Proofs.YtbpmgaaipkenkaaDoor.PMS Go.Proofs.YtbpmgaaipkenkaaDoorW.PrintWords Go.Proofs.YtbpmgaaipkenkaaDoorW.PrintLast Go.Proofs.YtbpmgaaipkenkaaDoorW.PrintMore
set_option linter.unusedVariables false
set_option linter.unusedSimpArgs false
def Short (x : List Lab) : Prop := x.length ≤ 30 ∧ ∀ y ∈ x, y.f0.size ≤ 300 ∧ y.f1.size ≤ 300
theorem Short.sm {x : List Lab} (h : Short x) : Sm x := ⟨by have := h.1; omega, fun y hy => by have := h.2 y hy; omega⟩
theorem few_l1 (L Y : List (List Lab)) (n : Nat) (x : List Lab) (hx : x.length ≤ 30) (P : Prop) (hcont : Short x → ∃ r, Ev (fun k => manometerlaw19_few.l0 k L Y (Y.length : Int) (wrap64 ((n : Int) + 1))) r ∧ (r = true → P)) :
    ∀ (d m : Nat), m + d = x.length → (∀ j, j < m → (x.getD j z66).f0.size ≤ 300 ∧ (x.getD j z66).f1.size ≤ 300) → ∃ r, Ev (fun k => manometerlaw19_few.l1 k L Y (Y.length : Int) (n : Int) x (x.length : Int) (m : Int)) r ∧ (r = true → P)
  | d, m, hd, hj => by
    by_cases hlt : m < x.length
    · obtain ⟨d, rfl⟩ : ∃ e, d = e + 1 := ⟨d - 1, by omega⟩
      have e1 : (m : Int) < (x.length : Int) := by omega
      have e2 : (0 : Int) ≤ (m : Int) := by omega
      have ih := few_l1 L Y n x hx P hcont d (m + 1) (by omega)
      by_cases h0 : (x.getD m z66).f0.size ≤ 300
      · by_cases h1 : (x.getD m z66).f1.size ≤ 300
        · obtain ⟨r, hr, hp⟩ := ih (fun j hjm => by
            by_cases he : j < m
            · exact hj j he
            · obtain rfl : j = m := by omega
              exact ⟨h0, h1⟩)
          refine ⟨r, Ev.step (f := _) (fun k => by simp only [manometerlaw19_few.l1]; rfl) ?_, hp⟩
          simp only [if_pos e1, if_pos e2, rdn, if_neg (show ¬ ((x.getD m z66).f0.size : Int) > 300 by omega), if_neg (show ¬ ((x.getD m z66).f1.size : Int) > 300 by omega), w1 m (by omega)]
          exact hr
        · refine ⟨false, Ev.step (f := _) (fun k => by simp only [manometerlaw19_few.l1]; rfl) ?_, fun h => by cases h⟩
          simp only [if_pos e1, if_pos e2, rdn, if_neg (show ¬ ((x.getD m z66).f0.size : Int) > 300 by omega), if_pos (show ((x.getD m z66).f1.size : Int) > 300 by omega)]
          exact Ev.now _
      · refine ⟨false, Ev.step (f := _) (fun k => by simp only [manometerlaw19_few.l1]; rfl) ?_, fun h => by cases h⟩
        simp only [if_pos e1, if_pos e2, rdn, if_pos (show ((x.getD m z66).f0.size : Int) > 300 by omega)]
        exact Ev.now _
    · obtain ⟨r, hr, hp⟩ := hcont ⟨hx, fun y hy => by
        obtain ⟨j, hjl, rfl⟩ := List.mem_iff_getElem.1 hy
        have := hj j (by omega)
        rwa [List.getD_eq_getElem?_getD, List.getElem?_eq_getElem hjl] at this⟩
      refine ⟨r, Ev.step (f := _) (fun k => by simp only [manometerlaw19_few.l1]; rfl) ?_, hp⟩
      simp only [if_neg (show ¬ (m : Int) < (x.length : Int) by omega)]
      exact hr
theorem rdl (l : List (List Lab)) (n : Nat) : rd_L5 l (n : Int) = l.getD n [] := by unfold rd_L5; rw [Int.toNat_natCast]
theorem few_l0 (L Y : List (List Lab)) (hY : Y.length ≤ 40) : ∀ (d n : Nat), n + d = Y.length → (∀ j, j < n → Short (Y.getD j [])) →
    ∃ r, Ev (fun k => manometerlaw19_few.l0 k L Y (Y.length : Int) (n : Int)) r ∧ (r = true → L.length ≤ 40 ∧ ∀ x ∈ Y, Short x)
  | d, n, hd, hj => by
    by_cases hlt : n < Y.length
    · obtain ⟨d, rfl⟩ : ∃ e, d = e + 1 := ⟨d - 1, by omega⟩
      have e1 : (n : Int) < (Y.length : Int) := by omega
      have e2 : (0 : Int) ≤ (n : Int) := by omega
      by_cases h30 : (Y.getD n []).length ≤ 30
      · obtain ⟨r, hr, hp⟩ := few_l1 L Y n (Y.getD n []) h30 (L.length ≤ 40 ∧ ∀ x ∈ Y, Short x) (fun hs => by
          rw [w1 n (by omega)]
          exact few_l0 L Y hY d (n + 1) (by omega) (fun j hjn => by
            by_cases he : j < n
            · exact hj j he
            · obtain rfl : j = n := by omega
              exact hs)) (Y.getD n []).length 0 (by omega) (fun j h => absurd h (Nat.not_lt_zero j))
        refine ⟨r, Ev.step (f := _) (fun k => by simp only [manometerlaw19_few.l0]; rfl) ?_, hp⟩
        simp only [if_pos e1, if_pos e2, rdl, if_neg (show ¬ ((Y.getD n []).length : Int) > 30 by omega)]
        exact hr
      · refine ⟨false, Ev.step (f := _) (fun k => by simp only [manometerlaw19_few.l0]; rfl) ?_, fun h => by cases h⟩
        simp only [if_pos e1, if_pos e2, rdl, if_pos (show ((Y.getD n []).length : Int) > 30 by omega)]
        exact Ev.now _
    · refine ⟨decide ((L.length : Int) ≤ 40), Ev.step (f := _) (fun k => by simp only [manometerlaw19_few.l0]; rfl) ?_, fun h => ?_⟩
      · simp only [if_neg (show ¬ (n : Int) < (Y.length : Int) by omega)]
        exact Ev.now _
      · have := of_decide_eq_true h
        refine ⟨by omega, fun x hx => ?_⟩
        obtain ⟨j, hjl, rfl⟩ := List.mem_iff_getElem.1 hx
        have := hj j (by omega)
        rwa [List.getD_eq_getElem?_getD, List.getElem?_eq_getElem hjl] at this
theorem few_all (L : List (List Lab)) : ∃ r, (∃ k, manometerlaw19_few.f k L = some r) ∧ (r = true → L.length ≤ 40 ∧ ∀ x ∈ L, Short x) := by
  have hm : mn (L.length : Int) 40 = ((min L.length 40 : Nat) : Int) := by unfold mn; omega
  obtain ⟨r, hr, hp⟩ := few_l0 L (L.take (min L.length 40)) (by rw [List.length_take]; omega) (L.take (min L.length 40)).length 0 (by omega) (fun j h => absurd h (Nat.not_lt_zero j))
  refine ⟨r, Ev.rounds (g := fun k => manometerlaw19_few.f k L) ?_, fun h => ?_⟩
  · unfold manometerlaw19_few.f
    rw [hm]
    simp only [if_pos (show (0 : Int) ≤ ((min L.length 40 : Nat) : Int) by omega), if_pos (show ((min L.length 40 : Nat) : Int) ≤ (L.length : Int) by omega), Option.bind_some, Int.toNat_natCast]
    exact hr
  · obtain ⟨h1, h2⟩ := hp h
    refine ⟨h1, fun x hx => h2 x ?_⟩
    rw [List.take_of_length_le (by omega)]
    exact hx
open Classical in
noncomputable def rtS (x : List Lab) : Int := if Sm x then rightB x else 1
noncomputable def nmS (x : List Lab) : ByteArray := str (printL x)
theorem facts_sm {x : List Lab} (h : Sm x) : x.length < 4398046511104 ∧ (∃ k, labels_Right.f k x = some (rtS x)) ∧ (rtS x = 0 → ∃ k, labels_Print.f k x = some (nmS x)) := by
  have e : rtS x = rightB x := if_pos h
  refine ⟨by have := h.1; omega, ?_, fun _ => Ev.rounds (g := fun k => labels_Print.f k x) (Print_ev x h)⟩
  rw [e]
  exact Ev.rounds (g := fun k => labels_Right.f k x) (Right_ev x h).1
theorem sm_of {x : List Lab} (h : rtS x = 0) : Sm x := by
  unfold rtS at h
  split at h
  · assumption
  · cases h
theorem facts : Facts rtS nmS cmpB :=
  ⟨fun L => by
    obtain ⟨r, h1, h2⟩ := few_all L
    exact ⟨r, h1, fun h => ⟨(h2 h).1, fun x hx => facts_sm ((h2 h).2 x hx).sm⟩⟩,
   fun x h => facts_sm (sm_of h),
   fun x y hx hy => Ev.rounds (g := fun k => labels_Compare.f k x y) (Compare_ev x y (by have := (sm_of hx).1; omega)).1⟩
end Go.Proofs.YtbpmgaaipkenkaaDoor.Pv
namespace Go.Proofs.YtbpmgaaipkenkaaDoor.PMS
abbrev S52 := ComeS
abbrev k52 := kCome
end Go.Proofs.YtbpmgaaipkenkaaDoor.PMS
end
section
namespace Go.Proofs.YtbpmgaaipkenkaaDoor.Pv
open Go Go.RowKit Go.Proofs.YtbpmgaaipkenkaaDoor Go.Proofs.YtbpmgaaipkenkaaDoor.Pu Go.Proofs.YtbpmgaaipkenkaaDoor.PMS Go.Proofs.YtbpmgaaipkenkaaDoorW.PrintWords Go.Proofs.YtbpmgaaipkenkaaDoorW.PrintLast Go.Proofs.YtbpmgaaipkenkaaDoorW.PrintMore
set_option linter.unusedVariables false
set_option linter.unusedSimpArgs false
def unq (acc : Str) (n : Nat) : Str → Str × Nat × Int
  | [] => ([], 0, 6)
  | c :: r =>
    if c = 34 then (acc, n + 1, 0)
    else if c = 10 then ([], 0, 8)
    else if c = 92 then
      match r with
      | [] => ([], 0, 6)
      | d :: r' => if d = 34 ∨ d = 92 then unq (acc ++ [d]) (n + 2) r' else if d = 110 then unq (acc ++ [10]) (n + 2) r' else ([], 0, 8)
    else unq (acc ++ [c]) (n + 1) r
def unquoteL : Str → Str × Nat × Int
  | [] => ([], 0, 6)
  | c :: r => if c = 34 then unq [] 1 r else ([], 0, 8)
theorem less_trans : ∀ {x y z : Str}, Op.bytesLess x y = true → Op.bytesLess y z = true → Op.bytesLess x z = true
  | _, [], _, h, _ => by cases h' : (‹Str›) <;> simp [Op.bytesLess] at h
  | x, b :: y, [], _, h => by simp [Op.bytesLess] at h
  | [], b :: y, c :: z, _, _ => rfl
  | a :: x, b :: y, c :: z, h1, h2 => by
    simp only [Op.bytesLess, Bool.or_eq_true, decide_eq_true_eq, Bool.and_eq_true, beq_iff_eq] at h1 h2 ⊢
    rcases h1 with h1 | ⟨rfl, h1⟩
    · rcases h2 with h2 | ⟨rfl, h2⟩
      · left
        rw [UInt8.lt_iff_toNat_lt] at h1 h2 ⊢
        omega
      · exact .inl h1
    · rcases h2 with h2 | ⟨rfl, h2⟩
      · exact .inl h2
      · exact .inr ⟨rfl, less_trans h1 h2⟩
theorem less_asymm {x y : Str} (h : Op.bytesLess x y = true) : Op.bytesLess y x = false := by
  rw [less_gt x y, h]
  rfl
theorem tc_neg (x y : Str) : tc y x = -tc x y := by
  unfold tc
  cases h1 : Op.bytesLess x y with
  | true => rw [less_asymm h1]; rfl
  | false => cases h2 : Op.bytesLess y x <;> rfl
theorem cmpL_zero : ∀ {a b : List (Str × Str)}, cmpL a b = 0 ↔ a = b
  | [], [] => by simp [cmpL]
  | [], _ :: _ => by simp [cmpL]
  | _ :: _, [] => by simp [cmpL]
  | x :: a, y :: b => by
    unfold cmpL
    by_cases h1 : tc x.1 y.1 = 0
    · rw [if_pos h1]
      by_cases h2 : tc x.2 y.2 = 0
      · rw [if_pos h2, cmpL_zero]
        have e1 := tc_zero.1 h1
        have e2 := tc_zero.1 h2
        have : x = y := Prod.ext e1 e2
        rw [this]
        simp
      · rw [if_neg h2]
        constructor
        · exact fun h => absurd h h2
        · intro h
          injection h with h _
          exact absurd (tc_zero.2 (by rw [h])) h2
    · rw [if_neg h1]
      constructor
      · exact fun h => absurd h h1
      · intro h
        injection h with h _
        exact absurd (tc_zero.2 (by rw [h])) h1
theorem cmpL_neg : ∀ a b : List (Str × Str), cmpL b a = -cmpL a b
  | [], [] => rfl
  | [], _ :: _ => rfl
  | _ :: _, [] => rfl
  | x :: a, y :: b => by
    unfold cmpL
    have e1 := tc_neg x.1 y.1
    have e2 := tc_neg x.2 y.2
    by_cases h1 : tc x.1 y.1 = 0
    · rw [if_pos h1, if_pos (by omega)]
      by_cases h2 : tc x.2 y.2 = 0
      · rw [if_pos h2, if_pos (by omega), cmpL_neg a b]
      · rw [if_neg h2, if_neg (by omega), e2]
    · rw [if_neg h1, if_neg (by omega), e1]
theorem tc_trans {x y z : Str} (h1 : tc x y ≤ 0) (h2 : tc y z ≤ 0) : tc x z ≤ 0 ∧ (tc x z = 0 → tc x y = 0 ∧ tc y z = 0) := by
  rcases tc_cases x y with a | a | a
  · rcases tc_cases y z with b | b | b
    · have := tc_lt.2 (less_trans (tc_lt.1 a) (tc_lt.1 b))
      omega
    · rw [tc_zero.1 b] at a
      omega
    · omega
  · have e := tc_zero.1 a
    subst e
    exact ⟨h2, fun h => ⟨a, h⟩⟩
  · omega
theorem cmpL_trans : ∀ {a b c : List (Str × Str)}, cmpL a b ≤ 0 → cmpL b c ≤ 0 → cmpL a c ≤ 0 ∧ (cmpL a c = 0 → cmpL a b = 0 ∧ cmpL b c = 0)
  | [], [], [], _, _ => by simp [cmpL]
  | [], [], _ :: _, _, _ => by simp [cmpL]
  | [], _ :: _, [], _, h => by simp [cmpL] at h
  | [], _ :: _, _ :: _, _, _ => by simp [cmpL]
  | _ :: _, [], _, h, _ => by simp [cmpL] at h
  | _ :: _, _ :: _, [], _, h => by simp [cmpL] at h
  | x :: a, y :: b, z :: c, h1, h2 => by
    unfold cmpL at h1 h2 ⊢
    by_cases p1 : tc x.1 y.1 = 0
    · by_cases p2 : tc y.1 z.1 = 0
      · have p3 : tc x.1 z.1 = 0 := by rw [tc_zero.1 p1, tc_zero.1 p2]; exact tc_zero.2 rfl
        rw [if_pos p1] at h1 ⊢
        rw [if_pos p2] at h2 ⊢
        rw [if_pos p3]
        by_cases q1 : tc x.2 y.2 = 0
        · by_cases q2 : tc y.2 z.2 = 0
          · have q3 : tc x.2 z.2 = 0 := by rw [tc_zero.1 q1, tc_zero.1 q2]; exact tc_zero.2 rfl
            rw [if_pos q1] at h1 ⊢
            rw [if_pos q2] at h2 ⊢
            rw [if_pos q3]
            exact cmpL_trans h1 h2
          · rw [if_pos q1] at h1 ⊢
            rw [if_neg q2] at h2 ⊢
            have e := tc_zero.1 q1
            rw [e, if_neg q2]
            exact ⟨h2, fun h => absurd h q2⟩
        · rw [if_neg q1] at h1 ⊢
          have h2' : tc y.2 z.2 ≤ 0 := by
            by_cases q2 : tc y.2 z.2 = 0
            · omega
            · rw [if_neg q2] at h2; exact h2
          obtain ⟨t1, t2⟩ := tc_trans h1 h2'
          rw [if_neg (fun h => q1 (t2 h).1)]
          exact ⟨t1, fun h => absurd (t2 h).1 q1⟩
      · have e := tc_zero.1 p1
        rw [if_pos p1] at h1 ⊢
        rw [if_neg p2] at h2 ⊢
        rw [e, if_neg p2]
        exact ⟨h2, fun h => absurd h p2⟩
    · rw [if_neg p1] at h1 ⊢
      have h2' : tc y.1 z.1 ≤ 0 := by
        by_cases p2 : tc y.1 z.1 = 0
        · omega
        · rw [if_neg p2] at h2; exact h2
      obtain ⟨t1, t2⟩ := tc_trans h1 h2'
      rw [if_neg (fun h => p1 (t2 h).1)]
      exact ⟨t1, fun h => absurd (t2 h).1 p1⟩
theorem cmpB_zero {a b : List Lab} : cmpB a b = 0 ↔ a = b := by
  unfold cmpB
  rw [cmpL_zero]
  exact ⟨prs_inj, fun h => by rw [h]⟩
theorem cmpB_neg (a b : List Lab) : cmpB b a = -cmpB a b := cmpL_neg _ _
abbrev lt (a b : ByteArray) : Prop := Op.bytesLess (B a) (B b) = true
def ins (out : List Lab) (x : Lab) : List Lab := out.takeWhile (fun z => decide (lt z.f0 x.f0)) ++ x :: out.dropWhile (fun z => decide (lt z.f0 x.f0))
theorem ins_app (X Y : List Lab) (x : Lab) (h : ∀ z ∈ X, lt z.f0 x.f0) (h' : ∀ z ∈ Y, ¬ lt z.f0 x.f0) : ins (X ++ Y) x = X ++ x :: Y := by
  unfold ins
  have h1 : (X ++ Y).takeWhile (fun z => decide (lt z.f0 x.f0)) = X := by
    induction X with
    | nil => cases Y with
      | nil => rfl
      | cons y Y => simp [List.takeWhile_cons, h' y (List.mem_cons_self)]
    | cons a X ih => simp only [List.cons_append, List.takeWhile_cons, decide_eq_true (h a List.mem_cons_self), if_true, ih (fun z hz => h z (List.mem_cons_of_mem _ hz))]
  have h2 : (X ++ Y).dropWhile (fun z => decide (lt z.f0 x.f0)) = Y := by
    induction X with
    | nil => cases Y with
      | nil => rfl
      | cons y Y => simp [List.dropWhile_cons, h' y (List.mem_cons_self)]
    | cons a X ih =>
      have e := ih (fun z hz => h z (List.mem_cons_of_mem _ hz)) (by
        have := congrArg List.tail h1
        simpa only [List.cons_append, List.takeWhile_cons, decide_eq_true (h a List.mem_cons_self), if_true, List.tail_cons] using this)
      simp only [List.cons_append, List.dropWhile_cons, decide_eq_true (h a List.mem_cons_self), if_true, e]
  rw [h1, h2]
def firstW : List Lab → Option Int
  | [] => none
  | x :: l => if wrongB true x = 0 then firstW l else some (wrongB true x)
def rmk : List Lab → List Lab → List Lab → List Lab × Int
  | _, out, [] => if out.length ≤ 16 then (out, 0) else ([], 3)
  | seen, out, x :: l => if seen.any (fun z => decide (B z.f0 = B x.f0)) = true then ([], 52) else rmk (seen ++ [x]) (if B x.f1 = [] then out else ins out x) l
def makeB (l : List Lab) : List Lab × Int := match firstW l with | some e => ([], e) | none => rmk [] [] l
abbrev Up (l : List Lab) : Prop := l.Pairwise (fun a b => lt a.f0 b.f0)
def RightP (l : List Lab) : Prop := (∀ x ∈ l, wrongB false x = 0) ∧ Up l
theorem nle (x q : Str) : (Op.bytesLess x q || decide (x = q)) = true ↔ ¬ Op.bytesLess q x = true := by
  constructor
  · intro h h'
    rw [Bool.or_eq_true] at h
    rcases h with h | h
    · rw [less_asymm h] at h'; cases h'
    · rw [of_decide_eq_true h, less_irrefl] at h'; cases h'
  · intro h
    by_cases h1 : Op.bytesLess x q = true
    · rw [h1]; rfl
    · have : x = q := less_total (by simpa using h1) (by simpa using h)
      simp [this]
theorem rgt_some : ∀ (l : List Lab) (q : Str), rgt (some q) l = 0 ↔ RightP l ∧ ∀ x ∈ l, Op.bytesLess q (B x.f0) = true
  | [], q => by simp [rgt, RightP]
  | x :: l, q => by
    unfold rgt
    by_cases hw : wrongB false x = 0
    · simp only [if_pos hw]
      by_cases hc : Op.bytesLess q (B x.f0) = true
      · have h1 : ¬ (Op.bytesLess (B x.f0) q || decide (B x.f0 = q)) = true := fun h => (nle _ _).1 h hc
        rw [if_neg h1, rgt_some l (B x.f0)]
        unfold RightP
        constructor
        · rintro ⟨⟨a, b⟩, c⟩
          refine ⟨⟨fun z hz => ?_, List.pairwise_cons.2 ⟨c, b⟩⟩, fun z hz => ?_⟩
          · rcases List.mem_cons.1 hz with rfl | hz
            · exact hw
            · exact a z hz
          · rcases List.mem_cons.1 hz with rfl | hz
            · exact hc
            · exact less_trans hc (c z hz)
        · rintro ⟨⟨a, b⟩, c⟩
          exact ⟨⟨fun z hz => a z (List.mem_cons_of_mem _ hz), (List.pairwise_cons.1 b).2⟩, (List.pairwise_cons.1 b).1⟩
      · rw [if_pos ((nle _ _).2 hc)]
        constructor
        · intro h; cases h
        · rintro ⟨_, c⟩
          exact absurd (c x List.mem_cons_self) hc
    · simp only [if_neg hw]
      constructor
      · intro h; exact absurd h hw
      · rintro ⟨⟨a, _⟩, _⟩
        exact absurd (a x List.mem_cons_self) hw
theorem rgt_none : ∀ (l : List Lab), rgt none l = 0 ↔ RightP l
  | [] => by simp [rgt, RightP]
  | x :: l => by
    unfold rgt
    by_cases hw : wrongB false x = 0
    · simp only [if_pos hw, Bool.false_eq_true, if_false]
      rw [rgt_some l (B x.f0)]
      unfold RightP
      constructor
      · rintro ⟨⟨a, b⟩, c⟩
        refine ⟨fun z hz => ?_, List.pairwise_cons.2 ⟨c, b⟩⟩
        rcases List.mem_cons.1 hz with rfl | hz
        · exact hw
        · exact a z hz
      · rintro ⟨a, b⟩
        exact ⟨⟨fun z hz => a z (List.mem_cons_of_mem _ hz), (List.pairwise_cons.1 b).2⟩, (List.pairwise_cons.1 b).1⟩
    · simp only [if_neg hw]
      constructor
      · intro h; exact absurd h hw
      · rintro ⟨a, _⟩
        exact absurd (a x List.mem_cons_self) hw
theorem right_zero (l : List Lab) : rightB l = 0 ↔ l.length ≤ 16 ∧ RightP l := by
  unfold rightB
  by_cases h : l.length ≤ 16
  · rw [if_pos h, rgt_none]
    exact ⟨fun h' => ⟨h, h'⟩, fun h' => h'.2⟩
  · rw [if_neg h]
    exact ⟨fun h1 => (by cases h1), fun h1 => absurd h1.1 h⟩
theorem firstW_none : ∀ l : List Lab, firstW l = none ↔ ∀ x ∈ l, wrongB true x = 0
  | [] => by simp [firstW]
  | x :: l => by
    unfold firstW
    by_cases h : wrongB true x = 0
    · rw [if_pos h, firstW_none l]
      simp [h]
    · rw [if_neg h]
      simp [h]
theorem wrong_both (x : Lab) : wrongB false x = 0 ↔ wrongB true x = 0 ∧ ¬ B x.f1 = [] := by
  unfold wrongB
  simp only [Bool.false_eq_true, if_false, if_true]
  split
  · split
    · split
      · next h => simp [h]
      · next h => simp [h]
    · simp
  · simp
theorem rmk_up : ∀ (l seen : List Lab), Up (seen ++ l) → (∀ x ∈ l, ¬ B x.f1 = []) → (seen ++ l).length ≤ 16 → rmk seen seen l = (seen ++ l, 0)
  | [], seen, hu, _, hl => by
    unfold rmk
    rw [List.append_nil] at hl ⊢
    rw [if_pos hl]
  | x :: l, seen, hu, hn, hl => by
    unfold rmk
    have hlt : ∀ z ∈ seen, lt z.f0 x.f0 := fun z hz => (List.pairwise_append.1 hu).2.2 z hz x List.mem_cons_self
    have ha : ¬ seen.any (fun z => decide (B z.f0 = B x.f0)) = true := by
      intro h
      obtain ⟨z, hz, e⟩ := List.any_eq_true.1 h
      have := hlt z hz
      unfold lt at this
      rw [of_decide_eq_true e, less_irrefl] at this
      cases this
    rw [if_neg ha, if_neg (hn x List.mem_cons_self)]
    have hi : ins seen x = seen ++ [x] := by
      have := ins_app seen [] x hlt (fun z hz => by simp at hz)
      rw [List.append_nil] at this
      exact this
    have e : seen ++ x :: l = (seen ++ [x]) ++ l := by simp
    rw [e] at hu hl
    rw [hi, e, rmk_up l (seen ++ [x]) hu (fun z hz => hn z (List.mem_cons_of_mem _ hz)) hl]
theorem makeB_right (l : List Lab) (h : rightB l = 0) : makeB l = (l, 0) := by
  obtain ⟨h1, h2, h3⟩ := (right_zero l).1 h
  have hf : firstW l = none := (firstW_none l).2 fun x hx => ((wrong_both x).1 (h2 x hx)).1
  unfold makeB
  rw [hf]
  exact rmk_up l [] h3 (fun x hx => ((wrong_both x).1 (h2 x hx)).2) h1
def bareL (l : Str) : Str := l.dropWhile (fun c => c == 32)
def isL (c : UInt8) : Bool := letB (c.toNat : Int)
def pairL (s : Str) : Option (Lab × Str) :=
  if s.takeWhile isL = [] then none else match bareL (s.dropWhile isL) with
  | [] => none
  | c :: r => if c = 61 then (if (unquoteL (bareL r)).2.2 = 0 then some (⟨str (s.takeWhile isL), str (unquoteL (bareL r)).1⟩, bareL ((bareL r).drop (unquoteL (bareL r)).2.1)) else none) else none
def parseL : Nat → Str → List Lab → List Lab × Int
  | 0, _, _ => ([], 8)
  | d + 1, s, acc =>
    match s with
    | [] => ([], 8)
    | b :: s' =>
      if b = 125 then (if bareL s' = [] then makeB acc else ([], 8))
      else match pairL (b :: s') with
      | none => ([], 8)
      | some (x, r) => match r with
        | [] => ([], 8)
        | c :: r' => if c = 44 then parseL d (bareL r') (acc ++ [x]) else if c = 125 then (if bareL r' = [] then makeB (acc ++ [x]) else ([], 8)) else ([], 8)
theorem unq_esc : ∀ (s acc rest : Str) (n : Nat), unq acc n (s.flatMap esc ++ 34 :: rest) = (acc ++ s, n + (s.flatMap esc).length + 1, 0)
  | [], acc, rest, n => by
    rw [List.flatMap_nil, List.nil_append]
    unfold unq
    simp
  | c :: s, acc, rest, n => by
    rw [List.flatMap_cons, List.append_assoc]
    by_cases h1 : c = 34 ∨ c = 92
    · have e : esc c = [92, c] := by unfold esc; rw [if_pos h1]
      rw [e]
      have e2 : unq acc n ([92, c] ++ (s.flatMap esc ++ 34 :: rest)) = unq (acc ++ [c]) (n + 2) (s.flatMap esc ++ 34 :: rest) := by
        conv => lhs; unfold unq
        simp only [List.cons_append, List.nil_append, show ¬ (92 : UInt8) = 34 by decide, show ¬ (92 : UInt8) = 10 by decide, if_false, if_true, if_pos h1]
      rw [e2, unq_esc s (acc ++ [c]) rest (n + 2)]
      simp
      omega
    · by_cases h2 : c = 10
      · have e : esc c = [92, 110] := by unfold esc; rw [if_neg h1, if_pos h2]
        rw [e]
        have e2 : unq acc n ([92, 110] ++ (s.flatMap esc ++ 34 :: rest)) = unq (acc ++ [10]) (n + 2) (s.flatMap esc ++ 34 :: rest) := by
          conv => lhs; unfold unq
          simp only [List.cons_append, List.nil_append, show ¬ (92 : UInt8) = 34 by decide, show ¬ (92 : UInt8) = 10 by decide, if_false, if_true, show ¬ ((110 : UInt8) = 34 ∨ (110 : UInt8) = 92) by decide]
        rw [e2, unq_esc s (acc ++ [10]) rest (n + 2), h2]
        simp
        omega
      · have e : esc c = [c] := by unfold esc; rw [if_neg h1, if_neg h2]
        rw [e]
        have h3 : ¬ c = 34 := fun h => h1 (.inl h)
        have h4 : ¬ c = 92 := fun h => h1 (.inr h)
        have e2 : unq acc n ([c] ++ (s.flatMap esc ++ 34 :: rest)) = unq (acc ++ [c]) (n + 1) (s.flatMap esc ++ 34 :: rest) := by
          conv => lhs; unfold unq
          simp only [List.cons_append, List.nil_append, if_neg h3, if_neg h2, if_neg h4]
        rw [e2, unq_esc s (acc ++ [c]) rest (n + 1)]
        simp
        omega
theorem unquote_quote (s rest : Str) : unquoteL (quoteL s ++ rest) = (s, (quoteL s).length, 0) := by
  unfold quoteL
  have e : [34] ++ s.flatMap esc ++ [34] ++ rest = 34 :: (s.flatMap esc ++ 34 :: rest) := by simp
  rw [e]
  show (if (34 : UInt8) = 34 then unq [] 1 (s.flatMap esc ++ 34 :: rest) else ([], 0, 8)) = _
  rw [if_pos rfl, unq_esc]
  simp
  omega
theorem bare_ne (c : UInt8) (l : Str) (h : ¬ c = 32) : bareL (c :: l) = c :: l := by
  unfold bareL
  rw [List.dropWhile_cons]
  have : (c == 32) = false := by simpa using h
  rw [this]
  rfl
theorem letters_split (a rest : Str) (ha : ∀ b ∈ a, isL b = true) : (a ++ 61 :: rest).takeWhile isL = a ∧ (a ++ 61 :: rest).dropWhile isL = 61 :: rest := by
  induction a with
  | nil =>
    have h : isL 61 = false := by decide
    simp [List.takeWhile_cons, List.dropWhile_cons, h]
  | cons c a ih =>
    have hc := ha c List.mem_cons_self
    obtain ⟨i1, i2⟩ := ih fun b hb => ha b (List.mem_cons_of_mem _ hb)
    rw [List.cons_append, List.takeWhile_cons, List.dropWhile_cons, hc]
    simp only [if_true, i1, i2]
    exact ⟨trivial, trivial⟩
theorem pair_item (x : Lab) (rest : Str) (hw : wrongB false x = 0) (hr : bareL rest = rest) : pairL (item x ++ rest) = some (x, rest) := by
  have hn : namedB (B x.f0) = true := by
    unfold wrongB at hw
    split at hw
    · next h => exact h
    · cases hw
  obtain ⟨n1, n2, n3, n4⟩ := namedB_letters hn
  unfold pairL item
  obtain ⟨e1, e2⟩ := letters_split (B x.f0) (quoteL (B x.f1) ++ rest) n3
  rw [List.append_assoc, List.cons_append, e1, e2, if_neg n1, bare_ne 61 _ (by decide)]
  have e3 : bareL (quoteL (B x.f1) ++ rest) = quoteL (B x.f1) ++ rest := by
    have : quoteL (B x.f1) ++ rest = 34 :: ((B x.f1).flatMap esc ++ [34] ++ rest) := by unfold quoteL; simp
    rw [this]
    exact bare_ne 34 _ (by decide)
  simp only [if_true, e3, unquote_quote]
  rw [List.drop_left, hr, str_B, str_B]
theorem item_head (x : Lab) (hw : wrongB false x = 0) : ∃ c r, item x = c :: r ∧ isL c = true := by
  have hn : namedB (B x.f0) = true := by
    unfold wrongB at hw
    split at hw
    · next h => exact h
    · cases hw
  obtain ⟨n1, n2, n3, n4⟩ := namedB_letters hn
  unfold item
  cases h : B x.f0 with
  | nil => exact absurd h n1
  | cons c a =>
    rw [h] at n3
    exact ⟨c, _, rfl, n3 c List.mem_cons_self⟩
theorem letter_not {c : UInt8} (h : isL c = true) : ¬ c = 32 ∧ ¬ c = 125 ∧ ¬ c = 123 := by
  refine ⟨?_, ?_, ?_⟩ <;> (rintro rfl; revert h; decide)
theorem parse_items : ∀ (l : List Lab) (x : Lab) (acc : List Lab) (d : Nat), l.length < d → (∀ z ∈ x :: l, wrongB false z = 0) → parseL d (item x ++ (tailB l ++ [125])) acc = makeB (acc ++ x :: l)
  | l, x, acc, 0, hd, _ => by omega
  | l, x, acc, d + 1, hd, hw => by
    have hx := hw x List.mem_cons_self
    obtain ⟨c, r, hc, hcl⟩ := item_head x hx
    have hp := pair_item x (tailB l ++ [125]) hx (by
      cases l with
      | nil => rfl
      | cons y l => unfold tailB; rw [List.flatMap_cons]; exact bare_ne 44 _ (by decide))
    rw [hc] at hp ⊢
    unfold parseL
    rw [List.cons_append] at hp ⊢
    simp only [if_neg (letter_not hcl).2.1, hp]
    cases l with
    | nil =>
      simp only [tailB, List.flatMap_nil, List.nil_append, show ¬ (125 : UInt8) = 44 by decide, if_false, if_true]
      rw [if_pos (show bareL [] = [] from rfl)]
    | cons y l =>
      have e : tailB (y :: l) ++ [125] = 44 :: 32 :: (item y ++ (tailB l ++ [125])) := by unfold tailB; rw [List.flatMap_cons]; simp
      obtain ⟨c', r', hc', hcl'⟩ := item_head y (hw y (by simp))
      have e2 : bareL (32 :: (item y ++ (tailB l ++ [125]))) = item y ++ (tailB l ++ [125]) := by
        rw [hc', List.cons_append]
        have := bare_ne c' (r' ++ (tailB l ++ [125])) (letter_not hcl').1
        unfold bareL at this ⊢
        rw [List.dropWhile_cons]
        exact this
      rw [e]
      simp only [if_true, e2]
      rw [List.length_cons] at hd
      rw [parse_items l y (acc ++ [x]) d (by omega) (fun z hz => hw z (List.mem_cons_of_mem _ hz))]
      simp
theorem parse_print (l : List Lab) (h : rightB l = 0) (d : Nat) (hd : l.length < d) : parseL d (bareL (bodyB l ++ [125])) [] = (l, 0) := by
  obtain ⟨h1, h2, h3⟩ := (right_zero l).1 h
  cases l with
  | nil =>
    obtain ⟨d, rfl⟩ : ∃ e, d = e + 1 := ⟨d - 1, by simp at hd; omega⟩
    rfl
  | cons x l =>
    obtain ⟨c, r, hc, hcl⟩ := item_head x (h2 x List.mem_cons_self)
    have e : bareL (bodyB (x :: l) ++ [125]) = item x ++ (tailB l ++ [125]) := by
      have eb : bodyB (x :: l) = item x ++ tailB l := rfl
      rw [eb, List.append_assoc, hc, List.cons_append]
      exact bare_ne c _ (letter_not hcl).1
    rw [e, parse_items l x [] d (by rw [List.length_cons] at hd; omega) h2, List.nil_append]
    exact makeB_right _ h
end Go.Proofs.YtbpmgaaipkenkaaDoor.Pv
end
section
namespace Go.Proofs.YtbpmgaaipkenkaaDoor.Pv
open Go Go.RowKit Go.Proofs.YtbpmgaaipkenkaaDoor Go.Proofs.YtbpmgaaipkenkaaDoor.Pu Go.Proofs.YtbpmgaaipkenkaaDoor.PMS Go.Proofs.YtbpmgaaipkenkaaDoorW.PrintWords Go.Proofs.YtbpmgaaipkenkaaDoorW.PrintLast Go.Proofs.YtbpmgaaipkenkaaDoorW.PrintMore
set_option linter.unusedVariables false
set_option linter.unusedSimpArgs false
theorem rt_right {x : List Lab} (h : rtS x = 0) : rightB x = 0 := by
  unfold rtS at h
  split at h
  · exact h
  · cases h
theorem nmS_inj {x y : List Lab} (hx : rtS x = 0) (hy : rtS y = 0) (h : nmS x = nmS y) : x = y := by
  have h1 : printL x = printL y := by
    have := congrArg B h
    unfold nmS at this
    rwa [B_str, B_str] at this
  unfold printL at h1
  have h2 := (List.cons.inj h1).2
  have p1 := parse_print x (rt_right hx) (x.length + y.length + 1) (by omega)
  have p2 := parse_print y (rt_right hy) (x.length + y.length + 1) (by omega)
  rw [h2, p2] at p1
  exact ((Prod.mk.inj p1).1).symm
structure Ordr (cmp : LS → LS → Int) : Prop where
  neg : ∀ a b, cmp b a = -cmp a b
  zero : ∀ a b, cmp a b = 0 ↔ a = b
  trans : ∀ a b c, cmp a b < 0 → cmp b c < 0 → cmp a c < 0
theorem cmpB_ordr : Ordr cmpB := by
  refine ⟨cmpB_neg, fun a b => cmpB_zero, fun a b c h1 h2 => ?_⟩
  unfold cmpB at *
  obtain ⟨t1, t2⟩ := cmpL_trans (Int.le_of_lt h1) (Int.le_of_lt h2)
  by_cases h : cmpL (a.map pr) (c.map pr) = 0
  · have := (t2 h).1
    omega
  · omega
def Asc (cmp : LS → LS → Int) (l : List LS) : Prop := l.Pairwise (fun a b => cmp a b < 0)
theorem Asc.putL {cmp : LS → LS → Int} (o : Ordr cmp) {x : LS} : ∀ {l : List LS}, Asc cmp l → x ∉ l → Asc cmp (putL cmp x l)
  | [], _, _ => List.pairwise_singleton _ _
  | y :: l, h, hn => by
    obtain ⟨h1, h2⟩ := List.pairwise_cons.1 h
    unfold Go.Proofs.YtbpmgaaipkenkaaDoor.putL
    split
    · rename_i hlt
      refine List.pairwise_cons.2 ⟨fun z hz => ?_, Asc.putL o h2 (fun hm => hn (List.mem_cons_of_mem _ hm))⟩
      rcases List.mem_cons.1 ((putL_perm cmp x l).mem_iff.1 hz) with hz | hz
      · rw [hz]; exact hlt
      · exact h1 z hz
    · rename_i hlt
      have hxy : cmp x y < 0 := by
        have e1 := o.neg x y
        have e2 : cmp x y ≠ 0 := fun e => hn (by rw [(o.zero x y).1 e]; exact List.mem_cons_self)
        omega
      refine List.pairwise_cons.2 ⟨fun z hz => ?_, h⟩
      rcases List.mem_cons.1 hz with hz | hz
      · rw [hz]; exact hxy
      · exact o.trans x y z hxy (h1 z hz)
theorem Asc.eq {cmp : LS → LS → Int} (o : Ordr cmp) : ∀ {a b : List LS}, Asc cmp a → Asc cmp b → a.Perm b → a = b
  | [], b, _, _, h => (List.Perm.nil_eq h)
  | x :: a, [], _, _, h => absurd h.length_eq (by simp)
  | x :: a, y :: b, ha, hb, h => by
    obtain ⟨a1, a2⟩ := List.pairwise_cons.1 ha
    obtain ⟨b1, b2⟩ := List.pairwise_cons.1 hb
    have hxy : x = y := by
      rcases List.mem_cons.1 (h.mem_iff.1 (List.mem_cons_self : x ∈ x :: a)) with e | e
      · exact e
      · rcases List.mem_cons.1 (h.mem_iff.2 (List.mem_cons_self : y ∈ y :: b)) with f | f
        · exact f.symm
        · have c1 := b1 x e
          have c2 := a1 y f
          have c3 := o.neg x y
          omega
    subst hxy
    rw [Asc.eq o a2 b2 h.cons_inv]
end Go.Proofs.YtbpmgaaipkenkaaDoor.Pv
end
section
namespace Go.Proofs.YtbpmgaaipkenkaaDoor.Pv
open Go Go.RowKit Go.Proofs.YtbpmgaaipkenkaaDoor Go.Proofs.YtbpmgaaipkenkaaDoor.Pu Go.Proofs.YtbpmgaaipkenkaaDoor.PMS Go.Proofs.YtbpmgaaipkenkaaDoorW.PrintWords Go.Proofs.YtbpmgaaipkenkaaDoorW.PrintLast Go.Proofs.YtbpmgaaipkenkaaDoorW.PrintMore
set_option linter.unusedVariables false
set_option linter.unusedSimpArgs false
theorem pos_spec (cmp : LS → LS → Int) (x : SL × LS) (out : List (SL × LS)) : ∀ n, (∀ j, pos cmp x out n ≤ j → j < n → cmp x.2 (out.getD j x).2 < 0) ∧ (0 < pos cmp x out n → ¬ cmp x.2 (out.getD (pos cmp x out n - 1) x).2 < 0)
  | 0 => ⟨fun j _ h => absurd h (Nat.not_lt_zero j), fun h => absurd h (Nat.lt_irrefl 0)⟩
  | n + 1 => by
    obtain ⟨h1, h2⟩ := pos_spec cmp x out n
    unfold pos
    split
    · rename_i hlt
      refine ⟨fun j hj hn => ?_, h2⟩
      by_cases e : j < n
      · exact h1 j hj e
      · obtain rfl : j = n := by omega
        exact hlt
    · rename_i hlt
      exact ⟨fun j hj hn => by omega, fun _ => hlt⟩
theorem ins_asc {cmp : LS → LS → Int} (o : Ordr cmp) {out : List (SL × LS)} {x : SL × LS} (h : Asc cmp (out.map (fun y : SL × LS => y.2))) (hn : x.2 ∉ out.map (fun y : SL × LS => y.2)) : Asc cmp ((Go.Proofs.YtbpmgaaipkenkaaDoor.ins cmp out x).map (fun y : SL × LS => y.2)) := by
  obtain ⟨h1, h2⟩ := pos_spec cmp x out out.length
  have hle := pos_le cmp x out out.length
  unfold Go.Proofs.YtbpmgaaipkenkaaDoor.ins
  generalize pos cmp x out out.length = p at *
  unfold Asc at *
  rw [List.map_append, List.map_cons, List.map_take, List.map_drop]
  have hg : ∀ j (hj : j < out.length), (out.map (fun y : SL × LS => y.2))[j]'(by rw [List.length_map]; exact hj) = (out.getD j x).2 := fun j hj => by
    rw [List.getElem_map, List.getD_eq_getElem?_getD, List.getElem?_eq_getElem hj]
    rfl
  have hgt : ∀ j, p ≤ j → ∀ (hj : j < out.length), cmp x.2 ((out.map (fun y : SL × LS => y.2))[j]'(by rw [List.length_map]; exact hj)) < 0 := fun j hp hj => by
    rw [hg j hj]
    exact h1 j hp hj
  have hpw := List.pairwise_iff_getElem.1 h
  have hlo : ∀ j, j < p → ∀ (hj : j < out.length), cmp ((out.map (fun y : SL × LS => y.2))[j]'(by rw [List.length_map]; exact hj)) x.2 < 0 := fun j hp hj => by
    have hp1 : p - 1 < out.length := by omega
    have e := h2 (by omega)
    rw [← hg (p - 1) hp1] at e
    have hlast : cmp ((out.map (fun y : SL × LS => y.2))[p - 1]'(by rw [List.length_map]; exact hp1)) x.2 < 0 := by
      have e1 := o.neg x.2 ((out.map (fun y : SL × LS => y.2))[p - 1]'(by rw [List.length_map]; exact hp1))
      have e2 : cmp x.2 ((out.map (fun y : SL × LS => y.2))[p - 1]'(by rw [List.length_map]; exact hp1)) ≠ 0 := fun e0 => hn (by
        rw [(o.zero _ _).1 e0]
        exact List.getElem_mem _)
      omega
    by_cases hj1 : j = p - 1
    · subst hj1; exact hlast
    · exact o.trans _ _ _ (hpw j (p - 1) (by rw [List.length_map]; exact hj) (by rw [List.length_map]; exact hp1) (by omega)) hlast
  refine List.pairwise_append.2 ⟨h.sublist (List.take_sublist _ _), List.pairwise_cons.2 ⟨fun z hz => ?_, h.sublist (List.drop_sublist _ _)⟩, fun a ha b hb => ?_⟩
  · obtain ⟨j, hj, rfl⟩ := List.mem_iff_getElem.1 hz
    rw [List.length_drop, List.length_map] at hj
    rw [List.getElem_drop]
    exact hgt (p + j) (by omega) (by omega)
  · obtain ⟨j, hj, rfl⟩ := List.mem_iff_getElem.1 ha
    rw [List.length_take, List.length_map] at hj
    rw [List.getElem_take]
    have c1 := hlo j (by omega) (by omega)
    rcases List.mem_cons.1 hb with hb | hb
    · rw [hb]; exact c1
    · obtain ⟨i, hi, rfl⟩ := List.mem_iff_getElem.1 hb
      rw [List.length_drop, List.length_map] at hi
      rw [List.getElem_drop]
      exact o.trans _ _ _ c1 (hgt (p + i) (by omega) (by omega))
theorem srt_asc {cmp : LS → LS → Int} (o : Ordr cmp) : ∀ (l out : List (SL × LS)), Asc cmp (out.map (fun y : SL × LS => y.2)) → ((out ++ l).map (fun y : SL × LS => y.2)).Nodup → Asc cmp ((l.foldl (Go.Proofs.YtbpmgaaipkenkaaDoor.ins cmp) out).map (fun y : SL × LS => y.2))
  | [], out, h, _ => h
  | x :: l, out, h, hn => by
    rw [List.foldl_cons]
    refine srt_asc o l _ (ins_asc o h ?_) ?_
    · rw [List.map_append, List.map_cons] at hn
      intro hm
      exact (List.nodup_append.1 hn).2.2 _ hm _ List.mem_cons_self rfl
    · refine (List.Perm.nodup_iff ?_).1 hn
      refine List.Perm.map _ ?_
      refine (List.perm_middle).trans ?_
      exact ((ins_perm cmp out x).symm.append_right l)
end Go.Proofs.YtbpmgaaipkenkaaDoor.Pv
end
section
namespace Go.Proofs.YtbpmgaaipkenkaaDoor.Pv
open Go Go.RowKit Go.Proofs.YtbpmgaaipkenkaaDoor Go.Proofs.YtbpmgaaipkenkaaDoor.Pu Go.Proofs.YtbpmgaaipkenkaaDoor.PMS Go.Proofs.YtbpmgaaipkenkaaDoorW.PrintWords Go.Proofs.YtbpmgaaipkenkaaDoorW.PrintLast Go.Proofs.YtbpmgaaipkenkaaDoorW.PrintMore
set_option linter.unusedVariables false
set_option linter.unusedSimpArgs false
structure Both (ks : List ByteArray) (L : List LS) : Prop where
  asc : Asc cmpB L
  rt : ∀ x ∈ L, rtS x = 0
  nod : ks.Nodup
  perm : (L.map nmS).Perm ks
theorem Both.start : Both [] [] := ⟨List.Pairwise.nil, fun x hx => by simp at hx, List.nodup_nil, List.Perm.refl _⟩
theorem sameB_iff {a b : List Lab} : sameB a b = true ↔ a = b := by
  unfold sameB
  rw [decide_eq_true_iff]
  exact ⟨prs_inj, fun h => by rw [h]⟩
theorem Both.mem {ks : List ByteArray} {L : List LS} (h : Both ks L) {x : LS} (hx : rtS x = 0) : nmS x ∈ ks ↔ x ∈ L := by
  rw [← h.perm.mem_iff]
  refine ⟨fun hm => ?_, fun hm => List.mem_map.2 ⟨x, hm, rfl⟩⟩
  obtain ⟨y, hy, e⟩ := List.mem_map.1 hm
  rw [← nmS_inj (h.rt y hy) hx e]
  exact hy
theorem any_same {L : List LS} {x : LS} : L.any (fun y => sameB y x) = true ↔ x ∈ L := by
  rw [List.any_eq_true]
  refine ⟨fun ⟨y, hy, e⟩ => ?_, fun h => ⟨x, h, sameB_iff.2 rfl⟩⟩
  rw [← sameB_iff.1 e]
  exact hy
theorem Both.put {ks : List ByteArray} {L : List LS} (h : Both ks L) {x : LS} (hx : rtS x = 0) (hn : x ∉ L) : Both (ks ++ [nmS x]) (Go.Proofs.YtbpmgaaipkenkaaDoor.putL cmpB x L) := by
  refine ⟨Asc.putL cmpB_ordr h.asc hn, fun y hy => ?_, ?_, ?_⟩
  · rcases List.mem_cons.1 ((putL_perm cmpB x L).mem_iff.1 hy) with e | e
    · rw [e]; exact hx
    · exact h.rt y e
  · refine List.nodup_append.2 ⟨h.nod, by simp, fun a ha b hb e => ?_⟩
    rw [List.mem_singleton.1 hb] at e
    exact hn ((h.mem hx).1 (e ▸ ha))
  · refine ((putL_perm cmpB x L).map nmS).trans ?_
    rw [List.map_cons]
    exact (h.perm.cons _).trans (List.perm_append_singleton _ _).symm
theorem Both.fold : ∀ (xs : List LS), (∀ x ∈ xs, rtS x = 0) → ∀ (old acc : List ByteArray) (L : List LS) (n : Nat), Both (old ++ acc) L →
    Both (old ++ xs.foldl (addK nmS old) acc) (xs.foldl (rstep cmpB sameB) (L, n)).1 ∧ (xs.foldl (rstep cmpB sameB) (L, n)).2 + acc.length = n + (xs.foldl (addK nmS old) acc).length
  | [], _, old, acc, L, n, h => ⟨h, rfl⟩
  | x :: xs, hx, old, acc, L, n, h => by
    rw [List.foldl_cons, List.foldl_cons]
    have h0 := hx x List.mem_cons_self
    have hm := h.mem h0
    by_cases c : x ∈ L
    · have e1 : rstep cmpB sameB (L, n) x = (L, n) := if_pos (any_same.2 c)
      have e2 : addK nmS old acc x = acc := addK_in (List.mem_append.1 (hm.2 c))
      rw [e1, e2]
      exact Both.fold xs (fun y hy => hx y (List.mem_cons_of_mem _ hy)) old acc L n h
    · have e1 : rstep cmpB sameB (L, n) x = (Go.Proofs.YtbpmgaaipkenkaaDoor.putL cmpB x L, n + 1) := if_neg (fun hh => c (any_same.1 hh))
      have e2 : addK nmS old acc x = acc ++ [nmS x] := addK_new (fun hh => c (hm.1 (List.mem_append.2 hh)))
      rw [e1, e2]
      have h2 := h.put h0 c
      rw [List.append_assoc] at h2
      obtain ⟨r1, r2⟩ := Both.fold xs (fun y hy => hx y (List.mem_cons_of_mem _ hy)) old (acc ++ [nmS x]) _ (n + 1) h2
      refine ⟨r1, ?_⟩
      rw [List.length_append, List.length_singleton] at r2
      omega
theorem Both.of_perm {ks ks' : List ByteArray} {L : List LS} (h : Both ks L) (hp : ks'.Perm ks) : Both ks' L := ⟨h.asc, h.rt, hp.nodup_iff.2 h.nod, h.perm.trans hp.symm⟩
theorem firstBad_all {rt : LS → Int} : ∀ {xs : List LS}, firstBad rt xs = 0 → ∀ x ∈ xs, rt x = 0
  | [], _, x, hx => by simp at hx
  | y :: l, h, x, hx => by
    unfold firstBad at h
    split at h
    · rename_i h0
      rcases List.mem_cons.1 hx with e | e
      · rw [e]; exact h0
      · exact firstBad_all h x e
    · rename_i h0
      exact absurd h h0
theorem Both.adm {l l' : List PV} {L L' xs : List LS} {most n er n2 er2 : Int} (h : Both (l.map (·.1)) L) (ha : Adm rtS nmS l xs most n er l') (hr : RAd rtS cmpB sameB L xs most n2 er2 L') : n = n2 ∧ er = er2 ∧ Both (l'.map (·.1)) L' := by
  by_cases hb : firstBad rtS xs = 0
  · obtain ⟨f1, f2⟩ := Both.fold xs (firstBad_all hb) (l.map (·.1)) [] L 0 (by rw [List.append_nil]; exact h)
    have g1 : Both (l.map (·.1) ++ freshK nmS (l.map (·.1)) xs) (radm cmpB sameB L xs).1 := f1
    have g2 : (radm cmpB sameB L xs).2 = (freshK nmS (l.map (·.1)) xs).length := by
      have : (radm cmpB sameB L xs).2 + 0 = 0 + (freshK nmS (l.map (·.1)) xs).length := f2
      omega
    have g3 : (radm cmpB sameB L xs).1.length = l.length + (freshK nmS (l.map (·.1)) xs).length := by
      have := g1.perm.length_eq
      rwa [List.length_map, List.length_append, List.length_map] at this
    rcases ha with ⟨a1, _⟩ | ⟨_, a2, rfl, rfl, rfl⟩ | ⟨_, a2, a3, rfl, rfl, rfl⟩ | ⟨_, a2, a3, a4, rfl, rfl, a5⟩
    · exact absurd hb a1
    · rw [a2] at g1 g2 g3
      rw [List.append_nil] at g1
      rw [List.length_nil] at g2
      rcases hr with ⟨r1, _⟩ | ⟨_, r2, _⟩ | ⟨_, _, rfl, rfl, rfl⟩
      · exact absurd hb r1
      · omega
      · exact ⟨by rw [g2]; rfl, rfl, g1⟩
    · have hp := List.length_pos_iff.2 a2
      rcases hr with ⟨r1, _⟩ | ⟨_, _, _, rfl, rfl, rfl⟩ | ⟨_, r2, _⟩
      · exact absurd hb r1
      · exact ⟨rfl, rfl, h⟩
      · exact absurd ⟨by omega, by omega⟩ r2
    · have hp := List.length_pos_iff.2 a2
      rcases hr with ⟨r1, _⟩ | ⟨_, _, r3, _⟩ | ⟨_, _, rfl, rfl, rfl⟩
      · exact absurd hb r1
      · omega
      · exact ⟨by rw [g2], rfl, g1.of_perm a5⟩
  · rcases ha with ⟨_, rfl, rfl, rfl⟩ | ⟨a1, _⟩ | ⟨a1, _⟩ | ⟨a1, _⟩
    · rcases hr with ⟨_, rfl, rfl, rfl⟩ | ⟨r1, _⟩ | ⟨r1, _⟩
      · exact ⟨rfl, rfl, h⟩
      · exact absurd r1 hb
      · exact absurd r1 hb
    · exact absurd a1 hb
    · exact absurd a1 hb
    · exact absurd a1 hb
theorem nodup_of_map {α β : Type} (f : α → β) : ∀ {l : List α}, (l.map f).Nodup → l.Nodup
  | [], _ => List.nodup_nil
  | x :: l, h => by
    rw [List.map_cons, List.nodup_cons] at h
    exact List.nodup_cons.2 ⟨fun hm => h.1 (List.mem_map.2 ⟨x, hm, rfl⟩), nodup_of_map f h.2⟩
theorem Both.list {ks : List ByteArray} {L : List LS} (h : Both ks L) (qs : List (SL × LS)) (hq : (qs.map (fun y : SL × LS => nmS y.2)).Perm ks) (h0 : ∀ q ∈ qs, rtS q.2 = 0) : (srt cmpB qs).map (fun y : SL × LS => y.2) = L := by
  have hnod : (qs.map (fun y : SL × LS => y.2)).Nodup := by
    have h1 := hq.nodup_iff.2 h.nod
    have e : qs.map (fun y : SL × LS => nmS y.2) = (qs.map (fun y : SL × LS => y.2)).map nmS := by rw [List.map_map]; rfl
    rw [e] at h1
    exact nodup_of_map _ h1
  have hasc : Asc cmpB ((srt cmpB qs).map (fun y : SL × LS => y.2)) := srt_asc cmpB_ordr qs [] List.Pairwise.nil (by rw [List.nil_append]; exact hnod)
  refine Asc.eq cmpB_ordr hasc h.asc ?_
  have hp : ((srt cmpB qs).map (fun y : SL × LS => y.2)).Perm (qs.map (fun y : SL × LS => y.2)) := by
    have := (srt_perm cmpB qs []).map (fun y : SL × LS => y.2)
    rwa [List.nil_append] at this
  refine hp.trans ?_
  have hL : L.Nodup := by
    have h1 := h.perm.nodup_iff.2 h.nod
    exact nodup_of_map _ h1
  refine (List.perm_ext_iff_of_nodup hnod hL).2 (fun x => ⟨fun hx => ?_, fun hx => ?_⟩)
  · obtain ⟨q, hqm, e⟩ := List.mem_map.1 hx
    have h1 : nmS x ∈ ks := hq.mem_iff.1 (List.mem_map.2 ⟨q, hqm, by rw [← e]⟩)
    exact (h.mem (by rw [← e]; exact h0 q hqm)).1 h1
  · have h1 := hq.mem_iff.2 ((h.mem (h.rt x hx)).2 hx)
    obtain ⟨q, hqm, e⟩ := List.mem_map.1 h1
    exact List.mem_map.2 ⟨q, hqm, nmS_inj (h0 q hqm) (h.rt x hx) e⟩
end Go.Proofs.YtbpmgaaipkenkaaDoor.Pv
end
section
namespace Go.Proofs.YtbpmgaaipkenkaaDoor.Pv
open Go Go.RowKit Go.Proofs.YtbpmgaaipkenkaaDoor Go.Proofs.YtbpmgaaipkenkaaDoor.Pu Go.Proofs.YtbpmgaaipkenkaaDoor.PMS Go.Proofs.YtbpmgaaipkenkaaDoorW.PrintWords Go.Proofs.YtbpmgaaipkenkaaDoorW.PrintLast Go.Proofs.YtbpmgaaipkenkaaDoorW.PrintMore
set_option linter.unusedVariables false
set_option linter.unusedSimpArgs false
theorem side : Side rtS nmS cmpB sameB Sm (fun l L => Both (l.map (·.1)) L) where
  few := fun L => by
    obtain ⟨r, h1, h2⟩ := few_all L
    exact ⟨r, h1, fun h => ⟨(h2 h).1, fun x hx => ((h2 h).2 x hx).sm⟩⟩
  u := fun x h => by
    obtain ⟨f1, f2, f3⟩ := facts_sm h
    refine ⟨by have := h.1; omega, f2, f3, ?_⟩
    rw [show rtS x = rightB x from if_pos h]
    exact Ev.rounds (g := fun k => manometerref05_Right.f k x) (Right_ev x h).2
  ok := fun x h => sm_of h
  cmpE := facts.cmp
  two := fun x y hx hy => ⟨Ev.rounds (g := fun k => manometerref05_Same.f k x y) (Same_ev x y (by have := hx.1; omega)).2, Ev.rounds (g := fun k => manometerref05_Compare.f k x y) (Compare_ev x y (by have := hx.1; omega)).2⟩
  sam := fun x y hx hy => Ev.rounds (g := fun k => labels_Same.f k x y) (Same_ev x y (by have := hx.1; omega)).1
  refl := fun x => sameB_iff.2 rfl
  inj := fun x y hx hy h => nmS_inj hx hy h
  oth := Short.sm ⟨by decide, fun y hy => by
    rw [List.mem_singleton.1 hy]
    exact ⟨by decide, by decide⟩⟩
  start := Both.start
  mem := fun l L h => ⟨by have := h.perm.length_eq; simpa using this, h.nod, h.rt⟩
  perm := fun l l2 L h hp => h.of_perm (hp.map _)
  adm := fun l l' L L' xs most n er n2 er2 h ha hr => h.adm ha hr
  list := fun l L h qs h1 h2 => h.list qs h1 h2
  has := fun l L x h hx => by
    constructor
    · rintro ⟨p, hp, ls, h1, h2, h3⟩
      obtain rfl := sameB_iff.1 h3
      exact any_same.2 ((h.mem h1).1 (by rw [h2]; exact List.mem_map.2 ⟨p, hp, rfl⟩))
    · intro hall
      rw [Bool.eq_false_iff]
      intro ht
      have hm := any_same.1 ht
      have h0 := h.rt x hm
      obtain ⟨p, hp, e⟩ := List.mem_map.1 ((h.mem h0).2 hm)
      obtain ⟨ls, h1, h2, h3⟩ := hall p hp
      obtain rfl := nmS_inj h1 h0 (h2.trans e)
      have h4 : sameB ls ls = true := sameB_iff.2 rfl
      have h5 : sameB ls ls = false := h3
      rw [h4] at h5
      cases h5
end Go.Proofs.YtbpmgaaipkenkaaDoor.Pv
end
section
namespace Go.Proofs.YtbpmgaaipkenkaaDoor
open Go.RowKit
set_option linter.unusedVariables false
theorem laid_plain {P : Program} {w : World} {l : List (String × DataW Unit)} (h : laidMetH P l w) (hf : (l.filter fun x => x.2.handleName?.isSome).isEmpty = true) : laidMet P l w := by
  unfold laidMetH at h
  split at h
  · exact h
  · rename_i h2
    rw [h2] at hf
    cases hf
end Go.Proofs.YtbpmgaaipkenkaaDoor
end
section
namespace Go.Proofs.YtbpmgaaipkenkaaDoor
open Go Go.RowKit Go.Shelf
set_option linter.unusedVariables false
theorem first_same : Go.Pinned.utf8First = Lib.firstData := by kernel_rfl
theorem accept_same : (Rows.laid_unicode_utf8_acceptRanges : DataW Unit) = Lib.acceptData := by kernel_rfl
theorem tab_of {w : World} (h : laidMetH Tryd.prog [("unicode/utf8.acceptRanges", Rows.laid_unicode_utf8_acceptRanges), ("unicode/utf8.first", Rows.laid_unicode_utf8_first)] w) : Tab w := by
  have hp := laid_plain h (by kernel_rfl)
  have h4 := Lib.laidMet.reads hp (List.Mem.head _)
  have h3 := Lib.laidMet.reads hp (List.Mem.tail _ (List.Mem.head _))
  rw [accept_same] at h4
  rw [show Rows.laid_unicode_utf8_first = Go.Pinned.utf8First from rfl, first_same] at h3
  exact utf8Tabs_of_readsT (U8Types.of196 Tryd.laysValid) ⟨by kernel_rfl, by kernel_rfl, by kernel_rfl, by kernel_rfl, by kernel_rfl, by kernel_rfl, by kernel_rfl⟩ h3 h4
end Go.Proofs.YtbpmgaaipkenkaaDoor
end
section
namespace Go.Proofs.YtbpmgaaipkenkaaDoor
open Go.RowKit Go.Proofs.YtbpmgaaipkenkaaDoorW.PrintWords Go.Proofs.YtbpmgaaipkenkaaDoorW.PrintMore Go.Proofs.YtbpmgaaipkenkaaDoorW.PrintLast Go.Deep
set_option linter.unusedVariables false
section
variable {H : Type} {enc : TypeId × Value → H} {P : Program} {w : World} {base : Nat} {spare : Nat → Bool} {held : Bool}
theorem opens_iso {α β : Type} {d : Kd α} {wf : α → Prop} {t : TypeId} (f : β → α) (g : α → β) (hg : ∀ y, f (g y) = y) (h : Opens enc P w base spare held t d wf) :
    Opens enc P w base spare held t (Kd.iso d f) (fun x => wf (f x)) := by
  intro fuel cs x hx
  obtain ⟨a, hK, hw⟩ := h fuel cs x hx
  refine ⟨g a, ?_, ?_⟩
  · show d.K w (f (g a)) cs
    rw [hg]
    exact hK
  · show wf (f (g a))
    rw [hg]
    exact hw
end
end Go.Proofs.YtbpmgaaipkenkaaDoor
end
