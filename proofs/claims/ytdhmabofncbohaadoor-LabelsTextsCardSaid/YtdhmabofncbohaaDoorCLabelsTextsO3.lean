import Derived.Test.YtdhmabofncbohaaDoorCLabelsTextsPU8
import Derived.Test.YtdhmabofncbohaaDoorCLabelsTextsO2
section
namespace Go.Proofs.YtdhmabofncbohaaDoor.Pu
open Go Go.RowKit Go.Proofs.YtdhmabofncbohaaDoor Go.Proofs.YtdhmabofncbohaaDoor.PLB Go.Proofs.YtdhmabofncbohaaDoorW.PrintWords Go.Proofs.YtdhmabofncbohaaDoorW.PrintLast Go.Proofs.YtdhmabofncbohaaDoorW.PrintMore
set_option linter.unusedVariables false
set_option linter.unusedSimpArgs false
def item (x : Lab) : Str := B x.f0 ++ 61 :: quoteL (B x.f1)
def tailB (l : List Lab) : Str := l.flatMap fun x => 44 :: 32 :: item x
def bodyB : List Lab → Str
  | [] => []
  | x :: l => item x ++ tailB l
def printL (l : List Lab) : Str := 123 :: (bodyB l ++ [125])
theorem quoteL_le (l : Str) : (quoteL l).length ≤ 2 * l.length + 2 := by
  unfold quoteL
  have : (l.flatMap esc).length ≤ 2 * l.length := by
    induction l with
    | nil => simp
    | cons c l ih =>
      rw [List.flatMap_cons, List.length_append, List.length_cons]
      have := esc_length c
      omega
  simp only [List.length_append, List.length_cons, List.length_nil]
  omega
theorem quo_ev (s : ByteArray) (hs : s.size ≤ 1000000) : Ev (fun k => labels_Quote.f k s) (str (quoteL (B s))) ∧ Ev (fun k => manometerref05_Quote.f k s) (str (quoteL (B s))) := Quote_ev s (by omega)
theorem Print_pos (l : List Lab) (hs : Sm l) : ∀ (d n : Nat) (acc : ByteArray), n + d = l.length → 0 < n → acc.size ≤ 1000000 * n → Ev (fun k => labels_Print.l0 k acc l (l.length : Int) (n : Int)) (str (B acc ++ tailB (l.drop n) ++ [125])) ∧ Ev (fun k => manometerref05_Print.l0 k acc l (l.length : Int) (n : Int)) (str (B acc ++ tailB (l.drop n) ++ [125]))
  | d, n, acc, hd, hn, ha => by
    have hl := hs.1
    by_cases hlt : n < l.length
    · obtain ⟨d, rfl⟩ : ∃ e, d = e + 1 := ⟨d - 1, by omega⟩
      obtain ⟨s0, s1⟩ := hs.at n hlt
      rw [dropS l n hlt]
      have e1 : (n : Int) < (l.length : Int) := by omega
      have e2 : (0 : Int) ≤ (n : Int) := by omega
      have e3 : (n : Int) > 0 := by omega
      obtain ⟨q1, q2⟩ := quo_ev (l.getD n z44).f1 (by omega)
      have ih := Print_pos l hs d (n + 1)
      have hq := quoteL_le (B (l.getD n z44).f1)
      rw [B_length] at hq
      have es : ∀ x : Lab, tailB (x :: l.drop (n + 1)) = 44 :: 32 :: item x ++ tailB (l.drop (n + 1)) := fun x => by unfold tailB; rw [List.flatMap_cons]
      generalize hx : l.getD n z44 = x at *
      have m1 : (acc ++ (⟨#[44, 32]⟩ : ByteArray)).size = acc.size + 2 := by rw [ByteArray.size_append]; rfl
      have m2 : (x.f0 ++ (⟨#[61]⟩ : ByteArray)).size = x.f0.size + 1 := by rw [ByteArray.size_append]; rfl
      have m3 := size_str (quoteL (B x.f1))
      have m4 : ((x.f0 ++ (⟨#[61]⟩ : ByteArray)) ++ str (quoteL (B x.f1))).size = x.f0.size + 1 + (quoteL (B x.f1)).length := by rw [ByteArray.size_append, m2, m3]
      have m5 : ((acc ++ (⟨#[44, 32]⟩ : ByteArray)) ++ ((x.f0 ++ (⟨#[61]⟩ : ByteArray)) ++ str (quoteL (B x.f1)))).size = acc.size + 2 + (x.f0.size + 1 + (quoteL (B x.f1)).length) := by rw [ByteArray.size_append, m1, m4]
      have c1 : acc.size + 2 ≤ 9223372036854775807 := by omega
      have c2 : x.f0.size + 1 ≤ 9223372036854775807 := by omega
      have c3 : (x.f0 ++ (⟨#[61]⟩ : ByteArray)).size + (str (quoteL (B x.f1))).size ≤ 9223372036854775807 := by rw [m2, m3]; omega
      have c4 : (acc ++ (⟨#[44, 32]⟩ : ByteArray)).size + ((x.f0 ++ (⟨#[61]⟩ : ByteArray)) ++ str (quoteL (B x.f1))).size ≤ 9223372036854775807 := by rw [m1, m4]; omega
      obtain ⟨i1, i2⟩ := ih ((acc ++ (⟨#[44, 32]⟩ : ByteArray)) ++ ((x.f0 ++ (⟨#[61]⟩ : ByteArray)) ++ str (quoteL (B x.f1)))) (by omega) (by omega) (by rw [m5]; omega)
      have eb : B ((acc ++ (⟨#[44, 32]⟩ : ByteArray)) ++ ((x.f0 ++ (⟨#[61]⟩ : ByteArray)) ++ str (quoteL (B x.f1)))) ++ tailB (l.drop (n + 1)) ++ [125] = B acc ++ tailB (x :: l.drop (n + 1)) ++ [125] := by
        rw [es]
        unfold item
        simp only [B_append, B_str, B_mk]
        simp
      rw [eb] at i1 i2
      constructor
      · refine Ev.step (f := _) (fun k => by simp only [labels_Print.l0]; rfl) ?_
        simp only [if_pos e1, if_pos e2, if_pos e3, rdn, hx, if_pos c1, if_pos c2, w1 n (by omega)]
        refine q1.bind ?_
        simp only [if_pos c3, if_pos c4]
        exact i1
      · refine Ev.step (f := _) (fun k => by simp only [manometerref05_Print.l0]; rfl) ?_
        simp only [if_pos e1, if_pos e2, if_pos e3, rdn, hx, if_pos c1, if_pos c2, w1 n (by omega)]
        refine q2.bind ?_
        simp only [if_pos c3, if_pos c4]
        exact i2
    · rw [List.drop_of_length_le (by omega)]
      have c1 : acc.size + 1 ≤ 9223372036854775807 := by omega
      have e1 : ¬ (n : Int) < (l.length : Int) := by omega
      have eb : str (B acc ++ tailB [] ++ [125]) = acc ++ (⟨#[125]⟩ : ByteArray) := B_inj (by rw [B_str, B_append]; unfold tailB; simp [B])
      rw [eb]
      constructor
      · refine Ev.step (f := _) (fun k => by simp only [labels_Print.l0]; rfl) ?_
        simp only [if_neg e1, if_pos c1]
        exact Ev.now _
      · refine Ev.step (f := _) (fun k => by simp only [manometerref05_Print.l0]; rfl) ?_
        simp only [if_neg e1, if_pos c1]
        exact Ev.now _
theorem Print_ev (l : List Lab) (hs : Sm l) : Ev (fun k => labels_Print.f k l) (str (printL l)) ∧ Ev (fun k => manometerref05_Print.f k l) (str (printL l)) := by
  have hl := hs.1
  unfold labels_Print.f manometerref05_Print.f
  cases l with
  | nil =>
    constructor
    · refine Ev.step (f := _) (fun k => by simp only [labels_Print.l0]; rfl) ?_
      exact Ev.now _
    · refine Ev.step (f := _) (fun k => by simp only [manometerref05_Print.l0]; rfl) ?_
      exact Ev.now _
  | cons x l =>
    obtain ⟨s0, s1⟩ := hs.2 x List.mem_cons_self
    have e1 : (0 : Int) < ((x :: l).length : Int) := by rw [List.length_cons]; omega
    obtain ⟨q1, q2⟩ := quo_ev x.f1 (by omega)
    have hq := quoteL_le (B x.f1)
    rw [B_length] at hq
    have er : rd_T44 (x :: l) 0 = x := rfl
    have m1 : ((⟨#[123]⟩ : ByteArray)).size = 1 := rfl
    have m2 : (x.f0 ++ (⟨#[61]⟩ : ByteArray)).size = x.f0.size + 1 := by rw [ByteArray.size_append]; rfl
    have m3 := size_str (quoteL (B x.f1))
    have m4 : ((x.f0 ++ (⟨#[61]⟩ : ByteArray)) ++ str (quoteL (B x.f1))).size = x.f0.size + 1 + (quoteL (B x.f1)).length := by rw [ByteArray.size_append, m2, m3]
    have m5 : ((⟨#[123]⟩ : ByteArray) ++ ((x.f0 ++ (⟨#[61]⟩ : ByteArray)) ++ str (quoteL (B x.f1)))).size = 1 + (x.f0.size + 1 + (quoteL (B x.f1)).length) := by rw [ByteArray.size_append, m1, m4]
    have c2 : x.f0.size + 1 ≤ 9223372036854775807 := by omega
    have c3 : (x.f0 ++ (⟨#[61]⟩ : ByteArray)).size + (str (quoteL (B x.f1))).size ≤ 9223372036854775807 := by rw [m2, m3]; omega
    have c4 : ((⟨#[123]⟩ : ByteArray)).size + ((x.f0 ++ (⟨#[61]⟩ : ByteArray)) ++ str (quoteL (B x.f1))).size ≤ 9223372036854775807 := by rw [m1, m4]; omega
    have ew : wrap64 ((0 : Int) + 1) = ((1 : Nat) : Int) := wn (by decide) (by decide)
    obtain ⟨i1, i2⟩ := Print_pos (x :: l) hs l.length 1 ((⟨#[123]⟩ : ByteArray) ++ ((x.f0 ++ (⟨#[61]⟩ : ByteArray)) ++ str (quoteL (B x.f1)))) (by rw [List.length_cons]; omega) (by omega) (by rw [m5]; omega)
    have eb : B ((⟨#[123]⟩ : ByteArray) ++ ((x.f0 ++ (⟨#[61]⟩ : ByteArray)) ++ str (quoteL (B x.f1)))) ++ tailB ((x :: l).drop 1) ++ [125] = printL (x :: l) := by
      unfold printL bodyB item
      simp only [B_append, B_str, B_mk]
      simp
    rw [eb] at i1 i2
    constructor
    · refine Ev.step (f := _) (fun k => by simp only [labels_Print.l0]; rfl) ?_
      simp only [if_pos e1, if_pos (Int.le_refl 0), if_neg (show ¬ (0 : Int) > 0 by omega), er, if_pos c2, ew]
      refine q1.bind ?_
      simp only [if_pos c3, if_pos c4]
      exact i1
    · refine Ev.step (f := _) (fun k => by simp only [manometerref05_Print.l0]; rfl) ?_
      simp only [if_pos e1, if_pos (Int.le_refl 0), if_neg (show ¬ (0 : Int) > 0 by omega), er, if_pos c2, ew]
      refine q2.bind ?_
      simp only [if_pos c3, if_pos c4]
      exact i2
theorem labelsTexts (l : List Lab) (s : ByteArray) : ∃ k, manometerlaw05_LabelsTexts.f k l s = some true := by
  have hj : ∀ z : Bool, (z = false → fewB l = true ∧ s.size ≤ 3000) → Ev (fun k => manometerlaw05_LabelsTexts.j0 k l s z) true := by
    intro z hz
    refine Ev.step (f := _) (fun k => by simp only [manometerlaw05_LabelsTexts.j0]; rfl) ?_
    cases z with
    | true =>
      simp only [if_true]
      exact live_ev.bind (Ev.now _)
    | false =>
      obtain ⟨h1, h2⟩ := hz rfl
      have hs := few_sm h1
      have h3 : (B s).length ≤ 100000 := by rw [B_length]; omega
      have p1 := Parse_ev (B s) h3
      have p2 := RParse_ev (B s) h3
      rw [str_B] at p1 p2
      obtain ⟨t1, t2⟩ := Print_ev l hs
      simp only [Bool.false_eq_true, if_false]
      refine p1.bind (p2.bind (t1.bind (t2.bind ?_)))
      simp only [if_true]
      have hlen : (parse (B s)).1.length ≤ 16 := by
        have hL : ∀ (d : Nat) (s : Str) (acc : List Lab), (parseL d s acc).1.length ≤ 16 := by
          intro d
          induction d with
          | zero => intro s acc; simp [parseL]
          | succ d ih =>
            intro s acc
            unfold parseL
            repeat' split
            all_goals first | exact makeB_len _ | exact ih _ _ | simp
        unfold parse
        repeat' split
        all_goals first | exact hL _ _ _ | simp
      refine (Same_ev _ _ (by omega)).2.bind ?_
      simp only [sameB_refl, if_true, beq_self_eq_true]
      exact Ev.now _
  refine Ev.rounds ?_
  unfold manometerlaw05_LabelsTexts.f
  refine live_ev.bind ?_
  simp only [if_true]
  refine (few_ev l).bind ?_
  cases h1 : fewB l with
  | false => exact hj true (by simp)
  | true =>
    simp only [if_true]
    exact hj _ (fun h => ⟨h1, by have := of_decide_eq_false h; omega⟩)
end Go.Proofs.YtdhmabofncbohaaDoor.Pu
end
section
namespace Go.Proofs.YtdhmabofncbohaaDoor
open Go.RowKit Go.Proofs.YtdhmabofncbohaaDoorW.PrintWords Go.Proofs.YtdhmabofncbohaaDoorW.PrintMore Go.Proofs.YtdhmabofncbohaaDoorW.PrintLast Go.Deep
set_option linter.unusedVariables false
section
variable {H : Type} {enc : TypeId × Value → H} {P : Program} {w : World} {base : Nat} {spare : Nat → Bool} {held : Bool}
theorem opens_iso {α β : Type} {d : Kd α} {wf : α → Prop} {t : TypeId} (f : β → α) (g : α → β) (hg : ∀ y, f (g y) = y) (h : Opens enc P w base spare held t d wf) :
    Opens enc P w base spare held t (Kd.iso d f) (fun x => wf (f x)) := by
  intro fuel cs x hx
  obtain ⟨a, hK, hw⟩ := h fuel cs x hx
  refine ⟨g a, ?_, ?_⟩
  · show d.K w (f (g a)) cs
    rw [hg]
    exact hK
  · show wf (f (g a))
    rw [hg]
    exact hw
end
end Go.Proofs.YtdhmabofncbohaaDoor
end
