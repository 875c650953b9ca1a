import Derived.Test.YtdhmabofncbohaaDoorCLabelsSplitPU6
namespace Go.Proofs.YtdhmabofncbohaaDoor.Pu
open Go Go.RowKit Go.Proofs.YtdhmabofncbohaaDoor Go.Proofs.YtdhmabofncbohaaDoor.PLB Go.Proofs.YtdhmabofncbohaaDoorW.PrintWords Go.Proofs.YtdhmabofncbohaaDoorW.PrintLast Go.Proofs.YtdhmabofncbohaaDoorW.PrintMore
set_option linter.unusedVariables false
set_option linter.unusedSimpArgs false
abbrev Up (l : List Lab) : Prop := l.Pairwise (fun a b => lt a.f0 b.f0)
def RightP (l : List Lab) : Prop := (∀ x ∈ l, wrongB false x = 0) ∧ Up l
theorem nle (x q : Str) : (Op.bytesLess x q || decide (x = q)) = true ↔ ¬ Op.bytesLess q x = true := by
  constructor
  · intro h h'
    rw [Bool.or_eq_true] at h
    rcases h with h | h
    · rw [less_asymm h] at h'; cases h'
    · rw [of_decide_eq_true h, less_irrefl] at h'; cases h'
  · intro h
    by_cases h1 : Op.bytesLess x q = true
    · rw [h1]; rfl
    · have : x = q := less_total (by simpa using h1) (by simpa using h)
      simp [this]
theorem rgt_some : ∀ (l : List Lab) (q : Str), rgt (some q) l = 0 ↔ RightP l ∧ ∀ x ∈ l, Op.bytesLess q (B x.f0) = true
  | [], q => by simp [rgt, RightP]
  | x :: l, q => by
    unfold rgt
    by_cases hw : wrongB false x = 0
    · simp only [if_pos hw]
      by_cases hc : Op.bytesLess q (B x.f0) = true
      · have h1 : ¬ (Op.bytesLess (B x.f0) q || decide (B x.f0 = q)) = true := fun h => (nle _ _).1 h hc
        rw [if_neg h1, rgt_some l (B x.f0)]
        unfold RightP
        constructor
        · rintro ⟨⟨a, b⟩, c⟩
          refine ⟨⟨fun z hz => ?_, List.pairwise_cons.2 ⟨c, b⟩⟩, fun z hz => ?_⟩
          · rcases List.mem_cons.1 hz with rfl | hz
            · exact hw
            · exact a z hz
          · rcases List.mem_cons.1 hz with rfl | hz
            · exact hc
            · exact less_trans hc (c z hz)
        · rintro ⟨⟨a, b⟩, c⟩
          exact ⟨⟨fun z hz => a z (List.mem_cons_of_mem _ hz), (List.pairwise_cons.1 b).2⟩, (List.pairwise_cons.1 b).1⟩
      · rw [if_pos ((nle _ _).2 hc)]
        constructor
        · intro h; cases h
        · rintro ⟨_, c⟩
          exact absurd (c x List.mem_cons_self) hc
    · simp only [if_neg hw]
      constructor
      · intro h; exact absurd h hw
      · rintro ⟨⟨a, _⟩, _⟩
        exact absurd (a x List.mem_cons_self) hw
theorem rgt_none : ∀ (l : List Lab), rgt none l = 0 ↔ RightP l
  | [] => by simp [rgt, RightP]
  | x :: l => by
    unfold rgt
    by_cases hw : wrongB false x = 0
    · simp only [if_pos hw, Bool.false_eq_true, if_false]
      rw [rgt_some l (B x.f0)]
      unfold RightP
      constructor
      · rintro ⟨⟨a, b⟩, c⟩
        refine ⟨fun z hz => ?_, List.pairwise_cons.2 ⟨c, b⟩⟩
        rcases List.mem_cons.1 hz with rfl | hz
        · exact hw
        · exact a z hz
      · rintro ⟨a, b⟩
        exact ⟨⟨fun z hz => a z (List.mem_cons_of_mem _ hz), (List.pairwise_cons.1 b).2⟩, (List.pairwise_cons.1 b).1⟩
    · simp only [if_neg hw]
      constructor
      · intro h; exact absurd h hw
      · rintro ⟨a, _⟩
        exact absurd (a x List.mem_cons_self) hw
theorem right_zero (l : List Lab) : rightB l = 0 ↔ l.length ≤ 16 ∧ RightP l := by
  unfold rightB
  by_cases h : l.length ≤ 16
  · rw [if_pos h, rgt_none]
    exact ⟨fun h' => ⟨h, h'⟩, fun h' => h'.2⟩
  · rw [if_neg h]
    exact ⟨fun h1 => (by cases h1), fun h1 => absurd h1.1 h⟩
theorem right_filter (l : List Lab) (p : Lab → Bool) (h : rightB l = 0) : rightB (l.filter p) = 0 := by
  rw [right_zero] at h ⊢
  obtain ⟨h1, h2, h3⟩ := h
  exact ⟨Nat.le_trans (List.length_filter_le _ _) h1, fun x hx => h2 x (List.mem_filter.1 hx).1, h3.filter _⟩
theorem ins_up (out : List Lab) (x : Lab) (h : Up out) (hx : ∀ z ∈ out, ¬ z.f0 = x.f0) : Up (ins out x) ∧ ∀ z, z ∈ ins out x ↔ z = x ∨ z ∈ out := by
  have hA : ∀ z ∈ out.takeWhile (fun z => decide (lt z.f0 x.f0)), lt z.f0 x.f0 := by
    have : ∀ l : List Lab, ∀ z ∈ l.takeWhile (fun z => decide (lt z.f0 x.f0)), lt z.f0 x.f0 := by
      intro l
      induction l with
      | nil => intro z hz; simp at hz
      | cons a l ih =>
        intro z hz
        rw [List.takeWhile_cons] at hz
        by_cases ha : lt a.f0 x.f0
        · rw [decide_eq_true ha, if_pos rfl] at hz
          rcases List.mem_cons.1 hz with rfl | hz
          · exact ha
          · exact ih z hz
        · rw [decide_eq_false ha] at hz
          simp at hz
    exact this out
  have hC : ∀ l : List Lab, Up l → (∀ z ∈ l, ¬ z.f0 = x.f0) → ∀ z ∈ l.dropWhile (fun z => decide (lt z.f0 x.f0)), lt x.f0 z.f0 := by
    intro l
    induction l with
    | nil => intro _ _ z hz; simp at hz
    | cons a l ih =>
      intro hu hn z hz
      rw [List.dropWhile_cons] at hz
      by_cases ha : lt a.f0 x.f0
      · rw [decide_eq_true ha, if_pos rfl] at hz
        exact ih (List.pairwise_cons.1 hu).2 (fun z hz => hn z (List.mem_cons_of_mem _ hz)) z hz
      · rw [decide_eq_false ha] at hz
        have hxa : lt x.f0 a.f0 := by
          by_cases h' : lt x.f0 a.f0
          · exact h'
          · exact absurd (lt_total ha h') (hn a List.mem_cons_self)
        rcases List.mem_cons.1 hz with rfl | hz
        · exact hxa
        · exact lt_trans hxa ((List.pairwise_cons.1 hu).1 z hz)
  have hC' := hC out h hx
  have e := List.takeWhile_append_dropWhile (p := fun z : Lab => decide (lt z.f0 x.f0)) (l := out)
  have h2 : Up (out.takeWhile (fun z => decide (lt z.f0 x.f0)) ++ out.dropWhile (fun z => decide (lt z.f0 x.f0))) := by rw [e]; exact h
  obtain ⟨p1, p2, p3⟩ := List.pairwise_append.1 h2
  refine ⟨?_, fun z => ?_⟩
  · unfold ins
    refine List.pairwise_append.2 ⟨p1, List.pairwise_cons.2 ⟨hC', p2⟩, fun a ha b hb => ?_⟩
    rcases List.mem_cons.1 hb with rfl | hb
    · exact hA a ha
    · exact p3 a ha b hb
  · unfold ins
    have hz : z ∈ out ↔ z ∈ out.takeWhile (fun z => decide (lt z.f0 x.f0)) ∨ z ∈ out.dropWhile (fun z => decide (lt z.f0 x.f0)) := by
      conv => lhs; rw [← e]
      exact List.mem_append
    rw [List.mem_append, List.mem_cons, hz]
    constructor
    · rintro (h | h | h)
      · exact .inr (.inl h)
      · exact .inl h
      · exact .inr (.inr h)
    · rintro (h | h | h)
      · exact .inr (.inl h)
      · exact .inl h
      · exact .inr (.inr h)
theorem rmk_spec : ∀ (seen out l : List Lab), Up out → (∀ z ∈ out, ∃ s ∈ seen, s.f0 = z.f0) → (rmk seen out l).2 = 0 →
    Up (rmk seen out l).1 ∧ (rmk seen out l).1.length ≤ 16 ∧ ∀ z, z ∈ (rmk seen out l).1 ↔ z ∈ out ∨ (z ∈ l ∧ ¬ B z.f1 = [])
  | seen, out, [], hu, hn, h => by
    unfold rmk at h ⊢
    by_cases hl : out.length ≤ 16
    · rw [if_pos hl]
      exact ⟨hu, hl, fun z => by simp⟩
    · rw [if_neg hl] at h
      cases h
  | seen, out, x :: l, hu, hn, h => by
    unfold rmk at h ⊢
    by_cases ha : seen.any (fun z => decide (B z.f0 = B x.f0)) = true
    · rw [if_pos ha] at h
      cases h
    · rw [if_neg ha] at h ⊢
      have hx : ∀ z ∈ out, ¬ z.f0 = x.f0 := by
        intro z hz e
        obtain ⟨s, hs, hsz⟩ := hn z hz
        exact ha (List.any_eq_true.2 ⟨s, hs, decide_eq_true (by rw [hsz, e])⟩)
      obtain ⟨i1, i2⟩ := ins_up out x hu hx
      by_cases he : B x.f1 = []
      · rw [if_pos he] at h ⊢
        obtain ⟨a, b, c⟩ := rmk_spec (seen ++ [x]) out l hu (fun z hz => by
          obtain ⟨s, hs, e⟩ := hn z hz
          exact ⟨s, by simp [hs], e⟩) h
        refine ⟨a, b, fun z => ?_⟩
        rw [c, List.mem_cons]
        constructor
        · rintro (h | ⟨h, h'⟩)
          · exact .inl h
          · exact .inr ⟨.inr h, h'⟩
        · rintro (h | ⟨h | h, h'⟩)
          · exact .inl h
          · rw [h] at h'; exact absurd he h'
          · exact .inr ⟨h, h'⟩
      · rw [if_neg he] at h ⊢
        obtain ⟨a, b, c⟩ := rmk_spec (seen ++ [x]) (ins out x) l i1 (fun z hz => by
          rcases (i2 z).1 hz with rfl | hz
          · exact ⟨z, by simp, rfl⟩
          · obtain ⟨s, hs, e⟩ := hn z hz
            exact ⟨s, by simp [hs], e⟩) h
        refine ⟨a, b, fun z => ?_⟩
        rw [c, i2, List.mem_cons]
        constructor
        · rintro ((h | h) | ⟨h, h'⟩)
          · exact .inr ⟨.inl h, by rw [h]; exact he⟩
          · exact .inl h
          · exact .inr ⟨.inr h, h'⟩
        · rintro (h | ⟨h | h, h'⟩)
          · exact .inl (.inr h)
          · exact .inl (.inl h)
          · exact .inr ⟨h, h'⟩
theorem firstW_none : ∀ l : List Lab, firstW l = none ↔ ∀ x ∈ l, wrongB true x = 0
  | [] => by simp [firstW]
  | x :: l => by
    unfold firstW
    by_cases h : wrongB true x = 0
    · rw [if_pos h, firstW_none l]
      simp [h]
    · rw [if_neg h]
      simp [h]
theorem firstW_some : ∀ (l : List Lab) (e : Int), firstW l = some e → ¬ e = 0
  | [], e, h => by simp [firstW] at h
  | x :: l, e, h => by
    unfold firstW at h
    by_cases hw : wrongB true x = 0
    · rw [if_pos hw] at h
      exact firstW_some l e h
    · rw [if_neg hw] at h
      rw [← Option.some.inj h]
      exact hw
theorem wrong_both (x : Lab) : wrongB false x = 0 ↔ wrongB true x = 0 ∧ ¬ B x.f1 = [] := by
  unfold wrongB
  simp only [Bool.false_eq_true, if_false, if_true]
  split
  · split
    · split
      · next h => simp [h]
      · next h => simp [h]
    · simp
  · simp
theorem makeB_ok (l : List Lab) (h : (makeB l).2 = 0) : rightB (makeB l).1 = 0 ∧ ∀ z, z ∈ (makeB l).1 ↔ z ∈ l ∧ ¬ B z.f1 = [] := by
  unfold makeB at h ⊢
  cases hf : firstW l with
  | some e =>
    rw [hf] at h
    exact absurd h (firstW_some l e hf)
  | none =>
    rw [hf] at h
    have hw := (firstW_none l).1 hf
    obtain ⟨a, b, c⟩ := rmk_spec [] [] l List.Pairwise.nil (fun z hz => by simp at hz) h
    refine ⟨(right_zero _).2 ⟨b, fun x hx => ?_, a⟩, fun z => by rw [c]; simp⟩
    rcases (c x).1 hx with h | ⟨h, h'⟩
    · simp at h
    · exact (wrong_both x).2 ⟨hw x h, h'⟩
theorem getL_none (nm : ByteArray) : ∀ l : List Lab, (∀ z ∈ l, ¬ B z.f0 = B nm) → getL nm l = ⟨#[]⟩
  | [], _ => rfl
  | z :: l, h => by
    unfold getL
    rw [if_neg (h z List.mem_cons_self)]
    exact getL_none nm l fun z hz => h z (List.mem_cons_of_mem _ hz)
theorem getL_some (nm v : ByteArray) : ∀ l : List Lab, (∀ z ∈ l, B z.f0 = B nm → z.f1 = v) → (∃ z ∈ l, B z.f0 = B nm) → getL nm l = v
  | [], _, h => by obtain ⟨z, hz, _⟩ := h; simp at hz
  | z :: l, h, h' => by
    unfold getL
    by_cases hz : B z.f0 = B nm
    · rw [if_pos hz]
      exact h z List.mem_cons_self hz
    · rw [if_neg hz]
      refine getL_some nm v l (fun z hz => h z (List.mem_cons_of_mem _ hz)) ?_
      obtain ⟨y, hy, e⟩ := h'
      rcases List.mem_cons.1 hy with rfl | hy
      · exact absurd e hz
      · exact ⟨y, hy, e⟩
theorem with_ok (l : List Lab) (a b : ByteArray) (h : rightB l = 0) (h' : (withL l a b).2 = 0) : rightB (withL l a b).1 = 0 ∧ getL a (withL l a b).1 = b := by
  unfold withL at h' ⊢
  rw [if_pos h] at h' ⊢
  obtain ⟨h1, h2⟩ := makeB_ok _ h'
  refine ⟨h1, ?_⟩
  have h3 : ∀ z, z ∈ (makeB (l.filter (fun z => !decide (B z.f0 = B a)) ++ [⟨a, b⟩])).1 → B z.f0 = B a → z = ⟨a, b⟩ := by
    intro z hz e
    rcases List.mem_append.1 ((h2 z).1 hz).1 with h | h
    · have := (List.mem_filter.1 h).2
      simp [e] at this
    · exact List.mem_singleton.1 h
  by_cases hb : B b = []
  · rw [getL_none a]
    · apply B_inj
      rw [hb]
      rfl
    · intro z hz e
      have := h3 z hz e
      have h4 := ((h2 z).1 hz).2
      rw [this] at h4
      exact h4 hb
  · exact getL_some a b _ (fun z hz e => by rw [h3 z hz e]) ⟨⟨a, b⟩, (h2 _).2 ⟨by simp, hb⟩, rfl⟩
def eqB (y z : Lab) : Bool := (B z.f0 == B y.f0) && (B z.f1 == B y.f1)
theorem eqB_true (y z : Lab) : eqB y z = true ↔ z = y := by
  unfold eqB
  rw [Bool.and_eq_true, beq_iff_eq, beq_iff_eq]
  constructor
  · rintro ⟨h1, h2⟩
    exact pr_inj (by unfold pr; rw [h1, h2])
  · rintro rfl
    exact ⟨rfl, rfl⟩
theorem Split_l2 (l a b : List Lab) (n : Int) (ci : Int) (x y : Lab) (hb : b.length ≤ 100000) : ∀ (d m c : Nat), m + d = b.length → c ≤ m →
    ∀ r, (∀ co : Nat, (co = 0 ↔ c = 0 ∧ ¬ y ∈ b.drop m) → Ev (fun k => if ci > 0 then (if (co : Int) > 0 then some false else (if ci = 0 then (if (co : Int) = 0 then (if B y.f0 = nameL then manometerlaw05_LabelsSplit.l0 k l a b l (l.length : Int) (wrap64 (n + 1)) x.f0 x.f1 else some false) else manometerlaw05_LabelsSplit.l0 k l a b l (l.length : Int) (wrap64 (n + 1)) x.f0 x.f1) else manometerlaw05_LabelsSplit.l0 k l a b l (l.length : Int) (wrap64 (n + 1)) x.f0 x.f1)) else (if ci = 0 then (if (co : Int) = 0 then (if B y.f0 = nameL then manometerlaw05_LabelsSplit.l0 k l a b l (l.length : Int) (wrap64 (n + 1)) x.f0 x.f1 else some false) else manometerlaw05_LabelsSplit.l0 k l a b l (l.length : Int) (wrap64 (n + 1)) x.f0 x.f1) else manometerlaw05_LabelsSplit.l0 k l a b l (l.length : Int) (wrap64 (n + 1)) x.f0 x.f1)) r) →
    Ev (fun k => manometerlaw05_LabelsSplit.l2 k l a b ci (c : Int) l (l.length : Int) n b (b.length : Int) (m : Int) x.f0 x.f1 y.f0 y.f1) r
  | d, m, c, hd, hc, r, h => by
    refine Ev.step (f := _) (fun k => by simp only [manometerlaw05_LabelsSplit.l2]; rfl) ?_
    by_cases hlt : m < b.length
    · obtain ⟨d, rfl⟩ : ∃ e, d = e + 1 := ⟨d - 1, by omega⟩
      have e1 : (m : Int) < (b.length : Int) := by omega
      have e2 : (0 : Int) ≤ (m : Int) := by omega
      simp only [if_pos e1, if_pos e2, rdn, w1 m (by omega), w1 c (by omega), toList_B]
      rw [dropS b m hlt] at h
      by_cases he : b.getD m z44 = y
      · have : (B (b.getD m z44).f0 == B y.f0 && B (b.getD m z44).f1 == B y.f1) = true := (eqB_true y _).2 he
        simp only [this, if_true]
        refine Split_l2 l a b n ci x y hb d (m + 1) (c + 1) (by omega) (by omega) r fun co hco => h co ?_
        rw [hco]
        constructor
        · rintro ⟨h, _⟩; omega
        · rintro ⟨_, h⟩; exact absurd (by rw [he]; exact List.mem_cons_self) h
      · have : (B (b.getD m z44).f0 == B y.f0 && B (b.getD m z44).f1 == B y.f1) = false := by
          cases h' : (B (b.getD m z44).f0 == B y.f0 && B (b.getD m z44).f1 == B y.f1) with
          | false => rfl
          | true => exact absurd ((eqB_true y _).1 h') he
        simp only [this, Bool.false_eq_true, if_false]
        refine Split_l2 l a b n ci x y hb d (m + 1) c (by omega) (by omega) r fun co hco => h co ?_
        rw [hco, List.mem_cons]
        constructor
        · rintro ⟨h, h'⟩; exact ⟨h, fun h'' => h''.elim (fun e => he e.symm) h'⟩
        · rintro ⟨h, h'⟩; exact ⟨h, fun h'' => h' (.inr h'')⟩
    · rw [List.drop_of_length_le (by omega)] at h
      simp only [if_neg (show ¬ (m : Int) < (b.length : Int) by omega), toList_B]
      exact h c (by simp)
theorem Split_l1 (l a b : List Lab) (n : Int) (x y : Lab) (ha : a.length ≤ 100000) : ∀ (d m c : Nat), m + d = a.length → c ≤ m →
    ∀ r, (∀ ci : Nat, (ci = 0 ↔ c = 0 ∧ ¬ y ∈ a.drop m) → Ev (fun k => manometerlaw05_LabelsSplit.l2 k l a b (ci : Int) 0 l (l.length : Int) n b (b.length : Int) 0 x.f0 x.f1 y.f0 y.f1) r) →
    Ev (fun k => manometerlaw05_LabelsSplit.l1 k l a b (c : Int) 0 l (l.length : Int) n a (a.length : Int) (m : Int) x.f0 x.f1 y.f0 y.f1) r
  | d, m, c, hd, hc, r, h => by
    refine Ev.step (f := _) (fun k => by simp only [manometerlaw05_LabelsSplit.l1]; rfl) ?_
    by_cases hlt : m < a.length
    · obtain ⟨d, rfl⟩ : ∃ e, d = e + 1 := ⟨d - 1, by omega⟩
      have e1 : (m : Int) < (a.length : Int) := by omega
      have e2 : (0 : Int) ≤ (m : Int) := by omega
      simp only [if_pos e1, if_pos e2, rdn, w1 m (by omega), w1 c (by omega), toList_B]
      rw [dropS a m hlt] at h
      by_cases he : a.getD m z44 = y
      · have : (B (a.getD m z44).f0 == B y.f0 && B (a.getD m z44).f1 == B y.f1) = true := (eqB_true y _).2 he
        simp only [this, if_true]
        refine Split_l1 l a b n x y ha d (m + 1) (c + 1) (by omega) (by omega) r fun co hco => h co ?_
        rw [hco]
        constructor
        · rintro ⟨h, _⟩; omega
        · rintro ⟨_, h⟩; exact absurd (by rw [he]; exact List.mem_cons_self) h
      · have : (B (a.getD m z44).f0 == B y.f0 && B (a.getD m z44).f1 == B y.f1) = false := by
          cases h' : (B (a.getD m z44).f0 == B y.f0 && B (a.getD m z44).f1 == B y.f1) with
          | false => rfl
          | true => exact absurd ((eqB_true y _).1 h') he
        simp only [this, Bool.false_eq_true, if_false]
        refine Split_l1 l a b n x y ha d (m + 1) c (by omega) (by omega) r fun co hco => h co ?_
        rw [hco, List.mem_cons]
        constructor
        · rintro ⟨h, h'⟩; exact ⟨h, fun h'' => h''.elim (fun e => he e.symm) h'⟩
        · rintro ⟨h, h'⟩; exact ⟨h, fun h'' => h' (.inr h'')⟩
    · rw [List.drop_of_length_le (by omega)] at h
      simp only [if_neg (show ¬ (m : Int) < (a.length : Int) by omega)]
      exact h c (by simp)
theorem Split_l0 (l : List Lab) (nm : List ByteArray) (x : Lab) (hl : l.length ≤ 100000) (r : Bool)
    (hr : Ev (fun k => manometerlaw05_LabelsSplit.l0 k l (byL nm l) (woL nm l) l (l.length : Int) (l.length : Int) x.f0 x.f1) r) : ∀ (d n : Nat), n + d = l.length →
    Ev (fun k => manometerlaw05_LabelsSplit.l0 k l (byL nm l) (woL nm l) l (l.length : Int) (n : Int) x.f0 x.f1) r
  | d, n, hd => by
    by_cases hlt : n < l.length
    · refine Ev.step (f := _) (fun k => by simp only [manometerlaw05_LabelsSplit.l0]; rfl) ?_
      obtain ⟨d, rfl⟩ : ∃ e, d = e + 1 := ⟨d - 1, by omega⟩
      have ih := Split_l0 l nm x hl r hr d (n + 1) (by omega)
      have e1 : (n : Int) < (l.length : Int) := by omega
      have e2 : (0 : Int) ≤ (n : Int) := by omega
      simp only [if_pos e1, if_pos e2, rdn]
      have hy : l.getD n z44 ∈ l := by
        rw [List.getD_eq_getElem?_getD, List.getElem?_eq_getElem hlt]
        exact List.getElem_mem hlt
      generalize l.getD n z44 = y at *
      refine Split_l1 l (byL nm l) (woL nm l) (n : Int) x y (by have := List.length_filter_le (fun z : Lab => amB nm z.f0) l; unfold byL; omega) _ 0 0 (Nat.zero_add _) (Nat.le_refl _) r fun ci hci => ?_
      refine Split_l2 l (byL nm l) (woL nm l) (n : Int) (ci : Int) x y (by have := List.length_filter_le (fun z : Lab => !decide (B z.f0 = nameL) && !amB nm z.f0) l; unfold woL; omega) _ 0 0 (Nat.zero_add _) (Nat.le_refl _) r fun co hco => ?_
      rw [List.drop_zero] at hci hco
      have hin : y ∈ byL nm l ↔ amB nm y.f0 = true := by unfold byL; rw [List.mem_filter]; exact ⟨fun h => h.2, fun h => ⟨hy, h⟩⟩
      have hout : y ∈ woL nm l ↔ (¬ B y.f0 = nameL ∧ amB nm y.f0 = false) := by
        unfold woL
        rw [List.mem_filter]
        simp [hy]
      rw [hin] at hci
      rw [hout] at hco
      simp only [w1 n (by omega)]
      have hci' : ci = 0 ↔ ¬ amB nm y.f0 = true := hci.trans ⟨fun h => h.2, fun h => ⟨rfl, h⟩⟩
      have hco' : co = 0 ↔ ¬ (¬ B y.f0 = nameL ∧ amB nm y.f0 = false) := hco.trans ⟨fun h => h.2, fun h => ⟨rfl, h⟩⟩
      by_cases g1 : ci = 0
      · have g2 := hci'.1 g1
        simp only [if_neg (show ¬ (ci : Int) > 0 by omega), if_pos (show (ci : Int) = 0 by omega)]
        by_cases g3 : co = 0
        · simp only [if_pos (show (co : Int) = 0 by omega)]
          have g4 : B y.f0 = nameL := Classical.byContradiction fun g5 => (hco'.1 g3) ⟨g5, by simpa using g2⟩
          simp only [if_pos g4]
          exact ih
        · simp only [if_neg (show ¬ (co : Int) = 0 by omega)]
          exact ih
      · have g2 : amB nm y.f0 = true := Classical.byContradiction fun g => g1 (hci'.2 g)
        have g3 : co = 0 := hco'.2 fun g => by rw [g2] at g; cases g.2
        simp only [if_pos (show (ci : Int) > 0 by omega), if_neg (show ¬ (co : Int) > 0 by omega), if_neg (show ¬ (ci : Int) = 0 by omega)]
        exact ih
    · have hn : n = l.length := by omega
      rw [hn]
      exact hr
theorem two_parts (l : List Lab) (p q : Lab → Bool) (h : ∀ z, p z = true → q z = true → False) : (l.filter p).length + (l.filter q).length ≤ l.length := by
  induction l with
  | nil => simp
  | cons a l ih =>
    rw [List.filter_cons, List.filter_cons]
    have := h a
    cases hp : p a <;> cases hq : q a <;> simp_all <;> omega
theorem labelsSplit (l : List Lab) (nm : List ByteArray) (x : Lab) : ∃ k, manometerlaw05_LabelsSplit.f k l nm x.f0 x.f1 = some true := by
  obtain ⟨a, b⟩ := x
  have hj : ∀ z : Bool, (z = false → fewB l = true ∧ fewB [(⟨a, b⟩ : Lab)] = true ∧ namesB nm = true) → Ev (fun k => manometerlaw05_LabelsSplit.j0 k l nm z a b) true := by
    intro z hz
    refine Ev.step (f := _) (fun k => by simp only [manometerlaw05_LabelsSplit.j0]; rfl) ?_
    cases z with
    | true =>
      simp only [if_true]
      exact live_ev.bind (Ev.now _)
    | false =>
      obtain ⟨h1, h2, h3⟩ := hz rfl
      have hs := few_sm h1
      have hl := (few_of h1).1
      have hn := names_of h3
      obtain ⟨h4, h5⟩ := few1 h2
      simp only [Bool.false_eq_true, if_false]
      obtain ⟨b1, b2⟩ := By_ev l nm (by omega) (by omega)
      obtain ⟨c1, c2⟩ := Wo_ev l nm (by omega) (by omega)
      refine b1.bind (c1.bind ?_)
      refine Split_l0 l nm ⟨a, b⟩ (by omega) true ?_ l.length 0 (by omega)
      have hbl : (byL nm l).length + (woL nm l).length ≤ l.length := two_parts l _ _ (fun z h h' => by rw [h] at h'; simp at h')
      refine Ev.step (f := _) (fun k => by simp only [manometerlaw05_LabelsSplit.l0]; rfl) ?_
      have hw : wrap64 (((byL nm l).length : Int) + ((woL nm l).length : Int)) = (((byL nm l).length + (woL nm l).length : Nat) : Int) := wn (by omega) (by omega)
      simp only [if_neg (show ¬ (l.length : Int) < (l.length : Int) by omega), hw, if_neg (show ¬ (((byL nm l).length + (woL nm l).length : Nat) : Int) > (l.length : Int) by omega)]
      refine (Right_ev l hs).1.bind ?_
      by_cases hr : rightB l = 0
      · simp only [if_pos hr]
        refine (With_ev l a b hs (by omega) (by omega) (by omega)).1.bind ?_
        have hb1 : rightB (byL nm l) = 0 := right_filter l _ hr
        have hb2 : rightB (woL nm l) = 0 := right_filter l _ hr
        have s1 : Sm (byL nm l) := ⟨by omega, fun z hz => hs.2 z (List.mem_filter.1 hz).1⟩
        have s2 : Sm (woL nm l) := ⟨by omega, fun z hz => hs.2 z (List.mem_filter.1 hz).1⟩
        have r1 := (Right_ev _ s1).1
        have r2 := (Right_ev _ s2).1
        rw [hb1] at r1
        rw [hb2] at r2
        refine r1.bind ?_
        simp only [if_true]
        refine r2.bind ?_
        simp only [if_true]
        by_cases ho : (withL l a b).2 = 0
        · simp only [if_pos ho]
          obtain ⟨o1, o2⟩ := with_ok l a b hr ho
          have wl := withL_len l a b
          have s3 : Sm (withL l a b).1 := by
            refine ⟨by omega, fun z hz => ?_⟩
            unfold withL at hz ho
            rw [if_pos hr] at hz ho
            have := (((makeB_ok _ ho).2 z).1 hz).1
            exact (with_sm l a b hs (by omega) (by omega) (by omega)).2 z this
          have r3 := (Right_ev _ s3).1
          rw [o1] at r3
          refine r3.bind ?_
          simp only [if_true]
          refine (Get_ev _ a (by omega)).bind ?_
          rw [o2]
          simp only [beq_self_eq_true]
          exact Ev.now _
        · simp only [if_neg ho]
          exact Ev.now _
      · simp only [if_neg hr]
        exact Ev.now _
  refine Ev.rounds ?_
  unfold manometerlaw05_LabelsSplit.f
  refine live_ev.bind ?_
  simp only [if_true]
  refine (few_ev l).bind ?_
  cases h1 : fewB l with
  | false => exact hj true (by simp)
  | true =>
    simp only [if_true]
    refine (few_ev [(⟨a, b⟩ : Lab)]).bind ?_
    cases h2 : fewB [(⟨a, b⟩ : Lab)] with
    | false => exact hj true (by simp)
    | true =>
      simp only [if_true]
      refine (names_ev nm).bind ?_
      exact hj _ (fun h => ⟨h1, h2, by simpa using h⟩)
end Go.Proofs.YtdhmabofncbohaaDoor.Pu
