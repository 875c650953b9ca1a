import Derived.Test.YtdhmabofncbohaaDoorCTO
import Derived.Deep.Slices
namespace Go.Proofs.YtdhmabofncbohaaDoor
open Go.RowKit Go.Proofs.YtdhmabofncbohaaDoorW.PrintWords Go.Proofs.YtdhmabofncbohaaDoorW.PrintMore Go.Proofs.YtdhmabofncbohaaDoorW.PrintLast Go.Deep
set_option linter.unusedVariables false
section
variable {H : Type} {enc : TypeId × Value → H} {P : Program} {w : World} {base : Nat} {spare : Nat → Bool} {held : Bool}
def Opens {α : Type} (enc : TypeId × Value → H) (P : Program) (w : World) (base : Nat) (spare : Nat → Bool) (held : Bool) (t : TypeId) (d : Kd α) (wf : α → Prop) : Prop :=
  ∀ (fuel : Nat) (cs : List Value) (x : DataW H × List MemPlace), DataW.trod enc P w base spare held fuel t cs = some x → ∃ a, d.K w a cs ∧ wf a
theorem opens_string {t : TypeId} (ht : P.underlying t = some .string) : Opens enc P w base spare held t Kd.string (fun s => s.size ≤ maxLen) := by
  intro fuel cs x h
  obtain ⟨s, rfl, _, hs⟩ := DataW.trod_string ht h
  exact ⟨s, rfl, hs⟩
theorem pick_list {α : Type} (n : Nat) (p : Nat → α → Prop) (h : ∀ i, i < n → ∃ a, p i a) : ∃ xs : List α, xs.length = n ∧ ∀ i a, xs[i]? = some a → p i a := by
  induction n with
  | zero => exact ⟨[], rfl, fun i a h => by simp at h⟩
  | succ n ih =>
    obtain ⟨xs, hl, hx⟩ := ih (fun i hi => h i (by omega))
    obtain ⟨a, ha⟩ := h n (by omega)
    refine ⟨xs ++ [a], by simp [hl], fun i b hb => ?_⟩
    by_cases hi : i < xs.length
    · rw [List.getElem?_append_left hi] at hb
      exact hx i b hb
    · have hlt := (List.getElem?_eq_some_iff.1 hb).1
      rw [List.length_append] at hlt
      have : i = xs.length := by simp at hlt; omega
      subst this
      rw [List.getElem?_append_right (by omega)] at hb
      have hab : a = b := by simpa using hb
      subst hab
      rw [hl]
      exact ha
theorem opens_slice {α : Type} {d : Kd α} {wf : α → Prop} {t e : TypeId} (ht : P.underlying t = some (.slice e)) (hc : P.cellsOf e = d.sz) (he : Opens enc P w base spare held e d wf) :
    Opens enc P w base spare held t (Kd.slice e d) (fun xs => ∀ x ∈ xs, wf x) := by
  intro fuel cs x h
  rcases open_slice ht h with ⟨rfl, _⟩ | ⟨a, len, cap, m, n, D, Pl, rfl, _, hl, hm, hmm, _, hi⟩
  · exact ⟨[], ⟨none, 0, rfl, Nat.le_refl _, rfl, Nat.zero_le _, fun h => by simp at h⟩, fun x hx => by simp at hx⟩
  · have hlm : len ≤ m := by rw [hmm]; split <;> omega
    obtain ⟨xs, hxl, hx⟩ := pick_list len (fun i y => wf y ∧ ∃ c, c.length = d.sz ∧ d.K w y c ∧ ∀ j u, c[j]? = some u → w.cell? (a.add (i * d.sz + j)) = some u) (fun i hil => by
      obtain ⟨cs', hcs, htr⟩ := hi i (by omega)
      obtain ⟨y, hK, hw⟩ := he n cs' _ htr
      obtain ⟨_, hcl, hat⟩ := World.cells?_some hcs
      rw [hc] at hcl hat
      refine ⟨y, hw, cs', hcl, hK, fun j u hj => ?_⟩
      have hjl : j < d.sz := by rw [← hcl]; exact (List.getElem?_eq_some_iff.1 hj).1
      have h2 := hat j hjl
      rw [Go.Deep.add_add, hj] at h2
      exact h2)
    refine ⟨xs, ⟨some a, cap, by rw [hxl], by omega, rfl, ?_, fun _ => ⟨a, rfl, fun j p hj => (hx j p hj).2⟩⟩, fun y hy => ?_⟩
    · have : xs.length ≤ maxLen := by omega
      exact this
    · obtain ⟨i, hi2, rfl⟩ := List.getElem_of_mem hy
      exact (hx i _ (List.getElem?_eq_getElem hi2)).1
def OpensFrom {α : Type} (enc : TypeId × Value → H) (P : Program) (w : World) (base : Nat) (spare : Nat → Bool) (held : Bool) (fs : Array Field) (i o n : Nat) (d : Kd α) (wf : α → Prop) : Prop :=
  ∀ (cs : List Value), cs.length = n → (∀ j f, i ≤ j → fs[j]? = some f → ∃ fuel x, DataW.trod enc P w base spare held fuel f.type ((cs.drop f.offset).take (P.cellsOf f.type)) = some x) → ∃ a, d.K w a (cs.drop o) ∧ wf a
theorem opens_last {α : Type} {d : Kd α} {wf : α → Prop} {fs : Array Field} {i o n : Nat} {f : Field} (hf : fs[i]? = some f) (ho : f.offset = o) (hc : P.cellsOf f.type = d.sz) (hn : o + d.sz = n) (h : Opens enc P w base spare held f.type d wf) :
    OpensFrom enc P w base spare held fs i o n d wf := by
  intro cs hl hall
  obtain ⟨fuel, x, ht⟩ := hall i f (Nat.le_refl _) hf
  rw [ho, List.take_of_length_le (by rw [List.length_drop]; omega)] at ht
  exact h fuel _ x ht
theorem opens_cons {α β : Type} {d : Kd α} {wf : α → Prop} {d' : Kd β} {wf' : β → Prop} {fs : Array Field} {i o n : Nat} {f : Field} (hf : fs[i]? = some f) (ho : f.offset = o) (hc : P.cellsOf f.type = d.sz) (hn : o + d.sz ≤ n) (h : Opens enc P w base spare held f.type d wf)
    (h' : OpensFrom enc P w base spare held fs (i + 1) (o + d.sz) n d' wf') : OpensFrom enc P w base spare held fs i o n (Kd.pair d d') (fun a => wf a.1 ∧ wf' a.2) := by
  intro cs hl hall
  obtain ⟨fuel, x, ht⟩ := hall i f (Nat.le_refl _) hf
  rw [ho, hc] at ht
  obtain ⟨a, hK, hw⟩ := h fuel _ x ht
  obtain ⟨b, hK', hw'⟩ := h' cs hl (fun j f hj hf => hall j f (by omega) hf)
  refine ⟨(a, b), ⟨_, _, ?_, hK, hK'⟩, hw, hw'⟩
  rw [← List.drop_drop, List.take_append_drop]
theorem opens_struct {α : Type} {d : Kd α} {wf : α → Prop} {fs : Array Field} {t : TypeId} {n : Nat} (ht : P.underlying t = some (.struct fs)) (hn : P.cellsOf t = n) (h : OpensFrom enc P w base spare held fs 0 0 n d wf) : Opens enc P w base spare held t d wf := by
  intro fuel cs x hx
  obtain ⟨xs, m, _, _, hl, hxl, hf⟩ := DataW.trod_struct ht hx
  obtain ⟨a, hK, hw⟩ := h cs (by omega) (fun j f _ hj => by
    have h1 := hf j f hj
    have hjl : j < fs.size := (Array.getElem?_eq_some_iff.1 hj).1
    rw [List.getElem?_eq_getElem (by omega)] at h1
    exact ⟨m, _, h1⟩)
  rw [List.drop_zero] at hK
  exact ⟨a, hK, hw⟩
theorem opens_arg {α : Type} {d : Kd α} {wf : α → Prop} {t e : TypeId} {A : Option Addr} {len cap : Nat} {x : DataW H} {ps : List MemPlace} (h : Opens enc P w base spare held t (Kd.slice e d) (fun xs => ∀ x ∈ xs, wf x))
    (hT : DataW.Trod enc P w base spare held t (.slice A len cap) x ps) : ∃ xs : List α, xs.length = len ∧ len ≤ cap ∧ d.C w A xs.length xs ∧ ∀ y ∈ xs, wf y := by
  obtain ⟨fuel, hf⟩ := hT
  obtain ⟨xs, ⟨B, c, he, hl, hC⟩, hw⟩ := h fuel _ _ hf
  have he2 : Value.slice A len cap = .slice B xs.length c := by
    have : ((Value.slice A len cap).cells.toList) = [Value.slice A len cap] := rfl
    rw [this] at he
    exact List.head_eq_of_cons_eq he
  injection he2 with h1 h2 h3
  subst h1
  subst h2
  subst h3
  exact ⟨xs, rfl, hl, hC, hw⟩
end
end Go.Proofs.YtdhmabofncbohaaDoor
