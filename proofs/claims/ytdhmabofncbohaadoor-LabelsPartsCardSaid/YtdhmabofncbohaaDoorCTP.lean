import Derived.Test.YtdhmabofncbohaaDoorCTK
namespace Go.Proofs.YtdhmabofncbohaaDoor
open Go.RowKit Go.Proofs.YtdhmabofncbohaaDoorW.PrintWords
set_option linter.unusedVariables false
set_option linter.unusedSimpArgs false
structure Plain {α : Type} (d : Kd α) (enc : α → List Value) : Prop where
  K : ∀ {w x cs}, d.K w x cs ↔ cs = enc x
  M : ∀ {w base ok x cs}, d.M w base ok x cs ↔ cs = enc x
  pos : 0 < d.sz
section
variable {α : Type} {d : Kd α} {enc : α → List Value} {e n base : Nat} {ok : Nat → Prop} {w : World} {v : Value} {A : Option Addr} {xs ys : List α}
theorem Plain.len (hp : Plain d enc) (x : α) : (enc x).length = d.sz := d.K_len (w := (default : World)) (x := x) (hp.K.2 rfl)
theorem Plain.one (hp : Plain d enc) (w : World) (x : α) : ∀ u ∈ enc x, u.oneCell' = true := d.K_one (w := w) (x := x) (hp.K.2 rfl)
theorem Plain.flat_len (hp : Plain d enc) (w : World) (xs : List α) : (xs.flatMap enc).length = xs.length * d.sz := by
  induction xs with
  | nil => simp
  | cons x xs ih => rw [List.flatMap_cons, List.length_append, ih, hp.len, List.length_cons, Nat.add_mul]; omega
theorem Plain.flat_get (hp : Plain d enc) (w : World) : ∀ (xs : List α) (j : Nat) (p : α), xs[j]? = some p → ((xs.flatMap enc).drop (j * d.sz)).take d.sz = enc p
  | [], j, p, h => by simp at h
  | x :: xs, 0, p, h => by
    have hx : x = p := by simpa using h
    subst hx
    have hl := hp.len x
    rw [Nat.zero_mul, List.drop_zero, List.flatMap_cons, ← hl, List.take_left]
  | x :: xs, j + 1, p, h => by
    have hl := hp.len x
    rw [List.flatMap_cons, Nat.add_mul, Nat.one_mul, Nat.add_comm, ← List.drop_drop, ← hl, List.drop_left, hl]
    exact hp.flat_get w xs j p (by simpa using h)
theorem Plain.reps (hp : Plain d enc) (w : World) (base : Nat) (ok : Nat → Prop) {cs : List Value} : Reps (d.M w base ok) d.sz xs cs ↔ cs = xs.flatMap enc := by
  constructor
  · rintro ⟨h1, h2⟩
    apply List.ext_getElem?
    intro q
    have hl := hp.flat_len w xs
    rcases Nat.lt_or_ge q cs.length with hq | hq
    · have hs : 0 < d.sz := hp.pos
      have hj : q / d.sz < xs.length := by rw [Nat.div_lt_iff_lt_mul hs, ← h1]; exact hq
      have hx := List.getElem?_eq_getElem hj
      have e1 := hp.M.1 (h2 _ _ hx)
      have e2 := hp.flat_get w xs _ _ hx
      have hm : q % d.sz < d.sz := Nat.mod_lt _ hs
      have hq2 : q / d.sz * d.sz + q % d.sz = q := by rw [Nat.mul_comm]; exact Nat.div_add_mod q d.sz
      have f1 : ((cs.drop (q / d.sz * d.sz)).take d.sz)[q % d.sz]? = cs[q]? := by rw [List.getElem?_take, if_pos hm, List.getElem?_drop, hq2]
      have f2 : (((xs.flatMap enc).drop (q / d.sz * d.sz)).take d.sz)[q % d.sz]? = (xs.flatMap enc)[q]? := by rw [List.getElem?_take, if_pos hm, List.getElem?_drop, hq2]
      rw [← f1, ← f2, e1, e2]
    · rw [List.getElem?_eq_none hq, List.getElem?_eq_none (by omega)]
  · rintro rfl
    exact ⟨hp.flat_len w xs, fun j p h => hp.M.2 (hp.flat_get w xs j p h)⟩
theorem Plain.own (hp : Plain d enc) (h : d.R e w base ok v xs) : w.ownsRow base e d.sz v xs.length (xs.flatMap enc) := by
  obtain ⟨_, inner, ho, hr⟩ := h
  rw [(hp.reps w _ _).1 hr] at ho
  exact ho
end
section
variable {P : Program} {ops : Array Oper} {rest : List Oper} {o : Oper} {a : Act} {Q : Exit → Act → World → Prop} {K E : Act → World → Prop} {α : Type} {d : Kd α} {enc : α → List Value} {e base : Nat} {ok : Nat → Prop} {W : World} {v : Value} {A : Option Addr} {xs ys : List α}
end
end Go.Proofs.YtdhmabofncbohaaDoor
