/- Kinds whose elements have no memory of their own: rows of them told by their cells; append of a whole row. -/
import Derived.Test.YtdhmabofncbohaaDoorK
namespace Go.Proofs.YtdhmabofncbohaaDoor
open Go.RowKit Go.Proofs.YtdhmabofncbohaaDoorW.PrintWords
set_option linter.unusedVariables false
set_option linter.unusedSimpArgs false

structure Plain {α : Type} (d : Kd α) (enc : α → List Value) : Prop where
  K : ∀ {w x cs}, d.K w x cs ↔ cs = enc x
  M : ∀ {w base ok x cs}, d.M w base ok x cs ↔ cs = enc x
  pos : 0 < d.sz
theorem plain_int (k : IntKind) : Plain (Kd.int k) (fun x => [.int k x]) := ⟨Iff.rfl, Iff.rfl, Nat.zero_lt_one⟩
theorem plain_bool : Plain Kd.bool (fun x => [.bool x]) := ⟨Iff.rfl, Iff.rfl, Nat.zero_lt_one⟩
theorem plain_string : Plain Kd.string (fun x => [.string x]) := ⟨Iff.rfl, Iff.rfl, Nat.zero_lt_one⟩

section
variable {α : Type} {d : Kd α} {enc : α → List Value} {e n base : Nat} {ok : Nat → Prop} {w : World} {v : Value} {A : Option Addr} {xs ys : List α}
theorem Plain.len (hp : Plain d enc) (x : α) : (enc x).length = d.sz := d.K_len (w := (default : World)) (x := x) (hp.K.2 rfl)
theorem Plain.one (hp : Plain d enc) (w : World) (x : α) : ∀ u ∈ enc x, u.oneCell' = true := d.K_one (w := w) (x := x) (hp.K.2 rfl)
theorem Plain.flat_len (hp : Plain d enc) (w : World) (xs : List α) : (xs.flatMap enc).length = xs.length * d.sz := by
  induction xs with
  | nil => simp
  | cons x xs ih => rw [List.flatMap_cons, List.length_append, ih, hp.len, List.length_cons, Nat.add_mul]; omega
theorem Plain.flat_get (hp : Plain d enc) (w : World) : ∀ (xs : List α) (j : Nat) (p : α), xs[j]? = some p → ((xs.flatMap enc).drop (j * d.sz)).take d.sz = enc p
  | [], j, p, h => by simp at h
  | x :: xs, 0, p, h => by
    have hx : x = p := by simpa using h
    subst hx
    have hl := hp.len x
    rw [Nat.zero_mul, List.drop_zero, List.flatMap_cons, ← hl, List.take_left]
  | x :: xs, j + 1, p, h => by
    have hl := hp.len x
    rw [List.flatMap_cons, Nat.add_mul, Nat.one_mul, Nat.add_comm, ← List.drop_drop, ← hl, List.drop_left, hl]
    exact hp.flat_get w xs j p (by simpa using h)
theorem Plain.flat_at (hp : Plain d enc) (w : World) (xs : List α) (j : Nat) (p : α) (i : Nat) (u : Value) (h : xs[j]? = some p) (hu : (enc p)[i]? = some u) : (xs.flatMap enc)[j * d.sz + i]? = some u := by
  have hl := hp.len p
  have hi : i < d.sz := by rw [← hl]; exact (List.getElem?_eq_some_iff.1 hu).1
  have hg := hp.flat_get w xs j p h
  rw [← hg, List.getElem?_take, if_pos hi, List.getElem?_drop] at hu
  exact hu
theorem Plain.reps (hp : Plain d enc) (w : World) (base : Nat) (ok : Nat → Prop) {cs : List Value} : Reps (d.M w base ok) d.sz xs cs ↔ cs = xs.flatMap enc := by
  constructor
  · rintro ⟨h1, h2⟩
    apply List.ext_getElem?
    intro q
    have hl := hp.flat_len w xs
    rcases Nat.lt_or_ge q cs.length with hq | hq
    · have hs : 0 < d.sz := hp.pos
      have hj : q / d.sz < xs.length := by rw [Nat.div_lt_iff_lt_mul hs, ← h1]; exact hq
      have hx := List.getElem?_eq_getElem hj
      have e1 := hp.M.1 (h2 _ _ hx)
      have e2 := hp.flat_get w xs _ _ hx
      have hm : q % d.sz < d.sz := Nat.mod_lt _ hs
      have hq2 : q / d.sz * d.sz + q % d.sz = q := by rw [Nat.mul_comm]; exact Nat.div_add_mod q d.sz
      have f1 : ((cs.drop (q / d.sz * d.sz)).take d.sz)[q % d.sz]? = cs[q]? := by rw [List.getElem?_take, if_pos hm, List.getElem?_drop, hq2]
      have f2 : (((xs.flatMap enc).drop (q / d.sz * d.sz)).take d.sz)[q % d.sz]? = (xs.flatMap enc)[q]? := by rw [List.getElem?_take, if_pos hm, List.getElem?_drop, hq2]
      rw [← f1, ← f2, e1, e2]
    · rw [List.getElem?_eq_none hq, List.getElem?_eq_none (by omega)]
  · rintro rfl
    exact ⟨hp.flat_len w xs, fun j p h => hp.M.2 (hp.flat_get w xs j p h)⟩
theorem Plain.own (hp : Plain d enc) (h : d.R e w base ok v xs) : w.ownsRow base e d.sz v xs.length (xs.flatMap enc) := by
  obtain ⟨_, inner, ho, hr⟩ := h
  rw [(hp.reps w _ _).1 hr] at ho
  exact ho
theorem Plain.R_of (hp : Plain d enc) (h0 : ∀ k, v.ownBlock = some k → ok k) (h : w.ownsRow base e d.sz v xs.length (xs.flatMap enc)) : d.R e w base ok v xs := ⟨h0, _, h, (hp.reps w _ _).2 rfl⟩
theorem Plain.C_cells (hp : Plain d enc) (h : d.C w A n xs) : xs.length = n ∧ n ≤ 9223372036854775807 ∧ (0 < n → ∃ ad, A = some ad ∧ ∀ j u, (xs.flatMap enc)[j]? = some u → w.cell? (ad.add j) = some u) := by
  obtain ⟨h1, h2, h3⟩ := h
  refine ⟨h1, h2, fun hn => ?_⟩
  obtain ⟨ad, rfl, hc⟩ := h3 hn
  refine ⟨ad, rfl, fun q u hu => ?_⟩
  have hs : 0 < d.sz := hp.pos
  have hq : q < xs.length * d.sz := by rw [← hp.flat_len w xs]; exact (List.getElem?_eq_some_iff.1 hu).1
  have hj : q / d.sz < xs.length := by rw [Nat.div_lt_iff_lt_mul hs]; exact hq
  have hx := List.getElem?_eq_getElem hj
  obtain ⟨c, hcl, hk, hcell⟩ := hc _ _ hx
  have e1 := hp.K.1 hk
  subst e1
  have hm : q % d.sz < d.sz := Nat.mod_lt _ hs
  have hq2 : q / d.sz * d.sz + q % d.sz = q := by rw [Nat.mul_comm]; exact Nat.div_add_mod q d.sz
  have f := hcell (q % d.sz) u (by
    have hi : q % d.sz < (enc xs[q / d.sz]).length := by rw [hp.len]; exact hm
    have := hp.flat_at w xs _ _ (q % d.sz) _ hx (List.getElem?_eq_getElem hi)
    rw [hq2, hu] at this
    rw [List.getElem?_eq_getElem hi]
    exact this.symm)
  rwa [hq2] at f

/-- append(v, ys...), v a row of the call's own. -/
theorem Plain.run_append {P : Program} (hp : Plain d enc) (t ty : TypeId) (z : Value) (bytes : Nat) (ht : P.underlying t = some (.slice e)) (hinfo : (P.info? e).map (fun i => (i.zero, i.size, i.bytes)) = some (some z, d.sz, bytes)) (hz : z.cells.size = d.sz) (hb0 : 0 < bytes)
    (m c : Nat) (HO : d.R e w base ok v xs) (HR : d.C w A m ys) (hfresh : ∀ k, w.heap.size ≤ k → ok k) (hbase : base ≤ w.heap.size) (hl : (xs.length + m) * bytes ≤ 140737488355328) :
    ∃ v1 w1, (Builtin.append_ #[t, t] ty #[v, .slice A m c]).run P w = .ok v1 w1 ∧ d.R e w1 base ok v1 (xs ++ ys) ∧ w.grownBy w1 v.ownBlock ∧ (v1.ownBlock = v.ownBlock ∨ ∃ b, v1.ownBlock = some b ∧ w.heap.size ≤ b) := by
  obtain ⟨i0, hi, hz0, hz1, hz2⟩ := info_parts hinfo
  obtain ⟨hm, hm2, hc⟩ := hp.C_cells HR
  have hown := hp.own HO
  have hlen : xs.length + m ≤ 140737488355328 := Nat.le_trans (Nat.le_mul_of_pos_right _ hb0) hl
  rcases A with _ | ad
  · have h0 : m = 0 := by
      rcases Nat.eq_zero_or_pos m with h0 | h0
      · exact h0
      · obtain ⟨ad, h, _⟩ := hc h0
        cases h
    subst h0
    obtain rfl : ys = [] := List.eq_nil_of_length_eq_zero hm
    refine ⟨v, w, ?_, by rw [List.append_nil]; exact HO, World.grownBy.refl w _, .inl rfl⟩
    rcases hown.2 with ⟨rfl, hn⟩ | ⟨g, cap, cur, rfl, _, _, hnc, _⟩
    · simp [Builtin.append_, run_underlying ht, sizeOf, typeInfo, hi, Builtin.lenOf, Builtin.firstCells]
    · simp [Builtin.append_, run_underlying ht, sizeOf, typeInfo, hi, Builtin.lenOf, Builtin.firstCells, hnc, storeCells]
  · have hcells : ∀ j u, (ys.flatMap enc)[j]? = some u → w.cell? (ad.add j) = some u := by
      intro j u hu
      have hj : j < ys.length * d.sz := by rw [← hp.flat_len w ys]; exact (List.getElem?_eq_some_iff.1 hu).1
      have hpos : 0 < m := by
        rcases Nat.eq_zero_or_pos ys.length with h | h
        · rw [h, Nat.zero_mul] at hj
          omega
        · omega
      obtain ⟨ad', h', h2⟩ := hc hpos
      injection h' with h'
      subst h'
      exact h2 j u hu
    obtain ⟨v1, w1, hrun, h2, hg, _, hat⟩ := run_append_own_at (P := P) w base t ty e i0 z d.sz bytes ht hi hz0 hz1 hz2 hz hp.pos v xs.length _ hown ad m c (ys.flatMap enc) (by rw [hp.flat_len w, hm]) hcells
      (by intro u hu; obtain ⟨y, _, hy⟩ := List.mem_flatMap.1 hu; exact hp.one w y u hy) (by simp only [maxLen]; omega) hl hbase
    have hat' : v1.ownBlock = v.ownBlock ∨ ∃ b, v1.ownBlock = some b ∧ w.heap.size ≤ b := by
      rcases hat with hat | hat
      · exact .inl hat
      · exact .inr ⟨_, hat, Nat.le_refl _⟩
    refine ⟨v1, w1, hrun, hp.R_of (fun k hk => ?_) (by rw [List.length_append, hm, List.flatMap_append]; exact h2), hg, hat'⟩
    rcases hat' with hat | ⟨b, hb, hle⟩
    · exact HO.1 k (hat ▸ hk)
    · rw [hb] at hk
      injection hk with hk
      exact hfresh k (by omega)
end

section
variable {P : Program} {ops : Array Oper} {rest : List Oper} {o : Oper} {a : Act} {Q : Exit → Act → World → Prop} {K E : Act → World → Prop} {α : Type} {d : Kd α} {enc : α → List Value} {e base : Nat} {ok : Nat → Prop} {W : World} {v : Value} {A : Option Addr} {xs ys : List α}
theorem Plain.wp_append (hp : Plain d enc) (s x : Operand) (t : TypeId) (z : Value) (bytes : Nat) (ho : o.op = .call { callee := .builtin .append, args := #[s, x], argTypes := #[t, t] })
    (ht : P.underlying t = some (.slice e)) (hinfo : (P.info? e).map (fun i => (i.zero, i.size, i.bytes)) = some (some z, d.sz, bytes)) (hz : z.cells.size = d.sz) (hb0 : 0 < bytes) (m c : Nat)
    (hs : a.eval s = v) (hx : a.eval x = .slice A m c) (HO : d.R e W base ok v xs) (HR : d.C W A m ys) (hfresh : ∀ k, W.heap.size ≤ k → ok k) (hbase : base ≤ W.heap.size) (hl : (xs.length + m) * bytes ≤ 140737488355328)
    (h : ∀ v1 w1, d.R e w1 base ok v1 (xs ++ ys) → W.grownBy w1 v.ownBlock → (v1.ownBlock = v.ownBlock ∨ ∃ b, v1.ownBlock = some b ∧ W.heap.size ≤ b) → K (a.put o.dst v1) w1) : o.wp P a W K Q := by
  obtain ⟨v1, w1, hr1, h1, hg, hat⟩ := hp.run_append (P := P) t o.type z bytes ht hinfo hz hb0 m c HO HR hfresh hbase hl
  unfold Oper.wp execOp
  simp only [ho, resolve, invoke, builtin, Sem.run_bind, Sem.run_pure, Result.andThen_ok, List.map_toArray, List.map_cons, List.map_nil, hs, hx, hr1]
  exact h _ _ h1 hg hat
/-- In a plain region. -/
theorem Plain.list_append (hp : Plain d enc) (hgd : o.guard = none) (s x : Operand) (t : TypeId) (z : Value) (bytes : Nat) (ho : o.op = .call { callee := .builtin .append, args := #[s, x], argTypes := #[t, t] })
    (ht : P.underlying t = some (.slice e)) (hinfo : (P.info? e).map (fun i => (i.zero, i.size, i.bytes)) = some (some z, d.sz, bytes)) (hz : z.cells.size = d.sz) (hb0 : 0 < bytes) (m c : Nat)
    (hs : a.eval s = v) (hx : a.eval x = .slice A m c) (HO : d.R e W base ok v xs) (HR : d.C W A m ys) (hfresh : ∀ k, W.heap.size ≤ k → ok k) (hbase : base ≤ W.heap.size) (hl : (xs.length + m) * bytes ≤ 140737488355328)
    (h : ∀ v1 w1, d.R e w1 base ok v1 (xs ++ ys) → W.grownBy w1 v.ownBlock → (v1.ownBlock = v.ownBlock ∨ ∃ b, v1.ownBlock = some b ∧ W.heap.size ≤ b) → wpList P ops Q rest (a.put o.dst v1) w1) : wpList P ops Q (o :: rest) a W :=
  wpList_plain hgd fun K hK => hp.wp_append s x t z bytes ho ht hinfo hz hb0 m c hs hx HO HR hfresh hbase hl fun v1 w1 h1 hg hat => hK _ _ (h v1 w1 h1 hg hat)
/-- At a step of a region that draws its order. -/
theorem Plain.step_append {E : Prop} (hp : Plain d enc) (hw : Region.wanted o (yielded ops a.tmps) = true) (s x : Operand) (t : TypeId) (z : Value) (bytes : Nat) (ho : o.op = .call { callee := .builtin .append, args := #[s, x], argTypes := #[t, t] })
    (ht : P.underlying t = some (.slice e)) (hinfo : (P.info? e).map (fun i => (i.zero, i.size, i.bytes)) = some (some z, d.sz, bytes)) (hz : z.cells.size = d.sz) (hb0 : 0 < bytes) (m c : Nat)
    (hs : a.eval s = v) (hx : a.eval x = .slice A m c) (HO : d.R e W base ok v xs) (HR : d.C W A m ys) (hfresh : ∀ k, W.heap.size ≤ k → ok k) (hbase : base ≤ W.heap.size) (hl : (xs.length + m) * bytes ≤ 140737488355328)
    (h : ∀ v1 w1, d.R e w1 base ok v1 (xs ++ ys) → W.grownBy w1 v.ownBlock → (v1.ownBlock = v.ownBlock ∨ ∃ b, v1.ownBlock = some b ∧ W.heap.size ≤ b) → K (a.put o.dst v1) w1) :
    if Region.wanted o (yielded ops a.tmps) = true then Oper.wp P o a W K Q else E := by
  rw [if_pos hw]
  exact hp.wp_append s x t z bytes ho ht hinfo hz hb0 m c hs hx HO HR hfresh hbase hl h
end
/-- An empty slice that was just made: '[]T{}'. -/
theorem R_empty {α : Type} (d : Kd α) (e : Nat) (W : World) (base : Nat) (ok : Nat → Prop) (hb : base ≤ W.heap.size) (hok : ok W.heap.size) : d.R e (W.alloc (.cells #[] e)) base ok (.slice (some ⟨W.heap.size, 0, none⟩) 0 0) [] :=
  ⟨fun k hk => by
    have : W.heap.size = k := by simpa [Value.ownBlock] using hk
    subst this
    exact hok, [], ⟨by simp, .inr ⟨W.heap.size, 0, #[], rfl, hb, heap_alloc_new W _, Nat.le_refl _, by simp [maxLen], by simp, by simp⟩⟩, Reps.none _ _⟩
theorem below_row {w W w1 : World} {B g n c : Nat} (h : Below B w W) (hg : W.grownBy w1 (Value.slice (some ⟨g, 0, none⟩) n c).ownBlock) (hr : B ≤ g) (hB : B ≤ W.heap.size) : Below B w w1 :=
  h.grown hg hB (fun k hk => by
    have : g = k := by simpa [Value.ownBlock] using hk
    omega)
theorem below_nil {w W w1 : World} {B : Nat} (h : Below B w W) (hg : W.grownBy w1 (Value.slice none 0 0).ownBlock) (hB : B ≤ W.heap.size) : Below B w w1 :=
  h.grown hg hB (fun k hk => by simp [Value.ownBlock] at hk)
end Go.Proofs.YtdhmabofncbohaaDoor
