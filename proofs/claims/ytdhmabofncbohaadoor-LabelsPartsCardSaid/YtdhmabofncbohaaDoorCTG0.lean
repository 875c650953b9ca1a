import Derived.Test.YtdhmabofncbohaaDoorCTWMore
import Derived.Lib.AppendStr
import Derived.Laws.IdiomCopy
namespace Go.Proofs.YtdhmabofncbohaaDoorW.PrintWords
open Go Go.RowKit
set_option linter.unusedVariables false
namespace Kd
theorem ne_nil_ {α : Type} [BEq α] (l : List α) : (l != []) = !l.isEmpty := by cases l <;> rfl
theorem size_mk_ (a : Array UInt8) : (⟨a⟩ : ByteArray).size = a.size := rfl
theorem eq_nil_ {α : Type} [BEq α] (l : List α) : (l == []) = l.isEmpty := by cases l <;> rfl
section
variable {P : Program} {ops : Array Oper} {rest : List Oper} {o : Oper} {a : Act} {Q : Exit → Act → World → Prop} {Kc : Act → World → Prop} {α : Type} {W : World}
theorem make0_row (d : Kd α) {w0 W : World} (base e : Nat) (t : TypeId) (n : Int) (ht : P.underlying t = some (.slice e)) (z : Value) (bytes : Nat) (hinfo : (P.info? e).map (fun i => (i.zero, i.size, i.bytes)) = some (some z, d.sz, bytes)) (hz : z.cells.size = d.sz) (hb0 : 0 < bytes)
    (z0 : α) {ok : Nat → Prop} (hfresh : ok W.heap.size) (h0 : 0 ≤ n) (hl : n.toNat * bytes ≤ 281474976710656) (HB : Below base w0 W) (hbase : base ≤ W.heap.size) :
    ∃ v1 w1, (Instr.makeSlice t (.int .i64 0) (.int .i64 n)).run P W = .ok v1 w1 ∧ d.R e w1 base ok v1 (List.replicate (0 : Int).toNat z0) ∧ Below base w0 w1 ∧ W.grownBy w1 none ∧ ∃ b, v1.ownBlock = some b ∧ W.heap.size ≤ b := by
  obtain ⟨m, rfl⟩ := Int.eq_ofNat_of_zero_le h0
  simp only [Int.toNat_natCast] at hl
  obtain ⟨i0, hi, hzz⟩ := Option.map_eq_some_iff.1 hinfo
  simp only [Prod.mk.injEq] at hzz
  obtain ⟨hz0, hz1, hz2⟩ := hzz
  have hm : m ≤ 281474976710656 := Nat.le_trans (Nat.le_mul_of_pos_right _ hb0) hl
  have hr := run_make (P := P) W t e i0 z ht hi hz0 .i64 .i64 0 (m : Int) (by omega) (by omega)
    (by
      have h3 : ((i0.bytes * m : Nat) : Int) ≤ 281474976710656 := by rw [hz2, Nat.mul_comm]; omega
      rwa [Int.natCast_mul] at h3) (by omega)
  simp only [Int.toNat_natCast, Int.toNat_zero] at hr
  rw [hz1] at hr
  refine ⟨_, _, hr, ⟨fun k hk => ?_, [], ?_, Reps.none _ _⟩, HB.alloc hbase _, World.grownBy_alloc W _ none, ⟨W.heap.size, by simp [Value.ownBlock], Nat.le_refl _⟩⟩
  · have : W.heap.size = k := by simpa [Value.ownBlock] using hk
    subst this
    exact hfresh
  · exact World.ownsRow_made W _ m hbase (by simp [maxLen]; omega) (size_madeCells _ _)
theorem R_make0 (d : Kd α) {w0 W : World} (base e : Nat) (hgd : o.guard = none) {N : Tmp} (hd : o.dst = some N) (t : TypeId) (x y : Operand) (ho : o.op = .makeSlice t x y) (n : Int) (hx : a.eval x = .int .i64 0) (hy : a.eval y = .int .i64 n)
    (ht : P.underlying t = some (.slice e)) (z : Value) (bytes : Nat) (hinfo : (P.info? e).map (fun i => (i.zero, i.size, i.bytes)) = some (some z, d.sz, bytes)) (hz : z.cells.size = d.sz) (hs0 : 0 < d.sz) (hb0 : 0 < bytes)
    (z0 : α) {ok okp : Nat → Prop} (hzero : d.M W base okp z0 z.cells.toList) (hok : ∀ k, okp k → ok k) (hfresh : ok W.heap.size) (h0 : 0 ≤ n) (hl : n.toNat * bytes ≤ 281474976710656) (HB : Below base w0 W) (hbase : base ≤ W.heap.size)
    (h : ∀ v1 w1, d.R e w1 base ok v1 (List.replicate (0 : Int).toNat z0) → Below base w0 w1 → W.grownBy w1 none → (∃ b, v1.ownBlock = some b ∧ W.heap.size ≤ b) → wpList P ops Q rest (a.put o.dst v1) w1) : wpList P ops Q (o :: rest) a W := by
  obtain ⟨v1, w1, hr, h1, h2, h3, h4⟩ := make0_row d base e t n ht z bytes hinfo hz hb0 z0 (ok := ok) hfresh h0 hl HB hbase
  refine event_run hgd ?_ (h v1 w1 h1 h2 h3 h4)
  simp [execOp, ho, hx, hy, hr]
def shift {α : Type} (xs : List α) (k : Nat) : List α := xs.take (k + 1) ++ (xs.drop k).take (xs.length - (k + 1))
theorem shift_length {α : Type} (xs : List α) (k : Nat) (hk : k < xs.length) : (shift xs k).length = xs.length := by
  unfold shift
  rw [List.length_append, List.length_take, List.length_take, List.length_drop]
  omega
theorem own_cells {β : Type} (enc : β → Value) (base e g cap n : Nat) : ∀ (ys : List β) (o : Nat) (W : World) (xs : List β), W.ownsRow base e 1 (.slice (some ⟨g, 0, none⟩) n cap) n (encs enc xs) → xs.length = n → o + ys.length ≤ n →
    (W.setCells g o (encs enc ys)).ownsRow base e 1 (.slice (some ⟨g, 0, none⟩) n cap) n (encs enc (xs.take o ++ ys ++ xs.drop (o + ys.length))) ∧ W.grownBy (W.setCells g o (encs enc ys)) (some g)
  | [], o, W, xs, h, hl, ho => by
    refine ⟨?_, World.grownBy.refl W _⟩
    have : xs.take o ++ ([] : List β) ++ xs.drop (o + ([] : List β).length) = xs := by simp
    rw [this]
    exact h
  | y :: r, o, W, xs, h, hl, ho => by
    simp only [List.length_cons] at ho
    obtain ⟨h1, h2⟩ := own_store_of h (o : Int) y
    rw [Int.toNat_natCast] at h1 h2
    obtain ⟨h3, h4⟩ := own_cells enc base e g cap n r (o + 1) (W.setCell ⟨g, o, none⟩ (enc y)) (xs.set o y) h1 (by rw [List.length_set]; exact hl) (by omega)
    have e1 : (xs.set o y).take (o + 1) ++ r ++ (xs.set o y).drop (o + 1 + r.length) = xs.take o ++ (y :: r) ++ xs.drop (o + (y :: r).length) := by
      rw [List.take_set, List.drop_set_of_lt (by omega), List.take_add_one, List.getElem?_eq_getElem (by omega), List.length_cons, show o + 1 + r.length = o + (r.length + 1) by omega]
      rw [List.set_append_right _ _ (by rw [List.length_take]; omega), List.length_take, Nat.min_eq_left (by omega), Nat.sub_self]
      simp
    rw [e1] at h3
    refine ⟨h3, ⟨h4.os.trans h2.os, h4.tape.trans h2.tape, h4.output.trans h2.output, Nat.le_trans h2.size h4.size, fun k hk hn => (h4.block k (Nat.lt_of_lt_of_le hk h2.size) hn).trans (h2.block k hk hn)⟩⟩
theorem run_copysh (base t ty e : Nat) (W : World) (ht : P.underlying t = some (.slice e)) (hinfo : (P.info? e).map (·.size) = some 1) {g n c k : Nat} {A1 A2 : Option Addr} {c1 c2 : Nat} {xs : List ByteArray} {ok : Nat → Prop}
    (hA1 : A1 = if c = k + 1 then some ⟨g, 0, none⟩ else (some (⟨g, 0, none⟩ : Addr)).map (·.add ((k + 1) * 1))) (hA2 : A2 = if c = k then some ⟨g, 0, none⟩ else (some (⟨g, 0, none⟩ : Addr)).map (·.add (k * 1)))
    (HO : Kd.string.R e W base ok (.slice (some ⟨g, 0, none⟩) n c) xs) (hk : k < n) :
    ∃ w1, (Builtin.copy_ #[t, t] ty #[.slice A1 (n - (k + 1)) c1, .slice A2 (n - k) c2]).run P W = .ok (goInt ((n - (k + 1) : Nat) : Int)) w1 ∧ Kd.string.R e w1 base ok (.slice (some ⟨g, 0, none⟩) n c) (shift xs k) ∧ W.grownBy w1 (some g) := by
  obtain ⟨hn, hnc, _⟩ := R_reads' HO
  have hown := own_of_R (enc := Value.string) (h1 := fun _ => rfl) HO
  rw [← hn] at hown
  have hcells : ∀ j u, (encs Value.string xs)[j]? = some u → W.cell? ((⟨g, 0, none⟩ : Addr).add j) = some u := hown.cells (g := g) rfl
  obtain ⟨ys, hys⟩ : ∃ ys, ys = (xs.drop k).take (xs.length - (k + 1)) := ⟨_, rfl⟩
  have hyl : ys.length = n - (k + 1) := by rw [hys, List.length_take, List.length_drop]; omega
  have hne : ¬ c = k := by omega
  rw [if_neg hne] at hA2
  subst hA2
  have hadd : ∀ i, (⟨g, 0, none⟩ : Addr).add i = ⟨g, i, none⟩ := fun i => by unfold Addr.add; split <;> simp_all
  have hgrid : ∀ j, j < xs.length → ∃ u, W.cell? ⟨g, j, none⟩ = some u := fun j hj => by
    have := hcells j _ (List.getElem?_eq_getElem (by rw [encs_length]; exact hj))
    rw [hadd] at this
    exact ⟨_, this⟩
  have hfz : ∀ j, W.frozen? ⟨g, j, none⟩ = false := by
    rcases hown.2 with ⟨h, _⟩ | ⟨g', cap', cur, h, _, hh, _⟩
    · cases h
    · injection h with h
      injection h with h
      injection h with h
      subst h
      intro j
      simp [World.frozen?, hh]
  have hsrc : ∀ j v, (encs Value.string ys)[j]? = some v → W.cell? (((⟨g, 0, none⟩ : Addr).add (k * 1)).add j) = some v := by
    intro j v hv
    rw [hadd, show ((⟨g, k * 1, none⟩ : Addr).add j) = ⟨g, k + j, none⟩ by unfold Addr.add; split <;> simp_all]
    have hj : j < ys.length := by have := (List.getElem?_eq_some_iff.1 hv).1; rwa [encs_length] at this
    have h2 : (encs Value.string xs)[k + j]? = some v := by
      simp only [encs, List.getElem?_map, hys, List.getElem?_take, List.getElem?_drop] at hv ⊢
      rwa [if_pos (by omega)] at hv
    have h3 := hcells _ _ h2
    rwa [hadd] at h3
  have hdst : ∃ o, A1 = some ⟨g, o, none⟩ ∧ (0 < ys.length → o = k + 1) := by
    by_cases hc : c = k + 1
    · rw [if_pos hc] at hA1
      exact ⟨0, hA1, fun h => by omega⟩
    · rw [if_neg hc] at hA1
      refine ⟨k + 1, ?_, fun _ => rfl⟩
      rw [hA1]
      show some ((⟨g, 0, none⟩ : Addr).add ((k + 1) * 1)) = _
      rw [hadd, Nat.mul_one]
  obtain ⟨o, rfl, ho⟩ := hdst
  have hrun := run_copy_cells (P := P) W t t ty e g o (n - (k + 1)) c1 ((⟨g, 0, none⟩ : Addr).add (k * 1)) (n - k) c2 (encs Value.string ys) ht hinfo
    (by rw [encs_length, hyl]; show _ = min _ _; omega) hsrc
    (fun j hj => by
      rw [encs_length] at hj
      rw [ho (by omega)]
      obtain ⟨u, hu⟩ := hgrid (k + 1 + j) (by omega)
      rw [hu]; rfl)
    (fun j _ => hfz _) (fun v hv => by
      simp only [encs, List.mem_map] at hv
      obtain ⟨b, _, rfl⟩ := hv
      rfl)
  rw [encs_length, hyl] at hrun
  refine ⟨_, hrun, ?_⟩
  by_cases h0 : ys.length = 0
  · have hy0 : ys = [] := List.eq_nil_of_length_eq_zero h0
    have hsh : shift xs k = xs := by
      unfold shift
      rw [← hys, hy0, List.append_nil, List.take_of_length_le (by omega)]
    rw [hsh, hy0]
    exact ⟨HO, World.grownBy.refl W _⟩
  · rw [ho (by omega)]
    obtain ⟨h1, h2⟩ := own_cells Value.string base e g c n ys (k + 1) W xs hown hn.symm (by omega)
    have hsh : xs.take (k + 1) ++ ys ++ xs.drop (k + 1 + ys.length) = shift xs k := by
      unfold shift
      rw [← hys, List.drop_of_length_le (by omega), List.append_nil]
    rw [hsh] at h1
    have hsl : (shift xs k).length = n := by rw [shift_length xs k (by omega)]; exact hn.symm
    refine ⟨R_of_own (enc := Value.string) (h1 := fun _ => rfl) (by rw [hsl]; exact h1) HO.1, h2⟩
theorem R_copysh_step (d : Kd ByteArray) (hd : d = Kd.string) {w0 W : World} (base : Nat) (hw : Region.wanted o (yielded ops a.tmps) = true) (s x : Operand) (t e : Nat) (ho : o.op = .call { callee := .builtin .copy, args := #[s, x], argTypes := #[t, t] })
    (ht : P.underlying t = some (.slice e)) (hinfo : (P.info? e).map (·.size) = some 1) {g n c k m1 m2 c1 c2 : Nat} {A1 A2 : Option Addr} {xs : List ByteArray} {ok : Nat → Prop}
    (hs : a.eval s = .slice A1 m1 c1) (hx : a.eval x = .slice A2 m2 c2) (hA1 : A1 = if c = k + 1 then some ⟨g, 0, none⟩ else (some (⟨g, 0, none⟩ : Addr)).map (·.add ((k + 1) * 1))) (hA2 : A2 = if c = k then some ⟨g, 0, none⟩ else (some (⟨g, 0, none⟩ : Addr)).map (·.add (k * 1))) (hm1 : m1 = n - (k + 1)) (hm2 : m2 = n - k)
    (HO : d.R e W base ok (.slice (some ⟨g, 0, none⟩) n c) xs) (hk : k < n) (HB : Below base w0 W) (hbase : base ≤ W.heap.size)
    (h : ∀ w1, d.R e w1 base ok (.slice (some ⟨g, 0, none⟩) n c) (shift xs k) → Below base w0 w1 → W.grownBy w1 (some g) → Kc (a.put o.dst (goInt ((n - (k + 1) : Nat) : Int))) w1) :
    if Region.wanted o (yielded ops a.tmps) = true then Oper.wp P o a W Kc Q else Kc (a.put o.dst undef) W := by
  subst hd
  subst hm1
  subst hm2
  obtain ⟨w1, hr, h1, h2⟩ := run_copysh (P := P) base t o.type e W ht hinfo hA1 hA2 HO hk (c1 := c1) (c2 := c2)
  rw [if_pos hw]
  unfold Oper.wp execOp
  simp only [ho, resolve, invoke, builtin, Sem.run_bind, Sem.run_pure, Result.andThen_ok, List.map_toArray, List.map_cons, List.map_nil, hs, hx, hr]
  exact h w1 h1 (HB.grown h2 hbase (fun k hk => by injection hk with hk; subst hk; exact R_base HO _ (by simp [Value.ownBlock]))) h2
end
end Kd
end Go.Proofs.YtdhmabofncbohaaDoorW.PrintWords
