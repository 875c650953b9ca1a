import Derived.Test.YtkkomfomjpcbfaaDoorCTokenOneQ2
import Derived.Test.YtkkomfomjpcbfaaDoorCTokenOneWWords
import Derived.Laws.StructEq
import Derived.Test.YtkkomfomjpcbfaaDoorProg
import Derived.Below
import Derived.Deep.Draws
import Derived.Deep.AppendLies
import Derived.Maps.AppendAt
import Derived.OwnWalk
import Derived.Laws.BytesArg
import Derived.Laws.MakeOwn
import Derived.Laws.OwnMore
import Derived.Deep.OwnRows
import Derived.Tactics
import Derived.Lib.ConvBytes
import Derived.Laws.Slices
import Derived.WalkKit
import Derived.KernelRfl
import Derived.RowKit3
import Derived.Deep.LoopGhost
import Derived.Deep.QuietTactic
import Derived.BigQuiet
import Derived.WideLaws
import Derived.Deep.DeepCutAuto
import Derived.Deep.CutBlock
import Derived.Deep.RegionHeld3
import Derived.Laws.Rows
import Derived.Lib.AppendStr
import Derived.ArgAppend
import Derived.Laws.IdiomCopy
import Derived.OrdersHeld
import Derived.Laws.BitsLemmas
import Derived.RowKit
import Derived.Test.YtkkomfomjpcbfaaDoorCTokenOneG1
import Derived.Lib.OthersKept
import Derived.Laws.RangeAny
namespace Go.Proofs.YtkkomfomjpcbfaaDoor.Bq
end Go.Proofs.YtkkomfomjpcbfaaDoor.Bq
section
namespace Go.Proofs.YtkkomfomjpcbfaaDoorW.PrintLast
open Go.Proofs.YtkkomfomjpcbfaaDoorW.PrintWords (Aside0)
def needsOf (md : Region.Mode) (o : Oper) : List Nat := (o.after.toList.filter (fun e => Region.binds md e)).map (fun e => e.on)
def clashOf (md : Region.Mode) (ops : Array Oper) (i : Nat) (oi : Oper) : List Nat := (List.range ops.size).filter fun j => !(j == i) && match ops[j]? with
  | some oj => !(oj.after.any (fun e => Region.binds md e && e.on == i) || oi.apart ops oj)
  | none => false
def rtab (md : Region.Mode) (ops : Array Oper) : Bool × List (List Nat × List Nat) := (Region.noSelect ops, (List.range ops.size).map fun i => match ops[i]? with
  | some o => (needsOf md o, clashOf md ops i o)
  | none => ([], []))
def readyAt (T : List (List Nat × List Nat)) (l : List Bool) (i : Nat) : Bool := !l.getD i true && match T[i]? with
  | some r => r.1.all (fun j => l.getD j false)
  | none => false
def readyT (T : List (List Nat × List Nat)) (l : List Bool) : List Nat := (List.range T.length).filter (readyAt T l)
def freeT (T : List (List Nat × List Nat)) (l : List Bool) (i : Nat) : Bool := match T[i]? with
  | some r => r.2.all (fun j => l.getD j true)
  | none => false
def closedT (T : List (List Nat × List Nat)) (l : List Bool) : Bool := (List.range T.length).all fun j => !l.getD j false || match T[j]? with
  | some r => r.1.all (fun k => l.getD k false)
  | none => true
def reachT (T : List (List Nat × List Nat)) (i : Nat) : Nat → Nat → Bool
  | 0, _ => false
  | fuel + 1, d => match T[d]? with
    | some r => r.1.any fun j => j == i || reachT T i fuel j
    | none => false
def lastT (T : List (List Nat × List Nat)) (l : List Bool) (ds : List Nat) (i : Nat) : Bool := ds.all fun d => l.getD d true || reachT T i T.length d
section
variable {md : Region.Mode} {ops : Array Oper} {T : Bool × List (List Nat × List Nat)} {l l' li lj lk : Array Bool} {ds : List Nat} {i j k : Nat}
theorem gd (l : Array Bool) (j : Nat) (b : Bool) : l.getD j b = l.toList.getD j b := by simp [Array.getD_eq_getD_getElem?, List.getD_eq_getElem?_getD]
theorem needs_all (o : Oper) (p : Nat → Bool) : o.after.all (fun e => !Region.binds md e || p e.on) = (needsOf md o).all p := by
  unfold needsOf
  rw [← Array.all_toList]
  induction o.after.toList with
  | nil => rfl
  | cons e r ih =>
    rw [List.all_cons, ih, List.filter_cons]
    cases h : Region.binds md e <;> simp
theorem needs_any (o : Oper) (p : Nat → Bool) : o.after.any (fun e => Region.binds md e && p e.on) = (needsOf md o).any p := by
  unfold needsOf
  rw [← Array.any_toList]
  induction o.after.toList with
  | nil => rfl
  | cons e r ih =>
    rw [List.any_cons, ih, List.filter_cons]
    cases h : Region.binds md e <;> simp
theorem rtab_length : (rtab md ops).2.length = ops.size := by simp [rtab]
theorem rtab_some {o : Oper} (h : ops[i]? = some o) : (rtab md ops).2[i]? = some (needsOf md o, clashOf md ops i o) := by
  have hi := (Array.getElem?_eq_some_iff.1 h).1
  unfold rtab
  rw [List.getElem?_map, List.getElem?_range hi, Option.map_some, h]
theorem rtab_none (h : ops[i]? = none) : (rtab md ops).2[i]? = none := by
  have hi : ops.size ≤ i := Array.getElem?_eq_none_iff.1 h
  exact List.getElem?_eq_none (by rw [rtab_length]; exact hi)
theorem readyAt_eq : readyAt (rtab md ops).2 l.toList i = (!l.getD i true && ((ops[i]?).map (·.after.all fun e => !Region.binds md e || l.getD e.on false)).getD false) := by
  unfold readyAt
  rw [gd]
  cases h : ops[i]? with
  | none => rw [rtab_none h]; rfl
  | some o =>
    rw [rtab_some h]
    simp only [Option.map_some, Option.getD_some]
    rw [← needs_all]
    simp only [gd]
theorem ready_eq : Region.ready md ops l = readyT (rtab md ops).2 l.toList := by
  unfold Region.ready readyT
  rw [rtab_length]
  refine List.filter_congr (fun i _ => ?_)
  rw [readyAt_eq]
theorem free_eq : Region.free md ops l i = freeT (rtab md ops).2 l.toList i := by
  unfold Region.free freeT
  cases h : ops[i]? with
  | none => rw [rtab_none h]
  | some oi =>
    rw [rtab_some h]
    simp only [clashOf]
    rw [List.all_filter]
    congr 1
    funext j
    rw [gd]
    cases hj : ops[j]? with
    | none => cases (j == i) <;> cases (l.toList.getD j true) <;> simp
    | some oj =>
      cases (j == i) <;> cases (l.toList.getD j true) <;> cases (oj.after.any (fun e => Region.binds md e && e.on == i) || oi.apart ops oj) <;> simp_all
theorem closed_eq : Region.closedB md ops l = closedT (rtab md ops).2 l.toList := by
  unfold Region.closedB closedT
  rw [rtab_length]
  congr 1
  funext j
  rw [gd]
  cases h : ops[j]? with
  | none => rw [rtab_none h]
  | some o =>
    rw [rtab_some h]
    simp only
    rw [← needs_all]
    simp only [gd]
theorem reach_eq : ∀ (fuel d : Nat), Region.reachB md ops i fuel d = reachT (rtab md ops).2 i fuel d
  | 0, _ => rfl
  | fuel + 1, d => by
    unfold Region.reachB reachT
    cases h : ops[d]? with
    | none => rw [rtab_none h]
    | some o =>
      rw [rtab_some h]
      simp only
      rw [← needs_any]
      congr 1
      funext e
      rw [reach_eq fuel]
theorem last_eq : Region.lastB md ops l ds i = lastT (rtab md ops).2 l.toList ds i := by
  unfold Region.lastB lastT
  rw [rtab_length]
  congr 1
  funext d
  rw [gd, reach_eq]
theorem readyAt_mem (h : readyAt T.2 l.toList i = true) (hT : rtab md ops = T) : (Region.ready md ops l).contains i = true := by
  subst hT
  rw [ready_eq]
  unfold readyT
  rw [List.contains_iff_mem, List.mem_filter, List.mem_range]
  refine ⟨?_, h⟩
  unfold readyAt at h
  rw [Bool.and_eq_true] at h
  cases hq : (rtab md ops).2[i]? with
  | none => rw [hq] at h; simp at h
  | some r => exact (List.getElem?_eq_some_iff.1 hq).1
theorem set_of (h : (l.toList.set i true == l'.toList) = true) : (l.setIfInBounds i true == l') = true := by
  rw [beq_iff_eq] at h ⊢
  apply Array.ext'
  rw [Array.toList_setIfInBounds]
  exact h
def anyT (T : Bool × List (List Nat × List Nat)) (l l' : List Bool) (i : Nat) : Bool := T.1 && freeT T.2 l i && readyAt T.2 l i && (l.set i true == l')
theorem any_of (hT : rtab md ops = T) (h : anyT T l.toList l'.toList i = true) : anyB md ops l l' i = true := by
  simp only [anyT, Bool.and_eq_true] at h
  obtain ⟨⟨⟨h1, h2⟩, h3⟩, h4⟩ := h
  have h5 := readyAt_mem h3 hT
  have h6 := set_of h4
  subst hT
  simp only [anyB, Bool.and_eq_true]
  exact ⟨⟨⟨h1, by rw [free_eq]; exact h2⟩, h5⟩, h6⟩
def takeT (T : Bool × List (List Nat × List Nat)) (ds : List Nat) (l l' : List Bool) (i : Nat) : Bool := T.1 && freeT T.2 l i && readyAt T.2 l i && closedT T.2 l && lastT T.2 l ds i && (l.set i true == l')
theorem take_of (hT : rtab md ops = T) (h : takeT T ds l.toList l'.toList i = true) : takeB md ops ds l l' i = true := by
  simp only [takeT, Bool.and_eq_true] at h
  obtain ⟨⟨⟨⟨⟨h1, h2⟩, h3⟩, h4⟩, h5⟩, h6⟩ := h
  have h7 := readyAt_mem h3 hT
  have h8 := set_of h6
  subst hT
  simp only [takeB, Bool.and_eq_true]
  exact ⟨⟨⟨⟨⟨h1, by rw [free_eq]; exact h2⟩, h7⟩, by rw [closed_eq]; exact h4⟩, by rw [last_eq]; exact h5⟩, h8⟩
theorem one_of (hT : rtab md ops = T) (h : (readyT T.2 l.toList == [i] && l.toList.set i true == l'.toList) = true) : readyB md ops l l' i = true := by
  simp only [Bool.and_eq_true] at h
  obtain ⟨h1, h2⟩ := h
  subst hT
  simp only [readyB, Bool.and_eq_true]
  exact ⟨by rw [ready_eq]; exact h1, set_of h2⟩
theorem done_of (hT : rtab md ops = T) (h : (readyT T.2 l.toList == []) = true) : (Region.ready md ops l == []) = true := by
  subst hT
  rw [ready_eq]
  exact h
def upM (B : List Nat) (d : Nat) : List Nat → Nat
  | [] => 0
  | n :: r => (2 ^ n ||| (if n < d then B.getD n 0 else 0)) ||| upM B d r
def waitsOk (T : List (List Nat × List Nat)) (B : List Nat) : Bool := (List.range T.length).all fun d => match T[d]? with
  | some r => (B.getD d 0 ||| upM B d r.1) == upM B d r.1
  | none => false
theorem upM_bit {B : List Nat} {d i : Nat} : ∀ {ns : List Nat}, (upM B d ns).testBit i = true → ∃ n ∈ ns, n = i ∨ (n < d ∧ (B.getD n 0).testBit i = true)
  | [], h => by simp [upM] at h
  | n :: r, h => by
    unfold upM at h
    rw [Nat.testBit_or, Nat.testBit_or, Bool.or_eq_true, Bool.or_eq_true] at h
    rcases h with (h | h) | h
    · rw [Nat.testBit_two_pow] at h
      exact ⟨n, List.mem_cons_self, .inl (by simpa using h)⟩
    · by_cases hn : n < d
      · rw [if_pos hn] at h
        exact ⟨n, List.mem_cons_self, .inr ⟨hn, h⟩⟩
      · rw [if_neg hn] at h
        simp at h
    · obtain ⟨m, hm, h2⟩ := upM_bit h
      exact ⟨m, List.mem_cons_of_mem _ hm, h2⟩
theorem reach_bit {T : List (List Nat × List Nat)} {B : List Nat} (hB : waitsOk T B = true) : ∀ (fuel d : Nat), d < fuel → d < T.length → (B.getD d 0).testBit i = true → reachT T i fuel d = true
  | 0, d, h, _, _ => by omega
  | fuel + 1, d, h, hd, hb => by
    have h1 := List.all_eq_true.1 hB d (List.mem_range.2 hd)
    cases hr : T[d]? with
    | none => rw [hr] at h1; simp at h1
    | some r =>
      rw [hr] at h1
      simp only [beq_iff_eq] at h1
      have h2 : (upM B d r.1).testBit i = true := by rw [← h1, Nat.testBit_or, hb, Bool.true_or]
      obtain ⟨n, hn, h3⟩ := upM_bit h2
      unfold reachT
      rw [hr]
      simp only
      rw [List.any_eq_true]
      refine ⟨n, hn, ?_⟩
      rcases h3 with rfl | ⟨h4, h5⟩
      · simp
      · rw [reach_bit hB fuel n (by omega) (by omega) h5, Bool.or_true]
def lastW (T : List (List Nat × List Nat)) (B : List Nat) (l : List Bool) (ds : List Nat) (i : Nat) : Bool := ds.all fun d => l.getD d true || (decide (d < T.length) && (B.getD d 0).testBit i)
def takeW (T : Bool × List (List Nat × List Nat)) (B : List Nat) (ds : List Nat) (l l' : List Bool) (i : Nat) : Bool := T.1 && freeT T.2 l i && readyAt T.2 l i && closedT T.2 l && lastW T.2 B l ds i && (l.set i true == l')
theorem take_ofW {B : List Nat} (hT : rtab md ops = T) (hB : waitsOk T.2 B = true) (h : takeW T B ds l.toList l'.toList i = true) : takeB md ops ds l l' i = true := by
  refine take_of hT ?_
  simp only [takeW, takeT, Bool.and_eq_true] at h ⊢
  obtain ⟨⟨⟨⟨⟨h1, h2⟩, h3⟩, h4⟩, h5⟩, h6⟩ := h
  refine ⟨⟨⟨⟨⟨h1, h2⟩, h3⟩, h4⟩, ?_⟩, h6⟩
  unfold lastW at h5
  unfold lastT
  rw [List.all_eq_true] at h5 ⊢
  intro d hd
  have h7 := h5 d hd
  rw [Bool.or_eq_true, Bool.and_eq_true, decide_eq_true_eq] at h7
  rcases h7 with h7 | ⟨h8, h9⟩
  · rw [h7, Bool.true_or]
  · rw [reach_bit hB _ d h8 h8 h9, Bool.or_true]
theorem with_tabW {P : Program} {Q : Exit → Act → World → Prop} {S : World → Prop} {n : Nat} {a : Act} {w : World} {B : List Nat} (hT : rtab md ops = T) (hB : waitsOk T.2 B = true) (h : Aside0 (rtab md ops = T) → Aside0 (waitsOk T.2 B = true) → wpAnyLast P md ops Q S ds n l a w) : wpAnyLast P md ops Q S ds n l a w := h ⟨hT⟩ ⟨hB⟩
end
def opsIn : Code → Nat → Option (Array Oper)
  | .region id ops _, k => if id == k then some ops else none
  | .seq a b, k => match opsIn a k with
    | some o => some o
    | none => opsIn b k
  | .cond _ a b, k => match opsIn a k with
    | some o => some o
    | none => opsIn b k
  | .block _ c, k => opsIn c k
  | .loop c, k => opsIn c k
  | .scope c, k => opsIn c k
  | .rangeFunc _ _ a b, k => match opsIn a k with
    | some o => some o
    | none => opsIn b k
  | _, _ => none
def opsOf (f : Func) (k : Nat) : Array Oper := ((f.body.bind fun c => opsIn c k)).getD #[]
end Go.Proofs.YtkkomfomjpcbfaaDoorW.PrintLast
end
section
namespace Go.Proofs.YtkkomfomjpcbfaaDoorW.PrintWords
open Go.RowKit
section
variable {P : Program} {d : Nat} {xs ys : Array Value} {f : Field} {fs : List Field} {a b : Value} {r s : Bool} {w : World}
theorem eqf_last (hn : (f.name == "_") = false) (ha : (part f.type xs f.offset).run P w = .ok a w) (hb : (part f.type ys f.offset).run P w = .ok b w) (he : (Op.equalIn d f.type a b).run P w = .ok r w) : (Op.eqFields d xs ys [f]).run P w = .ok r w := by
  have hn' : f.name ≠ "_" := by simpa using hn
  simp only [Op.eqFields, if_pos hn', Sem.run_bind, ha, hb, he, Result.andThen_ok]
  cases r <;> simp
theorem eqf_cons (hn : (f.name == "_") = false) (ha : (part f.type xs f.offset).run P w = .ok a w) (hb : (part f.type ys f.offset).run P w = .ok b w) (he : (Op.equalIn d f.type a b).run P w = .ok r w) (hr : (Op.eqFields d xs ys fs).run P w = .ok s w) : (Op.eqFields d xs ys (f :: fs)).run P w = .ok (r && s) w := by
  have hn' : f.name ≠ "_" := by simpa using hn
  rw [Op.eqFields]
  simp only [if_pos hn', Sem.run_bind, ha, hb, he, Result.andThen_ok]
  cases r
  · simp
  · simpa using hr
theorem eqA_of {t : TypeId} {fs : Array Field} (hu : P.underlying t = some (.struct fs)) (hp : P.stoodInHeld t = false) (h : (Op.eqFields d xs ys fs.toList).run P w = .ok r w) : (Op.equalIn (d + 1) t (.agg xs) (.agg ys)).run P w = .ok r w := by
  have hf : P.fieldsOf t = fs := by simp [Program.fieldsOf, hu]
  rw [run_equalIn_struct (P := P) w d t xs ys (by rw [hf]; exact hu) hp, hf]
  exact h
end
end Go.Proofs.YtkkomfomjpcbfaaDoorW.PrintWords
end
section
namespace Go.Proofs.YtkkomfomjpcbfaaDoorW.PrintWords
theorem Reps.one {α : Type} {R : α → List Value → Prop} {ps : List α} {cs : List Value} {p : α} {v : Value} (hp : R p [v]) (h : Reps R 1 ps cs) : Reps R 1 (p :: ps) (v :: cs) := by
  refine ⟨by simp [h.1], fun j q hq => ?_⟩
  cases j with
  | zero =>
    simp only [List.getElem?_cons_zero, Option.some.injEq] at hq
    subst hq
    simpa using hp
  | succ j =>
    simp only [List.getElem?_cons_succ] at hq
    have h1 := h.2 j q hq
    simpa [Nat.mul_one] using h1
theorem Reps.front {α : Type} {R : α → List Value → Prop} {size : Nat} {ps : List α} {cs c all : List Value} {p : α} (hp : R p c) (hc : c.length = size) (h : Reps R size ps cs) (ha : c ++ cs = all) : Reps R size (p :: ps) all := by
  subst ha
  refine ⟨by rw [List.length_append, hc, h.1, List.length_cons, Nat.succ_mul, Nat.add_comm], fun j q hq => ?_⟩
  cases j with
  | zero =>
    simp only [List.getElem?_cons_zero, Option.some.injEq] at hq
    subst hq
    rw [Nat.zero_mul, List.drop_zero, List.take_append_of_le_length (by omega), List.take_of_length_le (by omega)]
    exact hp
  | succ j =>
    simp only [List.getElem?_cons_succ] at hq
    have h1 := h.2 j q hq
    rw [Nat.succ_mul, List.drop_append, List.drop_of_length_le (by rw [hc]; exact Nat.le_add_left _ _), List.nil_append, hc, Nat.add_sub_cancel]
    exact h1
theorem Reps.c2 {α : Type} {R : α → List Value → Prop} {ps : List α} {cs : List Value} {p : α} {va vb : Value} (hp : R p [va, vb]) (h : Reps R 2 ps cs) : Reps R 2 (p :: ps) (va :: vb :: cs) := Reps.front hp rfl h rfl
theorem Reps.c3 {α : Type} {R : α → List Value → Prop} {ps : List α} {cs : List Value} {p : α} {va vb vc : Value} (hp : R p [va, vb, vc]) (h : Reps R 3 ps cs) : Reps R 3 (p :: ps) (va :: vb :: vc :: cs) := Reps.front hp rfl h rfl
theorem Reps.c4 {α : Type} {R : α → List Value → Prop} {ps : List α} {cs : List Value} {p : α} {va vb vc vd : Value} (hp : R p [va, vb, vc, vd]) (h : Reps R 4 ps cs) : Reps R 4 (p :: ps) (va :: vb :: vc :: vd :: cs) := Reps.front hp rfl h rfl
theorem Reps.c5 {α : Type} {R : α → List Value → Prop} {ps : List α} {cs : List Value} {p : α} {va vb vc vd ve : Value} (hp : R p [va, vb, vc, vd, ve]) (h : Reps R 5 ps cs) : Reps R 5 (p :: ps) (va :: vb :: vc :: vd :: ve :: cs) := Reps.front hp rfl h rfl
theorem Reps.c6 {α : Type} {R : α → List Value → Prop} {ps : List α} {cs : List Value} {p : α} {va vb vc vd ve vf : Value} (hp : R p [va, vb, vc, vd, ve, vf]) (h : Reps R 6 ps cs) : Reps R 6 (p :: ps) (va :: vb :: vc :: vd :: ve :: vf :: cs) := Reps.front hp rfl h rfl
theorem Reps.c7 {α : Type} {R : α → List Value → Prop} {ps : List α} {cs : List Value} {p : α} {va vb vc vd ve vf vg : Value} (hp : R p [va, vb, vc, vd, ve, vf, vg]) (h : Reps R 7 ps cs) : Reps R 7 (p :: ps) (va :: vb :: vc :: vd :: ve :: vf :: vg :: cs) := Reps.front hp rfl h rfl
theorem Reps.c8 {α : Type} {R : α → List Value → Prop} {ps : List α} {cs : List Value} {p : α} {va vb vc vd ve vf vg vh : Value} (hp : R p [va, vb, vc, vd, ve, vf, vg, vh]) (h : Reps R 8 ps cs) : Reps R 8 (p :: ps) (va :: vb :: vc :: vd :: ve :: vf :: vg :: vh :: cs) := Reps.front hp rfl h rfl
theorem Reps.c9 {α : Type} {R : α → List Value → Prop} {ps : List α} {cs : List Value} {p : α} {va vb vc vd ve vf vg vh vi : Value} (hp : R p [va, vb, vc, vd, ve, vf, vg, vh, vi]) (h : Reps R 9 ps cs) : Reps R 9 (p :: ps) (va :: vb :: vc :: vd :: ve :: vf :: vg :: vh :: vi :: cs) := Reps.front hp rfl h rfl
theorem Reps.c10 {α : Type} {R : α → List Value → Prop} {ps : List α} {cs : List Value} {p : α} {va vb vc vd ve vf vg vh vi vj : Value} (hp : R p [va, vb, vc, vd, ve, vf, vg, vh, vi, vj]) (h : Reps R 10 ps cs) : Reps R 10 (p :: ps) (va :: vb :: vc :: vd :: ve :: vf :: vg :: vh :: vi :: vj :: cs) := Reps.front hp rfl h rfl
end Go.Proofs.YtkkomfomjpcbfaaDoorW.PrintWords
end
section
namespace Go.Proofs.YtkkomfomjpcbfaaDoorW.PrintWords
open Go.RowKit
section
variable {P : Program} {ops : Array Oper} {rest : List Oper} {o : Oper} {a : Act} {Q : Exit → Act → World → Prop} {W : World}
theorem gate_guard (hw : Region.wanted o (yielded ops a.tmps) = true) (h : wpList P ops Q ({ o with guard := none } :: rest) a W) : wpList P ops Q (o :: rest) a W := by
  have h1 : Region.wanted { o with guard := none } (yielded ops a.tmps) = true := rfl
  unfold wpList at h ⊢
  rw [if_pos h1] at h
  rw [if_pos hw]
  exact h
end
end Go.Proofs.YtkkomfomjpcbfaaDoorW.PrintWords
end
section
namespace Go.Proofs.YtkkomfomjpcbfaaDoor
theorem y1_ {p : Prop} (h : p := by repeat (first | (with_reducible first | exact HB.out | apply below_alloc | apply pw_below_drewN | apply below_drew1) | exact HB.out)) : p := h
theorem y2_ {p : Prop} (h : p := by repeat (first | (with_reducible first | exact HB.out | apply below_alloc | apply pw_below_drewN | apply below_drew1 | refine below_set ?_ GE154.out | refine below_set ?_ GE155.out) | exact HB.out)) : p := h
theorem y3_ {p : Prop} (h : p := by (with_reducible repeat (first | refine blk_drewN ?_ _ | refine blk_drew ?_ | refine blk_alloc ?_ _)); refine blk_put (cs := #[.string (⟨#[]⟩ : ByteArray), .int .i64 0, .int .i64 0, .int .u8 0, .int .u64 0]) ?_ 4 _ rfl; (with_reducible repeat (first | refine blk_drewN ?_ _ | refine blk_drew ?_ | refine blk_alloc ?_ _)); refine blk_put (cs := #[.string (⟨#[]⟩ : ByteArray), .int .i64 0, .int .i64 0, .int .u8 0, .int .u64 0]) ?_ 3 _ rfl; (with_reducible repeat (first | refine blk_drewN ?_ _ | refine blk_drew ?_ | refine blk_alloc ?_ _)); refine blk_put (cs := #[.string (⟨#[]⟩ : ByteArray), .int .i64 0, .int .i64 0, .int .u8 0, .int .u64 0]) ?_ 2 _ rfl; (with_reducible repeat (first | refine blk_drewN ?_ _ | refine blk_drew ?_ | refine blk_alloc ?_ _)); refine blk_put (cs := #[.string (⟨#[]⟩ : ByteArray), .int .i64 0, .int .i64 0, .int .u8 0, .int .u64 0]) ?_ 1 _ rfl; (with_reducible repeat (first | refine blk_drewN ?_ _ | refine blk_drew ?_ | refine blk_alloc ?_ _)); refine blk_put (cs := #[.string (⟨#[]⟩ : ByteArray), .int .i64 0, .int .i64 0, .int .u8 0, .int .u64 0]) ?_ 0 _ rfl; (with_reducible repeat (first | refine blk_drewN ?_ _ | refine blk_drew ?_ | refine blk_alloc ?_ _)); exact BK176.out) : p := h
theorem y4_ {p : Prop} (h : p := by repeat (first | (with_reducible first | exact HB.out | apply below_alloc | apply pw_below_drewN | apply below_drew1 | refine below_set ?_ GE176.out | refine below_set ?_ GE183.out | refine below_set ?_ GE184.out) | exact HB.out)) : p := h
theorem y5_ {p : Prop} (h : p := by (with_reducible repeat (first | refine blk_drewN ?_ _ | refine blk_drew ?_ | refine blk_alloc ?_ _)); refine blk_put (cs := #[.string (strOfNums ((l0.take ((ji16) : Int).toNat).drop (t157 : Int).toNat)), .int .i64 (wrap64 (t161)), .int .i64 t165, .int .u8 (rd L37_ t166), .int .u64 0]) ?_ 4 _ rfl; (with_reducible repeat (first | refine blk_drewN ?_ _ | refine blk_drew ?_ | refine blk_alloc ?_ _)); refine blk_put (cs := #[.string (strOfNums ((l0.take ((ji16) : Int).toNat).drop (t157 : Int).toNat)), .int .i64 (wrap64 (t161)), .int .i64 t165, .int .u8 0, .int .u64 0]) ?_ 3 _ rfl; (with_reducible repeat (first | refine blk_drewN ?_ _ | refine blk_drew ?_ | refine blk_alloc ?_ _)); refine blk_put (cs := #[.string (strOfNums ((l0.take ((ji16) : Int).toNat).drop (t157 : Int).toNat)), .int .i64 (wrap64 (t161)), .int .i64 0, .int .u8 0, .int .u64 0]) ?_ 2 _ rfl; (with_reducible repeat (first | refine blk_drewN ?_ _ | refine blk_drew ?_ | refine blk_alloc ?_ _)); refine blk_put (cs := #[.string (strOfNums ((l0.take ((ji16) : Int).toNat).drop (t157 : Int).toNat)), .int .i64 0, .int .i64 0, .int .u8 0, .int .u64 0]) ?_ 1 _ rfl; (with_reducible repeat (first | refine blk_drewN ?_ _ | refine blk_drew ?_ | refine blk_alloc ?_ _)); refine blk_put (cs := #[.string (⟨#[]⟩ : ByteArray), .int .i64 0, .int .i64 0, .int .u8 0, .int .u64 0]) ?_ 0 _ rfl; (with_reducible repeat (first | refine blk_drewN ?_ _ | refine blk_drew ?_ | refine blk_alloc ?_ _)); exact BK154.out) : p := h
theorem y6_ {p : Prop} (h : p := by first | rfl | (simp only [List.length_drop, List.length_take]; done) | (simp; done) | (simp [*]; done) | (simp [Kd.ne_nil_, Kd.eq_nil_]; done)) : p := h
theorem y7_ {p : Prop} (h : p := by repeat (first | (with_reducible first | exact HB.out | apply below_alloc | apply pw_below_drewN | apply below_drew1 | refine below_set ?_ GE118.out) | exact HB.out)) : p := h
theorem y8_ {p : Prop} (h : p := by (try simp only [List.map_toArray, List.map_cons, List.map_nil]); first | done | rfl | (simp only [List.length_drop, List.length_take]; rfl)) : p := h
theorem y9_ {p : Prop} (h : p := by first | rfl | (simp [errW_none, errW_some] <;> rfl) | (simp [*, errW_none, errW_some] <;> rfl)) : p := h
theorem y10_ {p : Prop} (h : p := by (with_reducible repeat (first | refine blk_drewN ?_ _ | refine blk_drew ?_ | refine blk_alloc ?_ _)); refine blk_put (cs := #[.string t177, .int .i64 t178, .int .i64 t179, .int .u8 t180, .int .u64 0]) ?_ 4 _ rfl; (with_reducible repeat (first | refine blk_drewN ?_ _ | refine blk_drew ?_ | refine blk_alloc ?_ _)); refine blk_put (cs := #[.string t177, .int .i64 t178, .int .i64 t179, .int .u8 0, .int .u64 0]) ?_ 3 _ rfl; (with_reducible repeat (first | refine blk_drewN ?_ _ | refine blk_drew ?_ | refine blk_alloc ?_ _)); refine blk_put (cs := #[.string t177, .int .i64 t178, .int .i64 0, .int .u8 0, .int .u64 0]) ?_ 2 _ rfl; (with_reducible repeat (first | refine blk_drewN ?_ _ | refine blk_drew ?_ | refine blk_alloc ?_ _)); refine blk_put (cs := #[.string t177, .int .i64 0, .int .i64 0, .int .u8 0, .int .u64 0]) ?_ 1 _ rfl; (with_reducible repeat (first | refine blk_drewN ?_ _ | refine blk_drew ?_ | refine blk_alloc ?_ _)); refine blk_put (cs := #[.string (⟨#[]⟩ : ByteArray), .int .i64 0, .int .i64 0, .int .u8 0, .int .u64 0]) ?_ 0 _ rfl; (with_reducible repeat (first | refine blk_drewN ?_ _ | refine blk_drew ?_ | refine blk_alloc ?_ _)); exact BK183.out) : p := h
theorem y11_ {p : Prop} (h : p := by repeat (first | exact Drawn0.refl _ | apply Drawn0.step)) : p := h
theorem y12_ {p : Prop} (h : p := by first | (with_reducible assumption) | assumption) : p := h
theorem y13_ {p : Prop} (h : p := by (with_reducible repeat (first | refine blk_drewN ?_ _ | refine blk_drew ?_ | refine blk_alloc ?_ _)); exact BK176.out) : p := h
theorem y14_ {p : Prop} (h : p := by (with_reducible repeat (first | refine blk_drewN ?_ _ | refine blk_drew ?_ | refine blk_alloc ?_ _)); refine blk_far ?_ NB176_183.out _; (with_reducible repeat (first | refine blk_drewN ?_ _ | refine blk_drew ?_ | refine blk_alloc ?_ _)); refine blk_far ?_ NB176_183.out _; (with_reducible repeat (first | refine blk_drewN ?_ _ | refine blk_drew ?_ | refine blk_alloc ?_ _)); refine blk_far ?_ NB176_183.out _; (with_reducible repeat (first | refine blk_drewN ?_ _ | refine blk_drew ?_ | refine blk_alloc ?_ _)); refine blk_far ?_ NB176_183.out _; (with_reducible repeat (first | refine blk_drewN ?_ _ | refine blk_drew ?_ | refine blk_alloc ?_ _)); refine blk_far ?_ NB176_183.out _; (with_reducible repeat (first | refine blk_drewN ?_ _ | refine blk_drew ?_ | refine blk_alloc ?_ _)); exact BK176.out) : p := h
theorem y15_ {p : Prop} (h : p := by (with_reducible repeat (first | refine blk_drewN ?_ _ | refine blk_drew ?_ | refine blk_alloc ?_ _)); refine blk_far ?_ NB154_155.out _; (with_reducible repeat (first | refine blk_drewN ?_ _ | refine blk_drew ?_ | refine blk_alloc ?_ _)); refine blk_far ?_ NB154_155.out _; (with_reducible repeat (first | refine blk_drewN ?_ _ | refine blk_drew ?_ | refine blk_alloc ?_ _)); exact BK154.out) : p := h
theorem y16_ {p : Prop} (h : p := by repeat (first | (with_reducible first | exact HB.out | apply below_alloc | apply pw_below_drewN | apply below_drew1 | refine below_set ?_ GE188.out | refine below_set ?_ GE189.out) | exact HB.out)) : p := h
theorem y17_ {p : Prop} (h : p := by (with_reducible repeat (first | refine blk_drewN ?_ _ | refine blk_drew ?_ | refine blk_alloc ?_ _)); refine blk_put (cs := #[.string (strOfNums ((l0.take ((ji16) : Int).toNat).drop (t157 : Int).toNat)), .int .i64 (wrap64 (t161)), .int .i64 t165, .int .u8 (rd L37_ t166), .int .u64 0]) ?_ 4 _ rfl; (with_reducible repeat (first | refine blk_drewN ?_ _ | refine blk_drew ?_ | refine blk_alloc ?_ _)); refine blk_put (cs := #[.string (strOfNums ((l0.take ((ji16) : Int).toNat).drop (t157 : Int).toNat)), .int .i64 (wrap64 (t161)), .int .i64 t165, .int .u8 0, .int .u64 0]) ?_ 3 _ rfl; (with_reducible repeat (first | refine blk_drewN ?_ _ | refine blk_drew ?_ | refine blk_alloc ?_ _)); exact BK155.out) : p := h
theorem y18_ {p : Prop} (h : p := by repeat (first | (with_reducible first | exact HB.out | apply below_alloc | apply pw_below_drewN | apply below_drew1 | refine below_set ?_ GE188.out | refine below_set ?_ GE189.out | refine below_set ?_ GE201.out) | exact HB.out)) : p := h
theorem y19_ {p : Prop} (h : p := by repeat (first | (with_reducible first | exact HB.out | apply below_alloc | apply pw_below_drewN | apply below_drew1 | refine below_set ?_ GE102.out) | exact HB.out)) : p := h
theorem y20_ {p : Prop} (h : p := by repeat (first | (with_reducible first | exact HB.out | apply below_alloc | apply pw_below_drewN | apply below_drew1 | refine below_set ?_ GE188.out | refine below_set ?_ GE189.out | refine below_set ?_ GE201.out | refine below_set ?_ GE211.out) | exact HB.out)) : p := h
theorem y21_ {p : Prop} (h : p := by (with_reducible repeat (first | refine blk_drewN ?_ _ | refine blk_drew ?_ | refine blk_alloc ?_ _)); refine blk_put (cs := #[.string (⟨#[]⟩ : ByteArray), .int .i64 0, .int .i64 0, .int .u8 0, .int .u64 0]) ?_ 4 _ rfl; (with_reducible repeat (first | refine blk_drewN ?_ _ | refine blk_drew ?_ | refine blk_alloc ?_ _)); refine blk_put (cs := #[.string (⟨#[]⟩ : ByteArray), .int .i64 0, .int .i64 0, .int .u8 0, .int .u64 0]) ?_ 3 _ rfl; (with_reducible repeat (first | refine blk_drewN ?_ _ | refine blk_drew ?_ | refine blk_alloc ?_ _)); refine blk_put (cs := #[.string (⟨#[]⟩ : ByteArray), .int .i64 0, .int .i64 0, .int .u8 0, .int .u64 0]) ?_ 2 _ rfl; (with_reducible repeat (first | refine blk_drewN ?_ _ | refine blk_drew ?_ | refine blk_alloc ?_ _)); refine blk_put (cs := #[.string (⟨#[]⟩ : ByteArray), .int .i64 0, .int .i64 0, .int .u8 0, .int .u64 0]) ?_ 1 _ rfl; (with_reducible repeat (first | refine blk_drewN ?_ _ | refine blk_drew ?_ | refine blk_alloc ?_ _)); refine blk_put (cs := #[.string (⟨#[]⟩ : ByteArray), .int .i64 0, .int .i64 0, .int .u8 0, .int .u64 0]) ?_ 0 _ rfl; (with_reducible repeat (first | refine blk_drewN ?_ _ | refine blk_drew ?_ | refine blk_alloc ?_ _)); exact BK155.out) : p := h
theorem y22_ {p : Prop} (h : p := by repeat (first | (with_reducible first | exact HB.out | apply below_alloc | apply pw_below_drewN | apply below_drew1 | refine below_set ?_ GE176.out) | exact HB.out)) : p := h
theorem y23_ {p : Prop} (h : p := by first | rfl | (simp; done) | (simp [*]; done)) : p := h
theorem y24_ {p : Prop} (h : p := by (with_reducible repeat (first | refine blk_drewN ?_ _ | refine blk_drew ?_ | refine blk_alloc ?_ _)); exact BK184.out) : p := h
theorem y25_ {p : Prop} (h : p := by (with_reducible repeat (first | refine blk_drewN ?_ _ | refine blk_drew ?_ | refine blk_alloc ?_ _)); exact BK183.out) : p := h
theorem y26_ {p : Prop} (h : p := by repeat (first | (with_reducible first | exact HB.out | apply below_alloc | apply pw_below_drewN | apply below_drew1 | refine below_set ?_ GE176.out | refine below_set ?_ GE183.out | refine below_set ?_ GE184.out | refine below_set ?_ GE186.out) | exact HB.out)) : p := h
theorem y27_ {p : Prop} (h : p := by (with_reducible repeat (first | refine blk_drewN ?_ _ | refine blk_drew ?_ | refine blk_alloc ?_ _)); refine blk_put (cs := #[.int .i64 1, .string (⟨#[]⟩ : ByteArray)]) ?_ 1 _ rfl; (with_reducible repeat (first | refine blk_drewN ?_ _ | refine blk_drew ?_ | refine blk_alloc ?_ _)); refine blk_put (cs := #[.int .i64 0, .string (⟨#[]⟩ : ByteArray)]) ?_ 0 _ rfl; (with_reducible repeat (first | refine blk_drewN ?_ _ | refine blk_drew ?_ | refine blk_alloc ?_ _)); exact BK188.out) : p := h
theorem y28_ {p : Prop} (h : p := by (with_reducible repeat (first | refine blk_drewN ?_ _ | refine blk_drew ?_ | refine blk_alloc ?_ _)); exact BK189.out) : p := h
theorem y29_ {p : Prop} (h : p := by (with_reducible repeat (first | refine blk_drewN ?_ _ | refine blk_drew ?_ | refine blk_alloc ?_ _)); exact BK188.out) : p := h
theorem y30_ {p : Prop} (h : p := by (with_reducible repeat (first | refine blk_drewN ?_ _ | refine blk_drew ?_ | refine blk_alloc ?_ _)); exact BK118.out) : p := h
theorem y31_ {p : Prop} (h : p := by (with_reducible repeat (first | apply Kd.R_alloc | apply Kd.R_drewN | apply Kd.R_drew)); exact HO127.out) : p := h
theorem y32_ {p : Prop} (h : p := by (with_reducible repeat (first | refine blk_drewN ?_ _ | refine blk_drew ?_ | refine blk_alloc ?_ _)); refine blk_far ?_ NB154_155.out _; (with_reducible repeat (first | refine blk_drewN ?_ _ | refine blk_drew ?_ | refine blk_alloc ?_ _)); refine blk_far ?_ NB154_155.out _; (with_reducible repeat (first | refine blk_drewN ?_ _ | refine blk_drew ?_ | refine blk_alloc ?_ _)); refine blk_far ?_ NB154_155.out _; (with_reducible repeat (first | refine blk_drewN ?_ _ | refine blk_drew ?_ | refine blk_alloc ?_ _)); refine blk_far ?_ NB154_155.out _; (with_reducible repeat (first | refine blk_drewN ?_ _ | refine blk_drew ?_ | refine blk_alloc ?_ _)); refine blk_far ?_ NB154_155.out _; (with_reducible repeat (first | refine blk_drewN ?_ _ | refine blk_drew ?_ | refine blk_alloc ?_ _)); exact BK154.out) : p := h
theorem y33_ {p : Prop} (h : p := by (with_reducible repeat (first | refine blk_drewN ?_ _ | refine blk_drew ?_ | refine blk_alloc ?_ _)); refine blk_put (cs := #[.string ((rd_T43 l1 x26_1).f0), .int .i64 ((rd_T43 l1 x26_1).f1.f0), .string (⟨#[]⟩ : ByteArray)]) ?_ 2 _ rfl; (with_reducible repeat (first | refine blk_drewN ?_ _ | refine blk_drew ?_ | refine blk_alloc ?_ _)); refine blk_put (cs := #[.string ((rd_T43 l1 x26_1).f0), .int .i64 0, .string (⟨#[]⟩ : ByteArray)]) ?_ 1 _ rfl; (with_reducible repeat (first | refine blk_drewN ?_ _ | refine blk_drew ?_ | refine blk_alloc ?_ _)); refine blk_put (cs := #[.string (⟨#[]⟩ : ByteArray), .int .i64 0, .string (⟨#[]⟩ : ByteArray)]) ?_ 0 _ rfl; (with_reducible repeat (first | refine blk_drewN ?_ _ | refine blk_drew ?_ | refine blk_alloc ?_ _)); exact BK186.out) : p := h
theorem y34_ {p : Prop} (h : p := by (with_reducible repeat (first | refine blk_drewN ?_ _ | refine blk_drew ?_ | refine blk_alloc ?_ _)); exact BK154.out) : p := h
theorem y35_ {p : Prop} (h : p := by (with_reducible repeat (first | refine blk_drewN ?_ _ | refine blk_drew ?_ | refine blk_alloc ?_ _)); refine blk_put (cs := #[.string (strOfNums ((l0.take ((ji16) : Int).toNat).drop (t157 : Int).toNat)), .int .i64 (wrap64 (t161)), .int .i64 0, .int .u8 0, .int .u64 0]) ?_ 2 _ rfl; (with_reducible repeat (first | refine blk_drewN ?_ _ | refine blk_drew ?_ | refine blk_alloc ?_ _)); refine blk_put (cs := #[.string (strOfNums ((l0.take ((ji16) : Int).toNat).drop (t157 : Int).toNat)), .int .i64 0, .int .i64 0, .int .u8 0, .int .u64 0]) ?_ 1 _ rfl; (with_reducible repeat (first | refine blk_drewN ?_ _ | refine blk_drew ?_ | refine blk_alloc ?_ _)); exact BK155.out) : p := h
theorem y36_ {p : Prop} (h : p := by rw [hg]; exact (below_size y1_)) : p := h
theorem y37_ {p : Prop} (h : p := by repeat (first | (with_reducible first | exact HB.out | apply below_alloc | apply pw_below_drewN | apply below_drew1 | refine below_set ?_ GE176.out | refine below_set ?_ GE183.out) | exact HB.out)) : p := h
theorem y38_ {p : Prop} (h : p := by (with_reducible repeat (first | apply Kd.R_alloc | apply Kd.R_drewN | apply Kd.R_drew)); exact (Kd.R_mono (Kd.R_far (p := ⟨gb201, 4, none⟩) (Kd.R_far (p := ⟨gb201, 3, none⟩) (Kd.R_far (p := ⟨gb201, 2, none⟩) (Kd.R_far (p := ⟨gb201, 1, none⟩) (Kd.R_far (p := ⟨gb201, 0, none⟩) (Kd.R_types HO194.out BK201.out (by decide)) (fun _ hk => hk.2) (.string t195)) (fun _ hk => hk.2) (.int .i64 t196)) (fun _ hk => hk.2) (.int .i64 t197)) (fun _ hk => hk.2) (.int .u8 t198)) (fun _ hk => hk.2) (.int .u64 t199)) (fun _ h_ => h_.1))) : p := h
theorem y39_ {p : Prop} (h : p := by (with_reducible repeat (first | refine blk_drewN ?_ _ | refine blk_drew ?_ | refine blk_alloc ?_ _)); refine blk_far ?_ NB184_186.out _; (with_reducible repeat (first | refine blk_drewN ?_ _ | refine blk_drew ?_ | refine blk_alloc ?_ _)); refine blk_far ?_ NB184_186.out _; (with_reducible repeat (first | refine blk_drewN ?_ _ | refine blk_drew ?_ | refine blk_alloc ?_ _)); refine blk_far ?_ NB184_186.out _; (with_reducible repeat (first | refine blk_drewN ?_ _ | refine blk_drew ?_ | refine blk_alloc ?_ _)); exact BK184.out) : p := h
theorem y40_ {p : Prop} (h : p := by (with_reducible repeat (first | refine blk_drewN ?_ _ | refine blk_drew ?_ | refine blk_alloc ?_ _)); refine blk_far ?_ NB183_186.out _; (with_reducible repeat (first | refine blk_drewN ?_ _ | refine blk_drew ?_ | refine blk_alloc ?_ _)); refine blk_far ?_ NB183_186.out _; (with_reducible repeat (first | refine blk_drewN ?_ _ | refine blk_drew ?_ | refine blk_alloc ?_ _)); refine blk_far ?_ NB183_186.out _; (with_reducible repeat (first | refine blk_drewN ?_ _ | refine blk_drew ?_ | refine blk_alloc ?_ _)); exact BK183.out) : p := h
theorem y41_ {p : Prop} (h : p := by (with_reducible repeat (first | refine blk_drewN ?_ _ | refine blk_drew ?_ | refine blk_alloc ?_ _)); refine blk_far ?_ NB176_186.out _; (with_reducible repeat (first | refine blk_drewN ?_ _ | refine blk_drew ?_ | refine blk_alloc ?_ _)); refine blk_far ?_ NB176_186.out _; (with_reducible repeat (first | refine blk_drewN ?_ _ | refine blk_drew ?_ | refine blk_alloc ?_ _)); refine blk_far ?_ NB176_186.out _; (with_reducible repeat (first | refine blk_drewN ?_ _ | refine blk_drew ?_ | refine blk_alloc ?_ _)); exact BK176.out) : p := h
theorem y42_ {p : Prop} (h : p := by (with_reducible repeat (first | apply Kd.R_alloc | apply Kd.R_drewN | apply Kd.R_drew)); exact HO133.out) : p := h
theorem y43_ {p : Prop} (h : p := by repeat (first | (with_reducible first | exact HB.out | apply below_alloc | apply pw_below_drewN | apply below_drew1 | refine below_set ?_ GE104.out) | exact HB.out)) : p := h
theorem y44_ {p : Prop} (h : p := by first | rfl | (simp; done) | (simp [*]; done) | (simp [Kd.ne_nil_, Kd.eq_nil_]; done)) : p := h
theorem y45_ {p : Prop} (h : p := by first | rfl | (simp [errW_none, errW_some] <;> rfl) | (simp only [← hji16, ← hji45]; first | rfl | (simp [errW_none, errW_some] <;> rfl)) | (simp [*, errW_none, errW_some] <;> rfl)) : p := h
theorem y46_ {p : Prop} (h : p := by (with_reducible repeat (first | refine blk_drewN ?_ _ | refine blk_drew ?_ | refine blk_alloc ?_ _)); exact BK201.out) : p := h
theorem y47_ {p : Prop} (h : p := by (with_reducible repeat (first | refine blk_drewN ?_ _ | refine blk_drew ?_ | refine blk_alloc ?_ _)); exact BK155.out) : p := h
theorem y48_ {p : Prop} (h : p := by (with_reducible repeat (first | refine blk_drewN ?_ _ | refine blk_drew ?_ | refine blk_alloc ?_ _)); exact BK102.out) : p := h
theorem y49_ {p : Prop} (h : p := by (with_reducible repeat (first | refine blk_drewN ?_ _ | refine blk_drew ?_ | refine blk_alloc ?_ _)); refine blk_put (cs := #[.string (⟨#[]⟩ : ByteArray), .int .i64 0, .int .i64 0, .int .u8 0, .int .u64 0]) ?_ 0 _ rfl; (with_reducible repeat (first | refine blk_drewN ?_ _ | refine blk_drew ?_ | refine blk_alloc ?_ _)); exact BK155.out) : p := h
theorem y50_ {p : Prop} (h : p := by first | rfl | (simp; done) | ((simp only [← hji11, ← hji13] <;> (first | rfl | simp)); done) | (congr 1; first | assumption | (symm; assumption)) | (simp [*]; done)) : p := h
theorem y51_ {p : Prop} (h : p := by rw [hg]; exact Nat.ne_of_lt (blk_lt (g := gb176) (o := .cells #[.string (⟨#[]⟩ : ByteArray), .int .i64 0, .int .i64 0, .int .u8 0, .int .u64 0] 26 (0, 0)) y13_)) : p := h
theorem y52_ {p : Prop} (h : p := by rw [hg]; exact Nat.ne_of_gt (blk_lt (g := gb176) (o := .cells #[.string (⟨#[]⟩ : ByteArray), .int .i64 0, .int .i64 0, .int .u8 0, .int .u64 0] 26 (0, 0)) y13_)) : p := h
theorem y53_ {p : Prop} (h : p := by repeat (first | (with_reducible first | exact HB.out | apply below_alloc | apply pw_below_drewN | apply below_drew1 | refine below_set ?_ GE188.out) | exact HB.out)) : p := h
theorem y54_ {p : Prop} (h : p := by repeat (first | (with_reducible first | exact HB.out | apply below_alloc | apply pw_below_drewN | apply below_drew1 | refine below_set ?_ GE154.out) | exact HB.out)) : p := h
theorem y55_ {p : Prop} (h : p := by (with_reducible repeat (first | apply Kd.R_alloc | apply Kd.R_drewN | apply Kd.R_drew)); exact HO194.out) : p := h
theorem y56_ {p : Prop} (h : p := by (with_reducible repeat (first | refine blk_drewN ?_ _ | refine blk_drew ?_ | refine blk_alloc ?_ _)); refine blk_far ?_ NB154_155.out _; (with_reducible repeat (first | refine blk_drewN ?_ _ | refine blk_drew ?_ | refine blk_alloc ?_ _)); exact BK154.out) : p := h
theorem y57_ {p : Prop} (h : p := by (with_reducible repeat (first | apply Kd.R_alloc | apply Kd.R_drewN | apply Kd.R_drew)); exact HO130.out) : p := h
end Go.Proofs.YtkkomfomjpcbfaaDoor
end
section
namespace Go.Proofs.YtkkomfomjpcbfaaDoor.PHL
open Go.RowKit Go.Proofs.YtkkomfomjpcbfaaDoorW.PrintWords Go.Proofs.YtkkomfomjpcbfaaDoorW.PrintLast Go.Proofs.YtkkomfomjpcbfaaDoorW.PrintMore
attribute [local go_sem] max2_int min2_int max_two min_two max_three min_three max_four min_four
set_option linter.unusedVariables false
set_option linter.unusedSimpArgs false
def errW : Option Int → Value
 | none => .nilIface
 | some c => .iface 0 (.int .i64 c)
theorem errW_none : errW none = .nilIface := rfl
theorem errW_some (c : Int) : errW (some c) = .iface 0 (.int .i64 c) := rfl
end Go.Proofs.YtkkomfomjpcbfaaDoor.PHL
end
section
namespace Go.Proofs.YtkkomfomjpcbfaaDoor.PHL
open Go.RowKit Go.Proofs.YtkkomfomjpcbfaaDoorW.PrintWords Go.Proofs.YtkkomfomjpcbfaaDoorW.PrintLast Go.Proofs.YtkkomfomjpcbfaaDoorW.PrintMore
attribute [local go_sem] max2_int min2_int max_two min_two max_three min_three max_four min_four
set_option linter.unusedVariables false
set_option linter.unusedSimpArgs false
mutual
def hash_six.j0 : Nat → Int → Bool → Option (Int × Bool)
 | 0, _, _ => none
 | k + 1, x0, x4 => if x4 = true then (some (IntKind.u64.wrap (wrap32 (x0 - 65)), true)) else (if x0 ≥ 97 then (hash_six.j1 k x0 (decide (x0 ≤ 122))) else (hash_six.j1 k x0 false))
def hash_six.j1 : Nat → Int → Bool → Option (Int × Bool)
 | 0, _, _ => none
 | k + 1, x0, x14 => if x14 = true then (some (IntKind.u64.wrap ((IntKind.u64.wrap (wrap32 (x0 - 97))) + 26), true)) else (if x0 ≥ 48 then (hash_six.j2 k x0 (decide (x0 ≤ 57))) else (hash_six.j2 k x0 false))
def hash_six.j2 : Nat → Int → Bool → Option (Int × Bool)
 | 0, _, _ => none
 | k + 1, x0, x25 => if x25 = true then (some (IntKind.u64.wrap ((IntKind.u64.wrap (wrap32 (x0 - 48))) + 52), true)) else (if x0 = 45 then (some (62, true)) else (if x0 = 95 then (some (63, true)) else (some (0, false))))
end
def hash_six.f (k : Nat) (a0 : Int) : Option (Int × Bool) := if a0 ≥ 65 then (hash_six.j0 k a0 (decide (a0 ≤ 90))) else (hash_six.j0 k a0 false)
set_option maxHeartbeats 8000000 in
set_option maxRecDepth 100000 in
theorem hash_six.calls (k : Nat) (a0 : Int) (r1 : Int) (r2 : Bool) (w : World) (h : hash_six.f k a0 = some (r1, r2)) :
  Calls Tryd.prog 56 #[.int .i32 a0] w fun e w' => e = .returned (.tuple #[.int .u64 r1, .bool r2]) ∧ Drawn0 w w' := by
 have H : (if a0 ≥ 65 then (hash_six.j0 k a0 (decide (a0 ≤ 90))) else (hash_six.j0 k a0 false)) = some (r1, r2) := h
 clear h
 have HC2 := Aside0.mk H
 clear H
 go_enter Tryd.func56, Tryd.ntmps56
 go_upto_region 1 with (fail)
 go_cut [4] (fun v4 wc => ∃ (kq : Nat) (x4_1 : Bool), v4 = .bool x4_1 ∧ Aside0 (hash_six.j0 kq a0 x4_1 = some (r1, r2)) ∧ Aside0 (kq ≤ k) ∧ Drawn0 w wc)
 case first =>
  have H := HC2.out
  clear HC2
  by_cases c3 : a0 ≥ 65
  ·rw [if_pos c3] at H
   have c3b0 : decide (65 ≤ a0) = true := decide_eq_true c3
   clear c3
   (first | rw [c3b0] | (simp only [i64_w, i32_w]; rw [c3b0]) | skip)
   have H' := Aside0.mk H
   clear H
   go_wp2
   go_meet
   case rel => exact ⟨_, (decide (a0 ≤ 90)), y44_, H', ⟨by first | omega | exact Nat.le_refl _⟩, y11_⟩
  ·rw [if_neg c3] at H
   have c3b0 : decide (65 ≤ a0) = false := decide_eq_false c3
   clear c3
   (first | rw [c3b0] | (simp only [i64_w, i32_w]; rw [c3b0]) | skip)
   have H' := Aside0.mk H
   clear H
   go_wp2
   go_meet
   case rel => exact ⟨_, (false), y44_, H', ⟨by first | omega | exact Nat.le_refl _⟩, y11_⟩
 case rest =>
  clear HC2
  try clear p2
  try clear c3
  try clear c3b0
  obtain ⟨kq, x4_1, rfl, HA, HJ1, ⟨mc1, rfl⟩⟩ := hcut
  cases kq with
  | zero => exact absurd HA.out (by simp [hash_six.j0])
  | succ kj1 =>
   have H := HA.out
   clear HA
   simp only [hash_six.j0] at H
   by_cases c4 : x4_1 = true
   ·subst c4
    have H1 : (some (IntKind.u64.wrap (wrap32 (a0 - 65)), true)) = some (r1, r2) := by rw [if_pos rfl] at H; exact H
    clear H
    have H := H1
    clear H1
    simp only [Option.some.injEq, Prod.mk.injEq] at H
    obtain ⟨rfl, rfl⟩ := H
    go_wp2
    go_ret2
    exact ⟨y23_, y11_⟩
   ·replace c4 := Bool.eq_false_iff.mpr c4
    subst c4
    have H1 : (if a0 ≥ 97 then (hash_six.j1 kj1 a0 (decide (a0 ≤ 122))) else (hash_six.j1 kj1 a0 false)) = some (r1, r2) := by rw [if_neg (show ¬ (false = true) by decide)] at H; exact H
    clear H
    have H := H1
    clear H1
    have HC5 := Aside0.mk H
    clear H
    go_upto_region 3 with (fail)
    go_cut [14] (fun v14 wc => ∃ (kq : Nat) (x14_4 : Bool), v14 = .bool x14_4 ∧ Aside0 (hash_six.j1 kq a0 x14_4 = some (r1, r2)) ∧ Aside0 (kq ≤ kj1) ∧ Drawn0 w wc)
    case first =>
     have H := HC5.out
     clear HC5
     by_cases c6 : a0 ≥ 97
     ·rw [if_pos c6] at H
      have c6b0 : decide (97 ≤ a0) = true := decide_eq_true c6
      clear c6
      (first | rw [c6b0] | (simp only [i64_w, i32_w]; rw [c6b0]) | skip)
      have H' := Aside0.mk H
      clear H
      go_wp2
      go_meet
      case rel => exact ⟨_, (decide (a0 ≤ 122)), y44_, H', ⟨by have := HJ1.out; first | omega | exact Nat.le_refl _⟩, y11_⟩
     ·rw [if_neg c6] at H
      have c6b0 : decide (97 ≤ a0) = false := decide_eq_false c6
      clear c6
      (first | rw [c6b0] | (simp only [i64_w, i32_w]; rw [c6b0]) | skip)
      have H' := Aside0.mk H
      clear H
      go_wp2
      go_meet
      case rel => exact ⟨_, (false), y44_, H', ⟨by have := HJ1.out; first | omega | exact Nat.le_refl _⟩, y11_⟩
    case rest =>
     clear HC5
     try clear c1
     try clear p2
     try clear c3
     try clear c3b0
     try clear p3
     try clear c4
     try clear c5
     try clear c6
     try clear c6b0
     try clear p2
     obtain ⟨kq, x14_4, rfl, HA, HJ4, ⟨mc4, rfl⟩⟩ := hcut
     cases kq with
     | zero => exact absurd HA.out (by simp [hash_six.j1])
     | succ kj4 =>
      have H := HA.out
      clear HA
      simp only [hash_six.j1] at H
      by_cases c7 : x14_4 = true
      ·subst c7
       have H1 : (some (IntKind.u64.wrap ((IntKind.u64.wrap (wrap32 (a0 - 97))) + 26), true)) = some (r1, r2) := by rw [if_pos rfl] at H; exact H
       clear H
       have H := H1
       clear H1
       simp only [Option.some.injEq, Prod.mk.injEq] at H
       obtain ⟨rfl, rfl⟩ := H
       go_wp2
       go_ret2
       exact ⟨y23_, y11_⟩
      ·replace c7 := Bool.eq_false_iff.mpr c7
       subst c7
       have H1 : (if a0 ≥ 48 then (hash_six.j2 kj4 a0 (decide (a0 ≤ 57))) else (hash_six.j2 kj4 a0 false)) = some (r1, r2) := by rw [if_neg (show ¬ (false = true) by decide)] at H; exact H
       clear H
       have H := H1
       clear H1
       have HC8 := Aside0.mk H
       clear H
       go_upto_region 5 with (fail)
       go_cut [25] (fun v25 wc => ∃ (kq : Nat) (x25_7 : Bool), v25 = .bool x25_7 ∧ Aside0 (hash_six.j2 kq a0 x25_7 = some (r1, r2)) ∧ Aside0 (kq ≤ kj4) ∧ Drawn0 w wc)
       case first =>
        have H := HC8.out
        clear HC8
        by_cases c9 : a0 ≥ 48
        ·rw [if_pos c9] at H
         have c9b0 : decide (48 ≤ a0) = true := decide_eq_true c9
         clear c9
         (first | rw [c9b0] | (simp only [i64_w, i32_w]; rw [c9b0]) | skip)
         have H' := Aside0.mk H
         clear H
         go_wp2
         go_meet
         case rel => exact ⟨_, (decide (a0 ≤ 57)), y44_, H', ⟨by have := HJ1.out; have := HJ4.out; first | omega | exact Nat.le_refl _⟩, y11_⟩
        ·rw [if_neg c9] at H
         have c9b0 : decide (48 ≤ a0) = false := decide_eq_false c9
         clear c9
         (first | rw [c9b0] | (simp only [i64_w, i32_w]; rw [c9b0]) | skip)
         have H' := Aside0.mk H
         clear H
         go_wp2
         go_meet
         case rel => exact ⟨_, (false), y44_, H', ⟨by have := HJ1.out; have := HJ4.out; first | omega | exact Nat.le_refl _⟩, y11_⟩
       case rest =>
        clear HC8
        try clear c1
        try clear p2
        try clear c3
        try clear c3b0
        try clear p3
        try clear c4
        try clear c5
        try clear c6
        try clear c6b0
        try clear c7
        try clear c9
        try clear c9b0
        try clear p2
        try clear p3
        obtain ⟨kq, x25_7, rfl, HA, HJ7, ⟨mc7, rfl⟩⟩ := hcut
        cases kq with
        | zero => exact absurd HA.out (by simp [hash_six.j2])
        | succ kj7 =>
         have H := HA.out
         clear HA
         simp only [hash_six.j2] at H
         by_cases c10 : x25_7 = true
         ·subst c10
          have H1 : (some (IntKind.u64.wrap ((IntKind.u64.wrap (wrap32 (a0 - 48))) + 52), true)) = some (r1, r2) := by rw [if_pos rfl] at H; exact H
          clear H
          have H := H1
          clear H1
          simp only [Option.some.injEq, Prod.mk.injEq] at H
          obtain ⟨rfl, rfl⟩ := H
          go_wp2
          go_ret2
          exact ⟨y23_, y11_⟩
         ·replace c10 := Bool.eq_false_iff.mpr c10
          subst c10
          have H1 : (if a0 = 45 then (some (62, true)) else (if a0 = 95 then (some (63, true)) else (some (0, false)))) = some (r1, r2) := by rw [if_neg (show ¬ (false = true) by decide)] at H; exact H
          clear H
          have H := H1
          clear H1
          by_cases c11 : a0 = 45
          ·rw [if_pos c11] at H
           have c11b0 : (a0 == 45) = true := beq_iff_eq.mpr c11
           have c11b1 : (a0 != 45) = false := bne_eq_false_iff_eq.mpr c11
           clear c11
           simp only [Option.some.injEq, Prod.mk.injEq] at H
           obtain ⟨rfl, rfl⟩ := H
           go_wp2
           go_ret2
           exact ⟨y23_, y11_⟩
          ·rw [if_neg c11] at H
           have c11b0 : (a0 == 45) = false := beq_eq_false_iff_ne.mpr c11
           have c11b1 : (a0 != 45) = true := bne_iff_ne.mpr c11
           by_cases c12 : a0 = 95
           ·rw [if_pos c12] at H
            have c12b0 : (a0 == 95) = true := beq_iff_eq.mpr c12
            have c12b1 : (a0 != 95) = false := bne_eq_false_iff_eq.mpr c12
            clear c12
            simp only [Option.some.injEq, Prod.mk.injEq] at H
            obtain ⟨rfl, rfl⟩ := H
            go_wp2
            go_ret2
            exact ⟨y23_, y11_⟩
           ·rw [if_neg c12] at H
            have c12b0 : (a0 == 95) = false := beq_eq_false_iff_ne.mpr c12
            have c12b1 : (a0 != 95) = true := bne_iff_ne.mpr c12
            simp only [Option.some.injEq, Prod.mk.injEq] at H
            obtain ⟨rfl, rfl⟩ := H
            go_wp2
            go_ret2
            exact ⟨y23_, y11_⟩
end Go.Proofs.YtkkomfomjpcbfaaDoor.PHL
end
section
namespace Go.Proofs.YtkkomfomjpcbfaaDoor
open Go Go.RowKit Go.Lib Go.Proofs.YtkkomfomjpcbfaaDoorW.PrintWords Go.Proofs.YtkkomfomjpcbfaaDoorW.PrintMore Go.Proofs.YtkkomfomjpcbfaaDoorW.PrintLast Bq
set_option linter.unusedVariables false
set_option linter.unusedSimpArgs false
attribute [local go_sem ↓] Go.wp_at_zero Go.wp_at_succ
def sixV (c : Int) : Option Nat := if 65 ≤ c ∧ c ≤ 90 then some (c - 65).toNat else if 97 ≤ c ∧ c ≤ 122 then some (c - 71).toNat else if 48 ≤ c ∧ c ≤ 57 then some (c + 4).toNat else if c = 45 then some 62 else if c = 95 then some 63 else none
theorem sixV_lt {c : Int} {v : Nat} (h : sixV c = some v) : v < 64 ∧ 0 ≤ c ∧ c < 128 := by
  unfold sixV at h
  repeat' split at h
  all_goals simp only [Option.some.injEq, reduceCtorEq] at h
  all_goals omega
theorem sixV_high {c : Int} (h : 128 ≤ c) : sixV c = none := by
  unfold sixV
  rw [if_neg (by omega), if_neg (by omega), if_neg (by omega), if_neg (by omega), if_neg (by omega)]
theorem w_small (x : Int) (h0 : 0 ≤ x) (h1 : x < 100) : IntKind.u64.wrap (wrap32 x) = x := by
  rw [← i32_w, IntKind.wrap_i32, IntKind.wrap_u64]
  omega
theorem w_small' (x : Int) (h0 : 0 ≤ x) (h1 : x < 200) : IntKind.u64.wrap x = x := by
  rw [IntKind.wrap_u64]
  omega
theorem below_dr {w w' : World} (h : Drawn0 w w') : Below w.heap.size w w' := by
  obtain ⟨n, rfl⟩ := h
  exact pw_below_drewN (Below.refl _ _) n
theorem dr_trans {B : Nat} {w w1 w' : World} (h : Below B w w1) (hD : Drawn0 w1 w') : Below B w w' := by
  obtain ⟨n, rfl⟩ := hD
  exact pw_below_drewN h n
theorem six_f (c : Int) : PHL.hash_six.f 3 c = some ((((sixV c).getD 0 : Nat) : Int), (sixV c).isSome) := by
  simp only [PHL.hash_six.f, PHL.hash_six.j0, PHL.hash_six.j1, PHL.hash_six.j2, decide_eq_true_eq, Bool.false_eq_true, if_false, reduceIte]
  unfold sixV
  (repeat' split) <;> first
    | (exfalso; omega)
    | rfl
    | (simp only [Option.getD_some, Option.isSome_some, Option.some.injEq, Prod.mk.injEq, and_true]; rw [w_small _ (by omega) (by omega)]; omega)
    | (simp only [Option.getD_some, Option.isSome_some, Option.some.injEq, Prod.mk.injEq, and_true]; rw [w_small _ (by omega) (by omega), w_small' _ (by omega) (by omega)]; omega)
theorem six_calls (c : Int) (w : World) : Calls Tryd.prog 56 #[.int .i32 c] w fun e w' => e = .returned (.tuple #[.int .u64 (((sixV c).getD 0 : Nat) : Int), .bool (sixV c).isSome]) ∧ Drawn0 w w' :=
  PHL.hash_six.calls 3 c _ _ w (six_f c)
def unL : List UInt8 → Nat → Nat → List Int → List Int × Int
  | [], X, n, out => if n = 6 ∨ X % 2 ^ n ≠ 0 then ([], 8) else (out, 0)
  | c :: l, X, n, out => match sixV (c.toNat : Int) with
    | none => ([], 8)
    | some v => if 8 ≤ n + 6 then unL l ((X * 64 + v) % 256) (n - 2) (out ++ [(((X * 64 + v) / 2 ^ (n - 2) % 256 : Nat) : Int)]) else unL l ((X * 64 + v) % 256) (n + 6) out
theorem hu_byte (s : ByteArray) (i : Nat) (h : i < s.size) : s[i] = s.data.toList.getD i 0 := by
  rw [List.getD_eq_getElem?_getD, List.getElem?_eq_getElem (by simpa using h)]
  simp
  rfl
theorem hu_drop (s : ByteArray) (i : Nat) (h : i < s.size) : s.data.toList.drop i = s[i] :: s.data.toList.drop (i + 1) := by
  have hl : i < s.data.toList.length := by simpa using h
  rw [List.drop_eq_getElem_cons hl]
  congr 1
theorem or64 (a v : Nat) (hv : v < 64) (ha : a < 72057594037927936) : bits .or .u64 ((a * 64 : Nat) : Int) (v : Int) = ((a * 64 + v : Nat) : Int) := by
  rw [(bits_nat .u64 64 (by decide) (fun m a b => by rw [IntKind.wrap_u64]; omega) (a * 64) v (by omega) (by omega)).2]
  congr 1
  have h3 := Nat.two_pow_add_eq_or_of_lt (i := 6) hv a
  rw [Nat.mul_comm a 64]
  exact h3.symm
theorem and_mask (a n : Nat) (ha : a < 18446744073709551616) (hn : n ≤ 8) : bits .and .u64 (a : Int) ((2 ^ n - 1 : Nat) : Int) = ((a % 2 ^ n : Nat) : Int) := by
  have hp : 2 ^ n ≤ 2 ^ 8 := Nat.pow_le_pow_right (by decide) hn
  rw [(bits_nat .u64 64 (by decide) (fun m a b => by rw [IntKind.wrap_u64]; omega) a (2 ^ n - 1) ha (by omega)).1]
  congr 1
  exact Nat.and_two_pow_sub_one_eq_mod a n
theorem R_iterAt {w : World} {base k pos p0 : Nat} {s : ByteArray} {v : Value} {xs : List Int} (h : (Kd.int .u8).R 5 w base (fun j => j ≠ k) v xs) : (Kd.int .u8).R 5 (w.iterAt k s pos) base (fun j => j ≠ k) v xs :=
  Kd.R_step h (fun j hj _ => iterAt_other w k j s pos hj)
set_option maxRecDepth 20000 in
set_option maxHeartbeats 4000000 in
theorem unarmor_calls (w : World) (s : ByteArray) (hs : s.size ≤ 1000000) (r1 : List Int) (r2 : Int) (h : unL s.data.toList 0 0 [] = (r1, r2)) :
    Calls Tryd.prog 33 #[.string s] w fun e w' => ∃ v : Value, e = .returned (.tuple #[v, .int .i64 r2]) ∧ (Kd.int .u8).R 5 w' w.heap.size (fun _ => True) v r1 ∧ Below w.heap.size w w' := by
  have H0 := Lib.hid h
  clear h
  obtain ⟨m0, hm0⟩ : ∃ m0 : Nat, (3 * (s.size : Int)) / 4 = m0 := ⟨((3 * (s.size : Int)) / 4).toNat, by omega⟩
  have hm0b : m0 ≤ 10000000 := by omega
  have HM0 := Lib.hid hm0
  clear hm0
  have q0 : IntKind.i64.wrap (3 * (s.size : Int)) = 3 * (s.size : Int) := IntWalk.i64_in _ (by omega)
  go_enter Tryd.func33, Tryd.ntmps33
  go_upto_region 3 with (show wpList _ _ _ ({ dst := _, op := .makeSlice _ _ _, type := _, pos := _, after := _, guard := _ } :: _) _ _; refine wl_make0 w.heap.size m0 (fun _ => True) rfl _ _ rfl rfl (congrArg (Value.int .i64) HM0.out) (Nat.le_refl _) trivial (by omega) ?_; intro v1 w1 hR1 hB1; have HR1 := Lib.hid hR1; have HB1 := Lib.hid hB1; clear hR1 hB1)
  obtain ⟨it, hit⟩ : ∃ it, it = w1.heap.size := ⟨_, rfl⟩
  obtain ⟨W2, hW2⟩ : ∃ W2, W2 = w1.iter s 0 := ⟨_, rfl⟩
  have HB2 : Hid (Below w.heap.size w W2) := Lib.hid (by rw [hW2]; exact HB1.out.alloc HB1.out.size _)
  have HI2 : Hid (W2.heap[it]? = some (.stringIter s 0)) := Lib.hid (by rw [hW2, hit]; exact World.iter_heap _ _ _)
  have HR2 : Hid ((Kd.int .u8).R 5 W2 w.heap.size (fun j => j ≠ it) v1 []) := Lib.hid (by
    have h1 := Kd.R_mono (Kd.R_bound HR1.out) (ok' := fun j => j ≠ it) (fun j hj => by have := hj.2.2.1; omega)
    rw [hW2]
    exact Kd.R_below h1 ((Below.refl _ _).alloc (Nat.le_refl _) _))
  have HIW : Hid (w.heap.size ≤ it) := Lib.hid (by rw [hit]; exact HB1.out.size)
  go_upto_region 4 with fail
  rw [← hW2, ← hit]
  clear hW2 hit HB1 HR1
  go_loopg [4, 5, 6] s.size (fun kq s4 s5 s6 wr => ∃ (pos X n : Nat) (out : List Int), pos + kq = s.size ∧ s5 = .int .u64 (X : Int) ∧ s6 = .int .i64 (n : Int) ∧ X < 256 ∧ n < 8 ∧ out.length ≤ pos ∧ Hid (unL (s.data.toList.drop pos) X n out = (r1, r2)) ∧ Hid ((Kd.int .u8).R 5 wr w.heap.size (fun j => j ≠ it) s4 out) ∧ Hid (wr.heap[it]? = some (.stringIter s pos)) ∧ Hid (Below w.heap.size w wr))
  case atStart => exact ⟨0, 0, 0, [], by omega, rfl, rfl, by decide, by decide, Nat.le_refl _, H0.out, HR2.out, HI2.out, HB2.out⟩
  case round =>
    obtain ⟨pos, X, n, out, hk, rfl, rfl, hX, hn, hol, HU, HR, HI, HB⟩ := hrel
    obtain ⟨A4, c4, hs4⟩ := Kd.R_slice HR.out
    subst hs4
    by_cases hlt : pos < s.size
    · obtain ⟨c, hc⟩ : ∃ c : Int, c = ((Utf8.decode s pos).1 : Int) := ⟨_, rfl⟩
      obtain ⟨st, hst⟩ : ∃ st, st = (Utf8.decode s pos).2 := ⟨_, rfl⟩
      have hnx := fun ty => run_next_any_at (P := Tryd.prog) wr it s pos ty HI.out hlt
      simp only [← hc, ← hst] at hnx
      have hsix : sixV c = sixV ((s[pos]'hlt).toNat : Int) ∧ ((s[pos]'hlt).toNat < 128 → st = 1) := by
        by_cases ha : (s[pos]'hlt).toNat < 128
        · rw [hc, hst, decode_ascii s pos hlt ha]
          exact ⟨rfl, fun _ => rfl⟩
        · have hd := (decode_high s pos hlt (by omega)).1
          exact ⟨by rw [sixV_high (by omega), sixV_high (by omega)], fun h => absurd h ha⟩
      have hd := hu_drop s pos hlt
      have HU2 : Hid (unL ((s[pos]'hlt) :: s.data.toList.drop (pos + 1)) X n out = (r1, r2)) := Lib.hid (by rw [← hd]; exact HU.out)
      have HSX := Lib.hid hsix
      have HLT := Lib.hid hlt
      clear hc hst hd hsix HU
      cases hv : sixV c with
      | none =>
        have hres : r1 = [] ∧ r2 = 8 := by
          have h := HU2.out
          unfold unL at h
          rw [← HSX.out.1, hv] at h
          exact ⟨(congrArg Prod.fst h).symm, (congrArg Prod.snd h).symm⟩
        obtain ⟨rfl, rfl⟩ := hres
        have h6 := fun W => six_calls c W
        rw [hv] at h6
        clear hv
        go_wp2_with (go_at_call 56; refine (h6 _).mono ?_; rintro e w' ⟨rfl, hD⟩; have HB5 : Hid (Below w.heap.size w w') := Lib.hid (dr_trans (below_iterAt HB.out HIW.out s _) hD); clear hD)
        go_ret2
        exact ⟨.slice none 0 0, rfl, Kd.R_nil _ _ _ _ _, HB5.out⟩
      | some v =>
        obtain ⟨hv64, hc0, hc1⟩ := sixV_lt hv
        have hst1 : st = 1 := HSX.out.2 (by
          by_cases ha : (s[pos]'hlt).toNat < 128
          · exact ha
          · exfalso
            have h1 := HSX.out.1
            rw [hv, sixV_high (c := ((s[pos]'hlt).toNat : Int)) (by omega)] at h1
            cases h1)
        subst hst1
        have HU3 : Hid ((if 8 ≤ n + 6 then unL (s.data.toList.drop (pos + 1)) ((X * 64 + v) % 256) (n - 2) (out ++ [(((X * 64 + v) / 2 ^ (n - 2) % 256 : Nat) : Int)]) else unL (s.data.toList.drop (pos + 1)) ((X * 64 + v) % 256) (n + 6) out) = (r1, r2)) := Lib.hid (by
          have h := HU2.out
          unfold unL at h
          rw [← HSX.out.1, hv] at h
          exact h)
        have h6 := fun W => six_calls c W
        rw [hv] at h6
        simp only [Option.getD_some, Option.isSome_some] at h6
        have hor := or64 X v hv64 (by omega)
        rw [show ((X * 64 : Nat) : Int) = (X : Int) * 64 by omega] at hor
        obtain ⟨Y, hY⟩ : ∃ Y, Y = X * 64 + v := ⟨_, rfl⟩
        rw [← hY] at hor
        have hYl : Y < 16384 := by omega
        have HY := Lib.hid hY
        have e1 : IntKind.u64.wrap ((X : Int) * 64) = (X : Int) * 64 := by rw [IntKind.wrap_u64]; omega
        have hand := and_mask Y 8 (by omega) (Nat.le_refl _)
        rw [show ((2 ^ 8 - 1 : Nat) : Int) = 255 from rfl, show (2 : Nat) ^ 8 = 256 from rfl] at hand
        obtain ⟨Z, hZ⟩ : ∃ Z, Z = Y % 256 := ⟨_, rfl⟩
        rw [← hZ] at hand
        have HZ := Lib.hid hZ
        have hZl : Z < 256 := by omega
        have HSV := Lib.hid hv
        clear hY hZ hv hc0 hc1 HU2 HSX hlt
        obtain ⟨W9, hW9⟩ : ∃ W9, W9 = wr.iterAt it s (pos + 1) := ⟨_, rfl⟩
        have HR9 : Hid ((Kd.int .u8).R 5 W9 w.heap.size (fun j => j ≠ it) (.slice A4 out.length c4) out) := Lib.hid (by rw [hW9]; exact R_iterAt (p0 := 0) HR.out)
        have HI9 : Hid (W9.heap[it]? = some (.stringIter s (pos + 1))) := Lib.hid (by rw [hW9]; exact iterAt_heap wr it s pos _ HI.out)
        have HB9 : Hid (Below w.heap.size w W9) := Lib.hid (by rw [hW9]; exact below_iterAt HB.out HIW.out s _)
        rw [← hW9] at hnx
        clear hW9
        by_cases h8 : 8 ≤ n + 6
        · obtain ⟨m, hm⟩ : ∃ m, n = m + 2 := ⟨n - 2, by omega⟩
          subst hm
          have HU4 : Hid (unL (s.data.toList.drop (pos + 1)) Z m (out ++ [((Y / 2 ^ m % 256 : Nat) : Int)]) = (r1, r2)) := Lib.hid (by
            have h := HU3.out
            rw [if_pos h8, ← HY.out, ← HZ.out] at h
            exact h)
          have n1 : IntKind.i64.wrap (((m + 2 : Nat) : Int) + 6) = ((m + 8 : Nat) : Int) := by rw [IntWalk.i64_in _ (by omega)]; omega
          have n2 : (8 : Int) ≤ ((m + 8 : Nat) : Int) := by omega
          have n3 : IntKind.i64.wrap (((m + 8 : Nat) : Int) - 8) = (m : Int) := by rw [IntWalk.i64_in _ (by omega)]; omega
          have n4 : IntKind.u64.wrap (m : Int) = (m : Int) := by rw [IntKind.wrap_u64]; omega
          have n5 : m < 64 := by omega
          obtain ⟨B, hB⟩ : ∃ B : Nat, B = Y / 2 ^ m % 256 := ⟨_, rfl⟩
          rw [← hB] at HU4
          have n6 : (Y : Int) / 2 ^ m % 256 = (B : Int) := by rw [hB]; simp
          have n7 : IntKind.u8.wrap ((Y : Int) / 2 ^ m) = (B : Int) := by rw [IntKind.wrap_u8]; exact n6
          clear hB
          go_upto_region 14 with (first
            | (go_at_call 56; refine (h6 _).mono ?_; rintro e w' ⟨rfl, hD⟩; have HB5 : Hid (Below w.heap.size w w') := Lib.hid (dr_trans HB9.out hD); have HR5 := Lib.hid (Kd.R_below HR9.out (below_dr hD)); have HI5 : Hid (w'.heap[it]? = some (.stringIter s (pos + 1))) := Lib.hid (((below_dr hD : Below W9.heap.size W9 w').block it (blk_lt HI9.out)).trans HI9.out); clear hD)
            | (at_builtin; refine Kd.R_append (Kd.int .u8) (w0 := w) w.heap.size rfl (.tmp 38) (.tmp 44) 45 5 (.int .u8 0) 1 rfl Tryd.underlying45 info_u8' rfl (by decide) (by decide) _ out (B : Int) [.int .u8 (B : Int)] (fun j => j ≠ it) (fun _ => False) rfl rfl rfl (fun _ h => h.elim) (fun k hk => by have := blk_lt HI5.out; omega) HR5.out HB5.out (below_size' HB5.out) (by omega) ?_; intro v7 w7 hR7 hB7 hg7 _; have HR7 := Lib.hid hR7; have HB7 := Lib.hid hB7; have HI7 : Hid (w7.heap[it]? = some (.stringIter s (pos + 1))) := Lib.hid ((hg7.block it (blk_lt HI5.out) (fun e => (HR5.out).1 it e.symm rfl)).trans HI5.out); clear hR7 hB7 hg7))
          go_wp2_with fail
          go_roundg (gk - 1)
          case measure => have := HLT.out; omega
          case rel => exact ⟨pos + 1, Z, m, out ++ [(B : Int)], by have := HLT.out; omega, rfl, (by first | rfl | exact congrArg (Value.int .i64) (by omega)), hZl, by omega, by rw [List.length_append, List.length_singleton]; omega, HU4.out, HR7.out, HI7.out, HB7.out⟩
        · have HU4 : Hid (unL (s.data.toList.drop (pos + 1)) Z (n + 6) out = (r1, r2)) := Lib.hid (by
            have h := HU3.out
            rw [if_neg h8, ← HY.out, ← HZ.out] at h
            exact h)
          have n1 : IntKind.i64.wrap ((n : Int) + 6) = ((n + 6 : Nat) : Int) := by rw [IntWalk.i64_in _ (by omega)]; omega
          have n2 : ¬ (8 : Int) ≤ ((n + 6 : Nat) : Int) := by omega
          go_wp2_with (go_at_call 56; refine (h6 _).mono ?_; rintro e w' ⟨rfl, hD⟩; have HB5 : Hid (Below w.heap.size w w') := Lib.hid (dr_trans HB9.out hD); have HR5 := Lib.hid (Kd.R_below HR9.out (below_dr hD)); have HI5 : Hid (w'.heap[it]? = some (.stringIter s (pos + 1))) := Lib.hid (((below_dr hD : Below W9.heap.size W9 w').block it (blk_lt HI9.out)).trans HI9.out); clear hD)
          go_roundg (gk - 1)
          case measure => have := HLT.out; omega
          case rel => exact ⟨pos + 1, Z, n + 6, out, by have := HLT.out; omega, rfl, (by first | rfl | exact congrArg (Value.int .i64) (by omega)), hZl, by omega, by omega, HU4.out, HR5.out, HI5.out, HB5.out⟩
    · have hnx := fun ty => run_next_end_at (P := Tryd.prog) wr it s pos ty HI.out hlt
      have hps : pos = s.size := by omega
      have hres : (if n = 6 ∨ X % 2 ^ n ≠ 0 then (([] : List Int), (8 : Int)) else (out, 0)) = (r1, r2) := by
        have h := HU.out
        rw [List.drop_of_length_le (by rw [hps]; simp)] at h
        exact h
      have HRES := Lib.hid hres
      clear hres hps HU
      by_cases h6 : n = 6
      · subst h6
        have hr := HRES.out
        rw [if_pos (.inl rfl)] at hr
        obtain ⟨rfl, rfl⟩ : ([] : List Int) = r1 ∧ (8 : Int) = r2 := ⟨congrArg Prod.fst hr, congrArg Prod.snd hr⟩
        clear hr
        go_wp2_with fail
        go_ret2
        exact ⟨.slice none 0 0, rfl, Kd.R_nil _ _ _ _ _, HB.out⟩
      · have hne : (n : Int) ≠ 6 := by omega
        have n4 : IntKind.u64.wrap (n : Int) = (n : Int) := by rw [IntKind.wrap_u64]; omega
        have n5 : n < 64 := by omega
        have hpw : 2 ^ n ≤ 128 := by
          have : ∀ j : Fin 8, 2 ^ j.val ≤ 128 := by decide
          exact this ⟨n, hn⟩
        have hp1 : 0 < 2 ^ n := Nat.pow_pos (by decide)
        have hand := and_mask X n (by omega) (by omega)
        obtain ⟨P, hP⟩ : ∃ P, P = 2 ^ n := ⟨_, rfl⟩
        rw [← hP] at hand hpw hp1
        have n6 : (2 : Int) ^ n = (P : Int) := by rw [hP]; simp
        have n7 : (P : Int) % 18446744073709551616 = (P : Int) := by omega
        have n7' : IntKind.u64.wrap (P : Int) = (P : Int) := by rw [IntKind.wrap_u64]; omega
        have n8 : IntKind.u64.wrap ((P : Int) - 1) = ((P - 1 : Nat) : Int) := by rw [IntKind.wrap_u64]; omega
        have n9 : ((P : Int) - 1) % 18446744073709551616 = ((P - 1 : Nat) : Int) := by omega
        obtain ⟨Z, hZ⟩ : ∃ Z, Z = X % P := ⟨_, rfl⟩
        rw [← hZ] at hand
        have HZ : Hid (X % 2 ^ n = Z) := Lib.hid (by rw [hZ, hP])
        have HN := Lib.hid h6
        clear hP hZ h6
        by_cases hz : Z = 0
        · subst hz
          have hr := HRES.out
          rw [if_neg (by rw [HZ.out]; exact fun h => h.elim HN.out (fun h => h rfl))] at hr
          obtain ⟨rfl, rfl⟩ : out = r1 ∧ (0 : Int) = r2 := ⟨congrArg Prod.fst hr, congrArg Prod.snd hr⟩
          clear hr
          go_wp2_with fail
          go_ret2
          exact ⟨_, rfl, Kd.R_mono HR.out (fun _ _ => trivial), HB.out⟩
        · have hr := HRES.out
          rw [if_pos (.inr (by rw [HZ.out]; exact hz))] at hr
          obtain ⟨rfl, rfl⟩ : ([] : List Int) = r1 ∧ (8 : Int) = r2 := ⟨congrArg Prod.fst hr, congrArg Prod.snd hr⟩
          clear hr
          have hzi : ((Z : Int) != 0) = true := by simp; omega
          have hzj : ((Z : Int) == 0) = false := by simp; omega
          go_wp2_with fail
          go_ret2
          exact ⟨.slice none 0 0, rfl, Kd.R_nil _ _ _ _ _, HB.out⟩
end Go.Proofs.YtkkomfomjpcbfaaDoor
end
