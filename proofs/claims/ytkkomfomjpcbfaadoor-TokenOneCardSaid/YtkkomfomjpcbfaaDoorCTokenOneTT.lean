import Derived.Test.YtkkomfomjpcbfaaDoorCTokenOneTU
import Derived.Test.YtkkomfomjpcbfaaDoorCTokenOneQ2
import Derived.Test.YtkkomfomjpcbfaaDoorProg
import Derived.Below
import Derived.Deep.Draws
import Derived.Deep.AppendLies
import Derived.Maps.AppendAt
import Derived.OwnWalk
import Derived.Laws.BytesArg
import Derived.Laws.MakeOwn
import Derived.Laws.OwnMore
import Derived.Deep.OwnRows
import Derived.Tactics
import Derived.Lib.ConvBytes
import Derived.Laws.Slices
import Derived.WalkKit
import Derived.KernelRfl
import Derived.RowKit3
import Derived.Deep.LoopGhost
import Derived.Deep.QuietTactic
import Derived.BigQuiet
import Derived.WideLaws
import Derived.Deep.DeepCutAuto
import Derived.Deep.CutBlock
import Derived.Deep.RegionHeld3
import Derived.Laws.Rows
import Derived.Lib.AppendStr
import Derived.ArgAppend
import Derived.Laws.IdiomCopy
import Derived.OrdersHeld
import Derived.Laws.BitsLemmas
import Derived.RowKit
import Derived.Test.YtkkomfomjpcbfaaDoorCTokenOneG1
import Derived.Test.YtkkomfomjpcbfaaDoorCTokenOneWWords
import Derived.Test.YtkkomfomjpcbfaaDoorCTokenOneHA
import Derived.Test.YtkkomfomjpcbfaaDoorCTokenOneH2r
import Derived.Stop.BytesEq
import Derived.Laws.RangeAny
namespace Go.Proofs.YtkkomfomjpcbfaaDoor.Bq
end Go.Proofs.YtkkomfomjpcbfaaDoor.Bq
section
namespace Go.Proofs.YtkkomfomjpcbfaaDoor
open Go Go.RowKit Bq
set_option linter.unusedVariables false
set_option linter.unusedSimpArgs false
def rowV (vs : List Nat) : List Bool := vs.flatMap fun v => nb v 6
theorem rowV_length (vs : List Nat) : (rowV vs).length = 6 * vs.length := by
  induction vs with
  | nil => rfl
  | cons v vs ih => unfold rowV at *; rw [List.flatMap_cons, List.length_append, nb_length, ih, List.length_cons]; omega
theorem rowV_cons (v : Nat) (vs : List Nat) : rowV (v :: vs) = nb v 6 ++ rowV vs := by unfold rowV; rw [List.flatMap_cons]
theorem rowV_append (a b : List Nat) : rowV (a ++ b) = rowV a ++ rowV b := by unfold rowV; rw [List.flatMap_append]
def rest8 (R : List Bool) : List Bool := R.drop (8 * (R.length / 8))
def full8 (R : List Bool) : List Bool := R.take (8 * (R.length / 8))
theorem rest8_length (R : List Bool) : (rest8 R).length = R.length % 8 := by unfold rest8; rw [List.length_drop]; omega
theorem full8_length (R : List Bool) : (full8 R).length = 8 * (R.length / 8) := by unfold full8; rw [List.length_take]; omega
theorem full_rest (R : List Bool) : full8 R ++ rest8 R = R := List.take_append_drop _ _
theorem low_pow (Y m : Nat) (h : m ≤ 8) : Y % 256 % 2 ^ m = Y % 2 ^ m := by
  refine Nat.mod_mod_of_dvd Y ?_
  exact Nat.pow_dvd_pow 2 h
theorem six_more (X v n : Nat) (r : List Bool) (hl : r.length = n) (hx : X % 2 ^ n = bnum r) (hv : v < 64) : (X * 64 + v) % 2 ^ (n + 6) = bnum (r ++ nb v 6) := by
  rw [bnum_append, nb_length, bnum_nb, ← hx]
  have hp : 2 ^ (n + 6) = 2 ^ n * 64 := by rw [Nat.pow_add]
  have hp0 : 0 < 2 ^ n := Nat.pow_pos (by decide)
  rw [hp]
  have h1 := Nat.div_add_mod X (2 ^ n)
  obtain ⟨q, hq⟩ : ∃ q, q = X / 2 ^ n := ⟨_, rfl⟩
  obtain ⟨m, hm⟩ : ∃ m, m = X % 2 ^ n := ⟨_, rfl⟩
  have hmlt : m < 2 ^ n := by rw [hm]; exact Nat.mod_lt _ hp0
  rw [← hq, ← hm] at h1
  rw [← hm]
  have e : X * 64 + v = q * (2 ^ n * 64) + (m * 64 + v) := by
    rw [← h1, Nat.add_mul, Nat.mul_comm (2 ^ n) q, Nat.mul_assoc, Nat.add_assoc]
  rw [e, Nat.add_comm, Nat.add_mul_mod_self_right, Nat.mod_eq_of_lt]
  · have : v % 2 ^ 6 = v := Nat.mod_eq_of_lt hv
    rw [this]
  · have := Nat.mul_le_mul_right 64 (Nat.succ_le_of_lt hmlt)
    rw [Nat.succ_mul] at this
    omega
theorem eight_pick (x m : Nat) (r : List Bool) (hl : r.length = m + 8) (hx : x % 2 ^ (m + 8) = bnum r) : x / 2 ^ m % 256 = bnum (r.take 8) ∧ x % 2 ^ m = bnum (r.drop 8) := by
  have h1 := bnum_append (r.take 8) (r.drop 8)
  rw [List.take_append_drop] at h1
  have hd : (r.drop 8).length = m := by rw [List.length_drop]; omega
  have ht : (r.take 8).length = 8 := by rw [List.length_take]; omega
  rw [hd] at h1
  have h2 := bnum_lt (r.drop 8)
  rw [hd] at h2
  have hp : 2 ^ (m + 8) = 2 ^ m * 256 := by rw [Nat.pow_add]
  have hp0 : 0 < 2 ^ m := Nat.pow_pos (by decide)
  have e1 : x % 2 ^ m = x % 2 ^ (m + 8) % 2 ^ m := by rw [hp, Nat.mod_mul_right_mod]
  have e2 : x / 2 ^ m % 256 = x % 2 ^ (m + 8) / 2 ^ m := by rw [hp, Nat.mod_mul_right_div_self]
  constructor
  · rw [e2, hx, h1, Nat.add_comm, Nat.add_mul_div_right _ _ hp0, Nat.div_eq_of_lt h2, Nat.zero_add]
  · rw [e1, hx, h1, Nat.add_comm, Nat.add_mul_mod_self_right, Nat.mod_eq_of_lt h2]
def unR (R : List Bool) : List Int × Int := if R.length % 8 = 6 ∨ bnum (rest8 R) ≠ 0 then ([], 8) else (packI (full8 R), 0)
theorem packI_append (q : Nat) (a t : List Bool) (h : a.length = 8 * q) : packI (a ++ t) = packI a ++ packI t := by unfold packI; rw [pack_append q a t h, ints_append]
theorem packI_byte (t : List Bool) (h : t.length = 8) : packI t = [((bnum t : Nat) : Int)] := by
  unfold packI
  rw [pack_short t (by intro e; rw [e] at h; simp at h) (by omega)]
  unfold byte8
  rw [h]
  simp [ints]
theorem unL_row : ∀ (l : List UInt8) (vs : List Nat) (R : List Bool) (X n : Nat) (out : List Int), l.map (fun c => sixV (c.toNat : Int)) = vs.map some → n = R.length % 8 → R.length % 2 = 0 → X % 2 ^ n = bnum (rest8 R) → out = packI (full8 R) →
    unL l X n out = unR (R ++ rowV vs)
  | [], vs, R, X, n, out, hl, hn, h2, hX, ho => by
    have hvs : vs = [] := by
      rw [List.map_nil] at hl
      exact List.map_eq_nil_iff.1 hl.symm
    subst hvs
    subst ho
    unfold unL unR
    rw [show rowV [] = [] from rfl, List.append_nil, hX, hn]
  | c :: l, vs, R, X, n, out, hl, hn, h2, hX, ho => by
    rcases vs with _ | ⟨v, vs⟩
    · rw [List.map_cons, List.map_nil] at hl
      cases hl
    · rw [List.map_cons, List.map_cons] at hl
      injection hl with hv hl
      obtain ⟨hv64, _, _⟩ := sixV_lt hv
      unfold unL
      rw [hv]
      simp only
      have hr := rest8_length R
      have hm := six_more X v n (rest8 R) (by rw [hr, hn]) hX hv64
      have hsp : R ++ nb v 6 = full8 R ++ (rest8 R ++ nb v 6) := by rw [← List.append_assoc, full_rest]
      have hfl := full8_length R
      rw [rowV_cons, ← List.append_assoc]
      by_cases h8 : 8 ≤ n + 6
      · rw [if_pos h8]
        have hn8 : n < 8 := by omega
        have hlen : (R ++ nb v 6).length = 8 * (R.length / 8 + 1) + (n - 2) := by rw [List.length_append, nb_length]; omega
        obtain ⟨p1, p2⟩ := eight_pick (X * 64 + v) (n - 2) (rest8 R ++ nb v 6) (by rw [List.length_append, nb_length, hr]; omega) (by rw [show n - 2 + 8 = n + 6 by omega]; exact hm)
        have hf' : full8 (R ++ nb v 6) = full8 R ++ (rest8 R ++ nb v 6).take 8 := by
          have e : (R ++ nb v 6).length / 8 = R.length / 8 + 1 := by rw [hlen]; omega
          unfold full8 at hsp hfl ⊢
          rw [e, hsp, List.take_append, List.take_of_length_le (l := List.take (8 * (R.length / 8)) R) (by omega), hfl]
          congr 2
          omega
        have hr' : rest8 (R ++ nb v 6) = (rest8 R ++ nb v 6).drop 8 := by
          have e : (R ++ nb v 6).length / 8 = R.length / 8 + 1 := by rw [hlen]; omega
          have h9 : rest8 (R ++ nb v 6) = (R ++ nb v 6).drop (8 * (R.length / 8) + 8) := by
            unfold rest8
            rw [e]
            congr 1
          rw [h9, hsp, List.drop_append, List.drop_of_length_le (by omega), hfl]
          simp
        refine unL_row l vs (R ++ nb v 6) _ (n - 2) _ hl (by rw [hlen]; omega) (by rw [hlen]; omega) ?_ ?_
        · rw [low_pow _ _ (by omega), p2, hr']
        · rw [ho, hf', packI_append (R.length / 8) _ _ hfl, packI_byte ((rest8 R ++ nb v 6).take 8) (by rw [List.length_take, List.length_append, nb_length, hr]; omega), p1]
      · rw [if_neg h8]
        have hlen : (R ++ nb v 6).length = 8 * (R.length / 8) + (n + 6) := by rw [List.length_append, nb_length]; omega
        have hf' : full8 (R ++ nb v 6) = full8 R := by
          have e : (R ++ nb v 6).length / 8 = R.length / 8 := by rw [hlen]; omega
          unfold full8 at hsp hfl ⊢
          rw [e, hsp, List.take_append, List.take_of_length_le (l := List.take (8 * (R.length / 8)) R) (by omega), hfl]
          simp
        have hr' : rest8 (R ++ nb v 6) = rest8 R ++ nb v 6 := by
          have e : (R ++ nb v 6).length / 8 = R.length / 8 := by rw [hlen]; omega
          have h9 : rest8 (R ++ nb v 6) = (R ++ nb v 6).drop (8 * (R.length / 8)) := by
            unfold rest8
            rw [e]
          rw [h9, hsp, List.drop_append, List.drop_of_length_le (by omega), hfl]
          simp
        refine unL_row l vs (R ++ nb v 6) _ (n + 6) _ hl (by rw [hlen]; omega) (by rw [hlen]; omega) ?_ ?_
        · rw [low_pow _ _ (by omega), hm, hr']
        · rw [ho, hf']
theorem unL_vals (l : List UInt8) (vs : List Nat) (h : l.map (fun c => sixV (c.toNat : Int)) = vs.map some) : unL l 0 0 [] = unR (rowV vs) := by
  have := unL_row l vs [] 0 0 [] h rfl rfl rfl (by unfold full8; simp [packI, pack_nil, ints])
  rwa [List.nil_append] at this
theorem unL_bad : ∀ (l : List UInt8) (X n : Nat) (out : List Int), (∃ c ∈ l, sixV (c.toNat : Int) = none) → unL l X n out = ([], 8)
  | [], X, n, out, h => by obtain ⟨c, hc, _⟩ := h; cases hc
  | c :: l, X, n, out, h => by
    unfold unL
    cases hv : sixV (c.toNat : Int) with
    | none => rfl
    | some v =>
      have h2 : ∃ c ∈ l, sixV (c.toNat : Int) = none := by
        obtain ⟨d, hd, he⟩ := h
        rcases List.mem_cons.1 hd with rfl | hd
        · rw [hv] at he; cases he
        · exact ⟨d, hd, he⟩
      simp only
      split
      · exact unL_bad l _ _ _ h2
      · exact unL_bad l _ _ _ h2
theorem lett_six : ∀ v : Fin 64, sixV (lett.getD v.val 0) = some v.val ∧ 0 ≤ lett.getD v.val 0 ∧ lett.getD v.val 0 < 128 := by decide
theorem six_lett (c : Int) (v : Nat) (h : sixV c = some v) : lett.getD v 0 = c := by
  have h1 : ∀ k : Fin 128, ∀ v, sixV (k.val : Int) = some v → lett.getD v 0 = (k.val : Int) := by decide
  obtain ⟨_, h2, h3⟩ := sixV_lt h
  obtain ⟨n, rfl⟩ := Int.eq_ofNat_of_zero_le h2
  exact h1 ⟨n, by omega⟩ v h
theorem lett_inj {a b : Nat} (ha : a < 64) (hb : b < 64) (h : lett.getD a 0 = lett.getD b 0) : a = b := by
  have h1 := (lett_six ⟨a, ha⟩).1
  have h2 := (lett_six ⟨b, hb⟩).1
  simp only at h1 h2
  rw [h, h2] at h1
  exact (Option.some.inj h1).symm
theorem arm_row : ∀ vs : List Nat, (∀ v ∈ vs, v < 64) → arm (rowV vs) = vs.map (fun v => lett.getD v 0)
  | [], _ => arm_nil
  | v :: vs, h => by
    have hv := h v List.mem_cons_self
    have hn : nb v 6 ≠ [] := fun e => by have := congrArg List.length e; rw [nb_length] at this; cases this
    rw [rowV_cons, arm_append 1 (nb v 6) _ (by rw [nb_length]), arm_short _ hn (by rw [nb_length]; omega), six1_full _ (nb_length _ _), bnum_nb, Nat.mod_eq_of_lt (by omega : v < 2 ^ 6), arm_row vs (fun u hu => h u (List.mem_cons_of_mem _ hu))]
    rfl
theorem arm_full (R : List Bool) (q : Nat) (hR : R.length = 6 * q) : arm (full8 R) = arm R ↔ ¬ (R.length % 8 = 6 ∨ bnum (rest8 R) ≠ 0) := by
  have hfl := full8_length R
  have hrl := rest8_length R
  by_cases h6 : R.length % 8 = 6
  · refine ⟨fun h => ?_, fun h => absurd (.inl h6) h⟩
    have h1 := congrArg List.length h
    rw [arm_length, arm_length, hfl] at h1
    omega
  · have hcond : (R.length % 8 = 6 ∨ bnum (rest8 R) ≠ 0) ↔ bnum (rest8 R) ≠ 0 := ⟨fun h => h.resolve_left h6, .inr⟩
    rw [hcond]
    by_cases h0 : R.length % 8 = 0
    · have hr : rest8 R = [] := List.eq_nil_of_length_eq_zero (by omega)
      have hf : full8 R = R := by
        have := full_rest R
        rwa [hr, List.append_nil] at this
      rw [hf, hr]
      exact ⟨fun _ h => h rfl, fun _ => rfl⟩
    · obtain ⟨d, hd⟩ : ∃ d, d = 6 * (q - 1) := ⟨_, rfl⟩
      have hq : 0 < q := by omega
      have hdl : (R.take d).length = 6 * (q - 1) := by rw [List.length_take]; omega
      have ht : (full8 R).drop d ++ rest8 R = R.drop d := by
        have h1 : (full8 R ++ rest8 R).drop d = R.drop d := by rw [full_rest]
        rw [← h1, List.drop_append, show d - (full8 R).length = 0 by omega, List.drop_zero]
      have hft : (full8 R).take d = R.take d := by
        have h1 : (full8 R ++ rest8 R).take d = R.take d := by rw [full_rest]
        rw [← h1, List.take_append, show d - (full8 R).length = 0 by omega, List.take_zero, List.append_nil]
      have hfl2 : ((full8 R).drop d).length + (rest8 R).length = 6 := by rw [List.length_drop]; omega
      have e1 : arm (full8 R) = arm (R.take d) ++ [six1 ((full8 R).drop d)] := by
        rw [← arm_short ((full8 R).drop d) (fun e => by have := congrArg List.length e; rw [List.length_drop, List.length_nil] at this; omega) (by omega), ← arm_append (q - 1) _ _ hdl, ← hft, List.take_append_drop]
      have e2 : arm R = arm (R.take d) ++ [six1 (R.drop d)] := by
        rw [← arm_short (R.drop d) (fun e => by have := congrArg List.length e; rw [List.length_drop, List.length_nil] at this; omega) (by rw [List.length_drop]; omega), ← arm_append (q - 1) _ _ hdl, List.take_append_drop]
      have e3 : six1 ((full8 R).drop d) = lett.getD (bnum ((full8 R).drop d) * 2 ^ (rest8 R).length) 0 := by
        unfold six1
        rw [show 6 - ((full8 R).drop d).length = (rest8 R).length by omega]
      have e4 : six1 (R.drop d) = lett.getD (bnum ((full8 R).drop d) * 2 ^ (rest8 R).length + bnum (rest8 R)) 0 := by
        rw [six1_full _ (by rw [List.length_drop]; omega), ← ht, bnum_append]
      have hlt := bnum_lt ((full8 R).drop d ++ rest8 R)
      rw [List.length_append, hfl2, bnum_append] at hlt
      rw [e1, e2, e3, e4]
      constructor
      · intro h hne
        have h1 := List.append_cancel_left h
        injection h1 with h1 _
        have := lett_inj (by omega) (by omega) h1
        omega
      · intro h
        have hz : bnum (rest8 R) = 0 := Classical.byContradiction h
        rw [hz, Nat.add_zero]
theorem armor_pack (T : List Bool) (q : Nat) (h : T.length = 8 * q) : armor (packI T) = arm T := by
  unfold armor
  have h1 : (packI T).length = q := by unfold packI; rw [ints_length, pack_length]; omega
  rw [h1, ← h, bitsOf_pack]
theorem pack_bits (a : List Int) (hb : Byts a) : packI (bitsOf a (8 * a.length)) = a := by
  have hl : (packI (bitsOf a (8 * a.length))).length = a.length := by unfold packI; rw [ints_length, pack_length, bitsOf_length]; omega
  refine bits_ext _ _ hl (byts_packI _) hb (fun i hi => ?_)
  rw [hl] at hi
  rw [bitAt_pack _ _ i (Nat.le_refl _) (by rw [bitsOf_length]; omega), List.getD_eq_getElem?_getD, List.getElem?_eq_getElem (by rw [bitsOf_length]; omega)]
  simp [bitsOf]
theorem arm_vals (l : List Bool) : ∃ vs : List Nat, arm l = vs.map (fun v => lett.getD v 0) ∧ (∀ v ∈ vs, v < 64) ∧ rowV vs = l ++ List.replicate ((6 - l.length % 6) % 6) false := by
  induction hn : l.length using Nat.strongRecOn generalizing l with
  | _ n ih =>
    by_cases h : l = []
    · subst h
      refine ⟨[], arm_nil, (fun v hv => by cases hv), ?_⟩
      subst hn
      rfl
    · have hp := (List.length_pos_iff.2 h)
      by_cases h6 : 6 ≤ l.length
      · obtain ⟨vs, h1, h2, h3⟩ := ih (l.drop 6).length (by rw [List.length_drop]; omega) (l.drop 6) rfl
        have ht : (l.take 6).length = 6 := by rw [List.length_take]; omega
        have hlt := bnum_lt (l.take 6)
        rw [ht] at hlt
        refine ⟨bnum (l.take 6) :: vs, ?_, ?_, ?_⟩
        · rw [arm_cons l h, six1_full _ ht, h1, List.map_cons]
        · intro v hv
          rcases List.mem_cons.1 hv with rfl | hv
          · exact hlt
          · exact h2 v hv
        · have hnb := nb_bnum (l.take 6)
          rw [ht] at hnb
          rw [rowV_cons, h3, hnb, ← List.append_assoc, List.take_append_drop, List.length_drop, hn]
          congr 2
          omega
      · refine ⟨[bnum l * 2 ^ (6 - l.length)], ?_, ?_, ?_⟩
        · rw [arm_short l h (by omega)]
          rfl
        · intro v hv
          rw [List.mem_singleton.1 hv]
          have h1 := bnum_lt l
          have h2 : 2 ^ l.length * 2 ^ (6 - l.length) = 64 := by rw [← Nat.pow_add, show l.length + (6 - l.length) = 6 by omega]
          rw [← h2]
          exact Nat.mul_lt_mul_of_pos_right h1 (Nat.pow_pos (by decide))
        · have hz : ∀ p, bnum (List.replicate p false) = 0 := fun p => by
            induction p with
            | zero => rfl
            | succ p ih =>
              rw [List.replicate_succ', bnum_snoc, ih]
              rfl
          have h1 : bnum (l ++ List.replicate (6 - l.length) false) = bnum l * 2 ^ (6 - l.length) := by rw [bnum_append, hz, List.length_replicate, Nat.add_zero]
          have h2 := nb_bnum (l ++ List.replicate (6 - l.length) false)
          rw [h1, List.length_append, List.length_replicate, show l.length + (6 - l.length) = 6 by omega] at h2
          rw [rowV_cons, h2, show rowV [] = [] from rfl, List.append_nil, ← hn]
          congr 2
          omega
end Go.Proofs.YtkkomfomjpcbfaaDoor
end
section
namespace Go.Proofs.YtkkomfomjpcbfaaDoor
open Go Go.RowKit Go.Lib Go.Proofs.YtkkomfomjpcbfaaDoor.Pu Go.Proofs.YtkkomfomjpcbfaaDoorW.PrintWords Go.Proofs.YtkkomfomjpcbfaaDoorW.PrintLast Go.Proofs.YtkkomfomjpcbfaaDoorW.PrintMore
set_option linter.unusedVariables false
def ptL : List UInt8 → Nat → Int → Option Int
  | [], _, p => some p
  | c :: l, i, p => if c.toNat = 46 then (if 0 ≤ p then none else ptL l (i + 1) (i : Int)) else ptL l (i + 1) p
def Pt (l : List UInt8) (pt : Int) : Prop := pt = -1 ∨ ∃ p : Nat, pt = (p : Int) ∧ p < l.length ∧ (l.getD p 0).toNat = 46
def High (l : List UInt8) : Prop := ∃ h, h < l.length ∧ 128 ≤ (l.getD h 0).toNat
def PInv (l : List UInt8) (pos : Nat) (pt : Int) : Prop := Pt l pt ∧ (High l ∨ ptL (l.drop pos) pos pt = ptL l 0 (-1))
theorem ptL_some : ∀ (l : List UInt8) (i : Nat) (q p : Int), ptL l i q = some p → p = q ∨ ∃ j, j < l.length ∧ (l.getD j 0).toNat = 46 ∧ p = ((i + j : Nat) : Int)
  | [], i, q, p, h => .inl (by unfold ptL at h; exact (Option.some.inj h).symm)
  | c :: l, i, q, p, h => by
    unfold ptL at h
    split at h
    · rename_i hc
      split at h
      · cases h
      · rcases ptL_some l (i + 1) i p h with h1 | ⟨j, h1, h2, h3⟩
        · exact .inr ⟨0, by simp, by simpa using hc, by simpa using h1⟩
        · exact .inr ⟨j + 1, by simp; omega, by simpa using h2, by rw [h3]; omega⟩
    · rcases ptL_some l (i + 1) q p h with h1 | ⟨j, h1, h2, h3⟩
      · exact .inl h1
      · exact .inr ⟨j + 1, by simp; omega, by simpa using h2, by rw [h3]; omega⟩
theorem PInv.start (l : List UInt8) : PInv l 0 (-1) := ⟨.inl rfl, .inr rfl⟩
theorem PInv.high {l : List UInt8} {pos : Nat} {pt : Int} (h : PInv l pos pt) (hl : pos < l.length) (hh : 128 ≤ (l.getD pos 0).toNat) (q : Nat) : PInv l q pt := ⟨h.1, .inl ⟨pos, hl, hh⟩⟩
theorem PInv.other {l : List UInt8} {pos : Nat} {pt : Int} (h : PInv l pos pt) (hl : pos < l.length) (hc : ¬ (l.getD pos 0).toNat = 46) : PInv l (pos + 1) pt := by
  refine ⟨h.1, h.2.imp id (fun h2 => ?_)⟩
  rw [← h2, drop_cons l pos hl]
  conv => rhs; unfold ptL
  rw [if_neg hc]
theorem PInv.dot {l : List UInt8} {pos : Nat} {pt : Int} (h : PInv l pos pt) (hl : pos < l.length) (hc : (l.getD pos 0).toNat = 46) (h0 : pt < 0) : PInv l (pos + 1) (pos : Int) := by
  refine ⟨.inr ⟨pos, rfl, hl, hc⟩, h.2.imp id (fun h2 => ?_)⟩
  rw [← h2, drop_cons l pos hl]
  conv => rhs; unfold ptL
  rw [if_pos hc, if_neg (by omega)]
theorem PInv.two {l : List UInt8} {pos : Nat} {pt : Int} (h : PInv l pos pt) (hl : pos < l.length) (hc : (l.getD pos 0).toNat = 46) (h0 : 0 ≤ pt) : High l ∨ ptL l 0 (-1) = none := by
  refine h.2.imp id (fun h2 => ?_)
  rw [← h2, drop_cons l pos hl]
  unfold ptL
  rw [if_pos hc, if_pos h0]
theorem PInv.last {l : List UInt8} {pos : Nat} {pt : Int} (h : PInv l pos pt) (hl : l.length ≤ pos) : High l ∨ ptL l 0 (-1) = some pt := by
  refine h.2.imp id (fun h2 => ?_)
  rw [← h2, List.drop_of_length_le hl]
  rfl
theorem un_high {l : List UInt8} (h : High l) : (unL l 0 0 []).2 = 8 := by
  obtain ⟨i, hi, hh⟩ := h
  rw [unL_bad l 0 0 [] ⟨l.getD i 0, by rw [List.getD_eq_getElem?_getD, List.getElem?_eq_getElem hi]; exact List.getElem_mem hi, sixV_high (by omega)⟩]
theorem high_parts {s : ByteArray} (h : High (B s)) (p : Nat) (hp : p < (B s).length) (hc : ((B s).getD p 0).toNat = 46) :
    (unL (s.extract 0 p).data.toList 0 0 []).2 = 8 ∨ (unL (s.extract (p + 1) s.size).data.toList 0 0 []).2 = 8 := by
  obtain ⟨i, hi, hh⟩ := h
  have hne : i ≠ p := fun e => by rw [e, hc] at hh; omega
  rcases Nat.lt_or_gt_of_ne hne with hl | hl
  · refine .inl (un_high ⟨i, ?_, ?_⟩)
    · show i < (B (s.extract 0 p)).length
      rw [B_extract, List.drop_zero, List.length_take]
      omega
    · show 128 ≤ ((B (s.extract 0 p)).getD i 0).toNat
      rw [B_extract, List.drop_zero, List.getD_eq_getElem?_getD, List.getElem?_take, if_pos hl, ← List.getD_eq_getElem?_getD]
      exact hh
  · refine .inr (un_high ⟨i - (p + 1), ?_, ?_⟩)
    · show i - (p + 1) < (B (s.extract (p + 1) s.size)).length
      rw [B_extract, List.length_drop, List.length_take, B_length]
      rw [B_length] at hi
      omega
    · show 128 ≤ ((B (s.extract (p + 1) s.size)).getD (i - (p + 1)) 0).toNat
      rw [B_extract, ← B_length, List.take_length, getD_drop, show p + 1 + (i - (p + 1)) = i by omega]
      exact hh
end Go.Proofs.YtkkomfomjpcbfaaDoor
end
section
namespace Go.Proofs.YtkkomfomjpcbfaaDoor.PTS
open Go.RowKit Go.Proofs.YtkkomfomjpcbfaaDoorW.PrintWords Go.Proofs.YtkkomfomjpcbfaaDoorW.PrintLast Go.Proofs.YtkkomfomjpcbfaaDoorW.PrintMore
attribute [local go_sem] max2_int min2_int max_two min_two max_three min_three max_four min_four
set_option linter.unusedVariables false
set_option linter.unusedSimpArgs false
def errW : Option Int → Value
 | none => .nilIface
 | some c => .iface 0 (.int .i64 c)
theorem errW_none : errW none = .nilIface := rfl
theorem errW_some (c : Int) : errW (some c) = .iface 0 (.int .i64 c) := rfl
theorem info5 : (Tryd.prog.info? 5).map (fun i => (i.zero, i.size, i.bytes)) = some (some (.int .u8 0), 1, 1) := by kernel_rfl
def rd_L3 (xs : List (List Int)) (i : Int) : (List Int) := xs.getD i.toNat ([] : List Int)
structure S23 where
 f0 : Int
 f1 : ByteArray
def z23 : S23 := ⟨(0 : Int), (⟨#[]⟩ : ByteArray)⟩
def k23 : Kd S23 := Kd.iso (Kd.pair (Kd.int .i64) Kd.string) (fun x : S23 => (x.f0, x.f1))
theorem k23_open {w : World} {x : S23} {cs : List Value} (h : k23.K w x cs) : cs = [.int .i64 x.f0, .string x.f1] := by
 obtain ⟨_, _, rfl, rfl, rfl⟩ := h
 exact rfl
theorem k23_mkM (w : World) (base : Nat) (ok : Nat → Prop) (x : S23)  : k23.M w base ok x [.int .i64 x.f0, .string x.f1] := ⟨[.int .i64 x.f0], [.string x.f1], rfl, rfl, rfl⟩
structure S26 where
 f0 : ByteArray
 f1 : Int
 f2 : Int
 f3 : Int
 f4 : Int
def k26 : Kd S26 := Kd.iso (Kd.pair Kd.string (Kd.pair (Kd.int .i64) (Kd.pair (Kd.int .i64) (Kd.pair (Kd.int .u8) (Kd.int .u64))))) (fun x : S26 => (x.f0, x.f1, x.f2, x.f3, x.f4))
theorem k26_open {w : World} {x : S26} {cs : List Value} (h : k26.K w x cs) : cs = [.string x.f0, .int .i64 x.f1, .int .i64 x.f2, .int .u8 x.f3, .int .u64 x.f4] := by
 obtain ⟨_, _, rfl, rfl, ⟨_, _, rfl, rfl, ⟨_, _, rfl, rfl, ⟨_, _, rfl, rfl, rfl⟩⟩⟩⟩ := h
 exact rfl
structure S43 where
 f0 : ByteArray
 f1 : S23
def z43 : S43 := ⟨(⟨#[]⟩ : ByteArray), z23⟩
def k43 : Kd S43 := Kd.iso (Kd.pair Kd.string k23) (fun x : S43 => (x.f0, x.f1))
theorem k43_open {w : World} {x : S43} {cs : List Value} (h : k43.K w x cs) : cs = [.string x.f0, .int .i64 x.f1.f0, .string x.f1.f1] := by
 obtain ⟨_, _, rfl, rfl, s1⟩ := h
 obtain rfl := k23_open s1
 exact rfl
theorem k43_mkM (w : World) (base : Nat) (ok : Nat → Prop) (x : S43)  : k43.M w base ok x [.string x.f0, .int .i64 x.f1.f0, .string x.f1.f1] := ⟨[.string x.f0], [.int .i64 x.f1.f0, .string x.f1.f1], rfl, rfl, (k23_mkM w base ok x.f1 )⟩
def rd_T43 (xs : List S43) (i : Int) : S43 := xs.getD i.toNat z43
theorem at_T43 {w : World} {A : Option Addr} {n : Nat} {xs : List S43} (h : Kd.C k43 w A n xs) (i : Int) (h0 : 0 ≤ i) (h1 : i < n) : ∃ ad , A = some ad ∧ w.cell? (ad.add (i.toNat * 3)) = some (.string (rd_T43 xs i).f0) ∧ w.cell? ⟨(ad.add (i.toNat * 3)).block, (ad.add (i.toNat * 3)).off + 1, none⟩ = some (.int .i64 (rd_T43 xs i).f1.f0) ∧ w.cell? ⟨(ad.add (i.toNat * 3)).block, (ad.add (i.toNat * 3)).off + 2, none⟩ = some (.string (rd_T43 xs i).f1.f1) := by
 obtain ⟨ad, c, e, _, hK, hc0⟩ := Kd.C_get h z43 i h0 h1
 have hc : ∀ j u, c[j]? = some u → w.cell? (ad.add (i.toNat * 3 + j)) = some u := hc0
 obtain rfl := k43_open hK
 exact ⟨ad, e, hc 0 _ rfl, by rw [← add_field _ _ 1 (by omega)]; exact hc 1 _ rfl, by rw [← add_field _ _ 2 (by omega)]; exact hc 2 _ rfl⟩
end Go.Proofs.YtkkomfomjpcbfaaDoor.PTS
end
section
namespace Go.Proofs.YtkkomfomjpcbfaaDoor
open Go.RowKit Go.Proofs.YtkkomfomjpcbfaaDoorW.PrintWords Go.Proofs.YtkkomfomjpcbfaaDoorW.PrintMore Go.Proofs.YtkkomfomjpcbfaaDoorW.PrintLast
set_option linter.unusedVariables false
set_option linter.unusedSimpArgs false
attribute [local go_sem ↓] Go.wp_at_zero Go.wp_at_succ
section
variable {ops : Array Oper} {rest : List Oper} {o : Oper} {a : Act} {w : World} {Q : Exit → Act → World → Prop}
end
end Go.Proofs.YtkkomfomjpcbfaaDoor
end
section
namespace Go.Proofs.YtkkomfomjpcbfaaDoor
open Go Go.RowKit Go.Proofs.YtkkomfomjpcbfaaDoorW.PrintWords Go.Proofs.YtkkomfomjpcbfaaDoorW.PrintMore Go.Proofs.YtkkomfomjpcbfaaDoorW.PrintLast Bq
set_option linter.unusedVariables false
set_option linter.unusedSimpArgs false
attribute [local go_sem ↓] Go.wp_at_zero Go.wp_at_succ
end Go.Proofs.YtkkomfomjpcbfaaDoor
end
section
namespace Go.Proofs.YtkkomfomjpcbfaaDoor
open Go Go.RowKit Go.Proofs.YtkkomfomjpcbfaaDoorW.PrintWords Go.Proofs.YtkkomfomjpcbfaaDoorW.PrintMore Go.Proofs.YtkkomfomjpcbfaaDoorW.PrintLast Bq
set_option linter.unusedVariables false
set_option linter.unusedSimpArgs false
attribute [local go_sem ↓] Go.wp_at_zero Go.wp_at_succ
end Go.Proofs.YtkkomfomjpcbfaaDoor
end
section
namespace Go.Proofs.YtkkomfomjpcbfaaDoor
open Go Go.RowKit Go.Proofs.YtkkomfomjpcbfaaDoorW.PrintWords Go.Proofs.YtkkomfomjpcbfaaDoorW.PrintMore Go.Proofs.YtkkomfomjpcbfaaDoorW.PrintLast Bq
set_option linter.unusedVariables false
set_option linter.unusedSimpArgs false
attribute [local go_sem ↓] Go.wp_at_zero Go.wp_at_succ
structure Wst (w wr : World) (L : List Int) : Prop where
  r : Blk wr w.heap.size .u32 99 (List.replicate 64 0)
  o : Blk wr (w.heap.size + 1) .u32 99 L
  b : Below w.heap.size w wr
theorem Wst.size {w wr : World} {L : List Int} (h : Wst w wr L) : w.heap.size + 2 ≤ wr.heap.size := blk_lt h.o
theorem Wst.drew {w wr : World} {L : List Int} (h : Wst w wr L) : Wst w wr.drew L := ⟨h.r, h.o, h.b.drew⟩
theorem Wst.below {w wr w1 : World} {L : List Int} (h : Wst w wr L) (hb : Below wr.heap.size wr w1) : Wst w w1 L :=
  ⟨(hb.block _ (blk_lt h.r)).trans h.r, (hb.block _ (blk_lt h.o)).trans h.o, h.b.trans (below_lower hb (by have := h.size; omega))⟩
theorem Wst.set {w wr : World} {L L' : List Int} (h : Wst w wr L) (i : Nat) (x : Int) (e : L.set i x = L') : Wst w (wr.setCell ⟨w.heap.size + 1, i, none⟩ (.int .u32 x)) L' :=
  ⟨Blk.other h.r (by omega), Blk.cast (Blk.put h.o i x) e, h.b.setCell (p := ⟨w.heap.size + 1, i, none⟩) (Nat.le_succ _) _⟩
end Go.Proofs.YtkkomfomjpcbfaaDoor
end
section
namespace Go.Proofs.YtkkomfomjpcbfaaDoor
open Go Go.RowKit Go.Proofs.YtkkomfomjpcbfaaDoorW.PrintWords Go.Proofs.YtkkomfomjpcbfaaDoorW.PrintMore Go.Proofs.YtkkomfomjpcbfaaDoorW.PrintLast Bq
set_option linter.unusedVariables false
set_option linter.unusedSimpArgs false
attribute [local go_sem ↓] Go.wp_at_zero Go.wp_at_succ
section
variable {ops : Array Oper} {rest : List Oper} {o : Oper} {a : Act} {w : World} {Q : Exit → Act → World → Prop}
end
structure Bst (w wr : World) (kb vb : Nat) (sl vl W : List Int) : Prop where
  s : Blk wr w.heap.size .u32 93 sl
  r : Blk wr (w.heap.size + 1) .u32 93 (List.replicate 8 0)
  k : Blk wr kb .u32 99 Sha.K
  ww : Blk wr (kb + 1) .u32 99 W
  v : Blk wr vb .u32 93 vl
  b : Below w.heap.size w wr
  hk : w.heap.size + 2 ≤ kb
  hv : kb + 2 ≤ vb
theorem Bst.drew {w wr : World} {kb vb : Nat} {sl vl W : List Int} (h : Bst w wr kb vb sl vl W) : Bst w wr.drew kb vb sl vl W := ⟨h.s, h.r, h.k, h.ww, h.v, h.b.drew, h.hk, h.hv⟩
theorem Bst.put {w wr : World} {kb vb : Nat} {sl W : List Int} {st : Sha.V8} (h : Bst w wr kb vb sl st.list W) (V : Sha.V8) : Bst w (put8A wr vb V) kb vb sl V.list W := by
  have h1 := h.hk
  have h2 := h.hv
  have hb : Below w.heap.size w (put8A wr vb V) := by
    have hg : w.heap.size ≤ vb := by omega
    exact ((((((((h.b.setCell (p := ⟨vb, 0, none⟩) hg _).setCell (p := ⟨vb, 1, none⟩) hg _).setCell (p := ⟨vb, 2, none⟩) hg _).setCell (p := ⟨vb, 3, none⟩) hg _).setCell (p := ⟨vb, 4, none⟩) hg _).setCell (p := ⟨vb, 5, none⟩) hg _).setCell (p := ⟨vb, 6, none⟩) hg _).setCell (p := ⟨vb, 7, none⟩) hg _)
  exact ⟨(put8A_far (by omega)).trans h.s, (put8A_far (by omega)).trans h.r, (put8A_far (by omega)).trans h.k, (put8A_far (by omega)).trans h.ww, put8A_blk h.v, hb, h1, h2⟩
theorem Bst.put8 {w wr : World} {kb vb : Nat} {sl W : List Int} {st : Sha.V8} (h : Bst w wr kb vb sl st.list W) (V : Sha.V8) {x0 x1 x2 x3 x4 x5 x6 x7 : Int} (e0 : x0 = V.a) (e1 : x1 = V.b) (e2 : x2 = V.c) (e3 : x3 = V.d) (e4 : x4 = V.e) (e5 : x5 = V.f) (e6 : x6 = V.g) (e7 : x7 = V.h) :
    Bst w ((((((((wr.setCell ⟨vb, 0, none⟩ (.int .u32 x0)).setCell ⟨vb, 1, none⟩ (.int .u32 x1)).setCell ⟨vb, 2, none⟩ (.int .u32 x2)).setCell ⟨vb, 3, none⟩ (.int .u32 x3)).setCell ⟨vb, 4, none⟩ (.int .u32 x4)).setCell ⟨vb, 5, none⟩ (.int .u32 x5)).setCell ⟨vb, 6, none⟩ (.int .u32 x6)).setCell ⟨vb, 7, none⟩ (.int .u32 x7)) kb vb sl V.list W := by
  subst e0 e1 e2 e3 e4 e5 e6 e7
  exact h.put V
end Go.Proofs.YtkkomfomjpcbfaaDoor
end
section
namespace Go.Proofs.YtkkomfomjpcbfaaDoor
open Go Go.RowKit Go.Proofs.YtkkomfomjpcbfaaDoorW.PrintWords Go.Proofs.YtkkomfomjpcbfaaDoorW.PrintMore Go.Proofs.YtkkomfomjpcbfaaDoorW.PrintLast Bq
set_option linter.unusedVariables false
set_option linter.unusedSimpArgs false
attribute [local go_sem ↓] Go.wp_at_zero Go.wp_at_succ
end Go.Proofs.YtkkomfomjpcbfaaDoor
end
section
namespace Go.Proofs.YtkkomfomjpcbfaaDoor
open Go Go.RowKit Go.Proofs.YtkkomfomjpcbfaaDoorW.PrintWords Go.Proofs.YtkkomfomjpcbfaaDoorW.PrintMore Go.Proofs.YtkkomfomjpcbfaaDoorW.PrintLast Bq
set_option linter.unusedVariables false
set_option linter.unusedSimpArgs false
def u8s (xs : List Int) : List UInt8 := xs.map fun x => UInt8.ofNat x.toNat
theorem u8s_cells (xs : List Int) (h : Byts xs) : (u8s xs).map Extern.Stop.cell = nums .u8 xs := by
  unfold u8s nums
  rw [List.map_map]
  apply List.map_congr_left
  intro x hx
  have hb := h x hx
  show Extern.Stop.cell (UInt8.ofNat x.toNat) = Value.int .u8 x
  unfold Extern.Stop.cell
  congr 1
  have : (UInt8.ofNat x.toNat).toNat = x.toNat := by
    rw [UInt8.toNat_ofNat']
    omega
  rw [this]
  show ((x.toNat : Nat) : Int) = x
  omega
theorem u8s_inj : ∀ (xs ys : List Int), Byts xs → Byts ys → u8s xs = u8s ys → xs = ys
  | [], [], _, _, _ => rfl
  | [], _ :: _, _, _, h => by simp [u8s] at h
  | _ :: _, [], _, _, h => by simp [u8s] at h
  | x :: xs, y :: ys, hx, hy, h => by
    have h1 : UInt8.ofNat x.toNat = UInt8.ofNat y.toNat ∧ u8s xs = u8s ys := by simpa [u8s] using h
    have hxb := hx x (List.mem_cons_self ..)
    have hyb := hy y (List.mem_cons_self ..)
    have h2 := congrArg UInt8.toNat h1.1
    rw [UInt8.toNat_ofNat', UInt8.toNat_ofNat'] at h2
    have e : x = y := by omega
    rw [e, u8s_inj xs ys (fun z hz => hx z (List.mem_cons_of_mem _ hz)) (fun z hz => hy z (List.mem_cons_of_mem _ hz)) h1.2]
set_option maxRecDepth 100000 in
theorem arr_eq (W : World) (xs ys : List Int) (hx : xs.length = 32) (hy : ys.length = 32) (hbx : Byts xs) (hby : Byts ys) :
    Sem.run Tryd.prog (Op.equalIn 10000 50 (.agg (nums .u8 xs).toArray) (.agg (nums .u8 ys).toArray)) W = .ok (decide (xs = ys)) W := by
  have hsz : ∀ w : World, (sizeOf 5).run Tryd.prog w = .ok 1 w := by
    intro w
    have e : (Tryd.prog.info? 5).map (·.size) = some 1 := by kernel_rfl
    obtain ⟨i, hi, hs⟩ := Option.map_eq_some_iff.1 e
    simp [sizeOf, typeInfo, hi, hs]
  have h := run_equalIn_bytes (P := Tryd.prog) W 9998 50 5 32 Tryd.underlying50 Tryd.underlying5 hsz (u8s xs) (u8s ys) (by simp [u8s, hx]) (by simp [u8s, hy])
  rw [u8s_cells xs hbx, u8s_cells ys hby] at h
  refine h.trans ?_
  congr 1
  by_cases e : xs = ys
  · subst e
    simp
  · rw [decide_eq_false e]
    have : u8s xs ≠ u8s ys := fun h => e (u8s_inj xs ys hbx hby h)
    simpa using this
end Go.Proofs.YtkkomfomjpcbfaaDoor
end
section
namespace Go.Proofs.YtkkomfomjpcbfaaDoor
open Go Go.RowKit Go.Proofs.YtkkomfomjpcbfaaDoorW.PrintWords Go.Proofs.YtkkomfomjpcbfaaDoorW.PrintMore Go.Proofs.YtkkomfomjpcbfaaDoorW.PrintLast Bq
set_option linter.unusedVariables false
set_option linter.unusedSimpArgs false
attribute [local go_sem ↓] Go.wp_at_zero Go.wp_at_succ
theorem Parts.of {w : World} {A : Option Addr} {t : Nat} {xss : List (List Int)} (h : (Kd.slice 5 (Kd.int .u8)).C w A xss.length xss) : Parts w (fun k => k < w.heap.size) A xss := by
  intro i hi
  obtain ⟨ad, B, c, e, hc, hB⟩ := rows_get h i hi
  exact ⟨ad, B, c, e, World.block_lt_of_cell? w _ hc, hc, Kd.C_F (Kd.heap_int .u8) hB⟩
theorem sum32 (D : List Int) (hDl : D.length = 32) : (∀ W : World, (W.alloc (.cells (nums .u8 (List.replicate 32 0)).toArray 50)).there W.heap.size 0 (nums .u8 D).toArray.size) ∧ (Tryd.prog.info? 50).map (·.size) = some (nums .u8 D).toArray.size := by
  have e : (nums .u8 D).toArray.size = 32 := by rw [List.size_toArray, nums_length, hDl]
  rw [e]
  refine ⟨fun W => ?_, by kernel_rfl⟩
  have k : Blk (W.alloc (.cells (nums .u8 (List.replicate 32 0)).toArray 50)) W.heap.size .u8 50 (List.replicate 32 0) := blk_new W _
  exact k.there
theorem sum32_new (W w : World) (D : List Int) (hDl : D.length = 32) (hB : Below w.heap.size w W) : Blk (putA (W.alloc (.cells (nums .u8 (List.replicate 32 0)).toArray 50)) W.heap.size .u8 D) W.heap.size .u8 50 D ∧ Below w.heap.size w (putA (W.alloc (.cells (nums .u8 (List.replicate 32 0)).toArray 50)) W.heap.size .u8 D) := by
  have a : Blk (W.alloc (.cells (nums .u8 (List.replicate 32 0)).toArray 50)) W.heap.size .u8 50 (List.replicate 32 0) := blk_new W _
  exact ⟨a.putA (k' := .u8) (ys := D) (by rw [hDl]; rfl), putA_below (hB.alloc hB.size _) hB.size⟩
theorem xor_zero (x : Int) (h0 : 0 ≤ x) (h1 : x < 256) : bits .xor .u8 0 x = x := by
  have e : (BitVec.ofInt 8 0 ^^^ BitVec.ofInt 8 x) = BitVec.ofInt 8 x := by simp
  have h := congrArg (fun v : BitVec 8 => IntKind.u8.wrap (v.toNat : Int)) e
  refine Eq.trans (show bits .xor .u8 0 x = IntKind.u8.wrap ((BitVec.ofInt 8 0 ^^^ BitVec.ofInt 8 x).toNat : Int) from rfl) (h.trans ?_)
  simp [IntKind.wrap, IntKind.bits, IntKind.signed, BitVec.toNat_ofInt]
  omega
theorem wrap8 (v : BitVec 8) : IntKind.u8.wrap (v.toNat : Int) = (v.toNat : Int) := by
  rw [IntKind.wrap_u8]
  have := v.isLt
  omega
theorem ofInt8_nat (v : BitVec 8) : BitVec.ofInt 8 (v.toNat : Int) = v := by simp
theorem ofInt8_inj {x y : Int} (hx : 0 ≤ x ∧ x < 256) (hy : 0 ≤ y ∧ y < 256) : BitVec.ofInt 8 x = BitVec.ofInt 8 y ↔ x = y := by
  constructor
  · intro h
    have h2 := congrArg BitVec.toNat h
    rw [BitVec.toNat_ofInt, BitVec.toNat_ofInt] at h2
    omega
  · intro h
    rw [h]
theorem or_xor (s x y : Int) (hs : 0 ≤ s ∧ s < 256) (hx : 0 ≤ x ∧ x < 256) (hy : 0 ≤ y ∧ y < 256) :
    (0 ≤ bits .or .u8 s (bits .xor .u8 x y) ∧ bits .or .u8 s (bits .xor .u8 x y) < 256) ∧ (bits .or .u8 s (bits .xor .u8 x y) = 0 ↔ s = 0 ∧ x = y) := by
  have e1 : bits .xor .u8 x y = ((BitVec.ofInt 8 x ^^^ BitVec.ofInt 8 y).toNat : Int) := wrap8 _
  have e2 : bits .or .u8 s (bits .xor .u8 x y) = ((BitVec.ofInt 8 s ||| (BitVec.ofInt 8 x ^^^ BitVec.ofInt 8 y)).toNat : Int) := by
    rw [e1]
    refine Eq.trans (show bits .or .u8 s ((BitVec.ofInt 8 x ^^^ BitVec.ofInt 8 y).toNat : Int) = IntKind.u8.wrap ((BitVec.ofInt 8 s ||| BitVec.ofInt 8 ((BitVec.ofInt 8 x ^^^ BitVec.ofInt 8 y).toNat : Int)).toNat : Int) from rfl) ?_
    rw [ofInt8_nat, wrap8]
  rw [e2]
  have hlt := (BitVec.ofInt 8 s ||| (BitVec.ofInt 8 x ^^^ BitVec.ofInt 8 y)).isLt
  refine ⟨⟨by omega, by omega⟩, ?_⟩
  have h1 : (((BitVec.ofInt 8 s ||| (BitVec.ofInt 8 x ^^^ BitVec.ofInt 8 y)).toNat : Nat) : Int) = 0 ↔ (BitVec.ofInt 8 s ||| (BitVec.ofInt 8 x ^^^ BitVec.ofInt 8 y)) = 0#8 := by
    constructor
    · intro h
      apply BitVec.eq_of_toNat_eq
      simp only [BitVec.toNat_ofNat]
      omega
    · intro h
      rw [h]
      rfl
  rw [h1, BitVec.or_eq_zero_iff, BitVec.xor_eq_zero_iff, ofInt8_inj hx hy]
  have h2 : BitVec.ofInt 8 s = 0#8 ↔ s = 0 := by
    have h := ofInt8_inj hs (y := 0) (by omega)
    exact h
  rw [h2]
theorem take_next_iff {xs ys : List Int} {k : Nat} (h1 : k < xs.length) (h2 : k < ys.length) : xs.take (k + 1) = ys.take (k + 1) ↔ xs.take k = ys.take k ∧ xs.getD k 0 = ys.getD k 0 := by
  constructor
  · intro h
    constructor
    · have h3 := congrArg (List.take k) h
      rw [List.take_take, List.take_take, Nat.min_eq_left (by omega)] at h3
      exact h3
    · have h3 := congrArg (fun l => l[k]?) h
      simp only [List.getElem?_take, if_pos (Nat.lt_succ_self k)] at h3
      rw [List.getD_eq_getElem?_getD, List.getD_eq_getElem?_getD, h3]
  · intro h
    exact take_next_eq h1 h2 h.1 h.2
theorem hequal_calls (w : World) (A B : Option Addr) (ca cb : Nat) (xs ys : List Int) (hA : (Kd.int .u8).C w A xs.length xs) (hB : (Kd.int .u8).C w B ys.length ys) (hbx : Byts xs) (hby : Byts ys) (hs : xs.length ≤ 1000000000000) (ht : ys.length ≤ 1000000000000) :
    Calls Tryd.prog 39 #[.slice A xs.length ca, .slice B ys.length cb] w fun e w' => e = .returned (.bool (decide (xs = ys))) ∧ Below w.heap.size w w' := by
  have HA := Lib.hid hA
  have HB := Lib.hid hB
  have HBX := Lib.hid hbx
  have HBY := Lib.hid hby
  clear hA hB hbx hby
  by_cases hl : xs.length = ys.length
  · have hne : ((xs.length : Int) != (ys.length : Int)) = false := by simp [hl]
    have HL := Lib.hid hl
    clear hl
    go_enter Tryd.func39, Tryd.ntmps39
    go_wp2
    go_loopg [5, 14] xs.length (fun kq s5 s14 wr => ∃ (k m : Nat) (s : Int), wr = w.drewN m ∧ k + kq = xs.length ∧ s5 = .int .u8 s ∧ s14 = .int .i64 k ∧ Hid (0 ≤ s ∧ s < 256) ∧ Hid (s = 0 ↔ xs.take k = ys.take k))
    case atStart => exact ⟨0, 0, 0, rfl, by omega, rfl, rfl, (by omega : (0 : Int) ≤ 0 ∧ (0 : Int) < 256), (by simp : (0 : Int) = 0 ↔ xs.take 0 = ys.take 0)⟩
    case round =>
      obtain ⟨k, m, s, rfl, hk, rfl, rfl, hs1, htk⟩ := hrel
      by_cases hlt : k < xs.length
      · obtain ⟨ad, hAa, hcell⟩ := C_at_int HA.out k hlt
        obtain ⟨bd, hBb, hcelb⟩ := C_at_int HB.out k (by rw [← HL.out]; exact hlt)
        subst hAa
        subst hBb
        have h2 : k < ys.length := by rw [← HL.out]; exact hlt
        have hki : (k : Int) < (xs.length : Int) := by omega
        have hki2 : (k : Int) < (ys.length : Int) := by omega
        have bx := Byts.get HBX.out k hlt
        have bY := Byts.get HBY.out k h2
        obtain ⟨x, hx⟩ : ∃ x, x = xs.getD k 0 := ⟨_, rfl⟩
        obtain ⟨y, hy⟩ : ∃ y, y = ys.getD k 0 := ⟨_, rfl⟩
        rw [← hx] at hcell bx
        rw [← hy] at hcelb bY
        have hcell1 : (w.drewN m).cell? (ad.add k) = some (.int .u8 x) := hcell
        have hcelb1 : (w.drewN m).cell? (bd.add k) = some (.int .u8 y) := hcelb
        have HX := Lib.hid hx
        have HY := Lib.hid hy
        have H12 := Lib.hid (And.intro hlt h2)
        have HBXY := Lib.hid (And.intro bx bY)
        clear hx hy hlt h2 bx bY
        go_wp2_with fail
        go_region_with (fail)
        all_goals
          go_wp2_with fail
          go_roundg (gk - 1)
          case measure => omega
          case rel =>
            have hr := or_xor s x y hs1.out HBXY.out.1 HBXY.out.2
            refine ⟨k + 1, m + 1, _, rfl, by omega, rfl, by go_num, hr.1, ?_⟩
            show _ = 0 ↔ _
            rw [hr.2, htk.out, take_next_iff H12.out.1 H12.out.2, HX.out, HY.out]
      · have hge : ¬ (k : Int) < (xs.length : Int) := by omega
        have hke : k = xs.length := by omega
        have he : s = 0 ↔ xs = ys := by
          rw [htk.out, hke, List.take_length]
          have := HL.out
          rw [this, List.take_length]
        have HE := Lib.hid he
        clear hlt hke he htk
        go_wp2_with fail
        go_ret
        refine ⟨?_, pw_below_drewN (Below.refl _ _) m⟩
        have hd : decide (xs = ys) = (s == 0) := by
          by_cases h0 : s = 0
          · rw [decide_eq_true (HE.out.1 h0), h0]; rfl
          · rw [decide_eq_false (fun h => h0 (HE.out.2 h))]
            simp [h0]
        rw [hd]
        rfl
  · have hne : ((xs.length : Int) != (ys.length : Int)) = true := by simp; omega
    go_enter Tryd.func39, Tryd.ntmps39
    go_wp2
    go_ret
    exact ⟨by rw [decide_eq_false (fun h => hl (by rw [h]))]; rfl, Below.refl _ _⟩
end Go.Proofs.YtkkomfomjpcbfaaDoor
end
section
namespace Go.Proofs.YtkkomfomjpcbfaaDoor
open Go Go.RowKit Go.Proofs.YtkkomfomjpcbfaaDoorW.PrintWords
set_option linter.unusedVariables false
def fstB (c : Int) : Bool := (decide (97 ≤ c) && decide (c ≤ 122)) || (decide (65 ≤ c) && decide (c ≤ 90)) || (c == 95)
def letB (c : Int) : Bool := fstB c || (decide (48 ≤ c) && decide (c ≤ 57))
theorem letB_high {c : Int} (h : 128 ≤ c) : letB c = false := by
  unfold letB fstB
  have h1 : decide (c ≤ 122) = false := decide_eq_false (by omega)
  have h2 : decide (c ≤ 90) = false := decide_eq_false (by omega)
  have h3 : decide (c ≤ 57) = false := decide_eq_false (by omega)
  have h4 : (c == 95) = false := beq_eq_false_iff_ne.mpr (by omega)
  simp [h1, h2, h3, h4]
def namedB (l : List UInt8) : Bool := !l.isEmpty && decide (l.length ≤ 64) && l.all (fun b => letB b.toNat) && fstB (l.getD 0 0).toNat
theorem namedB_letters {l : List UInt8} (h : namedB l = true) : l ≠ [] ∧ l.length ≤ 64 ∧ (∀ b ∈ l, letB b.toNat = true) ∧ fstB (l.getD 0 0).toNat = true := by
  unfold namedB at h
  simp only [Bool.and_eq_true, List.all_eq_true, decide_eq_true_eq, Bool.not_eq_true', List.isEmpty_eq_false_iff] at h
  exact ⟨h.1.1.1, h.1.1.2, h.1.2, h.2⟩
theorem namedB_no {l : List UInt8} {i : Nat} (hi : i < l.length) (h : letB (l.getD i 0).toNat = false ∨ (i = 0 ∧ fstB (l.getD 0 0).toNat = false)) : namedB l = false := by
  cases hn : namedB l with
  | false => rfl
  | true =>
    exfalso
    obtain ⟨_, _, h1, h2⟩ := namedB_letters hn
    rcases h with h | ⟨_, h⟩
    · have := h1 (l.getD i 0) (by rw [List.getD_eq_getElem?_getD, List.getElem?_eq_getElem hi]; exact List.getElem_mem hi)
      rw [h] at this
      cases this
    · rw [h2] at h
      cases h
theorem namedB_yes {l : List UInt8} (h0 : 0 < l.length) (h1 : l.length ≤ 64) (h2 : ∀ i, i < l.length → letB (l.getD i 0).toNat = true) (h3 : fstB (l.getD 0 0).toNat = true) : namedB l = true := by
  unfold namedB
  simp only [Bool.and_eq_true, List.all_eq_true, decide_eq_true_eq, Bool.not_eq_true', List.isEmpty_eq_false_iff]
  refine ⟨⟨⟨List.length_pos_iff.1 h0, h1⟩, fun b hb => ?_⟩, h3⟩
  obtain ⟨i, hi, rfl⟩ := List.getElem_of_mem hb
  have := h2 i hi
  rwa [List.getD_eq_getElem?_getD, List.getElem?_eq_getElem hi] at this
theorem namedB_long {l : List UInt8} (h : 64 < l.length) : namedB l = false := by
  unfold namedB
  rw [decide_eq_false (by omega)]
  simp
theorem byte_at (s : ByteArray) (i : Nat) (h : i < s.size) : s[i] = s.data.toList.getD i 0 := by
  rw [List.getD_eq_getElem?_getD, List.getElem?_eq_getElem (by rw [data_length]; exact h)]
  simp
  rfl
end Go.Proofs.YtkkomfomjpcbfaaDoor
end
section
namespace Go.Proofs.YtkkomfomjpcbfaaDoor.PLA
open Go.RowKit Go.Proofs.YtkkomfomjpcbfaaDoorW.PrintWords Go.Proofs.YtkkomfomjpcbfaaDoorW.PrintLast Go.Proofs.YtkkomfomjpcbfaaDoorW.PrintMore
attribute [local go_sem] max2_int min2_int max_two min_two max_three min_three max_four min_four
set_option linter.unusedVariables false
set_option linter.unusedSimpArgs false
def errW : Option Int → Value
 | none => .nilIface
 | some c => .iface 0 (.int .i64 c)
theorem errW_none : errW none = .nilIface := rfl
theorem errW_some (c : Int) : errW (some c) = .iface 0 (.int .i64 c) := rfl
end Go.Proofs.YtkkomfomjpcbfaaDoor.PLA
end
section
namespace Go.Proofs.YtkkomfomjpcbfaaDoor.PLA
open Go.RowKit Go.Proofs.YtkkomfomjpcbfaaDoorW.PrintWords Go.Proofs.YtkkomfomjpcbfaaDoorW.PrintLast Go.Proofs.YtkkomfomjpcbfaaDoorW.PrintMore
attribute [local go_sem] max2_int min2_int max_two min_two max_three min_three max_four min_four
set_option linter.unusedVariables false
set_option linter.unusedSimpArgs false
def labels_letter.f (a0 : Int) : Option (Bool × Bool) := if a0 ≥ 97 then (if a0 ≤ 122 then (some (true, true)) else (if a0 ≥ 65 then (if a0 ≤ 90 then (some (true, true)) else (if a0 = 95 then (some (true, (a0 == 95))) else (if a0 ≥ 48 then (some (decide (a0 ≤ 57), (a0 == 95))) else (some (false, (a0 == 95)))))) else (if a0 = 95 then (some (true, (a0 == 95))) else (if a0 ≥ 48 then (some (decide (a0 ≤ 57), (a0 == 95))) else (some (false, (a0 == 95))))))) else (if a0 ≥ 65 then (if a0 ≤ 90 then (some (true, true)) else (if a0 = 95 then (some (true, (a0 == 95))) else (if a0 ≥ 48 then (some (decide (a0 ≤ 57), (a0 == 95))) else (some (false, (a0 == 95)))))) else (if a0 = 95 then (some (true, (a0 == 95))) else (if a0 ≥ 48 then (some (decide (a0 ≤ 57), (a0 == 95))) else (some (false, (a0 == 95))))))
set_option maxHeartbeats 8000000 in
set_option maxRecDepth 100000 in
theorem labels_letter.calls (a0 : Int) (r1 : Bool) (r2 : Bool) (w : World) (h : labels_letter.f a0 = some (r1, r2)) :
  Calls Tryd.prog 54 #[.int .i32 a0] w fun e w' => e = .returned (.tuple #[.bool r1, .bool r2]) ∧ Drawn0 w w' := by
 have H : (if a0 ≥ 97 then (if a0 ≤ 122 then (some (true, true)) else (if a0 ≥ 65 then (if a0 ≤ 90 then (some (true, true)) else (if a0 = 95 then (some (true, (a0 == 95))) else (if a0 ≥ 48 then (some (decide (a0 ≤ 57), (a0 == 95))) else (some (false, (a0 == 95)))))) else (if a0 = 95 then (some (true, (a0 == 95))) else (if a0 ≥ 48 then (some (decide (a0 ≤ 57), (a0 == 95))) else (some (false, (a0 == 95))))))) else (if a0 ≥ 65 then (if a0 ≤ 90 then (some (true, true)) else (if a0 = 95 then (some (true, (a0 == 95))) else (if a0 ≥ 48 then (some (decide (a0 ≤ 57), (a0 == 95))) else (some (false, (a0 == 95)))))) else (if a0 = 95 then (some (true, (a0 == 95))) else (if a0 ≥ 48 then (some (decide (a0 ≤ 57), (a0 == 95))) else (some (false, (a0 == 95))))))) = some (r1, r2) := h
 clear h
 by_cases c2 : a0 ≥ 97
 ·rw [if_pos c2] at H
  have c2b0 : decide (97 ≤ a0) = true := decide_eq_true c2
  clear c2
  by_cases c3 : a0 ≤ 122
  ·rw [if_pos c3] at H
   have c3b0 : decide (a0 ≤ 122) = true := decide_eq_true c3
   clear c3
   simp only [Option.some.injEq, Prod.mk.injEq] at H
   obtain ⟨rfl, rfl⟩ := H
   go_enter Tryd.func54, Tryd.ntmps54
   go_wp2
   go_ret2
   exact ⟨y23_, y11_⟩
  ·rw [if_neg c3] at H
   have c3b0 : decide (a0 ≤ 122) = false := decide_eq_false c3
   clear c3
   by_cases c4 : a0 ≥ 65
   ·rw [if_pos c4] at H
    have c4b0 : decide (65 ≤ a0) = true := decide_eq_true c4
    clear c4
    by_cases c5 : a0 ≤ 90
    ·rw [if_pos c5] at H
     have c5b0 : decide (a0 ≤ 90) = true := decide_eq_true c5
     clear c5
     simp only [Option.some.injEq, Prod.mk.injEq] at H
     obtain ⟨rfl, rfl⟩ := H
     go_enter Tryd.func54, Tryd.ntmps54
     go_wp2
     go_ret2
     exact ⟨y23_, y11_⟩
    ·rw [if_neg c5] at H
     have c5b0 : decide (a0 ≤ 90) = false := decide_eq_false c5
     clear c5
     by_cases c6 : a0 = 95
     ·rw [if_pos c6] at H
      have c6b0 : (a0 == 95) = true := beq_iff_eq.mpr c6
      have c6b1 : (a0 != 95) = false := bne_eq_false_iff_eq.mpr c6
      clear c6
      simp only [Option.some.injEq, Prod.mk.injEq] at H
      obtain ⟨rfl, rfl⟩ := H
      go_enter Tryd.func54, Tryd.ntmps54
      go_wp2
      go_ret2
      exact ⟨y23_, y11_⟩
     ·rw [if_neg c6] at H
      have c6b0 : (a0 == 95) = false := beq_eq_false_iff_ne.mpr c6
      have c6b1 : (a0 != 95) = true := bne_iff_ne.mpr c6
      by_cases c7 : a0 ≥ 48
      ·rw [if_pos c7] at H
       have c7b0 : decide (48 ≤ a0) = true := decide_eq_true c7
       clear c7
       simp only [Option.some.injEq, Prod.mk.injEq] at H
       obtain ⟨rfl, rfl⟩ := H
       go_enter Tryd.func54, Tryd.ntmps54
       go_wp2
       go_ret2
       exact ⟨y23_, y11_⟩
      ·rw [if_neg c7] at H
       have c7b0 : decide (48 ≤ a0) = false := decide_eq_false c7
       clear c7
       simp only [Option.some.injEq, Prod.mk.injEq] at H
       obtain ⟨rfl, rfl⟩ := H
       go_enter Tryd.func54, Tryd.ntmps54
       go_wp2
       go_ret2
       exact ⟨y23_, y11_⟩
   ·rw [if_neg c4] at H
    have c4b0 : decide (65 ≤ a0) = false := decide_eq_false c4
    clear c4
    by_cases c8 : a0 = 95
    ·rw [if_pos c8] at H
     have c8b0 : (a0 == 95) = true := beq_iff_eq.mpr c8
     have c8b1 : (a0 != 95) = false := bne_eq_false_iff_eq.mpr c8
     clear c8
     simp only [Option.some.injEq, Prod.mk.injEq] at H
     obtain ⟨rfl, rfl⟩ := H
     go_enter Tryd.func54, Tryd.ntmps54
     go_wp2
     go_ret2
     exact ⟨y23_, y11_⟩
    ·rw [if_neg c8] at H
     have c8b0 : (a0 == 95) = false := beq_eq_false_iff_ne.mpr c8
     have c8b1 : (a0 != 95) = true := bne_iff_ne.mpr c8
     by_cases c9 : a0 ≥ 48
     ·rw [if_pos c9] at H
      have c9b0 : decide (48 ≤ a0) = true := decide_eq_true c9
      clear c9
      simp only [Option.some.injEq, Prod.mk.injEq] at H
      obtain ⟨rfl, rfl⟩ := H
      go_enter Tryd.func54, Tryd.ntmps54
      go_wp2
      go_ret2
      exact ⟨y23_, y11_⟩
     ·rw [if_neg c9] at H
      have c9b0 : decide (48 ≤ a0) = false := decide_eq_false c9
      clear c9
      simp only [Option.some.injEq, Prod.mk.injEq] at H
      obtain ⟨rfl, rfl⟩ := H
      go_enter Tryd.func54, Tryd.ntmps54
      go_wp2
      go_ret2
      exact ⟨y23_, y11_⟩
 ·rw [if_neg c2] at H
  have c2b0 : decide (97 ≤ a0) = false := decide_eq_false c2
  clear c2
  by_cases c10 : a0 ≥ 65
  ·rw [if_pos c10] at H
   have c10b0 : decide (65 ≤ a0) = true := decide_eq_true c10
   clear c10
   by_cases c11 : a0 ≤ 90
   ·rw [if_pos c11] at H
    have c11b0 : decide (a0 ≤ 90) = true := decide_eq_true c11
    clear c11
    simp only [Option.some.injEq, Prod.mk.injEq] at H
    obtain ⟨rfl, rfl⟩ := H
    go_enter Tryd.func54, Tryd.ntmps54
    go_wp2
    go_ret2
    exact ⟨y23_, y11_⟩
   ·rw [if_neg c11] at H
    have c11b0 : decide (a0 ≤ 90) = false := decide_eq_false c11
    clear c11
    by_cases c12 : a0 = 95
    ·rw [if_pos c12] at H
     have c12b0 : (a0 == 95) = true := beq_iff_eq.mpr c12
     have c12b1 : (a0 != 95) = false := bne_eq_false_iff_eq.mpr c12
     clear c12
     simp only [Option.some.injEq, Prod.mk.injEq] at H
     obtain ⟨rfl, rfl⟩ := H
     go_enter Tryd.func54, Tryd.ntmps54
     go_wp2
     go_ret2
     exact ⟨y23_, y11_⟩
    ·rw [if_neg c12] at H
     have c12b0 : (a0 == 95) = false := beq_eq_false_iff_ne.mpr c12
     have c12b1 : (a0 != 95) = true := bne_iff_ne.mpr c12
     by_cases c13 : a0 ≥ 48
     ·rw [if_pos c13] at H
      have c13b0 : decide (48 ≤ a0) = true := decide_eq_true c13
      clear c13
      simp only [Option.some.injEq, Prod.mk.injEq] at H
      obtain ⟨rfl, rfl⟩ := H
      go_enter Tryd.func54, Tryd.ntmps54
      go_wp2
      go_ret2
      exact ⟨y23_, y11_⟩
     ·rw [if_neg c13] at H
      have c13b0 : decide (48 ≤ a0) = false := decide_eq_false c13
      clear c13
      simp only [Option.some.injEq, Prod.mk.injEq] at H
      obtain ⟨rfl, rfl⟩ := H
      go_enter Tryd.func54, Tryd.ntmps54
      go_wp2
      go_ret2
      exact ⟨y23_, y11_⟩
  ·rw [if_neg c10] at H
   have c10b0 : decide (65 ≤ a0) = false := decide_eq_false c10
   clear c10
   by_cases c14 : a0 = 95
   ·rw [if_pos c14] at H
    have c14b0 : (a0 == 95) = true := beq_iff_eq.mpr c14
    have c14b1 : (a0 != 95) = false := bne_eq_false_iff_eq.mpr c14
    clear c14
    simp only [Option.some.injEq, Prod.mk.injEq] at H
    obtain ⟨rfl, rfl⟩ := H
    go_enter Tryd.func54, Tryd.ntmps54
    go_wp2
    go_ret2
    exact ⟨y23_, y11_⟩
   ·rw [if_neg c14] at H
    have c14b0 : (a0 == 95) = false := beq_eq_false_iff_ne.mpr c14
    have c14b1 : (a0 != 95) = true := bne_iff_ne.mpr c14
    by_cases c15 : a0 ≥ 48
    ·rw [if_pos c15] at H
     have c15b0 : decide (48 ≤ a0) = true := decide_eq_true c15
     clear c15
     simp only [Option.some.injEq, Prod.mk.injEq] at H
     obtain ⟨rfl, rfl⟩ := H
     go_enter Tryd.func54, Tryd.ntmps54
     go_wp2
     go_ret2
     exact ⟨y23_, y11_⟩
    ·rw [if_neg c15] at H
     have c15b0 : decide (48 ≤ a0) = false := decide_eq_false c15
     clear c15
     simp only [Option.some.injEq, Prod.mk.injEq] at H
     obtain ⟨rfl, rfl⟩ := H
     go_enter Tryd.func54, Tryd.ntmps54
     go_wp2
     go_ret2
     exact ⟨y23_, y11_⟩
end Go.Proofs.YtkkomfomjpcbfaaDoor.PLA
end
section
namespace Go.Proofs.YtkkomfomjpcbfaaDoor
open Go Go.RowKit Go.Proofs.YtkkomfomjpcbfaaDoorW.PrintWords Go.Proofs.YtkkomfomjpcbfaaDoorW.PrintLast Go.Proofs.YtkkomfomjpcbfaaDoorW.PrintMore
set_option linter.unusedVariables false
set_option linter.unusedSimpArgs false
theorem letter_f (c : Int) : PLA.labels_letter.f c = some (letB c, fstB c) := by
  unfold PLA.labels_letter.f letB fstB
  repeat' split
  all_goals simp only [Option.some.injEq, Prod.mk.injEq]
  all_goals (constructor <;> (rw [Bool.eq_iff_iff]; simp; omega))
theorem letter_calls (c : Int) (w : World) : Calls Tryd.prog 54 #[.int .i32 c] w fun e w' => e = .returned (.tuple #[.bool (letB c), .bool (fstB c)]) ∧ Drawn0 w w' :=
  PLA.labels_letter.calls c _ _ w (letter_f c)
set_option maxHeartbeats 4000000 in
theorem named_calls (s : ByteArray) (w : World) (hs : s.size ≤ 9223372036854775807) :
    Calls Tryd.prog 31 #[.string s] w fun e w' => e = .returned (.bool (namedB s.data.toList)) ∧ Below w.heap.size w w' := by
  by_cases he : s.size = 0
  · have h0 : s.data.toList = [] := List.eq_nil_of_length_eq_zero (by rw [data_length]; exact he)
    have hn : namedB s.data.toList = false := by rw [h0]; rfl
    rw [hn]
    have h2 : s.toList = [] := by rw [ByteArray.toList_eq]; exact h0
    have h1 : (s.toList == ([] : List UInt8)) = true := beq_iff_eq.mpr h2
    clear h0 h2
    clear hn he
    go_enter Tryd.func31, Tryd.ntmps31
    go_wp2
    go_ret
    exact ⟨rfl, Below.refl _ _⟩
  · by_cases hl : 64 < s.size
    · have hn : namedB s.data.toList = false := namedB_long (by rw [data_length]; exact hl)
      rw [hn]
      have h1 : s.toList.isEmpty = false := by
        cases h : s.toList.isEmpty with
        | false => rfl
        | true => exact absurd (by rw [← data_length, ← ByteArray.toList_eq, List.isEmpty_iff.1 h]; rfl) he
      have h4 : (s.toList == ([] : List UInt8)) = false := beq_eq_false_iff_ne.mpr (fun h => by rw [h] at h1; cases h1)
      have h5 : (s.toList != ([] : List UInt8)) = true := bne_iff_ne.mpr (fun h => by rw [h] at h1; cases h1)
      clear h1
      have h2 : decide (64 < (s.size : Int)) = true := decide_eq_true (by omega)
      have h3 : decide (64 < s.size) = true := decide_eq_true hl
      clear hn he
      go_enter Tryd.func31, Tryd.ntmps31
      go_wp2
      go_ret
      exact ⟨rfl, Below.refl _ _⟩
    · have h1 : s.toList.isEmpty = false := by
        cases h : s.toList.isEmpty with
        | false => rfl
        | true => exact absurd (by rw [← data_length, ← ByteArray.toList_eq, List.isEmpty_iff.1 h]; rfl) he
      have h4 : (s.toList == ([] : List UInt8)) = false := beq_eq_false_iff_ne.mpr (fun h => by rw [h] at h1; cases h1)
      have h5 : (s.toList != ([] : List UInt8)) = true := bne_iff_ne.mpr (fun h => by rw [h] at h1; cases h1)
      clear h1
      have h2 : decide (64 < (s.size : Int)) = false := decide_eq_false (by omega)
      have h3 : decide (64 < s.size) = false := decide_eq_false hl
      have HE := Lib.hid he
      have HL := Lib.hid hl
      clear he hl
      obtain ⟨R, hR⟩ : ∃ R, R = namedB s.data.toList := ⟨_, rfl⟩
      rw [← hR]
      have HR := Lib.hid hR
      clear hR
      go_enter Tryd.func31, Tryd.ntmps31
      go_wp2
      go_loopg [] s.size (fun kq wr => ∃ pos m, pos + kq = s.size ∧ wr = (w.iter s pos).drewN m ∧ Hid (∀ i, i < pos → letB (s.data.toList.getD i 0).toNat = true) ∧ Hid (0 < pos → fstB (s.data.toList.getD 0 0).toNat = true))
      case atStart => exact ⟨0, 0, by omega, rfl, (fun i hi => absurd hi (Nat.not_lt_zero _) : ∀ i, i < 0 → letB (s.data.toList.getD i 0).toNat = true), (fun h => absurd h (Nat.lt_irrefl 0) : 0 < 0 → fstB (s.data.toList.getD 0 0).toNat = true)⟩
      case round =>
        obtain ⟨pos, m, hk, rfl, hA, hF⟩ := hrel
        have hbel : ∀ pos m, Below w.heap.size w ((w.iter s pos).drewN m) := fun pos m => pw_below_drewN ((Below.refl _ w).alloc (Nat.le_refl _) _) m
        have HBEL := Lib.hid hbel
        clear hbel
        by_cases hlt : pos < s.size
        · have hb := byte_at s pos hlt
          by_cases hasc : (s[pos]'hlt).toNat < 128
          · obtain ⟨c, hc⟩ : ∃ c : Int, c = (s[pos].toNat : Int) := ⟨_, rfl⟩
            have hnx : ∀ ty, (Instr.next (.pointer (some ⟨w.heap.size, 0, none⟩)) true ty).run Tryd.prog ((w.iter s pos).drewN m) = .ok (.tuple #[.bool true, .int .i64 pos, .int .i32 c]) ((w.iter s (pos + 1)).drewN m) := fun ty => by
              rw [hc]
              exact run_next_ascii (P := Tryd.prog) (w.drewN m) s pos ty hlt hasc
            have hcl : c = ((s.data.toList.getD pos 0).toNat : Int) := by rw [hc, hb]
            have HC := Lib.hid hcl
            have HLT := Lib.hid hlt
            clear hc hcl hb hasc
            cases hl1 : letB c with
            | false =>
              have hRf : R = false := by rw [HR.out]; exact namedB_no (i := pos) (by rw [data_length]; exact HLT.out) (.inl (by rw [← HC.out]; exact hl1))
              subst hRf
              go_wp2_with (go_at_call 54; refine (letter_calls c _).mono ?_; rintro e w' ⟨rfl, ⟨nd, rfl⟩⟩)
              go_ret
              exact ⟨rfl, HBEL.out _ _⟩
            | true =>
              have hA2 : Hid (∀ i, i < pos + 1 → letB (s.data.toList.getD i 0).toNat = true) := Lib.hid (fun i hi => by
                rcases Nat.lt_succ_iff_lt_or_eq.1 hi with h | rfl
                · exact hA.out i h
                · rw [← HC.out]; exact hl1)
              cases hf1 : fstB c with
              | false =>
                by_cases hp : pos = 0
                · have hRf : R = false := by rw [HR.out]; exact namedB_no (i := pos) (by rw [data_length]; exact HLT.out) (.inr ⟨hp, by rw [← hp, ← HC.out]; exact hf1⟩)
                  subst hRf
                  have hp1 : ((pos : Int) == 0) = true := by simp [hp]
                  clear hp
                  go_wp2_with (go_at_call 54; refine (letter_calls c _).mono ?_; rintro e w' ⟨rfl, ⟨nd, rfl⟩⟩)
                  go_ret
                  exact ⟨rfl, HBEL.out _ _⟩
                · have hp1 : ((pos : Int) == 0) = false := by simp; omega
                  have hF2 : Hid (0 < pos + 1 → fstB (s.data.toList.getD 0 0).toNat = true) := Lib.hid (fun _ => hF.out (by omega))
                  clear hp
                  go_wp2_with (go_at_call 54; refine (letter_calls c _).mono ?_; rintro e w' ⟨rfl, ⟨nd, rfl⟩⟩)
                  go_roundg (gk - 1)
                  case measure => have := HLT.out; omega
                  case rel => exact ⟨pos + 1, m + nd, by have := HLT.out; omega, by first | rfl | exact World.drewN_drewN _ _ _, hA2, hF2⟩
              | true =>
                have hF2 : Hid (0 < pos + 1 → fstB (s.data.toList.getD 0 0).toNat = true) := Lib.hid (fun _ => by
                  by_cases hp : pos = 0
                  · rw [← hf1, HC.out, hp]
                  · exact hF.out (by omega))
                by_cases hp : pos = 0
                · have hp1 : ((pos : Int) == 0) = true := by simp [hp]
                  clear hp
                  go_wp2_with (go_at_call 54; refine (letter_calls c _).mono ?_; rintro e w' ⟨rfl, ⟨nd, rfl⟩⟩)
                  go_roundg (gk - 1)
                  case measure => have := HLT.out; omega
                  case rel => exact ⟨pos + 1, m + nd, by have := HLT.out; omega, by first | rfl | exact World.drewN_drewN _ _ _, hA2, hF2⟩
                · have hp1 : ((pos : Int) == 0) = false := by simp; omega
                  clear hp
                  go_wp2_with (go_at_call 54; refine (letter_calls c _).mono ?_; rintro e w' ⟨rfl, ⟨nd, rfl⟩⟩)
                  go_roundg (gk - 1)
                  case measure => have := HLT.out; omega
                  case rel => exact ⟨pos + 1, m + nd, by have := HLT.out; omega, by first | rfl | exact World.drewN_drewN _ _ _, hA2, hF2⟩
          · have hd := (decode_high s pos hlt (by omega)).1
            have hnx : ∀ ty, (Instr.next (.pointer (some ⟨w.heap.size, 0, none⟩)) true ty).run Tryd.prog ((w.iter s pos).drewN m) = .ok (.tuple #[.bool true, .int .i64 pos, .int .i32 (Utf8.decode s pos).1]) ((w.iter s (pos + (Utf8.decode s pos).2)).drewN m) := fun ty => run_next_any (P := Tryd.prog) (w.drewN m) s pos ty hlt
            obtain ⟨c, hc⟩ : ∃ c : Int, c = ((Utf8.decode s pos).1 : Int) := ⟨_, rfl⟩
            obtain ⟨p2, hp2⟩ : ∃ p2, p2 = pos + (Utf8.decode s pos).2 := ⟨_, rfl⟩
            rw [← hc, ← hp2] at hnx
            have hl1 : letB c = false := letB_high (by omega)
            have hRf : R = false := by
              rw [HR.out]
              refine namedB_no (i := pos) (by rw [data_length]; exact hlt) (.inl (letB_high ?_))
              rw [← hb]
              omega
            subst hRf
            clear hc hp2 hd hb hasc
            go_wp2_with (go_at_call 54; refine (letter_calls c _).mono ?_; rintro e w' ⟨rfl, ⟨nd, rfl⟩⟩)
            go_ret
            exact ⟨rfl, HBEL.out _ _⟩
        · have hnx : ∀ ty, (Instr.next (.pointer (some ⟨w.heap.size, 0, none⟩)) true ty).run Tryd.prog ((w.iter s pos).drewN m) = .ok (.tuple #[.bool false]) ((w.iter s pos).drewN m) := fun ty => run_next_end (P := Tryd.prog) (w.drewN m) s pos ty hlt
          have hRt : R = true := by
            have hl := data_length s
            have h0 := HE.out
            have hL := HL.out
            rw [HR.out]
            exact namedB_yes (by omega) (by omega) (fun i hi => hA.out i (by omega)) (hF.out (by omega))
          subst hRt
          clear hlt
          go_wp2
          go_ret
          exact ⟨rfl, HBEL.out _ _⟩
end Go.Proofs.YtkkomfomjpcbfaaDoor
end
section
namespace Go.Proofs.YtkkomfomjpcbfaaDoor
open Go Go.RowKit
set_option linter.unusedVariables false
def Tab (w : World) : Prop := ∀ i, i < 64 → w.cell? ⟨0, i, none⟩ = some (.int .u32 (Sha.K.getD i 0))
theorem Tab_below {w w1 : World} (h : Tab w) (hb : Below w.heap.size w w1) : Tab w1 := fun i hi => (hb.cell (World.block_lt_of_cell? w _ (h i hi))).trans (h i hi)
end Go.Proofs.YtkkomfomjpcbfaaDoor
end
