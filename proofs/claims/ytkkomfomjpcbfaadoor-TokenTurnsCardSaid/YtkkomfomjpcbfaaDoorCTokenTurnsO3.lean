import Derived.Test.YtkkomfomjpcbfaaDoorCTokenTurnsPTSx18
import Derived.Test.YtkkomfomjpcbfaaDoorCTokenTurnsPTSx19
import Derived.Test.YtkkomfomjpcbfaaDoorCTokenTurnsQ
import Derived.Lib.LaidU8
import Derived.LaidMore
import Derived.Test.YtkkomfomjpcbfaaDoorCTokenTurnsTT
import Derived.Test.YtkkomfomjpcbfaaDoorRows
namespace Go.Proofs.YtkkomfomjpcbfaaDoor.Bq
end Go.Proofs.YtkkomfomjpcbfaaDoor.Bq
section
namespace Go.Proofs.YtkkomfomjpcbfaaDoor.Pu
open Go Go.RowKit Go.Lib Go.Proofs.YtkkomfomjpcbfaaDoor Go.Proofs.YtkkomfomjpcbfaaDoor.PTS Go.Proofs.YtkkomfomjpcbfaaDoorW.PrintWords Go.Proofs.YtkkomfomjpcbfaaDoorW.PrintLast Go.Proofs.YtkkomfomjpcbfaaDoorW.PrintMore Bq
set_option linter.unusedVariables false
set_option linter.unusedSimpArgs false
theorem nil_toList : ((⟨#[]⟩ : ByteArray).toList == ([] : List UInt8)) = true := by rw [toList_B]; rfl
theorem find_filter (tn : ByteArray) (key : Int) : ∀ (l : List Own) (e : Int), findK tn key (l.filter fun x => decide (x.f0.toList = tn.toList)) e = findK tn key l e
  | [], e => rfl
  | x :: l, e => by
    by_cases h : x.f0.toList = tn.toList
    · rw [List.filter_cons_of_pos (by simpa using h)]
      unfold findK
      rw [if_pos h]
      split
      · rfl
      · exact find_filter tn key l 181
    · rw [List.filter_cons_of_neg (by simpa using h), find_filter tn key l e]
      conv => rhs; unfold findK
      rw [if_neg h]
theorem filter_next (l : List Own) (p : Own → Bool) (n : Nat) (h : n < l.length) : (l.take (n + 1)).filter p = (l.take n).filter p ++ (if p (l.getD n z43) = true then [l.getD n z43] else []) := by
  rw [List.take_succ_eq_append_getElem h, List.filter_append]
  have e : l[n] = l.getD n z43 := by rw [List.getD_eq_getElem?_getD, List.getElem?_eq_getElem h]; rfl
  rw [e]
  congr 1
  split
  · rename_i hp
    rw [List.filter_cons_of_pos hp]
    rfl
  · rename_i hp
    rw [List.filter_cons_of_neg hp]
    rfl
theorem need_less {sc need less : Int} (h : needB sc need = true) : needB sc (Go.bits .and .u8 need less) = true := by
  rw [← need_both] at h ⊢
  rw [andNot_v, and_v need, ofInt8_nat] at h
  rw [andNot_v, and_v, and_v need less, ofInt8_nat, ofInt8_nat]
  have h2 : (BitVec.ofInt 8 need &&& BitVec.ofInt 8 7) &&& ~~~ BitVec.ofInt 8 sc = 0#8 := by
    apply BitVec.eq_of_toNat_eq
    simp only [BitVec.toNat_ofNat]
    omega
  have h3 : ((BitVec.ofInt 8 need &&& BitVec.ofInt 8 less) &&& BitVec.ofInt 8 7) &&& ~~~ BitVec.ofInt 8 sc = 0#8 := by
    apply BitVec.eq_of_getLsbD_eq
    intro i hi
    have h4 := congrArg (fun v => BitVec.getLsbD v i) h2
    simp only [BitVec.getLsbD_and, BitVec.getLsbD_not, BitVec.getLsbD_zero, hi, decide_true, Bool.true_and] at h4 ⊢
    cases a : (BitVec.ofInt 8 need).getLsbD i <;> cases b : (BitVec.ofInt 8 less).getLsbD i <;> cases c : (BitVec.ofInt 8 7).getLsbD i <;> cases d : (BitVec.ofInt 8 sc).getLsbD i <;> simp_all
  rw [h3]
  rfl
theorem ver_turn {s : ByteArray} {keys : List Own} {now ahead need less : Int} (h : (verB s keys now need).2.2.2.2.2 = 0) (ha : ahead ≤ now) : verB s keys ahead (Go.bits .and .u8 need less) = verB s keys now need := by
  unfold verB at h ⊢
  cases hr : readB s with
  | none => rfl
  | some c =>
    rw [hr] at h
    simp only at h ⊢
    cases hf : findK c.1 c.2.1 keys 180 with
    | mk o e =>
      rw [hf] at h
      cases o with
      | none => rfl
      | some k =>
        unfold afterK at h ⊢
        simp only at h ⊢
        unfold endB at h ⊢
        cases hg : signedB s k.f0 k.f1 with
        | false =>
          rfl
        | true =>
          rw [hg] at h
          simp only [if_pos trivial] at h ⊢
          by_cases h1 : now ≥ c.2.2.1
          · rw [if_pos h1] at h
            cases h
          · rw [if_neg h1] at h ⊢
            rw [if_neg (show ¬ ahead ≥ c.2.2.1 by omega)]
            by_cases h2 : needB c.2.2.2.1 need = true
            · rw [if_pos h2, if_pos (need_less h2)]
            · rw [if_neg h2] at h
              cases h
theorem ver_zero {s : ByteArray} {keys : List Own} {now need : Int} (h : ¬ (verB s keys now need).2.2.2.2.2 = 0) : ∃ e, verB s keys now need = badE e := by
  unfold verB at h ⊢
  cases hr : readB s with
  | none => exact ⟨8, rfl⟩
  | some c =>
    rw [hr] at h
    simp only at h ⊢
    cases hf : findK c.1 c.2.1 keys 180 with
    | mk o e =>
      rw [hf] at h
      cases o with
      | none => exact ⟨e, rfl⟩
      | some k =>
        unfold afterK at h ⊢
        simp only at h ⊢
        unfold endB at h ⊢
        cases hg : signedB s k.f0 k.f1 with
        | false => exact ⟨170, rfl⟩
        | true =>
          rw [hg] at h
          simp only [if_pos trivial] at h ⊢
          by_cases h1 : now ≥ c.2.2.1
          · rw [if_pos h1]; exact ⟨171, rfl⟩
          · rw [if_neg h1] at h ⊢
            by_cases h2 : needB c.2.2.2.1 need = true
            · rw [if_pos h2] at h
              exact absurd rfl h
            · rw [if_neg h2]; exact ⟨172, rfl⟩
theorem Turns_j2 (s : ByteArray) (hs : s.size ≤ 100000) (keys : List Own) (hk : keys.length ≤ 100) (now ahead need less : Int) (v : Clm) (hv : v = verB s keys now need) :
    Ev (fun k => manometerlaw17_TokenTurns.j2 k s keys now ahead need less v.2.2.2.2.2 false v.1 v.2.1 v.2.2.1 v.2.2.2.1 v.2.2.2.2.1) true := by
  refine Ev.step (f := _) (fun k => by simp only [manometerlaw17_TokenTurns.j2]; rfl) ?_
  simp only [Bool.false_eq_true, if_false]
  by_cases h0 : v.2.2.2.2.2 = 0
  · simp only [if_pos h0]
    refine Ev.ite (fun _ => Ev.now _) (fun h1 => ?_)
    refine Ev.bind (Verify_ev s hs keys (by omega) ahead _) ?_
    rw [ver_turn (by rw [← hv]; exact h0) (by omega), ← hv]
    simp only [if_pos h0, beq_self_eq_true, Bool.and_self]
    exact Ev.now _
  · simp only [if_neg h0]
    obtain ⟨e, he⟩ := ver_zero (by rw [← hv]; exact h0)
    rw [hv, he]
    simp only [badE, nil_toList, beq_self_eq_true, Bool.and_self]
    exact Ev.now _
theorem Turns_end (s : ByteArray) (hs : s.size ≤ 100000) (keys mine : List Own) (hk : keys.length ≤ 100) (hm : mine.length ≤ 100) (now ahead need less : Int) (v : Clm) (hv : v = verB s keys now need) (hq : verB s mine now need = v) :
    Ev (fun k => (token_Verify.f k s mine now need).bind fun bt531 => (if (!(v.1.toList == bt531.1.toList) || (!(v.2.1 == bt531.2.1) || (!(v.2.2.1 == bt531.2.2.1) || (!(v.2.2.2.1 == bt531.2.2.2.1) || (!(v.2.2.2.2.1 == bt531.2.2.2.2.1)))))) = true then (manometerlaw17_TokenTurns.j2 k s keys now ahead need less v.2.2.2.2.2 true v.1 v.2.1 v.2.2.1 v.2.2.2.1 v.2.2.2.2.1) else (manometerlaw17_TokenTurns.j2 k s keys now ahead need less v.2.2.2.2.2 (v.2.2.2.2.2 != bt531.2.2.2.2.2) v.1 v.2.1 v.2.2.1 v.2.2.2.1 v.2.2.2.2.1))) true := by
  refine Ev.bind (Verify_ev s hs mine (by omega) now need) ?_
  rw [hq]
  simp only [beq_self_eq_true, Bool.not_true, Bool.or_self, Bool.false_eq_true, if_false, bne_self_eq_false]
  exact Turns_j2 s hs keys hk now ahead need less v hv
theorem Turns_l0 (s : ByteArray) (hs : s.size ≤ 100000) (keys : List Own) (hk : keys.length ≤ 20) (now ahead need less : Int) (v : Clm) (hv : v = verB s keys now need) (r : Clm) (p : Own → Bool) (hp : ∀ x : Own, p x = true ↔ (r.2.2.2.2.2 = 0 ∧ x.f0.toList = r.1.toList)) (hq : verB s (keys.filter p) now need = v) : ∀ (d n : Nat), n + d = keys.length →
    Ev (fun k => manometerlaw17_TokenTurns.l0 k s keys now ahead need less v.2.2.2.2.2 ((keys.take n).filter p) r.2.2.2.2.2 keys (keys.length : Int) (n : Int) v.1 v.2.1 v.2.2.1 v.2.2.2.1 v.2.2.2.2.1 r.1 r.2.1 r.2.2.1 r.2.2.2.1 r.2.2.2.2.1) true := by
  intro d
  induction d with
  | zero =>
    intro n hn
    refine Ev.step (f := _) (fun k => by simp only [manometerlaw17_TokenTurns.l0]; rfl) ?_
    simp only [if_neg (show ¬ ((n : Int) < (keys.length : Int)) by omega)]
    rw [List.take_of_length_le (show keys.length ≤ n by omega)]
    exact Turns_end s hs keys (keys.filter p) (by omega) (by have := List.length_filter_le p keys; omega) now ahead need less v hv hq
  | succ d ih =>
    intro n hn
    have hlt : n < keys.length := by omega
    have e1 : wrap64 ((n : Int) + 1) = ((n + 1 : Nat) : Int) := w1 n (by omega)
    have hfl : ((keys.take n).filter p).length ≤ 100 := by
      have := List.length_filter_le p (keys.take n)
      rw [List.length_take] at this
      omega
    have hnx := ih (n + 1) (by omega)
    rw [filter_next keys p n hlt] at hnx
    refine Ev.step (f := _) (fun k => by simp only [manometerlaw17_TokenTurns.l0]; rfl) ?_
    simp only [if_pos (show (n : Int) < (keys.length : Int) by omega), if_pos (show (0 : Int) ≤ (n : Int) by omega), rd_own, e1]
    by_cases h1 : r.2.2.2.2.2 = 0
    · simp only [if_pos h1]
      by_cases h2 : (keys.getD n z43).f0.toList = r.1.toList
      · simp only [if_pos h2, if_pos (show ((keys.take n).filter p).length < 3518437208883 by omega)]
        rw [if_pos ((hp _).2 ⟨h1, h2⟩)] at hnx
        exact hnx
      · simp only [if_neg h2]
        rw [if_neg (fun h => h2 ((hp _).1 h).2), List.append_nil] at hnx
        exact hnx
    · simp only [if_neg h1]
      rw [if_neg (fun h => h1 ((hp _).1 h).1), List.append_nil] at hnx
      exact hnx
theorem tokenTurns (s : ByteArray) (keys : List Own) (now ahead need less : Int) : ∃ k, manometerlaw17_TokenTurns.f k s keys now ahead need less = some true := by
  refine Ev.rounds (g := fun k => manometerlaw17_TokenTurns.f k s keys now ahead need less) ?_
  have ht : Ev (fun k => manometerlaw17_TokenTurns.j0 k s keys now ahead need less true) true := by
    refine Ev.step (f := _) (fun k => by simp only [manometerlaw17_TokenTurns.j0]; rfl) ?_
    simp only [if_true]
    exact Ev.bind live_ev (Ev.now _)
  unfold manometerlaw17_TokenTurns.f
  refine Ev.bind live_ev ?_
  simp only [if_pos trivial]
  refine Ev.ite (fun _ => ht) (fun h1 => ?_)
  obtain ⟨b, hb, hL⟩ := few_ev keys
  refine Ev.bind hb ?_
  cases b with
  | false => exact ht
  | true =>
    have hk := hL rfl
    have hs : s.size ≤ 100000 := by omega
    show Ev (fun k => manometerlaw17_TokenTurns.j0 k s keys now ahead need less false) true
    refine Ev.step (f := _) (fun k => by simp only [manometerlaw17_TokenTurns.j0]; rfl) ?_
    simp only [Bool.false_eq_true, if_false]
    refine Ev.bind (Verify_ev s hs keys (by omega) now need) (Ev.bind (Read_ev s hs) ?_)
    have hp : ∀ x : Own, (fun x : Own => decide ((outR (readB s)).2.2.2.2.2 = 0) && decide (x.f0.toList = (outR (readB s)).1.toList)) x = true ↔ ((outR (readB s)).2.2.2.2.2 = 0 ∧ x.f0.toList = (outR (readB s)).1.toList) := fun x => by simp
    have hq : verB s (keys.filter (fun x : Own => decide ((outR (readB s)).2.2.2.2.2 = 0) && decide (x.f0.toList = (outR (readB s)).1.toList))) now need = verB s keys now need := by
      unfold verB
      cases hr : readB s with
      | none => rfl
      | some c =>
        simp only [outR, decide_true, Bool.true_and]
        exact congrArg (afterK s now need c) (find_filter c.1 c.2.1 keys 180)
    exact Turns_l0 s hs keys hk now ahead need less _ rfl (outR (readB s)) _ hp hq keys.length 0 (by omega)
end Go.Proofs.YtkkomfomjpcbfaaDoor.Pu
end
section
namespace Go.Proofs.YtkkomfomjpcbfaaDoor
open Go.RowKit
set_option linter.unusedVariables false
theorem table_reads {P : Program} {w : World} {name : String} {g n : Nat} {t e : TypeId} {k : IntKind} {zs : List Int} (h : Lib.VarReads P w name (.agg (zs.map fun z => .lit (.int k z)))) (hg : P.globalNamed name = some g) (ht : (P.globals[g]?).map (·.type) = some t)
    (ha : P.underlying t = some (.array n e)) (he : P.underlying e = some (.int k)) (hc : P.cellsOf e = 1) : ∀ i, i < n → w.cell? ⟨g, i, none⟩ = some (.int k (zs.getD i 0)) := by
  obtain ⟨g', t', cs, fuel, p, h1, h2, h3, h4⟩ := h
  obtain rfl := Option.some.inj (hg.symm.trans h1)
  obtain rfl := Option.some.inj (ht.symm.trans h2)
  intro i hi
  obtain ⟨f2, d, q, hd, htr⟩ := Lib.array_elem ha h4 i hi
  obtain ⟨z, hz, hx, _⟩ := DataW.trod_int he htr
  rw [List.getElem?_map] at hd
  obtain ⟨z', hz', hzd⟩ := Option.map_eq_some_iff.1 hd
  have hzz : z' = z := by
    have h5 : d = .lit (.int k z) := congrArg Prod.fst hx
    rw [h5] at hzd
    injection hzd with h6
    injection h6
  subst hzz
  rw [hc, Nat.mul_one] at hz
  have h7 : cs.toList[i]? = some (.int k z') := by
    have := congrArg (·[0]?) hz
    simpa [List.getElem?_take, List.getElem?_drop] using this
  have h8 := World.var?_cell h1 h3 i
  rw [h8, List.getD_eq_getElem?_getD, hz']
  simpa using h7
theorem laid_plain {P : Program} {w : World} {l : List (String × DataW Unit)} (h : laidMetH P l w) (hf : (l.filter fun x => x.2.handleName?.isSome).isEmpty = true) : laidMet P l w := by
  unfold laidMetH at h
  split at h
  · exact h
  · rename_i h2
    rw [h2] at hf
    cases hf
end Go.Proofs.YtkkomfomjpcbfaaDoor
end
section
namespace Go.Proofs.YtkkomfomjpcbfaaDoor
open Go Go.RowKit Go.Shelf
set_option linter.unusedVariables false
theorem tab_of {w : World} (h : laidMetH Tryd.prog [("manometer/hash.rounds", Rows.laid_manometer_hash_rounds)] w) : Tab w := by
  intro j hj
  have hr := Lib.laidMet.reads (laid_plain h (by kernel_rfl)) (List.Mem.head _)
  exact table_reads (zs := Sha.K) (show Lib.VarReads _ w _ (.agg (Sha.K.map fun z => .lit (.int .u32 z))) from hr) (g := 0) (by kernel_rfl) (by kernel_rfl) Tryd.underlying99 Tryd.underlying92 (by kernel_rfl) j hj
end Go.Proofs.YtkkomfomjpcbfaaDoor
end
section
namespace Go.Proofs.YtkkomfomjpcbfaaDoor
open Go.RowKit Go.Proofs.YtkkomfomjpcbfaaDoorW.PrintWords Go.Proofs.YtkkomfomjpcbfaaDoorW.PrintMore Go.Proofs.YtkkomfomjpcbfaaDoorW.PrintLast Go.Deep
set_option linter.unusedVariables false
section
variable {H : Type} {enc : TypeId × Value → H} {P : Program} {w : World} {base : Nat} {spare : Nat → Bool} {held : Bool}
theorem opens_iso {α β : Type} {d : Kd α} {wf : α → Prop} {t : TypeId} (f : β → α) (g : α → β) (hg : ∀ y, f (g y) = y) (h : Opens enc P w base spare held t d wf) :
    Opens enc P w base spare held t (Kd.iso d f) (fun x => wf (f x)) := by
  intro fuel cs x hx
  obtain ⟨a, hK, hw⟩ := h fuel cs x hx
  refine ⟨g a, ?_, ?_⟩
  · show d.K w (f (g a)) cs
    rw [hg]
    exact hK
  · show wf (f (g a))
    rw [hg]
    exact hw
end
end Go.Proofs.YtkkomfomjpcbfaaDoor
end
