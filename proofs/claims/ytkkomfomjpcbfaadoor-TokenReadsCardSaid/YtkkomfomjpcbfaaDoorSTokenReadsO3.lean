import Derived.Test.YtkkomfomjpcbfaaDoorSTokenReadsPTSx11
import Derived.Test.YtkkomfomjpcbfaaDoorSTokenReadsPTSx6
import Derived.Test.YtkkomfomjpcbfaaDoorSTokenReadsPTSx7
import Derived.Test.YtkkomfomjpcbfaaDoorSTokenReadsPTSx15
import Derived.Test.YtkkomfomjpcbfaaDoorSTokenReadsPTSx16
import Derived.Test.YtkkomfomjpcbfaaDoorSTokenReadsPU0
import Derived.Lib.LaidU8
import Derived.LaidMore
import Derived.Test.YtkkomfomjpcbfaaDoorSTokenReadsTT
import Derived.Test.YtkkomfomjpcbfaaDoorRows
namespace Go.Proofs.YtkkomfomjpcbfaaDoor.Bq
end Go.Proofs.YtkkomfomjpcbfaaDoor.Bq
set_option linter.unusedVariables false
set_option linter.unusedSimpArgs false
section
namespace Go.Proofs.YtkkomfomjpcbfaaDoor.Pu
open Go Go.RowKit Go.Lib Go.Proofs.YtkkomfomjpcbfaaDoor Go.Proofs.YtkkomfomjpcbfaaDoor.PTS Go.Proofs.YtkkomfomjpcbfaaDoorW.PrintWords Go.Proofs.YtkkomfomjpcbfaaDoorW.PrintLast Go.Proofs.YtkkomfomjpcbfaaDoorW.PrintMore Bq
theorem parse_bd {b : List Int} (hb : Byts b) {c : C5} (h : parseB b = some c) : (-9223372036854775808 ≤ c.2.2.1 ∧ c.2.2.1 ≤ 9223372036854775807) ∧ (0 ≤ c.2.2.2.2 ∧ c.2.2.2.2 < 18446744073709551616) ∧ chkB c.1 c.2.1 c.2.2.2.1 = 0 := by
 unfold parseB at h
 split at h
 ·split at h
  ·cases h
  ·unfold parse2 at h
   split at h
   ·split at h
    ·cases h
    ·unfold parse3 at h
     split at h
     ·rename_i _ _ _ _ hv
      split at h
      ·cases h
      ·unfold parse4 at h
       split at h
       ·split at h
        ·split at h
         ·rename_i hc
          injection h with h
          subst h
          obtain ⟨v, n, e1, _, _, e2, e3⟩ := varG_back _ (byt_drop (byt_drop (byt_drop hb _) _) _) hv
          refine ⟨?_, ?_, hc⟩
          ·rw [e1]
           exact ⟨e2, e3⟩
          ·exact ug_bound _ 0 0 (byt_drop (byt_drop (byt_drop (byt_drop (byt_drop hb _) _) _) _) _) (by decide) (by decide)
         ·cases h
        ·cases h
       ·cases h
     ·cases h
   ·cases h
 ·cases h
theorem read_bd {s : ByteArray} {c : C5} (h : readB s = some c) : (-9223372036854775808 ≤ c.2.2.1 ∧ c.2.2.1 ≤ 9223372036854775807) ∧ (0 ≤ c.2.2.2.2 ∧ c.2.2.2.2 < 18446744073709551616) ∧ chkB c.1 c.2.1 c.2.2.2.1 = 0 := by
 unfold readB at h
 split at h
 ·unfold readR at h
  split at h
  ·cases h
  ·split at h
   ·exact parse_bd (unL_byt0 _) h
   ·cases h
 ·cases h
theorem tokText_size (sec : ByteArray) (L : List Int) : (tokText sec L).size = 4 + (8 * L.length + 5) / 6 + 1 + 43 := by
 unfold tokText
 rw [ByteArray.size_append, ByteArray.size_append, tokHead_size, armor_size]
 have h : (tokSum sec L).length = 32 := Sha.sum_length _
 rw [h]
 rfl
theorem mint_ok {kid : Int} {sec tn : ByteArray} {key ex sc id : Int} (h : (mintB kid sec tn key ex sc id).2 = 0) : keyedB kid sec = true ∧ chkB tn key sc = 0 ∧ key = kid ∧ mintB kid sec tn key ex sc id = (tokText sec (bodyL tn key ex sc id), 0) := by
 unfold mintB at h ⊢
 split at h
 ·rename_i h1
  split at h
  ·rename_i h2
   split at h
   ·rename_i h3
    refine ⟨h1, h2, h3, ?_⟩
    rw [if_pos h1, if_pos h2, if_pos h3]
   ·cases h
  ·rename_i h2
   exact absurd h h2
 ·cases h
def signedB (s : ByteArray) (kid : Int) (sec : ByteArray) : Bool := match readB s with
 | none => false
 | some c => decide ((mintB kid sec c.1 c.2.1 c.2.2.1 c.2.2.2.1 c.2.2.2.2).2 = 0) && ((mintB kid sec c.1 c.2.1 c.2.2.1 c.2.2.2.1 c.2.2.2.2).1.toList == s.toList)
theorem Signed_ev (s : ByteArray) (kid : Int) (sec : ByteArray) (hs : s.size ≤ 100000) : Ev (fun k => token_Signed.f k s kid sec) (signedB s kid sec) ∧ Ev (fun k => mr17_Signed.f k s kid sec) (signedB s kid sec) := by
 have h1 := Read_ev s hs
 have h2 := RRead_ev s hs
 constructor
 ·show Ev (fun k => tokSigned k s kid sec) _
  unfold tokSigned signedB
  refine Ev.bind h1 ?_
  cases hr : readB s with
  | none =>
   simp only [outR, tokBad, if_neg (show ¬ ((8 : Int) = 0) by decide)]
   exact Ev.now _
  | some c =>
   obtain ⟨b1, b2, b3⟩ := read_bd hr
   simp only [outR, if_pos trivial]
   refine Ev.bind (Mint_ev kid sec c.1 c.2.1 c.2.2.1 c.2.2.2.1 c.2.2.2.2 b1 b2) ?_
   by_cases hm : (mintB kid sec c.1 c.2.1 c.2.2.1 c.2.2.2.1 c.2.2.2.2).2 = 0
   ·obtain ⟨m1, m2, m3, m4⟩ := mint_ok hm
    obtain ⟨c1, c2, c3⟩ := chk_ok m2
    have hl := body_len c.1 c.2.1 c.2.2.1 c.2.2.2.1 c.2.2.2.2 (ten_size c1) c2 b1 b2
    have hz : (mintB kid sec c.1 c.2.1 c.2.2.1 c.2.2.2.1 c.2.2.2.2).1.size ≤ 1000000 := by
     rw [m4]
     show (tokText _ _).size ≤ _
     rw [tokText_size]
     omega
    simp only [if_pos hm, if_pos hz, decide_eq_true hm, Bool.true_and]
    exact Ev.now _
   ·simp only [if_neg hm, decide_eq_false hm, Bool.false_and]
    exact Ev.now _
 ·unfold mr17_Signed.f signedB
  refine Ev.bind h2 ?_
  cases hr : readB s with
  | none =>
   simp only [outR, tokBad, if_neg (show ¬ ((8 : Int) = 0) by decide)]
   exact Ev.now _
  | some c =>
   obtain ⟨b1, b2, b3⟩ := read_bd hr
   obtain ⟨c1, c2, c3⟩ := chk_ok b3
   simp only [outR, if_pos trivial]
   refine Ev.bind (RMint_ev kid sec c.1 c.2.1 c.2.2.1 c.2.2.2.1 c.2.2.2.2 (by have := ten_size c1; omega) b1 b2) ?_
   by_cases hm : (mintB kid sec c.1 c.2.1 c.2.2.1 c.2.2.2.1 c.2.2.2.2).2 = 0
   ·simp only [if_pos hm, decide_eq_true hm, Bool.true_and]
    exact Ev.now _
   ·simp only [if_neg hm, decide_eq_false hm, Bool.false_and]
    exact Ev.now _
theorem live_ev : Ev (fun k => ml17_live.f k) true := Ev.of ml17_live.mono live_60
theorem tokenReads (s : ByteArray) (kid : Int) (sec : ByteArray) : ∃ k, ml17_TokenReads.f k s kid sec = some true := by
 refine Ev.rounds (g := fun k => ml17_TokenReads.f k s kid sec) ?_
 have ht : Ev (fun k => ml17_TokenReads.j0 k s true kid sec) true := by
  refine Ev.step (f := _) (fun k => by simp only [ml17_TokenReads.j0]; rfl) ?_
  simp only [if_true]
  exact Ev.bind live_ev (Ev.now _)
 unfold ml17_TokenReads.f
 refine Ev.bind live_ev ?_
 simp only [if_pos trivial]
 refine Ev.ite (fun _ => ht) (fun h1 => ?_)
 by_cases h2 : (sec.size : Int) > 300
 ·rw [decide_eq_true h2]; exact ht
 ·rw [decide_eq_false h2]
  refine Ev.step (f := _) (fun k => by simp only [ml17_TokenReads.j0]; rfl) ?_
  simp only [Bool.false_eq_true, if_false]
  have hs : s.size ≤ 100000 := by omega
  refine Ev.bind (Read_ev s hs) (Ev.bind (RRead_ev s hs) ?_)
  simp only [beq_self_eq_true, Bool.and_self, if_pos trivial]
  refine Ev.bind (Signed_ev s kid sec hs).1 (Ev.bind (Signed_ev s kid sec hs).2 ?_)
  simp only [beq_self_eq_true]
  exact Ev.now _
end Go.Proofs.YtkkomfomjpcbfaaDoor.Pu
end
section
namespace Go.Proofs.YtkkomfomjpcbfaaDoor
open Go.RowKit
theorem table_reads {P : Program} {w : World} {name : String} {g n : Nat} {t e : TypeId} {k : IntKind} {zs : List Int} (h : Lib.VarReads P w name (.agg (zs.map fun z => .lit (.int k z)))) (hg : P.globalNamed name = some g) (ht : (P.globals[g]?).map (·.type) = some t)
  (ha : P.underlying t = some (.array n e)) (he : P.underlying e = some (.int k)) (hc : P.cellsOf e = 1) : ∀ i, i < n → w.cell? ⟨g, i, none⟩ = some (.int k (zs.getD i 0)) := by
 obtain ⟨g', t', cs, fuel, p, h1, h2, h3, h4⟩ := h
 obtain rfl := Option.some.inj (hg.symm.trans h1)
 obtain rfl := Option.some.inj (ht.symm.trans h2)
 intro i hi
 obtain ⟨f2, d, q, hd, htr⟩ := Lib.array_elem ha h4 i hi
 obtain ⟨z, hz, hx, _⟩ := DataW.trod_int he htr
 rw [List.getElem?_map] at hd
 obtain ⟨z', hz', hzd⟩ := Option.map_eq_some_iff.1 hd
 have hzz : z' = z := by
  have h5 : d = .lit (.int k z) := congrArg Prod.fst hx
  rw [h5] at hzd
  injection hzd with h6
  injection h6
 subst hzz
 rw [hc, Nat.mul_one] at hz
 have h7 : cs.toList[i]? = some (.int k z') := by
  have := congrArg (·[0]?) hz
  simpa [List.getElem?_take, List.getElem?_drop] using this
 have h8 := World.var?_cell h1 h3 i
 rw [h8, List.getD_eq_getElem?_getD, hz']
 simpa using h7
theorem laid_plain {P : Program} {w : World} {l : List (String × DataW Unit)} (h : laidMetH P l w) (hf : (l.filter fun x => x.2.handleName?.isSome).isEmpty = true) : laidMet P l w := by
 unfold laidMetH at h
 split at h
 ·exact h
 ·rename_i h2
  rw [h2] at hf
  cases hf
end Go.Proofs.YtkkomfomjpcbfaaDoor
end
section
namespace Go.Proofs.YtkkomfomjpcbfaaDoor
open Go Go.RowKit Go.Shelf
theorem tab_of {w : World} (h : laidMetH Tryd.prog [("manometer/hash.rounds", Rows.laid_manometer_hash_rounds)] w) : Tab w := by
 intro j hj
 have hr := Lib.laidMet.reads (laid_plain h (by kernel_rfl)) (List.Mem.head _)
 exact table_reads (zs := Sha.K) (show Lib.VarReads _ w _ (.agg (Sha.K.map fun z => .lit (.int .u32 z))) from hr) (g := 0) (by kernel_rfl) (by kernel_rfl) Tryd.underlying99 Tryd.underlying92 (by kernel_rfl) j hj
end Go.Proofs.YtkkomfomjpcbfaaDoor
end
section
namespace Go.Proofs.YtkkomfomjpcbfaaDoor
open Go.RowKit Go.Proofs.YtkkomfomjpcbfaaDoorW.PrintWords Go.Proofs.YtkkomfomjpcbfaaDoorW.PrintMore Go.Proofs.YtkkomfomjpcbfaaDoorW.PrintLast Go.Deep
section
variable {H : Type} {enc : TypeId × Value → H} {P : Program} {w : World} {base : Nat} {spare : Nat → Bool} {held : Bool}
theorem opens_iso {α β : Type} {d : Kd α} {wf : α → Prop} {t : TypeId} (f : β → α) (g : α → β) (hg : ∀ y, f (g y) = y) (h : Opens enc P w base spare held t d wf) :
  Opens enc P w base spare held t (Kd.iso d f) (fun x => wf (f x)) := by
 intro fuel cs x hx
 obtain ⟨a, hK, hw⟩ := h fuel cs x hx
 refine ⟨g a, ?_, ?_⟩
 ·show d.K w (f (g a)) cs
  rw [hg]
  exact hK
 ·show wf (f (g a))
  rw [hg]
  exact hw
theorem opens_val {α : Type} {d : Kd α} {wf : α → Prop} {t : TypeId} {cs : Array Value} {x : DataW H} {ps : List MemPlace} (h : Opens enc P w base spare held t d wf)
  (hT : DataW.Trod enc P w base spare held t (.agg cs) x ps) : ∃ a, d.K w a cs.toList ∧ wf a := by
 obtain ⟨fuel, hf⟩ := hT
 exact h fuel _ _ hf
end
end Go.Proofs.YtkkomfomjpcbfaaDoor
end
