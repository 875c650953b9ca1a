import Derived.Test.YtdckhaejhfkkbaaDoorCRecordNearRP
import Derived.Test.YtdckhaejhfkkbaaDoorCRecordNearPRTx20
import Derived.Test.YtdckhaejhfkkbaaDoorCRecordNearG1
import Derived.Lib.LaidU8
import Derived.LaidMore
import Derived.Test.YtdckhaejhfkkbaaDoorCRecordNearPRTx21
import Derived.Test.YtdckhaejhfkkbaaDoorRows
import Derived.Lib.LaidU8T
namespace Go.Proofs.YtdckhaejhfkkbaaDoor.Bq
end Go.Proofs.YtdckhaejhfkkbaaDoor.Bq
section
namespace Go.Proofs.YtdckhaejhfkkbaaDoor.Pu
open Go Go.RowKit Go.Proofs.YtdckhaejhfkkbaaDoor Go.Proofs.YtdckhaejhfkkbaaDoor.PRT Go.Proofs.YtdckhaejhfkkbaaDoorW.PrintWords Go.Proofs.YtdckhaejhfkkbaaDoorW.PrintLast Go.Proofs.YtdckhaejhfkkbaaDoorW.PrintMore Bq
set_option linter.unusedVariables false
set_option linter.unusedSimpArgs false
theorem vI_small (n : Int) (h0 : 0 ≤ n) (h1 : n ≤ 1) : (vI n).length = 1 := by
  unfold vI
  rw [Bq.ints_length, uv_small _ (by unfold zigI; split <;> omega)]
  rfl
theorem ptL_near (r t s t' v : Int) (h0 : -9223372036854775808 ≤ t) (h : t' = t ∨ t' = t + 1) : (ptL r t s ⟨r, ⟨t', v, s⟩⟩).length = 11 := by
  unfold ptL
  rw [List.length_append, List.length_append, List.length_append, be8_length]
  have e1 : wrap64 (wrap64 r - wrap64 r) = 0 := by rw [Int.sub_self]; exact w64 (by omega) (by omega)
  have e3 : wrap64 (IntKind.u64.wrap (s - s)) = 0 := by rw [Int.sub_self, IntKind.wrap_u64]; exact w64 (by omega) (by omega)
  have e2 : wrap64 (t' - t) = t' - t := w64 (by omega) (by omega)
  show (vI (wrap64 (wrap64 r - wrap64 r))).length + (vI (wrap64 (t' - t))).length + (vI (wrap64 (IntKind.u64.wrap (s - s)))).length + 8 = 11
  rw [e1, e2, e3, vI_small 0 (by omega) (by omega), vI_small (t' - t) (by omega) (by omega)]
theorem ptsL_snoc (x y : Ent) : ∀ (Q : List Ent) (r t s : Int), ptsL (Q ++ [x] ++ [y]) r t s = ptsL (Q ++ [x]) r t s ++ ptL x.f0 x.f1.f0 x.f1.f2 y
  | [], r, t, s => by
    show ptL r t s x ++ (ptL x.f0 x.f1.f0 x.f1.f2 y ++ []) = ptL r t s x ++ [] ++ _
    rw [List.append_nil, List.append_nil]
  | z :: Q, r, t, s => by
    show ptL r t s z ++ ptsL (Q ++ [x] ++ [y]) z.f0 z.f1.f0 z.f1.f2 = (ptL r t s z ++ ptsL (Q ++ [x]) z.f0 z.f1.f0 z.f1.f2) ++ _
    rw [ptsL_snoc x y Q, List.append_assoc]
theorem sz_ev (P : List Ent) (h1 : 0 < P.length) (h2 : P.length ≤ 256) (h : ∀ x ∈ P, ¬ x.f0 = 0 ∧ ¬ x.f1.f2 = 0) : Ev (fun k => record_Size.f k 2 0 ([] : List Lab) P) ((1 + (uv P.length).length + (ptsL P 0 0 0).length : Nat) : Int) := by
  have hc : checkB 2 0 ([] : List Lab) P = 0 := by
    unfold checkB
    rw [if_neg (by decide), if_pos rfl, if_pos rfl, if_neg (by simp), if_neg (by omega), if_neg (by omega)]
    unfold entsB
    rw [if_neg]
    rintro ⟨x, hx, h3⟩
    have := h x hx
    rcases h3 with h3 | h3
    · exact this.1 h3
    · exact this.2 h3
  have k1 := record_Check_ev 2 0 ([] : List Lab) P ⟨by simp, fun x hx => by cases hx⟩ (by omega)
  obtain ⟨m1, m2⟩ := PutUvarint_ev P.length (by omega)
  have g1 := uv_len10 P.length (by omega)
  have g2 := Bq.ints_length (uv P.length)
  have hput : Ev (fun k => record_Put.f k 2 0 ([] : List Lab) P) ((2 : Int) % 256 :: (Bq.ints (uv P.length) ++ ptsL P 0 0 0), (0 : Int)) := by
    have e : (fun k => record_Put.f k 2 0 ([] : List Lab) P) = fun k => recPut k 2 0 ([] : List Lab) P := rfl
    rw [e]
    unfold recPut
    refine Ev.bind k1 ?_
    simp only [if_pos hc, if_neg (show ¬ (2 : Int) = 1 by decide)]
    rw [if_pos_fun (by omega)]
    refine Ev.bind m1 ?_
    rw [if_pos_fun (by omega)]
    have := recPts_ev P 0 0 0 ((2 : Int) % 256 :: Bq.ints (uv P.length)) (by rw [List.length_cons]; omega)
    rw [List.cons_append] at this
    exact Ev.bind this (Ev.now _)
  unfold record_Size.f
  refine Ev.bind hput ?_
  have e : ((((2 : Int) % 256 :: (Bq.ints (uv P.length) ++ ptsL P 0 0 0)).length : Nat) : Int) = ((1 + (uv P.length).length + (ptsL P 0 0 0).length : Nat) : Int) := by
    rw [List.length_cons, List.length_append, g2]
    omega
  simp only [e]
  exact Ev.now _
theorem uv2 (n : Nat) (h : n ≤ 256) : (uv n).length = if 127 < n then 2 else 1 := by
  by_cases h1 : 127 < n
  · rw [if_pos h1, uv_big n (by omega), uv_small _ (by omega)]
    rfl
  · rw [if_neg h1, uv_small n (by omega)]
    rfl
theorem near_l0 (x1 : List Bool) (x2 : List Int) (r s T0 : Int) (hr : ¬ r = 0) (hs : ¬ s = 0) (h200 : x1.length ≤ 200) (hT : T0 ≤ 4611686018427387904) (z : Nat) (hz : 0 < z) (hz2 : z ≤ 1000) :
    ∀ (d n : Nat) (Q : List Ent) (t v : Int), n + d = x1.length → Q.length = n → -9223372036854775808 ≤ t → t ≤ T0 + (n : Int) → (∀ x ∈ Q, ¬ x.f0 = 0 ∧ ¬ x.f1.f2 = 0) → 2 + (ptsL (Q ++ [⟨r, ⟨t, v, s⟩⟩]) 0 0 0).length = z + 11 * n →
    Ev (fun k => manometerlaw13_RecordNear.l0 k x1 x2 (z : Int) x1 (x1.length : Int) (n : Int) 2 0 (Q ++ [⟨r, ⟨t, v, s⟩⟩]) r t v s) true
  | 0, n, Q, t, v, hd, hq, ht0, ht1, hQ, hlen => by
    refine Ev.step (f := _) (fun k => by simp only [manometerlaw13_RecordNear.l0]; rfl) ?_
    simp only [if_neg (show ¬ (n : Int) < (x1.length : Int) by omega)]
    have hP : (Q ++ [(⟨r, ⟨t, v, s⟩⟩ : Ent)]).length = n + 1 := by rw [List.length_append, hq]; rfl
    have hall : ∀ x ∈ Q ++ [(⟨r, ⟨t, v, s⟩⟩ : Ent)], ¬ x.f0 = 0 ∧ ¬ x.f1.f2 = 0 := by
      intro x hx
      rcases List.mem_append.1 hx with h | h
      · exact hQ x h
      · rw [List.mem_singleton.1 h]
        exact ⟨hr, hs⟩
    refine Ev.bind (sz_ev _ (by omega) (by omega) hall) ?_
    rw [hP, uv2 (n + 1) (by omega)]
    obtain ⟨p, hp⟩ : ∃ p, p = (ptsL (Q ++ [⟨r, ⟨t, v, s⟩⟩]) 0 0 0).length := ⟨_, rfl⟩
    rw [← hp] at hlen ⊢
    have c0 : (z : Int) > 0 := by omega
    have c1 : ((1 + 2 + p : Nat) : Int) ≥ ((z + 8 * n : Nat) : Int) := by omega
    have c2 : ((1 + 1 + p : Nat) : Int) ≥ ((z + 8 * n : Nat) : Int) := by omega
    have c3 : 127 < n + 1 → ((1 + 2 + p : Nat) : Int) ≤ ((z + 11 * n + 1 : Nat) : Int) := fun _ => by omega
    have c4 : ((1 + 1 + p : Nat) : Int) ≤ ((z + 11 * n : Nat) : Int) := by omega
    have e8 : wrap64 ((z : Int) + wrap64 (8 * (x1.length : Int))) = ((z + 8 * n : Nat) : Int) := by
      rw [wn (n := 8 * n) (x := 8 * (x1.length : Int)) (by omega) (by omega)]
      exact wn (by omega) (by omega)
    have e11 : wrap64 ((z : Int) + wrap64 (11 * (x1.length : Int))) = ((z + 11 * n : Nat) : Int) := by
      clear e8
      rw [wn (n := 11 * n) (x := 11 * (x1.length : Int)) (by omega) (by omega)]
      exact wn (by omega) (by omega)
    by_cases h127 : 127 < n + 1
    · have h127i : ((n + 1 : Nat) : Int) > 127 := by clear e8 e11; omega
      have e12 : wrap64 (((z + 11 * n : Nat) : Int) + 1) = ((z + 11 * n + 1 : Nat) : Int) := w1 (z + 11 * n) (by clear e8 e11; omega)
      have c5 := c3 h127
      simp only [if_pos h127, if_pos h127i, if_pos c0, e8, e11, if_pos c1, e12, decide_eq_true c5]
      exact Ev.now _
    · have h127i : ¬ ((n + 1 : Nat) : Int) > 127 := by clear e8 e11; omega
      have e0 : wrap64 (((z + 11 * n : Nat) : Int) + 0) = ((z + 11 * n : Nat) : Int) := by
        clear e8 e11
        exact wn (by omega) (by omega)
      simp only [if_neg h127, if_neg h127i, if_pos c0, e8, e11, if_pos c2, e0, decide_eq_true c4]
      exact Ev.now _
  | d + 1, n, Q, t, v, hd, hq, ht0, ht1, hQ, hlen => by
    refine Ev.step (f := _) (fun k => by simp only [manometerlaw13_RecordNear.l0]; rfl) ?_
    have hP : (Q ++ [(⟨r, ⟨t, v, s⟩⟩ : Ent)]).length = n + 1 := by rw [List.length_append, hq]; rfl
    have next : ∀ t' v' : Int, (t' = t ∨ t' = t + 1) → Ev (fun k => manometerlaw13_RecordNear.l0 k x1 x2 (z : Int) x1 (x1.length : Int) ((n + 1 : Nat) : Int) 2 0 (Q ++ [⟨r, ⟨t, v, s⟩⟩] ++ [⟨r, ⟨t', v', s⟩⟩]) r t' v' s) true := by
      intro t' v' ht'
      refine near_l0 x1 x2 r s T0 hr hs h200 hT z hz hz2 d (n + 1) (Q ++ [⟨r, ⟨t, v, s⟩⟩]) t' v' (by omega) hP (by omega) (by omega) (fun x hx => ?_) ?_
      · rcases List.mem_append.1 hx with h | h
        · exact hQ x h
        · rw [List.mem_singleton.1 h]
          exact ⟨hr, hs⟩
      · rw [ptsL_snoc, List.length_append, ptL_near r t s t' v' ht0 ht']
        omega
    have et : wrap64 (t + 1) = t + 1 := w64 (by omega) (by omega)
    simp only [if_pos (show (n : Int) < (x1.length : Int) by omega), if_pos (show (0 : Int) ≤ (n : Int) by omega), hP, if_pos (show n + 1 < 4398046511104 by omega), w1 n (by omega), et]
    by_cases hc : rdOf false x1 (n : Int) = true
    · by_cases hv : (n : Int) < (x2.length : Int)
      · simp only [if_pos hc, if_pos hv]
        exact next _ _ (.inr rfl)
      · simp only [if_pos hc, if_neg hv]
        exact next _ _ (.inr rfl)
    · by_cases hv : (n : Int) < (x2.length : Int)
      · simp only [if_neg hc, if_pos hv]
        exact next _ _ (.inl rfl)
      · simp only [if_neg hc, if_neg hv]
        exact next _ _ (.inl rfl)
theorem near_j0t (x1 : List Bool) (x2 : List Int) (a0 a1 a2 a3 : Int) : Ev (fun k => manometerlaw13_RecordNear.j0 k x1 x2 true a0 a1 a2 a3) true := by
  refine Ev.step (f := _) (fun k => by simp only [manometerlaw13_RecordNear.j0]; rfl) ?_
  simp only [if_true]
  exact Ev.bind live_ev (Ev.now _)
theorem recordNear (a0 a1 a2 a3 : Int) (x1 : List Bool) (x2 : List Int) (hT : -9223372036854775808 ≤ a1 ∧ a1 ≤ 9223372036854775807) : ∃ k, manometerlaw13_RecordNear.f k a0 a1 a2 a3 x1 x2 = some true := by
  refine Ev.rounds (g := fun k => manometerlaw13_RecordNear.f k a0 a1 a2 a3 x1 x2) ?_
  unfold manometerlaw13_RecordNear.f
  refine Ev.bind live_ev ?_
  simp only [if_true]
  by_cases h0 : a0 = 0
  · simp only [if_pos h0]
    exact near_j0t _ _ _ _ _ _
  by_cases h3 : a3 = 0
  · simp only [if_neg h0, if_pos h3]
    exact near_j0t _ _ _ _ _ _
  by_cases h200 : (x1.length : Int) > 200
  · simp only [if_neg h0, if_neg h3, if_pos h200]
    exact near_j0t _ _ _ _ _ _
  by_cases h300 : (x2.length : Int) > 300
  · simp only [if_neg h0, if_neg h3, if_neg h200, if_pos h300]
    exact near_j0t _ _ _ _ _ _
  simp only [if_neg h0, if_neg h3, if_neg h200, if_neg h300]
  by_cases h1 : a1 > 4611686018427387904
  · rw [decide_eq_true h1]
    exact near_j0t _ _ _ _ _ _
  rw [decide_eq_false h1]
  refine Ev.step (f := _) (fun k => by simp only [manometerlaw13_RecordNear.j0]; rfl) ?_
  simp only [Bool.false_eq_true, if_false, Option.bind_some]
  have hone := sz_ev [(⟨a0, ⟨a1, a2, a3⟩⟩ : Ent)] (by simp) (by simp) (fun x hx => by rw [List.mem_singleton.1 hx]; exact ⟨h0, h3⟩)
  refine Ev.bind hone ?_
  have hpl := ptsL_len [(⟨a0, ⟨a1, a2, a3⟩⟩ : Ent)] 0 0 0
  have hu : (uv [(⟨a0, ⟨a1, a2, a3⟩⟩ : Ent)].length).length = 1 := by rw [List.length_singleton, uv_small 1 (by decide)]; rfl
  obtain ⟨p, hp⟩ : ∃ p, p = (ptsL [(⟨a0, ⟨a1, a2, a3⟩⟩ : Ent)] 0 0 0).length := ⟨_, rfl⟩
  rw [List.length_singleton, ← hp] at hpl
  rw [hu, ← hp]
  exact near_l0 x1 x2 a0 a3 a1 h0 h3 (by omega) (by omega) (1 + 1 + p) (by omega) (by omega) x1.length 0 [] a1 a2 (by omega) rfl hT.1 (by omega) (fun x hx => by cases hx) (by rw [List.nil_append, ← hp]; omega)
end Go.Proofs.YtdckhaejhfkkbaaDoor.Pu
end
section
namespace Go.Proofs.YtdckhaejhfkkbaaDoor
open Go.RowKit
set_option linter.unusedVariables false
theorem laid_plain {P : Program} {w : World} {l : List (String × DataW Unit)} (h : laidMetH P l w) (hf : (l.filter fun x => x.2.handleName?.isSome).isEmpty = true) : laidMet P l w := by
  unfold laidMetH at h
  split at h
  · exact h
  · rename_i h2
    rw [h2] at hf
    cases hf
end Go.Proofs.YtdckhaejhfkkbaaDoor
end
section
namespace Go.Proofs.YtdckhaejhfkkbaaDoor
open Go Go.RowKit Go.Shelf
set_option linter.unusedVariables false
theorem first_same : Go.Pinned.utf8First = Lib.firstData := by kernel_rfl
theorem accept_same : (Rows.laid_unicode_utf8_acceptRanges : DataW Unit) = Lib.acceptData := by kernel_rfl
theorem tab_of {w : World} (h : laidMetH Tryd.prog [("unicode/utf8.acceptRanges", Rows.laid_unicode_utf8_acceptRanges), ("unicode/utf8.first", Rows.laid_unicode_utf8_first)] w) : Tab w := by
  have hp := laid_plain h (by kernel_rfl)
  have h4 := Lib.laidMet.reads hp (List.Mem.head _)
  have h3 := Lib.laidMet.reads hp (List.Mem.tail _ (List.Mem.head _))
  rw [accept_same] at h4
  rw [show Rows.laid_unicode_utf8_first = Go.Pinned.utf8First from rfl, first_same] at h3
  exact utf8Tabs_of_readsT (U8Types.of196 Tryd.laysValid) ⟨by kernel_rfl, by kernel_rfl, by kernel_rfl, by kernel_rfl, by kernel_rfl, by kernel_rfl, by kernel_rfl⟩ h3 h4
end Go.Proofs.YtdckhaejhfkkbaaDoor
end
section
namespace Go.Proofs.YtdckhaejhfkkbaaDoor
open Go.RowKit Go.Proofs.YtdckhaejhfkkbaaDoorW.PrintWords Go.Proofs.YtdckhaejhfkkbaaDoorW.PrintMore Go.Proofs.YtdckhaejhfkkbaaDoorW.PrintLast Go.Deep
set_option linter.unusedVariables false
section
variable {H : Type} {enc : TypeId × Value → H} {P : Program} {w : World} {base : Nat} {spare : Nat → Bool} {held : Bool}
theorem opens_iso {α β : Type} {d : Kd α} {wf : α → Prop} {t : TypeId} (f : β → α) (g : α → β) (hg : ∀ y, f (g y) = y) (h : Opens enc P w base spare held t d wf) :
    Opens enc P w base spare held t (Kd.iso d f) (fun x => wf (f x)) := by
  intro fuel cs x hx
  obtain ⟨a, hK, hw⟩ := h fuel cs x hx
  refine ⟨g a, ?_, ?_⟩
  · show d.K w (f (g a)) cs
    rw [hg]
    exact hK
  · show wf (f (g a))
    rw [hg]
    exact hw
theorem opens_val {α : Type} {d : Kd α} {wf : α → Prop} {t : TypeId} {cs : Array Value} {x : DataW H} {ps : List MemPlace} (h : Opens enc P w base spare held t d wf)
    (hT : DataW.Trod enc P w base spare held t (.agg cs) x ps) : ∃ a, d.K w a cs.toList ∧ wf a := by
  obtain ⟨fuel, hf⟩ := hT
  exact h fuel _ _ hf
end
end Go.Proofs.YtdckhaejhfkkbaaDoor
end
