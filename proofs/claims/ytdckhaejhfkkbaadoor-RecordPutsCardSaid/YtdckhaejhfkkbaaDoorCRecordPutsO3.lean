import Derived.Test.YtdckhaejhfkkbaaDoorCRecordPutsQ4
import Derived.Test.YtdckhaejhfkkbaaDoorCRecordPutsRB
import Derived.Test.YtdckhaejhfkkbaaDoorCRecordPutsPRTx6
import Derived.Test.YtdckhaejhfkkbaaDoorCRecordPutsPRTx16
import Derived.Test.YtdckhaejhfkkbaaDoorCRecordPutsPRTx8
import Derived.Test.YtdckhaejhfkkbaaDoorCRecordPutsPRTx18
import Derived.Test.YtdckhaejhfkkbaaDoorCRecordPutsPRTx19
import Derived.Test.YtdckhaejhfkkbaaDoorCRecordPutsG0
import Derived.Lib.LaidU8
import Derived.LaidMore
import Derived.Test.YtdckhaejhfkkbaaDoorCRecordPutsPRTx21
import Derived.Test.YtdckhaejhfkkbaaDoorRows
import Derived.Lib.LaidU8T
namespace Go.Proofs.YtdckhaejhfkkbaaDoor.Bq
end Go.Proofs.YtdckhaejhfkkbaaDoor.Bq
section
namespace Go.Proofs.YtdckhaejhfkkbaaDoor.Pu
open Go Go.RowKit Go.Proofs.YtdckhaejhfkkbaaDoor Go.Proofs.YtdckhaejhfkkbaaDoor.PRT Go.Proofs.YtdckhaejhfkkbaaDoorW.PrintWords Go.Proofs.YtdckhaejhfkkbaaDoorW.PrintLast Go.Proofs.YtdckhaejhfkkbaaDoorW.PrintMore Bq
set_option linter.unusedVariables false
set_option linter.unusedSimpArgs false
def entsB (l : List Ent) : Int := if ∃ x ∈ l, x.f0 = 0 ∨ x.f1.f2 = 0 then 1 else 0
theorem entsB_bad {x : Ent} {l : List Ent} (h : x.f0 = 0 ∨ x.f1.f2 = 0) : entsB (x :: l) = 1 := by
  unfold entsB
  rw [if_pos ⟨x, List.mem_cons_self, h⟩]
theorem entsB_ok {x : Ent} {l : List Ent} (h0 : ¬ x.f0 = 0) (h1 : ¬ x.f1.f2 = 0) : entsB (x :: l) = entsB l := by
  unfold entsB
  by_cases h : ∃ y ∈ l, y.f0 = 0 ∨ y.f1.f2 = 0
  · rw [if_pos h, if_pos]
    obtain ⟨y, hy, h2⟩ := h
    exact ⟨y, List.mem_cons_of_mem _ hy, h2⟩
  · rw [if_neg h, if_neg]
    rintro ⟨y, hy, h2⟩
    rcases List.mem_cons.1 hy with rfl | hy
    · exact h2.elim h0 h1
    · exact h ⟨y, hy, h2⟩
def checkB (a0 a1 : Int) (l2 : List Lab) (l : List Ent) : Int :=
  if a0 = 1 then (if a1 = 0 then 1 else if 0 < l.length then 1 else rightB l2)
  else if a0 = 2 then (if a1 = 0 then (if 0 < l2.length then 1 else if l.length = 0 then 1 else if 256 < l.length then 3 else entsB l) else 1) else 130
theorem record_Check_l0 (l : List Ent) (hl : l.length ≤ 1000000000) : ∀ (d n : Nat), n + d = l.length → Ev (fun k => record_Check.l0 k l (l.length : Int) (n : Int)) (entsB (l.drop n))
  | 0, n, hd => by
    refine Ev.step (f := _) (fun k => by simp only [record_Check.l0]; rfl) ?_
    simp only [if_neg (show ¬ (n : Int) < (l.length : Int) by omega)]
    rw [List.drop_of_length_le (by omega)]
    exact Ev.now _
  | d + 1, n, hd => by
    refine Ev.step (f := _) (fun k => by simp only [record_Check.l0]; rfl) ?_
    rw [dropE l n (by omega)]
    simp only [if_pos (show (n : Int) < (l.length : Int) by omega), if_pos (show (0 : Int) ≤ (n : Int) by omega), rdE, w1 n (by omega)]
    by_cases h0 : (l.getD n z45).f0 = 0
    · simp only [if_pos h0]
      rw [entsB_bad (.inl h0)]
      exact Ev.now _
    · by_cases h1 : (l.getD n z45).f1.f2 = 0
      · simp only [if_neg h0, if_pos h1]
        rw [entsB_bad (.inr h1)]
        exact Ev.now _
      · simp only [if_neg h0, if_neg h1]
        rw [entsB_ok h0 h1]
        exact record_Check_l0 l hl d (n + 1) (by omega)
theorem record_Check_j0t (a0 a1 : Int) (l2 : List Lab) (l : List Ent) : Ev (fun k => record_Check.j0 k true a0 a1 l2 l) 1 := by
  refine Ev.step (f := _) (fun k => by simp only [record_Check.j0]; rfl) ?_
  simp only [if_true]
  exact Ev.now _
theorem record_Check_j0f (a0 a1 : Int) (l2 : List Lab) (l : List Ent) (hl : l.length ≤ 1000000000) : Ev (fun k => record_Check.j0 k false a0 a1 l2 l) (if 256 < l.length then 3 else entsB l) := by
  refine Ev.step (f := _) (fun k => by simp only [record_Check.j0]; rfl) ?_
  simp only [Bool.false_eq_true, if_false]
  by_cases h : 256 < l.length
  · simp only [if_pos h, if_pos (show (l.length : Int) > 256 by omega)]
    exact Ev.now _
  · simp only [if_neg h, if_neg (show ¬ (l.length : Int) > 256 by omega)]
    exact record_Check_l0 l hl l.length 0 (by omega)
theorem record_Check_ev (a0 a1 : Int) (l2 : List Lab) (l : List Ent) (hs : Sm l2) (hl : l.length ≤ 1000000000) : Ev (fun k => record_Check.f k a0 a1 l2 l) (checkB a0 a1 l2 l) := by
  unfold record_Check.f checkB
  by_cases c1 : a0 = 1
  · simp only [if_pos c1]
    by_cases z1 : a1 = 0
    · simp only [if_pos z1]
      exact Ev.now _
    · by_cases z2 : 0 < l.length
      · simp only [if_neg z1, if_pos z2, if_pos (show (l.length : Int) > 0 by omega)]
        exact Ev.now _
      · simp only [if_neg z1, if_neg z2, if_neg (show ¬ (l.length : Int) > 0 by omega)]
        exact Ev.bind (Right_ev l2 hs).1 (Ev.now _)
  · by_cases c2 : a0 = 2
    · simp only [if_neg c1, if_pos c2]
      by_cases z1 : a1 = 0
      · by_cases z2 : 0 < l2.length
        · simp only [if_pos z1, if_pos z2, if_pos (show (l2.length : Int) > 0 by omega)]
          exact record_Check_j0t _ _ _ _
        · by_cases z3 : l.length = 0
          · simp only [if_pos z1, if_neg z2, if_pos z3, if_neg (show ¬ (l2.length : Int) > 0 by omega), show ((l.length : Int) == 0) = true by simp [z3]]
            exact record_Check_j0t _ _ _ _
          · simp only [if_pos z1, if_neg z2, if_neg z3, if_neg (show ¬ (l2.length : Int) > 0 by omega), show ((l.length : Int) == 0) = false from beq_eq_false_iff_ne.2 (by omega)]
            exact record_Check_j0f _ _ _ _ hl
      · simp only [if_neg z1]
        exact record_Check_j0t _ _ _ _
    · simp only [if_neg c1, if_neg c2]
      exact Ev.now _
theorem manometerref13_Check_l0 (l : List Ent) (hl : l.length ≤ 1000000000) : ∀ (d n : Nat), n + d = l.length → Ev (fun k => manometerref13_Check.l0 k l (l.length : Int) (n : Int)) (entsB (l.drop n))
  | 0, n, hd => by
    refine Ev.step (f := _) (fun k => by simp only [manometerref13_Check.l0]; rfl) ?_
    simp only [if_neg (show ¬ (n : Int) < (l.length : Int) by omega)]
    rw [List.drop_of_length_le (by omega)]
    exact Ev.now _
  | d + 1, n, hd => by
    refine Ev.step (f := _) (fun k => by simp only [manometerref13_Check.l0]; rfl) ?_
    rw [dropE l n (by omega)]
    simp only [if_pos (show (n : Int) < (l.length : Int) by omega), if_pos (show (0 : Int) ≤ (n : Int) by omega), rdE, w1 n (by omega)]
    by_cases h0 : (l.getD n z45).f0 = 0
    · simp only [if_pos h0]
      rw [entsB_bad (.inl h0)]
      exact Ev.now _
    · by_cases h1 : (l.getD n z45).f1.f2 = 0
      · simp only [if_neg h0, if_pos h1]
        rw [entsB_bad (.inr h1)]
        exact Ev.now _
      · simp only [if_neg h0, if_neg h1]
        rw [entsB_ok h0 h1]
        exact manometerref13_Check_l0 l hl d (n + 1) (by omega)
theorem manometerref13_Check_j0t (a0 a1 : Int) (l2 : List Lab) (l : List Ent) : Ev (fun k => manometerref13_Check.j0 k true a0 a1 l2 l) 1 := by
  refine Ev.step (f := _) (fun k => by simp only [manometerref13_Check.j0]; rfl) ?_
  simp only [if_true]
  exact Ev.now _
theorem manometerref13_Check_j0f (a0 a1 : Int) (l2 : List Lab) (l : List Ent) (hl : l.length ≤ 1000000000) : Ev (fun k => manometerref13_Check.j0 k false a0 a1 l2 l) (if 256 < l.length then 3 else entsB l) := by
  refine Ev.step (f := _) (fun k => by simp only [manometerref13_Check.j0]; rfl) ?_
  simp only [Bool.false_eq_true, if_false]
  by_cases h : 256 < l.length
  · simp only [if_pos h, if_pos (show (l.length : Int) > 256 by omega)]
    exact Ev.now _
  · simp only [if_neg h, if_neg (show ¬ (l.length : Int) > 256 by omega)]
    exact manometerref13_Check_l0 l hl l.length 0 (by omega)
theorem manometerref13_Check_ev (a0 a1 : Int) (l2 : List Lab) (l : List Ent) (hs : Sm l2) (hl : l.length ≤ 1000000000) : Ev (fun k => manometerref13_Check.f k a0 a1 l2 l) (checkB a0 a1 l2 l) := by
  unfold manometerref13_Check.f checkB
  by_cases c1 : a0 = 1
  · simp only [if_pos c1]
    by_cases z1 : a1 = 0
    · simp only [if_pos z1]
      exact Ev.now _
    · by_cases z2 : 0 < l.length
      · simp only [if_neg z1, if_pos z2, if_pos (show (l.length : Int) > 0 by omega)]
        exact Ev.now _
      · simp only [if_neg z1, if_neg z2, if_neg (show ¬ (l.length : Int) > 0 by omega)]
        exact Ev.bind (Right_ev l2 hs).2 (Ev.now _)
  · by_cases c2 : a0 = 2
    · simp only [if_neg c1, if_pos c2]
      by_cases z1 : a1 = 0
      · by_cases z2 : 0 < l2.length
        · simp only [if_pos z1, if_pos z2, if_pos (show (l2.length : Int) > 0 by omega)]
          exact manometerref13_Check_j0t _ _ _ _
        · by_cases z3 : l.length = 0
          · simp only [if_pos z1, if_neg z2, if_pos z3, if_neg (show ¬ (l2.length : Int) > 0 by omega), show ((l.length : Int) == 0) = true by simp [z3]]
            exact manometerref13_Check_j0t _ _ _ _
          · simp only [if_pos z1, if_neg z2, if_neg z3, if_neg (show ¬ (l2.length : Int) > 0 by omega), show ((l.length : Int) == 0) = false from beq_eq_false_iff_ne.2 (by omega)]
            exact manometerref13_Check_j0f _ _ _ _ hl
      · simp only [if_neg z1]
        exact manometerref13_Check_j0t _ _ _ _
    · simp only [if_neg c1, if_neg c2]
      exact Ev.now _
def ptL (r t s : Int) (x : Ent) : List Int := vI (wrap64 (wrap64 x.f0 - wrap64 r)) ++ vI (wrap64 (x.f1.f0 - t)) ++ vI (wrap64 (IntKind.u64.wrap (x.f1.f2 - s))) ++ be8 x.f1.f1
def ptsL : List Ent → Int → Int → Int → List Int
  | [], _, _, _ => []
  | x :: l, r, t, s => ptL r t s x ++ ptsL l x.f0 x.f1.f0 x.f1.f2
theorem w64_bd (x : Int) : -9223372036854775808 ≤ wrap64 x ∧ wrap64 x ≤ 9223372036854775807 := by unfold wrap64; omega
theorem vI_wlen (x : Int) : (vI (wrap64 x)).length ≤ 10 := vI_len _ (w64_bd x).1 (w64_bd x).2
theorem ptL_len (r t s : Int) (x : Ent) : (ptL r t s x).length ≤ 38 := by
  unfold ptL
  rw [List.length_append, List.length_append, List.length_append, be8_length]
  have := vI_wlen (wrap64 x.f0 - wrap64 r)
  have := vI_wlen (x.f1.f0 - t)
  have := vI_wlen (IntKind.u64.wrap (x.f1.f2 - s))
  omega
theorem ptsL_len : ∀ (l : List Ent) (r t s : Int), (ptsL l r t s).length ≤ 38 * l.length
  | [], _, _, _ => by simp [ptsL]
  | x :: l, r, t, s => by
    unfold ptsL
    rw [List.length_append, List.length_cons]
    have := ptL_len r t s x
    have := ptsL_len l x.f0 x.f1.f0 x.f1.f2
    omega
theorem PV_ev (x : Int) : Ev (fun k => bits_PutVarint.f k (wrap64 x)) (vI (wrap64 x)) ∧ Ev (fun k => manometerref01_PutVarint.f k (wrap64 x)) (vI (wrap64 x)) := PutVarint_ev _ (w64_bd x).1 (w64_bd x).2
theorem recPts_ev : ∀ (l : List Ent) (r t s : Int) (out : List Int), out.length + 38 * l.length ≤ 1000000 → Ev (fun k => recPts k l r t s out) (out ++ ptsL l r t s)
  | [], r, t, s, out, h => by
    unfold recPts ptsL
    rw [List.append_nil]
    exact Ev.now _
  | x :: l, r, t, s, out, h => by
    rw [List.length_cons] at h
    have n1 := vI_wlen (wrap64 x.f0 - wrap64 r)
    have n2 := vI_wlen (x.f1.f0 - t)
    have n3 := vI_wlen (IntKind.u64.wrap (x.f1.f2 - s))
    have h1 := (PV_ev (wrap64 x.f0 - wrap64 r)).1
    have h2 := (PV_ev (x.f1.f0 - t)).1
    have h3 := (PV_ev (IntKind.u64.wrap (x.f1.f2 - s))).1
    have ih := recPts_ev l x.f0 x.f1.f0 x.f1.f2 (out ++ vI (wrap64 (wrap64 x.f0 - wrap64 r)) ++ vI (wrap64 (x.f1.f0 - t)) ++ vI (wrap64 (IntKind.u64.wrap (x.f1.f2 - s))) ++ be8 x.f1.f1) (by
      rw [List.length_append, List.length_append, List.length_append, List.length_append, be8_length]
      omega)
    unfold recPts ptsL ptL
    refine Ev.bind h1 (Ev.bind h2 (Ev.bind h3 ?_))
    rw [if_pos_fun (by omega)]
    simp only [List.append_assoc] at ih ⊢
    exact ih
def Okp (l : List Ent) : Prop := ∀ x ∈ l, 0 ≤ x.f1.f1 ∧ x.f1.f1 < 18446744073709551616
theorem ref_t (a t : Int) : wrap64 (IntKind.u64.wrap (IntKind.u64.wrap a - IntKind.u64.wrap t)) = wrap64 (a - t) := by
  simp only [IntKind.wrap_u64]
  unfold wrap64
  omega
theorem RPut_l0 (l : List Ent) (ho : Okp l) : ∀ (d n : Nat) (r t v s : Int) (out : List Int), n + d = l.length → out.length + 38 * d ≤ 1000000 → l.length ≤ 1000000 → Ev (fun k => manometerref13_Put.l0 k out l (l.length : Int) (n : Int) r t v s) (out ++ ptsL (l.drop n) r t s, 0)
  | 0, n, r, t, v, s, out, hd, h, hl => by
    refine Ev.step (f := _) (fun k => by simp only [manometerref13_Put.l0]; rfl) ?_
    simp only [if_neg (show ¬ (n : Int) < (l.length : Int) by omega)]
    rw [List.drop_of_length_le (by omega)]
    unfold ptsL
    rw [List.append_nil]
    exact Ev.now _
  | d + 1, n, r, t, v, s, out, hd, h, hl => by
    refine Ev.step (f := _) (fun k => by simp only [manometerref13_Put.l0]; rfl) ?_
    simp only [if_pos (show (n : Int) < (l.length : Int) by omega), if_pos (show (0 : Int) ≤ (n : Int) by omega), rdE, w1 n (by omega), ref_t]
    have hmem : l.getD n z45 ∈ l := by
      rw [List.getD_eq_getElem?_getD, List.getElem?_eq_getElem (show n < l.length by omega)]
      exact List.getElem_mem _
    have hv := ho _ hmem
    rw [dropE l n (by omega)]
    have hrec := RPut_l0 l ho d (n + 1)
    generalize l.getD n z45 = x at *
    obtain ⟨vn, hvn⟩ := Int.eq_ofNat_of_zero_le hv.1
    have n1 := vI_wlen (wrap64 x.f0 - wrap64 r)
    have n2 := vI_wlen (x.f1.f0 - t)
    have n3 := vI_wlen (IntKind.u64.wrap (x.f1.f2 - s))
    have h1 := (PV_ev (wrap64 x.f0 - wrap64 r)).2
    have h2 := (PV_ev (x.f1.f0 - t)).2
    have h3 := (PV_ev (IntKind.u64.wrap (x.f1.f2 - s))).2
    have h4 : Ev (fun k => manometerref01_Big.f k x.f1.f1) (be8 x.f1.f1) := by
      rw [hvn]
      exact Big_ev vn (by omega)
    have n4 := be8_length x.f1.f1
    refine Ev.bind h1 (Ev.bind h2 (Ev.bind h3 (Ev.bind h4 ?_)))
    have hj := Join_ev [out, vI (wrap64 (wrap64 x.f0 - wrap64 r)), vI (wrap64 (x.f1.f0 - t)), vI (wrap64 (IntKind.u64.wrap (x.f1.f2 - s))), be8 x.f1.f1] (by simp) (by
      simp only [List.flatten_cons, List.flatten_nil, List.length_append, List.length_nil]
      omega)
    refine Ev.bind hj ?_
    have ih := hrec x.f0 x.f1.f0 x.f1.f1 x.f1.f2 [out, vI (wrap64 (wrap64 x.f0 - wrap64 r)), vI (wrap64 (x.f1.f0 - t)), vI (wrap64 (IntKind.u64.wrap (x.f1.f2 - s))), be8 x.f1.f1].flatten (by omega) (by
      simp only [List.flatten_cons, List.flatten_nil, List.length_append, List.length_nil]
      omega) hl
    have e : [out, vI (wrap64 (wrap64 x.f0 - wrap64 r)), vI (wrap64 (x.f1.f0 - t)), vI (wrap64 (IntKind.u64.wrap (x.f1.f2 - s))), be8 x.f1.f1].flatten ++ ptsL (l.drop (n + 1)) x.f0 x.f1.f0 x.f1.f2 = out ++ ptsL (x :: l.drop (n + 1)) r t s := by
      conv => rhs; unfold ptsL ptL
      simp
    rw [e] at ih
    exact ih
def putR (a0 a1 : Int) (l2 : List Lab) (l : List Ent) : List Int × Int :=
  if checkB a0 a1 l2 l = 0 then ((if a0 = 1 then a0 % 256 :: (Bq.ints (uv a1.toNat) ++ (putB l2).1) else a0 % 256 :: (Bq.ints (uv l.length) ++ ptsL l 0 0 0)), 0) else ([], checkB a0 a1 l2 l)
theorem flat_len : ∀ (l : List Lab), (∀ x ∈ l, x.f0.size ≤ 100000 ∧ x.f1.size ≤ 100000) → (l.flatMap labL).length ≤ 200020 * l.length
  | [], _ => by simp
  | x :: l, h => by
    rw [List.flatMap_cons, List.length_append, List.length_cons]
    have h0 := h x List.mem_cons_self
    have := labL_len x h0.1 h0.2
    have := flat_len l (fun y hy => h y (List.mem_cons_of_mem _ hy))
    omega
theorem putB_len (l : List Lab) (h : l.length ≤ 40) (hs : ∀ x ∈ l, x.f0.size ≤ 100000 ∧ x.f1.size ≤ 100000) : (putB l).1.length ≤ 9000000 := by
  unfold putB
  split
  · show (putL l).length ≤ _
    unfold putL
    rw [List.length_append, Bq.ints_length]
    have := uv_len10 l.length (by omega)
    have := flat_len l hs
    omega
  · simp
theorem check_le {a0 a1 : Int} {l2 : List Lab} {l : List Ent} (h : checkB a0 a1 l2 l = 0) (h1 : ¬ a0 = 1) : l.length ≤ 256 := by
  unfold checkB at h
  rw [if_neg h1] at h
  split at h
  · split at h
    · split at h
      · omega
      · split at h
        · omega
        · split at h
          · omega
          · omega
    · omega
  · omega
theorem RPut_ev (a0 a1 : Int) (l2 : List Lab) (l : List Ent) (h40 : l2.length ≤ 40) (hs : ∀ x ∈ l2, x.f0.size ≤ 100000 ∧ x.f1.size ≤ 100000) (hl : l.length ≤ 1000000000) (ho : Okp l) (u0 : 0 ≤ a1) (u1 : a1 < 4294967296) : Ev (fun k => record_Put.f k a0 a1 l2 l) (putR a0 a1 l2 l) ∧ Ev (fun k => manometerref13_Put.f k a0 a1 l2 l) (putR a0 a1 l2 l) := by
  have hS : Sm l2 := ⟨by omega, hs⟩
  have k1 := record_Check_ev a0 a1 l2 l hS hl
  have k2 := manometerref13_Check_ev a0 a1 l2 l hS hl
  have e : (fun k => record_Put.f k a0 a1 l2 l) = fun k => recPut k a0 a1 l2 l := rfl
  rw [e]
  unfold recPut manometerref13_Put.f putR
  obtain ⟨n, rfl⟩ := Int.eq_ofNat_of_zero_le u0
  have hw : IntKind.u64.wrap (n : Int) = (n : Int) := wraps_u64n _ (by omega) (by omega)
  obtain ⟨p1, p2⟩ := PutUvarint_ev n (by omega)
  have q1 := uv_len10 n (by omega)
  have q2 := Bq.ints_length (uv n)
  have q3 := putB_len l2 h40 hs
  obtain ⟨b1, b2⟩ := Put_ev l2 hS
  by_cases hc : checkB a0 (n : Int) l2 l = 0
  · rw [if_pos hc]
    by_cases h1 : a0 = 1
    · rw [if_pos h1, hw, Int.toNat_natCast]
      constructor
      · refine Ev.bind k1 ?_
        simp only [if_pos hc, if_pos h1]
        refine Ev.bind p1 (Ev.bind b1 ?_)
        rw [if_pos_fun (by omega)]
        exact Ev.now _
      · refine Ev.bind k2 ?_
        simp only [if_pos hc, if_pos h1, Option.bind_some]
        refine Ev.bind b2 (Ev.bind p2 ?_)
        have hj := Join_ev [[a0 % 256], Bq.ints (uv n), (putB l2).1] (by simp) (by
          simp only [List.flatten_cons, List.flatten_nil, List.length_append, List.length_nil, List.length_cons]
          omega)
        have ej : [[a0 % 256], Bq.ints (uv n), (putB l2).1].flatten = a0 % 256 :: (Bq.ints (uv n) ++ (putB l2).1) := by simp
        rw [ej] at hj
        exact Ev.bind hj (Ev.now _)
    · rw [if_neg h1]
      have hle := check_le hc h1
      obtain ⟨m1, m2⟩ := PutUvarint_ev l.length (by omega)
      have g1 := uv_len10 l.length (by omega)
      have g2 := Bq.ints_length (uv l.length)
      have hwl : IntKind.u64.wrap (l.length : Int) = (l.length : Int) := wraps_u64n _ (by omega) (by omega)
      constructor
      · refine Ev.bind k1 ?_
        simp only [if_pos hc, if_neg h1]
        rw [if_pos_fun (by omega)]
        refine Ev.bind m1 ?_
        rw [if_pos_fun (by omega)]
        have := recPts_ev l 0 0 0 (a0 % 256 :: Bq.ints (uv l.length)) (by rw [List.length_cons]; omega)
        rw [List.cons_append] at this
        exact Ev.bind this (Ev.now _)
      · refine Ev.bind k2 ?_
        simp only [if_pos hc, if_neg h1, Option.bind_some, hwl]
        refine Ev.bind m2 ?_
        have hj := Join_ev [[a0 % 256], Bq.ints (uv l.length)] (by simp) (by
          simp only [List.flatten_cons, List.flatten_nil, List.length_append, List.length_nil, List.length_cons]
          omega)
        have ej : [[a0 % 256], Bq.ints (uv l.length)].flatten = a0 % 256 :: Bq.ints (uv l.length) := by simp
        rw [ej] at hj
        refine Ev.bind hj ?_
        have := RPut_l0 l ho l.length 0 0 0 0 0 (a0 % 256 :: Bq.ints (uv l.length)) (by omega) (by rw [List.length_cons]; omega) (by omega)
        rw [List.drop_zero, List.cons_append] at this
        exact this
  · rw [if_neg hc]
    constructor
    · refine Ev.bind k1 ?_
      simp only [if_neg hc]
      exact Ev.now _
    · refine Ev.bind k2 ?_
      simp only [if_neg hc]
      exact Ev.now _
theorem putR_len (a0 a1 : Int) (l2 : List Lab) (l : List Ent) (h40 : l2.length ≤ 40) (hs : ∀ x ∈ l2, x.f0.size ≤ 100000 ∧ x.f1.size ≤ 100000) (u0 : 0 ≤ a1) (u1 : a1 < 4294967296) : (putR a0 a1 l2 l).1.length ≤ 10000000 := by
  unfold putR
  split
  · rename_i hc
    have q1 := uv_len10 a1.toNat (by omega)
    have q3 := putB_len l2 h40 hs
    by_cases h1 : a0 = 1
    · simp only [if_pos h1, List.length_cons, List.length_append, Bq.ints_length]
      omega
    · have hle := check_le hc h1
      have g1 := uv_len10 l.length (by omega)
      have := ptsL_len l 0 0 0
      simp only [if_neg h1, List.length_cons, List.length_append, Bq.ints_length]
      omega
  · simp
theorem Size_ev (a0 a1 : Int) (l2 : List Lab) (l : List Ent) (h40 : l2.length ≤ 40) (hs : ∀ x ∈ l2, x.f0.size ≤ 100000 ∧ x.f1.size ≤ 100000) (hl : l.length ≤ 1000000000) (ho : Okp l) (u0 : 0 ≤ a1) (u1 : a1 < 4294967296) : Ev (fun k => record_Size.f k a0 a1 l2 l) ((putR a0 a1 l2 l).1.length : Int) := by
  unfold record_Size.f
  exact Ev.bind (RPut_ev a0 a1 l2 l h40 hs hl ho u0 u1).1 (Ev.now _)
theorem recordPuts (a0 a1 : Int) (l2 : List Lab) (l : List Ent) (ho : Okp l) (u0 : 0 ≤ a1) (u1 : a1 < 4294967296) : ∃ k, manometerlaw13_RecordPuts.f k a0 a1 l2 l = some true := by
  refine Ev.rounds (g := fun k => manometerlaw13_RecordPuts.f k a0 a1 l2 l) ?_
  unfold manometerlaw13_RecordPuts.f
  refine Ev.bind live_ev ?_
  simp only [if_true]
  obtain ⟨r, hr, hp⟩ := few_ev a0 a1 l2 l
  refine Ev.bind hr ?_
  refine Ev.step (f := _) (fun k => by simp only [manometerlaw13_RecordPuts.j0]; rfl) ?_
  cases r with
  | false =>
    simp only [Bool.not_false, if_true]
    exact Ev.bind live_ev (Ev.now _)
  | true =>
    obtain ⟨⟨h40, h400⟩, hs0⟩ := hp rfl
    have hs : ∀ x ∈ l2, x.f0.size ≤ 100000 ∧ x.f1.size ≤ 100000 := fun x hx => by have := hs0 x hx; omega
    have hS : Sm l2 := ⟨by omega, hs⟩
    simp only [Bool.not_true, Bool.false_eq_true, if_false]
    obtain ⟨p1, p2⟩ := RPut_ev a0 a1 l2 l h40 hs (by omega) ho u0 u1
    refine Ev.bind p1 (Ev.bind p2 ?_)
    have hlen := putR_len a0 a1 l2 l h40 hs u0 u1
    have he := Equal_ev (putR a0 a1 l2 l).1 (putR a0 a1 l2 l).1 (by omega)
    rw [decide_eq_true rfl] at he
    refine Ev.bind he ?_
    simp only [if_true, if_pos trivial]
    refine Ev.bind (record_Check_ev a0 a1 l2 l hS (by omega)) (Ev.bind (manometerref13_Check_ev a0 a1 l2 l hS (by omega)) ?_)
    simp only [if_true, if_pos trivial]
    refine Ev.bind (Size_ev a0 a1 l2 l h40 hs (by omega) ho u0 u1) ?_
    rw [beq_self_eq_true]
    exact Ev.now _
end Go.Proofs.YtdckhaejhfkkbaaDoor.Pu
end
section
namespace Go.Proofs.YtdckhaejhfkkbaaDoor
open Go.RowKit
set_option linter.unusedVariables false
theorem laid_plain {P : Program} {w : World} {l : List (String × DataW Unit)} (h : laidMetH P l w) (hf : (l.filter fun x => x.2.handleName?.isSome).isEmpty = true) : laidMet P l w := by
  unfold laidMetH at h
  split at h
  · exact h
  · rename_i h2
    rw [h2] at hf
    cases hf
end Go.Proofs.YtdckhaejhfkkbaaDoor
end
section
namespace Go.Proofs.YtdckhaejhfkkbaaDoor
open Go Go.RowKit Go.Shelf
set_option linter.unusedVariables false
theorem first_same : Go.Pinned.utf8First = Lib.firstData := by kernel_rfl
theorem accept_same : (Rows.laid_unicode_utf8_acceptRanges : DataW Unit) = Lib.acceptData := by kernel_rfl
theorem tab_of {w : World} (h : laidMetH Tryd.prog [("unicode/utf8.acceptRanges", Rows.laid_unicode_utf8_acceptRanges), ("unicode/utf8.first", Rows.laid_unicode_utf8_first)] w) : Tab w := by
  have hp := laid_plain h (by kernel_rfl)
  have h4 := Lib.laidMet.reads hp (List.Mem.head _)
  have h3 := Lib.laidMet.reads hp (List.Mem.tail _ (List.Mem.head _))
  rw [accept_same] at h4
  rw [show Rows.laid_unicode_utf8_first = Go.Pinned.utf8First from rfl, first_same] at h3
  exact utf8Tabs_of_readsT (U8Types.of196 Tryd.laysValid) ⟨by kernel_rfl, by kernel_rfl, by kernel_rfl, by kernel_rfl, by kernel_rfl, by kernel_rfl, by kernel_rfl⟩ h3 h4
end Go.Proofs.YtdckhaejhfkkbaaDoor
end
section
namespace Go.Proofs.YtdckhaejhfkkbaaDoor
open Go.RowKit Go.Proofs.YtdckhaejhfkkbaaDoorW.PrintWords Go.Proofs.YtdckhaejhfkkbaaDoorW.PrintMore Go.Proofs.YtdckhaejhfkkbaaDoorW.PrintLast Go.Deep
set_option linter.unusedVariables false
section
variable {H : Type} {enc : TypeId × Value → H} {P : Program} {w : World} {base : Nat} {spare : Nat → Bool} {held : Bool}
theorem opens_iso {α β : Type} {d : Kd α} {wf : α → Prop} {t : TypeId} (f : β → α) (g : α → β) (hg : ∀ y, f (g y) = y) (h : Opens enc P w base spare held t d wf) :
    Opens enc P w base spare held t (Kd.iso d f) (fun x => wf (f x)) := by
  intro fuel cs x hx
  obtain ⟨a, hK, hw⟩ := h fuel cs x hx
  refine ⟨g a, ?_, ?_⟩
  · show d.K w (f (g a)) cs
    rw [hg]
    exact hK
  · show wf (f (g a))
    rw [hg]
    exact hw
theorem opens_val {α : Type} {d : Kd α} {wf : α → Prop} {t : TypeId} {cs : Array Value} {x : DataW H} {ps : List MemPlace} (h : Opens enc P w base spare held t d wf)
    (hT : DataW.Trod enc P w base spare held t (.agg cs) x ps) : ∃ a, d.K w a cs.toList ∧ wf a := by
  obtain ⟨fuel, hf⟩ := hT
  exact h fuel _ _ hf
end
end Go.Proofs.YtdckhaejhfkkbaaDoor
end
