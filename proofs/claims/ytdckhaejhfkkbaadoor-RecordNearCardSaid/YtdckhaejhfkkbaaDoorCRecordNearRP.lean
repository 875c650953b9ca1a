import Derived.Test.YtdckhaejhfkkbaaDoorCRecordNearPRTx0
import Derived.Test.YtdckhaejhfkkbaaDoorCRecordNearPRTx21
import Derived.Test.YtdckhaejhfkkbaaDoorCRecordNearPRTx6
import Derived.Test.YtdckhaejhfkkbaaDoorCRecordNearPRTx9
import Derived.Test.YtdckhaejhfkkbaaDoorCRecordNearPRTx17
import Derived.Test.YtdckhaejhfkkbaaDoorCRecordNearG1
import Derived.Test.YtdckhaejhfkkbaaDoorCRecordNearRL
import Derived.Test.YtdckhaejhfkkbaaDoorCRecordNearPRTx8
namespace Go.Proofs.YtdckhaejhfkkbaaDoor.Bq
end Go.Proofs.YtdckhaejhfkkbaaDoor.Bq
section
namespace Go.Proofs.YtdckhaejhfkkbaaDoor.PRT
open Go.RowKit Go.Proofs.YtdckhaejhfkkbaaDoorW.PrintWords Go.Proofs.YtdckhaejhfkkbaaDoorW.PrintLast Go.Proofs.YtdckhaejhfkkbaaDoorW.PrintMore
attribute [local go_sem] max2_int min2_int max_two min_two max_three min_three max_four min_four
set_option linter.unusedVariables false
set_option linter.unusedSimpArgs false
attribute [local go_sem high] eqA45
end Go.Proofs.YtdckhaejhfkkbaaDoor.PRT
end
section
namespace Go.Proofs.YtdckhaejhfkkbaaDoor.PRT
open Go.RowKit Go.Proofs.YtdckhaejhfkkbaaDoorW.PrintWords Go.Proofs.YtdckhaejhfkkbaaDoorW.PrintLast Go.Proofs.YtdckhaejhfkkbaaDoorW.PrintMore
attribute [local go_sem] max2_int min2_int max_two min_two max_three min_three max_four min_four
set_option linter.unusedVariables false
set_option linter.unusedSimpArgs false
end Go.Proofs.YtdckhaejhfkkbaaDoor.PRT
end
section
namespace Go.Proofs.YtdckhaejhfkkbaaDoor.Pu
open Go Go.RowKit Go.Proofs.YtdckhaejhfkkbaaDoor Go.Proofs.YtdckhaejhfkkbaaDoor.PRT Go.Proofs.YtdckhaejhfkkbaaDoorW.PrintWords Go.Proofs.YtdckhaejhfkkbaaDoorW.PrintLast Go.Proofs.YtdckhaejhfkkbaaDoorW.PrintMore
set_option linter.unusedVariables false
set_option linter.unusedSimpArgs false
abbrev Ent := S45
theorem rdE (l : List Ent) (n : Nat) : rd_T45 l (n : Int) = l.getD n z45 := by unfold rd_T45; rw [Int.toNat_natCast]
theorem dropE (l : List Ent) (n : Nat) (h : n < l.length) : l.drop n = l.getD n z45 :: l.drop (n + 1) := by
  rw [List.drop_eq_getElem_cons h, List.getD_eq_getElem?_getD, List.getElem?_eq_getElem h]
  rfl
theorem if_pos_fun {α : Type} {c : Prop} [Decidable c] {f g : Nat → Option α} (h : c) : (fun k => if c then f k else g k) = f := by funext k; rw [if_pos h]
theorem live_60 : manometerlaw13_live.f 60 = some true := by kernel_rfl
theorem live_ev : Ev (fun k => manometerlaw13_live.f k) true := Ev.of manometerlaw13_live.mono live_60
end Go.Proofs.YtdckhaejhfkkbaaDoor.Pu
end
section
namespace Go.Proofs.YtdckhaejhfkkbaaDoor.PRT
open Go.RowKit Go.Proofs.YtdckhaejhfkkbaaDoorW.PrintWords Go.Proofs.YtdckhaejhfkkbaaDoorW.PrintLast Go.Proofs.YtdckhaejhfkkbaaDoorW.PrintMore
attribute [local go_sem] max2_int min2_int max_two min_two max_three min_three max_four min_four
set_option linter.unusedVariables false
set_option linter.unusedSimpArgs false
def record_Size.f (k : Nat) (a0_0 : Int) (a0_1 : Int) (l0_2 : List (S52)) (l0_3 : List (S45)) : Option (Int) := (record_Put.f k a0_0 a0_1 l0_2 l0_3).bind fun bt550 => (some (bt550.1.length : Int))
set_option maxHeartbeats 8000000 in
set_option maxRecDepth 100000 in
theorem record_Size.calls (k : Nat) (a0_0 : Int) (a0_1 : Int) (A0_2 : Option Addr) (c0_2 : Nat) (l0_2 : List (S52)) (A0_3 : Option Addr) (c0_3 : Nat) (l0_3 : List (S45)) (r : Int) (w : World) (hT : Aside0 (Tab w)) (hr0_2 : Kd.C k52 w A0_2 l0_2.length l0_2) (hc0_2 : l0_2.length ≤ c0_2) (hr0_3 : Kd.C k45 w A0_3 l0_3.length l0_3) (hc0_3 : l0_3.length ≤ c0_3) (h : record_Size.f k a0_0 a0_1 l0_2 l0_3 = some r) :
  Calls Tryd.prog 18 #[.agg #[.int .i64 a0_0, .int .u32 a0_1, .slice A0_2 l0_2.length c0_2, .slice A0_3 l0_3.length c0_3]] w fun e w' => e = .returned (.int .i64 r) ∧ Below w.heap.size w w' := by
 have hu29 := Tryd.underlying29
 have HR0_2 := Aside0.mk hr0_2
 have HC0_2 := Aside0.mk hc0_2
 clear hr0_2 hc0_2
 have HR0_3 := Aside0.mk hr0_3
 have HC0_3 := Aside0.mk hc0_3
 clear hr0_3 hc0_3
 have HB := Aside0.mk (Below.refl w.heap.size w)
 have H : ((record_Put.f k a0_0 a0_1 l0_2 l0_3).bind fun bt550 => (some (bt550.1.length : Int))) = some r := h
 clear h
 replace H := Option.bind_eq_some_iff.mp H
 obtain ⟨⟨t550, t553⟩, A20, H⟩ := H
 replace H : (some (t550.length : Int)) = some r := H
 have A2 := Aside0.mk A20
 clear A20
 obtain rfl := Option.some.inj H
 go_enter Tryd.func18, Tryd.ntmps18
 go_wp2_with (first | ((with_reducible refine gate_dst (N := 1) rfl ?_); refine box_event ?hg (N := 1) ?hd (cs := #[.int .i64 a0_0, .int .u32 a0_1, .slice A0_2 l0_2.length c0_2, .slice A0_3 l0_3.length c0_3]) (t := 29) ?hr ?_; (case hd => rfl); (case hg => rfl); (case hr => first | (go_simp; done) | (go_simp; rfl)); intro gb549 hg w3 hbox hb; have n0_ := Aside0.mk (below_step y1_ hb); have n1_ := Aside0.mk (hbox); have n2_ := Aside0.mk ((y17_ : w.heap.size ≤ gb549)); have n3_ := Aside0.mk ((y17_ : w.heap.size ≤ gb549)); clear HB; have HB := n0_; have BK549 := n1_; have GW549 := n2_; have GE549 := n3_; clear n0_ n1_ n2_ n3_; clear hb hbox hg; have hcz4_0 : w3.cell? ⟨gb549, 0, none⟩ = some (.int .i64 a0_0) := (blk_cell BK549.out 0).trans rfl; have hcz4_1 : w3.cell? ⟨gb549, 1, none⟩ = some (.int .u32 a0_1) := (blk_cell BK549.out 1).trans rfl; have hcz4_2 : w3.cell? ⟨gb549, 2, none⟩ = some (.slice A0_2 l0_2.length c0_2) := (blk_cell BK549.out 2).trans rfl; have hcz4_3 : w3.cell? ⟨gb549, 3, none⟩ = some (.slice A0_3 l0_3.length c0_3) := (blk_cell BK549.out 3).trans rfl; have hfz4_0 := blk_frozen BK549.out 0; have hfz4_1 := blk_frozen BK549.out 1; have hfz4_2 := blk_frozen BK549.out 2; have hfz4_3 := blk_frozen BK549.out 3) | ((with_reducible refine gate_callee (f := 13) rfl ?_); refine goesL_ (some 7) rfl rfl Tryd.func13 (by kernel_rfl) rfl #[.agg #[.int .i64 a0_0, .int .u32 a0_1, .slice A0_2 l0_2.length c0_2, .slice A0_3 l0_3.length c0_3]] rfl y2_ ?_; (with_reducible refine (record_Put.calls k a0_0 a0_1 _ _ l0_2 _ _ l0_3 t550 t553 _ ?side1 ?side2 ?side3 ?side4 ?side5 A2.out).mono ?_); (case side1 => exact ⟨Tab_below hT.out y49_⟩); (case side2 => repeat (first | exact (Kd.C_below HR0_2.out HB.out) | (with_reducible refine Kd.C_alloc ?_ _) | (with_reducible refine Kd.C_drewN ?_ _) | (with_reducible refine Kd.C_drew ?_))); (case side3 => exact HC0_2.out); (case side4 => repeat (first | exact (Kd.C_below HR0_3.out HB.out) | (with_reducible refine Kd.C_alloc ?_ _) | (with_reducible refine Kd.C_drewN ?_ _) | (with_reducible refine Kd.C_drew ?_))); (case side5 => exact HC0_3.out); rintro e w5 ⟨v551, rfl, ho0, hb⟩; refine ⟨_, rfl, ?_⟩; have n0_ := Aside0.mk (Kd.R_lower ho0 (below_size y49_)); have n1_ := Aside0.mk (blk_below (g := gb549) (o := .cells #[.int .i64 a0_0, .int .u32 a0_1, .slice A0_2 l0_2.length c0_2, .slice A0_3 l0_3.length c0_3] 29 (0, 0)) (by (with_reducible repeat (first | refine blk_drewN ?_ _ | refine blk_drew ?_ | refine blk_alloc ?_ _)); exact BK549.out) hb); have n2_ := Aside0.mk (below_step y49_ hb); clear BK549; clear HB; have HO552 := n0_; have BK549 := n1_; have HB := n2_; clear n0_ n1_ n2_; (try clear hb); (try clear hb2); (try clear hk); (try clear hi); (try clear ho0); obtain ⟨Ao6, co6, eo6⟩ := Kd.R_slice HO552.out; subst eo6))
 go_ret
 exact ⟨y7_, y49_⟩
end Go.Proofs.YtdckhaejhfkkbaaDoor.PRT
end
section
namespace Go.Proofs.YtdckhaejhfkkbaaDoor.Pu
open Go Go.RowKit Go.Proofs.YtdckhaejhfkkbaaDoor Go.Proofs.YtdckhaejhfkkbaaDoor.PRT Go.Proofs.YtdckhaejhfkkbaaDoorW.PrintWords Go.Proofs.YtdckhaejhfkkbaaDoorW.PrintLast Go.Proofs.YtdckhaejhfkkbaaDoorW.PrintMore Bq
set_option linter.unusedVariables false
set_option linter.unusedSimpArgs false
theorem be8_length (v : Int) : (be8 v).length = 8 := by simp [be8]
theorem zigI_bd (n : Int) (h0 : -9223372036854775808 ≤ n) (h1 : n ≤ 9223372036854775807) : 0 ≤ zigI n ∧ zigI n < 18446744073709551616 := by unfold zigI; split <;> omega
theorem Zig_eq (n : Int) (h0 : -9223372036854775808 ≤ n) (h1 : n ≤ 9223372036854775807) : bits_Zig.f n = some (zigI n) ∧ manometerref01_Zig.f n = some (zigI n) := by
  constructor
  · unfold bits_Zig.f
    have e : wrap64 (n * 2) = IntKind.i64.wrap (n * 2) := by rw [IntKind.wrap_i64]; unfold wrap64; omega
    rw [e, zig_bits n h0 h1]
  · unfold manometerref01_Zig.f zigI
    split
    · rename_i h
      have e1 : wrap64 (n + 1) = n + 1 := w64 (by omega) (by omega)
      have e2 : wrap64 (-(n + 1)) = -(n + 1) := w64 (by omega) (by omega)
      rw [e1, e2]
      simp only [IntKind.wrap_u64]
      congr 1
      omega
    · simp only [IntKind.wrap_u64]
      congr 1
      omega
def vI (n : Int) : List Int := Bq.ints (uv (zigI n).toNat)
theorem vI_len (n : Int) (h0 : -9223372036854775808 ≤ n) (h1 : n ≤ 9223372036854775807) : (vI n).length ≤ 10 := by
  unfold vI
  rw [Bq.ints_length]
  have := zigI_bd n h0 h1
  exact uv_len10 (zigI n).toNat (by omega)
theorem PutVarint_ev (n : Int) (h0 : -9223372036854775808 ≤ n) (h1 : n ≤ 9223372036854775807) : Ev (fun k => bits_PutVarint.f k n) (vI n) ∧ Ev (fun k => manometerref01_PutVarint.f k n) (vI n) := by
  obtain ⟨e1, e2⟩ := Zig_eq n h0 h1
  have hz := zigI_bd n h0 h1
  obtain ⟨z, hz2⟩ := Int.eq_ofNat_of_zero_le hz.1
  obtain ⟨p1, p2⟩ := PutUvarint_ev z (by omega)
  unfold bits_PutVarint.f manometerref01_PutVarint.f vI
  rw [e1, e2, hz2]
  simp only [Option.bind_some, Int.toNat_natCast]
  exact ⟨Ev.bind p1 (Ev.now _), Ev.bind p2 (Ev.now _)⟩
end Go.Proofs.YtdckhaejhfkkbaaDoor.Pu
end
section
namespace Go.Proofs.YtdckhaejhfkkbaaDoor.PRT
open Go.RowKit Go.Proofs.YtdckhaejhfkkbaaDoorW.PrintWords Go.Proofs.YtdckhaejhfkkbaaDoorW.PrintLast Go.Proofs.YtdckhaejhfkkbaaDoorW.PrintMore
attribute [local go_sem] max2_int min2_int max_two min_two max_three min_three max_four min_four
set_option linter.unusedVariables false
set_option linter.unusedSimpArgs false
end Go.Proofs.YtdckhaejhfkkbaaDoor.PRT
end
section
namespace Go.Proofs.YtdckhaejhfkkbaaDoor.Pu
open Go Go.RowKit Go.Proofs.YtdckhaejhfkkbaaDoor Go.Proofs.YtdckhaejhfkkbaaDoor.PRT Go.Proofs.YtdckhaejhfkkbaaDoorW.PrintWords Go.Proofs.YtdckhaejhfkkbaaDoorW.PrintLast Go.Proofs.YtdckhaejhfkkbaaDoorW.PrintMore Bq
set_option linter.unusedVariables false
set_option linter.unusedSimpArgs false
def entsB (l : List Ent) : Int := if ∃ x ∈ l, x.f0 = 0 ∨ x.f1.f2 = 0 then 1 else 0
theorem entsB_bad {x : Ent} {l : List Ent} (h : x.f0 = 0 ∨ x.f1.f2 = 0) : entsB (x :: l) = 1 := by
  unfold entsB
  rw [if_pos ⟨x, List.mem_cons_self, h⟩]
theorem entsB_ok {x : Ent} {l : List Ent} (h0 : ¬ x.f0 = 0) (h1 : ¬ x.f1.f2 = 0) : entsB (x :: l) = entsB l := by
  unfold entsB
  by_cases h : ∃ y ∈ l, y.f0 = 0 ∨ y.f1.f2 = 0
  · rw [if_pos h, if_pos]
    obtain ⟨y, hy, h2⟩ := h
    exact ⟨y, List.mem_cons_of_mem _ hy, h2⟩
  · rw [if_neg h, if_neg]
    rintro ⟨y, hy, h2⟩
    rcases List.mem_cons.1 hy with rfl | hy
    · exact h2.elim h0 h1
    · exact h ⟨y, hy, h2⟩
def checkB (a0 a1 : Int) (l2 : List Lab) (l : List Ent) : Int :=
  if a0 = 1 then (if a1 = 0 then 1 else if 0 < l.length then 1 else rightB l2)
  else if a0 = 2 then (if a1 = 0 then (if 0 < l2.length then 1 else if l.length = 0 then 1 else if 256 < l.length then 3 else entsB l) else 1) else 130
theorem record_Check_l0 (l : List Ent) (hl : l.length ≤ 1000000000) : ∀ (d n : Nat), n + d = l.length → Ev (fun k => record_Check.l0 k l (l.length : Int) (n : Int)) (entsB (l.drop n))
  | 0, n, hd => by
    refine Ev.step (f := _) (fun k => by simp only [record_Check.l0]; rfl) ?_
    simp only [if_neg (show ¬ (n : Int) < (l.length : Int) by omega)]
    rw [List.drop_of_length_le (by omega)]
    exact Ev.now _
  | d + 1, n, hd => by
    refine Ev.step (f := _) (fun k => by simp only [record_Check.l0]; rfl) ?_
    rw [dropE l n (by omega)]
    simp only [if_pos (show (n : Int) < (l.length : Int) by omega), if_pos (show (0 : Int) ≤ (n : Int) by omega), rdE, w1 n (by omega)]
    by_cases h0 : (l.getD n z45).f0 = 0
    · simp only [if_pos h0]
      rw [entsB_bad (.inl h0)]
      exact Ev.now _
    · by_cases h1 : (l.getD n z45).f1.f2 = 0
      · simp only [if_neg h0, if_pos h1]
        rw [entsB_bad (.inr h1)]
        exact Ev.now _
      · simp only [if_neg h0, if_neg h1]
        rw [entsB_ok h0 h1]
        exact record_Check_l0 l hl d (n + 1) (by omega)
theorem record_Check_j0t (a0 a1 : Int) (l2 : List Lab) (l : List Ent) : Ev (fun k => record_Check.j0 k true a0 a1 l2 l) 1 := by
  refine Ev.step (f := _) (fun k => by simp only [record_Check.j0]; rfl) ?_
  simp only [if_true]
  exact Ev.now _
theorem record_Check_j0f (a0 a1 : Int) (l2 : List Lab) (l : List Ent) (hl : l.length ≤ 1000000000) : Ev (fun k => record_Check.j0 k false a0 a1 l2 l) (if 256 < l.length then 3 else entsB l) := by
  refine Ev.step (f := _) (fun k => by simp only [record_Check.j0]; rfl) ?_
  simp only [Bool.false_eq_true, if_false]
  by_cases h : 256 < l.length
  · simp only [if_pos h, if_pos (show (l.length : Int) > 256 by omega)]
    exact Ev.now _
  · simp only [if_neg h, if_neg (show ¬ (l.length : Int) > 256 by omega)]
    exact record_Check_l0 l hl l.length 0 (by omega)
theorem record_Check_ev (a0 a1 : Int) (l2 : List Lab) (l : List Ent) (hs : Sm l2) (hl : l.length ≤ 1000000000) : Ev (fun k => record_Check.f k a0 a1 l2 l) (checkB a0 a1 l2 l) := by
  unfold record_Check.f checkB
  by_cases c1 : a0 = 1
  · simp only [if_pos c1]
    by_cases z1 : a1 = 0
    · simp only [if_pos z1]
      exact Ev.now _
    · by_cases z2 : 0 < l.length
      · simp only [if_neg z1, if_pos z2, if_pos (show (l.length : Int) > 0 by omega)]
        exact Ev.now _
      · simp only [if_neg z1, if_neg z2, if_neg (show ¬ (l.length : Int) > 0 by omega)]
        exact Ev.bind (Right_ev l2 hs).1 (Ev.now _)
  · by_cases c2 : a0 = 2
    · simp only [if_neg c1, if_pos c2]
      by_cases z1 : a1 = 0
      · by_cases z2 : 0 < l2.length
        · simp only [if_pos z1, if_pos z2, if_pos (show (l2.length : Int) > 0 by omega)]
          exact record_Check_j0t _ _ _ _
        · by_cases z3 : l.length = 0
          · simp only [if_pos z1, if_neg z2, if_pos z3, if_neg (show ¬ (l2.length : Int) > 0 by omega), show ((l.length : Int) == 0) = true by simp [z3]]
            exact record_Check_j0t _ _ _ _
          · simp only [if_pos z1, if_neg z2, if_neg z3, if_neg (show ¬ (l2.length : Int) > 0 by omega), show ((l.length : Int) == 0) = false from beq_eq_false_iff_ne.2 (by omega)]
            exact record_Check_j0f _ _ _ _ hl
      · simp only [if_neg z1]
        exact record_Check_j0t _ _ _ _
    · simp only [if_neg c1, if_neg c2]
      exact Ev.now _
def ptL (r t s : Int) (x : Ent) : List Int := vI (wrap64 (wrap64 x.f0 - wrap64 r)) ++ vI (wrap64 (x.f1.f0 - t)) ++ vI (wrap64 (IntKind.u64.wrap (x.f1.f2 - s))) ++ be8 x.f1.f1
def ptsL : List Ent → Int → Int → Int → List Int
  | [], _, _, _ => []
  | x :: l, r, t, s => ptL r t s x ++ ptsL l x.f0 x.f1.f0 x.f1.f2
theorem w64_bd (x : Int) : -9223372036854775808 ≤ wrap64 x ∧ wrap64 x ≤ 9223372036854775807 := by unfold wrap64; omega
theorem vI_wlen (x : Int) : (vI (wrap64 x)).length ≤ 10 := vI_len _ (w64_bd x).1 (w64_bd x).2
theorem ptL_len (r t s : Int) (x : Ent) : (ptL r t s x).length ≤ 38 := by
  unfold ptL
  rw [List.length_append, List.length_append, List.length_append, be8_length]
  have := vI_wlen (wrap64 x.f0 - wrap64 r)
  have := vI_wlen (x.f1.f0 - t)
  have := vI_wlen (IntKind.u64.wrap (x.f1.f2 - s))
  omega
theorem ptsL_len : ∀ (l : List Ent) (r t s : Int), (ptsL l r t s).length ≤ 38 * l.length
  | [], _, _, _ => by simp [ptsL]
  | x :: l, r, t, s => by
    unfold ptsL
    rw [List.length_append, List.length_cons]
    have := ptL_len r t s x
    have := ptsL_len l x.f0 x.f1.f0 x.f1.f2
    omega
theorem PV_ev (x : Int) : Ev (fun k => bits_PutVarint.f k (wrap64 x)) (vI (wrap64 x)) ∧ Ev (fun k => manometerref01_PutVarint.f k (wrap64 x)) (vI (wrap64 x)) := PutVarint_ev _ (w64_bd x).1 (w64_bd x).2
theorem recPts_ev : ∀ (l : List Ent) (r t s : Int) (out : List Int), out.length + 38 * l.length ≤ 1000000 → Ev (fun k => recPts k l r t s out) (out ++ ptsL l r t s)
  | [], r, t, s, out, h => by
    unfold recPts ptsL
    rw [List.append_nil]
    exact Ev.now _
  | x :: l, r, t, s, out, h => by
    rw [List.length_cons] at h
    have n1 := vI_wlen (wrap64 x.f0 - wrap64 r)
    have n2 := vI_wlen (x.f1.f0 - t)
    have n3 := vI_wlen (IntKind.u64.wrap (x.f1.f2 - s))
    have h1 := (PV_ev (wrap64 x.f0 - wrap64 r)).1
    have h2 := (PV_ev (x.f1.f0 - t)).1
    have h3 := (PV_ev (IntKind.u64.wrap (x.f1.f2 - s))).1
    have ih := recPts_ev l x.f0 x.f1.f0 x.f1.f2 (out ++ vI (wrap64 (wrap64 x.f0 - wrap64 r)) ++ vI (wrap64 (x.f1.f0 - t)) ++ vI (wrap64 (IntKind.u64.wrap (x.f1.f2 - s))) ++ be8 x.f1.f1) (by
      rw [List.length_append, List.length_append, List.length_append, List.length_append, be8_length]
      omega)
    unfold recPts ptsL ptL
    refine Ev.bind h1 (Ev.bind h2 (Ev.bind h3 ?_))
    rw [if_pos_fun (by omega)]
    simp only [List.append_assoc] at ih ⊢
    exact ih
theorem flat_len : ∀ (l : List Lab), (∀ x ∈ l, x.f0.size ≤ 100000 ∧ x.f1.size ≤ 100000) → (l.flatMap labL).length ≤ 200020 * l.length
  | [], _ => by simp
  | x :: l, h => by
    rw [List.flatMap_cons, List.length_append, List.length_cons]
    have h0 := h x List.mem_cons_self
    have := labL_len x h0.1 h0.2
    have := flat_len l (fun y hy => h y (List.mem_cons_of_mem _ hy))
    omega
end Go.Proofs.YtdckhaejhfkkbaaDoor.Pu
end
