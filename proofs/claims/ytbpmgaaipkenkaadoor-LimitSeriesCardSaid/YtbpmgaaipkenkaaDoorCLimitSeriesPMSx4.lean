import Derived.Test.YtbpmgaaipkenkaaDoorCLimitSeriesPMSx0
import Derived.Test.YtbpmgaaipkenkaaDoorCLimitSeriesPMSx1
import Derived.Test.YtbpmgaaipkenkaaDoorCLimitSeriesPMCx0
namespace Go.Proofs.YtbpmgaaipkenkaaDoor.PMS
open Go.RowKit Go.Proofs.YtbpmgaaipkenkaaDoorW.PrintWords Go.Proofs.YtbpmgaaipkenkaaDoorW.PrintLast Go.Proofs.YtbpmgaaipkenkaaDoorW.PrintMore
attribute [local go_sem] max2_int min2_int max_two min_two max_three min_three max_four min_four
set_option linter.unusedVariables false
set_option linter.unusedSimpArgs false
attribute [local go_sem high] eqA66
mutual
def labels_Compare.l0 : Nat → List (S66) → List (S66) → Int → Int → Option (Int)
 | 0, _, _, _, _ => none
 | k + 1, x0, x1, x12, x13 => if x13 < x12 then (if 0 ≤ x13 then (if x13 < (x0.length : Int) then (if x13 < (x1.length : Int) then (if (Op.bytesLess (((rd_T66 x0 x13).f0).toList) (((rd_T66 x1 x13).f0).toList)) = true then (labels_Compare.j1 k x0 x1 x12 x13 true ((rd_T66 x0 x13).f0) ((rd_T66 x0 x13).f1) ((rd_T66 x1 x13).f0) ((rd_T66 x1 x13).f1)) else (if ((rd_T66 x0 x13).f0).toList = ((rd_T66 x1 x13).f0).toList then (labels_Compare.j1 k x0 x1 x12 x13 (Op.bytesLess (((rd_T66 x0 x13).f1).toList) (((rd_T66 x1 x13).f1).toList)) ((rd_T66 x0 x13).f0) ((rd_T66 x0 x13).f1) ((rd_T66 x1 x13).f0) ((rd_T66 x1 x13).f1)) else (labels_Compare.j1 k x0 x1 x12 x13 false ((rd_T66 x0 x13).f0) ((rd_T66 x0 x13).f1) ((rd_T66 x1 x13).f0) ((rd_T66 x1 x13).f1)))) else (none)) else (none)) else (none)) else (if (x0.length : Int) < (x1.length : Int) then (some (-1)) else (if (x0.length : Int) > (x1.length : Int) then (some 1) else (some 0)))
def labels_Compare.j1 : Nat → List (S66) → List (S66) → Int → Int → Bool → ByteArray → ByteArray → ByteArray → ByteArray → Option (Int)
 | 0, _, _, _, _, _, _, _, _, _ => none
 | k + 1, x0, x1, x12, x13, x24, x143000, x143001, x144000, x144001 => if x24 = true then (some (-1)) else (if (!(x143000.toList == x144000.toList) || (!(x143001.toList == x144001.toList))) = true then (some 1) else (labels_Compare.l0 k x0 x1 x12 (wrap64 (x13 + 1))))
end
def labels_Compare.f (k : Nat) (l0 : List (S66)) (l1 : List (S66)) : Option (Int) := labels_Compare.l0 k l0 l1 (mn (l0.length : Int) (l1.length : Int)) 0
def labels_Compare.T4 : Bool × List (List Nat × List Nat) := (true, [([], []), ([], []), ([0, 1], [0, 1]), ([2], [2]), ([], []), ([], []), ([4, 5], [4, 5]), ([6], [6]), ([], []), ([], []), ([8, 3, 0, 1, 2, 3, 8, 9], [3, 8]), ([9, 7, 10, 0, 1, 2, 3, 4, 5, 6, 7, 8, 9, 10], [7, 9])])
def labels_Compare.B4 : List Nat := [0, 0, 3, 7, 0, 0, 48, 112, 0, 0, 783, 2047]
theorem labels_Compare.tab4 : rtab .any (opsOf Tryd.f45 4) = labels_Compare.T4 := by kernel_rfl
theorem labels_Compare.bits4 : waitsOk labels_Compare.T4.2 labels_Compare.B4 = true := by kernel_rfl
set_option maxHeartbeats 8000000 in
set_option maxRecDepth 100000 in
theorem labels_Compare.calls (k : Nat) (A0 : Option Addr) (c0 : Nat) (l0 : List (S66)) (A1 : Option Addr) (c1 : Nat) (l1 : List (S66)) (r : Int) (w : World) (hr0 : Kd.C k66 w A0 l0.length l0) (hc0 : l0.length ≤ c0) (hr1 : Kd.C k66 w A1 l1.length l1) (hc1 : l1.length ≤ c1) (h : labels_Compare.f k l0 l1 = some r) :
  Calls Tryd.prog 45 #[.slice A0 l0.length c0, .slice A1 l1.length c1] w fun e w' => e = .returned (.int .i64 r) ∧ Below w.heap.size w w' := by
 have hu66 := Tryd.underlying66
 have HR0 := Aside0.mk hr0
 have HC0 := Aside0.mk hc0
 clear hr0 hc0
 have HR1 := Aside0.mk hr1
 have HC1 := Aside0.mk hc1
 clear hr1 hc1
 have HB := Aside0.mk (Below.refl w.heap.size w)
 have H : (labels_Compare.l0 k l0 l1 (mn (l0.length : Int) (l1.length : Int)) 0) = some r := h
 clear h
 obtain ⟨ji3, hji3⟩ : ∃ j_ : Int, (mn (l0.length : Int) (l1.length : Int)) = j_ := ⟨_, rfl⟩
 replace H : (labels_Compare.l0 k l0 l1 ji3 0) = some r := by first | (rw [hji3] at H; exact H) | (simp only [hji3] at H ⊢; exact H)
 (try (have hji3l : 0 ≤ ji3 := by (rw [← hji3]; unfold mn; (repeat' split) <;> omega)))
 (try (have hji3m : 0 ≤ ji3 := by omega))
 have hji3_ : (if (l1.length : Int) < (l0.length : Int) then (l1.length : Int) else (l0.length : Int)) = ji3 := hji3
 have hji3n_ : (if l1.length < l0.length then (l1.length : Int) else (l0.length : Int)) = ji3 := by rw [← hji3_]; simp only [Int.ofNat_lt]
 have H' := Aside0.mk H
 clear H
 go_enter Tryd.func45, Tryd.ntmps45
 go_wp2
 go_loopg [13] k (fun kq v13 w' => ∃ (x13_1 : Int), v13 = .int .i64 x13_1 ∧ Aside0 (labels_Compare.l0 kq l0 l1 ji3 x13_1 = some r) ∧ Aside0 (kq ≤ k) ∧ Aside0 (Below w.heap.size w w'))
 case atStart => exact ⟨(0), y6_, H', ⟨Nat.le_refl _⟩, ⟨y1_⟩⟩
 case round =>
  clear H'
  try clear c1
  try clear p2
  obtain ⟨x13_1, rfl, HA, HK1, HB⟩ := hrel
  cases gk with
  | zero => exact absurd HA.out (by simp [labels_Compare.l0])
  | succ k1 =>
   have H := HA.out
   clear HA
   simp only [labels_Compare.l0] at H
   by_cases c4 : x13_1 < ji3
   ·rw [if_pos c4] at H
    have c4b0 : decide (x13_1 < ji3) = true := decide_eq_true c4
    clear c4
    by_cases c5 : 0 ≤ x13_1
    ·rw [if_pos c5] at H
     have c5b0 : decide (0 ≤ x13_1) = true := decide_eq_true c5
     clear c5
     by_cases c6 : x13_1 < (l0.length : Int)
     ·rw [if_pos c6] at H
      have c6b0 : decide (x13_1 < (l0.length : Int)) = true := decide_eq_true c6
      clear c6
      by_cases c7 : x13_1 < (l1.length : Int)
      ·rw [if_pos c7] at H
       have c7b0 : decide (x13_1 < (l1.length : Int)) = true := decide_eq_true c7
       clear c7
       have HC8 := Aside0.mk H
       clear H
       try go_wp2
       have n0_ := Aside0.mk (below_drew1 HB.out)
       clear HB
       have HB := n0_
       clear n0_
       have p140 : 0 ≤ (x13_1 : Int) := of_decide_eq_true y4_
       have q140 : x13_1 < (l0.length : Int) := of_decide_eq_true y4_
       obtain ⟨ad140, e140, hx140_0, hx140_1⟩ := at_T66 HR0.out x13_1 p140 q140
       have hw140_1 := hx140_1
       have hw140_0 := hx140_0
       cases e140
       replace hx140_0 := (HB.out.cell (World.block_lt_of_cell? w _ hx140_0)).trans hx140_0
       replace hx140_1 := (HB.out.cell (World.block_lt_of_cell? w _ hx140_1)).trans hx140_1
       replace p140 := eq_true p140
       replace q140 := eq_true q140
       have p141 : 0 ≤ (x13_1 : Int) := of_decide_eq_true y4_
       have q141 : x13_1 < (l1.length : Int) := of_decide_eq_true y4_
       obtain ⟨ad141, e141, hx141_0, hx141_1⟩ := at_T66 HR1.out x13_1 p141 q141
       have hw141_1 := hx141_1
       have hw141_0 := hx141_0
       cases e141
       replace hx141_0 := (HB.out.cell (World.block_lt_of_cell? w _ hx141_0)).trans hx141_0
       replace hx141_1 := (HB.out.cell (World.block_lt_of_cell? w _ hx141_1)).trans hx141_1
       replace p141 := eq_true p141
       replace q141 := eq_true q141
       refine start_ (n := 12) (S := fun w' => w'.cell? (ad140.add ((x13_1).toNat * 2)) = some (.string ((rd_T66 l0 x13_1).f0)) ∧ w'.cell? ⟨(ad140.add ((x13_1).toNat * 2)).block, (ad140.add ((x13_1).toNat * 2)).off + 1, none⟩ = some (.string ((rd_T66 l0 x13_1).f1)) ∧ w'.cell? (ad141.add ((x13_1).toNat * 2)) = some (.string ((rd_T66 l1 x13_1).f0)) ∧ w'.cell? ⟨(ad141.add ((x13_1).toNat * 2)).block, (ad141.add ((x13_1).toNat * 2)).off + 1, none⟩ = some (.string ((rd_T66 l1 x13_1).f1))) (ds := []) #[false, false, false, false, false, false, false, false, false, false, false, false] (by kernel_rfl) rfl rfl ⟨((HB.out.cell (World.block_lt_of_cell? w _ hw140_0)).trans hw140_0), ((HB.out.cell (World.block_lt_of_cell? w _ hw140_1)).trans hw140_1), ((HB.out.cell (World.block_lt_of_cell? w _ hw141_0)).trans hw141_0), ((HB.out.cell (World.block_lt_of_cell? w _ hw141_1)).trans hw141_1)⟩ (fun hHeld => ?_); refine with_tabW labels_Compare.tab4 labels_Compare.bits4 (fun HT_ HW_ => ?_)
       generalize wr.drew = w9 at HB hx140_0 hx140_1 hx141_0 hx141_1 hHeld ⊢
       refine pure_ (i := 0) (N := some 16) (v := ?_) (a' := ?_) #[true, false, false, false, false, false, false, false, false, false, false, false] rfl rfl (any_of HT_.out (by kernel_rfl)) (fun _ _ _ h => h) (Or.inl ⟨by rfl, ?_⟩) ?_ ?_
       rotate_left
       ·intro w'
        go_simp
        with_reducible rfl
       rotate_left
       ·simp only [Act.put, List.setIfInBounds_toArray, List.set_cons_zero, List.set_cons_succ, i64_w, i32_w]
        rfl
       refine pure_ (i := 1) (N := some 17) (v := ?_) (a' := ?_) #[true, true, false, false, false, false, false, false, false, false, false, false] rfl rfl (any_of HT_.out (by kernel_rfl)) (fun _ _ _ h => h) (Or.inl ⟨by rfl, ?_⟩) ?_ ?_
       rotate_left
       ·intro w'
        go_simp
        with_reducible rfl
       rotate_left
       ·simp only [Act.put, List.setIfInBounds_toArray, List.set_cons_zero, List.set_cons_succ, i64_w, i32_w]
        rfl
       refine pure_ (i := 2) (N := some 18) (v := ?_) (a' := ?_) #[true, true, true, false, false, false, false, false, false, false, false, false] rfl rfl (any_of HT_.out (by kernel_rfl)) (fun _ _ _ h => h) (Or.inl ⟨by rfl, ?_⟩) ?_ ?_
       rotate_left
       ·intro w'
        go_simp
        with_reducible rfl
       rotate_left
       ·simp only [Act.put, List.setIfInBounds_toArray, List.set_cons_zero, List.set_cons_succ, i64_w, i32_w]
        rfl
       refine pure_ (i := 4) (N := some 20) (v := ?_) (a' := ?_) #[true, true, true, false, true, false, false, false, false, false, false, false] rfl rfl (any_of HT_.out (by kernel_rfl)) (fun _ _ _ h => h) (Or.inl ⟨by rfl, ?_⟩) ?_ ?_
       rotate_left
       ·intro w'
        go_simp
        with_reducible rfl
       rotate_left
       ·simp only [Act.put, List.setIfInBounds_toArray, List.set_cons_zero, List.set_cons_succ, i64_w, i32_w]
        rfl
       refine pure_ (i := 5) (N := some 21) (v := ?_) (a' := ?_) #[true, true, true, false, true, true, false, false, false, false, false, false] rfl rfl (any_of HT_.out (by kernel_rfl)) (fun _ _ _ h => h) (Or.inl ⟨by rfl, ?_⟩) ?_ ?_
       rotate_left
       ·intro w'
        go_simp
        with_reducible rfl
       rotate_left
       ·simp only [Act.put, List.setIfInBounds_toArray, List.set_cons_zero, List.set_cons_succ, i64_w, i32_w]
        rfl
       refine pure_ (i := 6) (N := some 22) (v := ?_) (a' := ?_) #[true, true, true, false, true, true, true, false, false, false, false, false] rfl rfl (any_of HT_.out (by kernel_rfl)) (fun _ _ _ h => h) (Or.inl ⟨by rfl, ?_⟩) ?_ ?_
       rotate_left
       ·intro w'
        go_simp
        with_reducible rfl
       rotate_left
       ·simp only [Act.put, List.setIfInBounds_toArray, List.set_cons_zero, List.set_cons_succ, i64_w, i32_w]
        rfl
       refine take_ (i := 3) (N := some 19) (v := ?_) (a' := ?_) #[true, true, true, true, true, true, true, false, false, false, false, false] rfl rfl (take_ofW HT_.out HW_.out (by kernel_rfl)) (fun _ _ _ h => h) (Or.inl ⟨by rfl, ?_⟩) hHeld ?_ ?_
       rotate_left
       ·rintro w' ⟨s0, s1, s2, s3⟩
        go_simp
        with_reducible rfl
       rotate_left
       ·simp only [Act.put, List.setIfInBounds_toArray, List.set_cons_zero, List.set_cons_succ, i64_w, i32_w]
        rfl
       refine take_ (i := 7) (N := some 23) (v := ?_) (a' := ?_) #[true, true, true, true, true, true, true, true, false, false, false, false] rfl rfl (take_ofW HT_.out HW_.out (by kernel_rfl)) (fun _ _ _ h => h) (Or.inl ⟨by rfl, ?_⟩) hHeld ?_ ?_
       rotate_left
       ·rintro w' ⟨s0, s1, s2, s3⟩
        go_simp
        with_reducible rfl
       rotate_left
       ·simp only [Act.put, List.setIfInBounds_toArray, List.set_cons_zero, List.set_cons_succ, i64_w, i32_w]
        rfl
       refine join_ (σ := Nat × Nat) 2 #[true, true, true, true, true, true, true, true, true, true, false, false] (fun s_ => [(6, .pointer (some ⟨s_.1, 0, none⟩)), (7, .pointer (some ⟨s_.2, 0, none⟩))]) (fun s_ w' => (w'.cell? (ad140.add ((x13_1).toNat * 2)) = some (.string ((rd_T66 l0 x13_1).f0)) ∧ w'.cell? ⟨(ad140.add ((x13_1).toNat * 2)).block, (ad140.add ((x13_1).toNat * 2)).off + 1, none⟩ = some (.string ((rd_T66 l0 x13_1).f1)) ∧ w'.cell? (ad141.add ((x13_1).toNat * 2)) = some (.string ((rd_T66 l1 x13_1).f0)) ∧ w'.cell? ⟨(ad141.add ((x13_1).toNat * 2)).block, (ad141.add ((x13_1).toNat * 2)).off + 1, none⟩ = some (.string ((rd_T66 l1 x13_1).f1))) ∧ (w'.heap[s_.1]? = some (.cells #[.string (⟨#[]⟩ : ByteArray), .string (⟨#[]⟩ : ByteArray)] 66 (0, 0))) ∧ (w'.heap[s_.2]? = some (.cells #[.string (⟨#[]⟩ : ByteArray), .string (⟨#[]⟩ : ByteArray)] 66 (0, 0))) ∧ (w.heap.size ≤ s_.1) ∧ (w.heap.size ≤ s_.1) ∧ (s_.2 ≠ s_.1) ∧ (s_.1 ≠ s_.2) ∧ (w.heap.size ≤ s_.2) ∧ (w.heap.size ≤ s_.2) ∧ (Below w.heap.size w w')) ?_ ?_
       rotate_left
       ·intro hCont
        refine two_ (i := 8) (j := 9) (Ni := some 6) (Nj := some 7) #[true, true, true, true, true, true, true, true, true, false, false, false] #[true, true, true, true, true, true, true, true, false, true, false, false] rfl rfl rfl rfl (two_of HT_.out (by kernel_rfl)) (by decide) (by decide) (fun K hK => ?_) (fun K hK => ?_)
        ·skip
         refine box_step ?hg (N := 6) ?hd (cs := #[.string (⟨#[]⟩ : ByteArray), .string (⟨#[]⟩ : ByteArray)]) (t := 66) ?hr ?_; (case hd => rfl); (case hg => rfl); (case hr => first | (go_simp; done) | (go_simp; rfl))
         intro gb142 hg w10 hbox hb
         have n0_ := Aside0.mk (below_step y1_ hb)
         have n1_ := Aside0.mk (hbox)
         have n2_ := Aside0.mk ((y9_ : w.heap.size ≤ gb142))
         have n3_ := Aside0.mk ((y9_ : w.heap.size ≤ gb142))
         clear HB
         have HB := n0_
         have BK142 := n1_
         have GW142 := n2_
         have GE142 := n3_
         clear n0_ n1_ n2_ n3_
         clear hb hbox hg
         refine hK.out _ _ ⟨((HB.out.cell (World.block_lt_of_cell? w _ hw140_0)).trans hw140_0), ((HB.out.cell (World.block_lt_of_cell? w _ hw140_1)).trans hw140_1), ((HB.out.cell (World.block_lt_of_cell? w _ hw141_0)).trans hw141_0), ((HB.out.cell (World.block_lt_of_cell? w _ hw141_1)).trans hw141_1)⟩ (fun hHeld => ?_)
         clear hK K
         refine norm_ (a' := ?_) ?_ ?_
         rotate_left
         ·show Act.put _ (some 6) _ = _
          simp only [Act.put, List.setIfInBounds_toArray, List.set_cons_zero, List.set_cons_succ, i64_w, i32_w]
          rfl
         refine one_ (i := 9) (N := some 7) #[true, true, true, true, true, true, true, true, true, true, false, false] rfl rfl (one_of HT_.out (by kernel_rfl)) (by decide) (fun K hK => ?_)
         refine box_step ?hg (N := 7) ?hd (cs := #[.string (⟨#[]⟩ : ByteArray), .string (⟨#[]⟩ : ByteArray)]) (t := 66) ?hr ?_; (case hd => rfl); (case hg => rfl); (case hr => first | (go_simp; done) | (go_simp; rfl))
         intro gb143 hg w11 hbox hb
         have n0_ := Aside0.mk (blk_below (g := gb142) (o := .cells #[.string (⟨#[]⟩ : ByteArray), .string (⟨#[]⟩ : ByteArray)] 66 (0, 0)) y32_ hb)
         have n1_ := Aside0.mk (below_step y39_ hb)
         have n2_ := Aside0.mk (hbox)
         have n3_ := Aside0.mk ((by rw [hg]; exact (below_size y39_) : w.heap.size ≤ gb143))
         have n4_ := Aside0.mk ((by rw [hg]; exact (below_size y39_) : w.heap.size ≤ gb143))
         have n5_ := Aside0.mk ((by rw [hg]; exact Nat.ne_of_lt (blk_lt (g := gb142) (o := .cells #[.string (⟨#[]⟩ : ByteArray), .string (⟨#[]⟩ : ByteArray)] 66 (0, 0)) y32_) : gb142 ≠ gb143))
         have n6_ := Aside0.mk ((by rw [hg]; exact Nat.ne_of_gt (blk_lt (g := gb142) (o := .cells #[.string (⟨#[]⟩ : ByteArray), .string (⟨#[]⟩ : ByteArray)] 66 (0, 0)) y32_) : gb143 ≠ gb142))
         clear BK142
         clear HB
         have BK142 := n0_
         have HB := n1_
         have BK143 := n2_
         have GW143 := n3_
         have GE143 := n4_
         have NB142_143 := n5_
         have NB143_142 := n6_
         clear n0_ n1_ n2_ n3_ n4_ n5_ n6_
         clear hb hbox hg
         refine hK.out _ _ ⟨((HB.out.cell (World.block_lt_of_cell? w _ hw140_0)).trans hw140_0), ((HB.out.cell (World.block_lt_of_cell? w _ hw140_1)).trans hw140_1), ((HB.out.cell (World.block_lt_of_cell? w _ hw141_0)).trans hw141_0), ((HB.out.cell (World.block_lt_of_cell? w _ hw141_1)).trans hw141_1)⟩ (fun hHeld => ?_)
         clear hK K
         refine norm_ (a' := ?_) ?_ ?_
         rotate_left
         ·show Act.put _ (some 7) _ = _
          simp only [Act.put, List.setIfInBounds_toArray, List.set_cons_zero, List.set_cons_succ, i64_w, i32_w]
          rfl
         exact norm_ (by simp only [putAll, Act.put, List.setIfInBounds_toArray, List.set_cons_zero, List.set_cons_succ]) (hCont (gb142, gb143) _ ⟨hHeld, y32_, y31_, GW142.out, GE142.out, NB143_142.out, NB142_143.out, GW143.out, GE143.out, y23_⟩)
        ·skip
         refine box_step ?hg (N := 7) ?hd (cs := #[.string (⟨#[]⟩ : ByteArray), .string (⟨#[]⟩ : ByteArray)]) (t := 66) ?hr ?_; (case hd => rfl); (case hg => rfl); (case hr => first | (go_simp; done) | (go_simp; rfl))
         intro gb143 hg w10 hbox hb
         have n0_ := Aside0.mk (below_step y1_ hb)
         have n1_ := Aside0.mk (hbox)
         have n2_ := Aside0.mk ((y9_ : w.heap.size ≤ gb143))
         have n3_ := Aside0.mk ((y9_ : w.heap.size ≤ gb143))
         clear HB
         have HB := n0_
         have BK143 := n1_
         have GW143 := n2_
         have GE143 := n3_
         clear n0_ n1_ n2_ n3_
         clear hb hbox hg
         refine hK.out _ _ ⟨((HB.out.cell (World.block_lt_of_cell? w _ hw140_0)).trans hw140_0), ((HB.out.cell (World.block_lt_of_cell? w _ hw140_1)).trans hw140_1), ((HB.out.cell (World.block_lt_of_cell? w _ hw141_0)).trans hw141_0), ((HB.out.cell (World.block_lt_of_cell? w _ hw141_1)).trans hw141_1)⟩ (fun hHeld => ?_)
         clear hK K
         refine norm_ (a' := ?_) ?_ ?_
         rotate_left
         ·show Act.put _ (some 7) _ = _
          simp only [Act.put, List.setIfInBounds_toArray, List.set_cons_zero, List.set_cons_succ, i64_w, i32_w]
          rfl
         refine one_ (i := 8) (N := some 6) #[true, true, true, true, true, true, true, true, true, true, false, false] rfl rfl (one_of HT_.out (by kernel_rfl)) (by decide) (fun K hK => ?_)
         refine box_step ?hg (N := 6) ?hd (cs := #[.string (⟨#[]⟩ : ByteArray), .string (⟨#[]⟩ : ByteArray)]) (t := 66) ?hr ?_; (case hd => rfl); (case hg => rfl); (case hr => first | (go_simp; done) | (go_simp; rfl))
         intro gb142 hg w11 hbox hb
         have n0_ := Aside0.mk (blk_below (g := gb143) (o := .cells #[.string (⟨#[]⟩ : ByteArray), .string (⟨#[]⟩ : ByteArray)] 66 (0, 0)) y31_ hb)
         have n1_ := Aside0.mk (below_step y38_ hb)
         have n2_ := Aside0.mk (hbox)
         have n3_ := Aside0.mk ((by rw [hg]; exact (below_size y38_) : w.heap.size ≤ gb142))
         have n4_ := Aside0.mk ((by rw [hg]; exact (below_size y38_) : w.heap.size ≤ gb142))
         have n5_ := Aside0.mk ((by rw [hg]; exact Nat.ne_of_lt (blk_lt (g := gb143) (o := .cells #[.string (⟨#[]⟩ : ByteArray), .string (⟨#[]⟩ : ByteArray)] 66 (0, 0)) y31_) : gb143 ≠ gb142))
         have n6_ := Aside0.mk ((by rw [hg]; exact Nat.ne_of_gt (blk_lt (g := gb143) (o := .cells #[.string (⟨#[]⟩ : ByteArray), .string (⟨#[]⟩ : ByteArray)] 66 (0, 0)) y31_) : gb142 ≠ gb143))
         clear BK143
         clear HB
         have BK143 := n0_
         have HB := n1_
         have BK142 := n2_
         have GW142 := n3_
         have GE142 := n4_
         have NB143_142 := n5_
         have NB142_143 := n6_
         clear n0_ n1_ n2_ n3_ n4_ n5_ n6_
         clear hb hbox hg
         refine hK.out _ _ ⟨((HB.out.cell (World.block_lt_of_cell? w _ hw140_0)).trans hw140_0), ((HB.out.cell (World.block_lt_of_cell? w _ hw140_1)).trans hw140_1), ((HB.out.cell (World.block_lt_of_cell? w _ hw141_0)).trans hw141_0), ((HB.out.cell (World.block_lt_of_cell? w _ hw141_1)).trans hw141_1)⟩ (fun hHeld => ?_)
         clear hK K
         refine norm_ (a' := ?_) ?_ ?_
         rotate_left
         ·show Act.put _ (some 6) _ = _
          simp only [Act.put, List.setIfInBounds_toArray, List.set_cons_zero, List.set_cons_succ, i64_w, i32_w]
          rfl
         exact norm_ (by simp only [putAll, Act.put, List.setIfInBounds_toArray, List.set_cons_zero, List.set_cons_succ]) (hCont (gb142, gb143) _ ⟨hHeld, y32_, y31_, GW142.out, GE142.out, NB143_142.out, NB142_143.out, GW143.out, GE143.out, (by repeat (first | (with_reducible first | exact HB.out | apply below_alloc | apply pw_below_drewN | apply below_drew1 | refine below_set ?_ GE143.out | refine below_set ?_ GE142.out) | exact HB.out))⟩)
       rintro ⟨gb142, gb143⟩ w12 ⟨hS_, h0_, h1_, h2_, h3_, h4_, h5_, h6_, h7_, h8_⟩
       have n0_ : Aside0 (w12.heap[gb142]? = some (.cells #[.string (⟨#[]⟩ : ByteArray), .string (⟨#[]⟩ : ByteArray)] 66 (0, 0))) := ⟨h0_⟩
       have n1_ : Aside0 (w12.heap[gb143]? = some (.cells #[.string (⟨#[]⟩ : ByteArray), .string (⟨#[]⟩ : ByteArray)] 66 (0, 0))) := ⟨h1_⟩
       have n2_ : Aside0 (w.heap.size ≤ gb142) := ⟨h2_⟩
       have n3_ : Aside0 (w.heap.size ≤ gb142) := ⟨h3_⟩
       have n4_ : Aside0 (gb143 ≠ gb142) := ⟨h4_⟩
       have n5_ : Aside0 (gb142 ≠ gb143) := ⟨h5_⟩
       have n6_ : Aside0 (w.heap.size ≤ gb143) := ⟨h6_⟩
       have n7_ : Aside0 (w.heap.size ≤ gb143) := ⟨h7_⟩
       have n8_ : Aside0 (Below w.heap.size w w12) := ⟨h8_⟩
       clear HB
       clear h0_ h1_ h2_ h3_ h4_ h5_ h6_ h7_ h8_
       have BK142 := n0_
       have BK143 := n1_
       have GW142 := n2_
       have GE142 := n3_
       have NB143_142 := n4_
       have NB142_143 := n5_
       have GW143 := n6_
       have GE143 := n7_
       have HB := n8_
       clear n0_ n1_ n2_ n3_ n4_ n5_ n6_ n7_ n8_
       have hHeld : w12.cell? (ad140.add ((x13_1).toNat * 2)) = some (.string ((rd_T66 l0 x13_1).f0)) ∧ w12.cell? ⟨(ad140.add ((x13_1).toNat * 2)).block, (ad140.add ((x13_1).toNat * 2)).off + 1, none⟩ = some (.string ((rd_T66 l0 x13_1).f1)) ∧ w12.cell? (ad141.add ((x13_1).toNat * 2)) = some (.string ((rd_T66 l1 x13_1).f0)) ∧ w12.cell? ⟨(ad141.add ((x13_1).toNat * 2)).block, (ad141.add ((x13_1).toNat * 2)).off + 1, none⟩ = some (.string ((rd_T66 l1 x13_1).f1)) := hS_
       refine norm_ (a' := ?_) ?_ ?_
       rotate_left
       ·simp only [putAll, Act.put, List.setIfInBounds_toArray, List.set_cons_zero, List.set_cons_succ]
        rfl
       refine one_ (i := 10) (N := none) #[true, true, true, true, true, true, true, true, true, true, true, false] rfl rfl (one_of HT_.out (by kernel_rfl)) (by decide) (fun K hK => ?_)
       have hs13 : w12.cell? ⟨gb142, 0, none⟩ = some (.string (⟨#[]⟩ : ByteArray)) := (blk_cell BK142.out 0).trans rfl
       have hfs13 := blk_frozen BK142.out 0
       have hns13_1 := NB143_142.out
       have hms13_1 := NB142_143.out
       have hs14 : w12.cell? ⟨gb142, 1, none⟩ = some (.string (⟨#[]⟩ : ByteArray)) := (blk_cell BK142.out 1).trans rfl
       have hfs14 := blk_frozen BK142.out 1
       have hns14_1 := NB143_142.out
       have hms14_1 := NB142_143.out
       refine skip_ (w1 := ?_) (by rfl) rfl ?_ ?_
       rotate_left
       ·go_simp
        rfl
       refine hK.out _ _ ⟨((cell_far (p := ⟨gb142, _, none⟩) y41_ _).trans (((cell_far (p := ⟨gb142, _, none⟩) y41_ _).trans (hHeld.1)))), ((cell_far (p := ⟨gb142, _, none⟩) y43_ _).trans (((cell_far (p := ⟨gb142, _, none⟩) y43_ _).trans (hHeld.2.1)))), ((cell_far (p := ⟨gb142, _, none⟩) y45_ _).trans (((cell_far (p := ⟨gb142, _, none⟩) y45_ _).trans (hHeld.2.2.1)))), ((cell_far (p := ⟨gb142, _, none⟩) y47_ _).trans (((cell_far (p := ⟨gb142, _, none⟩) y47_ _).trans (hHeld.2.2.2))))⟩ (fun hHeld => ?_)
       clear hK K
       refine one_ (i := 11) (N := none) #[true, true, true, true, true, true, true, true, true, true, true, true] rfl rfl (one_of HT_.out (by kernel_rfl)) (by decide) (fun K hK => ?_)
       have hs15 : w12.cell? ⟨gb143, 0, none⟩ = some (.string (⟨#[]⟩ : ByteArray)) := (blk_cell BK143.out 0).trans rfl
       have hfs15 := blk_frozen BK143.out 0
       have hns15_0 := NB142_143.out
       have hms15_0 := NB143_142.out
       have hs16 : w12.cell? ⟨gb143, 1, none⟩ = some (.string (⟨#[]⟩ : ByteArray)) := (blk_cell BK143.out 1).trans rfl
       have hfs16 := blk_frozen BK143.out 1
       have hns16_0 := NB142_143.out
       have hms16_0 := NB143_142.out
       refine skip_ (w1 := ?_) (by rfl) rfl ?_ ?_
       rotate_left
       ·go_simp
        rfl
       refine hK.out _ _ ⟨((cell_far (p := ⟨gb143, _, none⟩) y40_ _).trans (((cell_far (p := ⟨gb143, _, none⟩) y40_ _).trans (hHeld.1)))), ((cell_far (p := ⟨gb143, _, none⟩) y42_ _).trans (((cell_far (p := ⟨gb143, _, none⟩) y42_ _).trans (hHeld.2.1)))), ((cell_far (p := ⟨gb143, _, none⟩) y44_ _).trans (((cell_far (p := ⟨gb143, _, none⟩) y44_ _).trans (hHeld.2.2.1)))), ((cell_far (p := ⟨gb143, _, none⟩) y46_ _).trans (((cell_far (p := ⟨gb143, _, none⟩) y46_ _).trans (hHeld.2.2.2))))⟩ (fun hHeld => ?_)
       clear hK K
       refine done_ (done_of HT_.out (by kernel_rfl)) ?_
       go_upto_region 5 with (fail)
       go_cut [24] (fun v24 wc => ∃ (kq : Nat) (x24_7 : Bool), v24 = .bool x24_7 ∧ Aside0 (labels_Compare.j1 kq l0 l1 ji3 x13_1 x24_7 ((rd_T66 l0 x13_1).f0) ((rd_T66 l0 x13_1).f1) ((rd_T66 l1 x13_1).f0) ((rd_T66 l1 x13_1).f1) = some r) ∧ Aside0 (kq ≤ k1) ∧ Aside0 (wc.heap[gb142]? = some (.cells #[.string ((rd_T66 l0 x13_1).f0), .string ((rd_T66 l0 x13_1).f1)] 66 (0, 0))) ∧ Aside0 (wc.heap[gb143]? = some (.cells #[.string ((rd_T66 l1 x13_1).f0), .string ((rd_T66 l1 x13_1).f1)] 66 (0, 0))) ∧ Aside0 (Below w.heap.size w wc))
       case first =>
        have H := HC8.out
        clear HC8
        by_cases c17 : (Op.bytesLess (((rd_T66 l0 x13_1).f0).toList) (((rd_T66 l1 x13_1).f0).toList)) = true
        ·rw [if_pos c17] at H
         have c17b0 : (Op.bytesLess (((rd_T66 l0 x13_1).f0).toList) (((rd_T66 l1 x13_1).f0).toList)) = true := c17
         clear c17
         (first | rw [c17b0] | (simp only [i64_w, i32_w]; rw [c17b0]) | skip)
         have H' := Aside0.mk H
         clear H
         have hnb18 := NB142_143.out
         have hnc18 := NB143_142.out
         have hcz19_0 : w12.cell? ⟨gb142, 0, none⟩ = some (.string (⟨#[]⟩ : ByteArray)) := (blk_cell BK142.out 0).trans rfl
         have hcz19_1 : w12.cell? ⟨gb142, 1, none⟩ = some (.string (⟨#[]⟩ : ByteArray)) := (blk_cell BK142.out 1).trans rfl
         have hfz19_0 := blk_frozen BK142.out 0
         have hfz19_1 := blk_frozen BK142.out 1
         have hcz20_0 : w12.cell? ⟨gb143, 0, none⟩ = some (.string (⟨#[]⟩ : ByteArray)) := (blk_cell BK143.out 0).trans rfl
         have hcz20_1 : w12.cell? ⟨gb143, 1, none⟩ = some (.string (⟨#[]⟩ : ByteArray)) := (blk_cell BK143.out 1).trans rfl
         have hfz20_0 := blk_frozen BK143.out 0
         have hfz20_1 := blk_frozen BK143.out 1
         go_wp2
         go_meet
         case rel => exact ⟨_, (true), y6_, H', ⟨y33_⟩, ⟨y15_⟩, ⟨y14_⟩, ⟨y23_⟩⟩
        ·rw [if_neg c17] at H
         have c17b0 : (Op.bytesLess (((rd_T66 l0 x13_1).f0).toList) (((rd_T66 l1 x13_1).f0).toList)) = false := by simpa using c17
         clear c17
         (first | rw [c17b0] | (simp only [i64_w, i32_w]; rw [c17b0]) | skip)
         by_cases c21 : ((rd_T66 l0 x13_1).f0).toList = ((rd_T66 l1 x13_1).f0).toList
         ·rw [if_pos c21] at H
          have c21b0 : (((rd_T66 l0 x13_1).f0).toList == ((rd_T66 l1 x13_1).f0).toList) = true := beq_iff_eq.mpr c21
          have c21b1 : (((rd_T66 l0 x13_1).f0).toList != ((rd_T66 l1 x13_1).f0).toList) = false := bne_eq_false_iff_eq.mpr c21
          clear c21
          have H' := Aside0.mk H
          clear H
          have hnb22 := NB142_143.out
          have hnc22 := NB143_142.out
          have hcz23_0 : w12.cell? ⟨gb142, 0, none⟩ = some (.string (⟨#[]⟩ : ByteArray)) := (blk_cell BK142.out 0).trans rfl
          have hcz23_1 : w12.cell? ⟨gb142, 1, none⟩ = some (.string (⟨#[]⟩ : ByteArray)) := (blk_cell BK142.out 1).trans rfl
          have hfz23_0 := blk_frozen BK142.out 0
          have hfz23_1 := blk_frozen BK142.out 1
          have hcz24_0 : w12.cell? ⟨gb143, 0, none⟩ = some (.string (⟨#[]⟩ : ByteArray)) := (blk_cell BK143.out 0).trans rfl
          have hcz24_1 : w12.cell? ⟨gb143, 1, none⟩ = some (.string (⟨#[]⟩ : ByteArray)) := (blk_cell BK143.out 1).trans rfl
          have hfz24_0 := blk_frozen BK143.out 0
          have hfz24_1 := blk_frozen BK143.out 1
          go_wp2
          go_meet
          case rel => exact ⟨_, ((Op.bytesLess (((rd_T66 l0 x13_1).f1).toList) (((rd_T66 l1 x13_1).f1).toList))), y6_, H', ⟨y33_⟩, ⟨y15_⟩, ⟨y14_⟩, ⟨y23_⟩⟩
         ·rw [if_neg c21] at H
          have c21b0 : (((rd_T66 l0 x13_1).f0).toList == ((rd_T66 l1 x13_1).f0).toList) = false := beq_eq_false_iff_ne.mpr c21
          have c21b1 : (((rd_T66 l0 x13_1).f0).toList != ((rd_T66 l1 x13_1).f0).toList) = true := bne_iff_ne.mpr c21
          have H' := Aside0.mk H
          clear H
          have hnb25 := NB142_143.out
          have hnc25 := NB143_142.out
          have hcz26_0 : w12.cell? ⟨gb142, 0, none⟩ = some (.string (⟨#[]⟩ : ByteArray)) := (blk_cell BK142.out 0).trans rfl
          have hcz26_1 : w12.cell? ⟨gb142, 1, none⟩ = some (.string (⟨#[]⟩ : ByteArray)) := (blk_cell BK142.out 1).trans rfl
          have hfz26_0 := blk_frozen BK142.out 0
          have hfz26_1 := blk_frozen BK142.out 1
          have hcz27_0 : w12.cell? ⟨gb143, 0, none⟩ = some (.string (⟨#[]⟩ : ByteArray)) := (blk_cell BK143.out 0).trans rfl
          have hcz27_1 : w12.cell? ⟨gb143, 1, none⟩ = some (.string (⟨#[]⟩ : ByteArray)) := (blk_cell BK143.out 1).trans rfl
          have hfz27_0 := blk_frozen BK143.out 0
          have hfz27_1 := blk_frozen BK143.out 1
          go_wp2
          go_meet
          case rel => exact ⟨_, (false), y6_, H', ⟨y33_⟩, ⟨y15_⟩, ⟨y14_⟩, ⟨y23_⟩⟩
       case rest =>
        clear HC8
        try clear c1
        try clear p1
        try clear q1
        try clear hx1
        try clear c2
        try clear p2
        try clear c4
        try clear c4b0
        try clear c5
        try clear c5b0
        try clear c6
        try clear c6b0
        try clear c7
        try clear c7b0
        try clear p14
        try clear q14
        try clear hx14
        try clear c17
        try clear c17b0
        try clear c18
        try clear c21
        try clear c21b0
        try clear c21b1
        try clear c22
        try clear c25
        try clear hcz19_0
        try clear hcz19_1
        try clear hcz20_0
        try clear hcz20_1
        try clear hcz23_0
        try clear hcz23_1
        try clear hcz24_0
        try clear hcz24_1
        try clear hcz26_0
        try clear hcz26_1
        try clear hcz27_0
        try clear hcz27_1
        try clear hfz19_0
        try clear hfz19_1
        try clear hfz20_0
        try clear hfz20_1
        try clear hfz23_0
        try clear hfz23_1
        try clear hfz24_0
        try clear hfz24_1
        try clear hfz26_0
        try clear hfz26_1
        try clear hfz27_0
        try clear hfz27_1
        try clear hx140_0
        try clear hx140_1
        try clear hx141_0
        try clear hx141_1
        try clear p140
        try clear p141
        try clear p2
        try clear q140
        try clear q141
        obtain ⟨kq, x24_7, rfl, HA, HJ7, BK142, BK143, HB⟩ := hcut
        cases kq with
        | zero => exact absurd HA.out (by simp [labels_Compare.j1])
        | succ kj7 =>
         have H := HA.out
         clear HA
         simp only [labels_Compare.j1] at H
         by_cases c28 : x24_7 = true
         ·subst c28
          have H1 : (some (-1)) = some r := by rw [if_pos rfl] at H; exact H
          clear H
          have H := H1
          clear H1
          obtain rfl := Option.some.inj H
          go_wp2
          go_ret
          exact ⟨y17_, y23_⟩
         ·replace c28 := Bool.eq_false_iff.mpr c28
          subst c28
          have H1 : (if (!(((rd_T66 l0 x13_1).f0).toList == ((rd_T66 l1 x13_1).f0).toList) || (!(((rd_T66 l0 x13_1).f1).toList == ((rd_T66 l1 x13_1).f1).toList))) = true then (some 1) else (labels_Compare.l0 kj7 l0 l1 ji3 (wrap64 (x13_1 + 1)))) = some r := by rw [if_neg (show ¬ (false = true) by decide)] at H; exact H
          clear H
          have H := H1
          clear H1
          by_cases c29 : (!(((rd_T66 l0 x13_1).f0).toList == ((rd_T66 l1 x13_1).f0).toList) || (!(((rd_T66 l0 x13_1).f1).toList == ((rd_T66 l1 x13_1).f1).toList))) = true
          ·rw [if_pos c29] at H
           have c29b0 : (!(((rd_T66 l0 x13_1).f0).toList == ((rd_T66 l1 x13_1).f0).toList) || (!(((rd_T66 l0 x13_1).f1).toList == ((rd_T66 l1 x13_1).f1).toList))) = true := c29
           clear c29
           obtain rfl := Option.some.inj H
           have hnb30 := NB142_143.out
           have hnc30 := NB143_142.out
           have hcz31_0 : wc.cell? ⟨gb142, 0, none⟩ = some (.string ((rd_T66 l0 x13_1).f0)) := (blk_cell BK142.out 0).trans rfl
           have hcz31_1 : wc.cell? ⟨gb142, 1, none⟩ = some (.string ((rd_T66 l0 x13_1).f1)) := (blk_cell BK142.out 1).trans rfl
           have hfz31_0 := blk_frozen BK142.out 0
           have hfz31_1 := blk_frozen BK142.out 1
           have hcz32_0 : wc.cell? ⟨gb143, 0, none⟩ = some (.string ((rd_T66 l1 x13_1).f0)) := (blk_cell BK143.out 0).trans rfl
           have hcz32_1 : wc.cell? ⟨gb143, 1, none⟩ = some (.string ((rd_T66 l1 x13_1).f1)) := (blk_cell BK143.out 1).trans rfl
           have hfz32_0 := blk_frozen BK143.out 0
           have hfz32_1 := blk_frozen BK143.out 1
           go_wp2
           go_ret
           exact ⟨y17_, y23_⟩
          ·rw [if_neg c29] at H
           have c29b0 : (!(((rd_T66 l0 x13_1).f0).toList == ((rd_T66 l1 x13_1).f0).toList) || (!(((rd_T66 l0 x13_1).f1).toList == ((rd_T66 l1 x13_1).f1).toList))) = false := by simpa using c29
           clear c29
           have H' := Aside0.mk H
           clear H
           have hnb33 := NB142_143.out
           have hnc33 := NB143_142.out
           have hcz34_0 : wc.cell? ⟨gb142, 0, none⟩ = some (.string ((rd_T66 l0 x13_1).f0)) := (blk_cell BK142.out 0).trans rfl
           have hcz34_1 : wc.cell? ⟨gb142, 1, none⟩ = some (.string ((rd_T66 l0 x13_1).f1)) := (blk_cell BK142.out 1).trans rfl
           have hfz34_0 := blk_frozen BK142.out 0
           have hfz34_1 := blk_frozen BK142.out 1
           have hcz35_0 : wc.cell? ⟨gb143, 0, none⟩ = some (.string ((rd_T66 l1 x13_1).f0)) := (blk_cell BK143.out 0).trans rfl
           have hcz35_1 : wc.cell? ⟨gb143, 1, none⟩ = some (.string ((rd_T66 l1 x13_1).f1)) := (blk_cell BK143.out 1).trans rfl
           have hfz35_0 := blk_frozen BK143.out 0
           have hfz35_1 := blk_frozen BK143.out 1
           go_wp2
           go_roundg kj7
           case measure => have := HK1.out; have := HJ7.out; omega
           case rel => exact ⟨(wrap64 (x13_1 + 1)), y6_, H', ⟨y50_⟩, ⟨y23_⟩⟩
      ·rw [if_neg c7] at H
       exact absurd H (by simp)
     ·rw [if_neg c6] at H
      exact absurd H (by simp)
    ·rw [if_neg c5] at H
     exact absurd H (by simp)
   ·rw [if_neg c4] at H
    have c4b0 : decide (x13_1 < ji3) = false := decide_eq_false c4
    clear c4
    by_cases c36 : (l0.length : Int) < (l1.length : Int)
    ·rw [if_pos c36] at H
     have c36b0 : decide ((l0.length : Int) < (l1.length : Int)) = true := decide_eq_true c36
     have c36b1 : decide (l0.length < l1.length) = true := decide_eq_true (Int.ofNat_lt.mp c36)
     clear c36
     obtain rfl := Option.some.inj H
     go_wp2
     go_ret
     exact ⟨y17_, y1_⟩
    ·rw [if_neg c36] at H
     have c36b0 : decide ((l0.length : Int) < (l1.length : Int)) = false := decide_eq_false c36
     have c36b1 : decide (l0.length < l1.length) = false := decide_eq_false (fun h => c36 (Int.ofNat_lt.mpr h))
     clear c36
     by_cases c37 : (l0.length : Int) > (l1.length : Int)
     ·rw [if_pos c37] at H
      have c37b0 : decide ((l1.length : Int) < (l0.length : Int)) = true := decide_eq_true c37
      have c37b1 : decide (l1.length < l0.length) = true := decide_eq_true (Int.ofNat_lt.mp c37)
      clear c37
      obtain rfl := Option.some.inj H
      go_wp2
      go_ret
      exact ⟨y17_, y1_⟩
     ·rw [if_neg c37] at H
      have c37b0 : decide ((l1.length : Int) < (l0.length : Int)) = false := decide_eq_false c37
      have c37b1 : decide (l1.length < l0.length) = false := decide_eq_false (fun h => c37 (Int.ofNat_lt.mpr h))
      clear c37
      obtain rfl := Option.some.inj H
      go_wp2
      go_ret
      exact ⟨y17_, y1_⟩
def labels_Same.l0 : Nat → List (S66) → List (S66) → Int → Int → Option (Bool)
 | 0, _, _, _, _ => none
 | k + 1, x0, x1, x12, x13 => if x13 < x12 then (if 0 ≤ x13 then (if x13 < (x0.length : Int) then (if x13 < (x1.length : Int) then (if (!((((rd_T66 x0 x13).f0).toList) == (((rd_T66 x1 x13).f0).toList)) || (!((((rd_T66 x0 x13).f1).toList) == (((rd_T66 x1 x13).f1).toList)))) = true then (some false) else (labels_Same.l0 k x0 x1 x12 (wrap64 (x13 + 1)))) else (none)) else (none)) else (none)) else (some true)
def labels_Same.f (k : Nat) (l0 : List (S66)) (l1 : List (S66)) : Option (Bool) := if (l0.length : Int) = (l1.length : Int) then (labels_Same.l0 k l0 l1 (l0.length : Int) 0) else (some false)
set_option maxHeartbeats 8000000 in
set_option maxRecDepth 100000 in
theorem labels_Same.calls (k : Nat) (A0 : Option Addr) (c0 : Nat) (l0 : List (S66)) (A1 : Option Addr) (c1 : Nat) (l1 : List (S66)) (r : Bool) (w : World) (hr0 : Kd.C k66 w A0 l0.length l0) (hc0 : l0.length ≤ c0) (hr1 : Kd.C k66 w A1 l1.length l1) (hc1 : l1.length ≤ c1) (h : labels_Same.f k l0 l1 = some r) :
  Calls Tryd.prog 49 #[.slice A0 l0.length c0, .slice A1 l1.length c1] w fun e w' => e = .returned (.bool r) ∧ Drawn0 w w' := by
 have hu66 := Tryd.underlying66
 have HR0 := Aside0.mk hr0
 have HC0 := Aside0.mk hc0
 clear hr0 hc0
 have HR1 := Aside0.mk hr1
 have HC1 := Aside0.mk hc1
 clear hr1 hc1
 have H : (if (l0.length : Int) = (l1.length : Int) then (labels_Same.l0 k l0 l1 (l0.length : Int) 0) else (some false)) = some r := h
 clear h
 by_cases c3 : (l0.length : Int) = (l1.length : Int)
 ·rw [if_pos c3] at H
  have c3b0 : ((l0.length : Int) == (l1.length : Int)) = true := beq_iff_eq.mpr c3
  have c3b1 : ((l0.length : Int) != (l1.length : Int)) = false := bne_eq_false_iff_eq.mpr c3
  have c3b2 : (l0.length == l1.length) = true := by first | simpa using c3 | (simp at c3 ⊢; omega)
  clear c3
  have H' := Aside0.mk H
  clear H
  go_enter Tryd.func49, Tryd.ntmps49
  go_wp2
  repeat (go_quiet (fail); try go_wp2)
  go_loopg [13] k (fun kq v13 w' => ∃ (x13_1 : Int), v13 = .int .i64 x13_1 ∧ Aside0 (labels_Same.l0 kq l0 l1 (l0.length : Int) x13_1 = some r) ∧ Aside0 (kq ≤ k) ∧ Drawn0 w w')
  case atStart => exact ⟨(0), y6_, H', ⟨Nat.le_refl _⟩, y7_⟩
  case round =>
   clear H'
   try clear c1
   try clear p2
   try clear c3
   try clear c3b0
   try clear c3b1
   try clear c3b2
   obtain ⟨x13_1, rfl, HA, HK1, ⟨m1, rfl⟩⟩ := hrel
   cases gk with
   | zero => exact absurd HA.out (by simp [labels_Same.l0])
   | succ k1 =>
    have H := HA.out
    clear HA
    simp only [labels_Same.l0] at H
    by_cases c4 : x13_1 < (l0.length : Int)
    ·rw [if_pos c4] at H
     have c4b0 : decide (x13_1 < (l0.length : Int)) = true := decide_eq_true c4
     clear c4
     by_cases c5 : 0 ≤ x13_1
     ·rw [if_pos c5] at H
      have c5b0 : decide (0 ≤ x13_1) = true := decide_eq_true c5
      clear c5
      by_cases c6 : x13_1 < (l0.length : Int)
      ·rw [if_pos c6] at H
       have c6b0 : decide (x13_1 < (l0.length : Int)) = true := decide_eq_true c6
       clear c6
       by_cases c7 : x13_1 < (l1.length : Int)
       ·rw [if_pos c7] at H
        have c7b0 : decide (x13_1 < (l1.length : Int)) = true := decide_eq_true c7
        clear c7
        by_cases c8 : (!((((rd_T66 l0 x13_1).f0).toList) == (((rd_T66 l1 x13_1).f0).toList)) || (!((((rd_T66 l0 x13_1).f1).toList) == (((rd_T66 l1 x13_1).f1).toList)))) = true
        ·rw [if_pos c8] at H
         have c8b0 : (!((((rd_T66 l0 x13_1).f0).toList) == (((rd_T66 l1 x13_1).f0).toList)) || (!((((rd_T66 l0 x13_1).f1).toList) == (((rd_T66 l1 x13_1).f1).toList)))) = true := c8
         clear c8
         obtain rfl := Option.some.inj H
         have p144 : 0 ≤ (x13_1 : Int) := of_decide_eq_true y4_
         have q144 : x13_1 < (l0.length : Int) := of_decide_eq_true y4_
         obtain ⟨ad144, e144, hx144_0, hx144_1⟩ := at_T66 HR0.out x13_1 p144 q144
         cases e144
         replace p144 := eq_true p144
         replace q144 := eq_true q144
         have p145 : 0 ≤ (x13_1 : Int) := of_decide_eq_true y4_
         have q145 : x13_1 < (l1.length : Int) := of_decide_eq_true y4_
         obtain ⟨ad145, e145, hx145_0, hx145_1⟩ := at_T66 HR1.out x13_1 p145 q145
         cases e145
         replace p145 := eq_true p145
         replace q145 := eq_true q145
         go_wp2
         repeat (go_quiet (fail); try go_wp2)
         go_ret
         exact ⟨y11_, y7_⟩
        ·rw [if_neg c8] at H
         have c8b0 : (!((((rd_T66 l0 x13_1).f0).toList) == (((rd_T66 l1 x13_1).f0).toList)) || (!((((rd_T66 l0 x13_1).f1).toList) == (((rd_T66 l1 x13_1).f1).toList)))) = false := by simpa using c8
         clear c8
         have H' := Aside0.mk H
         clear H
         have p144 : 0 ≤ (x13_1 : Int) := of_decide_eq_true y4_
         have q144 : x13_1 < (l0.length : Int) := of_decide_eq_true y4_
         obtain ⟨ad144, e144, hx144_0, hx144_1⟩ := at_T66 HR0.out x13_1 p144 q144
         cases e144
         replace p144 := eq_true p144
         replace q144 := eq_true q144
         have p145 : 0 ≤ (x13_1 : Int) := of_decide_eq_true y4_
         have q145 : x13_1 < (l1.length : Int) := of_decide_eq_true y4_
         obtain ⟨ad145, e145, hx145_0, hx145_1⟩ := at_T66 HR1.out x13_1 p145 q145
         cases e145
         replace p145 := eq_true p145
         replace q145 := eq_true q145
         go_wp2
         repeat (go_quiet (fail); try go_wp2)
         go_roundg k1
         case measure => have := HK1.out; omega
         case rel => exact ⟨(wrap64 (x13_1 + 1)), y6_, H', ⟨y51_⟩, y7_⟩
       ·rw [if_neg c7] at H
        exact absurd H (by simp)
      ·rw [if_neg c6] at H
       exact absurd H (by simp)
     ·rw [if_neg c5] at H
      exact absurd H (by simp)
    ·rw [if_neg c4] at H
     have c4b0 : decide (x13_1 < (l0.length : Int)) = false := decide_eq_false c4
     clear c4
     obtain rfl := Option.some.inj H
     go_wp2
     repeat (go_quiet (fail); try go_wp2)
     go_ret
     exact ⟨y11_, y7_⟩
 ·rw [if_neg c3] at H
  have c3b0 : ((l0.length : Int) == (l1.length : Int)) = false := beq_eq_false_iff_ne.mpr c3
  have c3b1 : ((l0.length : Int) != (l1.length : Int)) = true := bne_iff_ne.mpr c3
  have c3b2 : (l0.length == l1.length) = false := by first | simpa using c3 | (simp at c3 ⊢; omega)
  obtain rfl := Option.some.inj H
  go_enter Tryd.func49, Tryd.ntmps49
  go_wp2
  repeat (go_quiet (fail); try go_wp2)
  go_ret
  exact ⟨y11_, y7_⟩
end Go.Proofs.YtbpmgaaipkenkaaDoor.PMS
