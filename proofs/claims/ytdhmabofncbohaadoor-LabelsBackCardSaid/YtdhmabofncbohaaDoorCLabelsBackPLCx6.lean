import Derived.Test.YtdhmabofncbohaaDoorCLabelsBackH19
import Derived.Test.YtdhmabofncbohaaDoorCLabelsBackPLCx1
import Derived.Test.YtdhmabofncbohaaDoorCLabelsBackPLCx3
import Derived.Test.YtdhmabofncbohaaDoorCLabelsBackPLCx4
import Derived.Test.YtdhmabofncbohaaDoorCLabelsBackPLCx5
import Derived.Test.YtdhmabofncbohaaDoorCLabelsBackPLCx8
namespace Go.Proofs.YtdhmabofncbohaaDoor.PLC
open Go.RowKit Go.Proofs.YtdhmabofncbohaaDoorW.PrintWords Go.Proofs.YtdhmabofncbohaaDoorW.PrintLast Go.Proofs.YtdhmabofncbohaaDoorW.PrintMore
attribute [local go_sem] max2_int min2_int max_two min_two max_three min_three max_four min_four
set_option linter.unusedVariables false
set_option linter.unusedSimpArgs false
attribute [local go_sem high] eqA44
mutual
def labels_Compare.l0 : Nat → List (S44) → List (S44) → Int → Int → Option (Int)
 | 0, _, _, _, _ => none
 | k + 1, x0, x1, x12, x13 => if x13 < x12 then (if 0 ≤ x13 then (if x13 < (x0.length : Int) then (if x13 < (x1.length : Int) then (if (Op.bytesLess (((rd_T44 x0 x13).f0).toList) (((rd_T44 x1 x13).f0).toList)) = true then (labels_Compare.j1 k x0 x1 x12 x13 true ((rd_T44 x0 x13).f0) ((rd_T44 x0 x13).f1) ((rd_T44 x1 x13).f0) ((rd_T44 x1 x13).f1)) else (if ((rd_T44 x0 x13).f0).toList = ((rd_T44 x1 x13).f0).toList then (labels_Compare.j1 k x0 x1 x12 x13 (Op.bytesLess (((rd_T44 x0 x13).f1).toList) (((rd_T44 x1 x13).f1).toList)) ((rd_T44 x0 x13).f0) ((rd_T44 x0 x13).f1) ((rd_T44 x1 x13).f0) ((rd_T44 x1 x13).f1)) else (labels_Compare.j1 k x0 x1 x12 x13 false ((rd_T44 x0 x13).f0) ((rd_T44 x0 x13).f1) ((rd_T44 x1 x13).f0) ((rd_T44 x1 x13).f1)))) else (none)) else (none)) else (none)) else (if (x0.length : Int) < (x1.length : Int) then (some (-1)) else (if (x0.length : Int) > (x1.length : Int) then (some 1) else (some 0)))
def labels_Compare.j1 : Nat → List (S44) → List (S44) → Int → Int → Bool → ByteArray → ByteArray → ByteArray → ByteArray → Option (Int)
 | 0, _, _, _, _, _, _, _, _, _ => none
 | k + 1, x0, x1, x12, x13, x24, x217000, x217001, x218000, x218001 => if x24 = true then (some (-1)) else (if (!(x217000.toList == x218000.toList) || (!(x217001.toList == x218001.toList))) = true then (some 1) else (labels_Compare.l0 k x0 x1 x12 (wrap64 (x13 + 1))))
end
def labels_Compare.f (k : Nat) (l0 : List (S44)) (l1 : List (S44)) : Option (Int) := labels_Compare.l0 k l0 l1 (mn (l0.length : Int) (l1.length : Int)) 0
theorem labels_Compare.mono_l : ∀ k, (∀ y0 y1 y2 y3, LeO (labels_Compare.l0 k y0 y1 y2 y3) (labels_Compare.l0 (k + 1) y0 y1 y2 y3)) ∧ (∀ y0 y1 y2 y3 y4 y5 y6 y7 y8, LeO (labels_Compare.j1 k y0 y1 y2 y3 y4 y5 y6 y7 y8) (labels_Compare.j1 (k + 1) y0 y1 y2 y3 y4 y5 y6 y7 y8))
 | 0 => ⟨fun _ _ _ _ r h => by simp [labels_Compare.l0] at h, fun _ _ _ _ _ _ _ _ _ r h => by simp [labels_Compare.j1] at h⟩
 | k + 1 => by
  obtain ⟨ih0, ih1⟩ := labels_Compare.mono_l k
  refine ⟨?_, ?_⟩
  ·intro y0 y1 y2 y3
   unfold labels_Compare.l0
   repeat' first
   | (with_reducible exact ih0 _ _ _ _)
   | (with_reducible exact ih1 _ _ _ _ _ _ _ _ _)
   | (with_reducible exact LeO.refl _)
   | (with_reducible exact LeO.none _)
   | (with_reducible refine LeO.ite ?_ ?_)
   | (with_reducible refine LeO.bind ?_ (fun _ => ?_))
   | exact ih0 _ _ _ _
   | exact ih1 _ _ _ _ _ _ _ _ _
   | exact LeO.none _
   | refine LeO.ite ?_ ?_
   | refine LeO.bind ?_ (fun _ => ?_)
  ·intro y0 y1 y2 y3 y4 y5 y6 y7 y8
   unfold labels_Compare.j1
   repeat' first
   | (with_reducible exact ih0 _ _ _ _)
   | (with_reducible exact ih1 _ _ _ _ _ _ _ _ _)
   | (with_reducible exact LeO.refl _)
   | (with_reducible exact LeO.none _)
   | (with_reducible refine LeO.ite ?_ ?_)
   | (with_reducible refine LeO.bind ?_ (fun _ => ?_))
   | exact ih0 _ _ _ _
   | exact ih1 _ _ _ _ _ _ _ _ _
   | exact LeO.none _
   | refine LeO.ite ?_ ?_
   | refine LeO.bind ?_ (fun _ => ?_)
theorem labels_Compare.mono : ∀ a0 a1 k, LeO (labels_Compare.f k a0 a1) (labels_Compare.f (k + 1) a0 a1) := by
 intro a0 a1 k
 obtain ⟨ih0, ih1⟩ := labels_Compare.mono_l k
 unfold labels_Compare.f
 repeat' first
   | (with_reducible exact ih0 _ _ _ _)
   | (with_reducible exact ih1 _ _ _ _ _ _ _ _ _)
   | (with_reducible exact LeO.refl _)
   | (with_reducible exact LeO.none _)
   | (with_reducible refine LeO.ite ?_ ?_)
   | (with_reducible refine LeO.bind ?_ (fun _ => ?_))
   | exact ih0 _ _ _ _
   | exact ih1 _ _ _ _ _ _ _ _ _
   | exact LeO.none _
   | refine LeO.ite ?_ ?_
   | refine LeO.bind ?_ (fun _ => ?_)
def labels_Compare.T4 : Bool × List (List Nat × List Nat) := (true, [([], []), ([], []), ([0, 1], [0, 1]), ([2], [2]), ([], []), ([], []), ([4, 5], [4, 5]), ([6], [6]), ([], []), ([], []), ([8, 3, 0, 1, 2, 3, 8, 9], [3, 8]), ([9, 7, 10, 0, 1, 2, 3, 4, 5, 6, 7, 8, 9, 10], [7, 9])])
def labels_Compare.B4 : List Nat := [0, 0, 3, 7, 0, 0, 48, 112, 0, 0, 783, 2047]
theorem labels_Compare.tab4 : rtab .any (opsOf Tryd.f31 4) = labels_Compare.T4 := by kernel_rfl
theorem labels_Compare.bits4 : waitsOk labels_Compare.T4.2 labels_Compare.B4 = true := by kernel_rfl
set_option maxHeartbeats 8000000 in
set_option maxRecDepth 100000 in
theorem labels_Compare.calls (k : Nat) (A0 : Option Addr) (c0 : Nat) (l0 : List (S44)) (A1 : Option Addr) (c1 : Nat) (l1 : List (S44)) (r : Int) (w : World) (hr0 : Kd.C k44 w A0 l0.length l0) (hc0 : l0.length ≤ c0) (hr1 : Kd.C k44 w A1 l1.length l1) (hc1 : l1.length ≤ c1) (h : labels_Compare.f k l0 l1 = some r) :
  Calls Tryd.prog 31 #[.slice A0 l0.length c0, .slice A1 l1.length c1] w fun e w' => e = .returned (.int .i64 r) ∧ Below w.heap.size w w' := by
 have hu44 := Tryd.underlying44
 have HR0 := Aside0.mk hr0
 have HC0 := Aside0.mk hc0
 clear hr0 hc0
 have HR1 := Aside0.mk hr1
 have HC1 := Aside0.mk hc1
 clear hr1 hc1
 have HB := Aside0.mk (Below.refl w.heap.size w)
 have H : (labels_Compare.l0 k l0 l1 (mn (l0.length : Int) (l1.length : Int)) 0) = some r := h
 clear h
 obtain ⟨ji3, hji3⟩ : ∃ j_ : Int, (mn (l0.length : Int) (l1.length : Int)) = j_ := ⟨_, rfl⟩
 replace H : (labels_Compare.l0 k l0 l1 ji3 0) = some r := by first | (rw [hji3] at H; exact H) | (simp only [hji3] at H ⊢; exact H)
 (try (have hji3l : 0 ≤ ji3 := by (rw [← hji3]; unfold mn; (repeat' split) <;> omega)))
 (try (have hji3m : 0 ≤ ji3 := by omega))
 have hji3_ : (if (l1.length : Int) < (l0.length : Int) then (l1.length : Int) else (l0.length : Int)) = ji3 := hji3
 have hji3n_ : (if l1.length < l0.length then (l1.length : Int) else (l0.length : Int)) = ji3 := by rw [← hji3_]; simp only [Int.ofNat_lt]
 have H' := Aside0.mk H
 clear H
 go_enter Tryd.func31, Tryd.ntmps31
 go_wp2
 go_loopg [13] k (fun kq v13 w' => ∃ (x13_1 : Int), v13 = .int .i64 x13_1 ∧ Aside0 (labels_Compare.l0 kq l0 l1 ji3 x13_1 = some r) ∧ Aside0 (kq ≤ k) ∧ Aside0 (Below w.heap.size w w'))
 case atStart => exact ⟨(0), y6_, H', ⟨Nat.le_refl _⟩, ⟨y1_⟩⟩
 case round =>
  clear H'
  try clear c1
  try clear p2
  try clear c3
  obtain ⟨x13_1, rfl, HA, HK1, HB⟩ := hrel
  cases gk with
  | zero => exact absurd HA.out (by simp [labels_Compare.l0])
  | succ k1 =>
   have H := HA.out
   clear HA
   simp only [labels_Compare.l0] at H
   by_cases c4 : x13_1 < ji3
   ·rw [if_pos c4] at H
    have c4b0 : decide (x13_1 < ji3) = true := decide_eq_true c4
    clear c4
    by_cases c5 : 0 ≤ x13_1
    ·rw [if_pos c5] at H
     have c5b0 : decide (0 ≤ x13_1) = true := decide_eq_true c5
     clear c5
     by_cases c6 : x13_1 < (l0.length : Int)
     ·rw [if_pos c6] at H
      have c6b0 : decide (x13_1 < (l0.length : Int)) = true := decide_eq_true c6
      clear c6
      by_cases c7 : x13_1 < (l1.length : Int)
      ·rw [if_pos c7] at H
       have c7b0 : decide (x13_1 < (l1.length : Int)) = true := decide_eq_true c7
       clear c7
       have HC8 := Aside0.mk H
       clear H
       try go_wp2
       have n0_ := Aside0.mk (below_drew1 HB.out)
       clear HB
       have HB := n0_
       clear n0_
       have p214 : 0 ≤ (x13_1 : Int) := of_decide_eq_true y3_
       have q214 : x13_1 < (l0.length : Int) := of_decide_eq_true y3_
       obtain ⟨ad214, e214, hx214_0, hx214_1⟩ := at_T44 HR0.out x13_1 p214 q214
       have hw214_1 := hx214_1
       have hw214_0 := hx214_0
       cases e214
       replace hx214_0 := (HB.out.cell (World.block_lt_of_cell? w _ hx214_0)).trans hx214_0
       replace hx214_1 := (HB.out.cell (World.block_lt_of_cell? w _ hx214_1)).trans hx214_1
       replace p214 := eq_true p214
       replace q214 := eq_true q214
       have p215 : 0 ≤ (x13_1 : Int) := of_decide_eq_true y3_
       have q215 : x13_1 < (l1.length : Int) := of_decide_eq_true y3_
       obtain ⟨ad215, e215, hx215_0, hx215_1⟩ := at_T44 HR1.out x13_1 p215 q215
       have hw215_1 := hx215_1
       have hw215_0 := hx215_0
       cases e215
       replace hx215_0 := (HB.out.cell (World.block_lt_of_cell? w _ hx215_0)).trans hx215_0
       replace hx215_1 := (HB.out.cell (World.block_lt_of_cell? w _ hx215_1)).trans hx215_1
       replace p215 := eq_true p215
       replace q215 := eq_true q215
       refine start_ (n := 12) (S := fun w' => w'.cell? (ad214.add ((x13_1).toNat * 2)) = some (.string ((rd_T44 l0 x13_1).f0)) ∧ w'.cell? ⟨(ad214.add ((x13_1).toNat * 2)).block, (ad214.add ((x13_1).toNat * 2)).off + 1, none⟩ = some (.string ((rd_T44 l0 x13_1).f1)) ∧ w'.cell? (ad215.add ((x13_1).toNat * 2)) = some (.string ((rd_T44 l1 x13_1).f0)) ∧ w'.cell? ⟨(ad215.add ((x13_1).toNat * 2)).block, (ad215.add ((x13_1).toNat * 2)).off + 1, none⟩ = some (.string ((rd_T44 l1 x13_1).f1))) (ds := []) #[false, false, false, false, false, false, false, false, false, false, false, false] (by kernel_rfl) rfl rfl ⟨((HB.out.cell (World.block_lt_of_cell? w _ hw214_0)).trans hw214_0), ((HB.out.cell (World.block_lt_of_cell? w _ hw214_1)).trans hw214_1), ((HB.out.cell (World.block_lt_of_cell? w _ hw215_0)).trans hw215_0), ((HB.out.cell (World.block_lt_of_cell? w _ hw215_1)).trans hw215_1)⟩ (fun hHeld => ?_); refine with_tabW labels_Compare.tab4 labels_Compare.bits4 (fun HT_ HW_ => ?_)
       generalize wr.drew = w9 at HB hx214_0 hx214_1 hx215_0 hx215_1 hHeld ⊢
       refine pure_ (i := 0) (N := some 16) (v := ?_) (a' := ?_) #[true, false, false, false, false, false, false, false, false, false, false, false] rfl rfl (any_of HT_.out (by kernel_rfl)) (fun _ _ _ h => h) (Or.inl ⟨by rfl, ?_⟩) ?_ ?_
       rotate_left
       ·intro w'
        go_simp
        with_reducible rfl
       rotate_left
       ·simp only [Act.put, List.setIfInBounds_toArray, List.set_cons_zero, List.set_cons_succ, i64_w, i32_w]
        rfl
       refine pure_ (i := 1) (N := some 17) (v := ?_) (a' := ?_) #[true, true, false, false, false, false, false, false, false, false, false, false] rfl rfl (any_of HT_.out (by kernel_rfl)) (fun _ _ _ h => h) (Or.inl ⟨by rfl, ?_⟩) ?_ ?_
       rotate_left
       ·intro w'
        go_simp
        with_reducible rfl
       rotate_left
       ·simp only [Act.put, List.setIfInBounds_toArray, List.set_cons_zero, List.set_cons_succ, i64_w, i32_w]
        rfl
       refine pure_ (i := 2) (N := some 18) (v := ?_) (a' := ?_) #[true, true, true, false, false, false, false, false, false, false, false, false] rfl rfl (any_of HT_.out (by kernel_rfl)) (fun _ _ _ h => h) (Or.inl ⟨by rfl, ?_⟩) ?_ ?_
       rotate_left
       ·intro w'
        go_simp
        with_reducible rfl
       rotate_left
       ·simp only [Act.put, List.setIfInBounds_toArray, List.set_cons_zero, List.set_cons_succ, i64_w, i32_w]
        rfl
       refine pure_ (i := 4) (N := some 20) (v := ?_) (a' := ?_) #[true, true, true, false, true, false, false, false, false, false, false, false] rfl rfl (any_of HT_.out (by kernel_rfl)) (fun _ _ _ h => h) (Or.inl ⟨by rfl, ?_⟩) ?_ ?_
       rotate_left
       ·intro w'
        go_simp
        with_reducible rfl
       rotate_left
       ·simp only [Act.put, List.setIfInBounds_toArray, List.set_cons_zero, List.set_cons_succ, i64_w, i32_w]
        rfl
       refine pure_ (i := 5) (N := some 21) (v := ?_) (a' := ?_) #[true, true, true, false, true, true, false, false, false, false, false, false] rfl rfl (any_of HT_.out (by kernel_rfl)) (fun _ _ _ h => h) (Or.inl ⟨by rfl, ?_⟩) ?_ ?_
       rotate_left
       ·intro w'
        go_simp
        with_reducible rfl
       rotate_left
       ·simp only [Act.put, List.setIfInBounds_toArray, List.set_cons_zero, List.set_cons_succ, i64_w, i32_w]
        rfl
       refine pure_ (i := 6) (N := some 22) (v := ?_) (a' := ?_) #[true, true, true, false, true, true, true, false, false, false, false, false] rfl rfl (any_of HT_.out (by kernel_rfl)) (fun _ _ _ h => h) (Or.inl ⟨by rfl, ?_⟩) ?_ ?_
       rotate_left
       ·intro w'
        go_simp
        with_reducible rfl
       rotate_left
       ·simp only [Act.put, List.setIfInBounds_toArray, List.set_cons_zero, List.set_cons_succ, i64_w, i32_w]
        rfl
       refine take_ (i := 3) (N := some 19) (v := ?_) (a' := ?_) #[true, true, true, true, true, true, true, false, false, false, false, false] rfl rfl (take_ofW HT_.out HW_.out (by kernel_rfl)) (fun _ _ _ h => h) (Or.inl ⟨by rfl, ?_⟩) hHeld ?_ ?_
       rotate_left
       ·rintro w' ⟨s0, s1, s2, s3⟩
        go_simp
        with_reducible rfl
       rotate_left
       ·simp only [Act.put, List.setIfInBounds_toArray, List.set_cons_zero, List.set_cons_succ, i64_w, i32_w]
        rfl
       refine take_ (i := 7) (N := some 23) (v := ?_) (a' := ?_) #[true, true, true, true, true, true, true, true, false, false, false, false] rfl rfl (take_ofW HT_.out HW_.out (by kernel_rfl)) (fun _ _ _ h => h) (Or.inl ⟨by rfl, ?_⟩) hHeld ?_ ?_
       rotate_left
       ·rintro w' ⟨s0, s1, s2, s3⟩
        go_simp
        with_reducible rfl
       rotate_left
       ·simp only [Act.put, List.setIfInBounds_toArray, List.set_cons_zero, List.set_cons_succ, i64_w, i32_w]
        rfl
       refine join_ (σ := Nat × Nat) 2 #[true, true, true, true, true, true, true, true, true, true, false, false] (fun s_ => [(6, .pointer (some ⟨s_.1, 0, none⟩)), (7, .pointer (some ⟨s_.2, 0, none⟩))]) (fun s_ w' => (w'.cell? (ad214.add ((x13_1).toNat * 2)) = some (.string ((rd_T44 l0 x13_1).f0)) ∧ w'.cell? ⟨(ad214.add ((x13_1).toNat * 2)).block, (ad214.add ((x13_1).toNat * 2)).off + 1, none⟩ = some (.string ((rd_T44 l0 x13_1).f1)) ∧ w'.cell? (ad215.add ((x13_1).toNat * 2)) = some (.string ((rd_T44 l1 x13_1).f0)) ∧ w'.cell? ⟨(ad215.add ((x13_1).toNat * 2)).block, (ad215.add ((x13_1).toNat * 2)).off + 1, none⟩ = some (.string ((rd_T44 l1 x13_1).f1))) ∧ (w'.heap[s_.1]? = some (.cells #[.string (⟨#[]⟩ : ByteArray), .string (⟨#[]⟩ : ByteArray)] 44 (0, 0))) ∧ (w'.heap[s_.2]? = some (.cells #[.string (⟨#[]⟩ : ByteArray), .string (⟨#[]⟩ : ByteArray)] 44 (0, 0))) ∧ (w.heap.size ≤ s_.1) ∧ (w.heap.size ≤ s_.1) ∧ (s_.2 ≠ s_.1) ∧ (s_.1 ≠ s_.2) ∧ (w.heap.size ≤ s_.2) ∧ (w.heap.size ≤ s_.2) ∧ (Below w.heap.size w w')) ?_ ?_
       rotate_left
       ·intro hCont
        refine two_ (i := 8) (j := 9) (Ni := some 6) (Nj := some 7) #[true, true, true, true, true, true, true, true, true, false, false, false] #[true, true, true, true, true, true, true, true, false, true, false, false] rfl rfl rfl rfl (two_of HT_.out (by kernel_rfl)) (by decide) (by decide) (fun K hK => ?_) (fun K hK => ?_)
        ·skip
         refine box_step ?hg (N := 6) ?hd (cs := #[.string (⟨#[]⟩ : ByteArray), .string (⟨#[]⟩ : ByteArray)]) (t := 44) ?hr ?_; (case hd => rfl); (case hg => rfl); (case hr => first | (go_simp; done) | (go_simp; rfl))
         intro gb216 hg w10 hbox hb
         have n0_ := Aside0.mk (below_step y1_ hb)
         have n1_ := Aside0.mk (hbox)
         have n2_ := Aside0.mk ((y15_ : w.heap.size ≤ gb216))
         have n3_ := Aside0.mk ((y15_ : w.heap.size ≤ gb216))
         clear HB
         have HB := n0_
         have BK216 := n1_
         have GW216 := n2_
         have GE216 := n3_
         clear n0_ n1_ n2_ n3_
         clear hb hbox hg
         refine hK.out _ _ ⟨((HB.out.cell (World.block_lt_of_cell? w _ hw214_0)).trans hw214_0), ((HB.out.cell (World.block_lt_of_cell? w _ hw214_1)).trans hw214_1), ((HB.out.cell (World.block_lt_of_cell? w _ hw215_0)).trans hw215_0), ((HB.out.cell (World.block_lt_of_cell? w _ hw215_1)).trans hw215_1)⟩ (fun hHeld => ?_)
         clear hK K
         refine norm_ (a' := ?_) ?_ ?_
         rotate_left
         ·show Act.put _ (some 6) _ = _
          simp only [Act.put, List.setIfInBounds_toArray, List.set_cons_zero, List.set_cons_succ, i64_w, i32_w]
          rfl
         refine one_ (i := 9) (N := some 7) #[true, true, true, true, true, true, true, true, true, true, false, false] rfl rfl (one_of HT_.out (by kernel_rfl)) (by decide) (fun K hK => ?_)
         refine box_step ?hg (N := 7) ?hd (cs := #[.string (⟨#[]⟩ : ByteArray), .string (⟨#[]⟩ : ByteArray)]) (t := 44) ?hr ?_; (case hd => rfl); (case hg => rfl); (case hr => first | (go_simp; done) | (go_simp; rfl))
         intro gb217 hg w11 hbox hb
         have n0_ := Aside0.mk (blk_below (g := gb216) (o := .cells #[.string (⟨#[]⟩ : ByteArray), .string (⟨#[]⟩ : ByteArray)] 44 (0, 0)) y43_ hb)
         have n1_ := Aside0.mk (below_step y52_ hb)
         have n2_ := Aside0.mk (hbox)
         have n3_ := Aside0.mk ((by rw [hg]; exact (below_size y52_) : w.heap.size ≤ gb217))
         have n4_ := Aside0.mk ((by rw [hg]; exact (below_size y52_) : w.heap.size ≤ gb217))
         have n5_ := Aside0.mk ((by rw [hg]; exact Nat.ne_of_lt (blk_lt (g := gb216) (o := .cells #[.string (⟨#[]⟩ : ByteArray), .string (⟨#[]⟩ : ByteArray)] 44 (0, 0)) y43_) : gb216 ≠ gb217))
         have n6_ := Aside0.mk ((by rw [hg]; exact Nat.ne_of_gt (blk_lt (g := gb216) (o := .cells #[.string (⟨#[]⟩ : ByteArray), .string (⟨#[]⟩ : ByteArray)] 44 (0, 0)) y43_) : gb217 ≠ gb216))
         clear BK216
         clear HB
         have BK216 := n0_
         have HB := n1_
         have BK217 := n2_
         have GW217 := n3_
         have GE217 := n4_
         have NB216_217 := n5_
         have NB217_216 := n6_
         clear n0_ n1_ n2_ n3_ n4_ n5_ n6_
         clear hb hbox hg
         refine hK.out _ _ ⟨((HB.out.cell (World.block_lt_of_cell? w _ hw214_0)).trans hw214_0), ((HB.out.cell (World.block_lt_of_cell? w _ hw214_1)).trans hw214_1), ((HB.out.cell (World.block_lt_of_cell? w _ hw215_0)).trans hw215_0), ((HB.out.cell (World.block_lt_of_cell? w _ hw215_1)).trans hw215_1)⟩ (fun hHeld => ?_)
         clear hK K
         refine norm_ (a' := ?_) ?_ ?_
         rotate_left
         ·show Act.put _ (some 7) _ = _
          simp only [Act.put, List.setIfInBounds_toArray, List.set_cons_zero, List.set_cons_succ, i64_w, i32_w]
          rfl
         exact norm_ (by simp only [putAll, Act.put, List.setIfInBounds_toArray, List.set_cons_zero, List.set_cons_succ]) (hCont (gb216, gb217) _ ⟨hHeld, y43_, y42_, GW216.out, GE216.out, NB217_216.out, NB216_217.out, GW217.out, GE217.out, y25_⟩)
        ·skip
         refine box_step ?hg (N := 7) ?hd (cs := #[.string (⟨#[]⟩ : ByteArray), .string (⟨#[]⟩ : ByteArray)]) (t := 44) ?hr ?_; (case hd => rfl); (case hg => rfl); (case hr => first | (go_simp; done) | (go_simp; rfl))
         intro gb217 hg w10 hbox hb
         have n0_ := Aside0.mk (below_step y1_ hb)
         have n1_ := Aside0.mk (hbox)
         have n2_ := Aside0.mk ((y15_ : w.heap.size ≤ gb217))
         have n3_ := Aside0.mk ((y15_ : w.heap.size ≤ gb217))
         clear HB
         have HB := n0_
         have BK217 := n1_
         have GW217 := n2_
         have GE217 := n3_
         clear n0_ n1_ n2_ n3_
         clear hb hbox hg
         refine hK.out _ _ ⟨((HB.out.cell (World.block_lt_of_cell? w _ hw214_0)).trans hw214_0), ((HB.out.cell (World.block_lt_of_cell? w _ hw214_1)).trans hw214_1), ((HB.out.cell (World.block_lt_of_cell? w _ hw215_0)).trans hw215_0), ((HB.out.cell (World.block_lt_of_cell? w _ hw215_1)).trans hw215_1)⟩ (fun hHeld => ?_)
         clear hK K
         refine norm_ (a' := ?_) ?_ ?_
         rotate_left
         ·show Act.put _ (some 7) _ = _
          simp only [Act.put, List.setIfInBounds_toArray, List.set_cons_zero, List.set_cons_succ, i64_w, i32_w]
          rfl
         refine one_ (i := 8) (N := some 6) #[true, true, true, true, true, true, true, true, true, true, false, false] rfl rfl (one_of HT_.out (by kernel_rfl)) (by decide) (fun K hK => ?_)
         refine box_step ?hg (N := 6) ?hd (cs := #[.string (⟨#[]⟩ : ByteArray), .string (⟨#[]⟩ : ByteArray)]) (t := 44) ?hr ?_; (case hd => rfl); (case hg => rfl); (case hr => first | (go_simp; done) | (go_simp; rfl))
         intro gb216 hg w11 hbox hb
         have n0_ := Aside0.mk (blk_below (g := gb217) (o := .cells #[.string (⟨#[]⟩ : ByteArray), .string (⟨#[]⟩ : ByteArray)] 44 (0, 0)) y42_ hb)
         have n1_ := Aside0.mk (below_step y51_ hb)
         have n2_ := Aside0.mk (hbox)
         have n3_ := Aside0.mk ((by rw [hg]; exact (below_size y51_) : w.heap.size ≤ gb216))
         have n4_ := Aside0.mk ((by rw [hg]; exact (below_size y51_) : w.heap.size ≤ gb216))
         have n5_ := Aside0.mk ((by rw [hg]; exact Nat.ne_of_lt (blk_lt (g := gb217) (o := .cells #[.string (⟨#[]⟩ : ByteArray), .string (⟨#[]⟩ : ByteArray)] 44 (0, 0)) y42_) : gb217 ≠ gb216))
         have n6_ := Aside0.mk ((by rw [hg]; exact Nat.ne_of_gt (blk_lt (g := gb217) (o := .cells #[.string (⟨#[]⟩ : ByteArray), .string (⟨#[]⟩ : ByteArray)] 44 (0, 0)) y42_) : gb216 ≠ gb217))
         clear BK217
         clear HB
         have BK217 := n0_
         have HB := n1_
         have BK216 := n2_
         have GW216 := n3_
         have GE216 := n4_
         have NB217_216 := n5_
         have NB216_217 := n6_
         clear n0_ n1_ n2_ n3_ n4_ n5_ n6_
         clear hb hbox hg
         refine hK.out _ _ ⟨((HB.out.cell (World.block_lt_of_cell? w _ hw214_0)).trans hw214_0), ((HB.out.cell (World.block_lt_of_cell? w _ hw214_1)).trans hw214_1), ((HB.out.cell (World.block_lt_of_cell? w _ hw215_0)).trans hw215_0), ((HB.out.cell (World.block_lt_of_cell? w _ hw215_1)).trans hw215_1)⟩ (fun hHeld => ?_)
         clear hK K
         refine norm_ (a' := ?_) ?_ ?_
         rotate_left
         ·show Act.put _ (some 6) _ = _
          simp only [Act.put, List.setIfInBounds_toArray, List.set_cons_zero, List.set_cons_succ, i64_w, i32_w]
          rfl
         exact norm_ (by simp only [putAll, Act.put, List.setIfInBounds_toArray, List.set_cons_zero, List.set_cons_succ]) (hCont (gb216, gb217) _ ⟨hHeld, y43_, y42_, GW216.out, GE216.out, NB217_216.out, NB216_217.out, GW217.out, GE217.out, (by repeat (first | (with_reducible first | exact HB.out | apply below_alloc | apply pw_below_drewN | apply below_drew1 | refine below_set ?_ GE217.out | refine below_set ?_ GE216.out) | exact HB.out))⟩)
       rintro ⟨gb216, gb217⟩ w12 ⟨hS_, h0_, h1_, h2_, h3_, h4_, h5_, h6_, h7_, h8_⟩
       have n0_ : Aside0 (w12.heap[gb216]? = some (.cells #[.string (⟨#[]⟩ : ByteArray), .string (⟨#[]⟩ : ByteArray)] 44 (0, 0))) := ⟨h0_⟩
       have n1_ : Aside0 (w12.heap[gb217]? = some (.cells #[.string (⟨#[]⟩ : ByteArray), .string (⟨#[]⟩ : ByteArray)] 44 (0, 0))) := ⟨h1_⟩
       have n2_ : Aside0 (w.heap.size ≤ gb216) := ⟨h2_⟩
       have n3_ : Aside0 (w.heap.size ≤ gb216) := ⟨h3_⟩
       have n4_ : Aside0 (gb217 ≠ gb216) := ⟨h4_⟩
       have n5_ : Aside0 (gb216 ≠ gb217) := ⟨h5_⟩
       have n6_ : Aside0 (w.heap.size ≤ gb217) := ⟨h6_⟩
       have n7_ : Aside0 (w.heap.size ≤ gb217) := ⟨h7_⟩
       have n8_ : Aside0 (Below w.heap.size w w12) := ⟨h8_⟩
       clear HB
       clear h0_ h1_ h2_ h3_ h4_ h5_ h6_ h7_ h8_
       have BK216 := n0_
       have BK217 := n1_
       have GW216 := n2_
       have GE216 := n3_
       have NB217_216 := n4_
       have NB216_217 := n5_
       have GW217 := n6_
       have GE217 := n7_
       have HB := n8_
       clear n0_ n1_ n2_ n3_ n4_ n5_ n6_ n7_ n8_
       have hHeld : w12.cell? (ad214.add ((x13_1).toNat * 2)) = some (.string ((rd_T44 l0 x13_1).f0)) ∧ w12.cell? ⟨(ad214.add ((x13_1).toNat * 2)).block, (ad214.add ((x13_1).toNat * 2)).off + 1, none⟩ = some (.string ((rd_T44 l0 x13_1).f1)) ∧ w12.cell? (ad215.add ((x13_1).toNat * 2)) = some (.string ((rd_T44 l1 x13_1).f0)) ∧ w12.cell? ⟨(ad215.add ((x13_1).toNat * 2)).block, (ad215.add ((x13_1).toNat * 2)).off + 1, none⟩ = some (.string ((rd_T44 l1 x13_1).f1)) := hS_
       refine norm_ (a' := ?_) ?_ ?_
       rotate_left
       ·simp only [putAll, Act.put, List.setIfInBounds_toArray, List.set_cons_zero, List.set_cons_succ]
        rfl
       refine one_ (i := 10) (N := none) #[true, true, true, true, true, true, true, true, true, true, true, false] rfl rfl (one_of HT_.out (by kernel_rfl)) (by decide) (fun K hK => ?_)
       have hs13 : w12.cell? ⟨gb216, 0, none⟩ = some (.string (⟨#[]⟩ : ByteArray)) := (blk_cell BK216.out 0).trans rfl
       have hfs13 := blk_frozen BK216.out 0
       have hns13_1 := NB217_216.out
       have hms13_1 := NB216_217.out
       have hs14 : w12.cell? ⟨gb216, 1, none⟩ = some (.string (⟨#[]⟩ : ByteArray)) := (blk_cell BK216.out 1).trans rfl
       have hfs14 := blk_frozen BK216.out 1
       have hns14_1 := NB217_216.out
       have hms14_1 := NB216_217.out
       refine skip_ (w1 := ?_) (by rfl) rfl ?_ ?_
       rotate_left
       ·go_simp
        rfl
       refine hK.out _ _ ⟨((cell_far (p := ⟨gb216, _, none⟩) y55_ _).trans (((cell_far (p := ⟨gb216, _, none⟩) y55_ _).trans (hHeld.1)))), ((cell_far (p := ⟨gb216, _, none⟩) y57_ _).trans (((cell_far (p := ⟨gb216, _, none⟩) y57_ _).trans (hHeld.2.1)))), ((cell_far (p := ⟨gb216, _, none⟩) y59_ _).trans (((cell_far (p := ⟨gb216, _, none⟩) y59_ _).trans (hHeld.2.2.1)))), ((cell_far (p := ⟨gb216, _, none⟩) y61_ _).trans (((cell_far (p := ⟨gb216, _, none⟩) y61_ _).trans (hHeld.2.2.2))))⟩ (fun hHeld => ?_)
       clear hK K
       refine one_ (i := 11) (N := none) #[true, true, true, true, true, true, true, true, true, true, true, true] rfl rfl (one_of HT_.out (by kernel_rfl)) (by decide) (fun K hK => ?_)
       have hs15 : w12.cell? ⟨gb217, 0, none⟩ = some (.string (⟨#[]⟩ : ByteArray)) := (blk_cell BK217.out 0).trans rfl
       have hfs15 := blk_frozen BK217.out 0
       have hns15_0 := NB216_217.out
       have hms15_0 := NB217_216.out
       have hs16 : w12.cell? ⟨gb217, 1, none⟩ = some (.string (⟨#[]⟩ : ByteArray)) := (blk_cell BK217.out 1).trans rfl
       have hfs16 := blk_frozen BK217.out 1
       have hns16_0 := NB216_217.out
       have hms16_0 := NB217_216.out
       refine skip_ (w1 := ?_) (by rfl) rfl ?_ ?_
       rotate_left
       ·go_simp
        rfl
       refine hK.out _ _ ⟨((cell_far (p := ⟨gb217, _, none⟩) y54_ _).trans (((cell_far (p := ⟨gb217, _, none⟩) y54_ _).trans (hHeld.1)))), ((cell_far (p := ⟨gb217, _, none⟩) y56_ _).trans (((cell_far (p := ⟨gb217, _, none⟩) y56_ _).trans (hHeld.2.1)))), ((cell_far (p := ⟨gb217, _, none⟩) y58_ _).trans (((cell_far (p := ⟨gb217, _, none⟩) y58_ _).trans (hHeld.2.2.1)))), ((cell_far (p := ⟨gb217, _, none⟩) y60_ _).trans (((cell_far (p := ⟨gb217, _, none⟩) y60_ _).trans (hHeld.2.2.2))))⟩ (fun hHeld => ?_)
       clear hK K
       refine done_ (done_of HT_.out (by kernel_rfl)) ?_
       go_upto_region 5 with (fail)
       go_cut [24] (fun v24 wc => ∃ (kq : Nat) (x24_7 : Bool), v24 = .bool x24_7 ∧ Aside0 (labels_Compare.j1 kq l0 l1 ji3 x13_1 x24_7 ((rd_T44 l0 x13_1).f0) ((rd_T44 l0 x13_1).f1) ((rd_T44 l1 x13_1).f0) ((rd_T44 l1 x13_1).f1) = some r) ∧ Aside0 (kq ≤ k1) ∧ Aside0 (wc.heap[gb216]? = some (.cells #[.string ((rd_T44 l0 x13_1).f0), .string ((rd_T44 l0 x13_1).f1)] 44 (0, 0))) ∧ Aside0 (wc.heap[gb217]? = some (.cells #[.string ((rd_T44 l1 x13_1).f0), .string ((rd_T44 l1 x13_1).f1)] 44 (0, 0))) ∧ Aside0 (Below w.heap.size w wc))
       case first =>
        have H := HC8.out
        clear HC8
        by_cases c17 : (Op.bytesLess (((rd_T44 l0 x13_1).f0).toList) (((rd_T44 l1 x13_1).f0).toList)) = true
        ·rw [if_pos c17] at H
         have c17b0 : (Op.bytesLess (((rd_T44 l0 x13_1).f0).toList) (((rd_T44 l1 x13_1).f0).toList)) = true := c17
         clear c17
         (first | rw [c17b0] | (simp only [i64_w, i32_w]; rw [c17b0]) | skip)
         have H' := Aside0.mk H
         clear H
         have hnb18 := NB216_217.out
         have hnc18 := NB217_216.out
         have hcz19_0 : w12.cell? ⟨gb216, 0, none⟩ = some (.string (⟨#[]⟩ : ByteArray)) := (blk_cell BK216.out 0).trans rfl
         have hcz19_1 : w12.cell? ⟨gb216, 1, none⟩ = some (.string (⟨#[]⟩ : ByteArray)) := (blk_cell BK216.out 1).trans rfl
         have hfz19_0 := blk_frozen BK216.out 0
         have hfz19_1 := blk_frozen BK216.out 1
         have hcz20_0 : w12.cell? ⟨gb217, 0, none⟩ = some (.string (⟨#[]⟩ : ByteArray)) := (blk_cell BK217.out 0).trans rfl
         have hcz20_1 : w12.cell? ⟨gb217, 1, none⟩ = some (.string (⟨#[]⟩ : ByteArray)) := (blk_cell BK217.out 1).trans rfl
         have hfz20_0 := blk_frozen BK217.out 0
         have hfz20_1 := blk_frozen BK217.out 1
         go_wp2
         go_meet
         case rel => exact ⟨_, (true), y6_, H', ⟨y44_⟩, ⟨y19_⟩, ⟨y18_⟩, ⟨y25_⟩⟩
        ·rw [if_neg c17] at H
         have c17b0 : (Op.bytesLess (((rd_T44 l0 x13_1).f0).toList) (((rd_T44 l1 x13_1).f0).toList)) = false := by simpa using c17
         clear c17
         (first | rw [c17b0] | (simp only [i64_w, i32_w]; rw [c17b0]) | skip)
         by_cases c21 : ((rd_T44 l0 x13_1).f0).toList = ((rd_T44 l1 x13_1).f0).toList
         ·rw [if_pos c21] at H
          have c21b0 : (((rd_T44 l0 x13_1).f0).toList == ((rd_T44 l1 x13_1).f0).toList) = true := beq_iff_eq.mpr c21
          have c21b1 : (((rd_T44 l0 x13_1).f0).toList != ((rd_T44 l1 x13_1).f0).toList) = false := bne_eq_false_iff_eq.mpr c21
          clear c21
          have H' := Aside0.mk H
          clear H
          have hnb22 := NB216_217.out
          have hnc22 := NB217_216.out
          have hcz23_0 : w12.cell? ⟨gb216, 0, none⟩ = some (.string (⟨#[]⟩ : ByteArray)) := (blk_cell BK216.out 0).trans rfl
          have hcz23_1 : w12.cell? ⟨gb216, 1, none⟩ = some (.string (⟨#[]⟩ : ByteArray)) := (blk_cell BK216.out 1).trans rfl
          have hfz23_0 := blk_frozen BK216.out 0
          have hfz23_1 := blk_frozen BK216.out 1
          have hcz24_0 : w12.cell? ⟨gb217, 0, none⟩ = some (.string (⟨#[]⟩ : ByteArray)) := (blk_cell BK217.out 0).trans rfl
          have hcz24_1 : w12.cell? ⟨gb217, 1, none⟩ = some (.string (⟨#[]⟩ : ByteArray)) := (blk_cell BK217.out 1).trans rfl
          have hfz24_0 := blk_frozen BK217.out 0
          have hfz24_1 := blk_frozen BK217.out 1
          go_wp2
          go_meet
          case rel => exact ⟨_, ((Op.bytesLess (((rd_T44 l0 x13_1).f1).toList) (((rd_T44 l1 x13_1).f1).toList))), y6_, H', ⟨y44_⟩, ⟨y19_⟩, ⟨y18_⟩, ⟨y25_⟩⟩
         ·rw [if_neg c21] at H
          have c21b0 : (((rd_T44 l0 x13_1).f0).toList == ((rd_T44 l1 x13_1).f0).toList) = false := beq_eq_false_iff_ne.mpr c21
          have c21b1 : (((rd_T44 l0 x13_1).f0).toList != ((rd_T44 l1 x13_1).f0).toList) = true := bne_iff_ne.mpr c21
          have H' := Aside0.mk H
          clear H
          have hnb25 := NB216_217.out
          have hnc25 := NB217_216.out
          have hcz26_0 : w12.cell? ⟨gb216, 0, none⟩ = some (.string (⟨#[]⟩ : ByteArray)) := (blk_cell BK216.out 0).trans rfl
          have hcz26_1 : w12.cell? ⟨gb216, 1, none⟩ = some (.string (⟨#[]⟩ : ByteArray)) := (blk_cell BK216.out 1).trans rfl
          have hfz26_0 := blk_frozen BK216.out 0
          have hfz26_1 := blk_frozen BK216.out 1
          have hcz27_0 : w12.cell? ⟨gb217, 0, none⟩ = some (.string (⟨#[]⟩ : ByteArray)) := (blk_cell BK217.out 0).trans rfl
          have hcz27_1 : w12.cell? ⟨gb217, 1, none⟩ = some (.string (⟨#[]⟩ : ByteArray)) := (blk_cell BK217.out 1).trans rfl
          have hfz27_0 := blk_frozen BK217.out 0
          have hfz27_1 := blk_frozen BK217.out 1
          go_wp2
          go_meet
          case rel => exact ⟨_, (false), y6_, H', ⟨y44_⟩, ⟨y19_⟩, ⟨y18_⟩, ⟨y25_⟩⟩
       case rest =>
        clear HC8
        try clear c1
        try clear c2
        try clear p2
        try clear q2
        try clear hx2
        try clear c3
        try clear c4
        try clear c4b0
        try clear c5
        try clear c5b0
        try clear c6
        try clear c6b0
        try clear c7
        try clear c7b0
        try clear c17
        try clear c17b0
        try clear c18
        try clear c21
        try clear c21b0
        try clear c21b1
        try clear p21
        try clear q21
        try clear hx21
        try clear c22
        try clear c25
        try clear hcz19_0
        try clear hcz19_1
        try clear hcz20_0
        try clear hcz20_1
        try clear hcz23_0
        try clear hcz23_1
        try clear hcz24_0
        try clear hcz24_1
        try clear hcz26_0
        try clear hcz26_1
        try clear hcz27_0
        try clear hcz27_1
        try clear hfz19_0
        try clear hfz19_1
        try clear hfz20_0
        try clear hfz20_1
        try clear hfz23_0
        try clear hfz23_1
        try clear hfz24_0
        try clear hfz24_1
        try clear hfz26_0
        try clear hfz26_1
        try clear hfz27_0
        try clear hfz27_1
        try clear hx214_0
        try clear hx214_1
        try clear hx215_0
        try clear hx215_1
        try clear p2
        try clear p214
        try clear p215
        try clear q214
        try clear q215
        obtain ⟨kq, x24_7, rfl, HA, HJ7, BK216, BK217, HB⟩ := hcut
        cases kq with
        | zero => exact absurd HA.out (by simp [labels_Compare.j1])
        | succ kj7 =>
         have H := HA.out
         clear HA
         simp only [labels_Compare.j1] at H
         by_cases c28 : x24_7 = true
         ·subst c28
          have H1 : (some (-1)) = some r := by rw [if_pos rfl] at H; exact H
          clear H
          have H := H1
          clear H1
          obtain rfl := Option.some.inj H
          go_wp2
          go_ret
          exact ⟨y34_, y25_⟩
         ·replace c28 := Bool.eq_false_iff.mpr c28
          subst c28
          have H1 : (if (!(((rd_T44 l0 x13_1).f0).toList == ((rd_T44 l1 x13_1).f0).toList) || (!(((rd_T44 l0 x13_1).f1).toList == ((rd_T44 l1 x13_1).f1).toList))) = true then (some 1) else (labels_Compare.l0 kj7 l0 l1 ji3 (wrap64 (x13_1 + 1)))) = some r := by rw [if_neg (show ¬ (false = true) by decide)] at H; exact H
          clear H
          have H := H1
          clear H1
          by_cases c29 : (!(((rd_T44 l0 x13_1).f0).toList == ((rd_T44 l1 x13_1).f0).toList) || (!(((rd_T44 l0 x13_1).f1).toList == ((rd_T44 l1 x13_1).f1).toList))) = true
          ·rw [if_pos c29] at H
           have c29b0 : (!(((rd_T44 l0 x13_1).f0).toList == ((rd_T44 l1 x13_1).f0).toList) || (!(((rd_T44 l0 x13_1).f1).toList == ((rd_T44 l1 x13_1).f1).toList))) = true := c29
           clear c29
           obtain rfl := Option.some.inj H
           have hnb30 := NB216_217.out
           have hnc30 := NB217_216.out
           have hcz31_0 : wc.cell? ⟨gb216, 0, none⟩ = some (.string ((rd_T44 l0 x13_1).f0)) := (blk_cell BK216.out 0).trans rfl
           have hcz31_1 : wc.cell? ⟨gb216, 1, none⟩ = some (.string ((rd_T44 l0 x13_1).f1)) := (blk_cell BK216.out 1).trans rfl
           have hfz31_0 := blk_frozen BK216.out 0
           have hfz31_1 := blk_frozen BK216.out 1
           have hcz32_0 : wc.cell? ⟨gb217, 0, none⟩ = some (.string ((rd_T44 l1 x13_1).f0)) := (blk_cell BK217.out 0).trans rfl
           have hcz32_1 : wc.cell? ⟨gb217, 1, none⟩ = some (.string ((rd_T44 l1 x13_1).f1)) := (blk_cell BK217.out 1).trans rfl
           have hfz32_0 := blk_frozen BK217.out 0
           have hfz32_1 := blk_frozen BK217.out 1
           go_wp2
           go_ret
           exact ⟨y34_, y25_⟩
          ·rw [if_neg c29] at H
           have c29b0 : (!(((rd_T44 l0 x13_1).f0).toList == ((rd_T44 l1 x13_1).f0).toList) || (!(((rd_T44 l0 x13_1).f1).toList == ((rd_T44 l1 x13_1).f1).toList))) = false := by simpa using c29
           clear c29
           have H' := Aside0.mk H
           clear H
           have hnb33 := NB216_217.out
           have hnc33 := NB217_216.out
           have hcz34_0 : wc.cell? ⟨gb216, 0, none⟩ = some (.string ((rd_T44 l0 x13_1).f0)) := (blk_cell BK216.out 0).trans rfl
           have hcz34_1 : wc.cell? ⟨gb216, 1, none⟩ = some (.string ((rd_T44 l0 x13_1).f1)) := (blk_cell BK216.out 1).trans rfl
           have hfz34_0 := blk_frozen BK216.out 0
           have hfz34_1 := blk_frozen BK216.out 1
           have hcz35_0 : wc.cell? ⟨gb217, 0, none⟩ = some (.string ((rd_T44 l1 x13_1).f0)) := (blk_cell BK217.out 0).trans rfl
           have hcz35_1 : wc.cell? ⟨gb217, 1, none⟩ = some (.string ((rd_T44 l1 x13_1).f1)) := (blk_cell BK217.out 1).trans rfl
           have hfz35_0 := blk_frozen BK217.out 0
           have hfz35_1 := blk_frozen BK217.out 1
           go_wp2
           go_roundg kj7
           case measure => have := HK1.out; have := HJ7.out; omega
           case rel => exact ⟨(wrap64 (x13_1 + 1)), y6_, H', ⟨by have := HK1.out; have := HJ7.out; omega⟩, ⟨y25_⟩⟩
      ·rw [if_neg c7] at H
       exact absurd H (by simp)
     ·rw [if_neg c6] at H
      exact absurd H (by simp)
    ·rw [if_neg c5] at H
     exact absurd H (by simp)
   ·rw [if_neg c4] at H
    have c4b0 : decide (x13_1 < ji3) = false := decide_eq_false c4
    clear c4
    by_cases c36 : (l0.length : Int) < (l1.length : Int)
    ·rw [if_pos c36] at H
     have c36b0 : decide ((l0.length : Int) < (l1.length : Int)) = true := decide_eq_true c36
     have c36b1 : decide (l0.length < l1.length) = true := decide_eq_true (Int.ofNat_lt.mp c36)
     clear c36
     obtain rfl := Option.some.inj H
     go_wp2
     go_ret
     exact ⟨y34_, y1_⟩
    ·rw [if_neg c36] at H
     have c36b0 : decide ((l0.length : Int) < (l1.length : Int)) = false := decide_eq_false c36
     have c36b1 : decide (l0.length < l1.length) = false := decide_eq_false (fun h => c36 (Int.ofNat_lt.mpr h))
     clear c36
     by_cases c37 : (l0.length : Int) > (l1.length : Int)
     ·rw [if_pos c37] at H
      have c37b0 : decide ((l1.length : Int) < (l0.length : Int)) = true := decide_eq_true c37
      have c37b1 : decide (l1.length < l0.length) = true := decide_eq_true (Int.ofNat_lt.mp c37)
      clear c37
      obtain rfl := Option.some.inj H
      go_wp2
      go_ret
      exact ⟨y34_, y1_⟩
     ·rw [if_neg c37] at H
      have c37b0 : decide ((l1.length : Int) < (l0.length : Int)) = false := decide_eq_false c37
      have c37b1 : decide (l1.length < l0.length) = false := decide_eq_false (fun h => c37 (Int.ofNat_lt.mpr h))
      clear c37
      obtain rfl := Option.some.inj H
      go_wp2
      go_ret
      exact ⟨y34_, y1_⟩
def manometerlaw05_live.f (k : Nat)  : Option (Bool) := (labels_Make.f k (([(⟨(⟨#[98]⟩ : ByteArray), (⟨#[50]⟩ : ByteArray)⟩ : S44), (⟨(⟨#[97]⟩ : ByteArray), (⟨#[49]⟩ : ByteArray)⟩ : S44), (⟨(⟨#[99]⟩ : ByteArray), (⟨#[]⟩ : ByteArray)⟩ : S44)] : List (S44)))).bind fun bt221 => ((labels_Parse.f k (⟨#[123, 32, 98, 32, 61, 32, 34, 120, 34, 32, 44, 32, 125]⟩ : ByteArray)).bind fun bt225 => (if bt221.2 = 0 then ((labels_Print.f k bt221.1).bind fun t229 => (if t229.toList = ([123, 97, 61, 34, 49, 34, 44, 32, 98, 61, 34, 50, 34, 125] : List UInt8) then (if bt225.2 = 0 then ((manometerref05_Same.f k bt225.1 (([(⟨(⟨#[98]⟩ : ByteArray), (⟨#[120]⟩ : ByteArray)⟩ : S44)] : List (S44)))).bind fun t233 => (if t233 = true then ((labels_Compare.f k bt221.1 bt225.1).bind fun t234 => (some (t234 == (-1)))) else (some false))) else (some false)) else (some false))) else (some false)))
theorem manometerlaw05_live.mono : ∀ k, LeO (manometerlaw05_live.f k ) (manometerlaw05_live.f (k + 1) ) := by
 intro  k
 unfold manometerlaw05_live.f
 repeat' first
   | (with_reducible exact labels_Compare.mono _ _ _)
   | (with_reducible exact labels_Make.mono _ _)
   | (with_reducible exact labels_Parse.mono _ _)
   | (with_reducible exact labels_Print.mono _ _)
   | (with_reducible exact manometerref05_Same.mono _ _ _)
   | (with_reducible exact LeO.refl _)
   | (with_reducible exact LeO.none _)
   | (with_reducible refine LeO.ite ?_ ?_)
   | (with_reducible refine LeO.bind ?_ (fun _ => ?_))
   | exact labels_Compare.mono _ _ _
   | exact labels_Make.mono _ _
   | exact labels_Parse.mono _ _
   | exact labels_Print.mono _ _
   | exact manometerref05_Same.mono _ _ _
   | exact LeO.none _
   | refine LeO.ite ?_ ?_
   | refine LeO.bind ?_ (fun _ => ?_)
set_option maxHeartbeats 8000000 in
set_option maxRecDepth 100000 in
theorem manometerlaw05_live.calls (k : Nat)  (r : Bool) (w : World) (hT : Aside0 (Tab w)) (h : manometerlaw05_live.f k  = some r) :
  Calls Tryd.prog 15 #[] w fun e w' => e = .returned (.bool r) ∧ Below w.heap.size w w' := by
 have hu44 := Tryd.underlying44
 have HB := Aside0.mk (Below.refl w.heap.size w)
 have H : ((labels_Make.f k (([(⟨(⟨#[98]⟩ : ByteArray), (⟨#[50]⟩ : ByteArray)⟩ : S44), (⟨(⟨#[97]⟩ : ByteArray), (⟨#[49]⟩ : ByteArray)⟩ : S44), (⟨(⟨#[99]⟩ : ByteArray), (⟨#[]⟩ : ByteArray)⟩ : S44)] : List (S44)))).bind fun bt221 => ((labels_Parse.f k (⟨#[123, 32, 98, 32, 61, 32, 34, 120, 34, 32, 44, 32, 125]⟩ : ByteArray)).bind fun bt225 => (if bt221.2 = 0 then ((labels_Print.f k bt221.1).bind fun t229 => (if t229.toList = ([123, 97, 61, 34, 49, 34, 44, 32, 98, 61, 34, 50, 34, 125] : List UInt8) then (if bt225.2 = 0 then ((manometerref05_Same.f k bt225.1 (([(⟨(⟨#[98]⟩ : ByteArray), (⟨#[120]⟩ : ByteArray)⟩ : S44)] : List (S44)))).bind fun t233 => (if t233 = true then ((labels_Compare.f k bt221.1 bt225.1).bind fun t234 => (some (t234 == (-1)))) else (some false))) else (some false)) else (some false))) else (some false)))) = some r := h
 clear h
 obtain ⟨y218, hy218⟩ : ∃ y_ : List (S44), y_ = (([(⟨(⟨#[98]⟩ : ByteArray), (⟨#[50]⟩ : ByteArray)⟩ : S44), (⟨(⟨#[97]⟩ : ByteArray), (⟨#[49]⟩ : ByteArray)⟩ : S44), (⟨(⟨#[99]⟩ : ByteArray), (⟨#[]⟩ : ByteArray)⟩ : S44)] : List (S44))) := ⟨_, rfl⟩
 replace H : ((labels_Make.f k y218).bind fun bt221 => ((labels_Parse.f k (⟨#[123, 32, 98, 32, 61, 32, 34, 120, 34, 32, 44, 32, 125]⟩ : ByteArray)).bind fun bt225 => (if bt221.2 = 0 then ((labels_Print.f k bt221.1).bind fun t229 => (if t229.toList = ([123, 97, 61, 34, 49, 34, 44, 32, 98, 61, 34, 50, 34, 125] : List UInt8) then (if bt225.2 = 0 then ((manometerref05_Same.f k bt225.1 (([(⟨(⟨#[98]⟩ : ByteArray), (⟨#[120]⟩ : ByteArray)⟩ : S44)] : List (S44)))).bind fun t233 => (if t233 = true then ((labels_Compare.f k bt221.1 bt225.1).bind fun t234 => (some (t234 == (-1)))) else (some false))) else (some false)) else (some false))) else (some false)))) = some r := by first | (rw [hy218]; with_reducible exact H) | (have H2_ := (Option.bind_some _ _).symm.trans H; rw [hy218]; with_reducible exact H2_) | (have H2_ := (Option.bind_some _ _).symm.trans H; with_reducible exact H2_) | with_reducible exact H | (rw [hy218]; exact H) | exact H
 have Ny218 := Aside0.mk hy218
 clear hy218
 replace H := Option.bind_eq_some_iff.mp H
 obtain ⟨⟨t221, t222⟩, A10, H⟩ := H
 replace H : ((labels_Parse.f k (⟨#[123, 32, 98, 32, 61, 32, 34, 120, 34, 32, 44, 32, 125]⟩ : ByteArray)).bind fun bt225 => (if t222 = 0 then ((labels_Print.f k t221).bind fun t229 => (if t229.toList = ([123, 97, 61, 34, 49, 34, 44, 32, 98, 61, 34, 50, 34, 125] : List UInt8) then (if bt225.2 = 0 then ((manometerref05_Same.f k bt225.1 (([(⟨(⟨#[98]⟩ : ByteArray), (⟨#[120]⟩ : ByteArray)⟩ : S44)] : List (S44)))).bind fun t233 => (if t233 = true then ((labels_Compare.f k t221 bt225.1).bind fun t234 => (some (t234 == (-1)))) else (some false))) else (some false)) else (some false))) else (some false))) = some r := H
 have A1 := Aside0.mk A10
 clear A10
 replace H := Option.bind_eq_some_iff.mp H
 obtain ⟨⟨t225, t226⟩, A20, H⟩ := H
 replace H : (if t222 = 0 then ((labels_Print.f k t221).bind fun t229 => (if t229.toList = ([123, 97, 61, 34, 49, 34, 44, 32, 98, 61, 34, 50, 34, 125] : List UInt8) then (if t226 = 0 then ((manometerref05_Same.f k t225 (([(⟨(⟨#[98]⟩ : ByteArray), (⟨#[120]⟩ : ByteArray)⟩ : S44)] : List (S44)))).bind fun t233 => (if t233 = true then ((labels_Compare.f k t221 t225).bind fun t234 => (some (t234 == (-1)))) else (some false))) else (some false)) else (some false))) else (some false)) = some r := H
 have A2 := Aside0.mk A20
 clear A20
 by_cases c3 : t222 = 0
 ·rw [if_pos c3] at H
  have c3b0 : (t222 == 0) = true := beq_iff_eq.mpr c3
  have c3b1 : (t222 != 0) = false := bne_eq_false_iff_eq.mpr c3
  clear c3
  replace H := Option.bind_eq_some_iff.mp H
  obtain ⟨t229, A40, H⟩ := H
  replace H : (if t229.toList = ([123, 97, 61, 34, 49, 34, 44, 32, 98, 61, 34, 50, 34, 125] : List UInt8) then (if t226 = 0 then ((manometerref05_Same.f k t225 (([(⟨(⟨#[98]⟩ : ByteArray), (⟨#[120]⟩ : ByteArray)⟩ : S44)] : List (S44)))).bind fun t233 => (if t233 = true then ((labels_Compare.f k t221 t225).bind fun t234 => (some (t234 == (-1)))) else (some false))) else (some false)) else (some false)) = some r := H
  have A4 := Aside0.mk A40
  clear A40
  by_cases c5 : t229.toList = ([123, 97, 61, 34, 49, 34, 44, 32, 98, 61, 34, 50, 34, 125] : List UInt8)
  ·rw [if_pos c5] at H
   have c5b0 : (t229.toList == ([123, 97, 61, 34, 49, 34, 44, 32, 98, 61, 34, 50, 34, 125] : List UInt8)) = true := beq_iff_eq.mpr c5
   have c5b1 : (t229.toList != ([123, 97, 61, 34, 49, 34, 44, 32, 98, 61, 34, 50, 34, 125] : List UInt8)) = false := bne_eq_false_iff_eq.mpr c5
   clear c5
   by_cases c6 : t226 = 0
   ·rw [if_pos c6] at H
    have c6b0 : (t226 == 0) = true := beq_iff_eq.mpr c6
    have c6b1 : (t226 != 0) = false := bne_eq_false_iff_eq.mpr c6
    clear c6
    obtain ⟨y230, hy230⟩ : ∃ y_ : List (S44), y_ = (([(⟨(⟨#[98]⟩ : ByteArray), (⟨#[120]⟩ : ByteArray)⟩ : S44)] : List (S44))) := ⟨_, rfl⟩
    replace H : ((manometerref05_Same.f k t225 y230).bind fun t233 => (if t233 = true then ((labels_Compare.f k t221 t225).bind fun t234 => (some (t234 == (-1)))) else (some false))) = some r := by first | (rw [hy230]; with_reducible exact H) | (have H2_ := (Option.bind_some _ _).symm.trans H; rw [hy230]; with_reducible exact H2_) | (have H2_ := (Option.bind_some _ _).symm.trans H; with_reducible exact H2_) | with_reducible exact H | (rw [hy230]; exact H) | exact H
    have Ny230 := Aside0.mk hy230
    clear hy230
    replace H := Option.bind_eq_some_iff.mp H
    obtain ⟨t233, A70, H⟩ := H
    replace H : (if t233 = true then ((labels_Compare.f k t221 t225).bind fun t234 => (some (t234 == (-1)))) else (some false)) = some r := H
    have A7 := Aside0.mk A70
    clear A70
    by_cases c8 : t233 = true
    ·subst c8
     have H1 : ((labels_Compare.f k t221 t225).bind fun t234 => (some (t234 == (-1)))) = some r := by rw [if_pos rfl] at H; exact H
     clear H
     have H := H1
     clear H1
     replace H := Option.bind_eq_some_iff.mp H
     obtain ⟨t234, A90, H⟩ := H
     replace H : (some (t234 == (-1))) = some r := H
     have A9 := Aside0.mk A90
     clear A90
     obtain rfl := Option.some.inj H
     go_enter Tryd.func15, Tryd.ntmps15
     go_wp2_with (first | ((with_reducible refine gate_dst (N := 9) rfl ?_); (try (refine gate_guard (by rfl) ?_; dsimp only)); refine Kd.R_lit k44 _ 44 ?hg (N := 9) ?hd (xs := ([(⟨(⟨#[98]⟩ : ByteArray), (⟨#[50]⟩ : ByteArray)⟩ : S44), (⟨(⟨#[97]⟩ : ByteArray), (⟨#[49]⟩ : ByteArray)⟩ : S44), (⟨(⟨#[99]⟩ : ByteArray), (⟨#[]⟩ : ByteArray)⟩ : S44)] : List (S44))) (inner := [.string (⟨#[98]⟩ : ByteArray), .string (⟨#[50]⟩ : ByteArray), .string (⟨#[97]⟩ : ByteArray), .string (⟨#[49]⟩ : ByteArray), .string (⟨#[99]⟩ : ByteArray), .string (⟨#[]⟩ : ByteArray)]) (ok := fun _ => True) (okp := fun _ => True) ?hr ?hp (fun _ hk => hk) trivial (Below.refl _ _) (Nat.le_refl _) (by simp) ?_; (case hd => rfl); (case hg => rfl); (case hr => first | (go_simp; done) | (go_simp; rfl)); (case hp => exact (Reps.c2 (show Kd.M k44 _ _ _ (⟨(⟨#[98]⟩ : ByteArray), (⟨#[50]⟩ : ByteArray)⟩ : S44) [.string (⟨#[98]⟩ : ByteArray), .string (⟨#[50]⟩ : ByteArray)] from (k44_mkM _ _ _ (⟨(⟨#[98]⟩ : ByteArray), (⟨#[50]⟩ : ByteArray)⟩ : S44) )) (Reps.c2 (show Kd.M k44 _ _ _ (⟨(⟨#[97]⟩ : ByteArray), (⟨#[49]⟩ : ByteArray)⟩ : S44) [.string (⟨#[97]⟩ : ByteArray), .string (⟨#[49]⟩ : ByteArray)] from (k44_mkM _ _ _ (⟨(⟨#[97]⟩ : ByteArray), (⟨#[49]⟩ : ByteArray)⟩ : S44) )) (Reps.c2 (show Kd.M k44 _ _ _ (⟨(⟨#[99]⟩ : ByteArray), (⟨#[]⟩ : ByteArray)⟩ : S44) [.string (⟨#[99]⟩ : ByteArray), .string (⟨#[]⟩ : ByteArray)] from (k44_mkM _ _ _ (⟨(⟨#[99]⟩ : ByteArray), (⟨#[]⟩ : ByteArray)⟩ : S44) )) (Reps.none _ _))))); intro v219 w10 ho11 hb hg_ hnew_; clear hg_ hnew_; (first | rw [← Ny218.out] at ho11 | (simp only [Int.reduceToNat] at ho11; rw [← Ny218.out] at ho11)); have n0_ := Aside0.mk (Kd.R_lower ho11 (below_size y1_)); have n1_ := Aside0.mk (below_step y1_ hb); clear HB; have HO220 := n0_; have HB := n1_; clear n0_ n1_; clear hb ho11; obtain ⟨Ao12, co12, eo12⟩ := Kd.R_slice HO220.out; subst eo12) | ((with_reducible refine gate_callee (f := 34) rfl ?_); refine goesL_ (some 10) rfl rfl Tryd.func34 (by kernel_rfl) rfl #[.slice Ao12 y218.length co12] rfl y2_ ?_; (with_reducible refine (labels_Make.calls k _ _ y218 t221 t222 _ ?side1 ?side2 ?side3 A1.out).mono ?_); (case side1 => exact ⟨Tab_below hT.out y1_⟩); (case side2 => repeat (first | exact (Kd.R_reads' HO220.out).2.2 | (with_reducible refine Kd.C_alloc ?_ _) | (with_reducible refine Kd.C_drewN ?_ _) | (with_reducible refine Kd.C_drew ?_))); (case side3 => exact (Kd.R_reads' HO220.out).2.1); rintro e w13 ⟨v223, rfl, ho0, hb⟩; refine ⟨_, rfl, ?_⟩; have n0_ := Aside0.mk (Kd.R_elder' y9_ (Kd.R_base ho0) hb); have n1_ := Aside0.mk (Kd.R_lower (Kd.R_new' ho0 (Kd.R_lt y9_)) (below_size y1_)); have n2_ := Aside0.mk (below_step y1_ hb); clear HO220; clear HB; have HO220 := n0_; have HO224 := n1_; have HB := n2_; clear n0_ n1_ n2_; (try clear hb); (try clear hb2); (try clear hk); (try clear hi); (try clear ho0)) | ((with_reducible refine gate_callee (f := 25) rfl ?_); refine goesL_ (some 14) rfl rfl Tryd.func25 (by kernel_rfl) rfl #[.string (⟨#[123, 32, 98, 32, 61, 32, 34, 120, 34, 32, 44, 32, 125]⟩ : ByteArray)] rfl y2_ ?_; (with_reducible refine (labels_Parse.calls k (⟨#[123, 32, 98, 32, 61, 32, 34, 120, 34, 32, 44, 32, 125]⟩ : ByteArray) t225 t226 _ ?side1 A2.out).mono ?_); (case side1 => exact ⟨Tab_below hT.out y1_⟩); rintro e w14 ⟨v227, rfl, ho0, hb⟩; refine ⟨_, rfl, ?_⟩; have n0_ := Aside0.mk (Kd.R_elder' y9_ (Kd.R_base ho0) hb); have n1_ := Aside0.mk (Kd.R_elder' y16_ (Kd.R_base ho0) hb); have n2_ := Aside0.mk (Kd.R_lower (Kd.R_new' (Kd.R_new' ho0 (Kd.R_lt y9_)) (Kd.R_lt y16_)) (below_size y1_)); have n3_ := Aside0.mk (below_step y1_ hb); clear HO220; clear HO224; clear HB; have HO220 := n0_; have HO224 := n1_; have HO228 := n2_; have HB := n3_; clear n0_ n1_ n2_ n3_; (try clear hb); (try clear hb2); (try clear hk); (try clear hi); (try clear ho0); obtain ⟨Ao15, co15, eo15⟩ := Kd.R_slice HO224.out; subst eo15) | (go_at_call 27; (with_reducible refine (labels_Print.calls k _ _ t221 t229 _ ?side1 ?side2 A4.out).mono ?_); (case side1 => repeat (first | exact (Kd.R_reads' HO224.out).2.2 | (with_reducible refine Kd.C_alloc ?_ _) | (with_reducible refine Kd.C_drewN ?_ _) | (with_reducible refine Kd.C_drew ?_))); (case side2 => exact (Kd.R_reads' HO224.out).2.1); rintro e w16 ⟨rfl, hb⟩; have n0_ := Aside0.mk (Kd.R_below y9_ hb); have n1_ := Aside0.mk (Kd.R_below y16_ hb); have n2_ := Aside0.mk (Kd.R_below y30_ hb); have n3_ := Aside0.mk (below_step y1_ hb); clear HO220; clear HO224; clear HO228; clear HB; have HO220 := n0_; have HO224 := n1_; have HO228 := n2_; have HB := n3_; clear n0_ n1_ n2_ n3_; (try clear hb); (try clear hb2); (try clear hk); (try clear hi)) | ((with_reducible refine gate_dst (N := 31) rfl ?_); (try (refine gate_guard (by rfl) ?_; dsimp only)); refine Kd.R_lit k44 _ 44 ?hg (N := 31) ?hd (xs := ([(⟨(⟨#[98]⟩ : ByteArray), (⟨#[120]⟩ : ByteArray)⟩ : S44)] : List (S44))) (inner := [.string (⟨#[98]⟩ : ByteArray), .string (⟨#[120]⟩ : ByteArray)]) (ok := fun _ => True) (okp := fun _ => True) ?hr ?hp (fun _ hk => hk) trivial (Below.refl _ _) (Nat.le_refl _) (by simp) ?_; (case hd => rfl); (case hg => rfl); (case hr => first | (go_simp; done) | (go_simp; rfl)); (case hp => exact (Reps.c2 (show Kd.M k44 _ _ _ (⟨(⟨#[98]⟩ : ByteArray), (⟨#[120]⟩ : ByteArray)⟩ : S44) [.string (⟨#[98]⟩ : ByteArray), .string (⟨#[120]⟩ : ByteArray)] from (k44_mkM _ _ _ (⟨(⟨#[98]⟩ : ByteArray), (⟨#[120]⟩ : ByteArray)⟩ : S44) )) (Reps.none _ _))); intro v231 w17 ho18 hb hg_ hnew_; clear hg_ hnew_; (first | rw [← Ny230.out] at ho18 | (simp only [Int.reduceToNat] at ho18; rw [← Ny230.out] at ho18)); have n0_ := Aside0.mk (Kd.R_elder' y9_ (Kd.R_base ho18) hb); have n1_ := Aside0.mk (Kd.R_elder' y16_ (Kd.R_base ho18) hb); have n2_ := Aside0.mk (Kd.R_elder' y30_ (Kd.R_base ho18) hb); have n3_ := Aside0.mk (Kd.R_lower (Kd.R_new' (Kd.R_new' (Kd.R_new' ho18 (Kd.R_lt y9_)) (Kd.R_lt y16_)) (Kd.R_lt y30_)) (below_size y1_)); have n4_ := Aside0.mk (below_step y1_ hb); clear HO220; clear HO224; clear HO228; clear HB; have HO220 := n0_; have HO224 := n1_; have HO228 := n2_; have HO232 := n3_; have HB := n4_; clear n0_ n1_ n2_ n3_ n4_; clear hb ho18; obtain ⟨Ao19, co19, eo19⟩ := Kd.R_slice HO228.out; subst eo19; obtain ⟨Ao20, co20, eo20⟩ := Kd.R_slice HO232.out; subst eo20) | (go_at_call 29; (with_reducible refine (manometerref05_Same.calls k _ _ t225 _ _ y230 true _ ?side1 ?side2 ?side3 ?side4 A7.out).mono ?_); (case side1 => repeat (first | exact (Kd.R_reads' HO228.out).2.2 | (with_reducible refine Kd.C_alloc ?_ _) | (with_reducible refine Kd.C_drewN ?_ _) | (with_reducible refine Kd.C_drew ?_))); (case side2 => exact (Kd.R_reads' HO228.out).2.1); (case side3 => repeat (first | exact (Kd.R_reads' HO232.out).2.2 | (with_reducible refine Kd.C_alloc ?_ _) | (with_reducible refine Kd.C_drewN ?_ _) | (with_reducible refine Kd.C_drew ?_))); (case side4 => exact (Kd.R_reads' HO232.out).2.1); rintro e w' ⟨rfl, ⟨nd, rfl⟩⟩) | (go_at_call 31; (with_reducible refine (labels_Compare.calls k _ _ t221 _ _ t225 t234 _ ?side1 ?side2 ?side3 ?side4 A9.out).mono ?_); (case side1 => repeat (first | exact (Kd.R_reads' HO224.out).2.2 | (with_reducible refine Kd.C_alloc ?_ _) | (with_reducible refine Kd.C_drewN ?_ _) | (with_reducible refine Kd.C_drew ?_))); (case side2 => exact (Kd.R_reads' HO224.out).2.1); (case side3 => repeat (first | exact (Kd.R_reads' HO228.out).2.2 | (with_reducible refine Kd.C_alloc ?_ _) | (with_reducible refine Kd.C_drewN ?_ _) | (with_reducible refine Kd.C_drew ?_))); (case side4 => exact (Kd.R_reads' HO228.out).2.1); rintro e w21 ⟨rfl, hb⟩; have n0_ := Aside0.mk (Kd.R_below y9_ hb); have n1_ := Aside0.mk (Kd.R_below y16_ hb); have n2_ := Aside0.mk (Kd.R_below y30_ hb); have n3_ := Aside0.mk (Kd.R_below (by (with_reducible repeat (first | apply Kd.R_alloc | apply Kd.R_drewN | apply Kd.R_drew)); exact HO232.out) hb); have n4_ := Aside0.mk (below_step y1_ hb); clear HO220; clear HO224; clear HO228; clear HO232; clear HB; have HO220 := n0_; have HO224 := n1_; have HO228 := n2_; have HO232 := n3_; have HB := n4_; clear n0_ n1_ n2_ n3_ n4_; (try clear hb); (try clear hb2); (try clear hk); (try clear hi)))
     go_ret
     exact ⟨y7_, y1_⟩
    ·replace c8 := Bool.eq_false_iff.mpr c8
     subst c8
     have H1 : (some false) = some r := by rw [if_neg (show ¬ (false = true) by decide)] at H; exact H
     clear H
     have H := H1
     clear H1
     obtain rfl := Option.some.inj H
     go_enter Tryd.func15, Tryd.ntmps15
     go_wp2_with (first | ((with_reducible refine gate_dst (N := 9) rfl ?_); (try (refine gate_guard (by rfl) ?_; dsimp only)); refine Kd.R_lit k44 _ 44 ?hg (N := 9) ?hd (xs := ([(⟨(⟨#[98]⟩ : ByteArray), (⟨#[50]⟩ : ByteArray)⟩ : S44), (⟨(⟨#[97]⟩ : ByteArray), (⟨#[49]⟩ : ByteArray)⟩ : S44), (⟨(⟨#[99]⟩ : ByteArray), (⟨#[]⟩ : ByteArray)⟩ : S44)] : List (S44))) (inner := [.string (⟨#[98]⟩ : ByteArray), .string (⟨#[50]⟩ : ByteArray), .string (⟨#[97]⟩ : ByteArray), .string (⟨#[49]⟩ : ByteArray), .string (⟨#[99]⟩ : ByteArray), .string (⟨#[]⟩ : ByteArray)]) (ok := fun _ => True) (okp := fun _ => True) ?hr ?hp (fun _ hk => hk) trivial (Below.refl _ _) (Nat.le_refl _) (by simp) ?_; (case hd => rfl); (case hg => rfl); (case hr => first | (go_simp; done) | (go_simp; rfl)); (case hp => exact (Reps.c2 (show Kd.M k44 _ _ _ (⟨(⟨#[98]⟩ : ByteArray), (⟨#[50]⟩ : ByteArray)⟩ : S44) [.string (⟨#[98]⟩ : ByteArray), .string (⟨#[50]⟩ : ByteArray)] from (k44_mkM _ _ _ (⟨(⟨#[98]⟩ : ByteArray), (⟨#[50]⟩ : ByteArray)⟩ : S44) )) (Reps.c2 (show Kd.M k44 _ _ _ (⟨(⟨#[97]⟩ : ByteArray), (⟨#[49]⟩ : ByteArray)⟩ : S44) [.string (⟨#[97]⟩ : ByteArray), .string (⟨#[49]⟩ : ByteArray)] from (k44_mkM _ _ _ (⟨(⟨#[97]⟩ : ByteArray), (⟨#[49]⟩ : ByteArray)⟩ : S44) )) (Reps.c2 (show Kd.M k44 _ _ _ (⟨(⟨#[99]⟩ : ByteArray), (⟨#[]⟩ : ByteArray)⟩ : S44) [.string (⟨#[99]⟩ : ByteArray), .string (⟨#[]⟩ : ByteArray)] from (k44_mkM _ _ _ (⟨(⟨#[99]⟩ : ByteArray), (⟨#[]⟩ : ByteArray)⟩ : S44) )) (Reps.none _ _))))); intro v219 w22 ho23 hb hg_ hnew_; clear hg_ hnew_; (first | rw [← Ny218.out] at ho23 | (simp only [Int.reduceToNat] at ho23; rw [← Ny218.out] at ho23)); have n0_ := Aside0.mk (Kd.R_lower ho23 (below_size y1_)); have n1_ := Aside0.mk (below_step y1_ hb); clear HB; have HO220 := n0_; have HB := n1_; clear n0_ n1_; clear hb ho23; obtain ⟨Ao24, co24, eo24⟩ := Kd.R_slice HO220.out; subst eo24) | ((with_reducible refine gate_callee (f := 34) rfl ?_); refine goesL_ (some 10) rfl rfl Tryd.func34 (by kernel_rfl) rfl #[.slice Ao24 y218.length co24] rfl y2_ ?_; (with_reducible refine (labels_Make.calls k _ _ y218 t221 t222 _ ?side1 ?side2 ?side3 A1.out).mono ?_); (case side1 => exact ⟨Tab_below hT.out y1_⟩); (case side2 => repeat (first | exact (Kd.R_reads' HO220.out).2.2 | (with_reducible refine Kd.C_alloc ?_ _) | (with_reducible refine Kd.C_drewN ?_ _) | (with_reducible refine Kd.C_drew ?_))); (case side3 => exact (Kd.R_reads' HO220.out).2.1); rintro e w25 ⟨v223, rfl, ho0, hb⟩; refine ⟨_, rfl, ?_⟩; have n0_ := Aside0.mk (Kd.R_elder' y9_ (Kd.R_base ho0) hb); have n1_ := Aside0.mk (Kd.R_lower (Kd.R_new' ho0 (Kd.R_lt y9_)) (below_size y1_)); have n2_ := Aside0.mk (below_step y1_ hb); clear HO220; clear HB; have HO220 := n0_; have HO224 := n1_; have HB := n2_; clear n0_ n1_ n2_; (try clear hb); (try clear hb2); (try clear hk); (try clear hi); (try clear ho0)) | ((with_reducible refine gate_callee (f := 25) rfl ?_); refine goesL_ (some 14) rfl rfl Tryd.func25 (by kernel_rfl) rfl #[.string (⟨#[123, 32, 98, 32, 61, 32, 34, 120, 34, 32, 44, 32, 125]⟩ : ByteArray)] rfl y2_ ?_; (with_reducible refine (labels_Parse.calls k (⟨#[123, 32, 98, 32, 61, 32, 34, 120, 34, 32, 44, 32, 125]⟩ : ByteArray) t225 t226 _ ?side1 A2.out).mono ?_); (case side1 => exact ⟨Tab_below hT.out y1_⟩); rintro e w26 ⟨v227, rfl, ho0, hb⟩; refine ⟨_, rfl, ?_⟩; have n0_ := Aside0.mk (Kd.R_elder' y9_ (Kd.R_base ho0) hb); have n1_ := Aside0.mk (Kd.R_elder' y16_ (Kd.R_base ho0) hb); have n2_ := Aside0.mk (Kd.R_lower (Kd.R_new' (Kd.R_new' ho0 (Kd.R_lt y9_)) (Kd.R_lt y16_)) (below_size y1_)); have n3_ := Aside0.mk (below_step y1_ hb); clear HO220; clear HO224; clear HB; have HO220 := n0_; have HO224 := n1_; have HO228 := n2_; have HB := n3_; clear n0_ n1_ n2_ n3_; (try clear hb); (try clear hb2); (try clear hk); (try clear hi); (try clear ho0); obtain ⟨Ao27, co27, eo27⟩ := Kd.R_slice HO224.out; subst eo27) | (go_at_call 27; (with_reducible refine (labels_Print.calls k _ _ t221 t229 _ ?side1 ?side2 A4.out).mono ?_); (case side1 => repeat (first | exact (Kd.R_reads' HO224.out).2.2 | (with_reducible refine Kd.C_alloc ?_ _) | (with_reducible refine Kd.C_drewN ?_ _) | (with_reducible refine Kd.C_drew ?_))); (case side2 => exact (Kd.R_reads' HO224.out).2.1); rintro e w28 ⟨rfl, hb⟩; have n0_ := Aside0.mk (Kd.R_below y9_ hb); have n1_ := Aside0.mk (Kd.R_below y16_ hb); have n2_ := Aside0.mk (Kd.R_below y30_ hb); have n3_ := Aside0.mk (below_step y1_ hb); clear HO220; clear HO224; clear HO228; clear HB; have HO220 := n0_; have HO224 := n1_; have HO228 := n2_; have HB := n3_; clear n0_ n1_ n2_ n3_; (try clear hb); (try clear hb2); (try clear hk); (try clear hi)) | ((with_reducible refine gate_dst (N := 31) rfl ?_); (try (refine gate_guard (by rfl) ?_; dsimp only)); refine Kd.R_lit k44 _ 44 ?hg (N := 31) ?hd (xs := ([(⟨(⟨#[98]⟩ : ByteArray), (⟨#[120]⟩ : ByteArray)⟩ : S44)] : List (S44))) (inner := [.string (⟨#[98]⟩ : ByteArray), .string (⟨#[120]⟩ : ByteArray)]) (ok := fun _ => True) (okp := fun _ => True) ?hr ?hp (fun _ hk => hk) trivial (Below.refl _ _) (Nat.le_refl _) (by simp) ?_; (case hd => rfl); (case hg => rfl); (case hr => first | (go_simp; done) | (go_simp; rfl)); (case hp => exact (Reps.c2 (show Kd.M k44 _ _ _ (⟨(⟨#[98]⟩ : ByteArray), (⟨#[120]⟩ : ByteArray)⟩ : S44) [.string (⟨#[98]⟩ : ByteArray), .string (⟨#[120]⟩ : ByteArray)] from (k44_mkM _ _ _ (⟨(⟨#[98]⟩ : ByteArray), (⟨#[120]⟩ : ByteArray)⟩ : S44) )) (Reps.none _ _))); intro v231 w29 ho30 hb hg_ hnew_; clear hg_ hnew_; (first | rw [← Ny230.out] at ho30 | (simp only [Int.reduceToNat] at ho30; rw [← Ny230.out] at ho30)); have n0_ := Aside0.mk (Kd.R_elder' y9_ (Kd.R_base ho30) hb); have n1_ := Aside0.mk (Kd.R_elder' y16_ (Kd.R_base ho30) hb); have n2_ := Aside0.mk (Kd.R_elder' y30_ (Kd.R_base ho30) hb); have n3_ := Aside0.mk (Kd.R_lower (Kd.R_new' (Kd.R_new' (Kd.R_new' ho30 (Kd.R_lt y9_)) (Kd.R_lt y16_)) (Kd.R_lt y30_)) (below_size y1_)); have n4_ := Aside0.mk (below_step y1_ hb); clear HO220; clear HO224; clear HO228; clear HB; have HO220 := n0_; have HO224 := n1_; have HO228 := n2_; have HO232 := n3_; have HB := n4_; clear n0_ n1_ n2_ n3_ n4_; clear hb ho30; obtain ⟨Ao31, co31, eo31⟩ := Kd.R_slice HO228.out; subst eo31; obtain ⟨Ao32, co32, eo32⟩ := Kd.R_slice HO232.out; subst eo32) | (go_at_call 29; (with_reducible refine (manometerref05_Same.calls k _ _ t225 _ _ y230 false _ ?side1 ?side2 ?side3 ?side4 A7.out).mono ?_); (case side1 => repeat (first | exact (Kd.R_reads' HO228.out).2.2 | (with_reducible refine Kd.C_alloc ?_ _) | (with_reducible refine Kd.C_drewN ?_ _) | (with_reducible refine Kd.C_drew ?_))); (case side2 => exact (Kd.R_reads' HO228.out).2.1); (case side3 => repeat (first | exact (Kd.R_reads' HO232.out).2.2 | (with_reducible refine Kd.C_alloc ?_ _) | (with_reducible refine Kd.C_drewN ?_ _) | (with_reducible refine Kd.C_drew ?_))); (case side4 => exact (Kd.R_reads' HO232.out).2.1); rintro e w' ⟨rfl, ⟨nd, rfl⟩⟩))
     go_ret
     exact ⟨y7_, y1_⟩
   ·rw [if_neg c6] at H
    have c6b0 : (t226 == 0) = false := beq_eq_false_iff_ne.mpr c6
    have c6b1 : (t226 != 0) = true := bne_iff_ne.mpr c6
    obtain rfl := Option.some.inj H
    go_enter Tryd.func15, Tryd.ntmps15
    go_wp2_with (first | ((with_reducible refine gate_dst (N := 9) rfl ?_); (try (refine gate_guard (by rfl) ?_; dsimp only)); refine Kd.R_lit k44 _ 44 ?hg (N := 9) ?hd (xs := ([(⟨(⟨#[98]⟩ : ByteArray), (⟨#[50]⟩ : ByteArray)⟩ : S44), (⟨(⟨#[97]⟩ : ByteArray), (⟨#[49]⟩ : ByteArray)⟩ : S44), (⟨(⟨#[99]⟩ : ByteArray), (⟨#[]⟩ : ByteArray)⟩ : S44)] : List (S44))) (inner := [.string (⟨#[98]⟩ : ByteArray), .string (⟨#[50]⟩ : ByteArray), .string (⟨#[97]⟩ : ByteArray), .string (⟨#[49]⟩ : ByteArray), .string (⟨#[99]⟩ : ByteArray), .string (⟨#[]⟩ : ByteArray)]) (ok := fun _ => True) (okp := fun _ => True) ?hr ?hp (fun _ hk => hk) trivial (Below.refl _ _) (Nat.le_refl _) (by simp) ?_; (case hd => rfl); (case hg => rfl); (case hr => first | (go_simp; done) | (go_simp; rfl)); (case hp => exact (Reps.c2 (show Kd.M k44 _ _ _ (⟨(⟨#[98]⟩ : ByteArray), (⟨#[50]⟩ : ByteArray)⟩ : S44) [.string (⟨#[98]⟩ : ByteArray), .string (⟨#[50]⟩ : ByteArray)] from (k44_mkM _ _ _ (⟨(⟨#[98]⟩ : ByteArray), (⟨#[50]⟩ : ByteArray)⟩ : S44) )) (Reps.c2 (show Kd.M k44 _ _ _ (⟨(⟨#[97]⟩ : ByteArray), (⟨#[49]⟩ : ByteArray)⟩ : S44) [.string (⟨#[97]⟩ : ByteArray), .string (⟨#[49]⟩ : ByteArray)] from (k44_mkM _ _ _ (⟨(⟨#[97]⟩ : ByteArray), (⟨#[49]⟩ : ByteArray)⟩ : S44) )) (Reps.c2 (show Kd.M k44 _ _ _ (⟨(⟨#[99]⟩ : ByteArray), (⟨#[]⟩ : ByteArray)⟩ : S44) [.string (⟨#[99]⟩ : ByteArray), .string (⟨#[]⟩ : ByteArray)] from (k44_mkM _ _ _ (⟨(⟨#[99]⟩ : ByteArray), (⟨#[]⟩ : ByteArray)⟩ : S44) )) (Reps.none _ _))))); intro v219 w33 ho34 hb hg_ hnew_; clear hg_ hnew_; (first | rw [← Ny218.out] at ho34 | (simp only [Int.reduceToNat] at ho34; rw [← Ny218.out] at ho34)); have n0_ := Aside0.mk (Kd.R_lower ho34 (below_size y1_)); have n1_ := Aside0.mk (below_step y1_ hb); clear HB; have HO220 := n0_; have HB := n1_; clear n0_ n1_; clear hb ho34; obtain ⟨Ao35, co35, eo35⟩ := Kd.R_slice HO220.out; subst eo35) | ((with_reducible refine gate_callee (f := 34) rfl ?_); refine goesL_ (some 10) rfl rfl Tryd.func34 (by kernel_rfl) rfl #[.slice Ao35 y218.length co35] rfl y2_ ?_; (with_reducible refine (labels_Make.calls k _ _ y218 t221 t222 _ ?side1 ?side2 ?side3 A1.out).mono ?_); (case side1 => exact ⟨Tab_below hT.out y1_⟩); (case side2 => repeat (first | exact (Kd.R_reads' HO220.out).2.2 | (with_reducible refine Kd.C_alloc ?_ _) | (with_reducible refine Kd.C_drewN ?_ _) | (with_reducible refine Kd.C_drew ?_))); (case side3 => exact (Kd.R_reads' HO220.out).2.1); rintro e w36 ⟨v223, rfl, ho0, hb⟩; refine ⟨_, rfl, ?_⟩; have n0_ := Aside0.mk (Kd.R_elder' y9_ (Kd.R_base ho0) hb); have n1_ := Aside0.mk (Kd.R_lower (Kd.R_new' ho0 (Kd.R_lt y9_)) (below_size y1_)); have n2_ := Aside0.mk (below_step y1_ hb); clear HO220; clear HB; have HO220 := n0_; have HO224 := n1_; have HB := n2_; clear n0_ n1_ n2_; (try clear hb); (try clear hb2); (try clear hk); (try clear hi); (try clear ho0)) | ((with_reducible refine gate_callee (f := 25) rfl ?_); refine goesL_ (some 14) rfl rfl Tryd.func25 (by kernel_rfl) rfl #[.string (⟨#[123, 32, 98, 32, 61, 32, 34, 120, 34, 32, 44, 32, 125]⟩ : ByteArray)] rfl y2_ ?_; (with_reducible refine (labels_Parse.calls k (⟨#[123, 32, 98, 32, 61, 32, 34, 120, 34, 32, 44, 32, 125]⟩ : ByteArray) t225 t226 _ ?side1 A2.out).mono ?_); (case side1 => exact ⟨Tab_below hT.out y1_⟩); rintro e w37 ⟨v227, rfl, ho0, hb⟩; refine ⟨_, rfl, ?_⟩; have n0_ := Aside0.mk (Kd.R_elder' y9_ (Kd.R_base ho0) hb); have n1_ := Aside0.mk (Kd.R_elder' y16_ (Kd.R_base ho0) hb); have n2_ := Aside0.mk (Kd.R_lower (Kd.R_new' (Kd.R_new' ho0 (Kd.R_lt y9_)) (Kd.R_lt y16_)) (below_size y1_)); have n3_ := Aside0.mk (below_step y1_ hb); clear HO220; clear HO224; clear HB; have HO220 := n0_; have HO224 := n1_; have HO228 := n2_; have HB := n3_; clear n0_ n1_ n2_ n3_; (try clear hb); (try clear hb2); (try clear hk); (try clear hi); (try clear ho0); obtain ⟨Ao38, co38, eo38⟩ := Kd.R_slice HO224.out; subst eo38) | (go_at_call 27; (with_reducible refine (labels_Print.calls k _ _ t221 t229 _ ?side1 ?side2 A4.out).mono ?_); (case side1 => repeat (first | exact (Kd.R_reads' HO224.out).2.2 | (with_reducible refine Kd.C_alloc ?_ _) | (with_reducible refine Kd.C_drewN ?_ _) | (with_reducible refine Kd.C_drew ?_))); (case side2 => exact (Kd.R_reads' HO224.out).2.1); rintro e w39 ⟨rfl, hb⟩; have n0_ := Aside0.mk (Kd.R_below y9_ hb); have n1_ := Aside0.mk (Kd.R_below y16_ hb); have n2_ := Aside0.mk (Kd.R_below y30_ hb); have n3_ := Aside0.mk (below_step y1_ hb); clear HO220; clear HO224; clear HO228; clear HB; have HO220 := n0_; have HO224 := n1_; have HO228 := n2_; have HB := n3_; clear n0_ n1_ n2_ n3_; (try clear hb); (try clear hb2); (try clear hk); (try clear hi)))
    go_ret
    exact ⟨y7_, y1_⟩
  ·rw [if_neg c5] at H
   have c5b0 : (t229.toList == ([123, 97, 61, 34, 49, 34, 44, 32, 98, 61, 34, 50, 34, 125] : List UInt8)) = false := beq_eq_false_iff_ne.mpr c5
   have c5b1 : (t229.toList != ([123, 97, 61, 34, 49, 34, 44, 32, 98, 61, 34, 50, 34, 125] : List UInt8)) = true := bne_iff_ne.mpr c5
   obtain rfl := Option.some.inj H
   go_enter Tryd.func15, Tryd.ntmps15
   go_wp2_with (first | ((with_reducible refine gate_dst (N := 9) rfl ?_); (try (refine gate_guard (by rfl) ?_; dsimp only)); refine Kd.R_lit k44 _ 44 ?hg (N := 9) ?hd (xs := ([(⟨(⟨#[98]⟩ : ByteArray), (⟨#[50]⟩ : ByteArray)⟩ : S44), (⟨(⟨#[97]⟩ : ByteArray), (⟨#[49]⟩ : ByteArray)⟩ : S44), (⟨(⟨#[99]⟩ : ByteArray), (⟨#[]⟩ : ByteArray)⟩ : S44)] : List (S44))) (inner := [.string (⟨#[98]⟩ : ByteArray), .string (⟨#[50]⟩ : ByteArray), .string (⟨#[97]⟩ : ByteArray), .string (⟨#[49]⟩ : ByteArray), .string (⟨#[99]⟩ : ByteArray), .string (⟨#[]⟩ : ByteArray)]) (ok := fun _ => True) (okp := fun _ => True) ?hr ?hp (fun _ hk => hk) trivial (Below.refl _ _) (Nat.le_refl _) (by simp) ?_; (case hd => rfl); (case hg => rfl); (case hr => first | (go_simp; done) | (go_simp; rfl)); (case hp => exact (Reps.c2 (show Kd.M k44 _ _ _ (⟨(⟨#[98]⟩ : ByteArray), (⟨#[50]⟩ : ByteArray)⟩ : S44) [.string (⟨#[98]⟩ : ByteArray), .string (⟨#[50]⟩ : ByteArray)] from (k44_mkM _ _ _ (⟨(⟨#[98]⟩ : ByteArray), (⟨#[50]⟩ : ByteArray)⟩ : S44) )) (Reps.c2 (show Kd.M k44 _ _ _ (⟨(⟨#[97]⟩ : ByteArray), (⟨#[49]⟩ : ByteArray)⟩ : S44) [.string (⟨#[97]⟩ : ByteArray), .string (⟨#[49]⟩ : ByteArray)] from (k44_mkM _ _ _ (⟨(⟨#[97]⟩ : ByteArray), (⟨#[49]⟩ : ByteArray)⟩ : S44) )) (Reps.c2 (show Kd.M k44 _ _ _ (⟨(⟨#[99]⟩ : ByteArray), (⟨#[]⟩ : ByteArray)⟩ : S44) [.string (⟨#[99]⟩ : ByteArray), .string (⟨#[]⟩ : ByteArray)] from (k44_mkM _ _ _ (⟨(⟨#[99]⟩ : ByteArray), (⟨#[]⟩ : ByteArray)⟩ : S44) )) (Reps.none _ _))))); intro v219 w40 ho41 hb hg_ hnew_; clear hg_ hnew_; (first | rw [← Ny218.out] at ho41 | (simp only [Int.reduceToNat] at ho41; rw [← Ny218.out] at ho41)); have n0_ := Aside0.mk (Kd.R_lower ho41 (below_size y1_)); have n1_ := Aside0.mk (below_step y1_ hb); clear HB; have HO220 := n0_; have HB := n1_; clear n0_ n1_; clear hb ho41; obtain ⟨Ao42, co42, eo42⟩ := Kd.R_slice HO220.out; subst eo42) | ((with_reducible refine gate_callee (f := 34) rfl ?_); refine goesL_ (some 10) rfl rfl Tryd.func34 (by kernel_rfl) rfl #[.slice Ao42 y218.length co42] rfl y2_ ?_; (with_reducible refine (labels_Make.calls k _ _ y218 t221 t222 _ ?side1 ?side2 ?side3 A1.out).mono ?_); (case side1 => exact ⟨Tab_below hT.out y1_⟩); (case side2 => repeat (first | exact (Kd.R_reads' HO220.out).2.2 | (with_reducible refine Kd.C_alloc ?_ _) | (with_reducible refine Kd.C_drewN ?_ _) | (with_reducible refine Kd.C_drew ?_))); (case side3 => exact (Kd.R_reads' HO220.out).2.1); rintro e w43 ⟨v223, rfl, ho0, hb⟩; refine ⟨_, rfl, ?_⟩; have n0_ := Aside0.mk (Kd.R_elder' y9_ (Kd.R_base ho0) hb); have n1_ := Aside0.mk (Kd.R_lower (Kd.R_new' ho0 (Kd.R_lt y9_)) (below_size y1_)); have n2_ := Aside0.mk (below_step y1_ hb); clear HO220; clear HB; have HO220 := n0_; have HO224 := n1_; have HB := n2_; clear n0_ n1_ n2_; (try clear hb); (try clear hb2); (try clear hk); (try clear hi); (try clear ho0)) | ((with_reducible refine gate_callee (f := 25) rfl ?_); refine goesL_ (some 14) rfl rfl Tryd.func25 (by kernel_rfl) rfl #[.string (⟨#[123, 32, 98, 32, 61, 32, 34, 120, 34, 32, 44, 32, 125]⟩ : ByteArray)] rfl y2_ ?_; (with_reducible refine (labels_Parse.calls k (⟨#[123, 32, 98, 32, 61, 32, 34, 120, 34, 32, 44, 32, 125]⟩ : ByteArray) t225 t226 _ ?side1 A2.out).mono ?_); (case side1 => exact ⟨Tab_below hT.out y1_⟩); rintro e w44 ⟨v227, rfl, ho0, hb⟩; refine ⟨_, rfl, ?_⟩; have n0_ := Aside0.mk (Kd.R_elder' y9_ (Kd.R_base ho0) hb); have n1_ := Aside0.mk (Kd.R_elder' y16_ (Kd.R_base ho0) hb); have n2_ := Aside0.mk (Kd.R_lower (Kd.R_new' (Kd.R_new' ho0 (Kd.R_lt y9_)) (Kd.R_lt y16_)) (below_size y1_)); have n3_ := Aside0.mk (below_step y1_ hb); clear HO220; clear HO224; clear HB; have HO220 := n0_; have HO224 := n1_; have HO228 := n2_; have HB := n3_; clear n0_ n1_ n2_ n3_; (try clear hb); (try clear hb2); (try clear hk); (try clear hi); (try clear ho0); obtain ⟨Ao45, co45, eo45⟩ := Kd.R_slice HO224.out; subst eo45) | (go_at_call 27; (with_reducible refine (labels_Print.calls k _ _ t221 t229 _ ?side1 ?side2 A4.out).mono ?_); (case side1 => repeat (first | exact (Kd.R_reads' HO224.out).2.2 | (with_reducible refine Kd.C_alloc ?_ _) | (with_reducible refine Kd.C_drewN ?_ _) | (with_reducible refine Kd.C_drew ?_))); (case side2 => exact (Kd.R_reads' HO224.out).2.1); rintro e w46 ⟨rfl, hb⟩; have n0_ := Aside0.mk (Kd.R_below y9_ hb); have n1_ := Aside0.mk (Kd.R_below y16_ hb); have n2_ := Aside0.mk (Kd.R_below y30_ hb); have n3_ := Aside0.mk (below_step y1_ hb); clear HO220; clear HO224; clear HO228; clear HB; have HO220 := n0_; have HO224 := n1_; have HO228 := n2_; have HB := n3_; clear n0_ n1_ n2_ n3_; (try clear hb); (try clear hb2); (try clear hk); (try clear hi)))
   go_ret
   exact ⟨y7_, y1_⟩
 ·rw [if_neg c3] at H
  have c3b0 : (t222 == 0) = false := beq_eq_false_iff_ne.mpr c3
  have c3b1 : (t222 != 0) = true := bne_iff_ne.mpr c3
  obtain rfl := Option.some.inj H
  go_enter Tryd.func15, Tryd.ntmps15
  go_wp2_with (first | ((with_reducible refine gate_dst (N := 9) rfl ?_); (try (refine gate_guard (by rfl) ?_; dsimp only)); refine Kd.R_lit k44 _ 44 ?hg (N := 9) ?hd (xs := ([(⟨(⟨#[98]⟩ : ByteArray), (⟨#[50]⟩ : ByteArray)⟩ : S44), (⟨(⟨#[97]⟩ : ByteArray), (⟨#[49]⟩ : ByteArray)⟩ : S44), (⟨(⟨#[99]⟩ : ByteArray), (⟨#[]⟩ : ByteArray)⟩ : S44)] : List (S44))) (inner := [.string (⟨#[98]⟩ : ByteArray), .string (⟨#[50]⟩ : ByteArray), .string (⟨#[97]⟩ : ByteArray), .string (⟨#[49]⟩ : ByteArray), .string (⟨#[99]⟩ : ByteArray), .string (⟨#[]⟩ : ByteArray)]) (ok := fun _ => True) (okp := fun _ => True) ?hr ?hp (fun _ hk => hk) trivial (Below.refl _ _) (Nat.le_refl _) (by simp) ?_; (case hd => rfl); (case hg => rfl); (case hr => first | (go_simp; done) | (go_simp; rfl)); (case hp => exact (Reps.c2 (show Kd.M k44 _ _ _ (⟨(⟨#[98]⟩ : ByteArray), (⟨#[50]⟩ : ByteArray)⟩ : S44) [.string (⟨#[98]⟩ : ByteArray), .string (⟨#[50]⟩ : ByteArray)] from (k44_mkM _ _ _ (⟨(⟨#[98]⟩ : ByteArray), (⟨#[50]⟩ : ByteArray)⟩ : S44) )) (Reps.c2 (show Kd.M k44 _ _ _ (⟨(⟨#[97]⟩ : ByteArray), (⟨#[49]⟩ : ByteArray)⟩ : S44) [.string (⟨#[97]⟩ : ByteArray), .string (⟨#[49]⟩ : ByteArray)] from (k44_mkM _ _ _ (⟨(⟨#[97]⟩ : ByteArray), (⟨#[49]⟩ : ByteArray)⟩ : S44) )) (Reps.c2 (show Kd.M k44 _ _ _ (⟨(⟨#[99]⟩ : ByteArray), (⟨#[]⟩ : ByteArray)⟩ : S44) [.string (⟨#[99]⟩ : ByteArray), .string (⟨#[]⟩ : ByteArray)] from (k44_mkM _ _ _ (⟨(⟨#[99]⟩ : ByteArray), (⟨#[]⟩ : ByteArray)⟩ : S44) )) (Reps.none _ _))))); intro v219 w47 ho48 hb hg_ hnew_; clear hg_ hnew_; (first | rw [← Ny218.out] at ho48 | (simp only [Int.reduceToNat] at ho48; rw [← Ny218.out] at ho48)); have n0_ := Aside0.mk (Kd.R_lower ho48 (below_size y1_)); have n1_ := Aside0.mk (below_step y1_ hb); clear HB; have HO220 := n0_; have HB := n1_; clear n0_ n1_; clear hb ho48; obtain ⟨Ao49, co49, eo49⟩ := Kd.R_slice HO220.out; subst eo49) | ((with_reducible refine gate_callee (f := 34) rfl ?_); refine goesL_ (some 10) rfl rfl Tryd.func34 (by kernel_rfl) rfl #[.slice Ao49 y218.length co49] rfl y2_ ?_; (with_reducible refine (labels_Make.calls k _ _ y218 t221 t222 _ ?side1 ?side2 ?side3 A1.out).mono ?_); (case side1 => exact ⟨Tab_below hT.out y1_⟩); (case side2 => repeat (first | exact (Kd.R_reads' HO220.out).2.2 | (with_reducible refine Kd.C_alloc ?_ _) | (with_reducible refine Kd.C_drewN ?_ _) | (with_reducible refine Kd.C_drew ?_))); (case side3 => exact (Kd.R_reads' HO220.out).2.1); rintro e w50 ⟨v223, rfl, ho0, hb⟩; refine ⟨_, rfl, ?_⟩; have n0_ := Aside0.mk (Kd.R_elder' y9_ (Kd.R_base ho0) hb); have n1_ := Aside0.mk (Kd.R_lower (Kd.R_new' ho0 (Kd.R_lt y9_)) (below_size y1_)); have n2_ := Aside0.mk (below_step y1_ hb); clear HO220; clear HB; have HO220 := n0_; have HO224 := n1_; have HB := n2_; clear n0_ n1_ n2_; (try clear hb); (try clear hb2); (try clear hk); (try clear hi); (try clear ho0)) | ((with_reducible refine gate_callee (f := 25) rfl ?_); refine goesL_ (some 14) rfl rfl Tryd.func25 (by kernel_rfl) rfl #[.string (⟨#[123, 32, 98, 32, 61, 32, 34, 120, 34, 32, 44, 32, 125]⟩ : ByteArray)] rfl y2_ ?_; (with_reducible refine (labels_Parse.calls k (⟨#[123, 32, 98, 32, 61, 32, 34, 120, 34, 32, 44, 32, 125]⟩ : ByteArray) t225 t226 _ ?side1 A2.out).mono ?_); (case side1 => exact ⟨Tab_below hT.out y1_⟩); rintro e w51 ⟨v227, rfl, ho0, hb⟩; refine ⟨_, rfl, ?_⟩; have n0_ := Aside0.mk (Kd.R_elder' y9_ (Kd.R_base ho0) hb); have n1_ := Aside0.mk (Kd.R_elder' y16_ (Kd.R_base ho0) hb); have n2_ := Aside0.mk (Kd.R_lower (Kd.R_new' (Kd.R_new' ho0 (Kd.R_lt y9_)) (Kd.R_lt y16_)) (below_size y1_)); have n3_ := Aside0.mk (below_step y1_ hb); clear HO220; clear HO224; clear HB; have HO220 := n0_; have HO224 := n1_; have HO228 := n2_; have HB := n3_; clear n0_ n1_ n2_ n3_; (try clear hb); (try clear hb2); (try clear hk); (try clear hi); (try clear ho0)))
  go_ret
  exact ⟨y7_, y1_⟩
end Go.Proofs.YtdhmabofncbohaaDoor.PLC
