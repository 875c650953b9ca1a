import Derived.Test.YtdhmabofncbohaaDoorCLabelsBackH19
import Derived.Test.YtdhmabofncbohaaDoorCLabelsBackPLCx2
import Derived.Test.YtdhmabofncbohaaDoorCLabelsBackPLCx8
namespace Go.Proofs.YtdhmabofncbohaaDoor.PLC
open Go.RowKit Go.Proofs.YtdhmabofncbohaaDoorW.PrintWords Go.Proofs.YtdhmabofncbohaaDoorW.PrintLast Go.Proofs.YtdhmabofncbohaaDoorW.PrintMore
attribute [local go_sem] max2_int min2_int max_two min_two max_three min_three max_four min_four
set_option linter.unusedVariables false
set_option linter.unusedSimpArgs false
mutual
def labels_Make.l0 : Nat → List (S44) → List (S44) → Int → Int → Option ((List (S44)) × Int)
 | 0, _, _, _, _ => none
 | k + 1, x0, x16, x17, x18 => if x18 < x17 then (if 0 ≤ x18 then (if x18 < (x16.length : Int) then ((labels_wrong.f ((rd_T44 x16 x18).f0) ((rd_T44 x16 x18).f1) true).bind fun t116 => (if t116 = 0 then (labels_Make.l0 k x0 x16 x17 (wrap64 (x18 + 1))) else (some (([] : List (S44)), t116)))) else (none)) else (none)) else (if 0 ≤ (x0.length : Int) then (if ((x0.length : Int) : Int).toNat ≤ 8796093022208 then (labels_Make.l1 k x0 (List.replicate 0 z44) ([] : List ByteArray) x0 (x0.length : Int) 0) else (none)) else (none))
def labels_Make.l1 : Nat → List (S44) → List (S44) → List ByteArray → List (S44) → Int → Int → Option ((List (S44)) × Int)
 | 0, _, _, _, _, _, _ => none
 | k + 1, x0, x7, x8, x31, x32, x33 => if x33 < x32 then (if 0 ≤ x33 then (if x33 < (x31.length : Int) then (labels_Make.l2 k x0 x7 x8 (x8.length : Int) x31 x32 x33 ((rd_T44 x31 x33).f0) ((rd_T44 x31 x33).f1)) else (none)) else (none)) else (labels_Make.l3 k x0 x7 x8 (x8.length : Int) 0)
def labels_Make.j3 : Nat → List (S44) → List (S44) → List ByteArray → Int → List (S44) → Int → Int → ByteArray → ByteArray → Option ((List (S44)) × Int)
 | 0, _, _, _, _, _, _, _, _, _ => none
 | k + 1, x0, x7, x8, x11, x31, x32, x33, x122000, x122001 => if x11 < (x8.length : Int) then (if 0 ≤ x11 then (if (rdOf ByteArray.empty x8 x11).toList = x122000.toList then (some (([] : List (S44)), 52)) else (if x8.length < 8796093022208 then ((some (x8 ++ [(⟨#[]⟩ : ByteArray)] : List ByteArray)).bind fun y124 => (if 0 ≤ (wrap64 (x11 + 1)) then (if (wrap64 (x11 + 1)) ≤ (y124.length : Int) then (if x11 ≤ (y124.length : Int) then (if x11 < (y124.length : Int) then (labels_Make.l1 k x0 x7 ((Kd.shift y124 (x11 : Int).toNat).set (x11 : Int).toNat x122000) x31 x32 (wrap64 (x33 + 1))) else (none)) else (none)) else (none)) else (none))) else (none))) else (none)) else (if x8.length < 8796093022208 then ((some (x8 ++ [(⟨#[]⟩ : ByteArray)] : List ByteArray)).bind fun y137 => (if 0 ≤ (wrap64 (x11 + 1)) then (if (wrap64 (x11 + 1)) ≤ (y137.length : Int) then (if 0 ≤ x11 then (if x11 ≤ (y137.length : Int) then (if x11 < (y137.length : Int) then (labels_Make.l1 k x0 x7 ((Kd.shift y137 (x11 : Int).toNat).set (x11 : Int).toNat x122000) x31 x32 (wrap64 (x33 + 1))) else (none)) else (none)) else (none)) else (none)) else (none))) else (none))
def labels_Make.l2 : Nat → List (S44) → List (S44) → List ByteArray → Int → List (S44) → Int → Int → ByteArray → ByteArray → Option ((List (S44)) × Int)
 | 0, _, _, _, _, _, _, _, _, _ => none
 | k + 1, x0, x7, x8, x11, x31, x32, x33, x122000, x122001 => if x11 > 0 then (if 0 ≤ (wrap64 (x11 - 1)) then (if (wrap64 (x11 - 1)) < (x8.length : Int) then (if ((Op.bytesLess ((rdOf ByteArray.empty x8 (wrap64 (x11 - 1))).toList) x122000.toList) = true) then (labels_Make.j3 k x0 x7 x8 x11 x31 x32 x33 x122000 x122001) else (labels_Make.l2 k x0 x7 x8 (wrap64 (x11 - 1)) x31 x32 x33 x122000 x122001)) else (none)) else (none)) else (labels_Make.j3 k x0 x7 x8 x11 x31 x32 x33 x122000 x122001)
def labels_Make.l3 : Nat → List (S44) → List (S44) → List ByteArray → Int → Int → Option ((List (S44)) × Int)
 | 0, _, _, _, _, _ => none
 | k + 1, x0, x7, x83, x84, x85 => if x85 < x84 then (if 0 ≤ x85 then (if x85 < (x83.length : Int) then (labels_Make.l4 k x0 x7 (rdOf ByteArray.empty x83 x85) x83 x84 x85 x0 (x0.length : Int) 0) else (none)) else (none)) else (if (x7.length : Int) > 16 then (some (([] : List (S44)), 3)) else (some (x7, 0)))
def labels_Make.l4 : Nat → List (S44) → List (S44) → ByteArray → List ByteArray → Int → Int → List (S44) → Int → Int → Option ((List (S44)) × Int)
 | 0, _, _, _, _, _, _, _, _, _ => none
 | k + 1, x0, x7, x13, x83, x84, x85, x89, x90, x91 => if x91 < x90 then (if 0 ≤ x91 then (if x91 < (x89.length : Int) then (if ((rd_T44 x89 x91).f0).toList = x13.toList then (if ((rd_T44 x89 x91).f1).toList = ([] : List UInt8) then (labels_Make.l4 k x0 x7 x13 x83 x84 x85 x89 x90 (wrap64 (x91 + 1))) else (if x7.length < 4398046511104 then (labels_Make.l4 k x0 (x7 ++ [(⟨(rd_T44 x89 x91).f0, (rd_T44 x89 x91).f1⟩ : S44)]) x13 x83 x84 x85 x89 x90 (wrap64 (x91 + 1))) else (none))) else (labels_Make.l4 k x0 x7 x13 x83 x84 x85 x89 x90 (wrap64 (x91 + 1)))) else (none)) else (none)) else (labels_Make.l3 k x0 x7 x83 x84 (wrap64 (x85 + 1)))
end
def labels_Make.f (k : Nat) (l0 : List (S44)) : Option ((List (S44)) × Int) := labels_Make.l0 k l0 l0 (l0.length : Int) 0
theorem labels_Make.mono_l : ∀ k, (∀ y0 y1 y2 y3, LeO (labels_Make.l0 k y0 y1 y2 y3) (labels_Make.l0 (k + 1) y0 y1 y2 y3)) ∧ (∀ y0 y1 y2 y3 y4 y5, LeO (labels_Make.l1 k y0 y1 y2 y3 y4 y5) (labels_Make.l1 (k + 1) y0 y1 y2 y3 y4 y5)) ∧ (∀ y0 y1 y2 y3 y4 y5 y6 y7 y8, LeO (labels_Make.j3 k y0 y1 y2 y3 y4 y5 y6 y7 y8) (labels_Make.j3 (k + 1) y0 y1 y2 y3 y4 y5 y6 y7 y8)) ∧ (∀ y0 y1 y2 y3 y4 y5 y6 y7 y8, LeO (labels_Make.l2 k y0 y1 y2 y3 y4 y5 y6 y7 y8) (labels_Make.l2 (k + 1) y0 y1 y2 y3 y4 y5 y6 y7 y8)) ∧ (∀ y0 y1 y2 y3 y4, LeO (labels_Make.l3 k y0 y1 y2 y3 y4) (labels_Make.l3 (k + 1) y0 y1 y2 y3 y4)) ∧ (∀ y0 y1 y2 y3 y4 y5 y6 y7 y8, LeO (labels_Make.l4 k y0 y1 y2 y3 y4 y5 y6 y7 y8) (labels_Make.l4 (k + 1) y0 y1 y2 y3 y4 y5 y6 y7 y8))
 | 0 => ⟨fun _ _ _ _ r h => by simp [labels_Make.l0] at h, fun _ _ _ _ _ _ r h => by simp [labels_Make.l1] at h, fun _ _ _ _ _ _ _ _ _ r h => by simp [labels_Make.j3] at h, fun _ _ _ _ _ _ _ _ _ r h => by simp [labels_Make.l2] at h, fun _ _ _ _ _ r h => by simp [labels_Make.l3] at h, fun _ _ _ _ _ _ _ _ _ r h => by simp [labels_Make.l4] at h⟩
 | k + 1 => by
  obtain ⟨ih0, ih1, ih2, ih3, ih4, ih5⟩ := labels_Make.mono_l k
  refine ⟨?_, ?_, ?_, ?_, ?_, ?_⟩
  ·intro y0 y1 y2 y3
   unfold labels_Make.l0
   repeat' first
   | (with_reducible exact ih0 _ _ _ _)
   | (with_reducible exact ih1 _ _ _ _ _ _)
   | (with_reducible exact ih2 _ _ _ _ _ _ _ _ _)
   | (with_reducible exact ih3 _ _ _ _ _ _ _ _ _)
   | (with_reducible exact ih4 _ _ _ _ _)
   | (with_reducible exact ih5 _ _ _ _ _ _ _ _ _)
   | (with_reducible exact LeO.refl _)
   | (with_reducible exact LeO.none _)
   | (with_reducible refine LeO.ite ?_ ?_)
   | (with_reducible refine LeO.bind ?_ (fun _ => ?_))
   | exact ih0 _ _ _ _
   | exact ih1 _ _ _ _ _ _
   | exact ih2 _ _ _ _ _ _ _ _ _
   | exact ih3 _ _ _ _ _ _ _ _ _
   | exact ih4 _ _ _ _ _
   | exact ih5 _ _ _ _ _ _ _ _ _
   | exact LeO.none _
   | refine LeO.ite ?_ ?_
   | refine LeO.bind ?_ (fun _ => ?_)
  ·intro y0 y1 y2 y3 y4 y5
   unfold labels_Make.l1
   repeat' first
   | (with_reducible exact ih0 _ _ _ _)
   | (with_reducible exact ih1 _ _ _ _ _ _)
   | (with_reducible exact ih2 _ _ _ _ _ _ _ _ _)
   | (with_reducible exact ih3 _ _ _ _ _ _ _ _ _)
   | (with_reducible exact ih4 _ _ _ _ _)
   | (with_reducible exact ih5 _ _ _ _ _ _ _ _ _)
   | (with_reducible exact LeO.refl _)
   | (with_reducible exact LeO.none _)
   | (with_reducible refine LeO.ite ?_ ?_)
   | (with_reducible refine LeO.bind ?_ (fun _ => ?_))
   | exact ih0 _ _ _ _
   | exact ih1 _ _ _ _ _ _
   | exact ih2 _ _ _ _ _ _ _ _ _
   | exact ih3 _ _ _ _ _ _ _ _ _
   | exact ih4 _ _ _ _ _
   | exact ih5 _ _ _ _ _ _ _ _ _
   | exact LeO.none _
   | refine LeO.ite ?_ ?_
   | refine LeO.bind ?_ (fun _ => ?_)
  ·intro y0 y1 y2 y3 y4 y5 y6 y7 y8
   unfold labels_Make.j3
   repeat' first
   | (with_reducible exact ih0 _ _ _ _)
   | (with_reducible exact ih1 _ _ _ _ _ _)
   | (with_reducible exact ih2 _ _ _ _ _ _ _ _ _)
   | (with_reducible exact ih3 _ _ _ _ _ _ _ _ _)
   | (with_reducible exact ih4 _ _ _ _ _)
   | (with_reducible exact ih5 _ _ _ _ _ _ _ _ _)
   | (with_reducible exact LeO.refl _)
   | (with_reducible exact LeO.none _)
   | (with_reducible refine LeO.ite ?_ ?_)
   | (with_reducible refine LeO.bind ?_ (fun _ => ?_))
   | exact ih0 _ _ _ _
   | exact ih1 _ _ _ _ _ _
   | exact ih2 _ _ _ _ _ _ _ _ _
   | exact ih3 _ _ _ _ _ _ _ _ _
   | exact ih4 _ _ _ _ _
   | exact ih5 _ _ _ _ _ _ _ _ _
   | exact LeO.none _
   | refine LeO.ite ?_ ?_
   | refine LeO.bind ?_ (fun _ => ?_)
  ·intro y0 y1 y2 y3 y4 y5 y6 y7 y8
   unfold labels_Make.l2
   repeat' first
   | (with_reducible exact ih0 _ _ _ _)
   | (with_reducible exact ih1 _ _ _ _ _ _)
   | (with_reducible exact ih2 _ _ _ _ _ _ _ _ _)
   | (with_reducible exact ih3 _ _ _ _ _ _ _ _ _)
   | (with_reducible exact ih4 _ _ _ _ _)
   | (with_reducible exact ih5 _ _ _ _ _ _ _ _ _)
   | (with_reducible exact LeO.refl _)
   | (with_reducible exact LeO.none _)
   | (with_reducible refine LeO.ite ?_ ?_)
   | (with_reducible refine LeO.bind ?_ (fun _ => ?_))
   | exact ih0 _ _ _ _
   | exact ih1 _ _ _ _ _ _
   | exact ih2 _ _ _ _ _ _ _ _ _
   | exact ih3 _ _ _ _ _ _ _ _ _
   | exact ih4 _ _ _ _ _
   | exact ih5 _ _ _ _ _ _ _ _ _
   | exact LeO.none _
   | refine LeO.ite ?_ ?_
   | refine LeO.bind ?_ (fun _ => ?_)
  ·intro y0 y1 y2 y3 y4
   unfold labels_Make.l3
   repeat' first
   | (with_reducible exact ih0 _ _ _ _)
   | (with_reducible exact ih1 _ _ _ _ _ _)
   | (with_reducible exact ih2 _ _ _ _ _ _ _ _ _)
   | (with_reducible exact ih3 _ _ _ _ _ _ _ _ _)
   | (with_reducible exact ih4 _ _ _ _ _)
   | (with_reducible exact ih5 _ _ _ _ _ _ _ _ _)
   | (with_reducible exact LeO.refl _)
   | (with_reducible exact LeO.none _)
   | (with_reducible refine LeO.ite ?_ ?_)
   | (with_reducible refine LeO.bind ?_ (fun _ => ?_))
   | exact ih0 _ _ _ _
   | exact ih1 _ _ _ _ _ _
   | exact ih2 _ _ _ _ _ _ _ _ _
   | exact ih3 _ _ _ _ _ _ _ _ _
   | exact ih4 _ _ _ _ _
   | exact ih5 _ _ _ _ _ _ _ _ _
   | exact LeO.none _
   | refine LeO.ite ?_ ?_
   | refine LeO.bind ?_ (fun _ => ?_)
  ·intro y0 y1 y2 y3 y4 y5 y6 y7 y8
   unfold labels_Make.l4
   repeat' first
   | (with_reducible exact ih0 _ _ _ _)
   | (with_reducible exact ih1 _ _ _ _ _ _)
   | (with_reducible exact ih2 _ _ _ _ _ _ _ _ _)
   | (with_reducible exact ih3 _ _ _ _ _ _ _ _ _)
   | (with_reducible exact ih4 _ _ _ _ _)
   | (with_reducible exact ih5 _ _ _ _ _ _ _ _ _)
   | (with_reducible exact LeO.refl _)
   | (with_reducible exact LeO.none _)
   | (with_reducible refine LeO.ite ?_ ?_)
   | (with_reducible refine LeO.bind ?_ (fun _ => ?_))
   | exact ih0 _ _ _ _
   | exact ih1 _ _ _ _ _ _
   | exact ih2 _ _ _ _ _ _ _ _ _
   | exact ih3 _ _ _ _ _ _ _ _ _
   | exact ih4 _ _ _ _ _
   | exact ih5 _ _ _ _ _ _ _ _ _
   | exact LeO.none _
   | refine LeO.ite ?_ ?_
   | refine LeO.bind ?_ (fun _ => ?_)
theorem labels_Make.mono : ∀ a0 k, LeO (labels_Make.f k a0) (labels_Make.f (k + 1) a0) := by
 intro a0 k
 obtain ⟨ih0, ih1, ih2, ih3, ih4, ih5⟩ := labels_Make.mono_l k
 unfold labels_Make.f
 repeat' first
   | (with_reducible exact ih0 _ _ _ _)
   | (with_reducible exact ih1 _ _ _ _ _ _)
   | (with_reducible exact ih2 _ _ _ _ _ _ _ _ _)
   | (with_reducible exact ih3 _ _ _ _ _ _ _ _ _)
   | (with_reducible exact ih4 _ _ _ _ _)
   | (with_reducible exact ih5 _ _ _ _ _ _ _ _ _)
   | (with_reducible exact LeO.refl _)
   | (with_reducible exact LeO.none _)
   | (with_reducible refine LeO.ite ?_ ?_)
   | (with_reducible refine LeO.bind ?_ (fun _ => ?_))
   | exact ih0 _ _ _ _
   | exact ih1 _ _ _ _ _ _
   | exact ih2 _ _ _ _ _ _ _ _ _
   | exact ih3 _ _ _ _ _ _ _ _ _
   | exact ih4 _ _ _ _ _
   | exact ih5 _ _ _ _ _ _ _ _ _
   | exact LeO.none _
   | refine LeO.ite ?_ ?_
   | refine LeO.bind ?_ (fun _ => ?_)
def labels_Make.T14 : Bool × List (List Nat × List Nat) := (true, [([], []), ([0], [0]), ([1], [1]), ([2], [2]), ([2], [2]), ([4, 2], [2, 4]), ([3, 5, 2], [2, 3, 5]), ([6, 2], [2, 6]), ([2], [2]), ([8, 2], [2, 8]), ([7, 9, 2], [2, 7, 9]), ([2, 10], [2, 10])])
def labels_Make.B14 : List Nat := [0, 1, 3, 7, 7, 23, 63, 127, 7, 263, 1023, 2047]
theorem labels_Make.tab14 : rtab .any (opsOf Tryd.f34 14) = labels_Make.T14 := by kernel_rfl
theorem labels_Make.bits14 : waitsOk labels_Make.T14.2 labels_Make.B14 = true := by kernel_rfl
def labels_Make.T16 : Bool × List (List Nat × List Nat) := (true, [([], []), ([], []), ([1], [1]), ([0, 2], [0, 2]), ([3], [3]), ([4], [4]), ([4], [4]), ([5, 6, 4], [4, 5, 6]), ([7, 4], [4, 7]), ([4], [4]), ([9, 4], [4, 9]), ([8, 10, 4], [4, 8, 10]), ([4, 11], [4, 11])])
def labels_Make.B16 : List Nat := [0, 0, 2, 7, 15, 31, 31, 127, 255, 31, 543, 2047, 4095]
theorem labels_Make.tab16 : rtab .any (opsOf Tryd.f34 16) = labels_Make.T16 := by kernel_rfl
theorem labels_Make.bits16 : waitsOk labels_Make.T16.2 labels_Make.B16 = true := by kernel_rfl
def labels_Make.T19 : Bool × List (List Nat × List Nat) := (true, [([], []), ([], []), ([1], [1]), ([0, 2], [0, 2]), ([], []), ([], []), ([4, 5], [4, 5]), ([3, 6], [3, 6])])
def labels_Make.B19 : List Nat := [0, 0, 2, 7, 0, 0, 48, 127]
theorem labels_Make.tab19 : rtab .any (opsOf Tryd.f34 19) = labels_Make.T19 := by kernel_rfl
theorem labels_Make.bits19 : waitsOk labels_Make.T19.2 labels_Make.B19 = true := by kernel_rfl
set_option maxHeartbeats 8000000 in
set_option maxRecDepth 100000 in
theorem labels_Make.calls (k : Nat) (A0 : Option Addr) (c0 : Nat) (l0 : List (S44)) (r1 : List (S44)) (r2 : Int) (w : World) (hT : Aside0 (Tab w)) (hr0 : Kd.C k44 w A0 l0.length l0) (hc0 : l0.length ≤ c0) (h : labels_Make.f k l0 = some (r1, r2)) :
  Calls Tryd.prog 34 #[.slice A0 l0.length c0] w fun e w' => ∃ v0_ : Value, e = .returned (.tuple #[v0_, .int .i64 r2]) ∧ Kd.R k44 44 w' w.heap.size (fun _ => True) v0_ r1 ∧ Below w.heap.size w w' := by
 have hu44 := Tryd.underlying44
 have HR0 := Aside0.mk hr0
 have HC0 := Aside0.mk hc0
 clear hr0 hc0
 have HB := Aside0.mk (Below.refl w.heap.size w)
 have H : (labels_Make.l0 k l0 l0 (l0.length : Int) 0) = some (r1, r2) := h
 clear h
 have H' := Aside0.mk H
 clear H
 go_enter Tryd.func34, Tryd.ntmps34
 go_wp2
 go_loopg [18] k (fun kq v18 w' => ∃ (x18_1 : Int), v18 = .int .i64 x18_1 ∧ Aside0 (labels_Make.l0 kq l0 l0 (l0.length : Int) x18_1 = some (r1, r2)) ∧ Aside0 (kq ≤ k) ∧ Aside0 (Below w.heap.size w w'))
 case atStart => exact ⟨(0), y6_, H', ⟨Nat.le_refl _⟩, ⟨y1_⟩⟩
 case round =>
  clear H'
  obtain ⟨x18_1, rfl, HA, HK1, HB⟩ := hrel
  cases gk with
  | zero => exact absurd HA.out (by simp [labels_Make.l0])
  | succ k1 =>
   have H := HA.out
   clear HA
   simp only [labels_Make.l0] at H
   by_cases c2 : x18_1 < (l0.length : Int)
   ·rw [if_pos c2] at H
    have c2b0 : decide (x18_1 < (l0.length : Int)) = true := decide_eq_true c2
    clear c2
    by_cases c3 : 0 ≤ x18_1
    ·rw [if_pos c3] at H
     have c3b0 : decide (0 ≤ x18_1) = true := decide_eq_true c3
     clear c3
     by_cases c4 : x18_1 < (l0.length : Int)
     ·rw [if_pos c4] at H
      have c4b0 : decide (x18_1 < (l0.length : Int)) = true := decide_eq_true c4
      clear c4
      replace H := Option.bind_eq_some_iff.mp H
      obtain ⟨t116, A50, H⟩ := H
      replace H : (if t116 = 0 then (labels_Make.l0 k1 l0 l0 (l0.length : Int) (wrap64 (x18_1 + 1))) else (some (([] : List (S44)), t116))) = some (r1, r2) := H
      have A5 := Aside0.mk A50
      clear A50
      by_cases c6 : t116 = 0
      ·rw [if_pos c6] at H
       have c6b0 : (t116 == 0) = true := beq_iff_eq.mpr c6
       have c6b1 : (t116 != 0) = false := bne_eq_false_iff_eq.mpr c6
       clear c6
       have H' := Aside0.mk H
       clear H
       have p114 : 0 ≤ (x18_1 : Int) := of_decide_eq_true y3_
       have q114 : x18_1 < (l0.length : Int) := of_decide_eq_true y3_
       obtain ⟨ad114, e114, hx114_0, hx114_1⟩ := at_T44 HR0.out x18_1 p114 q114
       cases e114
       replace hx114_0 := (HB.out.cell (World.block_lt_of_cell? w _ hx114_0)).trans hx114_0
       replace hx114_1 := (HB.out.cell (World.block_lt_of_cell? w _ hx114_1)).trans hx114_1
       replace p114 := eq_true p114
       replace q114 := eq_true q114
       go_wp2_with (first | ((with_reducible refine gate_dst (N := 5) rfl ?_); refine box_event ?hg (N := 5) ?hd (cs := #[.string (⟨#[]⟩ : ByteArray), .string (⟨#[]⟩ : ByteArray)]) (t := 44) ?hr ?_; (case hd => rfl); (case hg => rfl); (case hr => first | (go_simp; done) | (go_simp; rfl)); intro gb115 hg w7 hbox hb; have n0_ := Aside0.mk (below_step y1_ hb); have n1_ := Aside0.mk (hbox); have n2_ := Aside0.mk ((y15_ : w.heap.size ≤ gb115)); have n3_ := Aside0.mk ((y15_ : w.heap.size ≤ gb115)); clear HB; have HB := n0_; have BK115 := n1_; have GW115 := n2_; have GE115 := n3_; clear n0_ n1_ n2_ n3_; clear hb hbox hg; have hcz8_0 : w7.cell? ⟨gb115, 0, none⟩ = some (.string (⟨#[]⟩ : ByteArray)) := (blk_cell BK115.out 0).trans rfl; have hcz8_1 : w7.cell? ⟨gb115, 1, none⟩ = some (.string (⟨#[]⟩ : ByteArray)) := (blk_cell BK115.out 1).trans rfl; have hfz8_0 := blk_frozen BK115.out 0; have hfz8_1 := blk_frozen BK115.out 1) | ((with_reducible refine gate_callee (f := 65) rfl ?_); refine goesL_ (some 23) rfl rfl Tryd.func65 (by kernel_rfl) rfl #[.agg #[.string ((rd_T44 l0 x18_1).f0), .string ((rd_T44 l0 x18_1).f1)], .bool true] rfl y2_ ?_; (with_reducible refine (labels_wrong.calls ((rd_T44 l0 x18_1).f0) ((rd_T44 l0 x18_1).f1) true t116 _ ?side1 A5.out).mono ?_); (case side1 => exact ⟨Tab_below hT.out y32_⟩); rintro e w9 ⟨rfl, hb⟩; refine ⟨_, rfl, ?_⟩; have n0_ := Aside0.mk (blk_below (g := gb115) (o := .cells #[.string ((rd_T44 l0 x18_1).f0), .string ((rd_T44 l0 x18_1).f1)] 44 (0, 0)) y38_ hb); have n1_ := Aside0.mk (below_step y32_ hb); clear BK115; clear HB; have BK115 := n0_; have HB := n1_; clear n0_ n1_; (try clear hb); (try clear hb2); (try clear hk); (try clear hi)))
       go_roundg k1
       case measure => have := HK1.out; omega
       case rel => exact ⟨(wrap64 (x18_1 + 1)), y6_, H', ⟨y53_⟩, ⟨y32_⟩⟩
      ·rw [if_neg c6] at H
       have c6b0 : (t116 == 0) = false := beq_eq_false_iff_ne.mpr c6
       have c6b1 : (t116 != 0) = true := bne_iff_ne.mpr c6
       simp only [Option.some.injEq, Prod.mk.injEq] at H
       obtain ⟨rfl, rfl⟩ := H
       have p114 : 0 ≤ (x18_1 : Int) := of_decide_eq_true y3_
       have q114 : x18_1 < (l0.length : Int) := of_decide_eq_true y3_
       obtain ⟨ad114, e114, hx114_0, hx114_1⟩ := at_T44 HR0.out x18_1 p114 q114
       cases e114
       replace hx114_0 := (HB.out.cell (World.block_lt_of_cell? w _ hx114_0)).trans hx114_0
       replace hx114_1 := (HB.out.cell (World.block_lt_of_cell? w _ hx114_1)).trans hx114_1
       replace p114 := eq_true p114
       replace q114 := eq_true q114
       go_wp2_with (first | ((with_reducible refine gate_dst (N := 5) rfl ?_); refine box_event ?hg (N := 5) ?hd (cs := #[.string (⟨#[]⟩ : ByteArray), .string (⟨#[]⟩ : ByteArray)]) (t := 44) ?hr ?_; (case hd => rfl); (case hg => rfl); (case hr => first | (go_simp; done) | (go_simp; rfl)); intro gb115 hg w10 hbox hb; have n0_ := Aside0.mk (below_step y1_ hb); have n1_ := Aside0.mk (hbox); have n2_ := Aside0.mk ((y15_ : w.heap.size ≤ gb115)); have n3_ := Aside0.mk ((y15_ : w.heap.size ≤ gb115)); clear HB; have HB := n0_; have BK115 := n1_; have GW115 := n2_; have GE115 := n3_; clear n0_ n1_ n2_ n3_; clear hb hbox hg; have hcz11_0 : w10.cell? ⟨gb115, 0, none⟩ = some (.string (⟨#[]⟩ : ByteArray)) := (blk_cell BK115.out 0).trans rfl; have hcz11_1 : w10.cell? ⟨gb115, 1, none⟩ = some (.string (⟨#[]⟩ : ByteArray)) := (blk_cell BK115.out 1).trans rfl; have hfz11_0 := blk_frozen BK115.out 0; have hfz11_1 := blk_frozen BK115.out 1) | ((with_reducible refine gate_callee (f := 65) rfl ?_); refine goesL_ (some 23) rfl rfl Tryd.func65 (by kernel_rfl) rfl #[.agg #[.string ((rd_T44 l0 x18_1).f0), .string ((rd_T44 l0 x18_1).f1)], .bool true] rfl y2_ ?_; (with_reducible refine (labels_wrong.calls ((rd_T44 l0 x18_1).f0) ((rd_T44 l0 x18_1).f1) true t116 _ ?side1 A5.out).mono ?_); (case side1 => exact ⟨Tab_below hT.out y32_⟩); rintro e w12 ⟨rfl, hb⟩; refine ⟨_, rfl, ?_⟩; have n0_ := Aside0.mk (blk_below (g := gb115) (o := .cells #[.string ((rd_T44 l0 x18_1).f0), .string ((rd_T44 l0 x18_1).f1)] 44 (0, 0)) y38_ hb); have n1_ := Aside0.mk (below_step y32_ hb); clear BK115; clear HB; have BK115 := n0_; have HB := n1_; clear n0_ n1_; (try clear hb); (try clear hb2); (try clear hk); (try clear hi)))
       go_ret2
       exact ⟨_, y7_, y11_, y32_⟩
     ·rw [if_neg c4] at H
      exact absurd H (by simp)
    ·rw [if_neg c3] at H
     exact absurd H (by simp)
   ·rw [if_neg c2] at H
    have c2b0 : decide (x18_1 < (l0.length : Int)) = false := decide_eq_false c2
    clear c2
    by_cases c13 : 0 ≤ (l0.length : Int)
    ·rw [if_pos c13] at H
     have c13b0 := eq_true c13
     have c13b1 : decide (0 ≤ (l0.length : Int)) = true := decide_eq_true c13
     clear c13
     by_cases c14 : ((l0.length : Int) : Int).toNat ≤ 8796093022208
     ·rw [if_pos c14] at H
      have c14b0 := eq_true c14
      have c14b1 : decide (((l0.length : Int) : Int).toNat ≤ 8796093022208) = true := decide_eq_true c14
      clear c14
      obtain ⟨y117, hy117⟩ : ∃ y_ : List (S44), y_ = (List.replicate 0 z44) := ⟨_, rfl⟩
      replace H : (labels_Make.l1 k1 l0 y117 ([] : List ByteArray) l0 (l0.length : Int) 0) = some (r1, r2) := by first | (rw [hy117]; with_reducible exact H) | (have H2_ := (Option.bind_some _ _).symm.trans H; rw [hy117]; with_reducible exact H2_) | (have H2_ := (Option.bind_some _ _).symm.trans H; with_reducible exact H2_) | with_reducible exact H | (rw [hy117]; exact H) | exact H
      have Ny117 := Aside0.mk hy117
      clear hy117
      have H' := Aside0.mk H
      clear H
      go_wp2_with (first | ((with_reducible refine gate_dst (N := 30) rfl ?_); refine Kd.R_make0 k44 _ 44 rfl (N := 30) rfl 29 _ _ rfl (l0.length : Int) rfl rfl Tryd.underlying29 (.agg #[(.string ⟨#[]⟩), (.string ⟨#[]⟩)]) 32 info44 rfl (by decide) (by omega) z44 (ok := fun _ => True) (okp := fun _ => True) (k44_mkM _ _ _ z44 ) (fun _ hk => hk) trivial (of_decide_eq_true y3_) (Nat.le_trans (Nat.mul_le_mul_right _ (of_decide_eq_true y3_ : (l0.length : Int).toNat ≤ 8796093022208)) (by omega)) (Below.refl _ _) (Nat.le_refl _) ?_; intro v118 w15 ho16 hb hg_ hnew_; clear hg_ hnew_; (first | rw [← Ny117.out] at ho16 | (simp only [Int.reduceToNat] at ho16; rw [← Ny117.out] at ho16)); have n0_ := Aside0.mk (Kd.R_lower ho16 (below_size y1_)); have n1_ := Aside0.mk (below_step y1_ hb); clear HB; have HO119 := n0_; have HB := n1_; clear n0_ n1_; clear hb ho16))
      go_loopg [8, 33] k1 (fun kq v8 v33 w' => ∃ (x8_2 : List ByteArray) (x33_2 : Int), v33 = .int .i64 x33_2 ∧ Aside0 (labels_Make.l1 kq l0 y117 x8_2 l0 (l0.length : Int) x33_2 = some (r1, r2)) ∧ Aside0 (kq ≤ k1) ∧ Aside0 (Kd.R k44 44 w' w.heap.size (fun _ => True) v118 y117) ∧ Aside0 (Kd.R Kd.string 9 w' w.heap.size (fun _ => True) v8 x8_2) ∧ Aside0 (Below w.heap.size w w'))
      case atStart => exact ⟨(([] : List ByteArray)), (0), y6_, H', ⟨Nat.le_refl _⟩, ⟨by (with_reducible repeat (first | apply Kd.R_alloc | apply Kd.R_drewN | apply Kd.R_drew)); exact HO119.out⟩, ⟨y11_⟩, ⟨y1_⟩⟩
      case round =>
       clear H'
       try clear c1
       try clear p1
       try clear q1
       try clear hx1
       try clear c2
       try clear c2b0
       try clear p2
       try clear c3
       try clear c3b0
       try clear c4
       try clear c4b0
       try clear c6
       try clear c6b0
       try clear c6b1
       try clear p6
       try clear p11
       try clear q11
       try clear hx11
       try clear c13
       try clear c13b0
       try clear c13b1
       try clear c14
       try clear c14b0
       try clear c14b1
       try clear hcz11_0
       try clear hcz11_1
       try clear hcz8_0
       try clear hcz8_1
       try clear hfz11_0
       try clear hfz11_1
       try clear hfz8_0
       try clear hfz8_1
       try clear hx114_0
       try clear hx114_1
       try clear p114
       try clear q114
       obtain ⟨x8_2, x33_2, rfl, HA, HK2, HO_7, HO_8, HB⟩ := hrel
       cases gk with
       | zero => exact absurd HA.out (by simp [labels_Make.l1])
       | succ k2 =>
        have H := HA.out
        clear HA
        simp only [labels_Make.l1] at H
        by_cases c17 : x33_2 < (l0.length : Int)
        ·rw [if_pos c17] at H
         have c17b0 : decide (x33_2 < (l0.length : Int)) = true := decide_eq_true c17
         clear c17
         by_cases c18 : 0 ≤ x33_2
         ·rw [if_pos c18] at H
          have c18b0 : decide (0 ≤ x33_2) = true := decide_eq_true c18
          clear c18
          by_cases c19 : x33_2 < (l0.length : Int)
          ·rw [if_pos c19] at H
           have c19b0 : decide (x33_2 < (l0.length : Int)) = true := decide_eq_true c19
           clear c19
           have HC20 := Aside0.mk H
           clear H
           have p120 : 0 ≤ (x33_2 : Int) := of_decide_eq_true y3_
           have q120 : x33_2 < (l0.length : Int) := of_decide_eq_true y3_
           obtain ⟨ad120, e120, hx120_0, hx120_1⟩ := at_T44 HR0.out x33_2 p120 q120
           cases e120
           replace hx120_0 := (HB.out.cell (World.block_lt_of_cell? w _ hx120_0)).trans hx120_0
           replace hx120_1 := (HB.out.cell (World.block_lt_of_cell? w _ hx120_1)).trans hx120_1
           replace p120 := eq_true p120
           replace q120 := eq_true q120
           go_upto_block 4 with (first | ((with_reducible refine gate_dst (N := 10) rfl ?_); refine box_event ?hg (N := 10) ?hd (cs := #[.string (⟨#[]⟩ : ByteArray), .string (⟨#[]⟩ : ByteArray)]) (t := 44) ?hr ?_; (case hd => rfl); (case hg => rfl); (case hr => first | (go_simp; done) | (go_simp; rfl)); intro gb121 hg w21 hbox hb; have n0_ := Aside0.mk (Kd.R_below (Kd.R_elderB y17_ gb121 (Nat.le_of_eq hg.symm)) hb); have n1_ := Aside0.mk (Kd.R_below y14_ hb); have n2_ := Aside0.mk (below_step y1_ hb); have n3_ := Aside0.mk (hbox); have n4_ := Aside0.mk ((y15_ : w.heap.size ≤ gb121)); have n5_ := Aside0.mk ((y15_ : w.heap.size ≤ gb121)); clear HO_7; clear HO_8; clear HB; have HO_7 := n0_; have HO_8 := n1_; have HB := n2_; have BK121 := n3_; have GW121 := n4_; have GE121 := n5_; clear n0_ n1_ n2_ n3_ n4_ n5_; clear hb hbox hg; have hcz22_0 : w21.cell? ⟨gb121, 0, none⟩ = some (.string (⟨#[]⟩ : ByteArray)) := (blk_cell BK121.out 0).trans rfl; have hcz22_1 : w21.cell? ⟨gb121, 1, none⟩ = some (.string (⟨#[]⟩ : ByteArray)) := (blk_cell BK121.out 1).trans rfl; have hfz22_0 := blk_frozen BK121.out 0; have hfz22_1 := blk_frozen BK121.out 1; obtain ⟨Ao23, co23, eo23⟩ := Kd.R_slice HO_8.out; subst eo23))
           (try simp only [Act.put, List.setIfInBounds_toArray, List.set_cons_zero, List.set_cons_succ])
           go_cut [11] (fun v11 wc => ∃ (kq : Nat) (x11_19 : Int), v11 = .int .i64 x11_19 ∧ Aside0 (labels_Make.j3 kq l0 y117 x8_2 x11_19 l0 (l0.length : Int) x33_2 ((rd_T44 l0 x33_2).f0) ((rd_T44 l0 x33_2).f1) = some (r1, r2)) ∧ Aside0 (kq ≤ k2) ∧ Aside0 (Kd.R k44 44 wc w.heap.size (fun k_ => k_ ≠ gb121) v118 y117) ∧ Aside0 (Kd.R Kd.string 9 wc w.heap.size (fun _ => True) (.slice Ao23 x8_2.length co23) x8_2) ∧ Aside0 (wc.heap[gb121]? = some (.cells #[.string ((rd_T44 l0 x33_2).f0), .string ((rd_T44 l0 x33_2).f1)] 44 (0, 0))) ∧ Aside0 (Below w.heap.size w wc))
           case first =>
            have H := HC20.out
            clear HC20
            have H' := Aside0.mk H
            clear H
            go_wp2
            go_loopg [11] k2 (fun kq v11 w' => ∃ (x11_3 : Int), v11 = .int .i64 x11_3 ∧ Aside0 (labels_Make.l2 kq l0 y117 x8_2 x11_3 l0 (l0.length : Int) x33_2 ((rd_T44 l0 x33_2).f0) ((rd_T44 l0 x33_2).f1) = some (r1, r2)) ∧ Aside0 (kq ≤ k2) ∧ Aside0 (Kd.R k44 44 w' w.heap.size (fun k_ => k_ ≠ gb121) v118 y117) ∧ Aside0 (Kd.R Kd.string 9 w' w.heap.size (fun _ => True) (.slice Ao23 x8_2.length co23) x8_2) ∧ Aside0 (w'.heap[gb121]? = some (.cells #[.string ((rd_T44 l0 x33_2).f0), .string ((rd_T44 l0 x33_2).f1)] 44 (0, 0))) ∧ Aside0 (Below w.heap.size w w'))
            case atStart => exact ⟨((x8_2.length : Int)), y6_, H', ⟨Nat.le_refl _⟩, ⟨by (with_reducible repeat (first | apply Kd.R_alloc | apply Kd.R_drewN | apply Kd.R_drew)); exact Kd.R_mono (Kd.R_far (p := ⟨gb121, 1, none⟩) (Kd.R_far (p := ⟨gb121, 0, none⟩) (Kd.R_mono HO_7.out (fun k_ hk => (⟨hk, hk.2⟩ : _ ∧ k_ ≠ gb121))) (fun _ hk => hk.2) (.string ((rd_T44 l0 x33_2).f0))) (fun _ hk => hk.2) (.string ((rd_T44 l0 x33_2).f1))) (fun _ hk => hk.1.2)⟩, ⟨by (with_reducible repeat (first | apply Kd.R_alloc | apply Kd.R_drewN | apply Kd.R_drew)); exact Kd.R_mono (Kd.R_far (p := ⟨gb121, 1, none⟩) (Kd.R_far (p := ⟨gb121, 0, none⟩) (Kd.R_types HO_8.out BK121.out (by decide)) (fun _ hk => hk.2) (.string ((rd_T44 l0 x33_2).f0))) (fun _ hk => hk.2) (.string ((rd_T44 l0 x33_2).f1))) (fun _ hk => trivial)⟩, ⟨by (with_reducible repeat (first | refine blk_drewN ?_ _ | refine blk_drew ?_ | refine blk_alloc ?_ _)); refine blk_put (cs := #[.string ((rd_T44 l0 x33_2).f0), .string (⟨#[]⟩ : ByteArray)]) ?_ 1 _ rfl; (with_reducible repeat (first | refine blk_drewN ?_ _ | refine blk_drew ?_ | refine blk_alloc ?_ _)); refine blk_put (cs := #[.string (⟨#[]⟩ : ByteArray), .string (⟨#[]⟩ : ByteArray)]) ?_ 0 _ rfl; (with_reducible repeat (first | refine blk_drewN ?_ _ | refine blk_drew ?_ | refine blk_alloc ?_ _)); exact BK121.out⟩, ⟨y12_⟩⟩
            case round =>
             clear H'
             try clear c1
             try clear p1
             try clear q1
             try clear hx1
             try clear c2
             try clear c2b0
             try clear p2
             try clear c3
             try clear c3b0
             try clear c4
             try clear c4b0
             try clear c6
             try clear c6b0
             try clear c6b1
             try clear p6
             try clear p11
             try clear q11
             try clear hx11
             try clear p12
             try clear q12
             try clear hx12
             try clear c13
             try clear c13b0
             try clear c13b1
             try clear c14
             try clear c14b0
             try clear c14b1
             try clear c17
             try clear c17b0
             try clear c18
             try clear c18b0
             try clear c19
             try clear c19b0
             try clear hcz11_0
             try clear hcz11_1
             try clear hcz22_0
             try clear hcz22_1
             try clear hcz8_0
             try clear hcz8_1
             try clear hfz11_0
             try clear hfz11_1
             try clear hfz22_0
             try clear hfz22_1
             try clear hfz8_0
             try clear hfz8_1
             try clear hx114_0
             try clear hx114_1
             try clear hx120_0
             try clear hx120_1
             try clear p1
             try clear p11
             try clear p114
             try clear p120
             try clear p2
             try clear p6
             try clear q1
             try clear q11
             try clear q114
             try clear q120
             obtain ⟨x11_3, rfl, HA, HK3, HO_7, HO_8, BK121, HB⟩ := hrel
             cases gk with
             | zero => exact absurd HA.out (by simp [labels_Make.l2])
             | succ k3 =>
              have H := HA.out
              clear HA
              simp only [labels_Make.l2] at H
              by_cases c24 : x11_3 > 0
              ·rw [if_pos c24] at H
               have c24b0 : decide (0 < x11_3) = true := decide_eq_true c24
               clear c24
               (first | rw [c24b0] | (simp only [i64_w, i32_w]; rw [c24b0]) | skip)
               obtain ⟨ji25, hji25⟩ : ∃ j_ : Int, (wrap64 (x11_3 - 1)) = j_ := ⟨_, rfl⟩
               replace H : (if 0 ≤ (ji25) then (if (ji25) < (x8_2.length : Int) then (if ((Op.bytesLess ((rdOf ByteArray.empty x8_2 (ji25)).toList) ((rd_T44 l0 x33_2).f0).toList) = true) then (labels_Make.j3 k3 l0 y117 x8_2 x11_3 l0 (l0.length : Int) x33_2 ((rd_T44 l0 x33_2).f0) ((rd_T44 l0 x33_2).f1)) else (labels_Make.l2 k3 l0 y117 x8_2 ji25 l0 (l0.length : Int) x33_2 ((rd_T44 l0 x33_2).f0) ((rd_T44 l0 x33_2).f1))) else (none)) else (none)) = some (r1, r2) := by first | (rw [hji25] at H; exact H) | (simp only [hji25] at H ⊢; exact H)
               have hji25w : (IntKind.i64.wrap (x11_3 - 1)) = ji25 := (i64_w _).trans hji25
               by_cases c26 : 0 ≤ (ji25)
               ·rw [if_pos c26] at H
                have c26b0 : decide (0 ≤ (ji25)) = true := decide_eq_true c26
                clear c26
                by_cases c27 : (ji25) < (x8_2.length : Int)
                ·rw [if_pos c27] at H
                 have c27b0 : decide ((ji25) < (x8_2.length : Int)) = true := decide_eq_true c27
                 clear c27
                 by_cases c28 : ((Op.bytesLess ((rdOf ByteArray.empty x8_2 (ji25)).toList) ((rd_T44 l0 x33_2).f0).toList) = true)
                 ·rw [if_pos c28] at H
                  have c28b0 : (Op.bytesLess ((rdOf ByteArray.empty x8_2 (ji25)).toList) ((rd_T44 l0 x33_2).f0).toList) = true := c28
                  clear c28
                  have H' := Aside0.mk H
                  clear H
                  try go_wp2
                  have n0_ := Aside0.mk (Kd.R_drew HO_7.out)
                  have n1_ := Aside0.mk (Kd.R_drew HO_8.out)
                  have n2_ := Aside0.mk (blk_drew BK121.out)
                  have n3_ := Aside0.mk (below_drew1 HB.out)
                  clear HO_7
                  clear HO_8
                  clear BK121
                  clear HB
                  have HO_7 := n0_
                  have HO_8 := n1_
                  have BK121 := n2_
                  have HB := n3_
                  clear n0_ n1_ n2_ n3_
                  have p122 : 0 ≤ ((ji25) : Int) := of_decide_eq_true y3_
                  have q122 : (ji25) < (x8_2.length : Int) := of_decide_eq_true y3_
                  obtain ⟨ad122, e122, hx122_0⟩ := Kd.at_string (Kd.R_reads' HO_8.out).2.2 (ji25) p122 q122
                  cases e122
                  replace p122 := eq_true p122
                  replace q122 := eq_true q122
                  refine start_ (n := 12) (S := fun w' => w'.cell? ⟨gb121, 0, none⟩ = some (.string ((rd_T44 l0 x33_2).f0)) ∧ w'.cell? ⟨gb121, 1, none⟩ = some (.string ((rd_T44 l0 x33_2).f1)) ∧ w'.cell? (ad122.add ((ji25)).toNat) = some (.string (rdOf ByteArray.empty x8_2 (ji25)))) (ds := []) #[false, false, false, false, false, false, false, false, false, false, false, false] (by kernel_rfl) rfl rfl ⟨(blk_cell BK121.out 0).trans rfl, (blk_cell BK121.out 1).trans rfl, hx122_0⟩ (fun hHeld => ?_); refine with_tabW labels_Make.tab14 labels_Make.bits14 (fun HT_ HW_ => ?_)
                  generalize wr.drew = w29 at HO_7 HO_8 BK121 HB hx122_0 hHeld ⊢
                  refine pure_ (i := 0) (N := some 39) (v := ?_) (a' := ?_) #[true, false, false, false, false, false, false, false, false, false, false, false] rfl rfl (any_of HT_.out (by kernel_rfl)) (fun _ _ _ h => h) (Or.inl ⟨by rfl, ?_⟩) ?_ ?_
                  rotate_left
                  ·intro w'
                   go_simp
                   with_reducible rfl
                  rotate_left
                  ·simp only [Act.put, List.setIfInBounds_toArray, List.set_cons_zero, List.set_cons_succ, i64_w, i32_w]
                   rfl
                  refine pure_ (i := 1) (N := some 40) (v := ?_) (a' := ?_) #[true, true, false, false, false, false, false, false, false, false, false, false] rfl rfl (any_of HT_.out (by kernel_rfl)) (fun _ _ _ h => h) (Or.inl ⟨by rfl, ?_⟩) ?_ ?_
                  rotate_left
                  ·intro w'
                   go_simp
                   with_reducible rfl
                  rotate_left
                  ·simp only [Act.put, List.setIfInBounds_toArray, List.set_cons_zero, List.set_cons_succ, i64_w, i32_w]
                   rfl
                  refine pure_ (i := 2) (N := some 41) (v := ?_) (a' := ?_) #[true, true, true, false, false, false, false, false, false, false, false, false] rfl rfl (any_of HT_.out (by kernel_rfl)) (fun _ _ _ h => h) (Or.inl ⟨by rfl, ?_⟩) ?_ ?_
                  rotate_left
                  ·intro w'
                   go_simp
                   with_reducible rfl
                  rotate_left
                  ·simp only [Act.put, List.setIfInBounds_toArray, List.set_cons_zero, List.set_cons_succ, i64_w, i32_w]
                   rfl
                  refine pure_ (i := 3) (N := some 42) (v := ?_) (a' := ?_) #[true, true, true, true, false, false, false, false, false, false, false, false] rfl rfl (any_of HT_.out (by kernel_rfl)) (fun _ _ _ h => h) (Or.inl ⟨by rfl, ?_⟩) ?_ ?_
                  rotate_left
                  ·intro w'
                   go_simp
                   with_reducible rfl
                  rotate_left
                  ·simp only [Act.put, List.setIfInBounds_toArray, List.set_cons_zero, List.set_cons_succ, i64_w, i32_w]
                   rfl
                  refine pure_ (i := 4) (N := some 43) (v := ?_) (a' := ?_) #[true, true, true, true, true, false, false, false, false, false, false, false] rfl rfl (any_of HT_.out (by kernel_rfl)) (fun _ _ _ h => h) (Or.inl ⟨by rfl, ?_⟩) ?_ ?_
                  rotate_left
                  ·intro w'
                   go_simp
                   with_reducible rfl
                  rotate_left
                  ·simp only [Act.put, List.setIfInBounds_toArray, List.set_cons_zero, List.set_cons_succ, i64_w, i32_w]
                   rfl
                  refine pure_ (i := 5) (N := some 44) (v := ?_) (a' := ?_) #[true, true, true, true, true, true, false, false, false, false, false, false] rfl rfl (any_of HT_.out (by kernel_rfl)) (fun _ _ _ h => h) (Or.inl ⟨by rfl, ?_⟩) ?_ ?_
                  rotate_left
                  ·intro w'
                   go_simp
                   with_reducible rfl
                  rotate_left
                  ·simp only [Act.put, List.setIfInBounds_toArray, List.set_cons_zero, List.set_cons_succ, i64_w, i32_w]
                   rfl
                  refine pure_ (i := 6) (N := some 45) (v := ?_) (a' := ?_) #[true, true, true, true, true, true, true, false, false, false, false, false] rfl rfl (any_of HT_.out (by kernel_rfl)) (fun _ _ _ h => h) (Or.inl ⟨by rfl, ?_⟩) ?_ ?_
                  rotate_left
                  ·intro w'
                   go_simp
                   with_reducible rfl
                  rotate_left
                  ·simp only [Act.put, List.setIfInBounds_toArray, List.set_cons_zero, List.set_cons_succ, i64_w, i32_w]
                   rfl
                  refine pure_ (i := 8) (N := some 47) (v := ?_) (a' := ?_) #[true, true, true, true, true, true, true, false, true, false, false, false] rfl rfl (any_of HT_.out (by kernel_rfl)) (fun _ _ _ h => h) (Or.inl ⟨by rfl, ?_⟩) ?_ ?_
                  rotate_left
                  ·intro w'
                   go_simp
                   with_reducible rfl
                  rotate_left
                  ·simp only [Act.put, List.setIfInBounds_toArray, List.set_cons_zero, List.set_cons_succ, i64_w, i32_w]
                   rfl
                  refine take_ (i := 7) (N := some 46) (v := ?_) (a' := ?_) #[true, true, true, true, true, true, true, true, true, false, false, false] rfl rfl (take_ofW HT_.out HW_.out (by kernel_rfl)) (fun _ _ _ h => h) (Or.inl ⟨by rfl, ?_⟩) hHeld ?_ ?_
                  rotate_left
                  ·rintro w' ⟨s0, s1, s2⟩
                   go_simp
                   with_reducible rfl
                  rotate_left
                  ·simp only [Act.put, List.setIfInBounds_toArray, List.set_cons_zero, List.set_cons_succ, i64_w, i32_w]
                   rfl
                  refine take_ (i := 9) (N := some 48) (v := ?_) (a' := ?_) #[true, true, true, true, true, true, true, true, true, true, false, false] rfl rfl (take_ofW HT_.out HW_.out (by kernel_rfl)) (fun _ _ _ h => h) (Or.inl ⟨by rfl, ?_⟩) hHeld ?_ ?_
                  rotate_left
                  ·rintro w' ⟨s0, s1, s2⟩
                   go_simp
                   with_reducible rfl
                  rotate_left
                  ·simp only [Act.put, List.setIfInBounds_toArray, List.set_cons_zero, List.set_cons_succ, i64_w, i32_w]
                   rfl
                  refine pure_ (i := 10) (N := some 49) (v := ?_) (a' := ?_) #[true, true, true, true, true, true, true, true, true, true, true, false] rfl rfl (any_of HT_.out (by kernel_rfl)) (fun _ _ _ h => h) (Or.inl ⟨by rfl, ?_⟩) ?_ ?_
                  rotate_left
                  ·intro w'
                   go_simp
                   with_reducible rfl
                  rotate_left
                  ·simp only [Act.put, List.setIfInBounds_toArray, List.set_cons_zero, List.set_cons_succ, i64_w, i32_w]
                   rfl
                  refine pure_ (i := 11) (N := some 50) (v := ?_) (a' := ?_) #[true, true, true, true, true, true, true, true, true, true, true, true] rfl rfl (any_of HT_.out (by kernel_rfl)) (fun _ _ _ h => h) (Or.inl ⟨by rfl, ?_⟩) ?_ ?_
                  rotate_left
                  ·intro w'
                   go_simp
                   with_reducible rfl
                  rotate_left
                  ·simp only [Act.put, List.setIfInBounds_toArray, List.set_cons_zero, List.set_cons_succ, i64_w, i32_w]
                   rfl
                  refine done_ (done_of HT_.out (by kernel_rfl)) ?_
                  try go_wp2
                  go_meet
                  case rel => exact ⟨_, (x11_3), y6_, H', ⟨by have := HK1.out; have := HK2.out; have := HK3.out; first | omega | exact Nat.le_refl _⟩, ⟨y17_⟩, ⟨y14_⟩, ⟨y28_⟩, ⟨y12_⟩⟩
                 ·rw [if_neg c28] at H
                  have c28b0 : (Op.bytesLess ((rdOf ByteArray.empty x8_2 (ji25)).toList) ((rd_T44 l0 x33_2).f0).toList) = false := by simpa using c28
                  clear c28
                  have H' := Aside0.mk H
                  clear H
                  try go_wp2
                  have n0_ := Aside0.mk (Kd.R_drew HO_7.out)
                  have n1_ := Aside0.mk (Kd.R_drew HO_8.out)
                  have n2_ := Aside0.mk (blk_drew BK121.out)
                  have n3_ := Aside0.mk (below_drew1 HB.out)
                  clear HO_7
                  clear HO_8
                  clear BK121
                  clear HB
                  have HO_7 := n0_
                  have HO_8 := n1_
                  have BK121 := n2_
                  have HB := n3_
                  clear n0_ n1_ n2_ n3_
                  have p122 : 0 ≤ ((ji25) : Int) := of_decide_eq_true y3_
                  have q122 : (ji25) < (x8_2.length : Int) := of_decide_eq_true y3_
                  obtain ⟨ad122, e122, hx122_0⟩ := Kd.at_string (Kd.R_reads' HO_8.out).2.2 (ji25) p122 q122
                  cases e122
                  replace p122 := eq_true p122
                  replace q122 := eq_true q122
                  refine start_ (n := 12) (S := fun w' => w'.cell? ⟨gb121, 0, none⟩ = some (.string ((rd_T44 l0 x33_2).f0)) ∧ w'.cell? ⟨gb121, 1, none⟩ = some (.string ((rd_T44 l0 x33_2).f1)) ∧ w'.cell? (ad122.add ((ji25)).toNat) = some (.string (rdOf ByteArray.empty x8_2 (ji25)))) (ds := []) #[false, false, false, false, false, false, false, false, false, false, false, false] (by kernel_rfl) rfl rfl ⟨(blk_cell BK121.out 0).trans rfl, (blk_cell BK121.out 1).trans rfl, hx122_0⟩ (fun hHeld => ?_); refine with_tabW labels_Make.tab14 labels_Make.bits14 (fun HT_ HW_ => ?_)
                  generalize wr.drew = w30 at HO_7 HO_8 BK121 HB hx122_0 hHeld ⊢
                  refine pure_ (i := 0) (N := some 39) (v := ?_) (a' := ?_) #[true, false, false, false, false, false, false, false, false, false, false, false] rfl rfl (any_of HT_.out (by kernel_rfl)) (fun _ _ _ h => h) (Or.inl ⟨by rfl, ?_⟩) ?_ ?_
                  rotate_left
                  ·intro w'
                   go_simp
                   with_reducible rfl
                  rotate_left
                  ·simp only [Act.put, List.setIfInBounds_toArray, List.set_cons_zero, List.set_cons_succ, i64_w, i32_w]
                   rfl
                  refine pure_ (i := 1) (N := some 40) (v := ?_) (a' := ?_) #[true, true, false, false, false, false, false, false, false, false, false, false] rfl rfl (any_of HT_.out (by kernel_rfl)) (fun _ _ _ h => h) (Or.inl ⟨by rfl, ?_⟩) ?_ ?_
                  rotate_left
                  ·intro w'
                   go_simp
                   with_reducible rfl
                  rotate_left
                  ·simp only [Act.put, List.setIfInBounds_toArray, List.set_cons_zero, List.set_cons_succ, i64_w, i32_w]
                   rfl
                  refine pure_ (i := 2) (N := some 41) (v := ?_) (a' := ?_) #[true, true, true, false, false, false, false, false, false, false, false, false] rfl rfl (any_of HT_.out (by kernel_rfl)) (fun _ _ _ h => h) (Or.inl ⟨by rfl, ?_⟩) ?_ ?_
                  rotate_left
                  ·intro w'
                   go_simp
                   with_reducible rfl
                  rotate_left
                  ·simp only [Act.put, List.setIfInBounds_toArray, List.set_cons_zero, List.set_cons_succ, i64_w, i32_w]
                   rfl
                  refine pure_ (i := 3) (N := some 42) (v := ?_) (a' := ?_) #[true, true, true, true, false, false, false, false, false, false, false, false] rfl rfl (any_of HT_.out (by kernel_rfl)) (fun _ _ _ h => h) (Or.inl ⟨by rfl, ?_⟩) ?_ ?_
                  rotate_left
                  ·intro w'
                   go_simp
                   with_reducible rfl
                  rotate_left
                  ·simp only [Act.put, List.setIfInBounds_toArray, List.set_cons_zero, List.set_cons_succ, i64_w, i32_w]
                   rfl
                  refine pure_ (i := 4) (N := some 43) (v := ?_) (a' := ?_) #[true, true, true, true, true, false, false, false, false, false, false, false] rfl rfl (any_of HT_.out (by kernel_rfl)) (fun _ _ _ h => h) (Or.inl ⟨by rfl, ?_⟩) ?_ ?_
                  rotate_left
                  ·intro w'
                   go_simp
                   with_reducible rfl
                  rotate_left
                  ·simp only [Act.put, List.setIfInBounds_toArray, List.set_cons_zero, List.set_cons_succ, i64_w, i32_w]
                   rfl
                  refine pure_ (i := 5) (N := some 44) (v := ?_) (a' := ?_) #[true, true, true, true, true, true, false, false, false, false, false, false] rfl rfl (any_of HT_.out (by kernel_rfl)) (fun _ _ _ h => h) (Or.inl ⟨by rfl, ?_⟩) ?_ ?_
                  rotate_left
                  ·intro w'
                   go_simp
                   with_reducible rfl
                  rotate_left
                  ·simp only [Act.put, List.setIfInBounds_toArray, List.set_cons_zero, List.set_cons_succ, i64_w, i32_w]
                   rfl
                  refine pure_ (i := 6) (N := some 45) (v := ?_) (a' := ?_) #[true, true, true, true, true, true, true, false, false, false, false, false] rfl rfl (any_of HT_.out (by kernel_rfl)) (fun _ _ _ h => h) (Or.inl ⟨by rfl, ?_⟩) ?_ ?_
                  rotate_left
                  ·intro w'
                   go_simp
                   with_reducible rfl
                  rotate_left
                  ·simp only [Act.put, List.setIfInBounds_toArray, List.set_cons_zero, List.set_cons_succ, i64_w, i32_w]
                   rfl
                  refine pure_ (i := 8) (N := some 47) (v := ?_) (a' := ?_) #[true, true, true, true, true, true, true, false, true, false, false, false] rfl rfl (any_of HT_.out (by kernel_rfl)) (fun _ _ _ h => h) (Or.inl ⟨by rfl, ?_⟩) ?_ ?_
                  rotate_left
                  ·intro w'
                   go_simp
                   with_reducible rfl
                  rotate_left
                  ·simp only [Act.put, List.setIfInBounds_toArray, List.set_cons_zero, List.set_cons_succ, i64_w, i32_w]
                   rfl
                  refine take_ (i := 7) (N := some 46) (v := ?_) (a' := ?_) #[true, true, true, true, true, true, true, true, true, false, false, false] rfl rfl (take_ofW HT_.out HW_.out (by kernel_rfl)) (fun _ _ _ h => h) (Or.inl ⟨by rfl, ?_⟩) hHeld ?_ ?_
                  rotate_left
                  ·rintro w' ⟨s0, s1, s2⟩
                   go_simp
                   with_reducible rfl
                  rotate_left
                  ·simp only [Act.put, List.setIfInBounds_toArray, List.set_cons_zero, List.set_cons_succ, i64_w, i32_w]
                   rfl
                  refine take_ (i := 9) (N := some 48) (v := ?_) (a' := ?_) #[true, true, true, true, true, true, true, true, true, true, false, false] rfl rfl (take_ofW HT_.out HW_.out (by kernel_rfl)) (fun _ _ _ h => h) (Or.inl ⟨by rfl, ?_⟩) hHeld ?_ ?_
                  rotate_left
                  ·rintro w' ⟨s0, s1, s2⟩
                   go_simp
                   with_reducible rfl
                  rotate_left
                  ·simp only [Act.put, List.setIfInBounds_toArray, List.set_cons_zero, List.set_cons_succ, i64_w, i32_w]
                   rfl
                  refine pure_ (i := 10) (N := some 49) (v := ?_) (a' := ?_) #[true, true, true, true, true, true, true, true, true, true, true, false] rfl rfl (any_of HT_.out (by kernel_rfl)) (fun _ _ _ h => h) (Or.inl ⟨by rfl, ?_⟩) ?_ ?_
                  rotate_left
                  ·intro w'
                   go_simp
                   with_reducible rfl
                  rotate_left
                  ·simp only [Act.put, List.setIfInBounds_toArray, List.set_cons_zero, List.set_cons_succ, i64_w, i32_w]
                   rfl
                  refine pure_ (i := 11) (N := some 50) (v := ?_) (a' := ?_) #[true, true, true, true, true, true, true, true, true, true, true, true] rfl rfl (any_of HT_.out (by kernel_rfl)) (fun _ _ _ h => h) (Or.inl ⟨by rfl, ?_⟩) ?_ ?_
                  rotate_left
                  ·intro w'
                   go_simp
                   with_reducible rfl
                  rotate_left
                  ·simp only [Act.put, List.setIfInBounds_toArray, List.set_cons_zero, List.set_cons_succ, i64_w, i32_w]
                   rfl
                  refine done_ (done_of HT_.out (by kernel_rfl)) ?_
                  try go_wp2
                  go_roundg k3
                  case measure => have := HK1.out; have := HK2.out; have := HK3.out; omega
                  case rel => exact ⟨(ji25), (by first | rfl | (simp; done) | ((simp only [← hji25] <;> (first | rfl | simp)); done) | (congr 1; first | assumption | (symm; assumption)) | (simp [*]; done)), H', ⟨by have := HK1.out; have := HK2.out; have := HK3.out; omega⟩, ⟨y17_⟩, ⟨y14_⟩, ⟨y28_⟩, ⟨y12_⟩⟩
                ·rw [if_neg c27] at H
                 exact absurd H (by simp)
               ·rw [if_neg c26] at H
                exact absurd H (by simp)
              ·rw [if_neg c24] at H
               have c24b0 : decide (0 < x11_3) = false := decide_eq_false c24
               clear c24
               (first | rw [c24b0] | (simp only [i64_w, i32_w]; rw [c24b0]) | skip)
               have H' := Aside0.mk H
               clear H
               try go_wp2
               have n0_ := Aside0.mk (Kd.R_drew HO_7.out)
               have n1_ := Aside0.mk (Kd.R_drew HO_8.out)
               have n2_ := Aside0.mk (blk_drew BK121.out)
               have n3_ := Aside0.mk (below_drew1 HB.out)
               clear HO_7
               clear HO_8
               clear BK121
               clear HB
               have HO_7 := n0_
               have HO_8 := n1_
               have BK121 := n2_
               have HB := n3_
               clear n0_ n1_ n2_ n3_
               refine start_ (n := 12) (S := fun w' => True) (ds := []) #[false, false, false, false, false, false, false, false, false, false, false, false] (by kernel_rfl) rfl rfl trivial (fun hHeld => ?_); refine with_tabW labels_Make.tab14 labels_Make.bits14 (fun HT_ HW_ => ?_)
               generalize wr.drew = w31 at HO_7 HO_8 BK121 HB hHeld ⊢
               refine pure_ (i := 0) (N := some 39) (v := ?_) (a' := ?_) #[true, false, false, false, false, false, false, false, false, false, false, false] rfl rfl (any_of HT_.out (by kernel_rfl)) (fun _ _ _ h => h) (Or.inl ⟨by rfl, ?_⟩) ?_ ?_
               rotate_left
               ·intro w'
                go_simp
                with_reducible rfl
               rotate_left
               ·simp only [Act.put, List.setIfInBounds_toArray, List.set_cons_zero, List.set_cons_succ, i64_w, i32_w]
                rfl
               refine pure_ (i := 1) (N := some 40) (v := ?_) (a' := ?_) #[true, true, false, false, false, false, false, false, false, false, false, false] rfl rfl (any_of HT_.out (by kernel_rfl)) (fun _ _ _ h => h) (Or.inl ⟨by rfl, ?_⟩) ?_ ?_
               rotate_left
               ·intro w'
                go_simp
                with_reducible rfl
               rotate_left
               ·simp only [Act.put, List.setIfInBounds_toArray, List.set_cons_zero, List.set_cons_succ, i64_w, i32_w]
                rfl
               refine pure_ (i := 2) (N := some 41) (v := ?_) (a' := ?_) #[true, true, true, false, false, false, false, false, false, false, false, false] rfl rfl (any_of HT_.out (by kernel_rfl)) (fun _ _ _ h => h) (Or.inl ⟨by rfl, ?_⟩) ?_ ?_
               rotate_left
               ·intro w'
                go_simp
                with_reducible rfl
               rotate_left
               ·simp only [Act.put, List.setIfInBounds_toArray, List.set_cons_zero, List.set_cons_succ, i64_w, i32_w]
                rfl
               refine pure_ (i := 3) (N := some 42) (v := undef) (a' := ?_) #[true, true, true, true, false, false, false, false, false, false, false, false] rfl rfl (any_of HT_.out (by kernel_rfl)) (fun _ _ _ h => h) (Or.inr ⟨by rfl, rfl⟩) ?_ ?_
               rotate_left
               ·simp only [Act.put, List.setIfInBounds_toArray, List.set_cons_zero, List.set_cons_succ, i64_w, i32_w]
                rfl
               refine pure_ (i := 4) (N := some 43) (v := undef) (a' := ?_) #[true, true, true, true, true, false, false, false, false, false, false, false] rfl rfl (any_of HT_.out (by kernel_rfl)) (fun _ _ _ h => h) (Or.inr ⟨by rfl, rfl⟩) ?_ ?_
               rotate_left
               ·simp only [Act.put, List.setIfInBounds_toArray, List.set_cons_zero, List.set_cons_succ, i64_w, i32_w]
                rfl
               refine pure_ (i := 5) (N := some 44) (v := undef) (a' := ?_) #[true, true, true, true, true, true, false, false, false, false, false, false] rfl rfl (any_of HT_.out (by kernel_rfl)) (fun _ _ _ h => h) (Or.inr ⟨by rfl, rfl⟩) ?_ ?_
               rotate_left
               ·simp only [Act.put, List.setIfInBounds_toArray, List.set_cons_zero, List.set_cons_succ, i64_w, i32_w]
                rfl
               refine pure_ (i := 6) (N := some 45) (v := undef) (a' := ?_) #[true, true, true, true, true, true, true, false, false, false, false, false] rfl rfl (any_of HT_.out (by kernel_rfl)) (fun _ _ _ h => h) (Or.inr ⟨by rfl, rfl⟩) ?_ ?_
               rotate_left
               ·simp only [Act.put, List.setIfInBounds_toArray, List.set_cons_zero, List.set_cons_succ, i64_w, i32_w]
                rfl
               refine pure_ (i := 7) (N := some 46) (v := undef) (a' := ?_) #[true, true, true, true, true, true, true, true, false, false, false, false] rfl rfl (any_of HT_.out (by kernel_rfl)) (fun _ _ _ h => h) (Or.inr ⟨by rfl, rfl⟩) ?_ ?_
               rotate_left
               ·simp only [Act.put, List.setIfInBounds_toArray, List.set_cons_zero, List.set_cons_succ, i64_w, i32_w]
                rfl
               refine pure_ (i := 8) (N := some 47) (v := undef) (a' := ?_) #[true, true, true, true, true, true, true, true, true, false, false, false] rfl rfl (any_of HT_.out (by kernel_rfl)) (fun _ _ _ h => h) (Or.inr ⟨by rfl, rfl⟩) ?_ ?_
               rotate_left
               ·simp only [Act.put, List.setIfInBounds_toArray, List.set_cons_zero, List.set_cons_succ, i64_w, i32_w]
                rfl
               refine pure_ (i := 9) (N := some 48) (v := undef) (a' := ?_) #[true, true, true, true, true, true, true, true, true, true, false, false] rfl rfl (any_of HT_.out (by kernel_rfl)) (fun _ _ _ h => h) (Or.inr ⟨by rfl, rfl⟩) ?_ ?_
               rotate_left
               ·simp only [Act.put, List.setIfInBounds_toArray, List.set_cons_zero, List.set_cons_succ, i64_w, i32_w]
                rfl
               refine pure_ (i := 10) (N := some 49) (v := undef) (a' := ?_) #[true, true, true, true, true, true, true, true, true, true, true, false] rfl rfl (any_of HT_.out (by kernel_rfl)) (fun _ _ _ h => h) (Or.inr ⟨by rfl, rfl⟩) ?_ ?_
               rotate_left
               ·simp only [Act.put, List.setIfInBounds_toArray, List.set_cons_zero, List.set_cons_succ, i64_w, i32_w]
                rfl
               refine pure_ (i := 11) (N := some 50) (v := ?_) (a' := ?_) #[true, true, true, true, true, true, true, true, true, true, true, true] rfl rfl (any_of HT_.out (by kernel_rfl)) (fun _ _ _ h => h) (Or.inl ⟨by rfl, ?_⟩) ?_ ?_
               rotate_left
               ·intro w'
                go_simp
                with_reducible rfl
               rotate_left
               ·simp only [Act.put, List.setIfInBounds_toArray, List.set_cons_zero, List.set_cons_succ, i64_w, i32_w]
                rfl
               refine done_ (done_of HT_.out (by kernel_rfl)) ?_
               try go_wp2
               go_meet
               case rel => exact ⟨_, (x11_3), y6_, H', ⟨by have := HK1.out; have := HK2.out; have := HK3.out; first | omega | exact Nat.le_refl _⟩, ⟨y17_⟩, ⟨y14_⟩, ⟨y28_⟩, ⟨y12_⟩⟩
           case rest =>
            clear HC20
            try clear c1
            try clear p1
            try clear q1
            try clear hx1
            try clear c2
            try clear c2b0
            try clear p2
            try clear c3
            try clear c3b0
            try clear c4
            try clear c4b0
            try clear c6
            try clear c6b0
            try clear c6b1
            try clear p6
            try clear p11
            try clear q11
            try clear hx11
            try clear p12
            try clear q12
            try clear hx12
            try clear c13
            try clear c13b0
            try clear c13b1
            try clear c14
            try clear c14b0
            try clear c14b1
            try clear c17
            try clear c17b0
            try clear c18
            try clear c18b0
            try clear c19
            try clear c19b0
            try clear c24
            try clear c24b0
            try clear c26
            try clear c26b0
            try clear c27
            try clear c27b0
            try clear c28
            try clear c28b0
            try clear hcz11_0
            try clear hcz11_1
            try clear hcz22_0
            try clear hcz22_1
            try clear hcz8_0
            try clear hcz8_1
            try clear hfz11_0
            try clear hfz11_1
            try clear hfz22_0
            try clear hfz22_1
            try clear hfz8_0
            try clear hfz8_1
            try clear hx114_0
            try clear hx114_1
            try clear hx120_0
            try clear hx120_1
            try clear hx122_0
            try clear p1
            try clear p11
            try clear p114
            try clear p12
            try clear p120
            try clear p122
            try clear p2
            try clear p6
            try clear q1
            try clear q11
            try clear q114
            try clear q12
            try clear q120
            try clear q122
            obtain ⟨kq, x11_19, rfl, HA, HJ19, HO_7, HO_8, BK121, HB⟩ := hcut
            cases kq with
            | zero => exact absurd HA.out (by simp [labels_Make.j3])
            | succ kj19 =>
             have H := HA.out
             clear HA
             simp only [labels_Make.j3] at H
             by_cases c32 : x11_19 < (x8_2.length : Int)
             ·rw [if_pos c32] at H
              have c32b0 : decide (x11_19 < (x8_2.length : Int)) = true := decide_eq_true c32
              clear c32
              by_cases c33 : 0 ≤ x11_19
              ·rw [if_pos c33] at H
               have c33b0 : decide (0 ≤ x11_19) = true := decide_eq_true c33
               clear c33
               by_cases c34 : (rdOf ByteArray.empty x8_2 x11_19).toList = ((rd_T44 l0 x33_2).f0).toList
               ·rw [if_pos c34] at H
                have c34b0 : ((rdOf ByteArray.empty x8_2 x11_19).toList == ((rd_T44 l0 x33_2).f0).toList) = true := beq_iff_eq.mpr c34
                have c34b1 : ((rdOf ByteArray.empty x8_2 x11_19).toList != ((rd_T44 l0 x33_2).f0).toList) = false := bne_eq_false_iff_eq.mpr c34
                clear c34
                simp only [Option.some.injEq, Prod.mk.injEq] at H
                obtain ⟨rfl, rfl⟩ := H
                try go_wp2
                have n0_ := Aside0.mk (Kd.R_drew HO_7.out)
                have n1_ := Aside0.mk (Kd.R_drew HO_8.out)
                have n2_ := Aside0.mk (blk_drew BK121.out)
                have n3_ := Aside0.mk (below_drew1 HB.out)
                clear HO_7
                clear HO_8
                clear BK121
                clear HB
                have HO_7 := n0_
                have HO_8 := n1_
                have BK121 := n2_
                have HB := n3_
                clear n0_ n1_ n2_ n3_
                have p123 : 0 ≤ (x11_19 : Int) := of_decide_eq_true y3_
                have q123 : x11_19 < (x8_2.length : Int) := of_decide_eq_true y3_
                obtain ⟨ad123, e123, hx123_0⟩ := Kd.at_string (Kd.R_reads' HO_8.out).2.2 x11_19 p123 q123
                cases e123
                replace p123 := eq_true p123
                replace q123 := eq_true q123
                refine start_ (n := 13) (S := fun w' => w'.cell? ⟨gb121, 0, none⟩ = some (.string ((rd_T44 l0 x33_2).f0)) ∧ w'.cell? ⟨gb121, 1, none⟩ = some (.string ((rd_T44 l0 x33_2).f1)) ∧ w'.cell? (ad123.add (x11_19).toNat) = some (.string (rdOf ByteArray.empty x8_2 x11_19))) (ds := []) #[false, false, false, false, false, false, false, false, false, false, false, false, false] (by kernel_rfl) rfl rfl ⟨(blk_cell BK121.out 0).trans rfl, (blk_cell BK121.out 1).trans rfl, hx123_0⟩ (fun hHeld => ?_); refine with_tabW labels_Make.tab16 labels_Make.bits16 (fun HT_ HW_ => ?_)
                generalize wc.drew = w35 at HO_7 HO_8 BK121 HB hx123_0 hHeld ⊢
                refine pure_ (i := 0) (N := some 53) (v := ?_) (a' := ?_) #[true, false, false, false, false, false, false, false, false, false, false, false, false] rfl rfl (any_of HT_.out (by kernel_rfl)) (fun _ _ _ h => h) (Or.inl ⟨by rfl, ?_⟩) ?_ ?_
                rotate_left
                ·intro w'
                 go_simp
                 with_reducible rfl
                rotate_left
                ·simp only [Act.put, List.setIfInBounds_toArray, List.set_cons_zero, List.set_cons_succ, i64_w, i32_w]
                 rfl
                refine pure_ (i := 1) (N := some 54) (v := ?_) (a' := ?_) #[true, true, false, false, false, false, false, false, false, false, false, false, false] rfl rfl (any_of HT_.out (by kernel_rfl)) (fun _ _ _ h => h) (Or.inl ⟨by rfl, ?_⟩) ?_ ?_
                rotate_left
                ·intro w'
                 go_simp
                 with_reducible rfl
                rotate_left
                ·simp only [Act.put, List.setIfInBounds_toArray, List.set_cons_zero, List.set_cons_succ, i64_w, i32_w]
                 rfl
                refine pure_ (i := 2) (N := some 55) (v := ?_) (a' := ?_) #[true, true, true, false, false, false, false, false, false, false, false, false, false] rfl rfl (any_of HT_.out (by kernel_rfl)) (fun _ _ _ h => h) (Or.inl ⟨by rfl, ?_⟩) ?_ ?_
                rotate_left
                ·intro w'
                 go_simp
                 with_reducible rfl
                rotate_left
                ·simp only [Act.put, List.setIfInBounds_toArray, List.set_cons_zero, List.set_cons_succ, i64_w, i32_w]
                 rfl
                refine pure_ (i := 3) (N := some 56) (v := ?_) (a' := ?_) #[true, true, true, true, false, false, false, false, false, false, false, false, false] rfl rfl (any_of HT_.out (by kernel_rfl)) (fun _ _ _ h => h) (Or.inl ⟨by rfl, ?_⟩) ?_ ?_
                rotate_left
                ·intro w'
                 go_simp
                 with_reducible rfl
                rotate_left
                ·simp only [Act.put, List.setIfInBounds_toArray, List.set_cons_zero, List.set_cons_succ, i64_w, i32_w]
                 rfl
                refine pure_ (i := 4) (N := some 57) (v := ?_) (a' := ?_) #[true, true, true, true, true, false, false, false, false, false, false, false, false] rfl rfl (any_of HT_.out (by kernel_rfl)) (fun _ _ _ h => h) (Or.inl ⟨by rfl, ?_⟩) ?_ ?_
                rotate_left
                ·intro w'
                 go_simp
                 with_reducible rfl
                rotate_left
                ·simp only [Act.put, List.setIfInBounds_toArray, List.set_cons_zero, List.set_cons_succ, i64_w, i32_w]
                 rfl
                refine pure_ (i := 5) (N := some 58) (v := ?_) (a' := ?_) #[true, true, true, true, true, true, false, false, false, false, false, false, false] rfl rfl (any_of HT_.out (by kernel_rfl)) (fun _ _ _ h => h) (Or.inl ⟨by rfl, ?_⟩) ?_ ?_
                rotate_left
                ·intro w'
                 go_simp
                 with_reducible rfl
                rotate_left
                ·simp only [Act.put, List.setIfInBounds_toArray, List.set_cons_zero, List.set_cons_succ, i64_w, i32_w]
                 rfl
                refine pure_ (i := 6) (N := some 59) (v := ?_) (a' := ?_) #[true, true, true, true, true, true, true, false, false, false, false, false, false] rfl rfl (any_of HT_.out (by kernel_rfl)) (fun _ _ _ h => h) (Or.inl ⟨by rfl, ?_⟩) ?_ ?_
                rotate_left
                ·intro w'
                 go_simp
                 with_reducible rfl
                rotate_left
                ·simp only [Act.put, List.setIfInBounds_toArray, List.set_cons_zero, List.set_cons_succ, i64_w, i32_w]
                 rfl
                refine pure_ (i := 7) (N := some 60) (v := ?_) (a' := ?_) #[true, true, true, true, true, true, true, true, false, false, false, false, false] rfl rfl (any_of HT_.out (by kernel_rfl)) (fun _ _ _ h => h) (Or.inl ⟨by rfl, ?_⟩) ?_ ?_
                rotate_left
                ·intro w'
                 go_simp
                 with_reducible rfl
                rotate_left
                ·simp only [Act.put, List.setIfInBounds_toArray, List.set_cons_zero, List.set_cons_succ, i64_w, i32_w]
                 rfl
                refine pure_ (i := 9) (N := some 62) (v := ?_) (a' := ?_) #[true, true, true, true, true, true, true, true, false, true, false, false, false] rfl rfl (any_of HT_.out (by kernel_rfl)) (fun _ _ _ h => h) (Or.inl ⟨by rfl, ?_⟩) ?_ ?_
                rotate_left
                ·intro w'
                 go_simp
                 with_reducible rfl
                rotate_left
                ·simp only [Act.put, List.setIfInBounds_toArray, List.set_cons_zero, List.set_cons_succ, i64_w, i32_w]
                 rfl
                refine take_ (i := 8) (N := some 61) (v := ?_) (a' := ?_) #[true, true, true, true, true, true, true, true, true, true, false, false, false] rfl rfl (take_ofW HT_.out HW_.out (by kernel_rfl)) (fun _ _ _ h => h) (Or.inl ⟨by rfl, ?_⟩) hHeld ?_ ?_
                rotate_left
                ·rintro w' ⟨s0, s1, s2⟩
                 go_simp
                 with_reducible rfl
                rotate_left
                ·simp only [Act.put, List.setIfInBounds_toArray, List.set_cons_zero, List.set_cons_succ, i64_w, i32_w]
                 rfl
                refine take_ (i := 10) (N := some 63) (v := ?_) (a' := ?_) #[true, true, true, true, true, true, true, true, true, true, true, false, false] rfl rfl (take_ofW HT_.out HW_.out (by kernel_rfl)) (fun _ _ _ h => h) (Or.inl ⟨by rfl, ?_⟩) hHeld ?_ ?_
                rotate_left
                ·rintro w' ⟨s0, s1, s2⟩
                 go_simp
                 with_reducible rfl
                rotate_left
                ·simp only [Act.put, List.setIfInBounds_toArray, List.set_cons_zero, List.set_cons_succ, i64_w, i32_w]
                 rfl
                refine pure_ (i := 11) (N := some 64) (v := ?_) (a' := ?_) #[true, true, true, true, true, true, true, true, true, true, true, true, false] rfl rfl (any_of HT_.out (by kernel_rfl)) (fun _ _ _ h => h) (Or.inl ⟨by rfl, ?_⟩) ?_ ?_
                rotate_left
                ·intro w'
                 go_simp
                 with_reducible rfl
                rotate_left
                ·simp only [Act.put, List.setIfInBounds_toArray, List.set_cons_zero, List.set_cons_succ, i64_w, i32_w]
                 rfl
                refine pure_ (i := 12) (N := some 65) (v := ?_) (a' := ?_) #[true, true, true, true, true, true, true, true, true, true, true, true, true] rfl rfl (any_of HT_.out (by kernel_rfl)) (fun _ _ _ h => h) (Or.inl ⟨by rfl, ?_⟩) ?_ ?_
                rotate_left
                ·intro w'
                 go_simp
                 with_reducible rfl
                rotate_left
                ·simp only [Act.put, List.setIfInBounds_toArray, List.set_cons_zero, List.set_cons_succ, i64_w, i32_w]
                 rfl
                refine done_ (done_of HT_.out (by kernel_rfl)) ?_
                try go_wp2
                go_ret2
                exact ⟨_, y7_, y11_, y12_⟩
               ·rw [if_neg c34] at H
                have c34b0 : ((rdOf ByteArray.empty x8_2 x11_19).toList == ((rd_T44 l0 x33_2).f0).toList) = false := beq_eq_false_iff_ne.mpr c34
                have c34b1 : ((rdOf ByteArray.empty x8_2 x11_19).toList != ((rd_T44 l0 x33_2).f0).toList) = true := bne_iff_ne.mpr c34
                by_cases c36 : x8_2.length < 8796093022208
                ·rw [if_pos c36] at H
                 have LMc36 := Aside0.mk c36
                 clear c36
                 obtain ⟨y124, hy124⟩ : ∃ y_ : List ByteArray, y_ = (x8_2 ++ [(⟨#[]⟩ : ByteArray)]) := ⟨_, rfl⟩
                 replace H : (if 0 ≤ (wrap64 (x11_19 + 1)) then (if (wrap64 (x11_19 + 1)) ≤ (y124.length : Int) then (if x11_19 ≤ (y124.length : Int) then (if x11_19 < (y124.length : Int) then (labels_Make.l1 kj19 l0 y117 ((Kd.shift y124 (x11_19 : Int).toNat).set (x11_19 : Int).toNat ((rd_T44 l0 x33_2).f0)) l0 (l0.length : Int) (wrap64 (x33_2 + 1))) else (none)) else (none)) else (none)) else (none)) = some (r1, r2) := by first | (rw [hy124]; with_reducible exact H) | (have H2_ := (Option.bind_some _ _).symm.trans H; rw [hy124]; with_reducible exact H2_) | (have H2_ := (Option.bind_some _ _).symm.trans H; with_reducible exact H2_) | with_reducible exact H | (rw [hy124]; exact H) | exact H
                 have Ny124 := Aside0.mk hy124
                 clear hy124
                 obtain ⟨ji37, hji37⟩ : ∃ j_ : Int, (wrap64 (x11_19 + 1)) = j_ := ⟨_, rfl⟩
                 replace H : (if 0 ≤ (ji37) then (if (ji37) ≤ (y124.length : Int) then (if x11_19 ≤ (y124.length : Int) then (if x11_19 < (y124.length : Int) then (labels_Make.l1 kj19 l0 y117 ((Kd.shift y124 (x11_19 : Int).toNat).set (x11_19 : Int).toNat ((rd_T44 l0 x33_2).f0)) l0 (l0.length : Int) (wrap64 (x33_2 + 1))) else (none)) else (none)) else (none)) else (none)) = some (r1, r2) := by first | (rw [hji37] at H; exact H) | (simp only [hji37] at H ⊢; exact H)
                 have hji37w : (IntKind.i64.wrap (x11_19 + 1)) = ji37 := (i64_w _).trans hji37
                 by_cases c38 : 0 ≤ (ji37)
                 ·rw [if_pos c38] at H
                  have c38b0 := eq_true c38
                  have c38b1 : decide (0 ≤ (ji37)) = true := decide_eq_true c38
                  clear c38
                  by_cases c39 : (ji37) ≤ (y124.length : Int)
                  ·rw [if_pos c39] at H
                   have c39b0 := eq_true c39
                   have c39b1 : decide ((ji37) ≤ (y124.length : Int)) = true := decide_eq_true c39
                   clear c39
                   obtain ⟨y127, hy127⟩ : ∃ y_ : List ByteArray, y_ = (y124.drop ((ji37) : Int).toNat) := ⟨_, rfl⟩
                   replace H : (if x11_19 ≤ (y124.length : Int) then (if x11_19 < (y124.length : Int) then (labels_Make.l1 kj19 l0 y117 ((Kd.shift y124 (x11_19 : Int).toNat).set (x11_19 : Int).toNat ((rd_T44 l0 x33_2).f0)) l0 (l0.length : Int) (wrap64 (x33_2 + 1))) else (none)) else (none)) = some (r1, r2) := by first | (rw [hy127]; with_reducible exact H) | (have H2_ := (Option.bind_some _ _).symm.trans H; rw [hy127]; with_reducible exact H2_) | (have H2_ := (Option.bind_some _ _).symm.trans H; with_reducible exact H2_) | with_reducible exact H | (rw [hy127]; exact H) | exact H
                   have Ny127 := Aside0.mk hy127
                   clear hy127
                   have c40b0 := eq_true (of_decide_eq_true y3_ : 0 ≤ x11_19)
                   by_cases c41 : x11_19 ≤ (y124.length : Int)
                   ·rw [if_pos c41] at H
                    have c41b0 := eq_true c41
                    have c41b1 : decide (x11_19 ≤ (y124.length : Int)) = true := decide_eq_true c41
                    clear c41
                    obtain ⟨y131, hy131⟩ : ∃ y_ : List ByteArray, y_ = (y124.drop (x11_19 : Int).toNat) := ⟨_, rfl⟩
                    replace H : (if x11_19 < (y124.length : Int) then (labels_Make.l1 kj19 l0 y117 ((Kd.shift y124 (x11_19 : Int).toNat).set (x11_19 : Int).toNat ((rd_T44 l0 x33_2).f0)) l0 (l0.length : Int) (wrap64 (x33_2 + 1))) else (none)) = some (r1, r2) := by first | (rw [hy131]; with_reducible exact H) | (have H2_ := (Option.bind_some _ _).symm.trans H; rw [hy131]; with_reducible exact H2_) | (have H2_ := (Option.bind_some _ _).symm.trans H; with_reducible exact H2_) | with_reducible exact H | (rw [hy131]; exact H) | exact H
                    have Ny131 := Aside0.mk hy131
                    clear hy131
                    obtain ⟨y135, hy135⟩ : ∃ y_ : List ByteArray, y_ = (Kd.shift y124 (x11_19 : Int).toNat) := ⟨_, rfl⟩
                    replace H : (if x11_19 < (y124.length : Int) then (labels_Make.l1 kj19 l0 y117 (y135.set (x11_19 : Int).toNat ((rd_T44 l0 x33_2).f0)) l0 (l0.length : Int) (wrap64 (x33_2 + 1))) else (none)) = some (r1, r2) := by first | (rw [hy135]; with_reducible exact H) | (have H2_ := (Option.bind_some _ _).symm.trans H; rw [hy135]; with_reducible exact H2_) | (have H2_ := (Option.bind_some _ _).symm.trans H; with_reducible exact H2_) | with_reducible exact H | (rw [hy135]; exact H) | exact H
                    have Ny135 := Aside0.mk hy135
                    clear hy135
                    by_cases c42 : x11_19 < (y124.length : Int)
                    ·rw [if_pos c42] at H
                     have c42b0 : decide (x11_19 < (y124.length : Int)) = true := decide_eq_true c42
                     clear c42
                     obtain ⟨y136, hy136⟩ : ∃ y_ : List ByteArray, y_ = (y135.set (x11_19 : Int).toNat ((rd_T44 l0 x33_2).f0)) := ⟨_, rfl⟩
                     replace H : (labels_Make.l1 kj19 l0 y117 y136 l0 (l0.length : Int) (wrap64 (x33_2 + 1))) = some (r1, r2) := by first | (rw [hy136]; with_reducible exact H) | (have H2_ := (Option.bind_some _ _).symm.trans H; rw [hy136]; with_reducible exact H2_) | (have H2_ := (Option.bind_some _ _).symm.trans H; with_reducible exact H2_) | with_reducible exact H | (rw [hy136]; exact H) | exact H
                     have Ny136 := Aside0.mk hy136
                     clear hy136
                     have H' := Aside0.mk H
                     clear H
                     try go_wp2
                     have n0_ := Aside0.mk (Kd.R_drew HO_7.out)
                     have n1_ := Aside0.mk (Kd.R_drew HO_8.out)
                     have n2_ := Aside0.mk (blk_drew BK121.out)
                     have n3_ := Aside0.mk (below_drew1 HB.out)
                     clear HO_7
                     clear HO_8
                     clear BK121
                     clear HB
                     have HO_7 := n0_
                     have HO_8 := n1_
                     have BK121 := n2_
                     have HB := n3_
                     clear n0_ n1_ n2_ n3_
                     have p123 : 0 ≤ (x11_19 : Int) := of_decide_eq_true y3_
                     have q123 : x11_19 < (x8_2.length : Int) := of_decide_eq_true y3_
                     obtain ⟨ad123, e123, hx123_0⟩ := Kd.at_string (Kd.R_reads' HO_8.out).2.2 x11_19 p123 q123
                     cases e123
                     replace p123 := eq_true p123
                     replace q123 := eq_true q123
                     refine start_ (n := 13) (S := fun w' => w'.cell? ⟨gb121, 0, none⟩ = some (.string ((rd_T44 l0 x33_2).f0)) ∧ w'.cell? ⟨gb121, 1, none⟩ = some (.string ((rd_T44 l0 x33_2).f1)) ∧ w'.cell? (ad123.add (x11_19).toNat) = some (.string (rdOf ByteArray.empty x8_2 x11_19))) (ds := []) #[false, false, false, false, false, false, false, false, false, false, false, false, false] (by kernel_rfl) rfl rfl ⟨(blk_cell BK121.out 0).trans rfl, (blk_cell BK121.out 1).trans rfl, hx123_0⟩ (fun hHeld => ?_); refine with_tabW labels_Make.tab16 labels_Make.bits16 (fun HT_ HW_ => ?_)
                     generalize wc.drew = w44 at HO_7 HO_8 BK121 HB hx123_0 hHeld ⊢
                     refine pure_ (i := 0) (N := some 53) (v := ?_) (a' := ?_) #[true, false, false, false, false, false, false, false, false, false, false, false, false] rfl rfl (any_of HT_.out (by kernel_rfl)) (fun _ _ _ h => h) (Or.inl ⟨by rfl, ?_⟩) ?_ ?_
                     rotate_left
                     ·intro w'
                      go_simp
                      with_reducible rfl
                     rotate_left
                     ·simp only [Act.put, List.setIfInBounds_toArray, List.set_cons_zero, List.set_cons_succ, i64_w, i32_w]
                      rfl
                     refine pure_ (i := 1) (N := some 54) (v := ?_) (a' := ?_) #[true, true, false, false, false, false, false, false, false, false, false, false, false] rfl rfl (any_of HT_.out (by kernel_rfl)) (fun _ _ _ h => h) (Or.inl ⟨by rfl, ?_⟩) ?_ ?_
                     rotate_left
                     ·intro w'
                      go_simp
                      with_reducible rfl
                     rotate_left
                     ·simp only [Act.put, List.setIfInBounds_toArray, List.set_cons_zero, List.set_cons_succ, i64_w, i32_w]
                      rfl
                     refine pure_ (i := 2) (N := some 55) (v := ?_) (a' := ?_) #[true, true, true, false, false, false, false, false, false, false, false, false, false] rfl rfl (any_of HT_.out (by kernel_rfl)) (fun _ _ _ h => h) (Or.inl ⟨by rfl, ?_⟩) ?_ ?_
                     rotate_left
                     ·intro w'
                      go_simp
                      with_reducible rfl
                     rotate_left
                     ·simp only [Act.put, List.setIfInBounds_toArray, List.set_cons_zero, List.set_cons_succ, i64_w, i32_w]
                      rfl
                     refine pure_ (i := 3) (N := some 56) (v := ?_) (a' := ?_) #[true, true, true, true, false, false, false, false, false, false, false, false, false] rfl rfl (any_of HT_.out (by kernel_rfl)) (fun _ _ _ h => h) (Or.inl ⟨by rfl, ?_⟩) ?_ ?_
                     rotate_left
                     ·intro w'
                      go_simp
                      with_reducible rfl
                     rotate_left
                     ·simp only [Act.put, List.setIfInBounds_toArray, List.set_cons_zero, List.set_cons_succ, i64_w, i32_w]
                      rfl
                     refine pure_ (i := 4) (N := some 57) (v := ?_) (a' := ?_) #[true, true, true, true, true, false, false, false, false, false, false, false, false] rfl rfl (any_of HT_.out (by kernel_rfl)) (fun _ _ _ h => h) (Or.inl ⟨by rfl, ?_⟩) ?_ ?_
                     rotate_left
                     ·intro w'
                      go_simp
                      with_reducible rfl
                     rotate_left
                     ·simp only [Act.put, List.setIfInBounds_toArray, List.set_cons_zero, List.set_cons_succ, i64_w, i32_w]
                      rfl
                     refine pure_ (i := 5) (N := some 58) (v := ?_) (a' := ?_) #[true, true, true, true, true, true, false, false, false, false, false, false, false] rfl rfl (any_of HT_.out (by kernel_rfl)) (fun _ _ _ h => h) (Or.inl ⟨by rfl, ?_⟩) ?_ ?_
                     rotate_left
                     ·intro w'
                      go_simp
                      with_reducible rfl
                     rotate_left
                     ·simp only [Act.put, List.setIfInBounds_toArray, List.set_cons_zero, List.set_cons_succ, i64_w, i32_w]
                      rfl
                     refine pure_ (i := 6) (N := some 59) (v := ?_) (a' := ?_) #[true, true, true, true, true, true, true, false, false, false, false, false, false] rfl rfl (any_of HT_.out (by kernel_rfl)) (fun _ _ _ h => h) (Or.inl ⟨by rfl, ?_⟩) ?_ ?_
                     rotate_left
                     ·intro w'
                      go_simp
                      with_reducible rfl
                     rotate_left
                     ·simp only [Act.put, List.setIfInBounds_toArray, List.set_cons_zero, List.set_cons_succ, i64_w, i32_w]
                      rfl
                     refine pure_ (i := 7) (N := some 60) (v := ?_) (a' := ?_) #[true, true, true, true, true, true, true, true, false, false, false, false, false] rfl rfl (any_of HT_.out (by kernel_rfl)) (fun _ _ _ h => h) (Or.inl ⟨by rfl, ?_⟩) ?_ ?_
                     rotate_left
                     ·intro w'
                      go_simp
                      with_reducible rfl
                     rotate_left
                     ·simp only [Act.put, List.setIfInBounds_toArray, List.set_cons_zero, List.set_cons_succ, i64_w, i32_w]
                      rfl
                     refine pure_ (i := 9) (N := some 62) (v := ?_) (a' := ?_) #[true, true, true, true, true, true, true, true, false, true, false, false, false] rfl rfl (any_of HT_.out (by kernel_rfl)) (fun _ _ _ h => h) (Or.inl ⟨by rfl, ?_⟩) ?_ ?_
                     rotate_left
                     ·intro w'
                      go_simp
                      with_reducible rfl
                     rotate_left
                     ·simp only [Act.put, List.setIfInBounds_toArray, List.set_cons_zero, List.set_cons_succ, i64_w, i32_w]
                      rfl
                     refine take_ (i := 8) (N := some 61) (v := ?_) (a' := ?_) #[true, true, true, true, true, true, true, true, true, true, false, false, false] rfl rfl (take_ofW HT_.out HW_.out (by kernel_rfl)) (fun _ _ _ h => h) (Or.inl ⟨by rfl, ?_⟩) hHeld ?_ ?_
                     rotate_left
                     ·rintro w' ⟨s0, s1, s2⟩
                      go_simp
                      with_reducible rfl
                     rotate_left
                     ·simp only [Act.put, List.setIfInBounds_toArray, List.set_cons_zero, List.set_cons_succ, i64_w, i32_w]
                      rfl
                     refine take_ (i := 10) (N := some 63) (v := ?_) (a' := ?_) #[true, true, true, true, true, true, true, true, true, true, true, false, false] rfl rfl (take_ofW HT_.out HW_.out (by kernel_rfl)) (fun _ _ _ h => h) (Or.inl ⟨by rfl, ?_⟩) hHeld ?_ ?_
                     rotate_left
                     ·rintro w' ⟨s0, s1, s2⟩
                      go_simp
                      with_reducible rfl
                     rotate_left
                     ·simp only [Act.put, List.setIfInBounds_toArray, List.set_cons_zero, List.set_cons_succ, i64_w, i32_w]
                      rfl
                     refine pure_ (i := 11) (N := some 64) (v := ?_) (a' := ?_) #[true, true, true, true, true, true, true, true, true, true, true, true, false] rfl rfl (any_of HT_.out (by kernel_rfl)) (fun _ _ _ h => h) (Or.inl ⟨by rfl, ?_⟩) ?_ ?_
                     rotate_left
                     ·intro w'
                      go_simp
                      with_reducible rfl
                     rotate_left
                     ·simp only [Act.put, List.setIfInBounds_toArray, List.set_cons_zero, List.set_cons_succ, i64_w, i32_w]
                      rfl
                     refine pure_ (i := 12) (N := some 65) (v := ?_) (a' := ?_) #[true, true, true, true, true, true, true, true, true, true, true, true, true] rfl rfl (any_of HT_.out (by kernel_rfl)) (fun _ _ _ h => h) (Or.inl ⟨by rfl, ?_⟩) ?_ ?_
                     rotate_left
                     ·intro w'
                      go_simp
                      with_reducible rfl
                     rotate_left
                     ·simp only [Act.put, List.setIfInBounds_toArray, List.set_cons_zero, List.set_cons_succ, i64_w, i32_w]
                      rfl
                     refine done_ (done_of HT_.out (by kernel_rfl)) ?_
                     try go_wp2_with (first | ((with_reducible refine gate_builtin (b := .append) (xs := #[.tmp 66, .tmp 67]) rfl ?_); at_builtin; refine Kd.R_append Kd.string (w0 := w) w.heap.size rfl (.tmp 66) (.tmp 67) 42 9 (.string ⟨#[]⟩) 16 rfl Tryd.underlying42 info9 rfl (by decide) (by omega) (.slice (some ad123) x8_2.length co23) x8_2 (⟨#[]⟩ : ByteArray) [.string (⟨#[]⟩ : ByteArray)] (fun _ => True) (fun _ => False) rfl rfl ?aP (fun _ hk => hk.elim) ?aF ?aO ?aB ?aS ?aL ?_; (case aP => exact rfl); (case aB => exact y12_); (case aF => exact (fun _ _ => trivial)); (case aO => exact y14_); (case aS => exact (below_size y12_)); (case aL => have := LMc36.out; omega); intro v125 w45 ho hb hg hat; rw [← Ny124.out] at ho; have n0_ := Aside0.mk (Kd.R_over' y17_ (Kd.R_typed y14_) (by decide) hg); have n1_ := Aside0.mk (blk_grown (g := gb121) (o := .cells #[.string ((rd_T44 l0 x33_2).f0), .string ((rd_T44 l0 x33_2).f1)] 44 (0, 0)) y28_ hg (Kd.R_ne HO_8.out BK121.out (by decide))); have n2_ := Aside0.mk (hb); have n3_ := Aside0.mk (ho); clear HO_7; clear BK121; clear HB; clear HO_8; have HO_7 := n0_; have BK121 := n1_; have HB := n2_; have HO126 := n3_; clear n0_ n1_ n2_ n3_; clear ho hb hg hat))
                     have n0_ := Aside0.mk (Kd.R_drew HO_7.out)
                     have n1_ := Aside0.mk (Kd.R_drew HO126.out)
                     have n2_ := Aside0.mk (blk_drew BK121.out)
                     have n3_ := Aside0.mk (below_drew1 HB.out)
                     clear HO_7
                     clear HO126
                     clear BK121
                     clear HB
                     have HO_7 := n0_
                     have HO126 := n1_
                     have BK121 := n2_
                     have HB := n3_
                     clear n0_ n1_ n2_ n3_
                     obtain ⟨Ao48, co48, eo48⟩ := Kd.R_slice HO126.out
                     (first | subst eo48 | (injection eo48 with f1_ f2_ f3_; have f4_ := f1_.symm; have f5_ := f3_.symm; clear f1_ f2_ f3_; subst f4_; subst f5_))
                     have q47 : ((ji37) : Int) ≤ ((y124.length : Int) : Int) := of_decide_eq_true y3_
                     obtain ⟨i047, hi047, _, hsz47, _⟩ := info_parts info9
                     have hroom47 : y124.length ≤ co48 := (Kd.R_reads' HO126.out).2.1
                     have hC47 : Kd.C Kd.string _ Ao48 y124.length y124 := (Kd.R_reads' HO126.out).2.2
                     have q047 : (0 : Int) ≤ ((ji37) : Int) := of_decide_eq_true y3_
                     have hcut47 := cut_from (P := Tryd.prog) 42 9 .i64 Tryd.underlying42 hi047 1 hsz47 Ao48 y124.length co48 (ji37) q047 q47
                     have hr47 := Kd.C_drop (m := ((ji37) : Int).toNat) (c := co48) hC47 (by omega) hroom47
                     obtain ⟨A47, hA47⟩ : ∃ A1, A1 = (if co48 = ((ji37) : Int).toNat then Ao48 else (Ao48 : Option Addr).map (·.add (((ji37) : Int).toNat * 1))) := ⟨_, rfl⟩
                     obtain ⟨c47, hc47⟩ : ∃ c1, c1 = co48 - ((ji37) : Int).toNat := ⟨_, rfl⟩
                     have hy47 : y127.length = y124.length - ((ji37) : Int).toNat := (by rw [Ny127.out, List.length_drop] <;> omega)
                     rw [show (y124).drop ((ji37) : Int).toNat = y127 from Ny127.out.symm] at hr47
                     replace hr47 : Kd.C Kd.string _ A47 y127.length y127 := (by rw [hA47]; exact hr47)
                     rw [← hy47, ← hA47, ← hc47] at hcut47
                     have HR130 := Aside0.mk hr47
                     have HC130 := Aside0.mk (show y127.length ≤ c47 from by rw [hy47, hc47]; exact Nat.sub_le_sub_right hroom47 _)
                     clear hr47 hC47 hroom47 hi047 hsz47 hc47
                     have KY47 := Aside0.mk hy47
                     have KA47 := Aside0.mk hA47
                     clear hy47 hA47
                     have KL47 := Aside0.mk (show ((ji37) : Int).toNat ≤ y124.length from by omega)
                     replace q47 := eq_true q47
                     have q49 : (x11_19 : Int) ≤ ((y124.length : Int) : Int) := of_decide_eq_true y3_
                     obtain ⟨i049, hi049, _, hsz49, _⟩ := info_parts info9
                     have hroom49 : y124.length ≤ co48 := (Kd.R_reads' HO126.out).2.1
                     have hC49 : Kd.C Kd.string _ Ao48 y124.length y124 := (Kd.R_reads' HO126.out).2.2
                     have q049 : (0 : Int) ≤ (x11_19 : Int) := of_decide_eq_true y3_
                     have hcut49 := cut_from (P := Tryd.prog) 42 9 .i64 Tryd.underlying42 hi049 1 hsz49 Ao48 y124.length co48 x11_19 q049 q49
                     have hr49 := Kd.C_drop (m := (x11_19 : Int).toNat) (c := co48) hC49 (by omega) hroom49
                     obtain ⟨A49, hA49⟩ : ∃ A1, A1 = (if co48 = (x11_19 : Int).toNat then Ao48 else (Ao48 : Option Addr).map (·.add ((x11_19 : Int).toNat * 1))) := ⟨_, rfl⟩
                     obtain ⟨c49, hc49⟩ : ∃ c1, c1 = co48 - (x11_19 : Int).toNat := ⟨_, rfl⟩
                     have hy49 : y131.length = y124.length - (x11_19 : Int).toNat := (by rw [Ny131.out, List.length_drop] <;> omega)
                     rw [show (y124).drop (x11_19 : Int).toNat = y131 from Ny131.out.symm] at hr49
                     replace hr49 : Kd.C Kd.string _ A49 y131.length y131 := (by rw [hA49]; exact hr49)
                     rw [← hy49, ← hA49, ← hc49] at hcut49
                     have HR134 := Aside0.mk hr49
                     have HC134 := Aside0.mk (show y131.length ≤ c49 from by rw [hy49, hc49]; exact Nat.sub_le_sub_right hroom49 _)
                     clear hr49 hC49 hroom49 hi049 hsz49 hc49
                     have KY49 := Aside0.mk hy49
                     have KA49 := Aside0.mk hA49
                     clear hy49 hA49
                     have KL49 := Aside0.mk (show (x11_19 : Int).toNat ≤ y124.length from by omega)
                     replace q49 := eq_true q49
                     obtain ⟨go51, co51, eo51, gb51, gl51, cl51, HG51⟩ := Kd.R_form HO126.out (by have hj_ : 0 ≤ (x11_19 : Int) := of_decide_eq_true y3_; have hl_ : (ji37 : Int) ≤ (y124.length : Int) := of_decide_eq_true y3_; have hh_ : (x11_19 : Int) ≤ (y124.length : Int) := of_decide_eq_true y3_; rw [← hji37] at hl_; unfold wrap64 at hl_; omega)
                     (first | cases eo51 | (injection eo51 with ea_ en_ ec_; (first | subst ea_ | (injection ea_ with ea_; subst ea_)); subst ec_; clear en_))
                     have GB51 := Aside0.mk gb51
                     have GG51 := Aside0.mk HG51
                     clear gb51 gl51 HG51
                     refine start_ (n := 8) (S := fun w' => True) (ds := []) #[false, false, false, false, false, false, false, false] (by kernel_rfl) rfl rfl trivial (fun hHeld => ?_); refine with_tabW labels_Make.tab19 labels_Make.bits19 (fun HT_ HW_ => ?_)
                     generalize w45.drew = w46 at HO_7 HO126 BK121 HB GG51 HR130 HR134 hHeld ⊢
                     refine pure_ (i := 0) (N := some 69) (v := ?_) (a' := ?_) #[true, false, false, false, false, false, false, false] rfl rfl (any_of HT_.out (by kernel_rfl)) (fun _ _ _ h => h) (Or.inl ⟨by rfl, ?_⟩) ?_ ?_
                     rotate_left
                     ·intro w'
                      go_simp
                      with_reducible rfl
                     rotate_left
                     ·simp only [Act.put, List.setIfInBounds_toArray, List.set_cons_zero, List.set_cons_succ, i64_w, i32_w]
                      rfl
                     refine pure_ (i := 1) (N := some 70) (v := ?_) (a' := ?_) #[true, true, false, false, false, false, false, false] rfl rfl (any_of HT_.out (by kernel_rfl)) (fun _ _ _ h => h) (Or.inl ⟨by rfl, ?_⟩) ?_ ?_
                     rotate_left
                     ·intro w'
                      go_simp
                      with_reducible rfl
                     rotate_left
                     ·simp only [Act.put, List.setIfInBounds_toArray, List.set_cons_zero, List.set_cons_succ, i64_w, i32_w]
                      rfl
                     refine pure_ (i := 2) (N := some 71) (v := ?_) (a' := ?_) #[true, true, true, false, false, false, false, false] rfl rfl (any_of HT_.out (by kernel_rfl)) (fun _ _ _ h => h) (Or.inl ⟨by rfl, ?_⟩) ?_ ?_
                     rotate_left
                     ·intro w'
                      go_simp
                      with_reducible rfl
                     rotate_left
                     ·simp only [Act.put, List.setIfInBounds_toArray, List.set_cons_zero, List.set_cons_succ, i64_w, i32_w]
                      rfl
                     refine pure_ (i := 3) (N := some 72) (v := ?_) (a' := ?_) #[true, true, true, true, false, false, false, false] rfl rfl (any_of HT_.out (by kernel_rfl)) (fun _ _ _ h => h) (Or.inl ⟨by rfl, ?_⟩) ?_ ?_
                     rotate_left
                     ·intro w'
                      go_simp
                      with_reducible rfl
                     rotate_left
                     ·simp only [Act.put, List.setIfInBounds_toArray, List.set_cons_zero, List.set_cons_succ, i64_w, i32_w]
                      rfl
                     refine pure_ (i := 4) (N := some 73) (v := ?_) (a' := ?_) #[true, true, true, true, true, false, false, false] rfl rfl (any_of HT_.out (by kernel_rfl)) (fun _ _ _ h => h) (Or.inl ⟨by rfl, ?_⟩) ?_ ?_
                     rotate_left
                     ·intro w'
                      go_simp
                      with_reducible rfl
                     rotate_left
                     ·simp only [Act.put, List.setIfInBounds_toArray, List.set_cons_zero, List.set_cons_succ, i64_w, i32_w]
                      rfl
                     refine pure_ (i := 5) (N := some 74) (v := ?_) (a' := ?_) #[true, true, true, true, true, true, false, false] rfl rfl (any_of HT_.out (by kernel_rfl)) (fun _ _ _ h => h) (Or.inl ⟨by rfl, ?_⟩) ?_ ?_
                     rotate_left
                     ·intro w'
                      go_simp
                      with_reducible rfl
                     rotate_left
                     ·simp only [Act.put, List.setIfInBounds_toArray, List.set_cons_zero, List.set_cons_succ, i64_w, i32_w]
                      rfl
                     refine pure_ (i := 6) (N := some 75) (v := ?_) (a' := ?_) #[true, true, true, true, true, true, true, false] rfl rfl (any_of HT_.out (by kernel_rfl)) (fun _ _ _ h => h) (Or.inl ⟨by rfl, ?_⟩) ?_ ?_
                     rotate_left
                     ·intro w'
                      go_simp
                      with_reducible rfl
                     rotate_left
                     ·simp only [Act.put, List.setIfInBounds_toArray, List.set_cons_zero, List.set_cons_succ, i64_w, i32_w]
                      rfl
                     refine one_ (i := 7) (N := some 76) #[true, true, true, true, true, true, true, true] rfl rfl (one_of HT_.out (by kernel_rfl)) (by decide) (fun K hK => ?_)
                     have hj_ : 0 ≤ (x11_19 : Int) := of_decide_eq_true y3_
                     have hl_ : (ji37 : Int) ≤ (y124.length : Int) := of_decide_eq_true y3_
                     have hh_ : (x11_19 : Int) ≤ (y124.length : Int) := of_decide_eq_true y3_
                     have hb_ := (Kd.R_reads' HO126.out).2.2.2.1
                     have h0_ : (0 : Int) ≤ (ji37 : Int) := of_decide_eq_true y3_
                     have hk_ : (ji37 : Int).toNat = (x11_19 : Int).toNat + 1 := (by have hw_ : (ji37 : Int) = x11_19 + 1 := (by have h00_ := h0_; rw [← hji37] at h00_ ⊢; unfold wrap64 at h00_ ⊢; omega); rw [hw_]; omega)
                     refine Kd.R_copysh_step Kd.string rfl (w0 := w) w.heap.size (by rfl) (.tmp 72) (.tmp 75) 42 9 rfl Tryd.underlying42 (by kernel_rfl) (g := go51) (n := y124.length) (c := co48) (k := (x11_19 : Int).toNat) rfl rfl ?hA1 ?hA ?hm1 ?hm (by (with_reducible repeat (first | apply Kd.R_alloc | apply Kd.R_drewN | apply Kd.R_drew)); exact HO126.out) ?hk y12_ (below_size y12_) ?_
                     (case hA1 => have ha_ := KA47.out; rw [hk_] at ha_; exact ha_)
                     (case hA => have ha_ := KA49.out; exact ha_)
                     (case hm1 => have ha_ := KY47.out; omega)
                     (case hm => have ha_ := KY49.out; omega)
                     (case hk => omega)
                     intro w50 ho hb hg
                     clear hj_ hl_ hh_ hb_ hk_ h0_
                     rw [← Ny135.out] at ho
                     have n0_ := Aside0.mk (Kd.R_over' (v := (.slice (some ⟨go51, 0, none⟩) y124.length co48)) y17_ (Kd.R_typed HO126.out) (by decide) hg)
                     have n1_ := Aside0.mk (blk_grown (g := gb121) (o := .cells #[.string ((rd_T44 l0 x33_2).f0), .string ((rd_T44 l0 x33_2).f1)] 44 (0, 0)) y28_ hg (Kd.R_ne HO126.out BK121.out (by decide)))
                     have n2_ := Aside0.mk (ho)
                     have n3_ := Aside0.mk (hb)
                     clear HO_7
                     clear BK121
                     clear HO126
                     clear HB
                     have HO_7 := n0_
                     have BK121 := n1_
                     have HO126 := n2_
                     have HB := n3_
                     clear n0_ n1_ n2_ n3_
                     clear ho hb hg
                     refine hK.out _ _ trivial (fun hHeld => ?_)
                     clear hK K
                     refine norm_ (a' := ?_) ?_ ?_
                     rotate_left
                     ·show Act.put _ (some 76) _ = _
                      simp only [Act.put, List.setIfInBounds_toArray, List.set_cons_zero, List.set_cons_succ, i64_w, i32_w]
                      rfl
                     refine done_ (done_of HT_.out (by kernel_rfl)) ?_
                     have hcz52_0 : w50.cell? ⟨gb121, 0, none⟩ = some (.string ((rd_T44 l0 x33_2).f0)) := (blk_cell BK121.out 0).trans rfl
                     have hcz52_1 : w50.cell? ⟨gb121, 1, none⟩ = some (.string ((rd_T44 l0 x33_2).f1)) := (blk_cell BK121.out 1).trans rfl
                     have hfz52_0 := blk_frozen BK121.out 0
                     have hfz52_1 := blk_frozen BK121.out 1
                     have p43 : 0 ≤ (x11_19 : Int) := of_decide_eq_true y3_
                     have q43 : (x11_19 : Int) < ((y124.length : Int) : Int) := of_decide_eq_true y3_
                     obtain ⟨hx43_0, hf43_0⟩ := Kd.R_celln (⟨#[]⟩ : ByteArray) HO126.out (x11_19 : Int) p43 q43
                     replace p43 := eq_true p43
                     replace q43 := eq_true q43
                     obtain ⟨hy53_, hz53_⟩ := Kd.R_celln (⟨#[]⟩ : ByteArray) HO126.out (x11_19 : Int) (of_decide_eq_true y3_) (of_decide_eq_true y3_)
                     have HP53 := Kd.R_putg HO126.out (x11_19 : Int) ((rd_T44 l0 x33_2).f0)
                     try go_wp2_with (first | ((with_reducible refine gate_store (t := 9) (p := 81) rfl ?_); refine store_event (t := 9) (p := 81) (v := ?vo_w54) (w1 := (w50.setCell ⟨go51, (x11_19 : Int).toNat, none⟩ (.string ((rd_T44 l0 x33_2).f0)))) ?hg ?ho ?hn ?hr ?_; (case ho => rfl); (case hg => rfl); (case hn => rfl); (case hr => first | (go_simp; done) | (go_simp; rfl)); intro w54 hw; have hg : w50.grownBy w54 (some go51) := (by rw [hw]; exact HP53.2); have hp_ : Kd.R Kd.string 9 w54 w.heap.size (fun _ => True) (.slice (some ⟨go51, 0, none⟩) y124.length co48) y136 := (by rw [hw, Ny136.out]; exact HP53.1); clear HP53; have n0_ := Aside0.mk (Kd.R_over' (v := (.slice (some ⟨go51, 0, none⟩) y124.length co48)) y17_ (Kd.R_typed HO126.out) (by decide) hg); have n1_ := Aside0.mk (blk_grown (g := gb121) (o := .cells #[.string ((rd_T44 l0 x33_2).f0), .string ((rd_T44 l0 x33_2).f1)] 44 (0, 0)) y28_ hg (Kd.R_ne HO126.out BK121.out (by decide))); have n2_ := Aside0.mk (hp_); have n3_ := Aside0.mk ((by rw [hw]; exact below_set (HB.out) GB51.out : Below w.heap.size w w54)); clear HO_7; clear BK121; clear HO126; clear HB; have HO_7 := n0_; have BK121 := n1_; have HO126 := n2_; have HB := n3_; clear n0_ n1_ n2_ n3_; clear hg hw hp_))
                     go_roundg kj19
                     case measure => have := HK1.out; have := HK2.out; have := HJ19.out; omega
                     case rel => exact ⟨(y136), (wrap64 (x33_2 + 1)), y6_, H', ⟨by have := HK1.out; have := HK2.out; have := HJ19.out; omega⟩, ⟨by (with_reducible repeat (first | apply Kd.R_alloc | apply Kd.R_drewN | apply Kd.R_drew)); exact Kd.R_mono HO_7.out (fun _ hk => trivial)⟩, ⟨by (with_reducible repeat (first | apply Kd.R_alloc | apply Kd.R_drewN | apply Kd.R_drew)); exact HO126.out⟩, ⟨y12_⟩⟩
                    ·rw [if_neg c42] at H
                     exact absurd H (by simp)
                   ·rw [if_neg c41] at H
                    exact absurd H (by simp)
                  ·rw [if_neg c39] at H
                   exact absurd H (by simp)
                 ·rw [if_neg c38] at H
                  exact absurd H (by simp)
                ·rw [if_neg c36] at H
                 exact absurd H (by simp)
              ·rw [if_neg c33] at H
               exact absurd H (by simp)
             ·rw [if_neg c32] at H
              have c32b0 : decide (x11_19 < (x8_2.length : Int)) = false := decide_eq_false c32
              clear c32
              by_cases c55 : x8_2.length < 8796093022208
              ·rw [if_pos c55] at H
               have LMc55 := Aside0.mk c55
               clear c55
               obtain ⟨y137, hy137⟩ : ∃ y_ : List ByteArray, y_ = (x8_2 ++ [(⟨#[]⟩ : ByteArray)]) := ⟨_, rfl⟩
               replace H : (if 0 ≤ (wrap64 (x11_19 + 1)) then (if (wrap64 (x11_19 + 1)) ≤ (y137.length : Int) then (if 0 ≤ x11_19 then (if x11_19 ≤ (y137.length : Int) then (if x11_19 < (y137.length : Int) then (labels_Make.l1 kj19 l0 y117 ((Kd.shift y137 (x11_19 : Int).toNat).set (x11_19 : Int).toNat ((rd_T44 l0 x33_2).f0)) l0 (l0.length : Int) (wrap64 (x33_2 + 1))) else (none)) else (none)) else (none)) else (none)) else (none)) = some (r1, r2) := by first | (rw [hy137]; with_reducible exact H) | (have H2_ := (Option.bind_some _ _).symm.trans H; rw [hy137]; with_reducible exact H2_) | (have H2_ := (Option.bind_some _ _).symm.trans H; with_reducible exact H2_) | with_reducible exact H | (rw [hy137]; exact H) | exact H
               have Ny137 := Aside0.mk hy137
               clear hy137
               obtain ⟨ji56, hji56⟩ : ∃ j_ : Int, (wrap64 (x11_19 + 1)) = j_ := ⟨_, rfl⟩
               replace H : (if 0 ≤ (ji56) then (if (ji56) ≤ (y137.length : Int) then (if 0 ≤ x11_19 then (if x11_19 ≤ (y137.length : Int) then (if x11_19 < (y137.length : Int) then (labels_Make.l1 kj19 l0 y117 ((Kd.shift y137 (x11_19 : Int).toNat).set (x11_19 : Int).toNat ((rd_T44 l0 x33_2).f0)) l0 (l0.length : Int) (wrap64 (x33_2 + 1))) else (none)) else (none)) else (none)) else (none)) else (none)) = some (r1, r2) := by first | (rw [hji56] at H; exact H) | (simp only [hji56] at H ⊢; exact H)
               have hji56w : (IntKind.i64.wrap (x11_19 + 1)) = ji56 := (i64_w _).trans hji56
               by_cases c57 : 0 ≤ (ji56)
               ·rw [if_pos c57] at H
                have c57b0 := eq_true c57
                have c57b1 : decide (0 ≤ (ji56)) = true := decide_eq_true c57
                clear c57
                by_cases c58 : (ji56) ≤ (y137.length : Int)
                ·rw [if_pos c58] at H
                 have c58b0 := eq_true c58
                 have c58b1 : decide ((ji56) ≤ (y137.length : Int)) = true := decide_eq_true c58
                 clear c58
                 obtain ⟨y140, hy140⟩ : ∃ y_ : List ByteArray, y_ = (y137.drop ((ji56) : Int).toNat) := ⟨_, rfl⟩
                 replace H : (if 0 ≤ x11_19 then (if x11_19 ≤ (y137.length : Int) then (if x11_19 < (y137.length : Int) then (labels_Make.l1 kj19 l0 y117 ((Kd.shift y137 (x11_19 : Int).toNat).set (x11_19 : Int).toNat ((rd_T44 l0 x33_2).f0)) l0 (l0.length : Int) (wrap64 (x33_2 + 1))) else (none)) else (none)) else (none)) = some (r1, r2) := by first | (rw [hy140]; with_reducible exact H) | (have H2_ := (Option.bind_some _ _).symm.trans H; rw [hy140]; with_reducible exact H2_) | (have H2_ := (Option.bind_some _ _).symm.trans H; with_reducible exact H2_) | with_reducible exact H | (rw [hy140]; exact H) | exact H
                 have Ny140 := Aside0.mk hy140
                 clear hy140
                 by_cases c59 : 0 ≤ x11_19
                 ·rw [if_pos c59] at H
                  have c59b0 := eq_true c59
                  have c59b1 : decide (0 ≤ x11_19) = true := decide_eq_true c59
                  clear c59
                  by_cases c60 : x11_19 ≤ (y137.length : Int)
                  ·rw [if_pos c60] at H
                   have c60b0 := eq_true c60
                   have c60b1 : decide (x11_19 ≤ (y137.length : Int)) = true := decide_eq_true c60
                   clear c60
                   obtain ⟨y144, hy144⟩ : ∃ y_ : List ByteArray, y_ = (y137.drop (x11_19 : Int).toNat) := ⟨_, rfl⟩
                   replace H : (if x11_19 < (y137.length : Int) then (labels_Make.l1 kj19 l0 y117 ((Kd.shift y137 (x11_19 : Int).toNat).set (x11_19 : Int).toNat ((rd_T44 l0 x33_2).f0)) l0 (l0.length : Int) (wrap64 (x33_2 + 1))) else (none)) = some (r1, r2) := by first | (rw [hy144]; with_reducible exact H) | (have H2_ := (Option.bind_some _ _).symm.trans H; rw [hy144]; with_reducible exact H2_) | (have H2_ := (Option.bind_some _ _).symm.trans H; with_reducible exact H2_) | with_reducible exact H | (rw [hy144]; exact H) | exact H
                   have Ny144 := Aside0.mk hy144
                   clear hy144
                   obtain ⟨y148, hy148⟩ : ∃ y_ : List ByteArray, y_ = (Kd.shift y137 (x11_19 : Int).toNat) := ⟨_, rfl⟩
                   replace H : (if x11_19 < (y137.length : Int) then (labels_Make.l1 kj19 l0 y117 (y148.set (x11_19 : Int).toNat ((rd_T44 l0 x33_2).f0)) l0 (l0.length : Int) (wrap64 (x33_2 + 1))) else (none)) = some (r1, r2) := by first | (rw [hy148]; with_reducible exact H) | (have H2_ := (Option.bind_some _ _).symm.trans H; rw [hy148]; with_reducible exact H2_) | (have H2_ := (Option.bind_some _ _).symm.trans H; with_reducible exact H2_) | with_reducible exact H | (rw [hy148]; exact H) | exact H
                   have Ny148 := Aside0.mk hy148
                   clear hy148
                   by_cases c61 : x11_19 < (y137.length : Int)
                   ·rw [if_pos c61] at H
                    have c61b0 : decide (x11_19 < (y137.length : Int)) = true := decide_eq_true c61
                    clear c61
                    obtain ⟨y149, hy149⟩ : ∃ y_ : List ByteArray, y_ = (y148.set (x11_19 : Int).toNat ((rd_T44 l0 x33_2).f0)) := ⟨_, rfl⟩
                    replace H : (labels_Make.l1 kj19 l0 y117 y149 l0 (l0.length : Int) (wrap64 (x33_2 + 1))) = some (r1, r2) := by first | (rw [hy149]; with_reducible exact H) | (have H2_ := (Option.bind_some _ _).symm.trans H; rw [hy149]; with_reducible exact H2_) | (have H2_ := (Option.bind_some _ _).symm.trans H; with_reducible exact H2_) | with_reducible exact H | (rw [hy149]; exact H) | exact H
                    have Ny149 := Aside0.mk hy149
                    clear hy149
                    have H' := Aside0.mk H
                    clear H
                    try go_wp2
                    have n0_ := Aside0.mk (Kd.R_drew HO_7.out)
                    have n1_ := Aside0.mk (Kd.R_drew HO_8.out)
                    have n2_ := Aside0.mk (blk_drew BK121.out)
                    have n3_ := Aside0.mk (below_drew1 HB.out)
                    clear HO_7
                    clear HO_8
                    clear BK121
                    clear HB
                    have HO_7 := n0_
                    have HO_8 := n1_
                    have BK121 := n2_
                    have HB := n3_
                    clear n0_ n1_ n2_ n3_
                    refine start_ (n := 13) (S := fun w' => True) (ds := []) #[false, false, false, false, false, false, false, false, false, false, false, false, false] (by kernel_rfl) rfl rfl trivial (fun hHeld => ?_); refine with_tabW labels_Make.tab16 labels_Make.bits16 (fun HT_ HW_ => ?_)
                    generalize wc.drew = w63 at HO_7 HO_8 BK121 HB hHeld ⊢
                    refine pure_ (i := 0) (N := some 53) (v := ?_) (a' := ?_) #[true, false, false, false, false, false, false, false, false, false, false, false, false] rfl rfl (any_of HT_.out (by kernel_rfl)) (fun _ _ _ h => h) (Or.inl ⟨by rfl, ?_⟩) ?_ ?_
                    rotate_left
                    ·intro w'
                     go_simp
                     with_reducible rfl
                    rotate_left
                    ·simp only [Act.put, List.setIfInBounds_toArray, List.set_cons_zero, List.set_cons_succ, i64_w, i32_w]
                     rfl
                    refine pure_ (i := 1) (N := some 54) (v := ?_) (a' := ?_) #[true, true, false, false, false, false, false, false, false, false, false, false, false] rfl rfl (any_of HT_.out (by kernel_rfl)) (fun _ _ _ h => h) (Or.inl ⟨by rfl, ?_⟩) ?_ ?_
                    rotate_left
                    ·intro w'
                     go_simp
                     with_reducible rfl
                    rotate_left
                    ·simp only [Act.put, List.setIfInBounds_toArray, List.set_cons_zero, List.set_cons_succ, i64_w, i32_w]
                     rfl
                    refine pure_ (i := 2) (N := some 55) (v := ?_) (a' := ?_) #[true, true, true, false, false, false, false, false, false, false, false, false, false] rfl rfl (any_of HT_.out (by kernel_rfl)) (fun _ _ _ h => h) (Or.inl ⟨by rfl, ?_⟩) ?_ ?_
                    rotate_left
                    ·intro w'
                     go_simp
                     with_reducible rfl
                    rotate_left
                    ·simp only [Act.put, List.setIfInBounds_toArray, List.set_cons_zero, List.set_cons_succ, i64_w, i32_w]
                     rfl
                    refine pure_ (i := 3) (N := some 56) (v := ?_) (a' := ?_) #[true, true, true, true, false, false, false, false, false, false, false, false, false] rfl rfl (any_of HT_.out (by kernel_rfl)) (fun _ _ _ h => h) (Or.inl ⟨by rfl, ?_⟩) ?_ ?_
                    rotate_left
                    ·intro w'
                     go_simp
                     with_reducible rfl
                    rotate_left
                    ·simp only [Act.put, List.setIfInBounds_toArray, List.set_cons_zero, List.set_cons_succ, i64_w, i32_w]
                     rfl
                    refine pure_ (i := 4) (N := some 57) (v := ?_) (a' := ?_) #[true, true, true, true, true, false, false, false, false, false, false, false, false] rfl rfl (any_of HT_.out (by kernel_rfl)) (fun _ _ _ h => h) (Or.inl ⟨by rfl, ?_⟩) ?_ ?_
                    rotate_left
                    ·intro w'
                     go_simp
                     with_reducible rfl
                    rotate_left
                    ·simp only [Act.put, List.setIfInBounds_toArray, List.set_cons_zero, List.set_cons_succ, i64_w, i32_w]
                     rfl
                    refine pure_ (i := 5) (N := some 58) (v := undef) (a' := ?_) #[true, true, true, true, true, true, false, false, false, false, false, false, false] rfl rfl (any_of HT_.out (by kernel_rfl)) (fun _ _ _ h => h) (Or.inr ⟨by rfl, rfl⟩) ?_ ?_
                    rotate_left
                    ·simp only [Act.put, List.setIfInBounds_toArray, List.set_cons_zero, List.set_cons_succ, i64_w, i32_w]
                     rfl
                    refine pure_ (i := 6) (N := some 59) (v := undef) (a' := ?_) #[true, true, true, true, true, true, true, false, false, false, false, false, false] rfl rfl (any_of HT_.out (by kernel_rfl)) (fun _ _ _ h => h) (Or.inr ⟨by rfl, rfl⟩) ?_ ?_
                    rotate_left
                    ·simp only [Act.put, List.setIfInBounds_toArray, List.set_cons_zero, List.set_cons_succ, i64_w, i32_w]
                     rfl
                    refine pure_ (i := 7) (N := some 60) (v := undef) (a' := ?_) #[true, true, true, true, true, true, true, true, false, false, false, false, false] rfl rfl (any_of HT_.out (by kernel_rfl)) (fun _ _ _ h => h) (Or.inr ⟨by rfl, rfl⟩) ?_ ?_
                    rotate_left
                    ·simp only [Act.put, List.setIfInBounds_toArray, List.set_cons_zero, List.set_cons_succ, i64_w, i32_w]
                     rfl
                    refine pure_ (i := 8) (N := some 61) (v := undef) (a' := ?_) #[true, true, true, true, true, true, true, true, true, false, false, false, false] rfl rfl (any_of HT_.out (by kernel_rfl)) (fun _ _ _ h => h) (Or.inr ⟨by rfl, rfl⟩) ?_ ?_
                    rotate_left
                    ·simp only [Act.put, List.setIfInBounds_toArray, List.set_cons_zero, List.set_cons_succ, i64_w, i32_w]
                     rfl
                    refine pure_ (i := 9) (N := some 62) (v := undef) (a' := ?_) #[true, true, true, true, true, true, true, true, true, true, false, false, false] rfl rfl (any_of HT_.out (by kernel_rfl)) (fun _ _ _ h => h) (Or.inr ⟨by rfl, rfl⟩) ?_ ?_
                    rotate_left
                    ·simp only [Act.put, List.setIfInBounds_toArray, List.set_cons_zero, List.set_cons_succ, i64_w, i32_w]
                     rfl
                    refine pure_ (i := 10) (N := some 63) (v := undef) (a' := ?_) #[true, true, true, true, true, true, true, true, true, true, true, false, false] rfl rfl (any_of HT_.out (by kernel_rfl)) (fun _ _ _ h => h) (Or.inr ⟨by rfl, rfl⟩) ?_ ?_
                    rotate_left
                    ·simp only [Act.put, List.setIfInBounds_toArray, List.set_cons_zero, List.set_cons_succ, i64_w, i32_w]
                     rfl
                    refine pure_ (i := 11) (N := some 64) (v := undef) (a' := ?_) #[true, true, true, true, true, true, true, true, true, true, true, true, false] rfl rfl (any_of HT_.out (by kernel_rfl)) (fun _ _ _ h => h) (Or.inr ⟨by rfl, rfl⟩) ?_ ?_
                    rotate_left
                    ·simp only [Act.put, List.setIfInBounds_toArray, List.set_cons_zero, List.set_cons_succ, i64_w, i32_w]
                     rfl
                    refine pure_ (i := 12) (N := some 65) (v := ?_) (a' := ?_) #[true, true, true, true, true, true, true, true, true, true, true, true, true] rfl rfl (any_of HT_.out (by kernel_rfl)) (fun _ _ _ h => h) (Or.inl ⟨by rfl, ?_⟩) ?_ ?_
                    rotate_left
                    ·intro w'
                     go_simp
                     with_reducible rfl
                    rotate_left
                    ·simp only [Act.put, List.setIfInBounds_toArray, List.set_cons_zero, List.set_cons_succ, i64_w, i32_w]
                     rfl
                    refine done_ (done_of HT_.out (by kernel_rfl)) ?_
                    try go_wp2_with (first | ((with_reducible refine gate_builtin (b := .append) (xs := #[.tmp 66, .tmp 67]) rfl ?_); at_builtin; refine Kd.R_append Kd.string (w0 := w) w.heap.size rfl (.tmp 66) (.tmp 67) 42 9 (.string ⟨#[]⟩) 16 rfl Tryd.underlying42 info9 rfl (by decide) (by omega) (.slice Ao23 x8_2.length co23) x8_2 (⟨#[]⟩ : ByteArray) [.string (⟨#[]⟩ : ByteArray)] (fun _ => True) (fun _ => False) rfl rfl ?aP (fun _ hk => hk.elim) ?aF ?aO ?aB ?aS ?aL ?_; (case aP => exact rfl); (case aB => exact y12_); (case aF => exact (fun _ _ => trivial)); (case aO => exact y14_); (case aS => exact (below_size y12_)); (case aL => have := LMc55.out; omega); intro v138 w64 ho hb hg hat; rw [← Ny137.out] at ho; have n0_ := Aside0.mk (Kd.R_over' y17_ (Kd.R_typed y14_) (by decide) hg); have n1_ := Aside0.mk (blk_grown (g := gb121) (o := .cells #[.string ((rd_T44 l0 x33_2).f0), .string ((rd_T44 l0 x33_2).f1)] 44 (0, 0)) y28_ hg (Kd.R_ne HO_8.out BK121.out (by decide))); have n2_ := Aside0.mk (hb); have n3_ := Aside0.mk (ho); clear HO_7; clear BK121; clear HB; clear HO_8; have HO_7 := n0_; have BK121 := n1_; have HB := n2_; have HO139 := n3_; clear n0_ n1_ n2_ n3_; clear ho hb hg hat))
                    have n0_ := Aside0.mk (Kd.R_drew HO_7.out)
                    have n1_ := Aside0.mk (Kd.R_drew HO139.out)
                    have n2_ := Aside0.mk (blk_drew BK121.out)
                    have n3_ := Aside0.mk (below_drew1 HB.out)
                    clear HO_7
                    clear HO139
                    clear BK121
                    clear HB
                    have HO_7 := n0_
                    have HO139 := n1_
                    have BK121 := n2_
                    have HB := n3_
                    clear n0_ n1_ n2_ n3_
                    obtain ⟨Ao67, co67, eo67⟩ := Kd.R_slice HO139.out
                    (first | subst eo67 | (injection eo67 with f1_ f2_ f3_; have f4_ := f1_.symm; have f5_ := f3_.symm; clear f1_ f2_ f3_; subst f4_; subst f5_))
                    have q66 : ((ji56) : Int) ≤ ((y137.length : Int) : Int) := of_decide_eq_true y3_
                    obtain ⟨i066, hi066, _, hsz66, _⟩ := info_parts info9
                    have hroom66 : y137.length ≤ co67 := (Kd.R_reads' HO139.out).2.1
                    have hC66 : Kd.C Kd.string _ Ao67 y137.length y137 := (Kd.R_reads' HO139.out).2.2
                    have q066 : (0 : Int) ≤ ((ji56) : Int) := of_decide_eq_true y3_
                    have hcut66 := cut_from (P := Tryd.prog) 42 9 .i64 Tryd.underlying42 hi066 1 hsz66 Ao67 y137.length co67 (ji56) q066 q66
                    have hr66 := Kd.C_drop (m := ((ji56) : Int).toNat) (c := co67) hC66 (by omega) hroom66
                    obtain ⟨A66, hA66⟩ : ∃ A1, A1 = (if co67 = ((ji56) : Int).toNat then Ao67 else (Ao67 : Option Addr).map (·.add (((ji56) : Int).toNat * 1))) := ⟨_, rfl⟩
                    obtain ⟨c66, hc66⟩ : ∃ c1, c1 = co67 - ((ji56) : Int).toNat := ⟨_, rfl⟩
                    have hy66 : y140.length = y137.length - ((ji56) : Int).toNat := (by rw [Ny140.out, List.length_drop] <;> omega)
                    rw [show (y137).drop ((ji56) : Int).toNat = y140 from Ny140.out.symm] at hr66
                    replace hr66 : Kd.C Kd.string _ A66 y140.length y140 := (by rw [hA66]; exact hr66)
                    rw [← hy66, ← hA66, ← hc66] at hcut66
                    have HR143 := Aside0.mk hr66
                    have HC143 := Aside0.mk (show y140.length ≤ c66 from by rw [hy66, hc66]; exact Nat.sub_le_sub_right hroom66 _)
                    clear hr66 hC66 hroom66 hi066 hsz66 hc66
                    have KY66 := Aside0.mk hy66
                    have KA66 := Aside0.mk hA66
                    clear hy66 hA66
                    have KL66 := Aside0.mk (show ((ji56) : Int).toNat ≤ y137.length from by omega)
                    replace q66 := eq_true q66
                    have q68 : (x11_19 : Int) ≤ ((y137.length : Int) : Int) := of_decide_eq_true y3_
                    obtain ⟨i068, hi068, _, hsz68, _⟩ := info_parts info9
                    have hroom68 : y137.length ≤ co67 := (Kd.R_reads' HO139.out).2.1
                    have hC68 : Kd.C Kd.string _ Ao67 y137.length y137 := (Kd.R_reads' HO139.out).2.2
                    have q068 : (0 : Int) ≤ (x11_19 : Int) := of_decide_eq_true y3_
                    have hcut68 := cut_from (P := Tryd.prog) 42 9 .i64 Tryd.underlying42 hi068 1 hsz68 Ao67 y137.length co67 x11_19 q068 q68
                    have hr68 := Kd.C_drop (m := (x11_19 : Int).toNat) (c := co67) hC68 (by omega) hroom68
                    obtain ⟨A68, hA68⟩ : ∃ A1, A1 = (if co67 = (x11_19 : Int).toNat then Ao67 else (Ao67 : Option Addr).map (·.add ((x11_19 : Int).toNat * 1))) := ⟨_, rfl⟩
                    obtain ⟨c68, hc68⟩ : ∃ c1, c1 = co67 - (x11_19 : Int).toNat := ⟨_, rfl⟩
                    have hy68 : y144.length = y137.length - (x11_19 : Int).toNat := (by rw [Ny144.out, List.length_drop] <;> omega)
                    rw [show (y137).drop (x11_19 : Int).toNat = y144 from Ny144.out.symm] at hr68
                    replace hr68 : Kd.C Kd.string _ A68 y144.length y144 := (by rw [hA68]; exact hr68)
                    rw [← hy68, ← hA68, ← hc68] at hcut68
                    have HR147 := Aside0.mk hr68
                    have HC147 := Aside0.mk (show y144.length ≤ c68 from by rw [hy68, hc68]; exact Nat.sub_le_sub_right hroom68 _)
                    clear hr68 hC68 hroom68 hi068 hsz68 hc68
                    have KY68 := Aside0.mk hy68
                    have KA68 := Aside0.mk hA68
                    clear hy68 hA68
                    have KL68 := Aside0.mk (show (x11_19 : Int).toNat ≤ y137.length from by omega)
                    replace q68 := eq_true q68
                    obtain ⟨go70, co70, eo70, gb70, gl70, cl70, HG70⟩ := Kd.R_form HO139.out (by have hj_ : 0 ≤ (x11_19 : Int) := of_decide_eq_true y3_; have hl_ : (ji56 : Int) ≤ (y137.length : Int) := of_decide_eq_true y3_; have hh_ : (x11_19 : Int) ≤ (y137.length : Int) := of_decide_eq_true y3_; rw [← hji56] at hl_; unfold wrap64 at hl_; omega)
                    (first | cases eo70 | (injection eo70 with ea_ en_ ec_; (first | subst ea_ | (injection ea_ with ea_; subst ea_)); subst ec_; clear en_))
                    have GB70 := Aside0.mk gb70
                    have GG70 := Aside0.mk HG70
                    clear gb70 gl70 HG70
                    refine start_ (n := 8) (S := fun w' => True) (ds := []) #[false, false, false, false, false, false, false, false] (by kernel_rfl) rfl rfl trivial (fun hHeld => ?_); refine with_tabW labels_Make.tab19 labels_Make.bits19 (fun HT_ HW_ => ?_)
                    generalize w64.drew = w65 at HO_7 HO139 BK121 HB GG70 HR143 HR147 hHeld ⊢
                    refine pure_ (i := 0) (N := some 69) (v := ?_) (a' := ?_) #[true, false, false, false, false, false, false, false] rfl rfl (any_of HT_.out (by kernel_rfl)) (fun _ _ _ h => h) (Or.inl ⟨by rfl, ?_⟩) ?_ ?_
                    rotate_left
                    ·intro w'
                     go_simp
                     with_reducible rfl
                    rotate_left
                    ·simp only [Act.put, List.setIfInBounds_toArray, List.set_cons_zero, List.set_cons_succ, i64_w, i32_w]
                     rfl
                    refine pure_ (i := 1) (N := some 70) (v := ?_) (a' := ?_) #[true, true, false, false, false, false, false, false] rfl rfl (any_of HT_.out (by kernel_rfl)) (fun _ _ _ h => h) (Or.inl ⟨by rfl, ?_⟩) ?_ ?_
                    rotate_left
                    ·intro w'
                     go_simp
                     with_reducible rfl
                    rotate_left
                    ·simp only [Act.put, List.setIfInBounds_toArray, List.set_cons_zero, List.set_cons_succ, i64_w, i32_w]
                     rfl
                    refine pure_ (i := 2) (N := some 71) (v := ?_) (a' := ?_) #[true, true, true, false, false, false, false, false] rfl rfl (any_of HT_.out (by kernel_rfl)) (fun _ _ _ h => h) (Or.inl ⟨by rfl, ?_⟩) ?_ ?_
                    rotate_left
                    ·intro w'
                     go_simp
                     with_reducible rfl
                    rotate_left
                    ·simp only [Act.put, List.setIfInBounds_toArray, List.set_cons_zero, List.set_cons_succ, i64_w, i32_w]
                     rfl
                    refine pure_ (i := 3) (N := some 72) (v := ?_) (a' := ?_) #[true, true, true, true, false, false, false, false] rfl rfl (any_of HT_.out (by kernel_rfl)) (fun _ _ _ h => h) (Or.inl ⟨by rfl, ?_⟩) ?_ ?_
                    rotate_left
                    ·intro w'
                     go_simp
                     with_reducible rfl
                    rotate_left
                    ·simp only [Act.put, List.setIfInBounds_toArray, List.set_cons_zero, List.set_cons_succ, i64_w, i32_w]
                     rfl
                    refine pure_ (i := 4) (N := some 73) (v := ?_) (a' := ?_) #[true, true, true, true, true, false, false, false] rfl rfl (any_of HT_.out (by kernel_rfl)) (fun _ _ _ h => h) (Or.inl ⟨by rfl, ?_⟩) ?_ ?_
                    rotate_left
                    ·intro w'
                     go_simp
                     with_reducible rfl
                    rotate_left
                    ·simp only [Act.put, List.setIfInBounds_toArray, List.set_cons_zero, List.set_cons_succ, i64_w, i32_w]
                     rfl
                    refine pure_ (i := 5) (N := some 74) (v := ?_) (a' := ?_) #[true, true, true, true, true, true, false, false] rfl rfl (any_of HT_.out (by kernel_rfl)) (fun _ _ _ h => h) (Or.inl ⟨by rfl, ?_⟩) ?_ ?_
                    rotate_left
                    ·intro w'
                     go_simp
                     with_reducible rfl
                    rotate_left
                    ·simp only [Act.put, List.setIfInBounds_toArray, List.set_cons_zero, List.set_cons_succ, i64_w, i32_w]
                     rfl
                    refine pure_ (i := 6) (N := some 75) (v := ?_) (a' := ?_) #[true, true, true, true, true, true, true, false] rfl rfl (any_of HT_.out (by kernel_rfl)) (fun _ _ _ h => h) (Or.inl ⟨by rfl, ?_⟩) ?_ ?_
                    rotate_left
                    ·intro w'
                     go_simp
                     with_reducible rfl
                    rotate_left
                    ·simp only [Act.put, List.setIfInBounds_toArray, List.set_cons_zero, List.set_cons_succ, i64_w, i32_w]
                     rfl
                    refine one_ (i := 7) (N := some 76) #[true, true, true, true, true, true, true, true] rfl rfl (one_of HT_.out (by kernel_rfl)) (by decide) (fun K hK => ?_)
                    have hj_ : 0 ≤ (x11_19 : Int) := of_decide_eq_true y3_
                    have hl_ : (ji56 : Int) ≤ (y137.length : Int) := of_decide_eq_true y3_
                    have hh_ : (x11_19 : Int) ≤ (y137.length : Int) := of_decide_eq_true y3_
                    have hb_ := (Kd.R_reads' HO139.out).2.2.2.1
                    have h0_ : (0 : Int) ≤ (ji56 : Int) := of_decide_eq_true y3_
                    have hk_ : (ji56 : Int).toNat = (x11_19 : Int).toNat + 1 := (by have hw_ : (ji56 : Int) = x11_19 + 1 := (by have h00_ := h0_; rw [← hji56] at h00_ ⊢; unfold wrap64 at h00_ ⊢; omega); rw [hw_]; omega)
                    refine Kd.R_copysh_step Kd.string rfl (w0 := w) w.heap.size (by rfl) (.tmp 72) (.tmp 75) 42 9 rfl Tryd.underlying42 (by kernel_rfl) (g := go70) (n := y137.length) (c := co67) (k := (x11_19 : Int).toNat) rfl rfl ?hA1 ?hA ?hm1 ?hm (by (with_reducible repeat (first | apply Kd.R_alloc | apply Kd.R_drewN | apply Kd.R_drew)); exact HO139.out) ?hk y12_ (below_size y12_) ?_
                    (case hA1 => have ha_ := KA66.out; rw [hk_] at ha_; exact ha_)
                    (case hA => have ha_ := KA68.out; exact ha_)
                    (case hm1 => have ha_ := KY66.out; omega)
                    (case hm => have ha_ := KY68.out; omega)
                    (case hk => omega)
                    intro w69 ho hb hg
                    clear hj_ hl_ hh_ hb_ hk_ h0_
                    rw [← Ny148.out] at ho
                    have n0_ := Aside0.mk (Kd.R_over' (v := (.slice (some ⟨go70, 0, none⟩) y137.length co67)) y17_ (Kd.R_typed HO139.out) (by decide) hg)
                    have n1_ := Aside0.mk (blk_grown (g := gb121) (o := .cells #[.string ((rd_T44 l0 x33_2).f0), .string ((rd_T44 l0 x33_2).f1)] 44 (0, 0)) y28_ hg (Kd.R_ne HO139.out BK121.out (by decide)))
                    have n2_ := Aside0.mk (ho)
                    have n3_ := Aside0.mk (hb)
                    clear HO_7
                    clear BK121
                    clear HO139
                    clear HB
                    have HO_7 := n0_
                    have BK121 := n1_
                    have HO139 := n2_
                    have HB := n3_
                    clear n0_ n1_ n2_ n3_
                    clear ho hb hg
                    refine hK.out _ _ trivial (fun hHeld => ?_)
                    clear hK K
                    refine norm_ (a' := ?_) ?_ ?_
                    rotate_left
                    ·show Act.put _ (some 76) _ = _
                     simp only [Act.put, List.setIfInBounds_toArray, List.set_cons_zero, List.set_cons_succ, i64_w, i32_w]
                     rfl
                    refine done_ (done_of HT_.out (by kernel_rfl)) ?_
                    have hcz71_0 : w69.cell? ⟨gb121, 0, none⟩ = some (.string ((rd_T44 l0 x33_2).f0)) := (blk_cell BK121.out 0).trans rfl
                    have hcz71_1 : w69.cell? ⟨gb121, 1, none⟩ = some (.string ((rd_T44 l0 x33_2).f1)) := (blk_cell BK121.out 1).trans rfl
                    have hfz71_0 := blk_frozen BK121.out 0
                    have hfz71_1 := blk_frozen BK121.out 1
                    have p62 : 0 ≤ (x11_19 : Int) := of_decide_eq_true y3_
                    have q62 : (x11_19 : Int) < ((y137.length : Int) : Int) := of_decide_eq_true y3_
                    obtain ⟨hx62_0, hf62_0⟩ := Kd.R_celln (⟨#[]⟩ : ByteArray) HO139.out (x11_19 : Int) p62 q62
                    replace p62 := eq_true p62
                    replace q62 := eq_true q62
                    obtain ⟨hy72_, hz72_⟩ := Kd.R_celln (⟨#[]⟩ : ByteArray) HO139.out (x11_19 : Int) (of_decide_eq_true y3_) (of_decide_eq_true y3_)
                    have HP72 := Kd.R_putg HO139.out (x11_19 : Int) ((rd_T44 l0 x33_2).f0)
                    try go_wp2_with (first | ((with_reducible refine gate_store (t := 9) (p := 81) rfl ?_); refine store_event (t := 9) (p := 81) (v := ?vo_w73) (w1 := (w69.setCell ⟨go70, (x11_19 : Int).toNat, none⟩ (.string ((rd_T44 l0 x33_2).f0)))) ?hg ?ho ?hn ?hr ?_; (case ho => rfl); (case hg => rfl); (case hn => rfl); (case hr => first | (go_simp; done) | (go_simp; rfl)); intro w73 hw; have hg : w69.grownBy w73 (some go70) := (by rw [hw]; exact HP72.2); have hp_ : Kd.R Kd.string 9 w73 w.heap.size (fun _ => True) (.slice (some ⟨go70, 0, none⟩) y137.length co67) y149 := (by rw [hw, Ny149.out]; exact HP72.1); clear HP72; have n0_ := Aside0.mk (Kd.R_over' (v := (.slice (some ⟨go70, 0, none⟩) y137.length co67)) y17_ (Kd.R_typed HO139.out) (by decide) hg); have n1_ := Aside0.mk (blk_grown (g := gb121) (o := .cells #[.string ((rd_T44 l0 x33_2).f0), .string ((rd_T44 l0 x33_2).f1)] 44 (0, 0)) y28_ hg (Kd.R_ne HO139.out BK121.out (by decide))); have n2_ := Aside0.mk (hp_); have n3_ := Aside0.mk ((by rw [hw]; exact below_set (HB.out) GB70.out : Below w.heap.size w w73)); clear HO_7; clear BK121; clear HO139; clear HB; have HO_7 := n0_; have BK121 := n1_; have HO139 := n2_; have HB := n3_; clear n0_ n1_ n2_ n3_; clear hg hw hp_))
                    go_roundg kj19
                    case measure => have := HK1.out; have := HK2.out; have := HJ19.out; omega
                    case rel => exact ⟨(y149), (wrap64 (x33_2 + 1)), y6_, H', ⟨by have := HK1.out; have := HK2.out; have := HJ19.out; omega⟩, ⟨by (with_reducible repeat (first | apply Kd.R_alloc | apply Kd.R_drewN | apply Kd.R_drew)); exact Kd.R_mono HO_7.out (fun _ hk => trivial)⟩, ⟨by (with_reducible repeat (first | apply Kd.R_alloc | apply Kd.R_drewN | apply Kd.R_drew)); exact HO139.out⟩, ⟨y12_⟩⟩
                   ·rw [if_neg c61] at H
                    exact absurd H (by simp)
                  ·rw [if_neg c60] at H
                   exact absurd H (by simp)
                 ·rw [if_neg c59] at H
                  exact absurd H (by simp)
                ·rw [if_neg c58] at H
                 exact absurd H (by simp)
               ·rw [if_neg c57] at H
                exact absurd H (by simp)
              ·rw [if_neg c55] at H
               exact absurd H (by simp)
          ·rw [if_neg c19] at H
           exact absurd H (by simp)
         ·rw [if_neg c18] at H
          exact absurd H (by simp)
        ·rw [if_neg c17] at H
         have c17b0 : decide (x33_2 < (l0.length : Int)) = false := decide_eq_false c17
         clear c17
         have H' := Aside0.mk H
         clear H
         obtain ⟨Ao74, co74, eo74⟩ := Kd.R_slice HO_8.out
         subst eo74
         go_wp2
         go_loopg [7, 85] k2 (fun kq v7 v85 w' => ∃ (x7_3 : List (S44)) (x85_3 : Int), v85 = .int .i64 x85_3 ∧ Aside0 (labels_Make.l3 kq l0 x7_3 x8_2 (x8_2.length : Int) x85_3 = some (r1, r2)) ∧ Aside0 (kq ≤ k2) ∧ Aside0 (Kd.R k44 44 w' w.heap.size (fun _ => True) v7 x7_3) ∧ Aside0 (Kd.R Kd.string 9 w' w.heap.size (fun _ => True) (.slice Ao74 x8_2.length co74) x8_2) ∧ Aside0 (Below w.heap.size w w'))
         case atStart => exact ⟨(y117), (0), y6_, H', ⟨Nat.le_refl _⟩, ⟨y17_⟩, ⟨y14_⟩, ⟨y1_⟩⟩
         case round =>
          clear H'
          try clear c1
          try clear p2
          try clear c3
          try clear c4
          try clear p4
          try clear q4
          try clear hx4
          try clear hf4
          try clear c5
          try clear c6
          try clear p6
          try clear q6
          try clear hx6
          try clear hf6
          try clear c17
          try clear c17b0
          try clear c18
          try clear c19
          try clear c32
          try clear c32b0
          try clear c33
          try clear c36
          try clear c38
          try clear c39
          try clear c41
          try clear c42
          try clear p43
          try clear q43
          try clear hx43
          try clear hf43
          try clear c47
          try clear q47
          try clear c49
          try clear q49
          try clear c55
          try clear c57
          try clear c57b0
          try clear c57b1
          try clear c58
          try clear c58b0
          try clear c58b1
          try clear c59
          try clear c59b0
          try clear c59b1
          try clear c60
          try clear c60b0
          try clear c60b1
          try clear c61
          try clear c61b0
          try clear p62
          try clear q62
          try clear hx62
          try clear hf62
          try clear p64
          try clear c66
          try clear q66
          try clear c68
          try clear q68
          try clear hcz52_0
          try clear hcz52_1
          try clear hcz71_0
          try clear hcz71_1
          try clear hfz52_0
          try clear hfz52_1
          try clear hfz71_0
          try clear hfz71_1
          try clear hx43_0
          try clear hx62_0
          try clear p43
          try clear p62
          try clear q047
          try clear q049
          try clear q066
          try clear q068
          try clear q43
          try clear q47
          try clear q49
          try clear q62
          try clear q66
          try clear q68
          obtain ⟨x7_3, x85_3, rfl, HA, HK3, HO_7, HO_83, HB⟩ := hrel
          cases gk with
          | zero => exact absurd HA.out (by simp [labels_Make.l3])
          | succ k3 =>
           have H := HA.out
           clear HA
           simp only [labels_Make.l3] at H
           by_cases c75 : x85_3 < (x8_2.length : Int)
           ·rw [if_pos c75] at H
            have c75b0 : decide (x85_3 < (x8_2.length : Int)) = true := decide_eq_true c75
            clear c75
            by_cases c76 : 0 ≤ x85_3
            ·rw [if_pos c76] at H
             have c76b0 : decide (0 ≤ x85_3) = true := decide_eq_true c76
             clear c76
             by_cases c77 : x85_3 < (x8_2.length : Int)
             ·rw [if_pos c77] at H
              have c77b0 : decide (x85_3 < (x8_2.length : Int)) = true := decide_eq_true c77
              clear c77
              have H' := Aside0.mk H
              clear H
              have p150 : 0 ≤ (x85_3 : Int) := of_decide_eq_true y3_
              have q150 : x85_3 < (x8_2.length : Int) := of_decide_eq_true y3_
              obtain ⟨ad150, e150, hx150_0⟩ := Kd.at_string (Kd.R_reads' HO_83.out).2.2 x85_3 p150 q150
              cases e150
              replace p150 := eq_true p150
              replace q150 := eq_true q150
              go_wp2
              go_loopg [7, 91] k3 (fun kq v7 v91 w' => ∃ (x7_4 : List (S44)) (x91_4 : Int), v91 = .int .i64 x91_4 ∧ Aside0 (labels_Make.l4 kq l0 x7_4 (rdOf ByteArray.empty x8_2 x85_3) x8_2 (x8_2.length : Int) x85_3 l0 (l0.length : Int) x91_4 = some (r1, r2)) ∧ Aside0 (kq ≤ k3) ∧ Aside0 (Kd.R k44 44 w' w.heap.size (fun _ => True) v7 x7_4) ∧ Aside0 (Kd.R Kd.string 9 w' w.heap.size (fun _ => True) (.slice (some ad150) x8_2.length co74) x8_2) ∧ Aside0 (Below w.heap.size w w'))
              case atStart => exact ⟨(x7_3), (0), y6_, H', ⟨Nat.le_refl _⟩, ⟨y17_⟩, ⟨y40_⟩, ⟨y1_⟩⟩
              case round =>
               clear H'
               try clear c1
               try clear p1
               try clear q1
               try clear hx1
               try clear p2
               try clear c3
               try clear c4
               try clear p4
               try clear q4
               try clear hx4
               try clear hf4
               try clear c5
               try clear c6
               try clear p6
               try clear q6
               try clear hx6
               try clear hf6
               try clear c7
               try clear p15
               try clear q15
               try clear hx15
               try clear c17
               try clear c17b0
               try clear c18
               try clear c19
               try clear c32
               try clear c32b0
               try clear c33
               try clear c36
               try clear c38
               try clear c39
               try clear c41
               try clear c42
               try clear p43
               try clear q43
               try clear hx43
               try clear hf43
               try clear c47
               try clear q47
               try clear c49
               try clear q49
               try clear c55
               try clear c57
               try clear c57b0
               try clear c57b1
               try clear c58
               try clear c58b0
               try clear c58b1
               try clear c59
               try clear c59b0
               try clear c59b1
               try clear c60
               try clear c60b0
               try clear c60b1
               try clear c61
               try clear c61b0
               try clear p62
               try clear q62
               try clear hx62
               try clear hf62
               try clear p64
               try clear c66
               try clear q66
               try clear c68
               try clear q68
               try clear c75
               try clear c75b0
               try clear c76
               try clear c76b0
               try clear c77
               try clear c77b0
               try clear hcz52_0
               try clear hcz52_1
               try clear hcz71_0
               try clear hcz71_1
               try clear hfz52_0
               try clear hfz52_1
               try clear hfz71_0
               try clear hfz71_1
               try clear hx150_0
               try clear hx43_0
               try clear hx62_0
               try clear p150
               try clear p2
               try clear p4
               try clear p43
               try clear p6
               try clear p62
               try clear p64
               try clear q047
               try clear q049
               try clear q066
               try clear q068
               try clear q150
               try clear q4
               try clear q43
               try clear q47
               try clear q49
               try clear q6
               try clear q62
               try clear q66
               try clear q68
               obtain ⟨x7_4, x91_4, rfl, HA, HK4, HO_7, HO_83, HB⟩ := hrel
               cases gk with
               | zero => exact absurd HA.out (by simp [labels_Make.l4])
               | succ k4 =>
                have H := HA.out
                clear HA
                simp only [labels_Make.l4] at H
                by_cases c78 : x91_4 < (l0.length : Int)
                ·rw [if_pos c78] at H
                 have c78b0 : decide (x91_4 < (l0.length : Int)) = true := decide_eq_true c78
                 clear c78
                 by_cases c79 : 0 ≤ x91_4
                 ·rw [if_pos c79] at H
                  have c79b0 : decide (0 ≤ x91_4) = true := decide_eq_true c79
                  clear c79
                  by_cases c80 : x91_4 < (l0.length : Int)
                  ·rw [if_pos c80] at H
                   have c80b0 : decide (x91_4 < (l0.length : Int)) = true := decide_eq_true c80
                   clear c80
                   by_cases c81 : ((rd_T44 l0 x91_4).f0).toList = (rdOf ByteArray.empty x8_2 x85_3).toList
                   ·rw [if_pos c81] at H
                    have c81b0 : (((rd_T44 l0 x91_4).f0).toList == (rdOf ByteArray.empty x8_2 x85_3).toList) = true := beq_iff_eq.mpr c81
                    have c81b1 : (((rd_T44 l0 x91_4).f0).toList != (rdOf ByteArray.empty x8_2 x85_3).toList) = false := bne_eq_false_iff_eq.mpr c81
                    clear c81
                    by_cases c82 : ((rd_T44 l0 x91_4).f1).toList = ([] : List UInt8)
                    ·rw [if_pos c82] at H
                     have c82b0 : (((rd_T44 l0 x91_4).f1).toList == ([] : List UInt8)) = true := beq_iff_eq.mpr c82
                     have c82b1 : (((rd_T44 l0 x91_4).f1).toList != ([] : List UInt8)) = false := bne_eq_false_iff_eq.mpr c82
                     clear c82
                     have H' := Aside0.mk H
                     clear H
                     have p151 : 0 ≤ (x91_4 : Int) := of_decide_eq_true y3_
                     have q151 : x91_4 < (l0.length : Int) := of_decide_eq_true y3_
                     obtain ⟨ad151, e151, hx151_0, hx151_1⟩ := at_T44 HR0.out x91_4 p151 q151
                     cases e151
                     replace hx151_0 := (HB.out.cell (World.block_lt_of_cell? w _ hx151_0)).trans hx151_0
                     replace hx151_1 := (HB.out.cell (World.block_lt_of_cell? w _ hx151_1)).trans hx151_1
                     replace p151 := eq_true p151
                     replace q151 := eq_true q151
                     go_wp2_with (first | ((with_reducible refine gate_dst (N := 15) rfl ?_); refine box_event ?hg (N := 15) ?hd (cs := #[.string (⟨#[]⟩ : ByteArray), .string (⟨#[]⟩ : ByteArray)]) (t := 44) ?hr ?_; (case hd => rfl); (case hg => rfl); (case hr => first | (go_simp; done) | (go_simp; rfl)); intro gb152 hg w83 hbox hb; have n0_ := Aside0.mk (Kd.R_below (Kd.R_elderB y17_ gb152 (Nat.le_of_eq hg.symm)) hb); have n1_ := Aside0.mk (Kd.R_below y40_ hb); have n2_ := Aside0.mk (below_step y1_ hb); have n3_ := Aside0.mk (hbox); have n4_ := Aside0.mk ((y15_ : w.heap.size ≤ gb152)); have n5_ := Aside0.mk ((y15_ : w.heap.size ≤ gb152)); clear HO_7; clear HO_83; clear HB; have HO_7 := n0_; have HO_83 := n1_; have HB := n2_; have BK152 := n3_; have GW152 := n4_; have GE152 := n5_; clear n0_ n1_ n2_ n3_ n4_ n5_; clear hb hbox hg; have hcz84_0 : w83.cell? ⟨gb152, 0, none⟩ = some (.string (⟨#[]⟩ : ByteArray)) := (blk_cell BK152.out 0).trans rfl; have hcz84_1 : w83.cell? ⟨gb152, 1, none⟩ = some (.string (⟨#[]⟩ : ByteArray)) := (blk_cell BK152.out 1).trans rfl; have hfz84_0 := blk_frozen BK152.out 0; have hfz84_1 := blk_frozen BK152.out 1))
                     go_roundg k4
                     case measure => have := HK1.out; have := HK2.out; have := HK3.out; have := HK4.out; omega
                     case rel => exact ⟨(x7_4), (wrap64 (x91_4 + 1)), y6_, H', ⟨y62_⟩, ⟨y46_⟩, ⟨y48_⟩, ⟨y35_⟩⟩
                    ·rw [if_neg c82] at H
                     have c82b0 : (((rd_T44 l0 x91_4).f1).toList == ([] : List UInt8)) = false := beq_eq_false_iff_ne.mpr c82
                     have c82b1 : (((rd_T44 l0 x91_4).f1).toList != ([] : List UInt8)) = true := bne_iff_ne.mpr c82
                     by_cases c85 : x7_4.length < 4398046511104
                     ·rw [if_pos c85] at H
                      have LMc85 := Aside0.mk c85
                      clear c85
                      obtain ⟨y153, hy153⟩ : ∃ y_ : List (S44), y_ = (x7_4 ++ [(⟨(rd_T44 l0 x91_4).f0, (rd_T44 l0 x91_4).f1⟩ : S44)]) := ⟨_, rfl⟩
                      replace H : (labels_Make.l4 k4 l0 y153 (rdOf ByteArray.empty x8_2 x85_3) x8_2 (x8_2.length : Int) x85_3 l0 (l0.length : Int) (wrap64 (x91_4 + 1))) = some (r1, r2) := by first | (rw [hy153]; with_reducible exact H) | (have H2_ := (Option.bind_some _ _).symm.trans H; rw [hy153]; with_reducible exact H2_) | (have H2_ := (Option.bind_some _ _).symm.trans H; with_reducible exact H2_) | with_reducible exact H | (rw [hy153]; exact H) | exact H
                      have Ny153 := Aside0.mk hy153
                      clear hy153
                      have H' := Aside0.mk H
                      clear H
                      have p151 : 0 ≤ (x91_4 : Int) := of_decide_eq_true y3_
                      have q151 : x91_4 < (l0.length : Int) := of_decide_eq_true y3_
                      obtain ⟨ad151, e151, hx151_0, hx151_1⟩ := at_T44 HR0.out x91_4 p151 q151
                      cases e151
                      replace hx151_0 := (HB.out.cell (World.block_lt_of_cell? w _ hx151_0)).trans hx151_0
                      replace hx151_1 := (HB.out.cell (World.block_lt_of_cell? w _ hx151_1)).trans hx151_1
                      replace p151 := eq_true p151
                      replace q151 := eq_true q151
                      go_wp2_with (first | ((with_reducible refine gate_dst (N := 15) rfl ?_); refine box_event ?hg (N := 15) ?hd (cs := #[.string (⟨#[]⟩ : ByteArray), .string (⟨#[]⟩ : ByteArray)]) (t := 44) ?hr ?_; (case hd => rfl); (case hg => rfl); (case hr => first | (go_simp; done) | (go_simp; rfl)); intro gb152 hg w86 hbox hb; have n0_ := Aside0.mk (Kd.R_below (Kd.R_elderB y17_ gb152 (Nat.le_of_eq hg.symm)) hb); have n1_ := Aside0.mk (Kd.R_below y40_ hb); have n2_ := Aside0.mk (below_step y1_ hb); have n3_ := Aside0.mk (hbox); have n4_ := Aside0.mk ((y15_ : w.heap.size ≤ gb152)); have n5_ := Aside0.mk ((y15_ : w.heap.size ≤ gb152)); clear HO_7; clear HO_83; clear HB; have HO_7 := n0_; have HO_83 := n1_; have HB := n2_; have BK152 := n3_; have GW152 := n4_; have GE152 := n5_; clear n0_ n1_ n2_ n3_ n4_ n5_; clear hb hbox hg; have hcz87_0 : w86.cell? ⟨gb152, 0, none⟩ = some (.string (⟨#[]⟩ : ByteArray)) := (blk_cell BK152.out 0).trans rfl; have hcz87_1 : w86.cell? ⟨gb152, 1, none⟩ = some (.string (⟨#[]⟩ : ByteArray)) := (blk_cell BK152.out 1).trans rfl; have hfz87_0 := blk_frozen BK152.out 0; have hfz87_1 := blk_frozen BK152.out 1) | ((with_reducible refine gate_builtin (b := .append) (xs := #[.tmp 104, .tmp 106]) rfl ?_); at_builtin; refine Kd.R_append k44 (w0 := w) w.heap.size rfl (.tmp 104) (.tmp 106) 29 44 (.agg #[(.string ⟨#[]⟩), (.string ⟨#[]⟩)]) 32 rfl Tryd.underlying29 info44 rfl (by decide) (by omega) u7 x7_4 (⟨(rd_T44 l0 x91_4).f0, (rd_T44 l0 x91_4).f1⟩ : S44) [.string ((rd_T44 l0 x91_4).f0), .string ((rd_T44 l0 x91_4).f1)] (fun k_ => k_ ≠ gb152) (fun _ => False) rfl (by first | (go_simp; done) | (go_simp; rfl)) ?aP (fun _ hk => hk.elim) ?aF ?aO ?aB ?aS ?aL ?_; (case aP => exact k44_mkM _ _ _ (⟨(rd_T44 l0 x91_4).f0, (rd_T44 l0 x91_4).f1⟩ : S44)); (case aB => exact y35_); (case aF => exact (fun k_ hk => Kd.freshB (g := gb152) (o := .cells #[.string ((rd_T44 l0 x91_4).f0), .string ((rd_T44 l0 x91_4).f1)] 44 (0, 0)) y37_ k_ hk)); (case aO => exact (by (with_reducible repeat (first | apply Kd.R_alloc | apply Kd.R_drewN | apply Kd.R_drew)); exact Kd.R_mono (Kd.R_far (p := ⟨gb152, 1, none⟩) (Kd.R_far (p := ⟨gb152, 0, none⟩) (Kd.R_mono HO_7.out (fun k_ hk => (⟨hk, hk.2⟩ : _ ∧ k_ ≠ gb152))) (fun _ hk => hk.2) (.string ((rd_T44 l0 x91_4).f0))) (fun _ hk => hk.2) (.string ((rd_T44 l0 x91_4).f1))) (fun _ hk => hk.1.2))); (case aS => exact (below_size y35_)); (case aL => have := LMc85.out; omega); intro v154 w88 ho hb hg hat; rw [← Ny153.out] at ho; have n0_ := Aside0.mk (Kd.R_over' (by (with_reducible repeat (first | apply Kd.R_alloc | apply Kd.R_drewN | apply Kd.R_drew)); exact (Kd.R_mono (Kd.R_far (p := ⟨gb152, 1, none⟩) (Kd.R_far (p := ⟨gb152, 0, none⟩) (Kd.R_types HO_83.out BK152.out (by decide)) (fun _ hk => hk.2) (.string ((rd_T44 l0 x91_4).f0))) (fun _ hk => hk.2) (.string ((rd_T44 l0 x91_4).f1))) (fun _ h_ => h_.1))) (Kd.R_typed (by (with_reducible repeat (first | apply Kd.R_alloc | apply Kd.R_drewN | apply Kd.R_drew)); exact (Kd.R_mono (Kd.R_far (p := ⟨gb152, 1, none⟩) (Kd.R_far (p := ⟨gb152, 0, none⟩) (Kd.R_mono HO_7.out (fun k_ hk => (⟨hk, hk.2⟩ : _ ∧ k_ ≠ gb152))) (fun _ hk => hk.2) (.string ((rd_T44 l0 x91_4).f0))) (fun _ hk => hk.2) (.string ((rd_T44 l0 x91_4).f1))) (fun _ h_ => h_.1)))) (by decide) hg); have n1_ := Aside0.mk (blk_grown (g := gb152) (o := .cells #[.string ((rd_T44 l0 x91_4).f0), .string ((rd_T44 l0 x91_4).f1)] 44 (0, 0)) y37_ hg (Kd.R_away HO_7.out (fun _ hk => hk.2))); have n2_ := Aside0.mk (hb); have n3_ := Aside0.mk (ho); clear HO_83; clear BK152; clear HB; clear HO_7; have HO_83 := n0_; have BK152 := n1_; have HB := n2_; have HO155 := n3_; clear n0_ n1_ n2_ n3_; clear ho hb hg hat))
                      go_roundg k4
                      case measure => have := HK1.out; have := HK2.out; have := HK3.out; have := HK4.out; omega
                      case rel => exact ⟨(y153), (wrap64 (x91_4 + 1)), y6_, H', ⟨y62_⟩, ⟨by (with_reducible repeat (first | apply Kd.R_alloc | apply Kd.R_drewN | apply Kd.R_drew)); exact Kd.R_mono HO155.out (fun _ hk => trivial)⟩, ⟨y40_⟩, ⟨y35_⟩⟩
                     ·rw [if_neg c85] at H
                      exact absurd H (by simp)
                   ·rw [if_neg c81] at H
                    have c81b0 : (((rd_T44 l0 x91_4).f0).toList == (rdOf ByteArray.empty x8_2 x85_3).toList) = false := beq_eq_false_iff_ne.mpr c81
                    have c81b1 : (((rd_T44 l0 x91_4).f0).toList != (rdOf ByteArray.empty x8_2 x85_3).toList) = true := bne_iff_ne.mpr c81
                    have H' := Aside0.mk H
                    clear H
                    have p151 : 0 ≤ (x91_4 : Int) := of_decide_eq_true y3_
                    have q151 : x91_4 < (l0.length : Int) := of_decide_eq_true y3_
                    obtain ⟨ad151, e151, hx151_0, hx151_1⟩ := at_T44 HR0.out x91_4 p151 q151
                    cases e151
                    replace hx151_0 := (HB.out.cell (World.block_lt_of_cell? w _ hx151_0)).trans hx151_0
                    replace hx151_1 := (HB.out.cell (World.block_lt_of_cell? w _ hx151_1)).trans hx151_1
                    replace p151 := eq_true p151
                    replace q151 := eq_true q151
                    go_wp2_with (first | ((with_reducible refine gate_dst (N := 15) rfl ?_); refine box_event ?hg (N := 15) ?hd (cs := #[.string (⟨#[]⟩ : ByteArray), .string (⟨#[]⟩ : ByteArray)]) (t := 44) ?hr ?_; (case hd => rfl); (case hg => rfl); (case hr => first | (go_simp; done) | (go_simp; rfl)); intro gb152 hg w89 hbox hb; have n0_ := Aside0.mk (Kd.R_below (Kd.R_elderB y17_ gb152 (Nat.le_of_eq hg.symm)) hb); have n1_ := Aside0.mk (Kd.R_below y40_ hb); have n2_ := Aside0.mk (below_step y1_ hb); have n3_ := Aside0.mk (hbox); have n4_ := Aside0.mk ((y15_ : w.heap.size ≤ gb152)); have n5_ := Aside0.mk ((y15_ : w.heap.size ≤ gb152)); clear HO_7; clear HO_83; clear HB; have HO_7 := n0_; have HO_83 := n1_; have HB := n2_; have BK152 := n3_; have GW152 := n4_; have GE152 := n5_; clear n0_ n1_ n2_ n3_ n4_ n5_; clear hb hbox hg; have hcz90_0 : w89.cell? ⟨gb152, 0, none⟩ = some (.string (⟨#[]⟩ : ByteArray)) := (blk_cell BK152.out 0).trans rfl; have hcz90_1 : w89.cell? ⟨gb152, 1, none⟩ = some (.string (⟨#[]⟩ : ByteArray)) := (blk_cell BK152.out 1).trans rfl; have hfz90_0 := blk_frozen BK152.out 0; have hfz90_1 := blk_frozen BK152.out 1))
                    go_roundg k4
                    case measure => have := HK1.out; have := HK2.out; have := HK3.out; have := HK4.out; omega
                    case rel => exact ⟨(x7_4), (wrap64 (x91_4 + 1)), y6_, H', ⟨y62_⟩, ⟨y46_⟩, ⟨y48_⟩, ⟨y35_⟩⟩
                  ·rw [if_neg c80] at H
                   exact absurd H (by simp)
                 ·rw [if_neg c79] at H
                  exact absurd H (by simp)
                ·rw [if_neg c78] at H
                 have c78b0 : decide (x91_4 < (l0.length : Int)) = false := decide_eq_false c78
                 clear c78
                 have H' := Aside0.mk H
                 clear H
                 go_wp2
                 go_roundg k4
                 case measure => have := HK1.out; have := HK2.out; have := HK3.out; have := HK4.out; omega
                 case rel => exact ⟨(x7_4), (wrap64 (x85_3 + 1)), y6_, H', ⟨y62_⟩, ⟨y17_⟩, ⟨y40_⟩, ⟨y1_⟩⟩
             ·rw [if_neg c77] at H
              exact absurd H (by simp)
            ·rw [if_neg c76] at H
             exact absurd H (by simp)
           ·rw [if_neg c75] at H
            have c75b0 : decide (x85_3 < (x8_2.length : Int)) = false := decide_eq_false c75
            clear c75
            by_cases c91 : (x7_3.length : Int) > 16
            ·rw [if_pos c91] at H
             have c91b0 : decide (16 < (x7_3.length : Int)) = true := decide_eq_true c91
             have c91b1 : decide (16 < x7_3.length) = true := decide_eq_true (by omega)
             clear c91
             simp only [Option.some.injEq, Prod.mk.injEq] at H
             obtain ⟨rfl, rfl⟩ := H
             obtain ⟨Ao92, co92, eo92⟩ := Kd.R_slice HO_7.out
             subst eo92
             go_wp2
             go_ret2
             exact ⟨_, y7_, y11_, y1_⟩
            ·rw [if_neg c91] at H
             have c91b0 : decide (16 < (x7_3.length : Int)) = false := decide_eq_false c91
             have c91b1 : decide (16 < x7_3.length) = false := decide_eq_false (by omega)
             clear c91
             simp only [Option.some.injEq, Prod.mk.injEq] at H
             obtain ⟨rfl, rfl⟩ := H
             obtain ⟨Ao93, co93, eo93⟩ := Kd.R_slice HO_7.out
             subst eo93
             go_wp2
             go_ret2
             exact ⟨_, y7_, y17_, y1_⟩
     ·rw [if_neg c14] at H
      exact absurd H (by simp)
    ·rw [if_neg c13] at H
     exact absurd H (by simp)
end Go.Proofs.YtdhmabofncbohaaDoor.PLC
