import Derived.Test.YtdhmabofncbohaaDoorCLabelsHashesH17
import Derived.Test.YtdhmabofncbohaaDoorCLabelsHashesPLCx6
import Derived.Test.YtdhmabofncbohaaDoorCLabelsHashesPLCx13
import Derived.Test.YtdhmabofncbohaaDoorCLabelsHashesPLCx14
import Derived.Test.YtdhmabofncbohaaDoorCLabelsHashesPLCx15
import Derived.Test.YtdhmabofncbohaaDoorCLabelsHashesH19
import Derived.Test.YtdhmabofncbohaaDoorCLabelsHashesPLCx1
namespace Go.Proofs.YtdhmabofncbohaaDoor.PLC
open Go.RowKit Go.Proofs.YtdhmabofncbohaaDoorW.PrintWords Go.Proofs.YtdhmabofncbohaaDoorW.PrintLast Go.Proofs.YtdhmabofncbohaaDoorW.PrintMore
attribute [local go_sem] max2_int min2_int max_two min_two max_three min_three max_four min_four
set_option linter.unusedVariables false
set_option linter.unusedSimpArgs false
def hash_XX.f (l0 : List Int) : Option (Int) := if l0.length ≤ 1000000000 then (if l0.all (fun x => decide (0 ≤ x ∧ x < 256)) = true then some (Xx.xx l0) else none) else none
theorem hash_XX.calls (A0 : Option Addr) (c0 : Nat) (l0 : List Int) (r : Int) (w : World) (hr0 : Kd.C (Kd.int .u8) w A0 l0.length l0) (hc0 : l0.length ≤ c0) (h : hash_XX.f l0 = some r) :
  Calls Tryd.prog 69 #[.slice A0 l0.length c0] w fun e w' => e = .returned (.int .u64 r) ∧ Below w.heap.size w w' := by
 unfold hash_XX.f at h
 split at h
 ·rename_i h1
  split at h
  ·rename_i h2
   obtain rfl := Option.some.inj h
   exact xx_calls w A0 c0 l0 hr0 hc0 (fun x hx => of_decide_eq_true (List.all_eq_true.1 h2 x hx)) h1
  ·cases h
 ·cases h
def labels_Hash.l0 : Nat → List Int → List (S44) → Int → Int → Option (Int × Int)
 | 0, _, _, _, _ => none
 | k + 1, x5, x13, x14, x15 => if x15 < x14 then (if 0 ≤ x15 then (if x15 < (x13.length : Int) then (if x5.length + ((rd_T44 x13 x15).f0).size < 140737488355328 then ((some (x5 ++ bytesOf ((rd_T44 x13 x15).f0) : List Int)).bind fun y573 => (if y573.length < 140737488355328 then ((some (y573 ++ [255] : List Int)).bind fun y576 => (if y576.length + ((rd_T44 x13 x15).f1).size < 140737488355328 then ((some (y576 ++ bytesOf ((rd_T44 x13 x15).f1) : List Int)).bind fun y579 => (if y579.length < 140737488355328 then (labels_Hash.l0 k (y579 ++ [255]) x13 x14 (wrap64 (x15 + 1))) else (none))) else (none))) else (none))) else (none)) else (none)) else (none)) else ((hash_XX.f x5).bind fun t585 => (some (t585, 0)))
def labels_Hash.f (k : Nat) (l0 : List (S44)) : Option (Int × Int) := (labels_Right.f k l0).bind fun t570 => (if t570 = 0 then (labels_Hash.l0 k ([] : List Int) l0 (l0.length : Int) 0) else (some (0, t570)))
set_option maxHeartbeats 8000000 in
set_option maxRecDepth 100000 in
theorem labels_Hash.calls (k : Nat) (A0 : Option Addr) (c0 : Nat) (l0 : List (S44)) (r1 : Int) (r2 : Int) (w : World) (hT : Aside0 (Tab w)) (hr0 : Kd.C k44 w A0 l0.length l0) (hc0 : l0.length ≤ c0) (h : labels_Hash.f k l0 = some (r1, r2)) :
  Calls Tryd.prog 47 #[.slice A0 l0.length c0] w fun e w' => e = .returned (.tuple #[.int .u64 r1, .int .i64 r2]) ∧ Below w.heap.size w w' := by
 have hu44 := Tryd.underlying44
 have HR0 := Aside0.mk hr0
 have HC0 := Aside0.mk hc0
 clear hr0 hc0
 have HB := Aside0.mk (Below.refl w.heap.size w)
 have H : ((labels_Right.f k l0).bind fun t570 => (if t570 = 0 then (labels_Hash.l0 k ([] : List Int) l0 (l0.length : Int) 0) else (some (0, t570)))) = some (r1, r2) := h
 clear h
 replace H := Option.bind_eq_some_iff.mp H
 obtain ⟨t570, A20, H⟩ := H
 replace H : (if t570 = 0 then (labels_Hash.l0 k ([] : List Int) l0 (l0.length : Int) 0) else (some (0, t570))) = some (r1, r2) := H
 have A2 := Aside0.mk A20
 clear A20
 by_cases c3 : t570 = 0
 ·rw [if_pos c3] at H
  have c3b0 : (t570 == 0) = true := beq_iff_eq.mpr c3
  have c3b1 : (t570 != 0) = false := bne_eq_false_iff_eq.mpr c3
  clear c3
  have H' := Aside0.mk H
  clear H
  go_enter Tryd.func47, Tryd.ntmps47
  go_wp2_with (first | ((with_reducible refine gate_callee (f := 36) rfl ?_); refine goesL_ (some 9) rfl rfl Tryd.func36 (by kernel_rfl) rfl #[.slice A0 l0.length c0] rfl y2_ ?_; (with_reducible refine (labels_Right.calls k _ _ l0 t570 _ ?side1 ?side2 ?side3 A2.out).mono ?_); (case side1 => exact ⟨Tab_below hT.out y1_⟩); (case side2 => repeat (first | exact HR0.out | (with_reducible refine Kd.C_alloc ?_ _) | (with_reducible refine Kd.C_drewN ?_ _) | (with_reducible refine Kd.C_drew ?_))); (case side3 => exact HC0.out); rintro e w4 ⟨rfl, hb⟩; refine ⟨_, rfl, ?_⟩; have n0_ := Aside0.mk (below_step y1_ hb); clear HB; have HB := n0_; clear n0_; (try clear hb); (try clear hb2); (try clear hk); (try clear hi)))
  go_loopg [5, 15] k (fun kq v5 v15 w' => ∃ (x5_1 : List Int) (x15_1 : Int), v15 = .int .i64 x15_1 ∧ Aside0 (labels_Hash.l0 kq x5_1 l0 (l0.length : Int) x15_1 = some (r1, r2)) ∧ Aside0 (kq ≤ k) ∧ Aside0 (Kd.R (Kd.int .u8) 5 w' w.heap.size (fun _ => True) v5 x5_1) ∧ Aside0 (Below w.heap.size w w'))
  case atStart => exact ⟨(([] : List Int)), (0), y5_, H', ⟨Nat.le_refl _⟩, ⟨y16_⟩, ⟨y1_⟩⟩
  case round =>
   clear H'
   try clear p2
   try clear c3
   try clear c3b0
   try clear c3b1
   try clear c4
   obtain ⟨x5_1, x15_1, rfl, HA, HK1, HO_5, HB⟩ := hrel
   cases gk with
   | zero => exact absurd HA.out (by simp [labels_Hash.l0])
   | succ k1 =>
    have H := HA.out
    clear HA
    simp only [labels_Hash.l0] at H
    by_cases c5 : x15_1 < (l0.length : Int)
    ·rw [if_pos c5] at H
     have c5b0 : decide (x15_1 < (l0.length : Int)) = true := decide_eq_true c5
     clear c5
     by_cases c6 : 0 ≤ x15_1
     ·rw [if_pos c6] at H
      have c6b0 : decide (0 ≤ x15_1) = true := decide_eq_true c6
      clear c6
      by_cases c7 : x15_1 < (l0.length : Int)
      ·rw [if_pos c7] at H
       have c7b0 : decide (x15_1 < (l0.length : Int)) = true := decide_eq_true c7
       clear c7
       by_cases c8 : x5_1.length + ((rd_T44 l0 x15_1).f0).size < 140737488355328
       ·rw [if_pos c8] at H
        have LMc8 := Aside0.mk c8
        clear c8
        obtain ⟨y573, hy573⟩ : ∃ y_ : List Int, y_ = (x5_1 ++ bytesOf ((rd_T44 l0 x15_1).f0)) := ⟨_, rfl⟩
        replace H : (if y573.length < 140737488355328 then ((some (y573 ++ [255] : List Int)).bind fun y576 => (if y576.length + ((rd_T44 l0 x15_1).f1).size < 140737488355328 then ((some (y576 ++ bytesOf ((rd_T44 l0 x15_1).f1) : List Int)).bind fun y579 => (if y579.length < 140737488355328 then (labels_Hash.l0 k1 (y579 ++ [255]) l0 (l0.length : Int) (wrap64 (x15_1 + 1))) else (none))) else (none))) else (none)) = some (r1, r2) := by first | (rw [hy573]; with_reducible exact H) | (have H2_ := (Option.bind_some _ _).symm.trans H; rw [hy573]; with_reducible exact H2_) | (have H2_ := (Option.bind_some _ _).symm.trans H; with_reducible exact H2_) | with_reducible exact H | (rw [hy573]; exact H) | exact H
        have Ny573 := Aside0.mk hy573
        clear hy573
        by_cases c9 : y573.length < 140737488355328
        ·rw [if_pos c9] at H
         have LMc9 := Aside0.mk c9
         clear c9
         obtain ⟨y576, hy576⟩ : ∃ y_ : List Int, y_ = (y573 ++ [255]) := ⟨_, rfl⟩
         replace H : (if y576.length + ((rd_T44 l0 x15_1).f1).size < 140737488355328 then ((some (y576 ++ bytesOf ((rd_T44 l0 x15_1).f1) : List Int)).bind fun y579 => (if y579.length < 140737488355328 then (labels_Hash.l0 k1 (y579 ++ [255]) l0 (l0.length : Int) (wrap64 (x15_1 + 1))) else (none))) else (none)) = some (r1, r2) := by first | (rw [hy576]; with_reducible exact H) | (have H2_ := (Option.bind_some _ _).symm.trans H; rw [hy576]; with_reducible exact H2_) | (have H2_ := (Option.bind_some _ _).symm.trans H; with_reducible exact H2_) | with_reducible exact H | (rw [hy576]; exact H) | exact H
         have Ny576 := Aside0.mk hy576
         clear hy576
         by_cases c10 : y576.length + ((rd_T44 l0 x15_1).f1).size < 140737488355328
         ·rw [if_pos c10] at H
          have LMc10 := Aside0.mk c10
          clear c10
          obtain ⟨y579, hy579⟩ : ∃ y_ : List Int, y_ = (y576 ++ bytesOf ((rd_T44 l0 x15_1).f1)) := ⟨_, rfl⟩
          replace H : (if y579.length < 140737488355328 then (labels_Hash.l0 k1 (y579 ++ [255]) l0 (l0.length : Int) (wrap64 (x15_1 + 1))) else (none)) = some (r1, r2) := by first | (rw [hy579]; with_reducible exact H) | (have H2_ := (Option.bind_some _ _).symm.trans H; rw [hy579]; with_reducible exact H2_) | (have H2_ := (Option.bind_some _ _).symm.trans H; with_reducible exact H2_) | with_reducible exact H | (rw [hy579]; exact H) | exact H
          have Ny579 := Aside0.mk hy579
          clear hy579
          by_cases c11 : y579.length < 140737488355328
          ·rw [if_pos c11] at H
           have LMc11 := Aside0.mk c11
           clear c11
           obtain ⟨y582, hy582⟩ : ∃ y_ : List Int, y_ = (y579 ++ [255]) := ⟨_, rfl⟩
           replace H : (labels_Hash.l0 k1 y582 l0 (l0.length : Int) (wrap64 (x15_1 + 1))) = some (r1, r2) := by first | (rw [hy582]; with_reducible exact H) | (have H2_ := (Option.bind_some _ _).symm.trans H; rw [hy582]; with_reducible exact H2_) | (have H2_ := (Option.bind_some _ _).symm.trans H; with_reducible exact H2_) | with_reducible exact H | (rw [hy582]; exact H) | exact H
           have Ny582 := Aside0.mk hy582
           clear hy582
           have H' := Aside0.mk H
           clear H
           have p571 : 0 ≤ (x15_1 : Int) := of_decide_eq_true y3_
           have q571 : x15_1 < (l0.length : Int) := of_decide_eq_true y3_
           obtain ⟨ad571, e571, hx571_0, hx571_1⟩ := at_T44 HR0.out x15_1 p571 q571
           cases e571
           replace hx571_0 := (HB.out.cell (World.block_lt_of_cell? w _ hx571_0)).trans hx571_0
           replace hx571_1 := (HB.out.cell (World.block_lt_of_cell? w _ hx571_1)).trans hx571_1
           replace p571 := eq_true p571
           replace q571 := eq_true q571
           go_wp2_with (first | ((with_reducible refine gate_dst (N := 7) rfl ?_); refine box_event ?hg (N := 7) ?hd (cs := #[.string (⟨#[]⟩ : ByteArray), .string (⟨#[]⟩ : ByteArray)]) (t := 44) ?hr ?_; (case hd => rfl); (case hg => rfl); (case hr => first | (go_simp; done) | (go_simp; rfl)); intro gb572 hg w12 hbox hb; have n0_ := Aside0.mk (Kd.R_below y20_ hb); have n1_ := Aside0.mk (below_step y1_ hb); have n2_ := Aside0.mk (hbox); have n3_ := Aside0.mk ((y12_ : w.heap.size ≤ gb572)); have n4_ := Aside0.mk ((y12_ : w.heap.size ≤ gb572)); clear HO_5; clear HB; have HO_5 := n0_; have HB := n1_; have BK572 := n2_; have GW572 := n3_; have GE572 := n4_; clear n0_ n1_ n2_ n3_ n4_; clear hb hbox hg; have hcz13_0 : w12.cell? ⟨gb572, 0, none⟩ = some (.string (⟨#[]⟩ : ByteArray)) := (blk_cell BK572.out 0).trans rfl; have hcz13_1 : w12.cell? ⟨gb572, 1, none⟩ = some (.string (⟨#[]⟩ : ByteArray)) := (blk_cell BK572.out 1).trans rfl; have hfz13_0 := blk_frozen BK572.out 0; have hfz13_1 := blk_frozen BK572.out 1) | (at_builtin; refine print_append_str (w0 := w) w.heap.size rfl (.tmp 19) _ 53 9 5 rfl Tryd.underlying53 Tryd.underlying9 info5 u5 x5_1 ((rd_T44 l0 x15_1).f0) rfl rfl ?aO ?aB ?aS ?aL ?_; (case aB => exact y25_); (case aO => exact (Kd.own_of_R (by (with_reducible repeat (first | apply Kd.R_alloc | apply Kd.R_drewN | apply Kd.R_drew)); exact Kd.R_mono (Kd.R_far (p := ⟨gb572, 1, none⟩) (Kd.R_far (p := ⟨gb572, 0, none⟩) (Kd.R_types HO_5.out BK572.out (by decide)) (fun _ hk => hk.2) (.string ((rd_T44 l0 x15_1).f0))) (fun _ hk => hk.2) (.string ((rd_T44 l0 x15_1).f1))) (fun _ hk => trivial)))); (case aS => exact (below_size y25_)); (case aL => have := LMc8.out; omega); intro v574 w14 ho0 hb hg; have ho := Kd.R_of_own (h1 := fun _ => rfl) (ok := fun _ => True) ho0 (fun _ _ => trivial); clear ho0; have hat := True.intro; rw [← Ny573.out] at ho; change Kd.R (Kd.int .u8) 5 w14 w.heap.size (fun _ => True) v574 y573 at ho; have n0_ := Aside0.mk (blk_grown (g := gb572) (o := .cells #[.string ((rd_T44 l0 x15_1).f0), .string ((rd_T44 l0 x15_1).f1)] 44 (0, 0)) (by (with_reducible repeat (first | refine blk_drewN ?_ _ | refine blk_drew ?_ | refine blk_alloc ?_ _)); refine blk_put (cs := #[.string ((rd_T44 l0 x15_1).f0), .string (⟨#[]⟩ : ByteArray)]) ?_ 1 _ rfl; (with_reducible repeat (first | refine blk_drewN ?_ _ | refine blk_drew ?_ | refine blk_alloc ?_ _)); refine blk_put (cs := #[.string (⟨#[]⟩ : ByteArray), .string (⟨#[]⟩ : ByteArray)]) ?_ 0 _ rfl; (with_reducible repeat (first | refine blk_drewN ?_ _ | refine blk_drew ?_ | refine blk_alloc ?_ _)); exact BK572.out) hg (Kd.R_ne HO_5.out BK572.out (by decide))); have n1_ := Aside0.mk (hb); have n2_ := Aside0.mk (ho); clear BK572; clear HB; clear HO_5; have BK572 := n0_; have HB := n1_; have HO575 := n2_; clear n0_ n1_ n2_; clear ho hb hg hat) | ((with_reducible refine gate_builtin (b := .append) (xs := #[.tmp 22, .tmp 23]) rfl ?_); at_builtin; refine Kd.R_append (Kd.int .u8) (w0 := w) w.heap.size rfl (.tmp 22) (.tmp 23) 53 5 (.int .u8 0) 1 rfl Tryd.underlying53 info5 rfl (by decide) (by omega) v574 y573 255 [.int .u8 255] (fun _ => True) (fun _ => False) rfl rfl ?aP (fun _ hk => hk.elim) ?aF ?aO ?aB ?aS ?aL ?_; (case aP => exact rfl); (case aB => exact y25_); (case aF => exact (fun _ _ => trivial)); (case aO => exact (by (with_reducible repeat (first | apply Kd.R_alloc | apply Kd.R_drewN | apply Kd.R_drew)); exact HO575.out)); (case aS => exact (below_size y25_)); (case aL => have := LMc9.out; omega); intro v577 w15 ho hb hg hat; rw [← Ny576.out] at ho; have n0_ := Aside0.mk (blk_grown (g := gb572) (o := .cells #[.string ((rd_T44 l0 x15_1).f0), .string ((rd_T44 l0 x15_1).f1)] 44 (0, 0)) y69_ hg (Kd.R_ne HO575.out BK572.out (by decide))); have n1_ := Aside0.mk (hb); have n2_ := Aside0.mk (ho); clear BK572; clear HB; clear HO575; have BK572 := n0_; have HB := n1_; have HO578 := n2_; clear n0_ n1_ n2_; clear ho hb hg hat; have hcz16_0 : w15.cell? ⟨gb572, 0, none⟩ = some (.string ((rd_T44 l0 x15_1).f0)) := (blk_cell BK572.out 0).trans rfl; have hcz16_1 : w15.cell? ⟨gb572, 1, none⟩ = some (.string ((rd_T44 l0 x15_1).f1)) := (blk_cell BK572.out 1).trans rfl; have hfz16_0 := blk_frozen BK572.out 0; have hfz16_1 := blk_frozen BK572.out 1) | (at_builtin; refine print_append_str (w0 := w) w.heap.size rfl (.tmp 25) _ 53 9 5 rfl Tryd.underlying53 Tryd.underlying9 info5 v577 y576 ((rd_T44 l0 x15_1).f1) rfl rfl ?aO ?aB ?aS ?aL ?_; (case aB => exact y25_); (case aO => exact (Kd.own_of_R (by (with_reducible repeat (first | apply Kd.R_alloc | apply Kd.R_drewN | apply Kd.R_drew)); exact HO578.out))); (case aS => exact (below_size y25_)); (case aL => have := LMc10.out; omega); intro v580 w17 ho0 hb hg; have ho := Kd.R_of_own (h1 := fun _ => rfl) (ok := fun _ => True) ho0 (fun _ _ => trivial); clear ho0; have hat := True.intro; rw [← Ny579.out] at ho; change Kd.R (Kd.int .u8) 5 w17 w.heap.size (fun _ => True) v580 y579 at ho; have n0_ := Aside0.mk (blk_grown (g := gb572) (o := .cells #[.string ((rd_T44 l0 x15_1).f0), .string ((rd_T44 l0 x15_1).f1)] 44 (0, 0)) y69_ hg (Kd.R_ne HO578.out BK572.out (by decide))); have n1_ := Aside0.mk (hb); have n2_ := Aside0.mk (ho); clear BK572; clear HB; clear HO578; have BK572 := n0_; have HB := n1_; have HO581 := n2_; clear n0_ n1_ n2_; clear ho hb hg hat) | ((with_reducible refine gate_builtin (b := .append) (xs := #[.tmp 28, .tmp 29]) rfl ?_); at_builtin; refine Kd.R_append (Kd.int .u8) (w0 := w) w.heap.size rfl (.tmp 28) (.tmp 29) 53 5 (.int .u8 0) 1 rfl Tryd.underlying53 info5 rfl (by decide) (by omega) v580 y579 255 [.int .u8 255] (fun _ => True) (fun _ => False) rfl rfl ?aP (fun _ hk => hk.elim) ?aF ?aO ?aB ?aS ?aL ?_; (case aP => exact rfl); (case aB => exact y25_); (case aF => exact (fun _ _ => trivial)); (case aO => exact (by (with_reducible repeat (first | apply Kd.R_alloc | apply Kd.R_drewN | apply Kd.R_drew)); exact HO581.out)); (case aS => exact (below_size y25_)); (case aL => have := LMc11.out; omega); intro v583 w18 ho hb hg hat; rw [← Ny582.out] at ho; have n0_ := Aside0.mk (blk_grown (g := gb572) (o := .cells #[.string ((rd_T44 l0 x15_1).f0), .string ((rd_T44 l0 x15_1).f1)] 44 (0, 0)) y69_ hg (Kd.R_ne HO581.out BK572.out (by decide))); have n1_ := Aside0.mk (hb); have n2_ := Aside0.mk (ho); clear BK572; clear HB; clear HO581; have BK572 := n0_; have HB := n1_; have HO584 := n2_; clear n0_ n1_ n2_; clear ho hb hg hat))
           go_roundg k1
           case measure => have := HK1.out; omega
           case rel => exact ⟨(y582), (wrap64 (x15_1 + 1)), y5_, H', ⟨y58_⟩, ⟨by (with_reducible repeat (first | apply Kd.R_alloc | apply Kd.R_drewN | apply Kd.R_drew)); exact HO584.out⟩, ⟨y25_⟩⟩
          ·rw [if_neg c11] at H
           exact absurd H (by simp)
         ·rw [if_neg c10] at H
          exact absurd H (by simp)
        ·rw [if_neg c9] at H
         exact absurd H (by simp)
       ·rw [if_neg c8] at H
        exact absurd H (by simp)
      ·rw [if_neg c7] at H
       exact absurd H (by simp)
     ·rw [if_neg c6] at H
      exact absurd H (by simp)
    ·rw [if_neg c5] at H
     have c5b0 : decide (x15_1 < (l0.length : Int)) = false := decide_eq_false c5
     clear c5
     replace H := Option.bind_eq_some_iff.mp H
     obtain ⟨t585, A190, H⟩ := H
     replace H : (some (t585, 0)) = some (r1, r2) := H
     have A19 := Aside0.mk A190
     clear A190
     simp only [Option.some.injEq, Prod.mk.injEq] at H
     obtain ⟨rfl, rfl⟩ := H
     obtain ⟨Ao20, co20, eo20⟩ := Kd.R_slice HO_5.out
     subst eo20
     go_wp2_with (first | ((with_reducible refine gate_callee (f := 69) rfl ?_); refine goesL_ (some 33) rfl rfl Tryd.func69 (by kernel_rfl) rfl #[.slice Ao20 x5_1.length co20] rfl y2_ ?_; (with_reducible refine (hash_XX.calls _ _ x5_1 t585 _ ?side1 ?side2 A19.out).mono ?_); (case side1 => repeat (first | exact (Kd.R_reads' HO_5.out).2.2 | (with_reducible refine Kd.C_alloc ?_ _) | (with_reducible refine Kd.C_drewN ?_ _) | (with_reducible refine Kd.C_drew ?_))); (case side2 => exact (Kd.R_reads' HO_5.out).2.1); rintro e w21 ⟨rfl, hb⟩; refine ⟨_, rfl, ?_⟩; have n0_ := Aside0.mk (Kd.R_below y20_ hb); have n1_ := Aside0.mk (below_step y1_ hb); clear HO_5; clear HB; have HO_5 := n0_; have HB := n1_; clear n0_ n1_; (try clear hb); (try clear hb2); (try clear hk); (try clear hi)))
     go_ret2
     exact ⟨y8_, y1_⟩
 ·rw [if_neg c3] at H
  have c3b0 : (t570 == 0) = false := beq_eq_false_iff_ne.mpr c3
  have c3b1 : (t570 != 0) = true := bne_iff_ne.mpr c3
  simp only [Option.some.injEq, Prod.mk.injEq] at H
  obtain ⟨rfl, rfl⟩ := H
  go_enter Tryd.func47, Tryd.ntmps47
  go_wp2_with (first | ((with_reducible refine gate_callee (f := 36) rfl ?_); refine goesL_ (some 9) rfl rfl Tryd.func36 (by kernel_rfl) rfl #[.slice A0 l0.length c0] rfl y2_ ?_; (with_reducible refine (labels_Right.calls k _ _ l0 t570 _ ?side1 ?side2 ?side3 A2.out).mono ?_); (case side1 => exact ⟨Tab_below hT.out y1_⟩); (case side2 => repeat (first | exact HR0.out | (with_reducible refine Kd.C_alloc ?_ _) | (with_reducible refine Kd.C_drewN ?_ _) | (with_reducible refine Kd.C_drew ?_))); (case side3 => exact HC0.out); rintro e w22 ⟨rfl, hb⟩; refine ⟨_, rfl, ?_⟩; have n0_ := Aside0.mk (below_step y1_ hb); clear HB; have HB := n0_; clear n0_; (try clear hb); (try clear hb2); (try clear hk); (try clear hi)))
  go_ret2
  exact ⟨y8_, y1_⟩
def manometerref01_Join.l0 : Nat → List Int → List (List Int) → Int → Int → Option (List Int)
 | 0, _, _, _, _ => none
 | k + 1, x3, x7, x8, x9 => if x9 < x8 then (if 0 ≤ x9 then (if x9 < (x7.length : Int) then (if x3.length + (rd_L5 x7 x9).length < 140737488355328 then (manometerref01_Join.l0 k (x3 ++ (rd_L5 x7 x9)) x7 x8 (wrap64 (x9 + 1))) else (none)) else (none)) else (none)) else (some x3)
def manometerref01_Join.f (k : Nat) (l0 : List (List Int)) : Option (List Int) := manometerref01_Join.l0 k (([] : List Int)) l0 (l0.length : Int) 0
set_option maxHeartbeats 8000000 in
set_option maxRecDepth 100000 in
theorem manometerref01_Join.calls (k : Nat) (A0 : Option Addr) (c0 : Nat) (l0 : List (List Int)) (r : List Int) (w : World) (hr0 : Kd.C (Kd.slice 5 (Kd.int .u8)) w A0 l0.length l0) (hc0 : l0.length ≤ c0) (h : manometerref01_Join.f k l0 = some r) :
  Calls Tryd.prog 54 #[.slice A0 l0.length c0] w fun e w' => ∃ v0_ : Value, e = .returned (v0_) ∧ Kd.R (Kd.int .u8) 5 w' w.heap.size (fun _ => True) v0_ r ∧ Below w.heap.size w w' := by
 have HR0 := Aside0.mk hr0
 have HC0 := Aside0.mk hc0
 clear hr0 hc0
 have HB := Aside0.mk (Below.refl w.heap.size w)
 have H : (manometerref01_Join.l0 k (([] : List Int)) l0 (l0.length : Int) 0) = some r := h
 clear h
 obtain ⟨y586, hy586⟩ : ∃ y_ : List Int, y_ = (([] : List Int)) := ⟨_, rfl⟩
 replace H : (manometerref01_Join.l0 k y586 l0 (l0.length : Int) 0) = some r := by first | (rw [hy586]; with_reducible exact H) | (have H2_ := (Option.bind_some _ _).symm.trans H; rw [hy586]; with_reducible exact H2_) | (have H2_ := (Option.bind_some _ _).symm.trans H; with_reducible exact H2_) | with_reducible exact H | (rw [hy586]; exact H) | exact H
 have Ny586 := Aside0.mk hy586
 clear hy586
 have H' := Aside0.mk H
 clear H
 go_enter Tryd.func54, Tryd.ntmps54
 go_wp2_with (first | ((with_reducible refine gate_dst (N := 6) rfl ?_); refine Kd.R_lit (Kd.int .u8) _ 5 ?hg (N := 6) ?hd (xs := ([] : List Int)) (inner := []) (ok := fun _ => True) (okp := fun _ => True) ?hr ?hp (fun _ hk => hk) trivial (Below.refl _ _) (Nat.le_refl _) (by simp) ?_; (case hd => rfl); (case hg => rfl); (case hr => first | (go_simp; done) | (go_simp; rfl)); (case hp => exact (Reps.none _ _)); intro v587 w2 ho3 hb hg_ hnew_; clear hg_ hnew_; (first | rw [← Ny586.out] at ho3 | (simp only [Int.reduceToNat] at ho3; rw [← Ny586.out] at ho3)); have n0_ := Aside0.mk (Kd.R_lower ho3 (below_size y1_)); have n1_ := Aside0.mk (below_step y1_ hb); clear HB; have HO588 := n0_; have HB := n1_; clear n0_ n1_; clear hb ho3))
 go_loopg [3, 9] k (fun kq v3 v9 w' => ∃ (x3_1 : List Int) (x9_1 : Int), v9 = .int .i64 x9_1 ∧ Aside0 (manometerref01_Join.l0 kq x3_1 l0 (l0.length : Int) x9_1 = some r) ∧ Aside0 (kq ≤ k) ∧ Aside0 (Kd.R (Kd.int .u8) 5 w' w.heap.size (fun _ => True) v3 x3_1) ∧ Aside0 (Below w.heap.size w w'))
 case atStart => exact ⟨(y586), (0), y5_, H', ⟨Nat.le_refl _⟩, ⟨by (with_reducible repeat (first | apply Kd.R_alloc | apply Kd.R_drewN | apply Kd.R_drew)); exact HO588.out⟩, ⟨y1_⟩⟩
 case round =>
  clear H'
  try clear p2
  obtain ⟨x3_1, x9_1, rfl, HA, HK1, HO_3, HB⟩ := hrel
  cases gk with
  | zero => exact absurd HA.out (by simp [manometerref01_Join.l0])
  | succ k1 =>
   have H := HA.out
   clear HA
   simp only [manometerref01_Join.l0] at H
   by_cases c4 : x9_1 < (l0.length : Int)
   ·rw [if_pos c4] at H
    have c4b0 : decide (x9_1 < (l0.length : Int)) = true := decide_eq_true c4
    clear c4
    by_cases c5 : 0 ≤ x9_1
    ·rw [if_pos c5] at H
     have c5b0 : decide (0 ≤ x9_1) = true := decide_eq_true c5
     clear c5
     by_cases c6 : x9_1 < (l0.length : Int)
     ·rw [if_pos c6] at H
      have c6b0 : decide (x9_1 < (l0.length : Int)) = true := decide_eq_true c6
      clear c6
      by_cases c7 : x3_1.length + (rd_L5 l0 x9_1).length < 140737488355328
      ·rw [if_pos c7] at H
       have LMc7 := Aside0.mk c7
       clear c7
       obtain ⟨y590, hy590⟩ : ∃ y_ : List Int, y_ = (x3_1 ++ (rd_L5 l0 x9_1)) := ⟨_, rfl⟩
       replace H : (manometerref01_Join.l0 k1 y590 l0 (l0.length : Int) (wrap64 (x9_1 + 1))) = some r := by first | (rw [hy590]; with_reducible exact H) | (have H2_ := (Option.bind_some _ _).symm.trans H; rw [hy590]; with_reducible exact H2_) | (have H2_ := (Option.bind_some _ _).symm.trans H; with_reducible exact H2_) | with_reducible exact H | (rw [hy590]; exact H) | exact H
       have Ny590 := Aside0.mk hy590
       clear hy590
       have H' := Aside0.mk H
       clear H
       have p589 : 0 ≤ (x9_1 : Int) := of_decide_eq_true y3_
       have q589 : x9_1 < (l0.length : Int) := of_decide_eq_true y3_
       obtain ⟨ad589, A589_0, c589_0, e589, hx589_0, hl589_0, hi589_0⟩ := at_L5 HR0.out x9_1 p589 q589
       cases e589
       replace hx589_0 := (HB.out.cell (World.block_lt_of_cell? w _ hx589_0)).trans hx589_0
       have HR589_0 := Aside0.mk hi589_0
       have HC589_0 := Aside0.mk hl589_0
       clear hi589_0 hl589_0
       replace p589 := eq_true p589
       replace q589 := eq_true q589
       go_wp2_with (first | ((with_reducible refine gate_builtin (b := .append) (xs := #[.tmp 13, .tmp 14]) rfl ?_); at_builtin; refine Kd.R_append_rows (Kd.int .u8) (w0 := w) w.heap.size rfl (.tmp 13) (.tmp 14) 53 5 (.int .u8 0) 1 rfl Tryd.underlying53 info5 rfl (by decide) (by omega) u3 x3_1 (rd_L5 l0 x9_1) _ _ _ (fun _ => True) (fun _ => False) rfl rfl ?aO ?aR (fun _ _ h => h) (fun _ h => h.elim) ?aF ?aB ?aS ?aL ?_; (case aR => repeat (first | exact (Kd.C_below HR589_0.out HB.out) | (with_reducible refine Kd.C_alloc ?_ _) | (with_reducible refine Kd.C_drewN ?_ _) | (with_reducible refine Kd.C_drew ?_))); (case aB => exact y1_); (case aF => exact (fun _ _ => trivial)); (case aO => exact y31_); (case aS => exact (below_size y1_)); (case aL => have := LMc7.out; omega); intro v591 w8 ho hb hg hat; rw [← Ny590.out] at ho; have n0_ := Aside0.mk (hb); have n1_ := Aside0.mk (ho); clear HB; clear HO_3; have HB := n0_; have HO592 := n1_; clear n0_ n1_; clear ho hb hg hat))
       go_roundg k1
       case measure => have := HK1.out; omega
       case rel => exact ⟨(y590), (wrap64 (x9_1 + 1)), y5_, H', ⟨y58_⟩, ⟨by (with_reducible repeat (first | apply Kd.R_alloc | apply Kd.R_drewN | apply Kd.R_drew)); exact HO592.out⟩, ⟨y1_⟩⟩
      ·rw [if_neg c7] at H
       exact absurd H (by simp)
     ·rw [if_neg c6] at H
      exact absurd H (by simp)
    ·rw [if_neg c5] at H
     exact absurd H (by simp)
   ·rw [if_neg c4] at H
    have c4b0 : decide (x9_1 < (l0.length : Int)) = false := decide_eq_false c4
    clear c4
    obtain rfl := Option.some.inj H
    go_wp2
    go_ret
    exact ⟨_, y8_, y31_, y1_⟩
def manometerref03_XX.f (l0 : List Int) : Option (Int) := if l0.length ≤ 1000000000 then (if l0.all (fun x => decide (0 ≤ x ∧ x < 256)) = true then some (Xx.xx l0) else none) else none
theorem manometerref03_XX.calls (A0 : Option Addr) (c0 : Nat) (l0 : List Int) (r : Int) (w : World) (hr0 : Kd.C (Kd.int .u8) w A0 l0.length l0) (hc0 : l0.length ≤ c0) (h : manometerref03_XX.f l0 = some r) :
  Calls Tryd.prog 70 #[.slice A0 l0.length c0] w fun e w' => e = .returned (.int .u64 r) ∧ Below w.heap.size w w' := by
 unfold manometerref03_XX.f at h
 split at h
 ·rename_i h1
  split at h
  ·rename_i h2
   obtain rfl := Option.some.inj h
   exact rxx_calls w A0 c0 l0 hr0 hc0 (fun x hx => of_decide_eq_true (List.all_eq_true.1 h2 x hx)) h1
  ·cases h
 ·cases h
def manometerref05_Hash.l0 : Nat → List Int → List (S44) → Int → Int → Option (Int × Int)
 | 0, _, _, _, _ => none
 | k + 1, x5, x14, x15, x16 => if x16 < x15 then (if 0 ≤ x16 then (if x16 < (x14.length : Int) then (if ((rd_T44 x14 x16).f0).size ≤ 9223372036854775807 then (if ((rd_T44 x14 x16).f1).size ≤ 9223372036854775807 then ((manometerref01_Join.f k (([x5, (bytesOf ((rd_T44 x14 x16).f0)), (([255] : List Int)), (bytesOf ((rd_T44 x14 x16).f1)), (([255] : List Int))] : List (List Int)))).bind fun t614 => (manometerref05_Hash.l0 k t614 x14 x15 (wrap64 (x16 + 1)))) else (none)) else (none)) else (none)) else (none)) else ((manometerref03_XX.f x5).bind fun t617 => (some (t617, 0)))
def manometerref05_Hash.f (k : Nat) (l0 : List (S44)) : Option (Int × Int) := (manometerref05_Right.f k l0).bind fun t593 => (if t593 = 0 then (manometerref05_Hash.l0 k (([] : List Int)) l0 (l0.length : Int) 0) else (some (0, t593)))
set_option maxHeartbeats 8000000 in
set_option maxRecDepth 100000 in
theorem manometerref05_Hash.calls (k : Nat) (A0 : Option Addr) (c0 : Nat) (l0 : List (S44)) (r1 : Int) (r2 : Int) (w : World) (hr0 : Kd.C k44 w A0 l0.length l0) (hc0 : l0.length ≤ c0) (h : manometerref05_Hash.f k l0 = some (r1, r2)) :
  Calls Tryd.prog 48 #[.slice A0 l0.length c0] w fun e w' => e = .returned (.tuple #[.int .u64 r1, .int .i64 r2]) ∧ Below w.heap.size w w' := by
 have hu44 := Tryd.underlying44
 have HR0 := Aside0.mk hr0
 have HC0 := Aside0.mk hc0
 clear hr0 hc0
 have HB := Aside0.mk (Below.refl w.heap.size w)
 have H : ((manometerref05_Right.f k l0).bind fun t593 => (if t593 = 0 then (manometerref05_Hash.l0 k (([] : List Int)) l0 (l0.length : Int) 0) else (some (0, t593)))) = some (r1, r2) := h
 clear h
 replace H := Option.bind_eq_some_iff.mp H
 obtain ⟨t593, A20, H⟩ := H
 replace H : (if t593 = 0 then (manometerref05_Hash.l0 k (([] : List Int)) l0 (l0.length : Int) 0) else (some (0, t593))) = some (r1, r2) := H
 have A2 := Aside0.mk A20
 clear A20
 by_cases c3 : t593 = 0
 ·rw [if_pos c3] at H
  have c3b0 : (t593 == 0) = true := beq_iff_eq.mpr c3
  have c3b1 : (t593 != 0) = false := bne_eq_false_iff_eq.mpr c3
  clear c3
  obtain ⟨y594, hy594⟩ : ∃ y_ : List Int, y_ = (([] : List Int)) := ⟨_, rfl⟩
  replace H : (manometerref05_Hash.l0 k y594 l0 (l0.length : Int) 0) = some (r1, r2) := by first | (rw [hy594]; with_reducible exact H) | (have H2_ := (Option.bind_some _ _).symm.trans H; rw [hy594]; with_reducible exact H2_) | (have H2_ := (Option.bind_some _ _).symm.trans H; with_reducible exact H2_) | with_reducible exact H | (rw [hy594]; exact H) | exact H
  have Ny594 := Aside0.mk hy594
  clear hy594
  have H' := Aside0.mk H
  clear H
  go_enter Tryd.func48, Tryd.ntmps48
  go_wp2_with (first | ((with_reducible refine gate_callee (f := 37) rfl ?_); refine goesL_ (some 9) rfl rfl Tryd.func37 (by kernel_rfl) rfl #[.slice A0 l0.length c0] rfl y2_ ?_; (with_reducible refine (manometerref05_Right.calls k _ _ l0 t593 _ ?side1 ?side2 A2.out).mono ?_); (case side1 => repeat (first | exact HR0.out | (with_reducible refine Kd.C_alloc ?_ _) | (with_reducible refine Kd.C_drewN ?_ _) | (with_reducible refine Kd.C_drew ?_))); (case side2 => exact HC0.out); rintro e w4 ⟨rfl, hb⟩; refine ⟨_, rfl, ?_⟩; have n0_ := Aside0.mk (below_step y1_ hb); clear HB; have HB := n0_; clear n0_; (try clear hb); (try clear hb2); (try clear hk); (try clear hi)) | ((with_reducible refine gate_dst (N := 13) rfl ?_); refine Kd.R_lit (Kd.int .u8) _ 5 ?hg (N := 13) ?hd (xs := ([] : List Int)) (inner := []) (ok := fun _ => True) (okp := fun _ => True) ?hr ?hp (fun _ hk => hk) trivial (Below.refl _ _) (Nat.le_refl _) (by simp) ?_; (case hd => rfl); (case hg => rfl); (case hr => first | (go_simp; done) | (go_simp; rfl)); (case hp => exact (Reps.none _ _)); intro v595 w5 ho6 hb hg_ hnew_; clear hg_ hnew_; (first | rw [← Ny594.out] at ho6 | (simp only [Int.reduceToNat] at ho6; rw [← Ny594.out] at ho6)); have n0_ := Aside0.mk (Kd.R_lower ho6 (below_size y1_)); have n1_ := Aside0.mk (below_step y1_ hb); clear HB; have HO596 := n0_; have HB := n1_; clear n0_ n1_; clear hb ho6))
  go_loopg [5, 16] k (fun kq v5 v16 w' => ∃ (x5_1 : List Int) (x16_1 : Int), v16 = .int .i64 x16_1 ∧ Aside0 (manometerref05_Hash.l0 kq x5_1 l0 (l0.length : Int) x16_1 = some (r1, r2)) ∧ Aside0 (kq ≤ k) ∧ Aside0 (Kd.R (Kd.int .u8) 5 w' w.heap.size (fun _ => True) v5 x5_1) ∧ Aside0 (Below w.heap.size w w'))
  case atStart => exact ⟨(y594), (0), y5_, H', ⟨Nat.le_refl _⟩, ⟨by (with_reducible repeat (first | apply Kd.R_alloc | apply Kd.R_drewN | apply Kd.R_drew)); exact HO596.out⟩, ⟨y1_⟩⟩
  case round =>
   clear H'
   try clear p2
   try clear c3
   try clear c3b0
   try clear c3b1
   try clear c4
   obtain ⟨x5_1, x16_1, rfl, HA, HK1, HO_5, HB⟩ := hrel
   cases gk with
   | zero => exact absurd HA.out (by simp [manometerref05_Hash.l0])
   | succ k1 =>
    have H := HA.out
    clear HA
    simp only [manometerref05_Hash.l0] at H
    by_cases c7 : x16_1 < (l0.length : Int)
    ·rw [if_pos c7] at H
     have c7b0 : decide (x16_1 < (l0.length : Int)) = true := decide_eq_true c7
     clear c7
     by_cases c8 : 0 ≤ x16_1
     ·rw [if_pos c8] at H
      have c8b0 : decide (0 ≤ x16_1) = true := decide_eq_true c8
      clear c8
      by_cases c9 : x16_1 < (l0.length : Int)
      ·rw [if_pos c9] at H
       have c9b0 : decide (x16_1 < (l0.length : Int)) = true := decide_eq_true c9
       clear c9
       by_cases c10 : ((rd_T44 l0 x16_1).f0).size ≤ 9223372036854775807
       ·rw [if_pos c10] at H
        have c10b0 := eq_true c10
        have c10b1 : decide (((rd_T44 l0 x16_1).f0).size ≤ 9223372036854775807) = true := decide_eq_true c10
        try have c10b2 : (9223372036854775807 < ((rd_T44 l0 x16_1).f0).size) = False := eq_false (Nat.not_lt.2 c10)
        clear c10
        obtain ⟨y599, hy599⟩ : ∃ y_ : List Int, y_ = (bytesOf ((rd_T44 l0 x16_1).f0)) := ⟨_, rfl⟩
        replace H : (if ((rd_T44 l0 x16_1).f1).size ≤ 9223372036854775807 then ((manometerref01_Join.f k1 (([x5_1, y599, (([255] : List Int)), (bytesOf ((rd_T44 l0 x16_1).f1)), (([255] : List Int))] : List (List Int)))).bind fun t614 => (manometerref05_Hash.l0 k1 t614 l0 (l0.length : Int) (wrap64 (x16_1 + 1)))) else (none)) = some (r1, r2) := by first | (rw [hy599]; with_reducible exact H) | (have H2_ := (Option.bind_some _ _).symm.trans H; rw [hy599]; with_reducible exact H2_) | (have H2_ := (Option.bind_some _ _).symm.trans H; with_reducible exact H2_) | with_reducible exact H | (rw [hy599]; exact H) | exact H
        have Ny599 := Aside0.mk hy599
        clear hy599
        obtain ⟨y602, hy602⟩ : ∃ y_ : List Int, y_ = (([255] : List Int)) := ⟨_, rfl⟩
        replace H : (if ((rd_T44 l0 x16_1).f1).size ≤ 9223372036854775807 then ((manometerref01_Join.f k1 (([x5_1, y599, y602, (bytesOf ((rd_T44 l0 x16_1).f1)), (([255] : List Int))] : List (List Int)))).bind fun t614 => (manometerref05_Hash.l0 k1 t614 l0 (l0.length : Int) (wrap64 (x16_1 + 1)))) else (none)) = some (r1, r2) := by first | (rw [hy602]; with_reducible exact H) | (have H2_ := (Option.bind_some _ _).symm.trans H; rw [hy602]; with_reducible exact H2_) | (have H2_ := (Option.bind_some _ _).symm.trans H; with_reducible exact H2_) | with_reducible exact H | (rw [hy602]; exact H) | exact H
        have Ny602 := Aside0.mk hy602
        clear hy602
        by_cases c11 : ((rd_T44 l0 x16_1).f1).size ≤ 9223372036854775807
        ·rw [if_pos c11] at H
         have c11b0 := eq_true c11
         have c11b1 : decide (((rd_T44 l0 x16_1).f1).size ≤ 9223372036854775807) = true := decide_eq_true c11
         try have c11b2 : (9223372036854775807 < ((rd_T44 l0 x16_1).f1).size) = False := eq_false (Nat.not_lt.2 c11)
         clear c11
         obtain ⟨y605, hy605⟩ : ∃ y_ : List Int, y_ = (bytesOf ((rd_T44 l0 x16_1).f1)) := ⟨_, rfl⟩
         replace H : ((manometerref01_Join.f k1 (([x5_1, y599, y602, y605, (([255] : List Int))] : List (List Int)))).bind fun t614 => (manometerref05_Hash.l0 k1 t614 l0 (l0.length : Int) (wrap64 (x16_1 + 1)))) = some (r1, r2) := by first | (rw [hy605]; with_reducible exact H) | (have H2_ := (Option.bind_some _ _).symm.trans H; rw [hy605]; with_reducible exact H2_) | (have H2_ := (Option.bind_some _ _).symm.trans H; with_reducible exact H2_) | with_reducible exact H | (rw [hy605]; exact H) | exact H
         have Ny605 := Aside0.mk hy605
         clear hy605
         obtain ⟨y608, hy608⟩ : ∃ y_ : List Int, y_ = (([255] : List Int)) := ⟨_, rfl⟩
         replace H : ((manometerref01_Join.f k1 (([x5_1, y599, y602, y605, y608] : List (List Int)))).bind fun t614 => (manometerref05_Hash.l0 k1 t614 l0 (l0.length : Int) (wrap64 (x16_1 + 1)))) = some (r1, r2) := by first | (rw [hy608]; with_reducible exact H) | (have H2_ := (Option.bind_some _ _).symm.trans H; rw [hy608]; with_reducible exact H2_) | (have H2_ := (Option.bind_some _ _).symm.trans H; with_reducible exact H2_) | with_reducible exact H | (rw [hy608]; exact H) | exact H
         have Ny608 := Aside0.mk hy608
         clear hy608
         obtain ⟨y611, hy611⟩ : ∃ y_ : List (List Int), y_ = (([x5_1, y599, y602, y605, y608] : List (List Int))) := ⟨_, rfl⟩
         replace H : ((manometerref01_Join.f k1 y611).bind fun t614 => (manometerref05_Hash.l0 k1 t614 l0 (l0.length : Int) (wrap64 (x16_1 + 1)))) = some (r1, r2) := by first | (rw [hy611]; with_reducible exact H) | (have H2_ := (Option.bind_some _ _).symm.trans H; rw [hy611]; with_reducible exact H2_) | (have H2_ := (Option.bind_some _ _).symm.trans H; with_reducible exact H2_) | with_reducible exact H | (rw [hy611]; exact H) | exact H
         have Ny611 := Aside0.mk hy611
         clear hy611
         replace H := Option.bind_eq_some_iff.mp H
         obtain ⟨t614, A120, H⟩ := H
         replace H : (manometerref05_Hash.l0 k1 t614 l0 (l0.length : Int) (wrap64 (x16_1 + 1))) = some (r1, r2) := H
         have A12 := Aside0.mk A120
         clear A120
         have H' := Aside0.mk H
         clear H
         have p597 : 0 ≤ (x16_1 : Int) := of_decide_eq_true y3_
         have q597 : x16_1 < (l0.length : Int) := of_decide_eq_true y3_
         obtain ⟨ad597, e597, hx597_0, hx597_1⟩ := at_T44 HR0.out x16_1 p597 q597
         cases e597
         replace hx597_0 := (HB.out.cell (World.block_lt_of_cell? w _ hx597_0)).trans hx597_0
         replace hx597_1 := (HB.out.cell (World.block_lt_of_cell? w _ hx597_1)).trans hx597_1
         replace p597 := eq_true p597
         replace q597 := eq_true q597
         go_wp2_with (first | ((with_reducible refine gate_dst (N := 7) rfl ?_); refine box_event ?hg (N := 7) ?hd (cs := #[.string (⟨#[]⟩ : ByteArray), .string (⟨#[]⟩ : ByteArray)]) (t := 44) ?hr ?_; (case hd => rfl); (case hg => rfl); (case hr => first | (go_simp; done) | (go_simp; rfl)); intro gb598 hg w13 hbox hb; have n0_ := Aside0.mk (Kd.R_below y20_ hb); have n1_ := Aside0.mk (below_step y1_ hb); have n2_ := Aside0.mk (hbox); have n3_ := Aside0.mk ((y12_ : w.heap.size ≤ gb598)); have n4_ := Aside0.mk ((y12_ : w.heap.size ≤ gb598)); clear HO_5; clear HB; have HO_5 := n0_; have HB := n1_; have BK598 := n2_; have GW598 := n3_; have GE598 := n4_; clear n0_ n1_ n2_ n3_ n4_; clear hb hbox hg; have hcz14_0 : w13.cell? ⟨gb598, 0, none⟩ = some (.string (⟨#[]⟩ : ByteArray)) := (blk_cell BK598.out 0).trans rfl; have hcz14_1 : w13.cell? ⟨gb598, 1, none⟩ = some (.string (⟨#[]⟩ : ByteArray)) := (blk_cell BK598.out 1).trans rfl; have hfz14_0 := blk_frozen BK598.out 0; have hfz14_1 := blk_frozen BK598.out 1) | ((with_reducible refine gate_dst (N := 23) rfl ?_); refine Kd.V_convF _ 5 rfl (N' := 23) rfl 9 53 _ rfl ((rd_T44 l0 x16_1).f0) rfl Tryd.underlying9 Tryd.underlying53 Tryd.underlying5 (of_decide_eq_true y3_) (Below.refl _ _) (Nat.le_refl _) ?_; intro v600 w15 ho16 hb hg_ hnew_; clear hg_ hnew_; (first | rw [← Ny599.out] at ho16 | (simp only [Int.reduceToNat] at ho16; rw [← Ny599.out] at ho16)); have n0_ := Aside0.mk (Kd.R_below y54_ hb); have n1_ := Aside0.mk (Kd.V_lower (Kd.V_mono (ok' := fun k_ => some k_ ≠ (u5 : Value).ownBlock ∧ k_ ≠ gb598) ho16 (fun k_ hk_ => ⟨(Kd.fresh' (Kd.R_lt y54_) k_ hk_), (Kd.freshB (g := gb598) (o := .cells #[.string ((rd_T44 l0 x16_1).f0), .string ((rd_T44 l0 x16_1).f1)] 44 (0, 0)) y41_ k_ hk_)⟩)) (below_size y14_)); have n2_ := Aside0.mk (blk_below (g := gb598) (o := .cells #[.string ((rd_T44 l0 x16_1).f0), .string ((rd_T44 l0 x16_1).f1)] 44 (0, 0)) y41_ hb); have n3_ := Aside0.mk (below_step y14_ hb); clear HO_5; clear BK598; clear HB; have HO_5 := n0_; have HO601 := n1_; have BK598 := n2_; have HB := n3_; clear n0_ n1_ n2_ n3_; clear hb ho16) | ((with_reducible refine gate_dst (N := 24) rfl ?_); refine Kd.R_lit (Kd.int .u8) _ 5 ?hg (N := 24) ?hd (xs := ([255] : List Int)) (inner := [.int .u8 255]) (ok := fun _ => True) (okp := fun _ => True) ?hr ?hp (fun _ hk => hk) trivial (Below.refl _ _) (Nat.le_refl _) (by simp) ?_; (case hd => rfl); (case hg => rfl); (case hr => first | (go_simp; done) | (go_simp; rfl)); (case hp => exact (Reps.one (show Kd.M (Kd.int .u8) _ _ _ 255 [.int .u8 255] from rfl) (Reps.none _ _))); intro v603 w17 ho18 hb hg_ hnew_; clear hg_ hnew_; (first | rw [← Ny602.out] at ho18 | (simp only [Int.reduceToNat] at ho18; rw [← Ny602.out] at ho18)); have n0_ := Aside0.mk (Kd.R_elder' y20_ (Kd.R_base ho18) hb); have n1_ := Aside0.mk (Kd.V_elder' y49_ (Kd.R_base ho18) hb); have n2_ := Aside0.mk (Kd.R_lower (Kd.R_new' ho18 (Kd.R_lt y20_)) (below_size y14_)); have n3_ := Aside0.mk (blk_below (g := gb598) (o := .cells #[.string ((rd_T44 l0 x16_1).f0), .string ((rd_T44 l0 x16_1).f1)] 44 (0, 0)) y36_ hb); have n4_ := Aside0.mk (below_step y14_ hb); clear HO_5; clear HO601; clear BK598; clear HB; have HO_5 := n0_; have HO601 := n1_; have HO604 := n2_; have BK598 := n3_; have HB := n4_; clear n0_ n1_ n2_ n3_ n4_; clear hb ho18; have hcz19_0 : w17.cell? ⟨gb598, 0, none⟩ = some (.string ((rd_T44 l0 x16_1).f0)) := (blk_cell BK598.out 0).trans rfl; have hcz19_1 : w17.cell? ⟨gb598, 1, none⟩ = some (.string ((rd_T44 l0 x16_1).f1)) := (blk_cell BK598.out 1).trans rfl; have hfz19_0 := blk_frozen BK598.out 0; have hfz19_1 := blk_frozen BK598.out 1) | ((with_reducible refine gate_dst (N := 27) rfl ?_); refine Kd.V_convF _ 5 rfl (N' := 27) rfl 9 53 _ rfl ((rd_T44 l0 x16_1).f1) rfl Tryd.underlying9 Tryd.underlying53 Tryd.underlying5 (of_decide_eq_true y3_) (Below.refl _ _) (Nat.le_refl _) ?_; intro v606 w20 ho21 hb hg_ hnew_; clear hg_ hnew_; (first | rw [← Ny605.out] at ho21 | (simp only [Int.reduceToNat] at ho21; rw [← Ny605.out] at ho21)); have n0_ := Aside0.mk (Kd.R_below y20_ hb); have n1_ := Aside0.mk (Kd.V_below y49_ hb); have n2_ := Aside0.mk (Kd.R_below y68_ hb); have n3_ := Aside0.mk (Kd.V_lower (Kd.V_mono (ok' := fun k_ => some k_ ≠ (u5 : Value).ownBlock ∧ some k_ ≠ (v603 : Value).ownBlock ∧ k_ ≠ gb598) ho21 (fun k_ hk_ => ⟨(Kd.fresh' (Kd.R_lt y20_) k_ hk_), (Kd.fresh' (Kd.R_lt y68_) k_ hk_), (Kd.freshB (g := gb598) (o := .cells #[.string ((rd_T44 l0 x16_1).f0), .string ((rd_T44 l0 x16_1).f1)] 44 (0, 0)) y36_ k_ hk_)⟩)) (below_size y14_)); have n4_ := Aside0.mk (blk_below (g := gb598) (o := .cells #[.string ((rd_T44 l0 x16_1).f0), .string ((rd_T44 l0 x16_1).f1)] 44 (0, 0)) y36_ hb); have n5_ := Aside0.mk (below_step y14_ hb); clear HO_5; clear HO601; clear HO604; clear BK598; clear HB; have HO_5 := n0_; have HO601 := n1_; have HO604 := n2_; have HO607 := n3_; have BK598 := n4_; have HB := n5_; clear n0_ n1_ n2_ n3_ n4_ n5_; clear hb ho21) | ((with_reducible refine gate_dst (N := 28) rfl ?_); refine Kd.R_lit (Kd.int .u8) _ 5 ?hg (N := 28) ?hd (xs := ([255] : List Int)) (inner := [.int .u8 255]) (ok := fun _ => True) (okp := fun _ => True) ?hr ?hp (fun _ hk => hk) trivial (Below.refl _ _) (Nat.le_refl _) (by simp) ?_; (case hd => rfl); (case hg => rfl); (case hr => first | (go_simp; done) | (go_simp; rfl)); (case hp => exact (Reps.one (show Kd.M (Kd.int .u8) _ _ _ 255 [.int .u8 255] from rfl) (Reps.none _ _))); intro v609 w22 ho23 hb hg_ hnew_; clear hg_ hnew_; (first | rw [← Ny608.out] at ho23 | (simp only [Int.reduceToNat] at ho23; rw [← Ny608.out] at ho23)); have n0_ := Aside0.mk (Kd.R_elder' y20_ (Kd.R_base ho23) hb); have n1_ := Aside0.mk (Kd.V_elder' y49_ (Kd.R_base ho23) hb); have n2_ := Aside0.mk (Kd.R_elder' y68_ (Kd.R_base ho23) hb); have n3_ := Aside0.mk (Kd.V_elder' y71_ (Kd.R_base ho23) hb); have n4_ := Aside0.mk (Kd.R_lower (Kd.R_new' (Kd.R_new' ho23 (Kd.R_lt y20_)) (Kd.R_lt y68_)) (below_size y14_)); have n5_ := Aside0.mk (blk_below (g := gb598) (o := .cells #[.string ((rd_T44 l0 x16_1).f0), .string ((rd_T44 l0 x16_1).f1)] 44 (0, 0)) y36_ hb); have n6_ := Aside0.mk (below_step y14_ hb); clear HO_5; clear HO601; clear HO604; clear HO607; clear BK598; clear HB; have HO_5 := n0_; have HO601 := n1_; have HO604 := n2_; have HO607 := n3_; have HO610 := n4_; have BK598 := n5_; have HB := n6_; clear n0_ n1_ n2_ n3_ n4_ n5_ n6_; clear hb ho23; obtain ⟨Ao24, co24, eo24⟩ := Kd.R_slice HO_5.out; subst eo24; obtain ⟨Ao25, co25, eo25⟩ := Kd.V_slice HO601.out; subst eo25; obtain ⟨Ao26, co26, eo26⟩ := Kd.R_slice HO604.out; subst eo26; obtain ⟨Ao27, co27, eo27⟩ := Kd.V_slice HO607.out; subst eo27; obtain ⟨Ao28, co28, eo28⟩ := Kd.R_slice HO610.out; subst eo28) | ((with_reducible refine gate_dst (N := 29) rfl ?_); refine Kd.N_lit (Kd.slice 5 (Kd.int .u8)) _ 53 ?hg (N' := 29) ?hd (xs := ([x5_1, y599, y602, y605, y608] : List (List Int))) (inner := [.slice Ao24 x5_1.length co24, .slice Ao25 y599.length co25, .slice Ao26 y602.length co26, .slice Ao27 y605.length co27, .slice Ao28 y608.length co28]) (ok := (fun k_ => k_ ≠ gb598)) (okp := (fun k_ => k_ ≠ gb598)) ?hr ?hp (fun _ hk => hk) ((show ∀ k_, w22.heap.size ≤ k_ → (fun k_ => k_ ≠ gb598) k_ from fun k_ hk => Kd.freshB (g := gb598) (o := .cells #[.string ((rd_T44 l0 x16_1).f0), .string ((rd_T44 l0 x16_1).f1)] 44 (0, 0)) y36_ k_ hk) _ (Nat.le_refl _)) (Below.refl _ _) (Nat.le_refl _) (by simp) ?_; (case hd => rfl); (case hg => rfl); (case hr => first | (go_simp; done) | (go_simp; rfl)); (case hp => exact (Reps.one (show Kd.FK (Kd.slice 5 (Kd.int .u8)) _ _ x5_1 [.slice Ao24 x5_1.length co24] from (Kd.FK_slice_mk (Kd.R_reads' (Kd.R_mono (ok' := (fun k_ => k_ ≠ gb598)) (Kd.R_types (HO_5.out) BK598.out (by decide)) (fun k_ hk => hk.2))).2.1 (Kd.R_F (Kd.R_mono (ok' := (fun k_ => k_ ≠ gb598)) (Kd.R_types (HO_5.out) BK598.out (by decide)) (fun k_ hk => hk.2))))) (Reps.one (show Kd.FK (Kd.slice 5 (Kd.int .u8)) _ _ y599 [.slice Ao25 y599.length co25] from (Kd.FK_slice_mk (Kd.V_reads' (Kd.V_mono (ok' := (fun k_ => k_ ≠ gb598)) (HO601.out) (fun k_ hk => hk.1.1.2))).2.1 (Kd.V_F (Kd.V_mono (ok' := (fun k_ => k_ ≠ gb598)) (HO601.out) (fun k_ hk => hk.1.1.2))))) (Reps.one (show Kd.FK (Kd.slice 5 (Kd.int .u8)) _ _ y602 [.slice Ao26 y602.length co26] from (Kd.FK_slice_mk (Kd.R_reads' (Kd.R_mono (ok' := (fun k_ => k_ ≠ gb598)) (Kd.R_types (HO604.out) BK598.out (by decide)) (fun k_ hk => hk.2))).2.1 (Kd.R_F (Kd.R_mono (ok' := (fun k_ => k_ ≠ gb598)) (Kd.R_types (HO604.out) BK598.out (by decide)) (fun k_ hk => hk.2))))) (Reps.one (show Kd.FK (Kd.slice 5 (Kd.int .u8)) _ _ y605 [.slice Ao27 y605.length co27] from (Kd.FK_slice_mk (Kd.V_reads' (Kd.V_mono (ok' := (fun k_ => k_ ≠ gb598)) (HO607.out) (fun k_ hk => hk.1.2.2))).2.1 (Kd.V_F (Kd.V_mono (ok' := (fun k_ => k_ ≠ gb598)) (HO607.out) (fun k_ hk => hk.1.2.2))))) (Reps.one (show Kd.FK (Kd.slice 5 (Kd.int .u8)) _ _ y608 [.slice Ao28 y608.length co28] from (Kd.FK_slice_mk (Kd.R_reads' (Kd.R_mono (ok' := (fun k_ => k_ ≠ gb598)) (Kd.R_types (HO610.out) BK598.out (by decide)) (fun k_ hk => hk.2))).2.1 (Kd.R_F (Kd.R_mono (ok' := (fun k_ => k_ ≠ gb598)) (Kd.R_types (HO610.out) BK598.out (by decide)) (fun k_ hk => hk.2))))) (Reps.none _ _))))))); intro v612 w29 ho30 hb hg_ hnew_; clear hg_ hnew_; (first | rw [← Ny611.out] at ho30 | (simp only [Int.reduceToNat] at ho30; rw [← Ny611.out] at ho30)); have n0_ := Aside0.mk (Kd.V_elder' y49_ (Kd.N_base ho30) hb); have n1_ := Aside0.mk (Kd.V_elder' y71_ (Kd.N_base ho30) hb); have n2_ := Aside0.mk (Kd.N_lower ho30 (below_size y14_)); have n3_ := Aside0.mk (blk_below (g := gb598) (o := .cells #[.string ((rd_T44 l0 x16_1).f0), .string ((rd_T44 l0 x16_1).f1)] 44 (0, 0)) y36_ hb); have n4_ := Aside0.mk (below_step y14_ hb); clear HO601; clear HO607; clear BK598; clear HB; clear HO604; clear HO610; clear HO_5; have HO601 := n0_; have HO607 := n1_; have HO613 := n2_; have BK598 := n3_; have HB := n4_; clear n0_ n1_ n2_ n3_ n4_; clear hb ho30; obtain ⟨Ao31, co31, eo31⟩ := Kd.N_slice HO613.out; subst eo31) | ((with_reducible refine gate_callee (f := 54) rfl ?_); refine goesL_ (some 30) rfl rfl Tryd.func54 (by kernel_rfl) rfl #[.slice Ao31 y611.length co31] rfl y2_ ?_; (with_reducible refine (manometerref01_Join.calls k1 _ _ y611 t614 _ ?side1 ?side2 A12.out).mono ?_); (case side1 => repeat (first | exact (Kd.N_reads' HO613.out).2.2 | (with_reducible refine Kd.C_alloc ?_ _) | (with_reducible refine Kd.C_drewN ?_ _) | (with_reducible refine Kd.C_drew ?_))); (case side2 => exact (Kd.N_reads' HO613.out).2.1); rintro e w32 ⟨v615, rfl, ho0, hb⟩; refine ⟨_, rfl, ?_⟩; have n0_ := Aside0.mk (Kd.V_elder' y49_ (Kd.R_base ho0) hb); have n1_ := Aside0.mk (Kd.V_elder' y71_ (Kd.R_base ho0) hb); have n2_ := Aside0.mk (Kd.N_elder' (by (with_reducible repeat (first | apply Kd.N_alloc | apply Kd.N_drewN | apply Kd.N_drew)); exact HO613.out) (Kd.R_base ho0) hb); have n3_ := Aside0.mk (Kd.R_lower ho0 (below_size y14_)); have n4_ := Aside0.mk (blk_below (g := gb598) (o := .cells #[.string ((rd_T44 l0 x16_1).f0), .string ((rd_T44 l0 x16_1).f1)] 44 (0, 0)) y36_ hb); have n5_ := Aside0.mk (below_step y14_ hb); clear HO601; clear HO607; clear HO613; clear BK598; clear HB; have HO601 := n0_; have HO607 := n1_; have HO613 := n2_; have HO616 := n3_; have BK598 := n4_; have HB := n5_; clear n0_ n1_ n2_ n3_ n4_ n5_; (try clear hb); (try clear hb2); (try clear hk); (try clear hi); (try clear ho0)))
         go_roundg k1
         case measure => have := HK1.out; omega
         case rel => exact ⟨(t614), (wrap64 (x16_1 + 1)), y5_, H', ⟨y58_⟩, ⟨by (with_reducible repeat (first | apply Kd.R_alloc | apply Kd.R_drewN | apply Kd.R_drew)); exact HO616.out⟩, ⟨y14_⟩⟩
        ·rw [if_neg c11] at H
         exact absurd H (by simp)
       ·rw [if_neg c10] at H
        exact absurd H (by simp)
      ·rw [if_neg c9] at H
       exact absurd H (by simp)
     ·rw [if_neg c8] at H
      exact absurd H (by simp)
    ·rw [if_neg c7] at H
     have c7b0 : decide (x16_1 < (l0.length : Int)) = false := decide_eq_false c7
     clear c7
     replace H := Option.bind_eq_some_iff.mp H
     obtain ⟨t617, A330, H⟩ := H
     replace H : (some (t617, 0)) = some (r1, r2) := H
     have A33 := Aside0.mk A330
     clear A330
     simp only [Option.some.injEq, Prod.mk.injEq] at H
     obtain ⟨rfl, rfl⟩ := H
     obtain ⟨Ao34, co34, eo34⟩ := Kd.R_slice HO_5.out
     subst eo34
     go_wp2_with (first | ((with_reducible refine gate_callee (f := 70) rfl ?_); refine goesL_ (some 33) rfl rfl Tryd.func70 (by kernel_rfl) rfl #[.slice Ao34 x5_1.length co34] rfl y2_ ?_; (with_reducible refine (manometerref03_XX.calls _ _ x5_1 t617 _ ?side1 ?side2 A33.out).mono ?_); (case side1 => repeat (first | exact (Kd.R_reads' HO_5.out).2.2 | (with_reducible refine Kd.C_alloc ?_ _) | (with_reducible refine Kd.C_drewN ?_ _) | (with_reducible refine Kd.C_drew ?_))); (case side2 => exact (Kd.R_reads' HO_5.out).2.1); rintro e w35 ⟨rfl, hb⟩; refine ⟨_, rfl, ?_⟩; have n0_ := Aside0.mk (Kd.R_below y20_ hb); have n1_ := Aside0.mk (below_step y1_ hb); clear HO_5; clear HB; have HO_5 := n0_; have HB := n1_; clear n0_ n1_; (try clear hb); (try clear hb2); (try clear hk); (try clear hi)))
     go_ret2
     exact ⟨y8_, y1_⟩
 ·rw [if_neg c3] at H
  have c3b0 : (t593 == 0) = false := beq_eq_false_iff_ne.mpr c3
  have c3b1 : (t593 != 0) = true := bne_iff_ne.mpr c3
  simp only [Option.some.injEq, Prod.mk.injEq] at H
  obtain ⟨rfl, rfl⟩ := H
  go_enter Tryd.func48, Tryd.ntmps48
  go_wp2_with (first | ((with_reducible refine gate_callee (f := 37) rfl ?_); refine goesL_ (some 9) rfl rfl Tryd.func37 (by kernel_rfl) rfl #[.slice A0 l0.length c0] rfl y2_ ?_; (with_reducible refine (manometerref05_Right.calls k _ _ l0 t593 _ ?side1 ?side2 A2.out).mono ?_); (case side1 => repeat (first | exact HR0.out | (with_reducible refine Kd.C_alloc ?_ _) | (with_reducible refine Kd.C_drewN ?_ _) | (with_reducible refine Kd.C_drew ?_))); (case side2 => exact HC0.out); rintro e w36 ⟨rfl, hb⟩; refine ⟨_, rfl, ?_⟩; have n0_ := Aside0.mk (below_step y1_ hb); clear HB; have HB := n0_; clear n0_; (try clear hb); (try clear hb2); (try clear hk); (try clear hi)))
  go_ret2
  exact ⟨y8_, y1_⟩
def manometerlaw05_LabelsHashes.j0 : Nat → List (S44) → Bool → Option (Bool)
 | 0, _, _ => none
 | k + 1, x0, x13 => if x13 = true then ((manometerlaw05_live.f k).bind fun t620 => (some t620)) else ((labels_Hash.f k x0).bind fun bt621 => ((manometerref05_Hash.f k x0).bind fun bt623 => (if bt621.1 = bt623.1 then (some (bt621.2 == bt623.2)) else (some false))))
def manometerlaw05_LabelsHashes.f (k : Nat) (l0 : List (S44)) : Option (Bool) := (manometerlaw05_live.f k).bind fun t618 => (if t618 = true then ((manometerlaw05_few.f k l0).bind fun t619 => (manometerlaw05_LabelsHashes.j0 k l0 (!t619))) else (manometerlaw05_LabelsHashes.j0 k l0 true))
set_option maxHeartbeats 8000000 in
set_option maxRecDepth 100000 in
theorem manometerlaw05_LabelsHashes.calls (k : Nat) (A0 : Option Addr) (c0 : Nat) (l0 : List (S44)) (r : Bool) (w : World) (hT : Aside0 (Tab w)) (hr0 : Kd.C k44 w A0 l0.length l0) (hc0 : l0.length ≤ c0) (h : manometerlaw05_LabelsHashes.f k l0 = some r) :
  Calls Tryd.prog 12 #[.slice A0 l0.length c0] w fun e w' => e = .returned (.bool r) ∧ Below w.heap.size w w' := by
 have HR0 := Aside0.mk hr0
 have HC0 := Aside0.mk hc0
 clear hr0 hc0
 have HB := Aside0.mk (Below.refl w.heap.size w)
 have H : ((manometerlaw05_live.f k).bind fun t618 => (if t618 = true then ((manometerlaw05_few.f k l0).bind fun t619 => (manometerlaw05_LabelsHashes.j0 k l0 (!t619))) else (manometerlaw05_LabelsHashes.j0 k l0 true))) = some r := h
 clear h
 have HC2 := Aside0.mk H
 clear H
 go_enter Tryd.func12, Tryd.ntmps12
 go_upto_region 1 with (fail)
 go_cut [13] (fun v13 wc => ∃ (kq : Nat) (x13_1 : Bool), v13 = .bool x13_1 ∧ Aside0 (manometerlaw05_LabelsHashes.j0 kq l0 x13_1 = some r) ∧ Aside0 (kq ≤ k) ∧ Aside0 (Below w.heap.size w wc))
 case first =>
  have H := HC2.out
  clear HC2
  replace H := Option.bind_eq_some_iff.mp H
  obtain ⟨t618, A30, H⟩ := H
  replace H : (if t618 = true then ((manometerlaw05_few.f k l0).bind fun t619 => (manometerlaw05_LabelsHashes.j0 k l0 (!t619))) else (manometerlaw05_LabelsHashes.j0 k l0 true)) = some r := H
  have A3 := Aside0.mk A30
  clear A30
  by_cases c4 : t618 = true
  ·subst c4
   have H1 : ((manometerlaw05_few.f k l0).bind fun t619 => (manometerlaw05_LabelsHashes.j0 k l0 (!t619))) = some r := by rw [if_pos rfl] at H; exact H
   clear H
   have H := H1
   clear H1
   replace H := Option.bind_eq_some_iff.mp H
   obtain ⟨t619, A50, H⟩ := H
   replace H : (manometerlaw05_LabelsHashes.j0 k l0 (!t619)) = some r := H
   have A5 := Aside0.mk A50
   clear A50
   have H' := Aside0.mk H
   clear H
   go_wp2_with (first | ((with_reducible refine gate_callee (f := 15) rfl ?_); refine goesL_ (some 7) rfl rfl Tryd.func15 (by kernel_rfl) rfl #[] rfl y2_ ?_; (with_reducible refine (manometerlaw05_live.calls k  true _ ?side1 A3.out).mono ?_); (case side1 => exact ⟨Tab_below hT.out y1_⟩); rintro e w6 ⟨rfl, hb⟩; refine ⟨_, rfl, ?_⟩; have n0_ := Aside0.mk (below_step y1_ hb); clear HB; have HB := n0_; clear n0_; (try clear hb); (try clear hb2); (try clear hk); (try clear hi)) | (go_at_call 24; (with_reducible refine (manometerlaw05_few.calls k _ _ l0 t619 _ ?side1 ?side2 A5.out).mono ?_); (case side1 => repeat (first | exact (Kd.C_below HR0.out HB.out) | (with_reducible refine Kd.C_alloc ?_ _) | (with_reducible refine Kd.C_drewN ?_ _) | (with_reducible refine Kd.C_drew ?_))); (case side2 => exact HC0.out); rintro e w7 ⟨rfl, hb⟩; have n0_ := Aside0.mk (below_step y1_ hb); clear HB; have HB := n0_; clear n0_; (try clear hb); (try clear hb2); (try clear hk); (try clear hi)))
   go_meet
   case rel => exact ⟨_, (!t619), y5_, H', ⟨by first | omega | exact Nat.le_refl _⟩, ⟨y1_⟩⟩
  ·replace c4 := Bool.eq_false_iff.mpr c4
   subst c4
   have H1 : (manometerlaw05_LabelsHashes.j0 k l0 true) = some r := by rw [if_neg (show ¬ (false = true) by decide)] at H; exact H
   clear H
   have H := H1
   clear H1
   have H' := Aside0.mk H
   clear H
   go_wp2_with (first | ((with_reducible refine gate_callee (f := 15) rfl ?_); refine goesL_ (some 7) rfl rfl Tryd.func15 (by kernel_rfl) rfl #[] rfl y2_ ?_; (with_reducible refine (manometerlaw05_live.calls k  false _ ?side1 A3.out).mono ?_); (case side1 => exact ⟨Tab_below hT.out y1_⟩); rintro e w8 ⟨rfl, hb⟩; refine ⟨_, rfl, ?_⟩; have n0_ := Aside0.mk (below_step y1_ hb); clear HB; have HB := n0_; clear n0_; (try clear hb); (try clear hb2); (try clear hk); (try clear hi)))
   go_meet
   case rel => exact ⟨_, (true), y5_, H', ⟨by first | omega | exact Nat.le_refl _⟩, ⟨y1_⟩⟩
 case rest =>
  clear HC2
  try clear c1
  try clear p2
  try clear c4
  obtain ⟨kq, x13_1, rfl, HA, HJ1, HB⟩ := hcut
  cases kq with
  | zero => exact absurd HA.out (by simp [manometerlaw05_LabelsHashes.j0])
  | succ kj1 =>
   have H := HA.out
   clear HA
   simp only [manometerlaw05_LabelsHashes.j0] at H
   by_cases c9 : x13_1 = true
   ·subst c9
    have H1 : ((manometerlaw05_live.f kj1).bind fun t620 => (some t620)) = some r := by rw [if_pos rfl] at H; exact H
    clear H
    have H := H1
    clear H1
    replace H := Option.bind_eq_some_iff.mp H
    obtain ⟨t620, A100, H⟩ := H
    replace H : (some t620) = some r := H
    have A10 := Aside0.mk A100
    clear A100
    obtain rfl := Option.some.inj H
    go_wp2_with (first | ((with_reducible refine gate_callee (f := 15) rfl ?_); refine goesL_ (some 14) rfl rfl Tryd.func15 (by kernel_rfl) rfl #[] rfl y2_ ?_; (with_reducible refine (manometerlaw05_live.calls kj1  t620 _ ?side1 A10.out).mono ?_); (case side1 => exact ⟨Tab_below hT.out y1_⟩); rintro e w11 ⟨rfl, hb⟩; refine ⟨_, rfl, ?_⟩; have n0_ := Aside0.mk (below_step y1_ hb); clear HB; have HB := n0_; clear n0_; (try clear hb); (try clear hb2); (try clear hk); (try clear hi)))
    go_ret
    exact ⟨y8_, y1_⟩
   ·replace c9 := Bool.eq_false_iff.mpr c9
    subst c9
    have H1 : ((labels_Hash.f kj1 l0).bind fun bt621 => ((manometerref05_Hash.f kj1 l0).bind fun bt623 => (if bt621.1 = bt623.1 then (some (bt621.2 == bt623.2)) else (some false)))) = some r := by rw [if_neg (show ¬ (false = true) by decide)] at H; exact H
    clear H
    have H := H1
    clear H1
    replace H := Option.bind_eq_some_iff.mp H
    obtain ⟨⟨t621, t622⟩, A120, H⟩ := H
    replace H : ((manometerref05_Hash.f kj1 l0).bind fun bt623 => (if t621 = bt623.1 then (some (t622 == bt623.2)) else (some false))) = some r := H
    have A12 := Aside0.mk A120
    clear A120
    replace H := Option.bind_eq_some_iff.mp H
    obtain ⟨⟨t623, t624⟩, A130, H⟩ := H
    replace H : (if t621 = t623 then (some (t622 == t624)) else (some false)) = some r := H
    have A13 := Aside0.mk A130
    clear A130
    by_cases c14 : t621 = t623
    ·rw [if_pos c14] at H
     have c14b0 : (t621 == t623) = true := beq_iff_eq.mpr c14
     have c14b1 : (t621 != t623) = false := bne_eq_false_iff_eq.mpr c14
     clear c14
     obtain rfl := Option.some.inj H
     go_wp2_with (first | ((with_reducible refine gate_callee (f := 47) rfl ?_); refine goesL_ (some 17) rfl rfl Tryd.func47 (by kernel_rfl) rfl #[.slice A0 l0.length c0] rfl y2_ ?_; (with_reducible refine (labels_Hash.calls kj1 _ _ l0 t621 t622 _ ?side1 ?side2 ?side3 A12.out).mono ?_); (case side1 => exact ⟨Tab_below hT.out y1_⟩); (case side2 => repeat (first | exact (Kd.C_below HR0.out HB.out) | (with_reducible refine Kd.C_alloc ?_ _) | (with_reducible refine Kd.C_drewN ?_ _) | (with_reducible refine Kd.C_drew ?_))); (case side3 => exact HC0.out); rintro e w15 ⟨rfl, hb⟩; refine ⟨_, rfl, ?_⟩; have n0_ := Aside0.mk (below_step y1_ hb); clear HB; have HB := n0_; clear n0_; (try clear hb); (try clear hb2); (try clear hk); (try clear hi)) | ((with_reducible refine gate_callee (f := 48) rfl ?_); refine goesL_ (some 22) rfl rfl Tryd.func48 (by kernel_rfl) rfl #[.slice A0 l0.length c0] rfl y2_ ?_; (with_reducible refine (manometerref05_Hash.calls kj1 _ _ l0 t623 t624 _ ?side1 ?side2 A13.out).mono ?_); (case side1 => repeat (first | exact (Kd.C_below HR0.out HB.out) | (with_reducible refine Kd.C_alloc ?_ _) | (with_reducible refine Kd.C_drewN ?_ _) | (with_reducible refine Kd.C_drew ?_))); (case side2 => exact HC0.out); rintro e w16 ⟨rfl, hb⟩; refine ⟨_, rfl, ?_⟩; have n0_ := Aside0.mk (below_step y1_ hb); clear HB; have HB := n0_; clear n0_; (try clear hb); (try clear hb2); (try clear hk); (try clear hi)))
     go_ret
     exact ⟨y8_, y1_⟩
    ·rw [if_neg c14] at H
     have c14b0 : (t621 == t623) = false := beq_eq_false_iff_ne.mpr c14
     have c14b1 : (t621 != t623) = true := bne_iff_ne.mpr c14
     obtain rfl := Option.some.inj H
     go_wp2_with (first | ((with_reducible refine gate_callee (f := 47) rfl ?_); refine goesL_ (some 17) rfl rfl Tryd.func47 (by kernel_rfl) rfl #[.slice A0 l0.length c0] rfl y2_ ?_; (with_reducible refine (labels_Hash.calls kj1 _ _ l0 t621 t622 _ ?side1 ?side2 ?side3 A12.out).mono ?_); (case side1 => exact ⟨Tab_below hT.out y1_⟩); (case side2 => repeat (first | exact (Kd.C_below HR0.out HB.out) | (with_reducible refine Kd.C_alloc ?_ _) | (with_reducible refine Kd.C_drewN ?_ _) | (with_reducible refine Kd.C_drew ?_))); (case side3 => exact HC0.out); rintro e w17 ⟨rfl, hb⟩; refine ⟨_, rfl, ?_⟩; have n0_ := Aside0.mk (below_step y1_ hb); clear HB; have HB := n0_; clear n0_; (try clear hb); (try clear hb2); (try clear hk); (try clear hi)) | ((with_reducible refine gate_callee (f := 48) rfl ?_); refine goesL_ (some 22) rfl rfl Tryd.func48 (by kernel_rfl) rfl #[.slice A0 l0.length c0] rfl y2_ ?_; (with_reducible refine (manometerref05_Hash.calls kj1 _ _ l0 t623 t624 _ ?side1 ?side2 A13.out).mono ?_); (case side1 => repeat (first | exact (Kd.C_below HR0.out HB.out) | (with_reducible refine Kd.C_alloc ?_ _) | (with_reducible refine Kd.C_drewN ?_ _) | (with_reducible refine Kd.C_drew ?_))); (case side2 => exact HC0.out); rintro e w18 ⟨rfl, hb⟩; refine ⟨_, rfl, ?_⟩; have n0_ := Aside0.mk (below_step y1_ hb); clear HB; have HB := n0_; clear n0_; (try clear hb); (try clear hb2); (try clear hk); (try clear hi)))
     go_ret
     exact ⟨y8_, y1_⟩
end Go.Proofs.YtdhmabofncbohaaDoor.PLC
