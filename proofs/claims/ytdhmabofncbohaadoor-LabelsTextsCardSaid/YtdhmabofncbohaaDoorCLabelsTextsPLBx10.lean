import Derived.Test.YtdhmabofncbohaaDoorCLabelsTextsPLAx1
import Derived.Test.YtdhmabofncbohaaDoorCLabelsTextsPLBx2
import Derived.Test.YtdhmabofncbohaaDoorCLabelsTextsPLBx5
import Derived.Test.YtdhmabofncbohaaDoorCLabelsTextsPLBx6
import Derived.Test.YtdhmabofncbohaaDoorCLabelsTextsPLBx9
import Derived.Test.YtdhmabofncbohaaDoorCLabelsTextsPLBx7
namespace Go.Proofs.YtdhmabofncbohaaDoor.PLB
open Go.RowKit Go.Proofs.YtdhmabofncbohaaDoorW.PrintWords Go.Proofs.YtdhmabofncbohaaDoorW.PrintLast Go.Proofs.YtdhmabofncbohaaDoorW.PrintMore
attribute [local go_sem] max2_int min2_int max_two min_two max_three min_three max_four min_four
set_option linter.unusedVariables false
set_option linter.unusedSimpArgs false
def manometerlaw05_few.l0 : Nat → List (S44) → Int → Int → Option (Bool)
 | 0, _, _, _ => none
 | k + 1, x8, x9, x10 => if x10 < x9 then (if 0 ≤ x10 then (if x10 < (x8.length : Int) then (if (((rd_T44 x8 x10).f0).size : Int) > 400 then (some false) else (if (((rd_T44 x8 x10).f1).size : Int) > 400 then (some false) else (manometerlaw05_few.l0 k x8 x9 (wrap64 (x10 + 1))))) else (none)) else (none)) else (some true)
def manometerlaw05_few.f (k : Nat) (l0 : List (S44)) : Option (Bool) := if (l0.length : Int) > 60 then (some false) else (manometerlaw05_few.l0 k l0 (l0.length : Int) 0)
set_option maxHeartbeats 8000000 in
set_option maxRecDepth 100000 in
theorem manometerlaw05_few.calls (k : Nat) (A0 : Option Addr) (c0 : Nat) (l0 : List (S44)) (r : Bool) (w : World) (hr0 : Kd.C k44 w A0 l0.length l0) (hc0 : l0.length ≤ c0) (h : manometerlaw05_few.f k l0 = some r) :
  Calls Tryd.prog 24 #[.slice A0 l0.length c0] w fun e w' => e = .returned (.bool r) ∧ Below w.heap.size w w' := by
 have hu44 := Tryd.underlying44
 have HR0 := Aside0.mk hr0
 have HC0 := Aside0.mk hc0
 clear hr0 hc0
 have HB := Aside0.mk (Below.refl w.heap.size w)
 have H : (if (l0.length : Int) > 60 then (some false) else (manometerlaw05_few.l0 k l0 (l0.length : Int) 0)) = some r := h
 clear h
 by_cases c2 : (l0.length : Int) > 60
 ·rw [if_pos c2] at H
  have c2b0 : decide (60 < (l0.length : Int)) = true := decide_eq_true c2
  have c2b1 : decide (60 < l0.length) = true := decide_eq_true (by omega)
  clear c2
  obtain rfl := Option.some.inj H
  go_enter Tryd.func24, Tryd.ntmps24
  go_wp2
  go_ret
  exact ⟨y7_, y1_⟩
 ·rw [if_neg c2] at H
  have c2b0 : decide (60 < (l0.length : Int)) = false := decide_eq_false c2
  have c2b1 : decide (60 < l0.length) = false := decide_eq_false (by omega)
  clear c2
  have H' := Aside0.mk H
  clear H
  go_enter Tryd.func24, Tryd.ntmps24
  go_wp2
  go_loopg [10] k (fun kq v10 w' => ∃ (x10_1 : Int), v10 = .int .i64 x10_1 ∧ Aside0 (manometerlaw05_few.l0 kq l0 (l0.length : Int) x10_1 = some r) ∧ Aside0 (kq ≤ k) ∧ Aside0 (Below w.heap.size w w'))
  case atStart => exact ⟨(0), y5_, H', ⟨Nat.le_refl _⟩, ⟨y1_⟩⟩
  case round =>
   clear H'
   try clear c2
   try clear c2b0
   try clear c2b1
   try clear p2
   obtain ⟨x10_1, rfl, HA, HK1, HB⟩ := hrel
   cases gk with
   | zero => exact absurd HA.out (by simp [manometerlaw05_few.l0])
   | succ k1 =>
    have H := HA.out
    clear HA
    simp only [manometerlaw05_few.l0] at H
    by_cases c3 : x10_1 < (l0.length : Int)
    ·rw [if_pos c3] at H
     have c3b0 : decide (x10_1 < (l0.length : Int)) = true := decide_eq_true c3
     clear c3
     by_cases c4 : 0 ≤ x10_1
     ·rw [if_pos c4] at H
      have c4b0 : decide (0 ≤ x10_1) = true := decide_eq_true c4
      clear c4
      by_cases c5 : x10_1 < (l0.length : Int)
      ·rw [if_pos c5] at H
       have c5b0 : decide (x10_1 < (l0.length : Int)) = true := decide_eq_true c5
       clear c5
       by_cases c6 : (((rd_T44 l0 x10_1).f0).size : Int) > 400
       ·rw [if_pos c6] at H
        have c6b0 : decide (400 < (((rd_T44 l0 x10_1).f0).size : Int)) = true := decide_eq_true c6
        have c6b1 : decide (400 < ((rd_T44 l0 x10_1).f0).size) = true := decide_eq_true (by omega)
        clear c6
        obtain rfl := Option.some.inj H
        have p268 : 0 ≤ (x10_1 : Int) := of_decide_eq_true y3_
        have q268 : x10_1 < (l0.length : Int) := of_decide_eq_true y3_
        obtain ⟨ad268, e268, hx268_0, hx268_1⟩ := at_T44 HR0.out x10_1 p268 q268
        cases e268
        replace hx268_0 := (HB.out.cell (World.block_lt_of_cell? w _ hx268_0)).trans hx268_0
        replace hx268_1 := (HB.out.cell (World.block_lt_of_cell? w _ hx268_1)).trans hx268_1
        replace p268 := eq_true p268
        replace q268 := eq_true q268
        go_wp2_with (first | ((with_reducible refine gate_dst (N := 4) rfl ?_); (try (refine gate_guard (by rfl) ?_; dsimp only)); refine box_event ?hg (N := 4) ?hd (cs := #[.string (⟨#[]⟩ : ByteArray), .string (⟨#[]⟩ : ByteArray)]) (t := 44) ?hr ?_; (case hd => rfl); (case hg => rfl); (case hr => first | (go_simp; done) | (go_simp; rfl)); intro gb269 hg w7 hbox hb; have n0_ := Aside0.mk (below_step y1_ hb); have n1_ := Aside0.mk (hbox); have n2_ := Aside0.mk ((y13_ : w.heap.size ≤ gb269)); have n3_ := Aside0.mk ((y13_ : w.heap.size ≤ gb269)); clear HB; have HB := n0_; have BK269 := n1_; have GW269 := n2_; have GE269 := n3_; clear n0_ n1_ n2_ n3_; clear hb hbox hg; have hcz8_0 : w7.cell? ⟨gb269, 0, none⟩ = some (.string (⟨#[]⟩ : ByteArray)) := (blk_cell BK269.out 0).trans rfl; have hcz8_1 : w7.cell? ⟨gb269, 1, none⟩ = some (.string (⟨#[]⟩ : ByteArray)) := (blk_cell BK269.out 1).trans rfl; have hfz8_0 := blk_frozen BK269.out 0; have hfz8_1 := blk_frozen BK269.out 1))
        go_ret
        exact ⟨y7_, y66_⟩
       ·rw [if_neg c6] at H
        have c6b0 : decide (400 < (((rd_T44 l0 x10_1).f0).size : Int)) = false := decide_eq_false c6
        have c6b1 : decide (400 < ((rd_T44 l0 x10_1).f0).size) = false := decide_eq_false (by omega)
        clear c6
        by_cases c9 : (((rd_T44 l0 x10_1).f1).size : Int) > 400
        ·rw [if_pos c9] at H
         have c9b0 : decide (400 < (((rd_T44 l0 x10_1).f1).size : Int)) = true := decide_eq_true c9
         have c9b1 : decide (400 < ((rd_T44 l0 x10_1).f1).size) = true := decide_eq_true (by omega)
         clear c9
         obtain rfl := Option.some.inj H
         have p268 : 0 ≤ (x10_1 : Int) := of_decide_eq_true y3_
         have q268 : x10_1 < (l0.length : Int) := of_decide_eq_true y3_
         obtain ⟨ad268, e268, hx268_0, hx268_1⟩ := at_T44 HR0.out x10_1 p268 q268
         cases e268
         replace hx268_0 := (HB.out.cell (World.block_lt_of_cell? w _ hx268_0)).trans hx268_0
         replace hx268_1 := (HB.out.cell (World.block_lt_of_cell? w _ hx268_1)).trans hx268_1
         replace p268 := eq_true p268
         replace q268 := eq_true q268
         go_wp2_with (first | ((with_reducible refine gate_dst (N := 4) rfl ?_); (try (refine gate_guard (by rfl) ?_; dsimp only)); refine box_event ?hg (N := 4) ?hd (cs := #[.string (⟨#[]⟩ : ByteArray), .string (⟨#[]⟩ : ByteArray)]) (t := 44) ?hr ?_; (case hd => rfl); (case hg => rfl); (case hr => first | (go_simp; done) | (go_simp; rfl)); intro gb269 hg w10 hbox hb; have n0_ := Aside0.mk (below_step y1_ hb); have n1_ := Aside0.mk (hbox); have n2_ := Aside0.mk ((y13_ : w.heap.size ≤ gb269)); have n3_ := Aside0.mk ((y13_ : w.heap.size ≤ gb269)); clear HB; have HB := n0_; have BK269 := n1_; have GW269 := n2_; have GE269 := n3_; clear n0_ n1_ n2_ n3_; clear hb hbox hg; have hcz11_0 : w10.cell? ⟨gb269, 0, none⟩ = some (.string (⟨#[]⟩ : ByteArray)) := (blk_cell BK269.out 0).trans rfl; have hcz11_1 : w10.cell? ⟨gb269, 1, none⟩ = some (.string (⟨#[]⟩ : ByteArray)) := (blk_cell BK269.out 1).trans rfl; have hfz11_0 := blk_frozen BK269.out 0; have hfz11_1 := blk_frozen BK269.out 1))
         go_ret
         exact ⟨y7_, y66_⟩
        ·rw [if_neg c9] at H
         have c9b0 : decide (400 < (((rd_T44 l0 x10_1).f1).size : Int)) = false := decide_eq_false c9
         have c9b1 : decide (400 < ((rd_T44 l0 x10_1).f1).size) = false := decide_eq_false (by omega)
         clear c9
         have H' := Aside0.mk H
         clear H
         have p268 : 0 ≤ (x10_1 : Int) := of_decide_eq_true y3_
         have q268 : x10_1 < (l0.length : Int) := of_decide_eq_true y3_
         obtain ⟨ad268, e268, hx268_0, hx268_1⟩ := at_T44 HR0.out x10_1 p268 q268
         cases e268
         replace hx268_0 := (HB.out.cell (World.block_lt_of_cell? w _ hx268_0)).trans hx268_0
         replace hx268_1 := (HB.out.cell (World.block_lt_of_cell? w _ hx268_1)).trans hx268_1
         replace p268 := eq_true p268
         replace q268 := eq_true q268
         go_wp2_with (first | ((with_reducible refine gate_dst (N := 4) rfl ?_); (try (refine gate_guard (by rfl) ?_; dsimp only)); refine box_event ?hg (N := 4) ?hd (cs := #[.string (⟨#[]⟩ : ByteArray), .string (⟨#[]⟩ : ByteArray)]) (t := 44) ?hr ?_; (case hd => rfl); (case hg => rfl); (case hr => first | (go_simp; done) | (go_simp; rfl)); intro gb269 hg w12 hbox hb; have n0_ := Aside0.mk (below_step y1_ hb); have n1_ := Aside0.mk (hbox); have n2_ := Aside0.mk ((y13_ : w.heap.size ≤ gb269)); have n3_ := Aside0.mk ((y13_ : w.heap.size ≤ gb269)); clear HB; have HB := n0_; have BK269 := n1_; have GW269 := n2_; have GE269 := n3_; clear n0_ n1_ n2_ n3_; clear hb hbox hg; have hcz13_0 : w12.cell? ⟨gb269, 0, none⟩ = some (.string (⟨#[]⟩ : ByteArray)) := (blk_cell BK269.out 0).trans rfl; have hcz13_1 : w12.cell? ⟨gb269, 1, none⟩ = some (.string (⟨#[]⟩ : ByteArray)) := (blk_cell BK269.out 1).trans rfl; have hfz13_0 := blk_frozen BK269.out 0; have hfz13_1 := blk_frozen BK269.out 1))
         go_roundg k1
         case measure => have := HK1.out; omega
         case rel => exact ⟨(wrap64 (x10_1 + 1)), y5_, H', ⟨y60_⟩, ⟨y66_⟩⟩
      ·rw [if_neg c5] at H
       exact absurd H (by simp)
     ·rw [if_neg c4] at H
      exact absurd H (by simp)
    ·rw [if_neg c3] at H
     have c3b0 : decide (x10_1 < (l0.length : Int)) = false := decide_eq_false c3
     clear c3
     obtain rfl := Option.some.inj H
     go_wp2
     go_ret
     exact ⟨y7_, y1_⟩
def manometerref05_put.l0 : Nat → List (S44) → List (S44) → ByteArray → ByteArray → Option ((List (S44)))
 | 0, _, _, _, _ => none
 | k + 1, x0, x5, x271000, x271001 => if (x0.length : Int) > 0 then (if 0 < (x0.length : Int) then (if (Op.bytesLess (((rd_T44 x0 0).f0).toList) x271000.toList) = true then (if x5.length < 4398046511104 then (if 1 ≤ (x0.length : Int) then (manometerref05_put.l0 k (x0.drop 1) (x5 ++ [(⟨(rd_T44 x0 0).f0, (rd_T44 x0 0).f1⟩ : S44)]) x271000 x271001) else (none)) else (none)) else (if x5.length < 4398046511104 then ((some (x5 ++ [(⟨x271000, x271001⟩ : S44)] : List (S44))).bind fun y284 => (if y284.length + x0.length < 4398046511104 then (some (y284 ++ x0)) else (none))) else (none))) else (none)) else (if x5.length < 4398046511104 then ((some (x5 ++ [(⟨x271000, x271001⟩ : S44)] : List (S44))).bind fun y290 => (if y290.length + x0.length < 4398046511104 then (some (y290 ++ x0)) else (none))) else (none))
def manometerref05_put.f (k : Nat) (l0 : List (S44)) (a1_0 : ByteArray) (a1_1 : ByteArray) : Option ((List (S44))) := manometerref05_put.l0 k l0 (([] : List (S44))) a1_0 a1_1
set_option maxHeartbeats 8000000 in
set_option maxRecDepth 100000 in
theorem manometerref05_put.calls (k : Nat) (P0_ : Nat → Prop) (A0 : Option Addr) (c0 : Nat) (l0 : List (S44)) (a1_0 : ByteArray) (a1_1 : ByteArray) (r : List (S44)) (w : World) (hs0 : Kd.V k44 44 w w.heap.size (fun k_ => P0_ k_) (.slice A0 l0.length c0) l0) (h : manometerref05_put.f k l0 a1_0 a1_1 = some r) :
  Calls Tryd.prog 66 #[.slice A0 l0.length c0, .agg #[.string a1_0, .string a1_1]] w fun e w' => ∃ v0_ : Value, e = .returned (v0_) ∧ Kd.R k44 44 w' w.heap.size (fun k_ => (w.heap.size ≤ k_)) v0_ r ∧ Below w.heap.size w w' := by
 have hu44 := Tryd.underlying44
 have HO0 := Aside0.mk (show Kd.V k44 44 w w.heap.size (fun k_ => (P0_ k_ ∨ w.heap.size ≤ k_)) (.slice A0 l0.length c0) l0 from Kd.V_mono hs0 (fun k_ hk => .inl hk))
 have HB := Aside0.mk (Below.refl w.heap.size w)
 have H : (manometerref05_put.l0 k l0 (([] : List (S44))) a1_0 a1_1) = some r := h
 clear h
 obtain ⟨y271, hy271⟩ : ∃ y_ : List (S44), y_ = (([] : List (S44))) := ⟨_, rfl⟩
 replace H : (manometerref05_put.l0 k l0 y271 a1_0 a1_1) = some r := by first | (rw [hy271]; with_reducible exact H) | (have H2_ := (Option.bind_some _ _).symm.trans H; rw [hy271]; with_reducible exact H2_) | (have H2_ := (Option.bind_some _ _).symm.trans H; with_reducible exact H2_) | with_reducible exact H | (rw [hy271]; exact H) | exact H
 have Ny271 := Aside0.mk hy271
 clear hy271
 have H' := Aside0.mk H
 clear H
 go_enter Tryd.func66, Tryd.ntmps66
 go_wp2_with (first | ((with_reducible refine gate_dst (N := 3) rfl ?_); refine box_event ?hg (N := 3) ?hd (cs := #[.string a1_0, .string a1_1]) (t := 44) ?hr ?_; (case hd => rfl); (case hg => rfl); (case hr => first | (go_simp; done) | (go_simp; rfl)); intro gb270 hg w3 hbox hb; have n0_ := Aside0.mk (Kd.V_below (Kd.V_elderB y53_ gb270 (Nat.le_of_eq hg.symm)) hb); have n1_ := Aside0.mk (below_step y1_ hb); have n2_ := Aside0.mk (hbox); have n3_ := Aside0.mk ((y13_ : w.heap.size ≤ gb270)); have n4_ := Aside0.mk ((y13_ : w.heap.size ≤ gb270)); clear HO0; clear HB; have HO0 := n0_; have HB := n1_; have BK270 := n2_; have GW270 := n3_; have GE270 := n4_; clear n0_ n1_ n2_ n3_ n4_; clear hb hbox hg) | ((with_reducible refine gate_dst (N := 6) rfl ?_); refine Kd.R_lit k44 _ 44 ?hg (N := 6) ?hd (xs := ([] : List (S44))) (inner := []) (ok := fun _ => True) (okp := fun _ => True) ?hr ?hp (fun _ hk => hk) trivial (Below.refl _ _) (Nat.le_refl _) (by simp) ?_; (case hd => rfl); (case hg => rfl); (case hr => first | (go_simp; done) | (go_simp; rfl)); (case hp => exact (Reps.none _ _)); intro v272 w4 ho5 hb hg_ hnew_; clear hg_ hnew_; (first | rw [← Ny271.out] at ho5 | (simp only [Int.reduceToNat] at ho5; rw [← Ny271.out] at ho5)); have n0_ := Aside0.mk (Kd.V_elder' y53_ (Kd.R_base ho5) hb); have n1_ := Aside0.mk (Kd.R_lower (Kd.R_newB (Kd.R_newM (M := fun k_ => (w.heap.size ≤ k_)) ho5 (below_size y4_) (fun k_ h_ => h_)) (g := gb270) (o := .cells #[.string a1_0, .string a1_1] 44 (0, 0)) y8_) (below_size y4_)); have n2_ := Aside0.mk (blk_below (g := gb270) (o := .cells #[.string a1_0, .string a1_1] 44 (0, 0)) y8_ hb); have n3_ := Aside0.mk (below_step y4_ hb); clear HO0; clear BK270; clear HB; have HO0 := n0_; have HO273 := n1_; have BK270 := n2_; have HB := n3_; clear n0_ n1_ n2_ n3_; clear hb ho5))
 repeat (go_quiet (first | ((with_reducible refine gate_dst (N := 3) rfl ?_); refine box_event ?hg (N := 3) ?hd (cs := #[.string a1_0, .string a1_1]) (t := 44) ?hr ?_; (case hd => rfl); (case hg => rfl); (case hr => first | (go_simp; done) | (go_simp; rfl)); intro gb270 hg w3 hbox hb; have n0_ := Aside0.mk (Kd.V_below (Kd.V_elderB y53_ gb270 (Nat.le_of_eq hg.symm)) hb); have n1_ := Aside0.mk (below_step y1_ hb); have n2_ := Aside0.mk (hbox); have n3_ := Aside0.mk ((y13_ : w.heap.size ≤ gb270)); have n4_ := Aside0.mk ((y13_ : w.heap.size ≤ gb270)); clear HO0; clear HB; have HO0 := n0_; have HB := n1_; have BK270 := n2_; have GW270 := n3_; have GE270 := n4_; clear n0_ n1_ n2_ n3_ n4_; clear hb hbox hg) | ((with_reducible refine gate_dst (N := 6) rfl ?_); refine Kd.R_lit k44 _ 44 ?hg (N := 6) ?hd (xs := ([] : List (S44))) (inner := []) (ok := fun _ => True) (okp := fun _ => True) ?hr ?hp (fun _ hk => hk) trivial (Below.refl _ _) (Nat.le_refl _) (by simp) ?_; (case hd => rfl); (case hg => rfl); (case hr => first | (go_simp; done) | (go_simp; rfl)); (case hp => exact (Reps.none _ _)); intro v272 w4 ho5 hb hg_ hnew_; clear hg_ hnew_; (first | rw [← Ny271.out] at ho5 | (simp only [Int.reduceToNat] at ho5; rw [← Ny271.out] at ho5)); have n0_ := Aside0.mk (Kd.V_elder' y53_ (Kd.R_base ho5) hb); have n1_ := Aside0.mk (Kd.R_lower (Kd.R_newB (Kd.R_newM (M := fun k_ => (w.heap.size ≤ k_)) ho5 (below_size y4_) (fun k_ h_ => h_)) (g := gb270) (o := .cells #[.string a1_0, .string a1_1] 44 (0, 0)) y8_) (below_size y4_)); have n2_ := Aside0.mk (blk_below (g := gb270) (o := .cells #[.string a1_0, .string a1_1] 44 (0, 0)) y8_ hb); have n3_ := Aside0.mk (below_step y4_ hb); clear HO0; clear BK270; clear HB; have HO0 := n0_; have HO273 := n1_; have BK270 := n2_; have HB := n3_; clear n0_ n1_ n2_ n3_; clear hb ho5)); try go_wp2_with (first | ((with_reducible refine gate_dst (N := 3) rfl ?_); refine box_event ?hg (N := 3) ?hd (cs := #[.string a1_0, .string a1_1]) (t := 44) ?hr ?_; (case hd => rfl); (case hg => rfl); (case hr => first | (go_simp; done) | (go_simp; rfl)); intro gb270 hg w3 hbox hb; have n0_ := Aside0.mk (Kd.V_below (Kd.V_elderB y53_ gb270 (Nat.le_of_eq hg.symm)) hb); have n1_ := Aside0.mk (below_step y1_ hb); have n2_ := Aside0.mk (hbox); have n3_ := Aside0.mk ((y13_ : w.heap.size ≤ gb270)); have n4_ := Aside0.mk ((y13_ : w.heap.size ≤ gb270)); clear HO0; clear HB; have HO0 := n0_; have HB := n1_; have BK270 := n2_; have GW270 := n3_; have GE270 := n4_; clear n0_ n1_ n2_ n3_ n4_; clear hb hbox hg) | ((with_reducible refine gate_dst (N := 6) rfl ?_); refine Kd.R_lit k44 _ 44 ?hg (N := 6) ?hd (xs := ([] : List (S44))) (inner := []) (ok := fun _ => True) (okp := fun _ => True) ?hr ?hp (fun _ hk => hk) trivial (Below.refl _ _) (Nat.le_refl _) (by simp) ?_; (case hd => rfl); (case hg => rfl); (case hr => first | (go_simp; done) | (go_simp; rfl)); (case hp => exact (Reps.none _ _)); intro v272 w4 ho5 hb hg_ hnew_; clear hg_ hnew_; (first | rw [← Ny271.out] at ho5 | (simp only [Int.reduceToNat] at ho5; rw [← Ny271.out] at ho5)); have n0_ := Aside0.mk (Kd.V_elder' y53_ (Kd.R_base ho5) hb); have n1_ := Aside0.mk (Kd.R_lower (Kd.R_newB (Kd.R_newM (M := fun k_ => (w.heap.size ≤ k_)) ho5 (below_size y4_) (fun k_ h_ => h_)) (g := gb270) (o := .cells #[.string a1_0, .string a1_1] 44 (0, 0)) y8_) (below_size y4_)); have n2_ := Aside0.mk (blk_below (g := gb270) (o := .cells #[.string a1_0, .string a1_1] 44 (0, 0)) y8_ hb); have n3_ := Aside0.mk (below_step y4_ hb); clear HO0; clear BK270; clear HB; have HO0 := n0_; have HO273 := n1_; have BK270 := n2_; have HB := n3_; clear n0_ n1_ n2_ n3_; clear hb ho5)))
 go_loopg [0, 5] k (fun kq v0 v5 w' => ∃ (x0_1 : List (S44)) (x5_1 : List (S44)), Aside0 (manometerref05_put.l0 kq x0_1 x5_1 a1_0 a1_1 = some r) ∧ Aside0 (kq ≤ k) ∧ Aside0 (Kd.V k44 44 w' w.heap.size (fun k_ => (P0_ k_ ∨ w.heap.size ≤ k_) ∧ some k_ ≠ (v5 : Value).ownBlock ∧ k_ ≠ gb270) v0 x0_1) ∧ Aside0 (Kd.R k44 44 w' w.heap.size (fun k_ => (w.heap.size ≤ k_) ∧ k_ ≠ gb270) v5 x5_1) ∧ Aside0 (w'.heap[gb270]? = some (.cells #[.string a1_0, .string a1_1] 44 (0, 0))) ∧ Aside0 (Below w.heap.size w w'))
 case atStart => exact ⟨(l0), (y271), H', ⟨Nat.le_refl _⟩, ⟨by (with_reducible repeat (first | apply Kd.V_alloc | apply Kd.V_drewN | apply Kd.V_drew)); exact Kd.V_mono HO0.out (fun _ hk => ⟨hk.1.1, ⟨hk.2, hk.1.2⟩⟩)⟩, ⟨by (with_reducible repeat (first | apply Kd.R_alloc | apply Kd.R_drewN | apply Kd.R_drew)); exact Kd.R_mono HO273.out (fun _ hk => ⟨hk.1.1, hk.2⟩)⟩, ⟨y8_⟩, ⟨y4_⟩⟩
 case round =>
  clear H'
  try clear p2
  obtain ⟨x0_1, x5_1, HA, HK1, HO_0, HO_5, BK270, HB⟩ := hrel
  cases gk with
  | zero => exact absurd HA.out (by simp [manometerref05_put.l0])
  | succ k1 =>
   have H := HA.out
   clear HA
   simp only [manometerref05_put.l0] at H
   by_cases c6 : (x0_1.length : Int) > 0
   ·rw [if_pos c6] at H
    have c6b0 : decide (0 < (x0_1.length : Int)) = true := decide_eq_true c6
    have c6b1 : decide (0 < x0_1.length) = true := decide_eq_true (by omega)
    clear c6
    by_cases c7 : 0 < (x0_1.length : Int)
    ·rw [if_pos c7] at H
     have c7b0 : decide (0 < (x0_1.length : Int)) = true := decide_eq_true c7
     have c7b1 : decide (0 < x0_1.length) = true := decide_eq_true (by omega)
     clear c7
     by_cases c8 : (Op.bytesLess (((rd_T44 x0_1 0).f0).toList) a1_0.toList) = true
     ·rw [if_pos c8] at H
      have c8b0 : (Op.bytesLess (((rd_T44 x0_1 0).f0).toList) a1_0.toList) = true := c8
      clear c8
      by_cases c9 : x5_1.length < 4398046511104
      ·rw [if_pos c9] at H
       have LMc9 := Aside0.mk c9
       clear c9
       obtain ⟨y276, hy276⟩ : ∃ y_ : List (S44), y_ = (x5_1 ++ [(⟨(rd_T44 x0_1 0).f0, (rd_T44 x0_1 0).f1⟩ : S44)]) := ⟨_, rfl⟩
       replace H : (if 1 ≤ (x0_1.length : Int) then (manometerref05_put.l0 k1 (x0_1.drop 1) y276 a1_0 a1_1) else (none)) = some r := by first | (rw [hy276]; with_reducible exact H) | (have H2_ := (Option.bind_some _ _).symm.trans H; rw [hy276]; with_reducible exact H2_) | (have H2_ := (Option.bind_some _ _).symm.trans H; with_reducible exact H2_) | with_reducible exact H | (rw [hy276]; exact H) | exact H
       have Ny276 := Aside0.mk hy276
       clear hy276
       by_cases c10 : 1 ≤ (x0_1.length : Int)
       ·rw [if_pos c10] at H
        have c10b0 := eq_true c10
        have c10b1 : decide (1 ≤ (x0_1.length : Int)) = true := decide_eq_true c10
        clear c10
        obtain ⟨y279, hy279⟩ : ∃ y_ : List (S44), y_ = (x0_1.drop 1) := ⟨_, rfl⟩
        replace H : (manometerref05_put.l0 k1 y279 y276 a1_0 a1_1) = some r := by first | (rw [hy279]; with_reducible exact H) | (have H2_ := (Option.bind_some _ _).symm.trans H; rw [hy279]; with_reducible exact H2_) | (have H2_ := (Option.bind_some _ _).symm.trans H; with_reducible exact H2_) | with_reducible exact H | (rw [hy279]; exact H) | exact H
        have Ny279 := Aside0.mk hy279
        clear hy279
        have H' := Aside0.mk H
        clear H
        obtain ⟨Ao11, co11, eo11⟩ := Kd.V_slice HO_0.out
        subst eo11
        have p274 : 0 ≤ (0 : Int) := (by omega)
        have q274 : 0 < (x0_1.length : Int) := of_decide_eq_true y3_
        obtain ⟨ad274, e274, hx274_0, hx274_1⟩ := at_T44 (Kd.V_reads' HO_0.out).2.2 0 p274 q274
        cases e274
        have qi274 : (0 < x0_1.length) = True := eq_true (by omega)
        (try rw [show ((0 : Int)).toNat = 0 from rfl] at hx274_0)
        (try rw [show 0 * 2 = 0 from rfl] at hx274_0)
        (try rw [Addr.add_zero'] at hx274_0)
        (try rw [show ((0 : Int)).toNat = 0 from rfl] at hx274_1)
        (try rw [show 0 * 2 = 0 from rfl] at hx274_1)
        (try rw [Addr.add_zero'] at hx274_1)
        replace p274 := eq_true p274
        replace q274 := eq_true q274
        have hcz12_0 : wr.cell? ⟨gb270, 0, none⟩ = some (.string a1_0) := (blk_cell BK270.out 0).trans rfl
        have hcz12_1 : wr.cell? ⟨gb270, 1, none⟩ = some (.string a1_1) := (blk_cell BK270.out 1).trans rfl
        have hfz12_0 := blk_frozen BK270.out 0
        have hfz12_1 := blk_frozen BK270.out 1
        have p275 : 0 ≤ (0 : Int) := (by omega)
        have q275 : 0 < (x0_1.length : Int) := of_decide_eq_true y3_
        obtain ⟨ad275, e275, hx275_0, hx275_1⟩ := at_T44 (Kd.V_reads' HO_0.out).2.2 0 p275 q275
        obtain rfl : ad274 = ad275 := (by injection e275)
        have qi275 : (0 < x0_1.length) = True := eq_true (by omega)
        (try rw [show ((0 : Int)).toNat = 0 from rfl] at hx275_0)
        (try rw [show 0 * 2 = 0 from rfl] at hx275_0)
        (try rw [Addr.add_zero'] at hx275_0)
        (try rw [show ((0 : Int)).toNat = 0 from rfl] at hx275_1)
        (try rw [show 0 * 2 = 0 from rfl] at hx275_1)
        (try rw [Addr.add_zero'] at hx275_1)
        replace p275 := eq_true p275
        replace q275 := eq_true q275
        go_wp2_with (first | ((with_reducible refine gate_builtin (b := .append) (xs := #[.tmp 19, .tmp 23]) rfl ?_); at_builtin; refine Kd.R_append k44 (w0 := w) w.heap.size rfl (.tmp 19) (.tmp 23) 29 44 (.agg #[(.string ⟨#[]⟩), (.string ⟨#[]⟩)]) 32 rfl Tryd.underlying29 info44 rfl (by decide) (by omega) u5 x5_1 (⟨(rd_T44 x0_1 0).f0, (rd_T44 x0_1 0).f1⟩ : S44) [.string ((rd_T44 x0_1 0).f0), .string ((rd_T44 x0_1 0).f1)] (fun k_ => (w.heap.size ≤ k_) ∧ k_ ≠ gb270) (fun _ => False) rfl rfl ?aP (fun _ hk => hk.elim) ?aF ?aO ?aB ?aS ?aL ?_; (case aP => exact k44_mkM _ _ _ (⟨(rd_T44 x0_1 0).f0, (rd_T44 x0_1 0).f1⟩ : S44)); (case aB => exact y4_); (case aF => exact (fun k_ hk => ⟨(Nat.le_trans (below_size y4_) hk), Kd.freshB (g := gb270) (o := .cells #[.string a1_0, .string a1_1] 44 (0, 0)) y8_ k_ hk⟩)); (case aO => exact y15_); (case aS => exact (below_size y4_)); (case aL => have := LMc9.out; omega); intro v277 w13 ho hb hg hat; rw [← Ny276.out] at ho; have n0_ := Aside0.mk (Kd.V_afterv (ok := (fun k_ => (P0_ k_ ∨ w.heap.size ≤ k_) ∧ k_ ≠ gb270)) y28_ hg hat); have n1_ := Aside0.mk (blk_grown (g := gb270) (o := .cells #[.string a1_0, .string a1_1] 44 (0, 0)) y8_ hg (Kd.R_away HO_5.out (fun _ hk => hk.2))); have n2_ := Aside0.mk (hb); have n3_ := Aside0.mk (ho); clear HO_0; clear BK270; clear HB; clear HO_5; have HO_0 := n0_; have BK270 := n1_; have HB := n2_; have HO278 := n3_; clear n0_ n1_ n2_ n3_; clear ho hb hg hat; have q14 : (1 : Int) ≤ ((x0_1.length : Int) : Int) := of_decide_eq_true y3_; obtain ⟨i014, hi014, _, hsz14, _⟩ := info_parts info44; have hroom14 : x0_1.length ≤ co11 := (Kd.V_reads' HO_0.out).2.1; have hC14 : Kd.F k44 _ _ (some ad274) x0_1.length x0_1 := (Kd.V_at (base := w.heap.size) HO_0.out).2.2; have hcut14 := cut_from (P := Tryd.prog) 29 44 .i64 Tryd.underlying29 hi014 2 hsz14 (some ad274) x0_1.length co11 1 (by omega) q14; have hr14 := Kd.F_cut (m := (1 : Int).toNat) (c := co11) hC14 (by omega) hroom14; obtain ⟨A14, hA14⟩ : ∃ A1, A1 = (if co11 = (1 : Int).toNat then (some ad274) else ((some ad274) : Option Addr).map (·.add ((1 : Int).toNat * 2))) := ⟨_, rfl⟩; obtain ⟨c14, hc14⟩ : ∃ c1, c1 = co11 - (1 : Int).toNat := ⟨_, rfl⟩; have hy14 : y279.length = x0_1.length - (1 : Int).toNat := (by rw [Ny279.out, List.length_drop] <;> omega); rw [show (x0_1).drop (1 : Int).toNat = y279 from Ny279.out.symm] at hr14; replace hr14 : Kd.F k44 _ _ A14 y279.length y279 := (by rw [hA14]; exact hr14); rw [← hy14, ← hA14, ← hc14] at hcut14; have HO283 := Aside0.mk (show Kd.V k44 44 _ w.heap.size _ (.slice A14 y279.length c14) y279 from Kd.V_mk (by rw [hy14, hc14]; exact Nat.sub_le_sub_right hroom14 _) hr14); have HC283 := Aside0.mk (show y279.length ≤ c14 from by rw [hy14, hc14]; exact Nat.sub_le_sub_right hroom14 _); clear hr14 hC14 hroom14 hi014 hsz14 hc14; have KY14 := Aside0.mk hy14; have KA14 := Aside0.mk hA14; clear hy14 hA14; replace q14 := eq_true q14))
        repeat (go_quiet (first | ((with_reducible refine gate_builtin (b := .append) (xs := #[.tmp 19, .tmp 23]) rfl ?_); at_builtin; refine Kd.R_append k44 (w0 := w) w.heap.size rfl (.tmp 19) (.tmp 23) 29 44 (.agg #[(.string ⟨#[]⟩), (.string ⟨#[]⟩)]) 32 rfl Tryd.underlying29 info44 rfl (by decide) (by omega) u5 x5_1 (⟨(rd_T44 x0_1 0).f0, (rd_T44 x0_1 0).f1⟩ : S44) [.string ((rd_T44 x0_1 0).f0), .string ((rd_T44 x0_1 0).f1)] (fun k_ => (w.heap.size ≤ k_) ∧ k_ ≠ gb270) (fun _ => False) rfl rfl ?aP (fun _ hk => hk.elim) ?aF ?aO ?aB ?aS ?aL ?_; (case aP => exact k44_mkM _ _ _ (⟨(rd_T44 x0_1 0).f0, (rd_T44 x0_1 0).f1⟩ : S44)); (case aB => exact y4_); (case aF => exact (fun k_ hk => ⟨(Nat.le_trans (below_size y4_) hk), Kd.freshB (g := gb270) (o := .cells #[.string a1_0, .string a1_1] 44 (0, 0)) y8_ k_ hk⟩)); (case aO => exact y15_); (case aS => exact (below_size y4_)); (case aL => have := LMc9.out; omega); intro v277 w13 ho hb hg hat; rw [← Ny276.out] at ho; have n0_ := Aside0.mk (Kd.V_afterv (ok := (fun k_ => (P0_ k_ ∨ w.heap.size ≤ k_) ∧ k_ ≠ gb270)) y28_ hg hat); have n1_ := Aside0.mk (blk_grown (g := gb270) (o := .cells #[.string a1_0, .string a1_1] 44 (0, 0)) y8_ hg (Kd.R_away HO_5.out (fun _ hk => hk.2))); have n2_ := Aside0.mk (hb); have n3_ := Aside0.mk (ho); clear HO_0; clear BK270; clear HB; clear HO_5; have HO_0 := n0_; have BK270 := n1_; have HB := n2_; have HO278 := n3_; clear n0_ n1_ n2_ n3_; clear ho hb hg hat; have q14 : (1 : Int) ≤ ((x0_1.length : Int) : Int) := of_decide_eq_true y3_; obtain ⟨i014, hi014, _, hsz14, _⟩ := info_parts info44; have hroom14 : x0_1.length ≤ co11 := (Kd.V_reads' HO_0.out).2.1; have hC14 : Kd.F k44 _ _ (some ad274) x0_1.length x0_1 := (Kd.V_at (base := w.heap.size) HO_0.out).2.2; have hcut14 := cut_from (P := Tryd.prog) 29 44 .i64 Tryd.underlying29 hi014 2 hsz14 (some ad274) x0_1.length co11 1 (by omega) q14; have hr14 := Kd.F_cut (m := (1 : Int).toNat) (c := co11) hC14 (by omega) hroom14; obtain ⟨A14, hA14⟩ : ∃ A1, A1 = (if co11 = (1 : Int).toNat then (some ad274) else ((some ad274) : Option Addr).map (·.add ((1 : Int).toNat * 2))) := ⟨_, rfl⟩; obtain ⟨c14, hc14⟩ : ∃ c1, c1 = co11 - (1 : Int).toNat := ⟨_, rfl⟩; have hy14 : y279.length = x0_1.length - (1 : Int).toNat := (by rw [Ny279.out, List.length_drop] <;> omega); rw [show (x0_1).drop (1 : Int).toNat = y279 from Ny279.out.symm] at hr14; replace hr14 : Kd.F k44 _ _ A14 y279.length y279 := (by rw [hA14]; exact hr14); rw [← hy14, ← hA14, ← hc14] at hcut14; have HO283 := Aside0.mk (show Kd.V k44 44 _ w.heap.size _ (.slice A14 y279.length c14) y279 from Kd.V_mk (by rw [hy14, hc14]; exact Nat.sub_le_sub_right hroom14 _) hr14); have HC283 := Aside0.mk (show y279.length ≤ c14 from by rw [hy14, hc14]; exact Nat.sub_le_sub_right hroom14 _); clear hr14 hC14 hroom14 hi014 hsz14 hc14; have KY14 := Aside0.mk hy14; have KA14 := Aside0.mk hA14; clear hy14 hA14; replace q14 := eq_true q14)); try go_wp2_with (first | ((with_reducible refine gate_builtin (b := .append) (xs := #[.tmp 19, .tmp 23]) rfl ?_); at_builtin; refine Kd.R_append k44 (w0 := w) w.heap.size rfl (.tmp 19) (.tmp 23) 29 44 (.agg #[(.string ⟨#[]⟩), (.string ⟨#[]⟩)]) 32 rfl Tryd.underlying29 info44 rfl (by decide) (by omega) u5 x5_1 (⟨(rd_T44 x0_1 0).f0, (rd_T44 x0_1 0).f1⟩ : S44) [.string ((rd_T44 x0_1 0).f0), .string ((rd_T44 x0_1 0).f1)] (fun k_ => (w.heap.size ≤ k_) ∧ k_ ≠ gb270) (fun _ => False) rfl rfl ?aP (fun _ hk => hk.elim) ?aF ?aO ?aB ?aS ?aL ?_; (case aP => exact k44_mkM _ _ _ (⟨(rd_T44 x0_1 0).f0, (rd_T44 x0_1 0).f1⟩ : S44)); (case aB => exact y4_); (case aF => exact (fun k_ hk => ⟨(Nat.le_trans (below_size y4_) hk), Kd.freshB (g := gb270) (o := .cells #[.string a1_0, .string a1_1] 44 (0, 0)) y8_ k_ hk⟩)); (case aO => exact y15_); (case aS => exact (below_size y4_)); (case aL => have := LMc9.out; omega); intro v277 w13 ho hb hg hat; rw [← Ny276.out] at ho; have n0_ := Aside0.mk (Kd.V_afterv (ok := (fun k_ => (P0_ k_ ∨ w.heap.size ≤ k_) ∧ k_ ≠ gb270)) y28_ hg hat); have n1_ := Aside0.mk (blk_grown (g := gb270) (o := .cells #[.string a1_0, .string a1_1] 44 (0, 0)) y8_ hg (Kd.R_away HO_5.out (fun _ hk => hk.2))); have n2_ := Aside0.mk (hb); have n3_ := Aside0.mk (ho); clear HO_0; clear BK270; clear HB; clear HO_5; have HO_0 := n0_; have BK270 := n1_; have HB := n2_; have HO278 := n3_; clear n0_ n1_ n2_ n3_; clear ho hb hg hat; have q14 : (1 : Int) ≤ ((x0_1.length : Int) : Int) := of_decide_eq_true y3_; obtain ⟨i014, hi014, _, hsz14, _⟩ := info_parts info44; have hroom14 : x0_1.length ≤ co11 := (Kd.V_reads' HO_0.out).2.1; have hC14 : Kd.F k44 _ _ (some ad274) x0_1.length x0_1 := (Kd.V_at (base := w.heap.size) HO_0.out).2.2; have hcut14 := cut_from (P := Tryd.prog) 29 44 .i64 Tryd.underlying29 hi014 2 hsz14 (some ad274) x0_1.length co11 1 (by omega) q14; have hr14 := Kd.F_cut (m := (1 : Int).toNat) (c := co11) hC14 (by omega) hroom14; obtain ⟨A14, hA14⟩ : ∃ A1, A1 = (if co11 = (1 : Int).toNat then (some ad274) else ((some ad274) : Option Addr).map (·.add ((1 : Int).toNat * 2))) := ⟨_, rfl⟩; obtain ⟨c14, hc14⟩ : ∃ c1, c1 = co11 - (1 : Int).toNat := ⟨_, rfl⟩; have hy14 : y279.length = x0_1.length - (1 : Int).toNat := (by rw [Ny279.out, List.length_drop] <;> omega); rw [show (x0_1).drop (1 : Int).toNat = y279 from Ny279.out.symm] at hr14; replace hr14 : Kd.F k44 _ _ A14 y279.length y279 := (by rw [hA14]; exact hr14); rw [← hy14, ← hA14, ← hc14] at hcut14; have HO283 := Aside0.mk (show Kd.V k44 44 _ w.heap.size _ (.slice A14 y279.length c14) y279 from Kd.V_mk (by rw [hy14, hc14]; exact Nat.sub_le_sub_right hroom14 _) hr14); have HC283 := Aside0.mk (show y279.length ≤ c14 from by rw [hy14, hc14]; exact Nat.sub_le_sub_right hroom14 _); clear hr14 hC14 hroom14 hi014 hsz14 hc14; have KY14 := Aside0.mk hy14; have KA14 := Aside0.mk hA14; clear hy14 hA14; replace q14 := eq_true q14)))
        go_roundg k1
        case measure => have := HK1.out; omega
        case rel => exact ⟨(y279), (y276), H', ⟨y60_⟩, ⟨by (with_reducible repeat (first | apply Kd.V_alloc | apply Kd.V_drewN | apply Kd.V_drew)); exact Kd.V_mono HO283.out (fun _ hk => ⟨hk.1.1, ⟨hk.2, hk.1.2⟩⟩)⟩, ⟨by (with_reducible repeat (first | apply Kd.R_alloc | apply Kd.R_drewN | apply Kd.R_drew)); exact HO278.out⟩, ⟨y8_⟩, ⟨y4_⟩⟩
       ·rw [if_neg c10] at H
        exact absurd H (by simp)
      ·rw [if_neg c9] at H
       exact absurd H (by simp)
     ·rw [if_neg c8] at H
      have c8b0 : (Op.bytesLess (((rd_T44 x0_1 0).f0).toList) a1_0.toList) = false := by simpa using c8
      clear c8
      by_cases c15 : x5_1.length < 4398046511104
      ·rw [if_pos c15] at H
       have LMc15 := Aside0.mk c15
       clear c15
       obtain ⟨y284, hy284⟩ : ∃ y_ : List (S44), y_ = (x5_1 ++ [(⟨a1_0, a1_1⟩ : S44)]) := ⟨_, rfl⟩
       replace H : (if y284.length + x0_1.length < 4398046511104 then (some (y284 ++ x0_1)) else (none)) = some r := by first | (rw [hy284]; with_reducible exact H) | (have H2_ := (Option.bind_some _ _).symm.trans H; rw [hy284]; with_reducible exact H2_) | (have H2_ := (Option.bind_some _ _).symm.trans H; with_reducible exact H2_) | with_reducible exact H | (rw [hy284]; exact H) | exact H
       have Ny284 := Aside0.mk hy284
       clear hy284
       by_cases c16 : y284.length + x0_1.length < 4398046511104
       ·rw [if_pos c16] at H
        have LMc16 := Aside0.mk c16
        clear c16
        obtain ⟨y287, hy287⟩ : ∃ y_ : List (S44), y_ = (y284 ++ x0_1) := ⟨_, rfl⟩
        replace H : (some y287) = some r := by first | (rw [hy287]; with_reducible exact H) | (have H2_ := (Option.bind_some _ _).symm.trans H; rw [hy287]; with_reducible exact H2_) | (have H2_ := (Option.bind_some _ _).symm.trans H; with_reducible exact H2_) | with_reducible exact H | (rw [hy287]; exact H) | exact H
        have Ny287 := Aside0.mk hy287
        clear hy287
        obtain rfl := Option.some.inj H
        obtain ⟨Ao17, co17, eo17⟩ := Kd.V_slice HO_0.out
        subst eo17
        have p274 : 0 ≤ (0 : Int) := (by omega)
        have q274 : 0 < (x0_1.length : Int) := of_decide_eq_true y3_
        obtain ⟨ad274, e274, hx274_0, hx274_1⟩ := at_T44 (Kd.V_reads' HO_0.out).2.2 0 p274 q274
        cases e274
        have qi274 : (0 < x0_1.length) = True := eq_true (by omega)
        (try rw [show ((0 : Int)).toNat = 0 from rfl] at hx274_0)
        (try rw [show 0 * 2 = 0 from rfl] at hx274_0)
        (try rw [Addr.add_zero'] at hx274_0)
        (try rw [show ((0 : Int)).toNat = 0 from rfl] at hx274_1)
        (try rw [show 0 * 2 = 0 from rfl] at hx274_1)
        (try rw [Addr.add_zero'] at hx274_1)
        replace p274 := eq_true p274
        replace q274 := eq_true q274
        have hcz18_0 : wr.cell? ⟨gb270, 0, none⟩ = some (.string a1_0) := (blk_cell BK270.out 0).trans rfl
        have hcz18_1 : wr.cell? ⟨gb270, 1, none⟩ = some (.string a1_1) := (blk_cell BK270.out 1).trans rfl
        have hfz18_0 := blk_frozen BK270.out 0
        have hfz18_1 := blk_frozen BK270.out 1
        go_wp2_with (first | ((with_reducible refine gate_builtin (b := .append) (xs := #[.tmp 27, .tmp 29]) rfl ?_); at_builtin; refine Kd.R_append k44 (w0 := w) w.heap.size rfl (.tmp 27) (.tmp 29) 29 44 (.agg #[(.string ⟨#[]⟩), (.string ⟨#[]⟩)]) 32 rfl Tryd.underlying29 info44 rfl (by decide) (by omega) u5 x5_1 (⟨a1_0, a1_1⟩ : S44) [.string a1_0, .string a1_1] (fun k_ => (w.heap.size ≤ k_) ∧ k_ ≠ gb270) (fun _ => False) rfl rfl ?aP (fun _ hk => hk.elim) ?aF ?aO ?aB ?aS ?aL ?_; (case aP => exact k44_mkM _ _ _ (⟨a1_0, a1_1⟩ : S44)); (case aB => exact y4_); (case aF => exact (fun k_ hk => ⟨(Nat.le_trans (below_size y4_) hk), Kd.freshB (g := gb270) (o := .cells #[.string a1_0, .string a1_1] 44 (0, 0)) y8_ k_ hk⟩)); (case aO => exact y15_); (case aS => exact (below_size y4_)); (case aL => have := LMc15.out; omega); intro v285 w19 ho hb hg hat; rw [← Ny284.out] at ho; have n0_ := Aside0.mk (Kd.V_afterv (ok := (fun k_ => (P0_ k_ ∨ w.heap.size ≤ k_) ∧ k_ ≠ gb270)) y28_ hg hat); have n1_ := Aside0.mk (blk_grown (g := gb270) (o := .cells #[.string a1_0, .string a1_1] 44 (0, 0)) y8_ hg (Kd.R_away HO_5.out (fun _ hk => hk.2))); have n2_ := Aside0.mk (hb); have n3_ := Aside0.mk (ho); clear HO_0; clear BK270; clear HB; clear HO_5; have HO_0 := n0_; have BK270 := n1_; have HB := n2_; have HO286 := n3_; clear n0_ n1_ n2_ n3_; clear ho hb hg hat) | ((with_reducible refine gate_builtin (b := .append) (xs := #[.tmp 31, .tmp 32]) rfl ?_); at_builtin; refine Kd.R_append_rows k44 (w0 := w) w.heap.size rfl (.tmp 31) (.tmp 32) 29 44 (.agg #[(.string ⟨#[]⟩), (.string ⟨#[]⟩)]) 32 rfl Tryd.underlying29 info44 rfl (by decide) (by omega) v285 y284 x0_1 _ _ _ (fun k_ => (w.heap.size ≤ k_) ∧ k_ ≠ gb270) (fun _ => False) rfl rfl ?aO ?aR (fun _ _ h => h) (fun _ h => h.elim) ?aF ?aB ?aS ?aL ?_; (case aR => repeat (first | exact (Kd.V_reads' HO_0.out).2.2 | (with_reducible refine Kd.C_alloc ?_ _) | (with_reducible refine Kd.C_drewN ?_ _) | (with_reducible refine Kd.C_drew ?_))); (case aB => exact y4_); (case aF => exact (fun k_ hk => ⟨(Nat.le_trans (below_size y4_) hk), Kd.freshB (g := gb270) (o := .cells #[.string a1_0, .string a1_1] 44 (0, 0)) y8_ k_ hk⟩)); (case aO => exact y81_); (case aS => exact (below_size y4_)); (case aL => have := LMc16.out; omega); intro v288 w20 ho hb hg hat; rw [← Ny287.out] at ho; have n0_ := Aside0.mk (Kd.V_afterv (ok := (fun k_ => (P0_ k_ ∨ w.heap.size ≤ k_) ∧ k_ ≠ gb270)) y52_ hg hat); have n1_ := Aside0.mk (blk_grown (g := gb270) (o := .cells #[.string a1_0, .string a1_1] 44 (0, 0)) y8_ hg (Kd.R_away HO286.out (fun _ hk => hk.2))); have n2_ := Aside0.mk (hb); have n3_ := Aside0.mk (ho); clear HO_0; clear BK270; clear HB; clear HO286; have HO_0 := n0_; have BK270 := n1_; have HB := n2_; have HO289 := n3_; clear n0_ n1_ n2_ n3_; clear ho hb hg hat))
        repeat (go_quiet (first | ((with_reducible refine gate_builtin (b := .append) (xs := #[.tmp 27, .tmp 29]) rfl ?_); at_builtin; refine Kd.R_append k44 (w0 := w) w.heap.size rfl (.tmp 27) (.tmp 29) 29 44 (.agg #[(.string ⟨#[]⟩), (.string ⟨#[]⟩)]) 32 rfl Tryd.underlying29 info44 rfl (by decide) (by omega) u5 x5_1 (⟨a1_0, a1_1⟩ : S44) [.string a1_0, .string a1_1] (fun k_ => (w.heap.size ≤ k_) ∧ k_ ≠ gb270) (fun _ => False) rfl rfl ?aP (fun _ hk => hk.elim) ?aF ?aO ?aB ?aS ?aL ?_; (case aP => exact k44_mkM _ _ _ (⟨a1_0, a1_1⟩ : S44)); (case aB => exact y4_); (case aF => exact (fun k_ hk => ⟨(Nat.le_trans (below_size y4_) hk), Kd.freshB (g := gb270) (o := .cells #[.string a1_0, .string a1_1] 44 (0, 0)) y8_ k_ hk⟩)); (case aO => exact y15_); (case aS => exact (below_size y4_)); (case aL => have := LMc15.out; omega); intro v285 w19 ho hb hg hat; rw [← Ny284.out] at ho; have n0_ := Aside0.mk (Kd.V_afterv (ok := (fun k_ => (P0_ k_ ∨ w.heap.size ≤ k_) ∧ k_ ≠ gb270)) y28_ hg hat); have n1_ := Aside0.mk (blk_grown (g := gb270) (o := .cells #[.string a1_0, .string a1_1] 44 (0, 0)) y8_ hg (Kd.R_away HO_5.out (fun _ hk => hk.2))); have n2_ := Aside0.mk (hb); have n3_ := Aside0.mk (ho); clear HO_0; clear BK270; clear HB; clear HO_5; have HO_0 := n0_; have BK270 := n1_; have HB := n2_; have HO286 := n3_; clear n0_ n1_ n2_ n3_; clear ho hb hg hat) | ((with_reducible refine gate_builtin (b := .append) (xs := #[.tmp 31, .tmp 32]) rfl ?_); at_builtin; refine Kd.R_append_rows k44 (w0 := w) w.heap.size rfl (.tmp 31) (.tmp 32) 29 44 (.agg #[(.string ⟨#[]⟩), (.string ⟨#[]⟩)]) 32 rfl Tryd.underlying29 info44 rfl (by decide) (by omega) v285 y284 x0_1 _ _ _ (fun k_ => (w.heap.size ≤ k_) ∧ k_ ≠ gb270) (fun _ => False) rfl rfl ?aO ?aR (fun _ _ h => h) (fun _ h => h.elim) ?aF ?aB ?aS ?aL ?_; (case aR => repeat (first | exact (Kd.V_reads' HO_0.out).2.2 | (with_reducible refine Kd.C_alloc ?_ _) | (with_reducible refine Kd.C_drewN ?_ _) | (with_reducible refine Kd.C_drew ?_))); (case aB => exact y4_); (case aF => exact (fun k_ hk => ⟨(Nat.le_trans (below_size y4_) hk), Kd.freshB (g := gb270) (o := .cells #[.string a1_0, .string a1_1] 44 (0, 0)) y8_ k_ hk⟩)); (case aO => exact y81_); (case aS => exact (below_size y4_)); (case aL => have := LMc16.out; omega); intro v288 w20 ho hb hg hat; rw [← Ny287.out] at ho; have n0_ := Aside0.mk (Kd.V_afterv (ok := (fun k_ => (P0_ k_ ∨ w.heap.size ≤ k_) ∧ k_ ≠ gb270)) y52_ hg hat); have n1_ := Aside0.mk (blk_grown (g := gb270) (o := .cells #[.string a1_0, .string a1_1] 44 (0, 0)) y8_ hg (Kd.R_away HO286.out (fun _ hk => hk.2))); have n2_ := Aside0.mk (hb); have n3_ := Aside0.mk (ho); clear HO_0; clear BK270; clear HB; clear HO286; have HO_0 := n0_; have BK270 := n1_; have HB := n2_; have HO289 := n3_; clear n0_ n1_ n2_ n3_; clear ho hb hg hat)); try go_wp2_with (first | ((with_reducible refine gate_builtin (b := .append) (xs := #[.tmp 27, .tmp 29]) rfl ?_); at_builtin; refine Kd.R_append k44 (w0 := w) w.heap.size rfl (.tmp 27) (.tmp 29) 29 44 (.agg #[(.string ⟨#[]⟩), (.string ⟨#[]⟩)]) 32 rfl Tryd.underlying29 info44 rfl (by decide) (by omega) u5 x5_1 (⟨a1_0, a1_1⟩ : S44) [.string a1_0, .string a1_1] (fun k_ => (w.heap.size ≤ k_) ∧ k_ ≠ gb270) (fun _ => False) rfl rfl ?aP (fun _ hk => hk.elim) ?aF ?aO ?aB ?aS ?aL ?_; (case aP => exact k44_mkM _ _ _ (⟨a1_0, a1_1⟩ : S44)); (case aB => exact y4_); (case aF => exact (fun k_ hk => ⟨(Nat.le_trans (below_size y4_) hk), Kd.freshB (g := gb270) (o := .cells #[.string a1_0, .string a1_1] 44 (0, 0)) y8_ k_ hk⟩)); (case aO => exact y15_); (case aS => exact (below_size y4_)); (case aL => have := LMc15.out; omega); intro v285 w19 ho hb hg hat; rw [← Ny284.out] at ho; have n0_ := Aside0.mk (Kd.V_afterv (ok := (fun k_ => (P0_ k_ ∨ w.heap.size ≤ k_) ∧ k_ ≠ gb270)) y28_ hg hat); have n1_ := Aside0.mk (blk_grown (g := gb270) (o := .cells #[.string a1_0, .string a1_1] 44 (0, 0)) y8_ hg (Kd.R_away HO_5.out (fun _ hk => hk.2))); have n2_ := Aside0.mk (hb); have n3_ := Aside0.mk (ho); clear HO_0; clear BK270; clear HB; clear HO_5; have HO_0 := n0_; have BK270 := n1_; have HB := n2_; have HO286 := n3_; clear n0_ n1_ n2_ n3_; clear ho hb hg hat) | ((with_reducible refine gate_builtin (b := .append) (xs := #[.tmp 31, .tmp 32]) rfl ?_); at_builtin; refine Kd.R_append_rows k44 (w0 := w) w.heap.size rfl (.tmp 31) (.tmp 32) 29 44 (.agg #[(.string ⟨#[]⟩), (.string ⟨#[]⟩)]) 32 rfl Tryd.underlying29 info44 rfl (by decide) (by omega) v285 y284 x0_1 _ _ _ (fun k_ => (w.heap.size ≤ k_) ∧ k_ ≠ gb270) (fun _ => False) rfl rfl ?aO ?aR (fun _ _ h => h) (fun _ h => h.elim) ?aF ?aB ?aS ?aL ?_; (case aR => repeat (first | exact (Kd.V_reads' HO_0.out).2.2 | (with_reducible refine Kd.C_alloc ?_ _) | (with_reducible refine Kd.C_drewN ?_ _) | (with_reducible refine Kd.C_drew ?_))); (case aB => exact y4_); (case aF => exact (fun k_ hk => ⟨(Nat.le_trans (below_size y4_) hk), Kd.freshB (g := gb270) (o := .cells #[.string a1_0, .string a1_1] 44 (0, 0)) y8_ k_ hk⟩)); (case aO => exact y81_); (case aS => exact (below_size y4_)); (case aL => have := LMc16.out; omega); intro v288 w20 ho hb hg hat; rw [← Ny287.out] at ho; have n0_ := Aside0.mk (Kd.V_afterv (ok := (fun k_ => (P0_ k_ ∨ w.heap.size ≤ k_) ∧ k_ ≠ gb270)) y52_ hg hat); have n1_ := Aside0.mk (blk_grown (g := gb270) (o := .cells #[.string a1_0, .string a1_1] 44 (0, 0)) y8_ hg (Kd.R_away HO286.out (fun _ hk => hk.2))); have n2_ := Aside0.mk (hb); have n3_ := Aside0.mk (ho); clear HO_0; clear BK270; clear HB; clear HO286; have HO_0 := n0_; have BK270 := n1_; have HB := n2_; have HO289 := n3_; clear n0_ n1_ n2_ n3_; clear ho hb hg hat)))
        go_ret
        exact ⟨_, y7_, by (with_reducible repeat (first | apply Kd.R_alloc | apply Kd.R_drewN | apply Kd.R_drew)); exact Kd.R_mono HO289.out (fun _ hk => hk.1), y4_⟩
       ·rw [if_neg c16] at H
        exact absurd H (by simp)
      ·rw [if_neg c15] at H
       exact absurd H (by simp)
    ·rw [if_neg c7] at H
     exact absurd H (by simp)
   ·rw [if_neg c6] at H
    have c6b0 : decide (0 < (x0_1.length : Int)) = false := decide_eq_false c6
    have c6b1 : decide (0 < x0_1.length) = false := decide_eq_false (by omega)
    clear c6
    by_cases c21 : x5_1.length < 4398046511104
    ·rw [if_pos c21] at H
     have LMc21 := Aside0.mk c21
     clear c21
     obtain ⟨y290, hy290⟩ : ∃ y_ : List (S44), y_ = (x5_1 ++ [(⟨a1_0, a1_1⟩ : S44)]) := ⟨_, rfl⟩
     replace H : (if y290.length + x0_1.length < 4398046511104 then (some (y290 ++ x0_1)) else (none)) = some r := by first | (rw [hy290]; with_reducible exact H) | (have H2_ := (Option.bind_some _ _).symm.trans H; rw [hy290]; with_reducible exact H2_) | (have H2_ := (Option.bind_some _ _).symm.trans H; with_reducible exact H2_) | with_reducible exact H | (rw [hy290]; exact H) | exact H
     have Ny290 := Aside0.mk hy290
     clear hy290
     by_cases c22 : y290.length + x0_1.length < 4398046511104
     ·rw [if_pos c22] at H
      have LMc22 := Aside0.mk c22
      clear c22
      obtain ⟨y293, hy293⟩ : ∃ y_ : List (S44), y_ = (y290 ++ x0_1) := ⟨_, rfl⟩
      replace H : (some y293) = some r := by first | (rw [hy293]; with_reducible exact H) | (have H2_ := (Option.bind_some _ _).symm.trans H; rw [hy293]; with_reducible exact H2_) | (have H2_ := (Option.bind_some _ _).symm.trans H; with_reducible exact H2_) | with_reducible exact H | (rw [hy293]; exact H) | exact H
      have Ny293 := Aside0.mk hy293
      clear hy293
      obtain rfl := Option.some.inj H
      obtain ⟨Ao23, co23, eo23⟩ := Kd.V_slice HO_0.out
      subst eo23
      have hcz24_0 : wr.cell? ⟨gb270, 0, none⟩ = some (.string a1_0) := (blk_cell BK270.out 0).trans rfl
      have hcz24_1 : wr.cell? ⟨gb270, 1, none⟩ = some (.string a1_1) := (blk_cell BK270.out 1).trans rfl
      have hfz24_0 := blk_frozen BK270.out 0
      have hfz24_1 := blk_frozen BK270.out 1
      go_wp2_with (first | ((with_reducible refine gate_builtin (b := .append) (xs := #[.tmp 27, .tmp 29]) rfl ?_); at_builtin; refine Kd.R_append k44 (w0 := w) w.heap.size rfl (.tmp 27) (.tmp 29) 29 44 (.agg #[(.string ⟨#[]⟩), (.string ⟨#[]⟩)]) 32 rfl Tryd.underlying29 info44 rfl (by decide) (by omega) u5 x5_1 (⟨a1_0, a1_1⟩ : S44) [.string a1_0, .string a1_1] (fun k_ => (w.heap.size ≤ k_) ∧ k_ ≠ gb270) (fun _ => False) rfl rfl ?aP (fun _ hk => hk.elim) ?aF ?aO ?aB ?aS ?aL ?_; (case aP => exact k44_mkM _ _ _ (⟨a1_0, a1_1⟩ : S44)); (case aB => exact y4_); (case aF => exact (fun k_ hk => ⟨(Nat.le_trans (below_size y4_) hk), Kd.freshB (g := gb270) (o := .cells #[.string a1_0, .string a1_1] 44 (0, 0)) y8_ k_ hk⟩)); (case aO => exact y15_); (case aS => exact (below_size y4_)); (case aL => have := LMc21.out; omega); intro v291 w25 ho hb hg hat; rw [← Ny290.out] at ho; have n0_ := Aside0.mk (Kd.V_afterv (ok := (fun k_ => (P0_ k_ ∨ w.heap.size ≤ k_) ∧ k_ ≠ gb270)) y28_ hg hat); have n1_ := Aside0.mk (blk_grown (g := gb270) (o := .cells #[.string a1_0, .string a1_1] 44 (0, 0)) y8_ hg (Kd.R_away HO_5.out (fun _ hk => hk.2))); have n2_ := Aside0.mk (hb); have n3_ := Aside0.mk (ho); clear HO_0; clear BK270; clear HB; clear HO_5; have HO_0 := n0_; have BK270 := n1_; have HB := n2_; have HO292 := n3_; clear n0_ n1_ n2_ n3_; clear ho hb hg hat) | ((with_reducible refine gate_builtin (b := .append) (xs := #[.tmp 31, .tmp 32]) rfl ?_); at_builtin; refine Kd.R_append_rows k44 (w0 := w) w.heap.size rfl (.tmp 31) (.tmp 32) 29 44 (.agg #[(.string ⟨#[]⟩), (.string ⟨#[]⟩)]) 32 rfl Tryd.underlying29 info44 rfl (by decide) (by omega) v291 y290 x0_1 _ _ _ (fun k_ => (w.heap.size ≤ k_) ∧ k_ ≠ gb270) (fun _ => False) rfl rfl ?aO ?aR (fun _ _ h => h) (fun _ h => h.elim) ?aF ?aB ?aS ?aL ?_; (case aR => repeat (first | exact (Kd.V_reads' HO_0.out).2.2 | (with_reducible refine Kd.C_alloc ?_ _) | (with_reducible refine Kd.C_drewN ?_ _) | (with_reducible refine Kd.C_drew ?_))); (case aB => exact y4_); (case aF => exact (fun k_ hk => ⟨(Nat.le_trans (below_size y4_) hk), Kd.freshB (g := gb270) (o := .cells #[.string a1_0, .string a1_1] 44 (0, 0)) y8_ k_ hk⟩)); (case aO => exact y80_); (case aS => exact (below_size y4_)); (case aL => have := LMc22.out; omega); intro v294 w26 ho hb hg hat; rw [← Ny293.out] at ho; have n0_ := Aside0.mk (Kd.V_afterv (ok := (fun k_ => (P0_ k_ ∨ w.heap.size ≤ k_) ∧ k_ ≠ gb270)) y52_ hg hat); have n1_ := Aside0.mk (blk_grown (g := gb270) (o := .cells #[.string a1_0, .string a1_1] 44 (0, 0)) y8_ hg (Kd.R_away HO292.out (fun _ hk => hk.2))); have n2_ := Aside0.mk (hb); have n3_ := Aside0.mk (ho); clear HO_0; clear BK270; clear HB; clear HO292; have HO_0 := n0_; have BK270 := n1_; have HB := n2_; have HO295 := n3_; clear n0_ n1_ n2_ n3_; clear ho hb hg hat))
      repeat (go_quiet (first | ((with_reducible refine gate_builtin (b := .append) (xs := #[.tmp 27, .tmp 29]) rfl ?_); at_builtin; refine Kd.R_append k44 (w0 := w) w.heap.size rfl (.tmp 27) (.tmp 29) 29 44 (.agg #[(.string ⟨#[]⟩), (.string ⟨#[]⟩)]) 32 rfl Tryd.underlying29 info44 rfl (by decide) (by omega) u5 x5_1 (⟨a1_0, a1_1⟩ : S44) [.string a1_0, .string a1_1] (fun k_ => (w.heap.size ≤ k_) ∧ k_ ≠ gb270) (fun _ => False) rfl rfl ?aP (fun _ hk => hk.elim) ?aF ?aO ?aB ?aS ?aL ?_; (case aP => exact k44_mkM _ _ _ (⟨a1_0, a1_1⟩ : S44)); (case aB => exact y4_); (case aF => exact (fun k_ hk => ⟨(Nat.le_trans (below_size y4_) hk), Kd.freshB (g := gb270) (o := .cells #[.string a1_0, .string a1_1] 44 (0, 0)) y8_ k_ hk⟩)); (case aO => exact y15_); (case aS => exact (below_size y4_)); (case aL => have := LMc21.out; omega); intro v291 w25 ho hb hg hat; rw [← Ny290.out] at ho; have n0_ := Aside0.mk (Kd.V_afterv (ok := (fun k_ => (P0_ k_ ∨ w.heap.size ≤ k_) ∧ k_ ≠ gb270)) y28_ hg hat); have n1_ := Aside0.mk (blk_grown (g := gb270) (o := .cells #[.string a1_0, .string a1_1] 44 (0, 0)) y8_ hg (Kd.R_away HO_5.out (fun _ hk => hk.2))); have n2_ := Aside0.mk (hb); have n3_ := Aside0.mk (ho); clear HO_0; clear BK270; clear HB; clear HO_5; have HO_0 := n0_; have BK270 := n1_; have HB := n2_; have HO292 := n3_; clear n0_ n1_ n2_ n3_; clear ho hb hg hat) | ((with_reducible refine gate_builtin (b := .append) (xs := #[.tmp 31, .tmp 32]) rfl ?_); at_builtin; refine Kd.R_append_rows k44 (w0 := w) w.heap.size rfl (.tmp 31) (.tmp 32) 29 44 (.agg #[(.string ⟨#[]⟩), (.string ⟨#[]⟩)]) 32 rfl Tryd.underlying29 info44 rfl (by decide) (by omega) v291 y290 x0_1 _ _ _ (fun k_ => (w.heap.size ≤ k_) ∧ k_ ≠ gb270) (fun _ => False) rfl rfl ?aO ?aR (fun _ _ h => h) (fun _ h => h.elim) ?aF ?aB ?aS ?aL ?_; (case aR => repeat (first | exact (Kd.V_reads' HO_0.out).2.2 | (with_reducible refine Kd.C_alloc ?_ _) | (with_reducible refine Kd.C_drewN ?_ _) | (with_reducible refine Kd.C_drew ?_))); (case aB => exact y4_); (case aF => exact (fun k_ hk => ⟨(Nat.le_trans (below_size y4_) hk), Kd.freshB (g := gb270) (o := .cells #[.string a1_0, .string a1_1] 44 (0, 0)) y8_ k_ hk⟩)); (case aO => exact y80_); (case aS => exact (below_size y4_)); (case aL => have := LMc22.out; omega); intro v294 w26 ho hb hg hat; rw [← Ny293.out] at ho; have n0_ := Aside0.mk (Kd.V_afterv (ok := (fun k_ => (P0_ k_ ∨ w.heap.size ≤ k_) ∧ k_ ≠ gb270)) y52_ hg hat); have n1_ := Aside0.mk (blk_grown (g := gb270) (o := .cells #[.string a1_0, .string a1_1] 44 (0, 0)) y8_ hg (Kd.R_away HO292.out (fun _ hk => hk.2))); have n2_ := Aside0.mk (hb); have n3_ := Aside0.mk (ho); clear HO_0; clear BK270; clear HB; clear HO292; have HO_0 := n0_; have BK270 := n1_; have HB := n2_; have HO295 := n3_; clear n0_ n1_ n2_ n3_; clear ho hb hg hat)); try go_wp2_with (first | ((with_reducible refine gate_builtin (b := .append) (xs := #[.tmp 27, .tmp 29]) rfl ?_); at_builtin; refine Kd.R_append k44 (w0 := w) w.heap.size rfl (.tmp 27) (.tmp 29) 29 44 (.agg #[(.string ⟨#[]⟩), (.string ⟨#[]⟩)]) 32 rfl Tryd.underlying29 info44 rfl (by decide) (by omega) u5 x5_1 (⟨a1_0, a1_1⟩ : S44) [.string a1_0, .string a1_1] (fun k_ => (w.heap.size ≤ k_) ∧ k_ ≠ gb270) (fun _ => False) rfl rfl ?aP (fun _ hk => hk.elim) ?aF ?aO ?aB ?aS ?aL ?_; (case aP => exact k44_mkM _ _ _ (⟨a1_0, a1_1⟩ : S44)); (case aB => exact y4_); (case aF => exact (fun k_ hk => ⟨(Nat.le_trans (below_size y4_) hk), Kd.freshB (g := gb270) (o := .cells #[.string a1_0, .string a1_1] 44 (0, 0)) y8_ k_ hk⟩)); (case aO => exact y15_); (case aS => exact (below_size y4_)); (case aL => have := LMc21.out; omega); intro v291 w25 ho hb hg hat; rw [← Ny290.out] at ho; have n0_ := Aside0.mk (Kd.V_afterv (ok := (fun k_ => (P0_ k_ ∨ w.heap.size ≤ k_) ∧ k_ ≠ gb270)) y28_ hg hat); have n1_ := Aside0.mk (blk_grown (g := gb270) (o := .cells #[.string a1_0, .string a1_1] 44 (0, 0)) y8_ hg (Kd.R_away HO_5.out (fun _ hk => hk.2))); have n2_ := Aside0.mk (hb); have n3_ := Aside0.mk (ho); clear HO_0; clear BK270; clear HB; clear HO_5; have HO_0 := n0_; have BK270 := n1_; have HB := n2_; have HO292 := n3_; clear n0_ n1_ n2_ n3_; clear ho hb hg hat) | ((with_reducible refine gate_builtin (b := .append) (xs := #[.tmp 31, .tmp 32]) rfl ?_); at_builtin; refine Kd.R_append_rows k44 (w0 := w) w.heap.size rfl (.tmp 31) (.tmp 32) 29 44 (.agg #[(.string ⟨#[]⟩), (.string ⟨#[]⟩)]) 32 rfl Tryd.underlying29 info44 rfl (by decide) (by omega) v291 y290 x0_1 _ _ _ (fun k_ => (w.heap.size ≤ k_) ∧ k_ ≠ gb270) (fun _ => False) rfl rfl ?aO ?aR (fun _ _ h => h) (fun _ h => h.elim) ?aF ?aB ?aS ?aL ?_; (case aR => repeat (first | exact (Kd.V_reads' HO_0.out).2.2 | (with_reducible refine Kd.C_alloc ?_ _) | (with_reducible refine Kd.C_drewN ?_ _) | (with_reducible refine Kd.C_drew ?_))); (case aB => exact y4_); (case aF => exact (fun k_ hk => ⟨(Nat.le_trans (below_size y4_) hk), Kd.freshB (g := gb270) (o := .cells #[.string a1_0, .string a1_1] 44 (0, 0)) y8_ k_ hk⟩)); (case aO => exact y80_); (case aS => exact (below_size y4_)); (case aL => have := LMc22.out; omega); intro v294 w26 ho hb hg hat; rw [← Ny293.out] at ho; have n0_ := Aside0.mk (Kd.V_afterv (ok := (fun k_ => (P0_ k_ ∨ w.heap.size ≤ k_) ∧ k_ ≠ gb270)) y52_ hg hat); have n1_ := Aside0.mk (blk_grown (g := gb270) (o := .cells #[.string a1_0, .string a1_1] 44 (0, 0)) y8_ hg (Kd.R_away HO292.out (fun _ hk => hk.2))); have n2_ := Aside0.mk (hb); have n3_ := Aside0.mk (ho); clear HO_0; clear BK270; clear HB; clear HO292; have HO_0 := n0_; have BK270 := n1_; have HB := n2_; have HO295 := n3_; clear n0_ n1_ n2_ n3_; clear ho hb hg hat)))
      go_ret
      exact ⟨_, y7_, by (with_reducible repeat (first | apply Kd.R_alloc | apply Kd.R_drewN | apply Kd.R_drew)); exact Kd.R_mono HO295.out (fun _ hk => hk.1), y4_⟩
     ·rw [if_neg c22] at H
      exact absurd H (by simp)
    ·rw [if_neg c21] at H
     exact absurd H (by simp)
end Go.Proofs.YtdhmabofncbohaaDoor.PLB
