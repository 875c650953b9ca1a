import Derived.Test.YtdhmabofncbohaaDoorCTPLBx0
import Derived.Test.YtdhmabofncbohaaDoorCTPLBx17
import Derived.Test.YtdhmabofncbohaaDoorCTL1
import Derived.Test.YtdhmabofncbohaaDoorCTY
namespace Go.Proofs.YtdhmabofncbohaaDoor.PLB
open Go.RowKit Go.Proofs.YtdhmabofncbohaaDoorW.PrintWords Go.Proofs.YtdhmabofncbohaaDoorW.PrintLast Go.Proofs.YtdhmabofncbohaaDoorW.PrintMore
attribute [local go_sem] max2_int min2_int max_two min_two max_three min_three max_four min_four
set_option linter.unusedVariables false
set_option linter.unusedSimpArgs false
def manometerref05_By.l0 : Nat → List ByteArray → List (S44) → List (S44) → Int → Int → Option ((List (S44)))
 | 0, _, _, _, _, _ => none
 | k + 1, x1, x5, x9, x10, x11 => if x11 < x10 then (if 0 ≤ x11 then (if x11 < (x9.length : Int) then ((manometerref05_In.f k x1 ((rd_T44 x9 x11).f0)).bind fun t487 => (if t487 = true then (if x5.length < 4398046511104 then (manometerref05_By.l0 k x1 (x5 ++ [(⟨(rd_T44 x9 x11).f0, (rd_T44 x9 x11).f1⟩ : S44)]) x9 x10 (wrap64 (x11 + 1))) else (none)) else (manometerref05_By.l0 k x1 x5 x9 x10 (wrap64 (x11 + 1))))) else (none)) else (none)) else (some x5)
def manometerref05_By.f (k : Nat) (l0 : List (S44)) (l1 : List ByteArray) : Option ((List (S44))) := manometerref05_By.l0 k l1 (([] : List (S44))) l0 (l0.length : Int) 0
set_option maxHeartbeats 8000000 in
set_option maxRecDepth 100000 in
theorem manometerref05_By.calls (k : Nat) (A0 : Option Addr) (c0 : Nat) (l0 : List (S44)) (A1 : Option Addr) (c1 : Nat) (l1 : List ByteArray) (r : List (S44)) (w : World) (hr0 : Kd.C k44 w A0 l0.length l0) (hc0 : l0.length ≤ c0) (hr1 : Kd.C Kd.string w A1 l1.length l1) (hc1 : l1.length ≤ c1) (h : manometerref05_By.f k l0 l1 = some r) :
  Calls Tryd.prog 44 #[.slice A0 l0.length c0, .slice A1 l1.length c1] w fun e w' => ∃ v0_ : Value, e = .returned (v0_) ∧ Kd.R k44 44 w' w.heap.size (fun _ => True) v0_ r ∧ Below w.heap.size w w' := by
 have hu44 := Tryd.underlying44
 have HR0 := Aside0.mk hr0
 have HC0 := Aside0.mk hc0
 clear hr0 hc0
 have HR1 := Aside0.mk hr1
 have HC1 := Aside0.mk hc1
 clear hr1 hc1
 have HB := Aside0.mk (Below.refl w.heap.size w)
 have H : (manometerref05_By.l0 k l1 (([] : List (S44))) l0 (l0.length : Int) 0) = some r := h
 clear h
 obtain ⟨y482, hy482⟩ : ∃ y_ : List (S44), y_ = (([] : List (S44))) := ⟨_, rfl⟩
 replace H : (manometerref05_By.l0 k l1 y482 l0 (l0.length : Int) 0) = some r := by first | (rw [hy482]; with_reducible exact H) | (have H2_ := (Option.bind_some _ _).symm.trans H; rw [hy482]; with_reducible exact H2_) | (have H2_ := (Option.bind_some _ _).symm.trans H; with_reducible exact H2_) | with_reducible exact H | (rw [hy482]; exact H) | exact H
 have Ny482 := Aside0.mk hy482
 clear hy482
 have H' := Aside0.mk H
 clear H
 go_enter Tryd.func44, Tryd.ntmps44
 go_wp2_with (first | ((with_reducible refine gate_dst (N := 8) rfl ?_); refine Kd.R_lit k44 _ 44 ?hg (N := 8) ?hd (xs := ([] : List (S44))) (inner := []) (ok := fun _ => True) (okp := fun _ => True) ?hr ?hp (fun _ hk => hk) trivial (Below.refl _ _) (Nat.le_refl _) (by simp) ?_; (case hd => rfl); (case hg => rfl); (case hr => first | (go_simp; done) | (go_simp; rfl)); (case hp => exact (Reps.none _ _)); intro v483 w3 ho4 hb hg_ hnew_; clear hg_ hnew_; (first | rw [← Ny482.out] at ho4 | (simp only [Int.reduceToNat] at ho4; rw [← Ny482.out] at ho4)); have n0_ := Aside0.mk (Kd.R_lower ho4 (below_size y1_)); have n1_ := Aside0.mk (below_step y1_ hb); clear HB; have HO484 := n0_; have HB := n1_; clear n0_ n1_; clear hb ho4))
 go_loopg [5, 11] k (fun kq v5 v11 w' => ∃ (x5_1 : List (S44)) (x11_1 : Int), v11 = .int .i64 x11_1 ∧ Aside0 (manometerref05_By.l0 kq l1 x5_1 l0 (l0.length : Int) x11_1 = some r) ∧ Aside0 (kq ≤ k) ∧ Aside0 (Kd.R k44 44 w' w.heap.size (fun _ => True) v5 x5_1) ∧ Aside0 (Below w.heap.size w w'))
 case atStart => exact ⟨(y482), (0), y6_, H', ⟨Nat.le_refl _⟩, ⟨by (with_reducible repeat (first | apply Kd.R_alloc | apply Kd.R_drewN | apply Kd.R_drew)); exact HO484.out⟩, ⟨y1_⟩⟩
 case round =>
  clear H'
  try clear c1
  try clear p2
  try clear c4
  obtain ⟨x5_1, x11_1, rfl, HA, HK1, HO_5, HB⟩ := hrel
  cases gk with
  | zero => exact absurd HA.out (by simp [manometerref05_By.l0])
  | succ k1 =>
   have H := HA.out
   clear HA
   simp only [manometerref05_By.l0] at H
   by_cases c5 : x11_1 < (l0.length : Int)
   ·rw [if_pos c5] at H
    have c5b0 : decide (x11_1 < (l0.length : Int)) = true := decide_eq_true c5
    clear c5
    by_cases c6 : 0 ≤ x11_1
    ·rw [if_pos c6] at H
     have c6b0 : decide (0 ≤ x11_1) = true := decide_eq_true c6
     clear c6
     by_cases c7 : x11_1 < (l0.length : Int)
     ·rw [if_pos c7] at H
      have c7b0 : decide (x11_1 < (l0.length : Int)) = true := decide_eq_true c7
      clear c7
      replace H := Option.bind_eq_some_iff.mp H
      obtain ⟨t487, A80, H⟩ := H
      replace H : (if t487 = true then (if x5_1.length < 4398046511104 then (manometerref05_By.l0 k1 l1 (x5_1 ++ [(⟨(rd_T44 l0 x11_1).f0, (rd_T44 l0 x11_1).f1⟩ : S44)]) l0 (l0.length : Int) (wrap64 (x11_1 + 1))) else (none)) else (manometerref05_By.l0 k1 l1 x5_1 l0 (l0.length : Int) (wrap64 (x11_1 + 1)))) = some r := H
      have A8 := Aside0.mk A80
      clear A80
      by_cases c9 : t487 = true
      ·subst c9
       have H1 : (if x5_1.length < 4398046511104 then (manometerref05_By.l0 k1 l1 (x5_1 ++ [(⟨(rd_T44 l0 x11_1).f0, (rd_T44 l0 x11_1).f1⟩ : S44)]) l0 (l0.length : Int) (wrap64 (x11_1 + 1))) else (none)) = some r := by rw [if_pos rfl] at H; exact H
       clear H
       have H := H1
       clear H1
       by_cases c10 : x5_1.length < 4398046511104
       ·rw [if_pos c10] at H
        have LMc10 := Aside0.mk c10
        clear c10
        obtain ⟨y488, hy488⟩ : ∃ y_ : List (S44), y_ = (x5_1 ++ [(⟨(rd_T44 l0 x11_1).f0, (rd_T44 l0 x11_1).f1⟩ : S44)]) := ⟨_, rfl⟩
        replace H : (manometerref05_By.l0 k1 l1 y488 l0 (l0.length : Int) (wrap64 (x11_1 + 1))) = some r := by first | (rw [hy488]; with_reducible exact H) | (have H2_ := (Option.bind_some _ _).symm.trans H; rw [hy488]; with_reducible exact H2_) | (have H2_ := (Option.bind_some _ _).symm.trans H; with_reducible exact H2_) | with_reducible exact H | (rw [hy488]; exact H) | exact H
        have Ny488 := Aside0.mk hy488
        clear hy488
        have H' := Aside0.mk H
        clear H
        have p485 : 0 ≤ (x11_1 : Int) := of_decide_eq_true y4_
        have q485 : x11_1 < (l0.length : Int) := of_decide_eq_true y4_
        obtain ⟨ad485, e485, hx485_0, hx485_1⟩ := at_T44 HR0.out x11_1 p485 q485
        cases e485
        replace hx485_0 := (HB.out.cell (World.block_lt_of_cell? w _ hx485_0)).trans hx485_0
        replace hx485_1 := (HB.out.cell (World.block_lt_of_cell? w _ hx485_1)).trans hx485_1
        replace p485 := eq_true p485
        replace q485 := eq_true q485
        go_wp2_with (first | ((with_reducible refine gate_dst (N := 7) rfl ?_); refine box_event ?hg (N := 7) ?hd (cs := #[.string (⟨#[]⟩ : ByteArray), .string (⟨#[]⟩ : ByteArray)]) (t := 44) ?hr ?_; (case hd => rfl); (case hg => rfl); (case hr => first | (go_simp; done) | (go_simp; rfl)); intro gb486 hg w11 hbox hb; have n0_ := Aside0.mk (Kd.R_below (Kd.R_elderB y20_ gb486 (Nat.le_of_eq hg.symm)) hb); have n1_ := Aside0.mk (below_step y1_ hb); have n2_ := Aside0.mk (hbox); have n3_ := Aside0.mk ((y14_ : w.heap.size ≤ gb486)); have n4_ := Aside0.mk ((y14_ : w.heap.size ≤ gb486)); clear HO_5; clear HB; have HO_5 := n0_; have HB := n1_; have BK486 := n2_; have GW486 := n3_; have GE486 := n4_; clear n0_ n1_ n2_ n3_ n4_; clear hb hbox hg; have hcz12_0 : w11.cell? ⟨gb486, 0, none⟩ = some (.string (⟨#[]⟩ : ByteArray)) := (blk_cell BK486.out 0).trans rfl; have hcz12_1 : w11.cell? ⟨gb486, 1, none⟩ = some (.string (⟨#[]⟩ : ByteArray)) := (blk_cell BK486.out 1).trans rfl; have hfz12_0 := blk_frozen BK486.out 0; have hfz12_1 := blk_frozen BK486.out 1) | ((with_reducible refine gate_callee (f := 68) rfl ?_); refine goesL_ (some 18) rfl rfl Tryd.func68 (by kernel_rfl) rfl #[.slice A1 l1.length c1, .string ((rd_T44 l0 x11_1).f0)] rfl y2_ ?_; (with_reducible refine (manometerref05_In.calls k1 _ _ l1 ((rd_T44 l0 x11_1).f0) true _ ?side1 ?side2 A8.out).mono ?_); (case side1 => exact Kd.C_below HR1.out y43_); (case side2 => exact HC1.out); rintro e w' ⟨rfl, ⟨nd, rfl⟩⟩; refine ⟨_, rfl, ?_⟩) | ((with_reducible refine gate_builtin (b := .append) (xs := #[.tmp 19, .tmp 21]) rfl ?_); at_builtin; refine Kd.R_append k44 (w0 := w) w.heap.size rfl (.tmp 19) (.tmp 21) 29 44 (.agg #[(.string ⟨#[]⟩), (.string ⟨#[]⟩)]) 32 rfl Tryd.underlying29 info44 rfl (by decide) (by omega) u5 x5_1 (⟨(rd_T44 l0 x11_1).f0, (rd_T44 l0 x11_1).f1⟩ : S44) [.string ((rd_T44 l0 x11_1).f0), .string ((rd_T44 l0 x11_1).f1)] (fun k_ => k_ ≠ gb486) (fun _ => False) rfl y93_ ?aP (fun _ hk => hk.elim) ?aF ?aO ?aB ?aS ?aL ?_; (case aP => exact k44_mkM _ _ _ (⟨(rd_T44 l0 x11_1).f0, (rd_T44 l0 x11_1).f1⟩ : S44)); (case aB => exact y43_); (case aF => exact (fun k_ hk => Kd.freshB (g := gb486) (o := .cells #[.string ((rd_T44 l0 x11_1).f0), .string ((rd_T44 l0 x11_1).f1)] 44 (0, 0)) y58_ k_ hk)); (case aO => exact (by (with_reducible repeat (first | apply Kd.R_alloc | apply Kd.R_drewN | apply Kd.R_drew)); exact Kd.R_mono (Kd.R_far (p := ⟨gb486, 1, none⟩) (Kd.R_far (p := ⟨gb486, 0, none⟩) (Kd.R_mono HO_5.out (fun k_ hk => (⟨hk, hk.2⟩ : _ ∧ k_ ≠ gb486))) (fun _ hk => hk.2) (.string ((rd_T44 l0 x11_1).f0))) (fun _ hk => hk.2) (.string ((rd_T44 l0 x11_1).f1))) (fun _ hk => hk.1.2))); (case aS => exact (below_size y43_)); (case aL => have := LMc10.out; omega); intro v489 w13 ho hb hg hat; rw [← Ny488.out] at ho; have n0_ := Aside0.mk (blk_grown (g := gb486) (o := .cells #[.string ((rd_T44 l0 x11_1).f0), .string ((rd_T44 l0 x11_1).f1)] 44 (0, 0)) y58_ hg (Kd.R_away HO_5.out (fun _ hk => hk.2))); have n1_ := Aside0.mk (hb); have n2_ := Aside0.mk (ho); clear BK486; clear HB; clear HO_5; have BK486 := n0_; have HB := n1_; have HO490 := n2_; clear n0_ n1_ n2_; clear ho hb hg hat))
        go_roundg k1
        case measure => have := HK1.out; omega
        case rel => exact ⟨(y488), (wrap64 (x11_1 + 1)), y6_, H', ⟨y50_⟩, ⟨by (with_reducible repeat (first | apply Kd.R_alloc | apply Kd.R_drewN | apply Kd.R_drew)); exact Kd.R_mono HO490.out (fun _ hk => trivial)⟩, ⟨y43_⟩⟩
       ·rw [if_neg c10] at H
        exact absurd H (by simp)
      ·replace c9 := Bool.eq_false_iff.mpr c9
       subst c9
       have H1 : (manometerref05_By.l0 k1 l1 x5_1 l0 (l0.length : Int) (wrap64 (x11_1 + 1))) = some r := by rw [if_neg (show ¬ (false = true) by decide)] at H; exact H
       clear H
       have H := H1
       clear H1
       have H' := Aside0.mk H
       clear H
       have p485 : 0 ≤ (x11_1 : Int) := of_decide_eq_true y4_
       have q485 : x11_1 < (l0.length : Int) := of_decide_eq_true y4_
       obtain ⟨ad485, e485, hx485_0, hx485_1⟩ := at_T44 HR0.out x11_1 p485 q485
       cases e485
       replace hx485_0 := (HB.out.cell (World.block_lt_of_cell? w _ hx485_0)).trans hx485_0
       replace hx485_1 := (HB.out.cell (World.block_lt_of_cell? w _ hx485_1)).trans hx485_1
       replace p485 := eq_true p485
       replace q485 := eq_true q485
       go_wp2_with (first | ((with_reducible refine gate_dst (N := 7) rfl ?_); refine box_event ?hg (N := 7) ?hd (cs := #[.string (⟨#[]⟩ : ByteArray), .string (⟨#[]⟩ : ByteArray)]) (t := 44) ?hr ?_; (case hd => rfl); (case hg => rfl); (case hr => first | (go_simp; done) | (go_simp; rfl)); intro gb486 hg w14 hbox hb; have n0_ := Aside0.mk (Kd.R_below (Kd.R_elderB y20_ gb486 (Nat.le_of_eq hg.symm)) hb); have n1_ := Aside0.mk (below_step y1_ hb); have n2_ := Aside0.mk (hbox); have n3_ := Aside0.mk ((y14_ : w.heap.size ≤ gb486)); have n4_ := Aside0.mk ((y14_ : w.heap.size ≤ gb486)); clear HO_5; clear HB; have HO_5 := n0_; have HB := n1_; have BK486 := n2_; have GW486 := n3_; have GE486 := n4_; clear n0_ n1_ n2_ n3_ n4_; clear hb hbox hg; have hcz15_0 : w14.cell? ⟨gb486, 0, none⟩ = some (.string (⟨#[]⟩ : ByteArray)) := (blk_cell BK486.out 0).trans rfl; have hcz15_1 : w14.cell? ⟨gb486, 1, none⟩ = some (.string (⟨#[]⟩ : ByteArray)) := (blk_cell BK486.out 1).trans rfl; have hfz15_0 := blk_frozen BK486.out 0; have hfz15_1 := blk_frozen BK486.out 1) | ((with_reducible refine gate_callee (f := 68) rfl ?_); refine goesL_ (some 18) rfl rfl Tryd.func68 (by kernel_rfl) rfl #[.slice A1 l1.length c1, .string ((rd_T44 l0 x11_1).f0)] rfl y2_ ?_; (with_reducible refine (manometerref05_In.calls k1 _ _ l1 ((rd_T44 l0 x11_1).f0) false _ ?side1 ?side2 A8.out).mono ?_); (case side1 => exact Kd.C_below HR1.out y43_); (case side2 => exact HC1.out); rintro e w' ⟨rfl, ⟨nd, rfl⟩⟩; refine ⟨_, rfl, ?_⟩))
       go_roundg k1
       case measure => have := HK1.out; omega
       case rel => exact ⟨(x5_1), (wrap64 (x11_1 + 1)), y6_, H', ⟨y50_⟩, ⟨by (with_reducible repeat (first | apply Kd.R_alloc | apply Kd.R_drewN | apply Kd.R_drew)); exact Kd.R_mono (Kd.R_far (p := ⟨gb486, 1, none⟩) (Kd.R_far (p := ⟨gb486, 0, none⟩) (Kd.R_mono HO_5.out (fun k_ hk => (⟨hk, hk.2⟩ : _ ∧ k_ ≠ gb486))) (fun _ hk => hk.2) (.string ((rd_T44 l0 x11_1).f0))) (fun _ hk => hk.2) (.string ((rd_T44 l0 x11_1).f1))) (fun _ hk => trivial)⟩, ⟨y43_⟩⟩
     ·rw [if_neg c7] at H
      exact absurd H (by simp)
    ·rw [if_neg c6] at H
     exact absurd H (by simp)
   ·rw [if_neg c5] at H
    have c5b0 : decide (x11_1 < (l0.length : Int)) = false := decide_eq_false c5
    clear c5
    obtain rfl := Option.some.inj H
    go_wp2
    go_ret
    exact ⟨_, y9_, y20_, y1_⟩
def labels_Without.l0 : Nat → List ByteArray → List (S44) → List (S44) → Int → Int → Option ((List (S44)))
 | 0, _, _, _, _, _ => none
 | k + 1, x1, x5, x8, x9, x10 => if x10 < x9 then (if 0 ≤ x10 then (if x10 < (x8.length : Int) then (if ((rd_T44 x8 x10).f0).toList = ([95, 95, 110, 97, 109, 101, 95, 95] : List UInt8) then (labels_Without.l0 k x1 x5 x8 x9 (wrap64 (x10 + 1))) else ((labels_among.f k x1 ((rd_T44 x8 x10).f0)).bind fun t493 => (if t493 = true then (labels_Without.l0 k x1 x5 x8 x9 (wrap64 (x10 + 1))) else (if x5.length < 4398046511104 then (labels_Without.l0 k x1 (x5 ++ [(⟨(rd_T44 x8 x10).f0, (rd_T44 x8 x10).f1⟩ : S44)]) x8 x9 (wrap64 (x10 + 1))) else (none))))) else (none)) else (none)) else (some x5)
def labels_Without.f (k : Nat) (l0 : List (S44)) (l1 : List ByteArray) : Option ((List (S44))) := labels_Without.l0 k l1 ([] : List (S44)) l0 (l0.length : Int) 0
set_option maxHeartbeats 8000000 in
set_option maxRecDepth 100000 in
theorem labels_Without.calls (k : Nat) (A0 : Option Addr) (c0 : Nat) (l0 : List (S44)) (A1 : Option Addr) (c1 : Nat) (l1 : List ByteArray) (r : List (S44)) (w : World) (hr0 : Kd.C k44 w A0 l0.length l0) (hc0 : l0.length ≤ c0) (hr1 : Kd.C Kd.string w A1 l1.length l1) (hc1 : l1.length ≤ c1) (h : labels_Without.f k l0 l1 = some r) :
  Calls Tryd.prog 45 #[.slice A0 l0.length c0, .slice A1 l1.length c1] w fun e w' => ∃ v0_ : Value, e = .returned (v0_) ∧ Kd.R k44 44 w' w.heap.size (fun _ => True) v0_ r ∧ Below w.heap.size w w' := by
 have hu44 := Tryd.underlying44
 have HR0 := Aside0.mk hr0
 have HC0 := Aside0.mk hc0
 clear hr0 hc0
 have HR1 := Aside0.mk hr1
 have HC1 := Aside0.mk hc1
 clear hr1 hc1
 have HB := Aside0.mk (Below.refl w.heap.size w)
 have H : (labels_Without.l0 k l1 ([] : List (S44)) l0 (l0.length : Int) 0) = some r := h
 clear h
 have H' := Aside0.mk H
 clear H
 go_enter Tryd.func45, Tryd.ntmps45
 go_wp2
 go_loopg [5, 10] k (fun kq v5 v10 w' => ∃ (x5_1 : List (S44)) (x10_1 : Int), v10 = .int .i64 x10_1 ∧ Aside0 (labels_Without.l0 kq l1 x5_1 l0 (l0.length : Int) x10_1 = some r) ∧ Aside0 (kq ≤ k) ∧ Aside0 (Kd.R k44 44 w' w.heap.size (fun _ => True) v5 x5_1) ∧ Aside0 (Below w.heap.size w w'))
 case atStart => exact ⟨(([] : List (S44))), (0), y6_, H', ⟨Nat.le_refl _⟩, ⟨y18_⟩, ⟨y1_⟩⟩
 case round =>
  clear H'
  try clear c1
  try clear p2
  obtain ⟨x5_1, x10_1, rfl, HA, HK1, HO_5, HB⟩ := hrel
  cases gk with
  | zero => exact absurd HA.out (by simp [labels_Without.l0])
  | succ k1 =>
   have H := HA.out
   clear HA
   simp only [labels_Without.l0] at H
   by_cases c3 : x10_1 < (l0.length : Int)
   ·rw [if_pos c3] at H
    have c3b0 : decide (x10_1 < (l0.length : Int)) = true := decide_eq_true c3
    clear c3
    by_cases c4 : 0 ≤ x10_1
    ·rw [if_pos c4] at H
     have c4b0 : decide (0 ≤ x10_1) = true := decide_eq_true c4
     clear c4
     by_cases c5 : x10_1 < (l0.length : Int)
     ·rw [if_pos c5] at H
      have c5b0 : decide (x10_1 < (l0.length : Int)) = true := decide_eq_true c5
      clear c5
      by_cases c6 : ((rd_T44 l0 x10_1).f0).toList = ([95, 95, 110, 97, 109, 101, 95, 95] : List UInt8)
      ·rw [if_pos c6] at H
       have c6b0 : (((rd_T44 l0 x10_1).f0).toList == ([95, 95, 110, 97, 109, 101, 95, 95] : List UInt8)) = true := beq_iff_eq.mpr c6
       have c6b1 : (((rd_T44 l0 x10_1).f0).toList != ([95, 95, 110, 97, 109, 101, 95, 95] : List UInt8)) = false := bne_eq_false_iff_eq.mpr c6
       clear c6
       have H' := Aside0.mk H
       clear H
       have p491 : 0 ≤ (x10_1 : Int) := of_decide_eq_true y4_
       have q491 : x10_1 < (l0.length : Int) := of_decide_eq_true y4_
       obtain ⟨ad491, e491, hx491_0, hx491_1⟩ := at_T44 HR0.out x10_1 p491 q491
       cases e491
       replace hx491_0 := (HB.out.cell (World.block_lt_of_cell? w _ hx491_0)).trans hx491_0
       replace hx491_1 := (HB.out.cell (World.block_lt_of_cell? w _ hx491_1)).trans hx491_1
       replace p491 := eq_true p491
       replace q491 := eq_true q491
       go_wp2_with (first | ((with_reducible refine gate_dst (N := 7) rfl ?_); refine box_event ?hg (N := 7) ?hd (cs := #[.string (⟨#[]⟩ : ByteArray), .string (⟨#[]⟩ : ByteArray)]) (t := 44) ?hr ?_; (case hd => rfl); (case hg => rfl); (case hr => first | (go_simp; done) | (go_simp; rfl)); intro gb492 hg w7 hbox hb; have n0_ := Aside0.mk (Kd.R_below (Kd.R_elderB y20_ gb492 (Nat.le_of_eq hg.symm)) hb); have n1_ := Aside0.mk (below_step y1_ hb); have n2_ := Aside0.mk (hbox); have n3_ := Aside0.mk ((y14_ : w.heap.size ≤ gb492)); have n4_ := Aside0.mk ((y14_ : w.heap.size ≤ gb492)); clear HO_5; clear HB; have HO_5 := n0_; have HB := n1_; have BK492 := n2_; have GW492 := n3_; have GE492 := n4_; clear n0_ n1_ n2_ n3_ n4_; clear hb hbox hg; have hcz8_0 : w7.cell? ⟨gb492, 0, none⟩ = some (.string (⟨#[]⟩ : ByteArray)) := (blk_cell BK492.out 0).trans rfl; have hcz8_1 : w7.cell? ⟨gb492, 1, none⟩ = some (.string (⟨#[]⟩ : ByteArray)) := (blk_cell BK492.out 1).trans rfl; have hfz8_0 := blk_frozen BK492.out 0; have hfz8_1 := blk_frozen BK492.out 1))
       go_roundg k1
       case measure => have := HK1.out; omega
       case rel => exact ⟨(x5_1), (wrap64 (x10_1 + 1)), y6_, H', ⟨y50_⟩, ⟨y76_⟩, ⟨y39_⟩⟩
      ·rw [if_neg c6] at H
       have c6b0 : (((rd_T44 l0 x10_1).f0).toList == ([95, 95, 110, 97, 109, 101, 95, 95] : List UInt8)) = false := beq_eq_false_iff_ne.mpr c6
       have c6b1 : (((rd_T44 l0 x10_1).f0).toList != ([95, 95, 110, 97, 109, 101, 95, 95] : List UInt8)) = true := bne_iff_ne.mpr c6
       replace H := Option.bind_eq_some_iff.mp H
       obtain ⟨t493, A90, H⟩ := H
       replace H : (if t493 = true then (labels_Without.l0 k1 l1 x5_1 l0 (l0.length : Int) (wrap64 (x10_1 + 1))) else (if x5_1.length < 4398046511104 then (labels_Without.l0 k1 l1 (x5_1 ++ [(⟨(rd_T44 l0 x10_1).f0, (rd_T44 l0 x10_1).f1⟩ : S44)]) l0 (l0.length : Int) (wrap64 (x10_1 + 1))) else (none))) = some r := H
       have A9 := Aside0.mk A90
       clear A90
       by_cases c10 : t493 = true
       ·subst c10
        have H1 : (labels_Without.l0 k1 l1 x5_1 l0 (l0.length : Int) (wrap64 (x10_1 + 1))) = some r := by rw [if_pos rfl] at H; exact H
        clear H
        have H := H1
        clear H1
        have H' := Aside0.mk H
        clear H
        have p491 : 0 ≤ (x10_1 : Int) := of_decide_eq_true y4_
        have q491 : x10_1 < (l0.length : Int) := of_decide_eq_true y4_
        obtain ⟨ad491, e491, hx491_0, hx491_1⟩ := at_T44 HR0.out x10_1 p491 q491
        cases e491
        replace hx491_0 := (HB.out.cell (World.block_lt_of_cell? w _ hx491_0)).trans hx491_0
        replace hx491_1 := (HB.out.cell (World.block_lt_of_cell? w _ hx491_1)).trans hx491_1
        replace p491 := eq_true p491
        replace q491 := eq_true q491
        go_wp2_with (first | ((with_reducible refine gate_dst (N := 7) rfl ?_); refine box_event ?hg (N := 7) ?hd (cs := #[.string (⟨#[]⟩ : ByteArray), .string (⟨#[]⟩ : ByteArray)]) (t := 44) ?hr ?_; (case hd => rfl); (case hg => rfl); (case hr => first | (go_simp; done) | (go_simp; rfl)); intro gb492 hg w11 hbox hb; have n0_ := Aside0.mk (Kd.R_below (Kd.R_elderB y20_ gb492 (Nat.le_of_eq hg.symm)) hb); have n1_ := Aside0.mk (below_step y1_ hb); have n2_ := Aside0.mk (hbox); have n3_ := Aside0.mk ((y14_ : w.heap.size ≤ gb492)); have n4_ := Aside0.mk ((y14_ : w.heap.size ≤ gb492)); clear HO_5; clear HB; have HO_5 := n0_; have HB := n1_; have BK492 := n2_; have GW492 := n3_; have GE492 := n4_; clear n0_ n1_ n2_ n3_ n4_; clear hb hbox hg; have hcz12_0 : w11.cell? ⟨gb492, 0, none⟩ = some (.string (⟨#[]⟩ : ByteArray)) := (blk_cell BK492.out 0).trans rfl; have hcz12_1 : w11.cell? ⟨gb492, 1, none⟩ = some (.string (⟨#[]⟩ : ByteArray)) := (blk_cell BK492.out 1).trans rfl; have hfz12_0 := blk_frozen BK492.out 0; have hfz12_1 := blk_frozen BK492.out 1) | (go_at_call 67; (with_reducible refine (labels_among.calls k1 _ _ l1 ((rd_T44 l0 x10_1).f0) true _ ?side1 ?side2 A9.out).mono ?_); (case side1 => exact Kd.C_below HR1.out y39_); (case side2 => exact HC1.out); rintro e w' ⟨rfl, ⟨nd, rfl⟩⟩))
        go_roundg k1
        case measure => have := HK1.out; omega
        case rel => exact ⟨(x5_1), (wrap64 (x10_1 + 1)), y6_, H', ⟨y50_⟩, ⟨y76_⟩, ⟨y39_⟩⟩
       ·replace c10 := Bool.eq_false_iff.mpr c10
        subst c10
        have H1 : (if x5_1.length < 4398046511104 then (labels_Without.l0 k1 l1 (x5_1 ++ [(⟨(rd_T44 l0 x10_1).f0, (rd_T44 l0 x10_1).f1⟩ : S44)]) l0 (l0.length : Int) (wrap64 (x10_1 + 1))) else (none)) = some r := by rw [if_neg (show ¬ (false = true) by decide)] at H; exact H
        clear H
        have H := H1
        clear H1
        by_cases c13 : x5_1.length < 4398046511104
        ·rw [if_pos c13] at H
         have LMc13 := Aside0.mk c13
         clear c13
         obtain ⟨y494, hy494⟩ : ∃ y_ : List (S44), y_ = (x5_1 ++ [(⟨(rd_T44 l0 x10_1).f0, (rd_T44 l0 x10_1).f1⟩ : S44)]) := ⟨_, rfl⟩
         replace H : (labels_Without.l0 k1 l1 y494 l0 (l0.length : Int) (wrap64 (x10_1 + 1))) = some r := by first | (rw [hy494]; with_reducible exact H) | (have H2_ := (Option.bind_some _ _).symm.trans H; rw [hy494]; with_reducible exact H2_) | (have H2_ := (Option.bind_some _ _).symm.trans H; with_reducible exact H2_) | with_reducible exact H | (rw [hy494]; exact H) | exact H
         have Ny494 := Aside0.mk hy494
         clear hy494
         have H' := Aside0.mk H
         clear H
         have p491 : 0 ≤ (x10_1 : Int) := of_decide_eq_true y4_
         have q491 : x10_1 < (l0.length : Int) := of_decide_eq_true y4_
         obtain ⟨ad491, e491, hx491_0, hx491_1⟩ := at_T44 HR0.out x10_1 p491 q491
         cases e491
         replace hx491_0 := (HB.out.cell (World.block_lt_of_cell? w _ hx491_0)).trans hx491_0
         replace hx491_1 := (HB.out.cell (World.block_lt_of_cell? w _ hx491_1)).trans hx491_1
         replace p491 := eq_true p491
         replace q491 := eq_true q491
         go_wp2_with (first | ((with_reducible refine gate_dst (N := 7) rfl ?_); refine box_event ?hg (N := 7) ?hd (cs := #[.string (⟨#[]⟩ : ByteArray), .string (⟨#[]⟩ : ByteArray)]) (t := 44) ?hr ?_; (case hd => rfl); (case hg => rfl); (case hr => first | (go_simp; done) | (go_simp; rfl)); intro gb492 hg w14 hbox hb; have n0_ := Aside0.mk (Kd.R_below (Kd.R_elderB y20_ gb492 (Nat.le_of_eq hg.symm)) hb); have n1_ := Aside0.mk (below_step y1_ hb); have n2_ := Aside0.mk (hbox); have n3_ := Aside0.mk ((y14_ : w.heap.size ≤ gb492)); have n4_ := Aside0.mk ((y14_ : w.heap.size ≤ gb492)); clear HO_5; clear HB; have HO_5 := n0_; have HB := n1_; have BK492 := n2_; have GW492 := n3_; have GE492 := n4_; clear n0_ n1_ n2_ n3_ n4_; clear hb hbox hg; have hcz15_0 : w14.cell? ⟨gb492, 0, none⟩ = some (.string (⟨#[]⟩ : ByteArray)) := (blk_cell BK492.out 0).trans rfl; have hcz15_1 : w14.cell? ⟨gb492, 1, none⟩ = some (.string (⟨#[]⟩ : ByteArray)) := (blk_cell BK492.out 1).trans rfl; have hfz15_0 := blk_frozen BK492.out 0; have hfz15_1 := blk_frozen BK492.out 1) | (go_at_call 67; (with_reducible refine (labels_among.calls k1 _ _ l1 ((rd_T44 l0 x10_1).f0) false _ ?side1 ?side2 A9.out).mono ?_); (case side1 => exact Kd.C_below HR1.out y39_); (case side2 => exact HC1.out); rintro e w' ⟨rfl, ⟨nd, rfl⟩⟩) | ((with_reducible refine gate_builtin (b := .append) (xs := #[.tmp 24, .tmp 26]) rfl ?_); at_builtin; refine Kd.R_append k44 (w0 := w) w.heap.size rfl (.tmp 24) (.tmp 26) 29 44 (.agg #[(.string ⟨#[]⟩), (.string ⟨#[]⟩)]) 32 rfl Tryd.underlying29 info44 rfl (by decide) (by omega) u5 x5_1 (⟨(rd_T44 l0 x10_1).f0, (rd_T44 l0 x10_1).f1⟩ : S44) [.string ((rd_T44 l0 x10_1).f0), .string ((rd_T44 l0 x10_1).f1)] (fun k_ => k_ ≠ gb492) (fun _ => False) rfl y93_ ?aP (fun _ hk => hk.elim) ?aF ?aO ?aB ?aS ?aL ?_; (case aP => exact k44_mkM _ _ _ (⟨(rd_T44 l0 x10_1).f0, (rd_T44 l0 x10_1).f1⟩ : S44)); (case aB => exact y39_); (case aF => exact (fun k_ hk => Kd.freshB (g := gb492) (o := .cells #[.string ((rd_T44 l0 x10_1).f0), .string ((rd_T44 l0 x10_1).f1)] 44 (0, 0)) y59_ k_ hk)); (case aO => exact (by (with_reducible repeat (first | apply Kd.R_alloc | apply Kd.R_drewN | apply Kd.R_drew)); exact Kd.R_mono (Kd.R_far (p := ⟨gb492, 1, none⟩) (Kd.R_far (p := ⟨gb492, 0, none⟩) (Kd.R_mono HO_5.out (fun k_ hk => (⟨hk, hk.2⟩ : _ ∧ k_ ≠ gb492))) (fun _ hk => hk.2) (.string ((rd_T44 l0 x10_1).f0))) (fun _ hk => hk.2) (.string ((rd_T44 l0 x10_1).f1))) (fun _ hk => hk.1.2))); (case aS => exact (below_size y39_)); (case aL => have := LMc13.out; omega); intro v495 w16 ho hb hg hat; rw [← Ny494.out] at ho; have n0_ := Aside0.mk (blk_grown (g := gb492) (o := .cells #[.string ((rd_T44 l0 x10_1).f0), .string ((rd_T44 l0 x10_1).f1)] 44 (0, 0)) y59_ hg (Kd.R_away HO_5.out (fun _ hk => hk.2))); have n1_ := Aside0.mk (hb); have n2_ := Aside0.mk (ho); clear BK492; clear HB; clear HO_5; have BK492 := n0_; have HB := n1_; have HO496 := n2_; clear n0_ n1_ n2_; clear ho hb hg hat))
         go_roundg k1
         case measure => have := HK1.out; omega
         case rel => exact ⟨(y494), (wrap64 (x10_1 + 1)), y6_, H', ⟨y50_⟩, ⟨by (with_reducible repeat (first | apply Kd.R_alloc | apply Kd.R_drewN | apply Kd.R_drew)); exact Kd.R_mono HO496.out (fun _ hk => trivial)⟩, ⟨y39_⟩⟩
        ·rw [if_neg c13] at H
         exact absurd H (by simp)
     ·rw [if_neg c5] at H
      exact absurd H (by simp)
    ·rw [if_neg c4] at H
     exact absurd H (by simp)
   ·rw [if_neg c3] at H
    have c3b0 : decide (x10_1 < (l0.length : Int)) = false := decide_eq_false c3
    clear c3
    obtain rfl := Option.some.inj H
    go_wp2
    go_ret
    exact ⟨_, y9_, y20_, y1_⟩
def manometerref05_Without.l0 : Nat → List ByteArray → List (S44) → List (S44) → Int → Int → Option ((List (S44)))
 | 0, _, _, _, _, _ => none
 | k + 1, x1, x5, x9, x10, x11 => if x11 < x10 then (if 0 ≤ x11 then (if x11 < (x9.length : Int) then ((manometerref05_In.f k x1 ((rd_T44 x9 x11).f0)).bind fun t502 => (if t502 = true then (manometerref05_Without.l0 k x1 x5 x9 x10 (wrap64 (x11 + 1))) else (if ((rd_T44 x9 x11).f0).toList = ([95, 95, 110, 97, 109, 101, 95, 95] : List UInt8) then (manometerref05_Without.l0 k x1 x5 x9 x10 (wrap64 (x11 + 1))) else (if x5.length < 4398046511104 then (manometerref05_Without.l0 k x1 (x5 ++ [(⟨(rd_T44 x9 x11).f0, (rd_T44 x9 x11).f1⟩ : S44)]) x9 x10 (wrap64 (x11 + 1))) else (none))))) else (none)) else (none)) else (some x5)
def manometerref05_Without.f (k : Nat) (l0 : List (S44)) (l1 : List ByteArray) : Option ((List (S44))) := manometerref05_Without.l0 k l1 (([] : List (S44))) l0 (l0.length : Int) 0
set_option maxHeartbeats 8000000 in
set_option maxRecDepth 100000 in
theorem manometerref05_Without.calls (k : Nat) (A0 : Option Addr) (c0 : Nat) (l0 : List (S44)) (A1 : Option Addr) (c1 : Nat) (l1 : List ByteArray) (r : List (S44)) (w : World) (hr0 : Kd.C k44 w A0 l0.length l0) (hc0 : l0.length ≤ c0) (hr1 : Kd.C Kd.string w A1 l1.length l1) (hc1 : l1.length ≤ c1) (h : manometerref05_Without.f k l0 l1 = some r) :
  Calls Tryd.prog 46 #[.slice A0 l0.length c0, .slice A1 l1.length c1] w fun e w' => ∃ v0_ : Value, e = .returned (v0_) ∧ Kd.R k44 44 w' w.heap.size (fun _ => True) v0_ r ∧ Below w.heap.size w w' := by
 have hu44 := Tryd.underlying44
 have HR0 := Aside0.mk hr0
 have HC0 := Aside0.mk hc0
 clear hr0 hc0
 have HR1 := Aside0.mk hr1
 have HC1 := Aside0.mk hc1
 clear hr1 hc1
 have HB := Aside0.mk (Below.refl w.heap.size w)
 have H : (manometerref05_Without.l0 k l1 (([] : List (S44))) l0 (l0.length : Int) 0) = some r := h
 clear h
 obtain ⟨y497, hy497⟩ : ∃ y_ : List (S44), y_ = (([] : List (S44))) := ⟨_, rfl⟩
 replace H : (manometerref05_Without.l0 k l1 y497 l0 (l0.length : Int) 0) = some r := by first | (rw [hy497]; with_reducible exact H) | (have H2_ := (Option.bind_some _ _).symm.trans H; rw [hy497]; with_reducible exact H2_) | (have H2_ := (Option.bind_some _ _).symm.trans H; with_reducible exact H2_) | with_reducible exact H | (rw [hy497]; exact H) | exact H
 have Ny497 := Aside0.mk hy497
 clear hy497
 have H' := Aside0.mk H
 clear H
 go_enter Tryd.func46, Tryd.ntmps46
 go_wp2_with (first | ((with_reducible refine gate_dst (N := 8) rfl ?_); refine Kd.R_lit k44 _ 44 ?hg (N := 8) ?hd (xs := ([] : List (S44))) (inner := []) (ok := fun _ => True) (okp := fun _ => True) ?hr ?hp (fun _ hk => hk) trivial (Below.refl _ _) (Nat.le_refl _) (by simp) ?_; (case hd => rfl); (case hg => rfl); (case hr => first | (go_simp; done) | (go_simp; rfl)); (case hp => exact (Reps.none _ _)); intro v498 w3 ho4 hb hg_ hnew_; clear hg_ hnew_; (first | rw [← Ny497.out] at ho4 | (simp only [Int.reduceToNat] at ho4; rw [← Ny497.out] at ho4)); have n0_ := Aside0.mk (Kd.R_lower ho4 (below_size y1_)); have n1_ := Aside0.mk (below_step y1_ hb); clear HB; have HO499 := n0_; have HB := n1_; clear n0_ n1_; clear hb ho4))
 go_loopg [5, 11] k (fun kq v5 v11 w' => ∃ (x5_1 : List (S44)) (x11_1 : Int), v11 = .int .i64 x11_1 ∧ Aside0 (manometerref05_Without.l0 kq l1 x5_1 l0 (l0.length : Int) x11_1 = some r) ∧ Aside0 (kq ≤ k) ∧ Aside0 (Kd.R k44 44 w' w.heap.size (fun _ => True) v5 x5_1) ∧ Aside0 (Below w.heap.size w w'))
 case atStart => exact ⟨(y497), (0), y6_, H', ⟨Nat.le_refl _⟩, ⟨by (with_reducible repeat (first | apply Kd.R_alloc | apply Kd.R_drewN | apply Kd.R_drew)); exact HO499.out⟩, ⟨y1_⟩⟩
 case round =>
  clear H'
  try clear c1
  try clear p2
  try clear c4
  obtain ⟨x5_1, x11_1, rfl, HA, HK1, HO_5, HB⟩ := hrel
  cases gk with
  | zero => exact absurd HA.out (by simp [manometerref05_Without.l0])
  | succ k1 =>
   have H := HA.out
   clear HA
   simp only [manometerref05_Without.l0] at H
   by_cases c5 : x11_1 < (l0.length : Int)
   ·rw [if_pos c5] at H
    have c5b0 : decide (x11_1 < (l0.length : Int)) = true := decide_eq_true c5
    clear c5
    by_cases c6 : 0 ≤ x11_1
    ·rw [if_pos c6] at H
     have c6b0 : decide (0 ≤ x11_1) = true := decide_eq_true c6
     clear c6
     by_cases c7 : x11_1 < (l0.length : Int)
     ·rw [if_pos c7] at H
      have c7b0 : decide (x11_1 < (l0.length : Int)) = true := decide_eq_true c7
      clear c7
      replace H := Option.bind_eq_some_iff.mp H
      obtain ⟨t502, A80, H⟩ := H
      replace H : (if t502 = true then (manometerref05_Without.l0 k1 l1 x5_1 l0 (l0.length : Int) (wrap64 (x11_1 + 1))) else (if ((rd_T44 l0 x11_1).f0).toList = ([95, 95, 110, 97, 109, 101, 95, 95] : List UInt8) then (manometerref05_Without.l0 k1 l1 x5_1 l0 (l0.length : Int) (wrap64 (x11_1 + 1))) else (if x5_1.length < 4398046511104 then (manometerref05_Without.l0 k1 l1 (x5_1 ++ [(⟨(rd_T44 l0 x11_1).f0, (rd_T44 l0 x11_1).f1⟩ : S44)]) l0 (l0.length : Int) (wrap64 (x11_1 + 1))) else (none)))) = some r := H
      have A8 := Aside0.mk A80
      clear A80
      by_cases c9 : t502 = true
      ·subst c9
       have H1 : (manometerref05_Without.l0 k1 l1 x5_1 l0 (l0.length : Int) (wrap64 (x11_1 + 1))) = some r := by rw [if_pos rfl] at H; exact H
       clear H
       have H := H1
       clear H1
       have H' := Aside0.mk H
       clear H
       have p500 : 0 ≤ (x11_1 : Int) := of_decide_eq_true y4_
       have q500 : x11_1 < (l0.length : Int) := of_decide_eq_true y4_
       obtain ⟨ad500, e500, hx500_0, hx500_1⟩ := at_T44 HR0.out x11_1 p500 q500
       cases e500
       replace hx500_0 := (HB.out.cell (World.block_lt_of_cell? w _ hx500_0)).trans hx500_0
       replace hx500_1 := (HB.out.cell (World.block_lt_of_cell? w _ hx500_1)).trans hx500_1
       replace p500 := eq_true p500
       replace q500 := eq_true q500
       go_wp2_with (first | ((with_reducible refine gate_dst (N := 7) rfl ?_); refine box_event ?hg (N := 7) ?hd (cs := #[.string (⟨#[]⟩ : ByteArray), .string (⟨#[]⟩ : ByteArray)]) (t := 44) ?hr ?_; (case hd => rfl); (case hg => rfl); (case hr => first | (go_simp; done) | (go_simp; rfl)); intro gb501 hg w10 hbox hb; have n0_ := Aside0.mk (Kd.R_below (Kd.R_elderB y20_ gb501 (Nat.le_of_eq hg.symm)) hb); have n1_ := Aside0.mk (below_step y1_ hb); have n2_ := Aside0.mk (hbox); have n3_ := Aside0.mk ((y14_ : w.heap.size ≤ gb501)); have n4_ := Aside0.mk ((y14_ : w.heap.size ≤ gb501)); clear HO_5; clear HB; have HO_5 := n0_; have HB := n1_; have BK501 := n2_; have GW501 := n3_; have GE501 := n4_; clear n0_ n1_ n2_ n3_ n4_; clear hb hbox hg; have hcz11_0 : w10.cell? ⟨gb501, 0, none⟩ = some (.string (⟨#[]⟩ : ByteArray)) := (blk_cell BK501.out 0).trans rfl; have hcz11_1 : w10.cell? ⟨gb501, 1, none⟩ = some (.string (⟨#[]⟩ : ByteArray)) := (blk_cell BK501.out 1).trans rfl; have hfz11_0 := blk_frozen BK501.out 0; have hfz11_1 := blk_frozen BK501.out 1) | ((with_reducible refine gate_callee (f := 68) rfl ?_); refine goesL_ (some 18) rfl rfl Tryd.func68 (by kernel_rfl) rfl #[.slice A1 l1.length c1, .string ((rd_T44 l0 x11_1).f0)] rfl y2_ ?_; (with_reducible refine (manometerref05_In.calls k1 _ _ l1 ((rd_T44 l0 x11_1).f0) true _ ?side1 ?side2 A8.out).mono ?_); (case side1 => exact Kd.C_below HR1.out y34_); (case side2 => exact HC1.out); rintro e w' ⟨rfl, ⟨nd, rfl⟩⟩; refine ⟨_, rfl, ?_⟩))
       go_roundg k1
       case measure => have := HK1.out; omega
       case rel => exact ⟨(x5_1), (wrap64 (x11_1 + 1)), y6_, H', ⟨y50_⟩, ⟨y75_⟩, ⟨y34_⟩⟩
      ·replace c9 := Bool.eq_false_iff.mpr c9
       subst c9
       have H1 : (if ((rd_T44 l0 x11_1).f0).toList = ([95, 95, 110, 97, 109, 101, 95, 95] : List UInt8) then (manometerref05_Without.l0 k1 l1 x5_1 l0 (l0.length : Int) (wrap64 (x11_1 + 1))) else (if x5_1.length < 4398046511104 then (manometerref05_Without.l0 k1 l1 (x5_1 ++ [(⟨(rd_T44 l0 x11_1).f0, (rd_T44 l0 x11_1).f1⟩ : S44)]) l0 (l0.length : Int) (wrap64 (x11_1 + 1))) else (none))) = some r := by rw [if_neg (show ¬ (false = true) by decide)] at H; exact H
       clear H
       have H := H1
       clear H1
       by_cases c12 : ((rd_T44 l0 x11_1).f0).toList = ([95, 95, 110, 97, 109, 101, 95, 95] : List UInt8)
       ·rw [if_pos c12] at H
        have c12b0 : (((rd_T44 l0 x11_1).f0).toList == ([95, 95, 110, 97, 109, 101, 95, 95] : List UInt8)) = true := beq_iff_eq.mpr c12
        have c12b1 : (((rd_T44 l0 x11_1).f0).toList != ([95, 95, 110, 97, 109, 101, 95, 95] : List UInt8)) = false := bne_eq_false_iff_eq.mpr c12
        clear c12
        have H' := Aside0.mk H
        clear H
        have p500 : 0 ≤ (x11_1 : Int) := of_decide_eq_true y4_
        have q500 : x11_1 < (l0.length : Int) := of_decide_eq_true y4_
        obtain ⟨ad500, e500, hx500_0, hx500_1⟩ := at_T44 HR0.out x11_1 p500 q500
        cases e500
        replace hx500_0 := (HB.out.cell (World.block_lt_of_cell? w _ hx500_0)).trans hx500_0
        replace hx500_1 := (HB.out.cell (World.block_lt_of_cell? w _ hx500_1)).trans hx500_1
        replace p500 := eq_true p500
        replace q500 := eq_true q500
        go_wp2_with (first | ((with_reducible refine gate_dst (N := 7) rfl ?_); refine box_event ?hg (N := 7) ?hd (cs := #[.string (⟨#[]⟩ : ByteArray), .string (⟨#[]⟩ : ByteArray)]) (t := 44) ?hr ?_; (case hd => rfl); (case hg => rfl); (case hr => first | (go_simp; done) | (go_simp; rfl)); intro gb501 hg w13 hbox hb; have n0_ := Aside0.mk (Kd.R_below (Kd.R_elderB y20_ gb501 (Nat.le_of_eq hg.symm)) hb); have n1_ := Aside0.mk (below_step y1_ hb); have n2_ := Aside0.mk (hbox); have n3_ := Aside0.mk ((y14_ : w.heap.size ≤ gb501)); have n4_ := Aside0.mk ((y14_ : w.heap.size ≤ gb501)); clear HO_5; clear HB; have HO_5 := n0_; have HB := n1_; have BK501 := n2_; have GW501 := n3_; have GE501 := n4_; clear n0_ n1_ n2_ n3_ n4_; clear hb hbox hg; have hcz14_0 : w13.cell? ⟨gb501, 0, none⟩ = some (.string (⟨#[]⟩ : ByteArray)) := (blk_cell BK501.out 0).trans rfl; have hcz14_1 : w13.cell? ⟨gb501, 1, none⟩ = some (.string (⟨#[]⟩ : ByteArray)) := (blk_cell BK501.out 1).trans rfl; have hfz14_0 := blk_frozen BK501.out 0; have hfz14_1 := blk_frozen BK501.out 1) | ((with_reducible refine gate_callee (f := 68) rfl ?_); refine goesL_ (some 18) rfl rfl Tryd.func68 (by kernel_rfl) rfl #[.slice A1 l1.length c1, .string ((rd_T44 l0 x11_1).f0)] rfl y2_ ?_; (with_reducible refine (manometerref05_In.calls k1 _ _ l1 ((rd_T44 l0 x11_1).f0) false _ ?side1 ?side2 A8.out).mono ?_); (case side1 => exact Kd.C_below HR1.out y34_); (case side2 => exact HC1.out); rintro e w' ⟨rfl, ⟨nd, rfl⟩⟩; refine ⟨_, rfl, ?_⟩))
        go_roundg k1
        case measure => have := HK1.out; omega
        case rel => exact ⟨(x5_1), (wrap64 (x11_1 + 1)), y6_, H', ⟨y50_⟩, ⟨y75_⟩, ⟨y34_⟩⟩
       ·rw [if_neg c12] at H
        have c12b0 : (((rd_T44 l0 x11_1).f0).toList == ([95, 95, 110, 97, 109, 101, 95, 95] : List UInt8)) = false := beq_eq_false_iff_ne.mpr c12
        have c12b1 : (((rd_T44 l0 x11_1).f0).toList != ([95, 95, 110, 97, 109, 101, 95, 95] : List UInt8)) = true := bne_iff_ne.mpr c12
        by_cases c15 : x5_1.length < 4398046511104
        ·rw [if_pos c15] at H
         have LMc15 := Aside0.mk c15
         clear c15
         obtain ⟨y503, hy503⟩ : ∃ y_ : List (S44), y_ = (x5_1 ++ [(⟨(rd_T44 l0 x11_1).f0, (rd_T44 l0 x11_1).f1⟩ : S44)]) := ⟨_, rfl⟩
         replace H : (manometerref05_Without.l0 k1 l1 y503 l0 (l0.length : Int) (wrap64 (x11_1 + 1))) = some r := by first | (rw [hy503]; with_reducible exact H) | (have H2_ := (Option.bind_some _ _).symm.trans H; rw [hy503]; with_reducible exact H2_) | (have H2_ := (Option.bind_some _ _).symm.trans H; with_reducible exact H2_) | with_reducible exact H | (rw [hy503]; exact H) | exact H
         have Ny503 := Aside0.mk hy503
         clear hy503
         have H' := Aside0.mk H
         clear H
         have p500 : 0 ≤ (x11_1 : Int) := of_decide_eq_true y4_
         have q500 : x11_1 < (l0.length : Int) := of_decide_eq_true y4_
         obtain ⟨ad500, e500, hx500_0, hx500_1⟩ := at_T44 HR0.out x11_1 p500 q500
         cases e500
         replace hx500_0 := (HB.out.cell (World.block_lt_of_cell? w _ hx500_0)).trans hx500_0
         replace hx500_1 := (HB.out.cell (World.block_lt_of_cell? w _ hx500_1)).trans hx500_1
         replace p500 := eq_true p500
         replace q500 := eq_true q500
         go_wp2_with (first | ((with_reducible refine gate_dst (N := 7) rfl ?_); refine box_event ?hg (N := 7) ?hd (cs := #[.string (⟨#[]⟩ : ByteArray), .string (⟨#[]⟩ : ByteArray)]) (t := 44) ?hr ?_; (case hd => rfl); (case hg => rfl); (case hr => first | (go_simp; done) | (go_simp; rfl)); intro gb501 hg w16 hbox hb; have n0_ := Aside0.mk (Kd.R_below (Kd.R_elderB y20_ gb501 (Nat.le_of_eq hg.symm)) hb); have n1_ := Aside0.mk (below_step y1_ hb); have n2_ := Aside0.mk (hbox); have n3_ := Aside0.mk ((y14_ : w.heap.size ≤ gb501)); have n4_ := Aside0.mk ((y14_ : w.heap.size ≤ gb501)); clear HO_5; clear HB; have HO_5 := n0_; have HB := n1_; have BK501 := n2_; have GW501 := n3_; have GE501 := n4_; clear n0_ n1_ n2_ n3_ n4_; clear hb hbox hg; have hcz17_0 : w16.cell? ⟨gb501, 0, none⟩ = some (.string (⟨#[]⟩ : ByteArray)) := (blk_cell BK501.out 0).trans rfl; have hcz17_1 : w16.cell? ⟨gb501, 1, none⟩ = some (.string (⟨#[]⟩ : ByteArray)) := (blk_cell BK501.out 1).trans rfl; have hfz17_0 := blk_frozen BK501.out 0; have hfz17_1 := blk_frozen BK501.out 1) | ((with_reducible refine gate_callee (f := 68) rfl ?_); refine goesL_ (some 18) rfl rfl Tryd.func68 (by kernel_rfl) rfl #[.slice A1 l1.length c1, .string ((rd_T44 l0 x11_1).f0)] rfl y2_ ?_; (with_reducible refine (manometerref05_In.calls k1 _ _ l1 ((rd_T44 l0 x11_1).f0) false _ ?side1 ?side2 A8.out).mono ?_); (case side1 => exact Kd.C_below HR1.out y34_); (case side2 => exact HC1.out); rintro e w' ⟨rfl, ⟨nd, rfl⟩⟩; refine ⟨_, rfl, ?_⟩) | ((with_reducible refine gate_builtin (b := .append) (xs := #[.tmp 25, .tmp 27]) rfl ?_); at_builtin; refine Kd.R_append k44 (w0 := w) w.heap.size rfl (.tmp 25) (.tmp 27) 29 44 (.agg #[(.string ⟨#[]⟩), (.string ⟨#[]⟩)]) 32 rfl Tryd.underlying29 info44 rfl (by decide) (by omega) u5 x5_1 (⟨(rd_T44 l0 x11_1).f0, (rd_T44 l0 x11_1).f1⟩ : S44) [.string ((rd_T44 l0 x11_1).f0), .string ((rd_T44 l0 x11_1).f1)] (fun k_ => k_ ≠ gb501) (fun _ => False) rfl y93_ ?aP (fun _ hk => hk.elim) ?aF ?aO ?aB ?aS ?aL ?_; (case aP => exact k44_mkM _ _ _ (⟨(rd_T44 l0 x11_1).f0, (rd_T44 l0 x11_1).f1⟩ : S44)); (case aB => exact y34_); (case aF => exact (fun k_ hk => Kd.freshB (g := gb501) (o := .cells #[.string ((rd_T44 l0 x11_1).f0), .string ((rd_T44 l0 x11_1).f1)] 44 (0, 0)) y57_ k_ hk)); (case aO => exact (by (with_reducible repeat (first | apply Kd.R_alloc | apply Kd.R_drewN | apply Kd.R_drew)); exact Kd.R_mono (Kd.R_far (p := ⟨gb501, 1, none⟩) (Kd.R_far (p := ⟨gb501, 0, none⟩) (Kd.R_mono HO_5.out (fun k_ hk => (⟨hk, hk.2⟩ : _ ∧ k_ ≠ gb501))) (fun _ hk => hk.2) (.string ((rd_T44 l0 x11_1).f0))) (fun _ hk => hk.2) (.string ((rd_T44 l0 x11_1).f1))) (fun _ hk => hk.1.2))); (case aS => exact (below_size y34_)); (case aL => have := LMc15.out; omega); intro v504 w18 ho hb hg hat; rw [← Ny503.out] at ho; have n0_ := Aside0.mk (blk_grown (g := gb501) (o := .cells #[.string ((rd_T44 l0 x11_1).f0), .string ((rd_T44 l0 x11_1).f1)] 44 (0, 0)) y57_ hg (Kd.R_away HO_5.out (fun _ hk => hk.2))); have n1_ := Aside0.mk (hb); have n2_ := Aside0.mk (ho); clear BK501; clear HB; clear HO_5; have BK501 := n0_; have HB := n1_; have HO505 := n2_; clear n0_ n1_ n2_; clear ho hb hg hat))
         go_roundg k1
         case measure => have := HK1.out; omega
         case rel => exact ⟨(y503), (wrap64 (x11_1 + 1)), y6_, H', ⟨y50_⟩, ⟨by (with_reducible repeat (first | apply Kd.R_alloc | apply Kd.R_drewN | apply Kd.R_drew)); exact Kd.R_mono HO505.out (fun _ hk => trivial)⟩, ⟨y34_⟩⟩
        ·rw [if_neg c15] at H
         exact absurd H (by simp)
     ·rw [if_neg c7] at H
      exact absurd H (by simp)
    ·rw [if_neg c6] at H
     exact absurd H (by simp)
   ·rw [if_neg c5] at H
    have c5b0 : decide (x11_1 < (l0.length : Int)) = false := decide_eq_false c5
    clear c5
    obtain rfl := Option.some.inj H
    go_wp2
    go_ret
    exact ⟨_, y9_, y20_, y1_⟩
end Go.Proofs.YtdhmabofncbohaaDoor.PLB
