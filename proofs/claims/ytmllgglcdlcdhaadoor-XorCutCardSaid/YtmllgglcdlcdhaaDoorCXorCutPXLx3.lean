import Derived.Test.YtmllgglcdlcdhaaDoorCXorCutYA
import Derived.Test.YtmllgglcdlcdhaaDoorCXorCutPXLx2
import Derived.Test.YtmllgglcdlcdhaaDoorCXorCutY4
import Derived.Test.YtmllgglcdlcdhaaDoorCXorCutPXLx1
namespace Go.Proofs.YtmllgglcdlcdhaaDoor.PXL
open Go.RowKit Go.Proofs.YtmllgglcdlcdhaaDoorW.PrintWords Go.Proofs.YtmllgglcdlcdhaaDoorW.PrintLast Go.Proofs.YtmllgglcdlcdhaaDoorW.PrintMore
attribute [local go_sem] max2_int min2_int max_two min_two max_three min_three max_four min_four
set_option linter.unusedVariables false
set_option linter.unusedSimpArgs false
def manometerref01_Join.l0 : Nat → List Int → List (List Int) → Int → Int → Option (List Int)
 | 0, _, _, _, _ => none
 | k + 1, x3, x7, x8, x9 => if x9 < x8 then (if 0 ≤ x9 then (if x9 < (x7.length : Int) then (if x3.length + (rd_L5 x7 x9).length < 140737488355328 then (manometerref01_Join.l0 k (x3 ++ (rd_L5 x7 x9)) x7 x8 (wrap64 (x9 + 1))) else (none)) else (none)) else (none)) else (some x3)
def manometerref01_Join.f (k : Nat) (l0 : List (List Int)) : Option (List Int) := manometerref01_Join.l0 k (([] : List Int)) l0 (l0.length : Int) 0
set_option maxHeartbeats 8000000 in
set_option maxRecDepth 100000 in
theorem manometerref01_Join.calls (k : Nat) (A0 : Option Addr) (c0 : Nat) (l0 : List (List Int)) (r : List Int) (w : World) (hr0 : Kd.C (Kd.slice 5 (Kd.int .u8)) w A0 l0.length l0) (hc0 : l0.length ≤ c0) (h : manometerref01_Join.f k l0 = some r) :
  Calls Tryd.prog 15 #[.slice A0 l0.length c0] w fun e w' => ∃ v0_ : Value, e = .returned (v0_) ∧ Kd.R (Kd.int .u8) 5 w' w.heap.size (fun _ => True) v0_ r ∧ Below w.heap.size w w' := by
 have HR0 := Aside0.mk hr0
 have HC0 := Aside0.mk hc0
 clear hr0 hc0
 have HB := Aside0.mk (Below.refl w.heap.size w)
 have H : (manometerref01_Join.l0 k (([] : List Int)) l0 (l0.length : Int) 0) = some r := h
 clear h
 obtain ⟨y158, hy158⟩ : ∃ y_ : List Int, y_ = (([] : List Int)) := ⟨_, rfl⟩
 replace H : (manometerref01_Join.l0 k y158 l0 (l0.length : Int) 0) = some r := by first | (rw [hy158]; with_reducible exact H) | (have H2_ := (Option.bind_some _ _).symm.trans H; rw [hy158]; with_reducible exact H2_) | (have H2_ := (Option.bind_some _ _).symm.trans H; with_reducible exact H2_) | with_reducible exact H | (rw [hy158]; exact H) | exact H
 have Ny158 := Aside0.mk hy158
 clear hy158
 have H' := Aside0.mk H
 clear H
 go_enter Tryd.func15, Tryd.ntmps15
 go_wp2_with (first | ((with_reducible refine gate_dst (N := 6) rfl ?_); refine Kd.R_lit (Kd.int .u8) _ 5 ?hg (N := 6) ?hd (xs := ([] : List Int)) (inner := []) (ok := fun _ => True) (okp := fun _ => True) ?hr ?hp (fun _ hk => hk) trivial (Below.refl _ _) (Nat.le_refl _) (by simp) ?_; (case hd => rfl); (case hg => rfl); (case hr => first | (go_simp; done) | (go_simp; rfl)); (case hp => exact (Reps.none _ _)); intro v159 w2 ho3 hb hg_ hnew_; clear hg_ hnew_; (first | rw [← Ny158.out] at ho3 | (simp only [Int.reduceToNat] at ho3; rw [← Ny158.out] at ho3)); have n0_ := Aside0.mk (Kd.R_lower ho3 (below_size y1_)); have n1_ := Aside0.mk (below_step y1_ hb); clear HB; have HO160 := n0_; have HB := n1_; clear n0_ n1_; clear hb ho3))
 go_loopg [3, 9] k (fun kq v3 v9 w' => ∃ (x3_1 : List Int) (x9_1 : Int), v9 = .int .i64 x9_1 ∧ Aside0 (manometerref01_Join.l0 kq x3_1 l0 (l0.length : Int) x9_1 = some r) ∧ Aside0 (kq ≤ k) ∧ Aside0 (Kd.R (Kd.int .u8) 5 w' w.heap.size (fun _ => True) v3 x3_1) ∧ Aside0 (Below w.heap.size w w'))
 case atStart => exact ⟨(y158), (0), y6_, H', ⟨Nat.le_refl _⟩, ⟨by (with_reducible repeat (first | apply Kd.R_alloc | apply Kd.R_drewN | apply Kd.R_drew)); exact HO160.out⟩, ⟨y1_⟩⟩
 case round =>
  clear H'
  try clear c1
  try clear p2
  obtain ⟨x3_1, x9_1, rfl, HA, HK1, HO_3, HB⟩ := hrel
  cases gk with
  | zero => exact absurd HA.out (by simp [manometerref01_Join.l0])
  | succ k1 =>
   have H := HA.out
   clear HA
   simp only [manometerref01_Join.l0] at H
   by_cases c4 : x9_1 < (l0.length : Int)
   ·rw [if_pos c4] at H
    have c4b0 : decide (x9_1 < (l0.length : Int)) = true := decide_eq_true c4
    clear c4
    by_cases c5 : 0 ≤ x9_1
    ·rw [if_pos c5] at H
     have c5b0 : decide (0 ≤ x9_1) = true := decide_eq_true c5
     clear c5
     by_cases c6 : x9_1 < (l0.length : Int)
     ·rw [if_pos c6] at H
      have c6b0 : decide (x9_1 < (l0.length : Int)) = true := decide_eq_true c6
      clear c6
      by_cases c7 : x3_1.length + (rd_L5 l0 x9_1).length < 140737488355328
      ·rw [if_pos c7] at H
       have LMc7 := Aside0.mk c7
       clear c7
       obtain ⟨y162, hy162⟩ : ∃ y_ : List Int, y_ = (x3_1 ++ (rd_L5 l0 x9_1)) := ⟨_, rfl⟩
       replace H : (manometerref01_Join.l0 k1 y162 l0 (l0.length : Int) (wrap64 (x9_1 + 1))) = some r := by first | (rw [hy162]; with_reducible exact H) | (have H2_ := (Option.bind_some _ _).symm.trans H; rw [hy162]; with_reducible exact H2_) | (have H2_ := (Option.bind_some _ _).symm.trans H; with_reducible exact H2_) | with_reducible exact H | (rw [hy162]; exact H) | exact H
       have Ny162 := Aside0.mk hy162
       clear hy162
       have H' := Aside0.mk H
       clear H
       have p161 : 0 ≤ (x9_1 : Int) := of_decide_eq_true (by first | (with_reducible assumption) | assumption)
       have q161 : x9_1 < (l0.length : Int) := of_decide_eq_true (by first | (with_reducible assumption) | assumption)
       obtain ⟨ad161, A161_0, c161_0, e161, hx161_0, hl161_0, hi161_0⟩ := at_L5 HR0.out x9_1 p161 q161
       cases e161
       replace hx161_0 := (HB.out.cell (World.block_lt_of_cell? w _ hx161_0)).trans hx161_0
       have HR161_0 := Aside0.mk hi161_0
       have HC161_0 := Aside0.mk hl161_0
       clear hi161_0 hl161_0
       replace p161 := eq_true p161
       replace q161 := eq_true q161
       go_wp2_with (first | ((with_reducible refine gate_builtin (b := .append) (xs := #[.tmp 13, .tmp 14]) rfl ?_); at_builtin; refine Kd.R_append_rows (Kd.int .u8) (w0 := w) w.heap.size rfl (.tmp 13) (.tmp 14) 24 5 (.int .u8 0) 1 rfl Tryd.underlying24 info5 rfl (by decide) (by omega) u3 x3_1 (rd_L5 l0 x9_1) _ _ _ (fun _ => True) (fun _ => False) rfl rfl ?aO ?aR (fun _ _ h => h) (fun _ h => h.elim) ?aF ?aB ?aS ?aL ?_; (case aR => repeat (first | exact (Kd.C_below HR161_0.out HB.out) | (with_reducible refine Kd.C_alloc ?_ _) | (with_reducible refine Kd.C_drewN ?_ _) | (with_reducible refine Kd.C_drew ?_))); (case aB => exact y1_); (case aF => exact (fun _ _ => trivial)); (case aO => exact (by (with_reducible repeat (first | apply Kd.R_alloc | apply Kd.R_drewN | apply Kd.R_drew)); exact HO_3.out)); (case aS => exact (below_size y1_)); (case aL => have := LMc7.out; omega); intro v163 w8 ho hb hg hat; rw [← Ny162.out] at ho; have n0_ := Aside0.mk (hb); have n1_ := Aside0.mk (ho); clear HB; clear HO_3; have HB := n0_; have HO164 := n1_; clear n0_ n1_; clear ho hb hg hat))
       go_roundg k1
       case measure => have := HK1.out; omega
       case rel => exact ⟨(y162), (wrap64 (x9_1 + 1)), y6_, H', ⟨by have := HK1.out; omega⟩, ⟨by (with_reducible repeat (first | apply Kd.R_alloc | apply Kd.R_drewN | apply Kd.R_drew)); exact HO164.out⟩, ⟨y1_⟩⟩
      ·rw [if_neg c7] at H
       exact absurd H (by simp)
     ·rw [if_neg c6] at H
      exact absurd H (by simp)
    ·rw [if_neg c5] at H
     exact absurd H (by simp)
   ·rw [if_neg c4] at H
    have c4b0 : decide (x9_1 < (l0.length : Int)) = false := decide_eq_false c4
    clear c4
    obtain rfl := Option.some.inj H
    go_wp2
    go_ret
    exact ⟨_, y8_, by (with_reducible repeat (first | apply Kd.R_alloc | apply Kd.R_drewN | apply Kd.R_drew)); exact HO_3.out, y1_⟩
mutual
def manometerlaw08_XorCut.j0 : Nat → List (S39) → Int → List Int → Bool → Option (Bool)
 | 0, _, _, _, _ => none
 | k + 1, x0, x1, x2, x24 => if x24 = true then ((manometerlaw08_live.f).bind fun t166 => (some t166)) else ((xor_Put.f x0).bind fun bt167 => (if bt167.2 = 0 then (if x1 ≥ 0 then (manometerlaw08_XorCut.j1 k x1 x2 bt167.1 (decide (x1 < (bt167.1.length : Int)))) else (manometerlaw08_XorCut.j1 k x1 x2 bt167.1 false)) else (some false)))
def manometerlaw08_XorCut.j1 : Nat → Int → List Int → List Int → Bool → Option (Bool)
 | 0, _, _, _, _ => none
 | k + 1, x1, x2, x7, x40 => if x40 = true then (if 0 ≤ x1 then (if x1 ≤ (x7.length : Int) then ((xor_Get.f (x7.take (x1 : Int).toNat)).bind fun bt176 => (if bt176.2 = 0 then (manometerlaw08_XorCut.j2 k x2 x7 true) else (manometerlaw08_XorCut.j2 k x2 x7 (decide ((bt176.1.length : Int) > 0))))) else (none)) else (none)) else ((manometerref01_Join.f k (([x7, x2] : List (List Int)))).bind fun t193 => ((xor_Get.f t193).bind fun bt196 => (some ((bt196.2 == 0) == ((x2.length : Int) == 0)))))
def manometerlaw08_XorCut.j2 : Nat → List Int → List Int → Bool → Option (Bool)
 | 0, _, _, _ => none
 | k + 1, x2, x7, x54 => if x54 = true then (some false) else ((manometerref01_Join.f k (([x7, x2] : List (List Int)))).bind fun t183 => ((xor_Get.f t183).bind fun bt186 => (some ((bt186.2 == 0) == ((x2.length : Int) == 0)))))
end
def manometerlaw08_XorCut.f (k : Nat) (l0 : List (S39)) (a1 : Int) (l2 : List Int) : Option (Bool) := (manometerlaw08_live.f).bind fun t165 => (if t165 = true then (if (l0.length : Int) > 200 then (manometerlaw08_XorCut.j0 k l0 a1 l2 true) else (manometerlaw08_XorCut.j0 k l0 a1 l2 (decide ((l2.length : Int) > 100)))) else (manometerlaw08_XorCut.j0 k l0 a1 l2 true))
set_option maxHeartbeats 8000000 in
set_option maxRecDepth 100000 in
theorem manometerlaw08_XorCut.calls (k : Nat) (A0 : Option Addr) (c0 : Nat) (l0 : List (S39)) (a1 : Int) (P2_ : Nat → Prop) (A2 : Option Addr) (c2 : Nat) (l2 : List Int) (r : Bool) (w : World) (hT : Aside0 (Tab w)) (hr0 : Kd.C k39 w A0 l0.length l0) (hc0 : l0.length ≤ c0) (hs2 : Kd.V (Kd.int .u8) 5 w w.heap.size (fun k_ => P2_ k_) (.slice A2 l2.length c2) l2) (h : manometerlaw08_XorCut.f k l0 a1 l2 = some r) :
  Calls Tryd.prog 6 #[.slice A0 l0.length c0, .int .i64 a1, .slice A2 l2.length c2] w fun e w' => e = .returned (.bool r) ∧ Below w.heap.size w w' := by
 have HR0 := Aside0.mk hr0
 have HC0 := Aside0.mk hc0
 clear hr0 hc0
 have HO2 := Aside0.mk (show Kd.V (Kd.int .u8) 5 w w.heap.size (fun k_ => (P2_ k_ ∨ w.heap.size ≤ k_)) (.slice A2 l2.length c2) l2 from Kd.V_mono hs2 (fun k_ hk => .inl hk))
 have HB := Aside0.mk (Below.refl w.heap.size w)
 have H : ((manometerlaw08_live.f).bind fun t165 => (if t165 = true then (if (l0.length : Int) > 200 then (manometerlaw08_XorCut.j0 k l0 a1 l2 true) else (manometerlaw08_XorCut.j0 k l0 a1 l2 (decide ((l2.length : Int) > 100)))) else (manometerlaw08_XorCut.j0 k l0 a1 l2 true))) = some r := h
 clear h
 have HC4 := Aside0.mk H
 clear H
 go_enter Tryd.func6, Tryd.ntmps6
 go_upto_region 1 with (fail)
 go_cut [24] (fun v24 wc => ∃ (kq : Nat) (x24_3 : Bool), v24 = .bool x24_3 ∧ Aside0 (manometerlaw08_XorCut.j0 kq l0 a1 l2 x24_3 = some r) ∧ Aside0 (kq ≤ k) ∧ Aside0 (Kd.V (Kd.int .u8) 5 wc w.heap.size (fun k_ => (P2_ k_ ∨ w.heap.size ≤ k_)) (.slice A2 l2.length c2) l2) ∧ Aside0 (Below w.heap.size w wc))
 case first =>
  have H := HC4.out
  clear HC4
  replace H := Option.bind_eq_some_iff.mp H
  obtain ⟨t165, A50, H⟩ := H
  replace H : (if t165 = true then (if (l0.length : Int) > 200 then (manometerlaw08_XorCut.j0 k l0 a1 l2 true) else (manometerlaw08_XorCut.j0 k l0 a1 l2 (decide ((l2.length : Int) > 100)))) else (manometerlaw08_XorCut.j0 k l0 a1 l2 true)) = some r := H
  have A5 := Aside0.mk A50
  clear A50
  by_cases c6 : t165 = true
  ·subst c6
   have H1 : (if (l0.length : Int) > 200 then (manometerlaw08_XorCut.j0 k l0 a1 l2 true) else (manometerlaw08_XorCut.j0 k l0 a1 l2 (decide ((l2.length : Int) > 100)))) = some r := by rw [if_pos rfl] at H; exact H
   clear H
   have H := H1
   clear H1
   by_cases c7 : (l0.length : Int) > 200
   ·rw [if_pos c7] at H
    have c7b0 : decide (200 < (l0.length : Int)) = true := decide_eq_true c7
    have c7b1 : decide (200 < l0.length) = true := decide_eq_true (by omega)
    clear c7
    (first | rw [c7b0] | (simp only [i64_w, i32_w]; rw [c7b0]) | skip)
    have H' := Aside0.mk H
    clear H
    go_wp2_with (first | ((with_reducible refine gate_callee (f := 11) rfl ?_); refine goesL_ (some 13) rfl rfl Tryd.func11 (by kernel_rfl) rfl #[] rfl y3_ ?_; (with_reducible refine (manometerlaw08_live.calls  true _ ?side1 A5.out).mono ?_); (case side1 => exact ⟨Tab_below hT.out y1_⟩); rintro e w8 ⟨rfl, hb⟩; refine ⟨_, rfl, ?_⟩; have n0_ := Aside0.mk (Kd.V_below y11_ hb); have n1_ := Aside0.mk (below_step y1_ hb); clear HO2; clear HB; have HO2 := n0_; have HB := n1_; clear n0_ n1_; (try clear hb); (try clear hb2); (try clear hk); (try clear hi)))
    go_meet
    case rel => exact ⟨_, (true), y6_, H', ⟨by first | omega | exact Nat.le_refl _⟩, ⟨y11_⟩, ⟨y1_⟩⟩
   ·rw [if_neg c7] at H
    have c7b0 : decide (200 < (l0.length : Int)) = false := decide_eq_false c7
    have c7b1 : decide (200 < l0.length) = false := decide_eq_false (by omega)
    clear c7
    (first | rw [c7b0] | (simp only [i64_w, i32_w]; rw [c7b0]) | skip)
    have H' := Aside0.mk H
    clear H
    go_wp2_with (first | ((with_reducible refine gate_callee (f := 11) rfl ?_); refine goesL_ (some 13) rfl rfl Tryd.func11 (by kernel_rfl) rfl #[] rfl y3_ ?_; (with_reducible refine (manometerlaw08_live.calls  true _ ?side1 A5.out).mono ?_); (case side1 => exact ⟨Tab_below hT.out y1_⟩); rintro e w9 ⟨rfl, hb⟩; refine ⟨_, rfl, ?_⟩; have n0_ := Aside0.mk (Kd.V_below y11_ hb); have n1_ := Aside0.mk (below_step y1_ hb); clear HO2; clear HB; have HO2 := n0_; have HB := n1_; clear n0_ n1_; (try clear hb); (try clear hb2); (try clear hk); (try clear hi)))
    go_meet
    case rel => exact ⟨_, (decide ((l2.length : Int) > 100)), y6_, H', ⟨by first | omega | exact Nat.le_refl _⟩, ⟨y11_⟩, ⟨y1_⟩⟩
  ·replace c6 := Bool.eq_false_iff.mpr c6
   subst c6
   have H1 : (manometerlaw08_XorCut.j0 k l0 a1 l2 true) = some r := by rw [if_neg (show ¬ (false = true) by decide)] at H; exact H
   clear H
   have H := H1
   clear H1
   have H' := Aside0.mk H
   clear H
   go_wp2_with (first | ((with_reducible refine gate_callee (f := 11) rfl ?_); refine goesL_ (some 13) rfl rfl Tryd.func11 (by kernel_rfl) rfl #[] rfl y3_ ?_; (with_reducible refine (manometerlaw08_live.calls  false _ ?side1 A5.out).mono ?_); (case side1 => exact ⟨Tab_below hT.out y1_⟩); rintro e w10 ⟨rfl, hb⟩; refine ⟨_, rfl, ?_⟩; have n0_ := Aside0.mk (Kd.V_below y11_ hb); have n1_ := Aside0.mk (below_step y1_ hb); clear HO2; clear HB; have HO2 := n0_; have HB := n1_; clear n0_ n1_; (try clear hb); (try clear hb2); (try clear hk); (try clear hi)))
   go_meet
   case rel => exact ⟨_, (true), y6_, H', ⟨by first | omega | exact Nat.le_refl _⟩, ⟨y11_⟩, ⟨y1_⟩⟩
 case rest =>
  clear HC4
  try clear c1
  try clear c2
  try clear p2
  try clear c6
  try clear c7
  try clear c7b0
  try clear c7b1
  obtain ⟨kq, x24_3, rfl, HA, HJ3, HO_2, HB⟩ := hcut
  cases kq with
  | zero => exact absurd HA.out (by simp [manometerlaw08_XorCut.j0])
  | succ kj3 =>
   have H := HA.out
   clear HA
   simp only [manometerlaw08_XorCut.j0] at H
   by_cases c11 : x24_3 = true
   ·subst c11
    have H1 : ((manometerlaw08_live.f).bind fun t166 => (some t166)) = some r := by rw [if_pos rfl] at H; exact H
    clear H
    have H := H1
    clear H1
    replace H := Option.bind_eq_some_iff.mp H
    obtain ⟨t166, A120, H⟩ := H
    replace H : (some t166) = some r := H
    have A12 := Aside0.mk A120
    clear A120
    obtain rfl := Option.some.inj H
    go_wp2_with (first | ((with_reducible refine gate_callee (f := 11) rfl ?_); refine goesL_ (some 25) rfl rfl Tryd.func11 (by kernel_rfl) rfl #[] rfl y3_ ?_; (with_reducible refine (manometerlaw08_live.calls  t166 _ ?side1 A12.out).mono ?_); (case side1 => exact ⟨Tab_below hT.out y1_⟩); rintro e w13 ⟨rfl, hb⟩; refine ⟨_, rfl, ?_⟩; have n0_ := Aside0.mk (Kd.V_below y7_ hb); have n1_ := Aside0.mk (below_step y1_ hb); clear HO_2; clear HB; have HO_2 := n0_; have HB := n1_; clear n0_ n1_; (try clear hb); (try clear hb2); (try clear hk); (try clear hi)))
    go_ret
    exact ⟨y8_, y1_⟩
   ·replace c11 := Bool.eq_false_iff.mpr c11
    subst c11
    have H1 : ((xor_Put.f l0).bind fun bt167 => (if bt167.2 = 0 then (if a1 ≥ 0 then (manometerlaw08_XorCut.j1 kj3 a1 l2 bt167.1 (decide (a1 < (bt167.1.length : Int)))) else (manometerlaw08_XorCut.j1 kj3 a1 l2 bt167.1 false)) else (some false))) = some r := by rw [if_neg (show ¬ (false = true) by decide)] at H; exact H
    clear H
    have H := H1
    clear H1
    replace H := Option.bind_eq_some_iff.mp H
    obtain ⟨⟨t167, t168⟩, A140, H⟩ := H
    replace H : (if t168 = 0 then (if a1 ≥ 0 then (manometerlaw08_XorCut.j1 kj3 a1 l2 t167 (decide (a1 < (t167.length : Int)))) else (manometerlaw08_XorCut.j1 kj3 a1 l2 t167 false)) else (some false)) = some r := H
    have A14 := Aside0.mk A140
    clear A140
    by_cases c15 : t168 = 0
    ·rw [if_pos c15] at H
     have c15b0 : (t168 == 0) = true := beq_iff_eq.mpr c15
     have c15b1 : (t168 != 0) = false := bne_eq_false_iff_eq.mpr c15
     clear c15
     have HC16 := Aside0.mk H
     clear H
     go_upto_region 6 with (first | ((with_reducible refine gate_callee (f := 12) rfl ?_); refine goesL_ (some 28) rfl rfl Tryd.func12 (by kernel_rfl) rfl #[.slice A0 l0.length c0] rfl y3_ ?_; (with_reducible refine (xor_Put.calls _ _ l0 t167 t168 _ ?side1 ?side2 ?side3 A14.out).mono ?_); (case side1 => exact ⟨Tab_below hT.out y1_⟩); (case side2 => repeat (first | exact (Kd.C_below HR0.out HB.out) | (with_reducible refine Kd.C_alloc ?_ _) | (with_reducible refine Kd.C_drewN ?_ _) | (with_reducible refine Kd.C_drew ?_))); (case side3 => exact HC0.out); rintro e w17 ⟨v169, rfl, ho0, hb⟩; refine ⟨_, rfl, ?_⟩; have n0_ := Aside0.mk (Kd.V_elder' y7_ (Kd.R_base ho0) hb); have n1_ := Aside0.mk (Kd.R_lower (Kd.R_newM (M := fun k_ => (w.heap.size ≤ k_)) ho0 (below_size y1_) (fun k_ h_ => h_)) (below_size y1_)); have n2_ := Aside0.mk (below_step y1_ hb); clear HO_2; clear HB; have HO_2 := n0_; have HO170 := n1_; have HB := n2_; clear n0_ n1_ n2_; (try clear hb); (try clear hb2); (try clear hk); (try clear hi); (try clear ho0)))
     (try simp only [Act.put, List.setIfInBounds_toArray, List.set_cons_zero, List.set_cons_succ])
     go_cut [40] (fun v40 wc => ∃ (kq : Nat) (x40_15 : Bool), v40 = .bool x40_15 ∧ Aside0 (manometerlaw08_XorCut.j1 kq a1 l2 t167 x40_15 = some r) ∧ Aside0 (kq ≤ kj3) ∧ Aside0 (Kd.V (Kd.int .u8) 5 wc w.heap.size (fun k_ => (P2_ k_ ∨ w.heap.size ≤ k_) ∧ some k_ ≠ (v169 : Value).ownBlock) (.slice A2 l2.length c2) l2) ∧ Aside0 (Kd.R (Kd.int .u8) 5 wc w.heap.size (fun k_ => (w.heap.size ≤ k_)) v169 t167) ∧ Aside0 (Below w.heap.size w wc))
     case first =>
      have H := HC16.out
      clear HC16
      by_cases c18 : a1 ≥ 0
      ·rw [if_pos c18] at H
       have c18b0 : decide (0 ≤ a1) = true := decide_eq_true c18
       clear c18
       (first | rw [c18b0] | (simp only [i64_w, i32_w]; rw [c18b0]) | skip)
       have H' := Aside0.mk H
       clear H
       obtain ⟨Ao19, co19, eo19⟩ := Kd.R_slice HO170.out
       subst eo19
       go_wp2
       go_meet
       case rel => exact ⟨_, (decide (a1 < (t167.length : Int))), y6_, H', ⟨by have := HJ3.out; first | omega | exact Nat.le_refl _⟩, ⟨y7_⟩, ⟨by (with_reducible repeat (first | apply Kd.R_alloc | apply Kd.R_drewN | apply Kd.R_drew)); exact Kd.R_mono HO170.out (fun _ hk => hk.1)⟩, ⟨y1_⟩⟩
      ·rw [if_neg c18] at H
       have c18b0 : decide (0 ≤ a1) = false := decide_eq_false c18
       clear c18
       (first | rw [c18b0] | (simp only [i64_w, i32_w]; rw [c18b0]) | skip)
       have H' := Aside0.mk H
       clear H
       go_wp2
       go_meet
       case rel => exact ⟨_, (false), y6_, H', ⟨by have := HJ3.out; first | omega | exact Nat.le_refl _⟩, ⟨y7_⟩, ⟨by (with_reducible repeat (first | apply Kd.R_alloc | apply Kd.R_drewN | apply Kd.R_drew)); exact Kd.R_mono HO170.out (fun _ hk => hk.1)⟩, ⟨y1_⟩⟩
     case rest =>
      clear HC16
      try clear c1
      try clear c2
      try clear p2
      try clear c6
      try clear c7
      try clear c7b0
      try clear c7b1
      try clear c11
      try clear c12
      try clear c15
      try clear c15b0
      try clear c15b1
      try clear c18
      try clear c18b0
      try clear p2
      obtain ⟨kq, x40_15, rfl, HA, HJ15, HO_2, HO_7, HB⟩ := hcut
      cases kq with
      | zero => exact absurd HA.out (by simp [manometerlaw08_XorCut.j1])
      | succ kj15 =>
       have H := HA.out
       clear HA
       simp only [manometerlaw08_XorCut.j1] at H
       by_cases c20 : x40_15 = true
       ·subst c20
        have H1 : (if 0 ≤ a1 then (if a1 ≤ (t167.length : Int) then ((xor_Get.f (t167.take (a1 : Int).toNat)).bind fun bt176 => (if bt176.2 = 0 then (manometerlaw08_XorCut.j2 kj15 l2 t167 true) else (manometerlaw08_XorCut.j2 kj15 l2 t167 (decide ((bt176.1.length : Int) > 0))))) else (none)) else (none)) = some r := by rw [if_pos rfl] at H; exact H
        clear H
        have H := H1
        clear H1
        by_cases c21 : 0 ≤ a1
        ·rw [if_pos c21] at H
         have c21b0 := eq_true c21
         have c21b1 : decide (0 ≤ a1) = true := decide_eq_true c21
         clear c21
         by_cases c22 : a1 ≤ (t167.length : Int)
         ·rw [if_pos c22] at H
          have c22b0 := eq_true c22
          have c22b1 : decide (a1 ≤ (t167.length : Int)) = true := decide_eq_true c22
          clear c22
          obtain ⟨y171, hy171⟩ : ∃ y_ : List Int, y_ = (t167.take (a1 : Int).toNat) := ⟨_, rfl⟩
          replace H : ((xor_Get.f y171).bind fun bt176 => (if bt176.2 = 0 then (manometerlaw08_XorCut.j2 kj15 l2 t167 true) else (manometerlaw08_XorCut.j2 kj15 l2 t167 (decide ((bt176.1.length : Int) > 0))))) = some r := by first | (rw [hy171]; with_reducible exact H) | (have H2_ := (Option.bind_some _ _).symm.trans H; rw [hy171]; with_reducible exact H2_) | (have H2_ := (Option.bind_some _ _).symm.trans H; with_reducible exact H2_) | with_reducible exact H | (rw [hy171]; exact H) | exact H
          have Ny171 := Aside0.mk hy171
          clear hy171
          replace H := Option.bind_eq_some_iff.mp H
          obtain ⟨⟨t176, t177⟩, A230, H⟩ := H
          replace H : (if t177 = 0 then (manometerlaw08_XorCut.j2 kj15 l2 t167 true) else (manometerlaw08_XorCut.j2 kj15 l2 t167 (decide ((t176.length : Int) > 0)))) = some r := H
          have A23 := Aside0.mk A230
          clear A230
          have HC24 := Aside0.mk H
          clear H
          obtain ⟨Ao26, co26, eo26⟩ := Kd.R_slice HO_7.out
          subst eo26
          have q25 : (a1 : Int) ≤ ((t167.length : Int) : Int) := of_decide_eq_true (by first | (with_reducible assumption) | assumption)
          obtain ⟨i025, hi025, _, hsz25, _⟩ := info_parts info5
          have hroom25 : t167.length ≤ co26 := (Kd.R_reads' HO_7.out).2.1
          have hC25 : Kd.F (Kd.int .u8) _ _ Ao26 t167.length t167 := (Kd.V_at (base := w.heap.size) (Kd.V_mono (ok' := (fun k_ => (P2_ k_ ∨ w.heap.size ≤ k_))) (Kd.R_V HO_7.out) (fun k_ hk => (.inr (hk))))).2.2
          have hcut25 := cut_to (P := Tryd.prog) 24 5 .i64 Tryd.underlying24 hi025 Ao26 t167.length co26 a1 (of_decide_eq_true (by first | (with_reducible assumption) | assumption)) q25 hroom25
          have hr25 := Kd.F_take (m := (a1 : Int).toNat) hC25 (by omega)
          have hy25 : y171.length = (a1 : Int).toNat := (by rw [Ny171.out, List.length_take]; omega)
          rw [← Ny171.out] at hr25
          rw [← hy25] at hcut25
          have HO175 := Aside0.mk (show Kd.V (Kd.int .u8) 5 _ w.heap.size _ (.slice Ao26 y171.length co26) y171 from Kd.V_mk (by omega) hr25)
          have HC175 := Aside0.mk (show y171.length ≤ co26 from by omega)
          clear hr25 hC25 hroom25 hi025 hsz25
          have KY25 := Aside0.mk hy25
          clear hy25
          replace q25 := eq_true q25
          go_upto_region 8 with (first | ((with_reducible refine gate_callee (f := 16) rfl ?_); refine goesL_ (some 45) rfl rfl Tryd.func16 (by kernel_rfl) rfl #[.slice Ao26 y171.length co26] rfl y3_ ?_; (with_reducible refine (xor_Get.calls _ _ y171 t176 t177 _ ?side1 ?side2 ?side3 A23.out).mono ?_); (case side1 => exact ⟨Tab_below hT.out y1_⟩); (case side2 => repeat (first | exact (Kd.V_reads' HO175.out).2.2 | (with_reducible refine Kd.C_alloc ?_ _) | (with_reducible refine Kd.C_drewN ?_ _) | (with_reducible refine Kd.C_drew ?_))); (case side3 => exact (Kd.V_reads' HO175.out).2.1); rintro e w27 ⟨v178, rfl, ho0, hb⟩; refine ⟨_, rfl, ?_⟩; have n0_ := Aside0.mk (Kd.V_elder' y7_ (Kd.R_base ho0) hb); have n1_ := Aside0.mk (Kd.R_below y12_ hb); have n2_ := Aside0.mk (Kd.V_elder' (by (with_reducible repeat (first | apply Kd.V_alloc | apply Kd.V_drewN | apply Kd.V_drew)); exact HO175.out) (Kd.R_base ho0) hb); have n3_ := Aside0.mk (Kd.R_lower (Kd.R_newM (M := fun k_ => (w.heap.size ≤ k_)) ho0 (below_size y1_) (fun k_ h_ => h_)) (below_size y1_)); have n4_ := Aside0.mk (below_step y1_ hb); clear HO_2; clear HO_7; clear HO175; clear HB; have HO_2 := n0_; have HO_7 := n1_; have HO175 := n2_; have HO179 := n3_; have HB := n4_; clear n0_ n1_ n2_ n3_ n4_; (try clear hb); (try clear hb2); (try clear hk); (try clear hi); (try clear ho0)))
          (try simp only [Act.put, List.setIfInBounds_toArray, List.set_cons_zero, List.set_cons_succ])
          go_cut [54] (fun v54 wc => ∃ (kq : Nat) (x54_23 : Bool), v54 = .bool x54_23 ∧ Aside0 (manometerlaw08_XorCut.j2 kq l2 t167 x54_23 = some r) ∧ Aside0 (kq ≤ kj15) ∧ Aside0 (Kd.V (Kd.int .u8) 5 wc w.heap.size (fun k_ => (P2_ k_ ∨ w.heap.size ≤ k_) ∧ some k_ ≠ ((.slice Ao26 t167.length co26) : Value).ownBlock) (.slice A2 l2.length c2) l2) ∧ Aside0 (Kd.R (Kd.int .u8) 5 wc w.heap.size (fun k_ => (w.heap.size ≤ k_)) (.slice Ao26 t167.length co26) t167) ∧ Aside0 (Below w.heap.size w wc))
          case first =>
           have H := HC24.out
           clear HC24
           by_cases c28 : t177 = 0
           ·rw [if_pos c28] at H
            have c28b0 : (t177 == 0) = true := beq_iff_eq.mpr c28
            have c28b1 : (t177 != 0) = false := bne_eq_false_iff_eq.mpr c28
            clear c28
            (first | rw [c28b0] | (simp only [i64_w, i32_w]; rw [c28b0]) | skip)
            have H' := Aside0.mk H
            clear H
            go_wp2
            go_meet
            case rel => exact ⟨_, (true), y6_, H', ⟨by have := HJ3.out; have := HJ15.out; first | omega | exact Nat.le_refl _⟩, ⟨by (with_reducible repeat (first | apply Kd.V_alloc | apply Kd.V_drewN | apply Kd.V_drew)); exact Kd.V_mono HO_2.out (fun _ hk => ⟨hk.1.1, hk.1.2⟩)⟩, ⟨y12_⟩, ⟨y1_⟩⟩
           ·rw [if_neg c28] at H
            have c28b0 : (t177 == 0) = false := beq_eq_false_iff_ne.mpr c28
            have c28b1 : (t177 != 0) = true := bne_iff_ne.mpr c28
            (first | rw [c28b0] | (simp only [i64_w, i32_w]; rw [c28b0]) | skip)
            have H' := Aside0.mk H
            clear H
            obtain ⟨Ao29, co29, eo29⟩ := Kd.R_slice HO179.out
            subst eo29
            go_wp2
            go_meet
            case rel => exact ⟨_, (decide ((t176.length : Int) > 0)), y6_, H', ⟨by have := HJ3.out; have := HJ15.out; first | omega | exact Nat.le_refl _⟩, ⟨by (with_reducible repeat (first | apply Kd.V_alloc | apply Kd.V_drewN | apply Kd.V_drew)); exact Kd.V_mono HO_2.out (fun _ hk => ⟨hk.1.1, hk.1.2⟩)⟩, ⟨y12_⟩, ⟨y1_⟩⟩
          case rest =>
           clear HC24
           try clear c1
           try clear c2
           try clear p2
           try clear q2
           try clear c6
           try clear c7
           try clear c7b0
           try clear c7b1
           try clear c11
           try clear c12
           try clear c15
           try clear c15b0
           try clear c15b1
           try clear c16
           try clear c18
           try clear c18b0
           try clear c20
           try clear c21
           try clear c21b0
           try clear c21b1
           try clear c22
           try clear c22b0
           try clear c22b1
           try clear q25
           try clear c28
           try clear c28b0
           try clear c28b1
           try clear p2
           try clear q25
           obtain ⟨kq, x54_23, rfl, HA, HJ23, HO_2, HO_7, HB⟩ := hcut
           cases kq with
           | zero => exact absurd HA.out (by simp [manometerlaw08_XorCut.j2])
           | succ kj23 =>
            have H := HA.out
            clear HA
            simp only [manometerlaw08_XorCut.j2] at H
            by_cases c30 : x54_23 = true
            ·subst c30
             have H1 : (some false) = some r := by rw [if_pos rfl] at H; exact H
             clear H
             have H := H1
             clear H1
             obtain rfl := Option.some.inj H
             go_wp2
             go_ret
             exact ⟨y8_, y1_⟩
            ·replace c30 := Bool.eq_false_iff.mpr c30
             subst c30
             have H1 : ((manometerref01_Join.f kj23 (([t167, l2] : List (List Int)))).bind fun t183 => ((xor_Get.f t183).bind fun bt186 => (some ((bt186.2 == 0) == ((l2.length : Int) == 0))))) = some r := by rw [if_neg (show ¬ (false = true) by decide)] at H; exact H
             clear H
             have H := H1
             clear H1
             obtain ⟨y180, hy180⟩ : ∃ y_ : List (List Int), y_ = (([t167, l2] : List (List Int))) := ⟨_, rfl⟩
             replace H : ((manometerref01_Join.f kj23 y180).bind fun t183 => ((xor_Get.f t183).bind fun bt186 => (some ((bt186.2 == 0) == ((l2.length : Int) == 0))))) = some r := by first | (rw [hy180]; with_reducible exact H) | (have H2_ := (Option.bind_some _ _).symm.trans H; rw [hy180]; with_reducible exact H2_) | (have H2_ := (Option.bind_some _ _).symm.trans H; with_reducible exact H2_) | with_reducible exact H | (rw [hy180]; exact H) | exact H
             have Ny180 := Aside0.mk hy180
             clear hy180
             replace H := Option.bind_eq_some_iff.mp H
             obtain ⟨t183, A310, H⟩ := H
             replace H : ((xor_Get.f t183).bind fun bt186 => (some ((bt186.2 == 0) == ((l2.length : Int) == 0)))) = some r := H
             have A31 := Aside0.mk A310
             clear A310
             replace H := Option.bind_eq_some_iff.mp H
             obtain ⟨⟨t186, t187⟩, A320, H⟩ := H
             replace H : (some ((t187 == 0) == ((l2.length : Int) == 0))) = some r := H
             have A32 := Aside0.mk A320
             clear A320
             obtain rfl := Option.some.inj H
             go_wp2_with (first | ((with_reducible refine gate_dst (N := 58) rfl ?_); (try (refine gate_guard (by rfl) ?_; dsimp only)); refine Kd.N_lit (Kd.slice 5 (Kd.int .u8)) _ 24 ?hg (N' := 58) ?hd (xs := ([t167, l2] : List (List Int))) (inner := [.slice Ao26 t167.length co26, .slice A2 l2.length c2]) (ok := (fun k_ => (P2_ k_ ∨ w.heap.size ≤ k_))) (okp := (fun k_ => (P2_ k_ ∨ w.heap.size ≤ k_))) ?hr ?hp (fun _ hk => hk) ((show ∀ k_, wc.heap.size ≤ k_ → (fun k_ => (P2_ k_ ∨ w.heap.size ≤ k_)) k_ from fun k_ hk => (.inr (Nat.le_trans (below_size y1_) hk))) _ (Nat.le_refl _)) (Below.refl _ _) (Nat.le_refl _) (by simp) ?_; (case hd => rfl); (case hg => rfl); (case hr => first | (go_simp; done) | (go_simp; rfl)); (case hp => exact (Reps.one (show Kd.FK (Kd.slice 5 (Kd.int .u8)) _ _ t167 [.slice Ao26 t167.length co26] from (Kd.FK_slice_mk (Kd.R_reads' (Kd.R_mono (ok' := (fun k_ => (P2_ k_ ∨ w.heap.size ≤ k_))) (HO_7.out) (fun k_ hk => (.inr (hk))))).2.1 (Kd.R_F (Kd.R_mono (ok' := (fun k_ => (P2_ k_ ∨ w.heap.size ≤ k_))) (HO_7.out) (fun k_ hk => (.inr (hk))))))) (Reps.one (show Kd.FK (Kd.slice 5 (Kd.int .u8)) _ _ l2 [.slice A2 l2.length c2] from (Kd.FK_slice_mk (Kd.V_reads' (Kd.V_mono (ok' := (fun k_ => (P2_ k_ ∨ w.heap.size ≤ k_))) (HO_2.out) (fun k_ hk => hk.1))).2.1 (Kd.V_F (Kd.V_mono (ok' := (fun k_ => (P2_ k_ ∨ w.heap.size ≤ k_))) (HO_2.out) (fun k_ hk => hk.1))))) (Reps.none _ _)))); intro v181 w33 ho34 hb hg_ hnew_; clear hg_ hnew_; (first | rw [← Ny180.out] at ho34 | (simp only [Int.reduceToNat] at ho34; rw [← Ny180.out] at ho34)); have n0_ := Aside0.mk (Kd.V_elder' y7_ (Kd.N_base ho34) hb); have n1_ := Aside0.mk (Kd.N_lower ho34 (below_size y1_)); have n2_ := Aside0.mk (below_step y1_ hb); clear HO_2; clear HB; clear HO_7; have HO_2 := n0_; have HO182 := n1_; have HB := n2_; clear n0_ n1_ n2_; clear hb ho34; obtain ⟨Ao35, co35, eo35⟩ := Kd.N_slice HO182.out; subst eo35) | ((with_reducible refine gate_callee (f := 15) rfl ?_); refine goesL_ (some 59) rfl rfl Tryd.func15 (by kernel_rfl) rfl #[.slice Ao35 y180.length co35] rfl y3_ ?_; (with_reducible refine (manometerref01_Join.calls kj23 _ _ y180 t183 _ ?side1 ?side2 A31.out).mono ?_); (case side1 => repeat (first | exact (Kd.N_reads' HO182.out).2.2 | (with_reducible refine Kd.C_alloc ?_ _) | (with_reducible refine Kd.C_drewN ?_ _) | (with_reducible refine Kd.C_drew ?_))); (case side2 => exact (Kd.N_reads' HO182.out).2.1); rintro e w36 ⟨v184, rfl, ho0, hb⟩; refine ⟨_, rfl, ?_⟩; have n0_ := Aside0.mk (Kd.V_elder' y7_ (Kd.R_base ho0) hb); have n1_ := Aside0.mk (Kd.N_elder' (by (with_reducible repeat (first | apply Kd.N_alloc | apply Kd.N_drewN | apply Kd.N_drew)); exact HO182.out) (Kd.R_base ho0) hb); have n2_ := Aside0.mk (Kd.R_lower (Kd.R_newM (M := fun k_ => (w.heap.size ≤ k_)) ho0 (below_size y1_) (fun k_ h_ => h_)) (below_size y1_)); have n3_ := Aside0.mk (below_step y1_ hb); clear HO_2; clear HO182; clear HB; have HO_2 := n0_; have HO182 := n1_; have HO185 := n2_; have HB := n3_; clear n0_ n1_ n2_ n3_; (try clear hb); (try clear hb2); (try clear hk); (try clear hi); (try clear ho0); obtain ⟨Ao37, co37, eo37⟩ := Kd.R_slice HO185.out; subst eo37) | ((with_reducible refine gate_callee (f := 16) rfl ?_); refine goesL_ (some 60) rfl rfl Tryd.func16 (by kernel_rfl) rfl #[.slice Ao37 t183.length co37] rfl y3_ ?_; (with_reducible refine (xor_Get.calls _ _ t183 t186 t187 _ ?side1 ?side2 ?side3 A32.out).mono ?_); (case side1 => exact ⟨Tab_below hT.out y1_⟩); (case side2 => repeat (first | exact (Kd.R_reads' HO185.out).2.2 | (with_reducible refine Kd.C_alloc ?_ _) | (with_reducible refine Kd.C_drewN ?_ _) | (with_reducible refine Kd.C_drew ?_))); (case side3 => exact (Kd.R_reads' HO185.out).2.1); rintro e w38 ⟨v188, rfl, ho0, hb⟩; refine ⟨_, rfl, ?_⟩; have n0_ := Aside0.mk (Kd.V_elder' y7_ (Kd.R_base ho0) hb); have n1_ := Aside0.mk (Kd.N_elder' (by (with_reducible repeat (first | apply Kd.N_alloc | apply Kd.N_drewN | apply Kd.N_drew)); exact HO182.out) (Kd.R_base ho0) hb); have n2_ := Aside0.mk (Kd.R_below (by (with_reducible repeat (first | apply Kd.R_alloc | apply Kd.R_drewN | apply Kd.R_drew)); exact HO185.out) hb); have n3_ := Aside0.mk (Kd.R_lower (Kd.R_newM (M := fun k_ => (w.heap.size ≤ k_)) ho0 (below_size y1_) (fun k_ h_ => h_)) (below_size y1_)); have n4_ := Aside0.mk (below_step y1_ hb); clear HO_2; clear HO182; clear HO185; clear HB; have HO_2 := n0_; have HO182 := n1_; have HO185 := n2_; have HO189 := n3_; have HB := n4_; clear n0_ n1_ n2_ n3_ n4_; (try clear hb); (try clear hb2); (try clear hk); (try clear hi); (try clear ho0)))
             go_ret
             exact ⟨y8_, y1_⟩
         ·rw [if_neg c22] at H
          exact absurd H (by simp)
        ·rw [if_neg c21] at H
         exact absurd H (by simp)
       ·replace c20 := Bool.eq_false_iff.mpr c20
        subst c20
        have H1 : ((manometerref01_Join.f kj15 (([t167, l2] : List (List Int)))).bind fun t193 => ((xor_Get.f t193).bind fun bt196 => (some ((bt196.2 == 0) == ((l2.length : Int) == 0))))) = some r := by rw [if_neg (show ¬ (false = true) by decide)] at H; exact H
        clear H
        have H := H1
        clear H1
        obtain ⟨y190, hy190⟩ : ∃ y_ : List (List Int), y_ = (([t167, l2] : List (List Int))) := ⟨_, rfl⟩
        replace H : ((manometerref01_Join.f kj15 y190).bind fun t193 => ((xor_Get.f t193).bind fun bt196 => (some ((bt196.2 == 0) == ((l2.length : Int) == 0))))) = some r := by first | (rw [hy190]; with_reducible exact H) | (have H2_ := (Option.bind_some _ _).symm.trans H; rw [hy190]; with_reducible exact H2_) | (have H2_ := (Option.bind_some _ _).symm.trans H; with_reducible exact H2_) | with_reducible exact H | (rw [hy190]; exact H) | exact H
        have Ny190 := Aside0.mk hy190
        clear hy190
        replace H := Option.bind_eq_some_iff.mp H
        obtain ⟨t193, A390, H⟩ := H
        replace H : ((xor_Get.f t193).bind fun bt196 => (some ((bt196.2 == 0) == ((l2.length : Int) == 0)))) = some r := H
        have A39 := Aside0.mk A390
        clear A390
        replace H := Option.bind_eq_some_iff.mp H
        obtain ⟨⟨t196, t197⟩, A400, H⟩ := H
        replace H : (some ((t197 == 0) == ((l2.length : Int) == 0))) = some r := H
        have A40 := Aside0.mk A400
        clear A400
        obtain rfl := Option.some.inj H
        obtain ⟨Ao41, co41, eo41⟩ := Kd.R_slice HO_7.out
        subst eo41
        go_wp2_with (first | ((with_reducible refine gate_dst (N := 58) rfl ?_); (try (refine gate_guard (by rfl) ?_; dsimp only)); refine Kd.N_lit (Kd.slice 5 (Kd.int .u8)) _ 24 ?hg (N' := 58) ?hd (xs := ([t167, l2] : List (List Int))) (inner := [.slice Ao41 t167.length co41, .slice A2 l2.length c2]) (ok := (fun k_ => (P2_ k_ ∨ w.heap.size ≤ k_))) (okp := (fun k_ => (P2_ k_ ∨ w.heap.size ≤ k_))) ?hr ?hp (fun _ hk => hk) ((show ∀ k_, wc.heap.size ≤ k_ → (fun k_ => (P2_ k_ ∨ w.heap.size ≤ k_)) k_ from fun k_ hk => (.inr (Nat.le_trans (below_size y1_) hk))) _ (Nat.le_refl _)) (Below.refl _ _) (Nat.le_refl _) (by simp) ?_; (case hd => rfl); (case hg => rfl); (case hr => first | (go_simp; done) | (go_simp; rfl)); (case hp => exact (Reps.one (show Kd.FK (Kd.slice 5 (Kd.int .u8)) _ _ t167 [.slice Ao41 t167.length co41] from (Kd.FK_slice_mk (Kd.R_reads' (Kd.R_mono (ok' := (fun k_ => (P2_ k_ ∨ w.heap.size ≤ k_))) (HO_7.out) (fun k_ hk => (.inr (hk))))).2.1 (Kd.R_F (Kd.R_mono (ok' := (fun k_ => (P2_ k_ ∨ w.heap.size ≤ k_))) (HO_7.out) (fun k_ hk => (.inr (hk))))))) (Reps.one (show Kd.FK (Kd.slice 5 (Kd.int .u8)) _ _ l2 [.slice A2 l2.length c2] from (Kd.FK_slice_mk (Kd.V_reads' (Kd.V_mono (ok' := (fun k_ => (P2_ k_ ∨ w.heap.size ≤ k_))) (HO_2.out) (fun k_ hk => hk.1))).2.1 (Kd.V_F (Kd.V_mono (ok' := (fun k_ => (P2_ k_ ∨ w.heap.size ≤ k_))) (HO_2.out) (fun k_ hk => hk.1))))) (Reps.none _ _)))); intro v191 w42 ho43 hb hg_ hnew_; clear hg_ hnew_; (first | rw [← Ny190.out] at ho43 | (simp only [Int.reduceToNat] at ho43; rw [← Ny190.out] at ho43)); have n0_ := Aside0.mk (Kd.V_elder' y7_ (Kd.N_base ho43) hb); have n1_ := Aside0.mk (Kd.N_lower ho43 (below_size y1_)); have n2_ := Aside0.mk (below_step y1_ hb); clear HO_2; clear HB; clear HO_7; have HO_2 := n0_; have HO192 := n1_; have HB := n2_; clear n0_ n1_ n2_; clear hb ho43; obtain ⟨Ao44, co44, eo44⟩ := Kd.N_slice HO192.out; subst eo44) | ((with_reducible refine gate_callee (f := 15) rfl ?_); refine goesL_ (some 59) rfl rfl Tryd.func15 (by kernel_rfl) rfl #[.slice Ao44 y190.length co44] rfl y3_ ?_; (with_reducible refine (manometerref01_Join.calls kj15 _ _ y190 t193 _ ?side1 ?side2 A39.out).mono ?_); (case side1 => repeat (first | exact (Kd.N_reads' HO192.out).2.2 | (with_reducible refine Kd.C_alloc ?_ _) | (with_reducible refine Kd.C_drewN ?_ _) | (with_reducible refine Kd.C_drew ?_))); (case side2 => exact (Kd.N_reads' HO192.out).2.1); rintro e w45 ⟨v194, rfl, ho0, hb⟩; refine ⟨_, rfl, ?_⟩; have n0_ := Aside0.mk (Kd.V_elder' y7_ (Kd.R_base ho0) hb); have n1_ := Aside0.mk (Kd.N_elder' (by (with_reducible repeat (first | apply Kd.N_alloc | apply Kd.N_drewN | apply Kd.N_drew)); exact HO192.out) (Kd.R_base ho0) hb); have n2_ := Aside0.mk (Kd.R_lower (Kd.R_newM (M := fun k_ => (w.heap.size ≤ k_)) ho0 (below_size y1_) (fun k_ h_ => h_)) (below_size y1_)); have n3_ := Aside0.mk (below_step y1_ hb); clear HO_2; clear HO192; clear HB; have HO_2 := n0_; have HO192 := n1_; have HO195 := n2_; have HB := n3_; clear n0_ n1_ n2_ n3_; (try clear hb); (try clear hb2); (try clear hk); (try clear hi); (try clear ho0); obtain ⟨Ao46, co46, eo46⟩ := Kd.R_slice HO195.out; subst eo46) | ((with_reducible refine gate_callee (f := 16) rfl ?_); refine goesL_ (some 60) rfl rfl Tryd.func16 (by kernel_rfl) rfl #[.slice Ao46 t193.length co46] rfl y3_ ?_; (with_reducible refine (xor_Get.calls _ _ t193 t196 t197 _ ?side1 ?side2 ?side3 A40.out).mono ?_); (case side1 => exact ⟨Tab_below hT.out y1_⟩); (case side2 => repeat (first | exact (Kd.R_reads' HO195.out).2.2 | (with_reducible refine Kd.C_alloc ?_ _) | (with_reducible refine Kd.C_drewN ?_ _) | (with_reducible refine Kd.C_drew ?_))); (case side3 => exact (Kd.R_reads' HO195.out).2.1); rintro e w47 ⟨v198, rfl, ho0, hb⟩; refine ⟨_, rfl, ?_⟩; have n0_ := Aside0.mk (Kd.V_elder' y7_ (Kd.R_base ho0) hb); have n1_ := Aside0.mk (Kd.N_elder' (by (with_reducible repeat (first | apply Kd.N_alloc | apply Kd.N_drewN | apply Kd.N_drew)); exact HO192.out) (Kd.R_base ho0) hb); have n2_ := Aside0.mk (Kd.R_below (by (with_reducible repeat (first | apply Kd.R_alloc | apply Kd.R_drewN | apply Kd.R_drew)); exact HO195.out) hb); have n3_ := Aside0.mk (Kd.R_lower (Kd.R_newM (M := fun k_ => (w.heap.size ≤ k_)) ho0 (below_size y1_) (fun k_ h_ => h_)) (below_size y1_)); have n4_ := Aside0.mk (below_step y1_ hb); clear HO_2; clear HO192; clear HO195; clear HB; have HO_2 := n0_; have HO192 := n1_; have HO195 := n2_; have HO199 := n3_; have HB := n4_; clear n0_ n1_ n2_ n3_ n4_; (try clear hb); (try clear hb2); (try clear hk); (try clear hi); (try clear ho0)))
        go_ret
        exact ⟨y8_, y1_⟩
    ·rw [if_neg c15] at H
     have c15b0 : (t168 == 0) = false := beq_eq_false_iff_ne.mpr c15
     have c15b1 : (t168 != 0) = true := bne_iff_ne.mpr c15
     obtain rfl := Option.some.inj H
     go_wp2_with (first | ((with_reducible refine gate_callee (f := 12) rfl ?_); refine goesL_ (some 28) rfl rfl Tryd.func12 (by kernel_rfl) rfl #[.slice A0 l0.length c0] rfl y3_ ?_; (with_reducible refine (xor_Put.calls _ _ l0 t167 t168 _ ?side1 ?side2 ?side3 A14.out).mono ?_); (case side1 => exact ⟨Tab_below hT.out y1_⟩); (case side2 => repeat (first | exact (Kd.C_below HR0.out HB.out) | (with_reducible refine Kd.C_alloc ?_ _) | (with_reducible refine Kd.C_drewN ?_ _) | (with_reducible refine Kd.C_drew ?_))); (case side3 => exact HC0.out); rintro e w48 ⟨v169, rfl, ho0, hb⟩; refine ⟨_, rfl, ?_⟩; have n0_ := Aside0.mk (Kd.V_elder' y7_ (Kd.R_base ho0) hb); have n1_ := Aside0.mk (Kd.R_lower (Kd.R_newM (M := fun k_ => (w.heap.size ≤ k_)) ho0 (below_size y1_) (fun k_ h_ => h_)) (below_size y1_)); have n2_ := Aside0.mk (below_step y1_ hb); clear HO_2; clear HB; have HO_2 := n0_; have HO170 := n1_; have HB := n2_; clear n0_ n1_ n2_; (try clear hb); (try clear hb2); (try clear hk); (try clear hi); (try clear ho0)))
     go_ret
     exact ⟨y8_, y1_⟩
end Go.Proofs.YtmllgglcdlcdhaaDoor.PXL
