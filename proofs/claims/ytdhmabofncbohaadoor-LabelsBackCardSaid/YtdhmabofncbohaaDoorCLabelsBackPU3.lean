import Derived.Test.YtdhmabofncbohaaDoorCLabelsBackH19
import Derived.Test.YtdhmabofncbohaaDoorCLabelsBackPLCx6
import Derived.Test.YtdhmabofncbohaaDoorCLabelsBackPLCx13
import Derived.Test.YtdhmabofncbohaaDoorCLabelsBackPLCx14
import Derived.Test.YtdhmabofncbohaaDoorCLabelsBackQ5
import Derived.Test.YtdhmabofncbohaaDoorCLabelsBackPLCx8
import Derived.Test.YtdhmabofncbohaaDoorCLabelsBackPLCx5
import Derived.Test.YtdhmabofncbohaaDoorCLabelsBackPLCx23
import Derived.Test.YtdhmabofncbohaaDoorCLabelsBackG1
import Derived.Test.YtdhmabofncbohaaDoorCLabelsBackPLCx2
namespace Go.Proofs.YtdhmabofncbohaaDoor.Bq
end Go.Proofs.YtdhmabofncbohaaDoor.Bq
section
namespace Go.Proofs.YtdhmabofncbohaaDoor.PLC
open Go.RowKit Go.Proofs.YtdhmabofncbohaaDoorW.PrintWords Go.Proofs.YtdhmabofncbohaaDoorW.PrintLast Go.Proofs.YtdhmabofncbohaaDoorW.PrintMore
attribute [local go_sem] max2_int min2_int max_two min_two max_three min_three max_four min_four
set_option linter.unusedVariables false
set_option linter.unusedSimpArgs false
def manometerref01_Join.l0 : Nat → List Int → List (List Int) → Int → Int → Option (List Int)
 | 0, _, _, _, _ => none
 | k + 1, x3, x7, x8, x9 => if x9 < x8 then (if 0 ≤ x9 then (if x9 < (x7.length : Int) then (if x3.length + (rd_L5 x7 x9).length < 140737488355328 then (manometerref01_Join.l0 k (x3 ++ (rd_L5 x7 x9)) x7 x8 (wrap64 (x9 + 1))) else (none)) else (none)) else (none)) else (some x3)
def manometerref01_Join.f (k : Nat) (l0 : List (List Int)) : Option (List Int) := manometerref01_Join.l0 k (([] : List Int)) l0 (l0.length : Int) 0
set_option maxHeartbeats 8000000 in
set_option maxRecDepth 100000 in
theorem manometerref01_Join.calls (k : Nat) (A0 : Option Addr) (c0 : Nat) (l0 : List (List Int)) (r : List Int) (w : World) (hr0 : Kd.C (Kd.slice 5 (Kd.int .u8)) w A0 l0.length l0) (hc0 : l0.length ≤ c0) (h : manometerref01_Join.f k l0 = some r) :
  Calls Tryd.prog 54 #[.slice A0 l0.length c0] w fun e w' => ∃ v0_ : Value, e = .returned (v0_) ∧ Kd.R (Kd.int .u8) 5 w' w.heap.size (fun _ => True) v0_ r ∧ Below w.heap.size w w' := by
 have HR0 := Aside0.mk hr0
 have HC0 := Aside0.mk hc0
 clear hr0 hc0
 have HB := Aside0.mk (Below.refl w.heap.size w)
 have H : (manometerref01_Join.l0 k (([] : List Int)) l0 (l0.length : Int) 0) = some r := h
 clear h
 obtain ⟨y586, hy586⟩ : ∃ y_ : List Int, y_ = (([] : List Int)) := ⟨_, rfl⟩
 replace H : (manometerref01_Join.l0 k y586 l0 (l0.length : Int) 0) = some r := by first | (rw [hy586]; with_reducible exact H) | (have H2_ := (Option.bind_some _ _).symm.trans H; rw [hy586]; with_reducible exact H2_) | (have H2_ := (Option.bind_some _ _).symm.trans H; with_reducible exact H2_) | with_reducible exact H | (rw [hy586]; exact H) | exact H
 have Ny586 := Aside0.mk hy586
 clear hy586
 have H' := Aside0.mk H
 clear H
 go_enter Tryd.func54, Tryd.ntmps54
 go_wp2_with (first | ((with_reducible refine gate_dst (N := 6) rfl ?_); refine Kd.R_lit (Kd.int .u8) _ 5 ?hg (N := 6) ?hd (xs := ([] : List Int)) (inner := []) (ok := fun _ => True) (okp := fun _ => True) ?hr ?hp (fun _ hk => hk) trivial (Below.refl _ _) (Nat.le_refl _) (by simp) ?_; (case hd => rfl); (case hg => rfl); (case hr => first | (go_simp; done) | (go_simp; rfl)); (case hp => exact (Reps.none _ _)); intro v587 w2 ho3 hb hg_ hnew_; clear hg_ hnew_; (first | rw [← Ny586.out] at ho3 | (simp only [Int.reduceToNat] at ho3; rw [← Ny586.out] at ho3)); have n0_ := Aside0.mk (Kd.R_lower ho3 (below_size y1_)); have n1_ := Aside0.mk (below_step y1_ hb); clear HB; have HO588 := n0_; have HB := n1_; clear n0_ n1_; clear hb ho3))
 go_loopg [3, 9] k (fun kq v3 v9 w' => ∃ (x3_1 : List Int) (x9_1 : Int), v9 = .int .i64 x9_1 ∧ Aside0 (manometerref01_Join.l0 kq x3_1 l0 (l0.length : Int) x9_1 = some r) ∧ Aside0 (kq ≤ k) ∧ Aside0 (Kd.R (Kd.int .u8) 5 w' w.heap.size (fun _ => True) v3 x3_1) ∧ Aside0 (Below w.heap.size w w'))
 case atStart => exact ⟨(y586), (0), y6_, H', ⟨Nat.le_refl _⟩, ⟨by (with_reducible repeat (first | apply Kd.R_alloc | apply Kd.R_drewN | apply Kd.R_drew)); exact HO588.out⟩, ⟨y1_⟩⟩
 case round =>
  clear H'
  try clear p2
  obtain ⟨x3_1, x9_1, rfl, HA, HK1, HO_3, HB⟩ := hrel
  cases gk with
  | zero => exact absurd HA.out (by simp [manometerref01_Join.l0])
  | succ k1 =>
   have H := HA.out
   clear HA
   simp only [manometerref01_Join.l0] at H
   by_cases c4 : x9_1 < (l0.length : Int)
   ·rw [if_pos c4] at H
    have c4b0 : decide (x9_1 < (l0.length : Int)) = true := decide_eq_true c4
    clear c4
    by_cases c5 : 0 ≤ x9_1
    ·rw [if_pos c5] at H
     have c5b0 : decide (0 ≤ x9_1) = true := decide_eq_true c5
     clear c5
     by_cases c6 : x9_1 < (l0.length : Int)
     ·rw [if_pos c6] at H
      have c6b0 : decide (x9_1 < (l0.length : Int)) = true := decide_eq_true c6
      clear c6
      by_cases c7 : x3_1.length + (rd_L5 l0 x9_1).length < 140737488355328
      ·rw [if_pos c7] at H
       have LMc7 := Aside0.mk c7
       clear c7
       obtain ⟨y590, hy590⟩ : ∃ y_ : List Int, y_ = (x3_1 ++ (rd_L5 l0 x9_1)) := ⟨_, rfl⟩
       replace H : (manometerref01_Join.l0 k1 y590 l0 (l0.length : Int) (wrap64 (x9_1 + 1))) = some r := by first | (rw [hy590]; with_reducible exact H) | (have H2_ := (Option.bind_some _ _).symm.trans H; rw [hy590]; with_reducible exact H2_) | (have H2_ := (Option.bind_some _ _).symm.trans H; with_reducible exact H2_) | with_reducible exact H | (rw [hy590]; exact H) | exact H
       have Ny590 := Aside0.mk hy590
       clear hy590
       have H' := Aside0.mk H
       clear H
       have p589 : 0 ≤ (x9_1 : Int) := of_decide_eq_true y3_
       have q589 : x9_1 < (l0.length : Int) := of_decide_eq_true y3_
       obtain ⟨ad589, A589_0, c589_0, e589, hx589_0, hl589_0, hi589_0⟩ := at_L5 HR0.out x9_1 p589 q589
       cases e589
       replace hx589_0 := (HB.out.cell (World.block_lt_of_cell? w _ hx589_0)).trans hx589_0
       have HR589_0 := Aside0.mk hi589_0
       have HC589_0 := Aside0.mk hl589_0
       clear hi589_0 hl589_0
       replace p589 := eq_true p589
       replace q589 := eq_true q589
       go_wp2_with (first | ((with_reducible refine gate_builtin (b := .append) (xs := #[.tmp 13, .tmp 14]) rfl ?_); at_builtin; refine Kd.R_append_rows (Kd.int .u8) (w0 := w) w.heap.size rfl (.tmp 13) (.tmp 14) 53 5 (.int .u8 0) 1 rfl Tryd.underlying53 info5 rfl (by decide) (by omega) u3 x3_1 (rd_L5 l0 x9_1) _ _ _ (fun _ => True) (fun _ => False) rfl rfl ?aO ?aR (fun _ _ h => h) (fun _ h => h.elim) ?aF ?aB ?aS ?aL ?_; (case aR => repeat (first | exact (Kd.C_below HR589_0.out HB.out) | (with_reducible refine Kd.C_alloc ?_ _) | (with_reducible refine Kd.C_drewN ?_ _) | (with_reducible refine Kd.C_drew ?_))); (case aB => exact y1_); (case aF => exact (fun _ _ => trivial)); (case aO => exact y26_); (case aS => exact (below_size y1_)); (case aL => have := LMc7.out; omega); intro v591 w8 ho hb hg hat; rw [← Ny590.out] at ho; have n0_ := Aside0.mk (hb); have n1_ := Aside0.mk (ho); clear HB; clear HO_3; have HB := n0_; have HO592 := n1_; clear n0_ n1_; clear ho hb hg hat))
       go_roundg k1
       case measure => have := HK1.out; omega
       case rel => exact ⟨(y590), (wrap64 (x9_1 + 1)), y6_, H', ⟨y53_⟩, ⟨by (with_reducible repeat (first | apply Kd.R_alloc | apply Kd.R_drewN | apply Kd.R_drew)); exact HO592.out⟩, ⟨y1_⟩⟩
      ·rw [if_neg c7] at H
       exact absurd H (by simp)
     ·rw [if_neg c6] at H
      exact absurd H (by simp)
    ·rw [if_neg c5] at H
     exact absurd H (by simp)
   ·rw [if_neg c4] at H
    have c4b0 : decide (x9_1 < (l0.length : Int)) = false := decide_eq_false c4
    clear c4
    obtain rfl := Option.some.inj H
    go_wp2
    go_ret
    exact ⟨_, y7_, y26_, y1_⟩
def bits_PutUvarint.l0 : Nat → Int → List Int → Option (List Int)
 | 0, _, _ => none
 | k + 1, x0, x3 => if x0 > 127 then (if x3.length < 140737488355328 then (bits_PutUvarint.l0 k (x0 / 128) (x3 ++ [Go.bits .or .u8 ((x0) % 256) 128])) else (none)) else (if x3.length < 140737488355328 then (some (x3 ++ [(x0) % 256])) else (none))
def bits_PutUvarint.f (k : Nat) (a0 : Int) : Option (List Int) := if 10 ≤ 281474976710656 then (bits_PutUvarint.l0 k a0 (List.replicate 0 0)) else (none)
set_option maxHeartbeats 8000000 in
set_option maxRecDepth 100000 in
theorem bits_PutUvarint.calls (k : Nat) (a0 : Int) (r : List Int) (w : World) (h : bits_PutUvarint.f k a0 = some r) :
  Calls Tryd.prog 71 #[.int .u64 a0] w fun e w' => ∃ v0_ : Value, e = .returned (v0_) ∧ Kd.R (Kd.int .u8) 5 w' w.heap.size (fun _ => True) v0_ r ∧ Below w.heap.size w w' := by
 have HB := Aside0.mk (Below.refl w.heap.size w)
 have H : (if 10 ≤ 281474976710656 then (bits_PutUvarint.l0 k a0 (List.replicate 0 0)) else (none)) = some r := h
 clear h
 by_cases c2 : 10 ≤ 281474976710656
 ·rw [if_pos c2] at H
  have c2b0 := eq_true c2
  have c2b1 : decide (10 ≤ 281474976710656) = true := decide_eq_true c2
  clear c2
  obtain ⟨y625, hy625⟩ : ∃ y_ : List Int, y_ = (List.replicate 0 0) := ⟨_, rfl⟩
  replace H : (bits_PutUvarint.l0 k a0 y625) = some r := by first | (rw [hy625]; with_reducible exact H) | (have H2_ := (Option.bind_some _ _).symm.trans H; rw [hy625]; with_reducible exact H2_) | (have H2_ := (Option.bind_some _ _).symm.trans H; with_reducible exact H2_) | with_reducible exact H | (rw [hy625]; exact H) | exact H
  have Ny625 := Aside0.mk hy625
  clear hy625
  have H' := Aside0.mk H
  clear H
  go_enter Tryd.func71, Tryd.ntmps71
  go_wp2_with (first | ((with_reducible refine gate_dst (N := 4) rfl ?_); refine Kd.R_make0 (Kd.int .u8) _ 5 rfl (N := 4) rfl 53 _ _ rfl 10 rfl rfl Tryd.underlying53 (.int .u8 0) 1 info5 rfl (by decide) (by omega) 0 (ok := fun _ => True) (okp := fun _ => True) rfl (fun _ hk => hk) trivial (by omega) (by omega) (Below.refl _ _) (Nat.le_refl _) ?_; intro v626 w3 ho4 hb hg_ hnew_; clear hg_ hnew_; (first | rw [← Ny625.out] at ho4 | (simp only [Int.reduceToNat] at ho4; rw [← Ny625.out] at ho4)); have n0_ := Aside0.mk (Kd.R_lower ho4 (below_size y1_)); have n1_ := Aside0.mk (below_step y1_ hb); clear HB; have HO627 := n0_; have HB := n1_; clear n0_ n1_; clear hb ho4))
  go_loopg [0, 3] k (fun kq v0 v3 w' => ∃ (x0_1 : Int) (x3_1 : List Int), v0 = .int .u64 x0_1 ∧ Aside0 (bits_PutUvarint.l0 kq x0_1 x3_1 = some r) ∧ Aside0 (kq ≤ k) ∧ Aside0 (Kd.R (Kd.int .u8) 5 w' w.heap.size (fun _ => True) v3 x3_1) ∧ Aside0 (Below w.heap.size w w'))
  case atStart => exact ⟨(a0), (y625), y6_, H', ⟨Nat.le_refl _⟩, ⟨by (with_reducible repeat (first | apply Kd.R_alloc | apply Kd.R_drewN | apply Kd.R_drew)); exact HO627.out⟩, ⟨y1_⟩⟩
  case round =>
   clear H'
   try clear c2
   try clear c2b0
   try clear c2b1
   try clear p2
   obtain ⟨x0_1, x3_1, rfl, HA, HK1, HO_3, HB⟩ := hrel
   cases gk with
   | zero => exact absurd HA.out (by simp [bits_PutUvarint.l0])
   | succ k1 =>
    have H := HA.out
    clear HA
    simp only [bits_PutUvarint.l0] at H
    by_cases c5 : x0_1 > 127
    ·rw [if_pos c5] at H
     have c5b0 : decide (127 < x0_1) = true := decide_eq_true c5
     clear c5
     by_cases c6 : x3_1.length < 140737488355328
     ·rw [if_pos c6] at H
      have LMc6 := Aside0.mk c6
      clear c6
      obtain ⟨y628, hy628⟩ : ∃ y_ : List Int, y_ = (x3_1 ++ [Go.bits .or .u8 ((x0_1) % 256) 128]) := ⟨_, rfl⟩
      replace H : (bits_PutUvarint.l0 k1 (x0_1 / 128) y628) = some r := by first | (rw [hy628]; with_reducible exact H) | (have H2_ := (Option.bind_some _ _).symm.trans H; rw [hy628]; with_reducible exact H2_) | (have H2_ := (Option.bind_some _ _).symm.trans H; with_reducible exact H2_) | with_reducible exact H | (rw [hy628]; exact H) | exact H
      have Ny628 := Aside0.mk hy628
      clear hy628
      have H' := Aside0.mk H
      clear H
      go_wp2_with (first | ((with_reducible refine gate_builtin (b := .append) (xs := #[.tmp 7, .tmp 11]) rfl ?_); at_builtin; refine Kd.R_append (Kd.int .u8) (w0 := w) w.heap.size rfl (.tmp 7) (.tmp 11) 53 5 (.int .u8 0) 1 rfl Tryd.underlying53 info5 rfl (by decide) (by omega) u3 x3_1 (Go.bits .or .u8 ((x0_1) % 256) 128) [.int .u8 (Go.bits .or .u8 ((x0_1) % 256) 128)] (fun _ => True) (fun _ => False) rfl rfl ?aP (fun _ hk => hk.elim) ?aF ?aO ?aB ?aS ?aL ?_; (case aP => exact rfl); (case aB => exact y1_); (case aF => exact (fun _ _ => trivial)); (case aO => exact y26_); (case aS => exact (below_size y1_)); (case aL => have := LMc6.out; omega); intro v629 w7 ho hb hg hat; rw [← Ny628.out] at ho; have n0_ := Aside0.mk (hb); have n1_ := Aside0.mk (ho); clear HB; clear HO_3; have HB := n0_; have HO630 := n1_; clear n0_ n1_; clear ho hb hg hat))
      go_roundg k1
      case measure => have := HK1.out; omega
      case rel => exact ⟨(x0_1 / 128), (y628), y6_, H', ⟨y53_⟩, ⟨by (with_reducible repeat (first | apply Kd.R_alloc | apply Kd.R_drewN | apply Kd.R_drew)); exact HO630.out⟩, ⟨y1_⟩⟩
     ·rw [if_neg c6] at H
      exact absurd H (by simp)
    ·rw [if_neg c5] at H
     have c5b0 : decide (127 < x0_1) = false := decide_eq_false c5
     clear c5
     by_cases c8 : x3_1.length < 140737488355328
     ·rw [if_pos c8] at H
      have LMc8 := Aside0.mk c8
      clear c8
      obtain ⟨y631, hy631⟩ : ∃ y_ : List Int, y_ = (x3_1 ++ [(x0_1) % 256]) := ⟨_, rfl⟩
      replace H : (some y631) = some r := by first | (rw [hy631]; with_reducible exact H) | (have H2_ := (Option.bind_some _ _).symm.trans H; rw [hy631]; with_reducible exact H2_) | (have H2_ := (Option.bind_some _ _).symm.trans H; with_reducible exact H2_) | with_reducible exact H | (rw [hy631]; exact H) | exact H
      have Ny631 := Aside0.mk hy631
      clear hy631
      obtain rfl := Option.some.inj H
      go_wp2_with (first | ((with_reducible refine gate_builtin (b := .append) (xs := #[.tmp 15, .tmp 18]) rfl ?_); at_builtin; refine Kd.R_append (Kd.int .u8) (w0 := w) w.heap.size rfl (.tmp 15) (.tmp 18) 53 5 (.int .u8 0) 1 rfl Tryd.underlying53 info5 rfl (by decide) (by omega) u3 x3_1 ((x0_1) % 256) [.int .u8 ((x0_1) % 256)] (fun _ => True) (fun _ => False) rfl rfl ?aP (fun _ hk => hk.elim) ?aF ?aO ?aB ?aS ?aL ?_; (case aP => exact rfl); (case aB => exact y1_); (case aF => exact (fun _ _ => trivial)); (case aO => exact y26_); (case aS => exact (below_size y1_)); (case aL => have := LMc8.out; omega); intro v632 w9 ho hb hg hat; rw [← Ny631.out] at ho; have n0_ := Aside0.mk (hb); have n1_ := Aside0.mk (ho); clear HB; clear HO_3; have HB := n0_; have HO633 := n1_; clear n0_ n1_; clear ho hb hg hat))
      go_ret
      exact ⟨_, y7_, by (with_reducible repeat (first | apply Kd.R_alloc | apply Kd.R_drewN | apply Kd.R_drew)); exact HO633.out, y1_⟩
     ·rw [if_neg c8] at H
      exact absurd H (by simp)
 ·rw [if_neg c2] at H
  exact absurd H (by simp)
def labels_sized.f (k : Nat) (l0 : List Int) (a1 : ByteArray) : Option (List Int) := (bits_PutUvarint.f k (IntKind.u64.wrap ((a1.size : Int)))).bind fun t634 => (if l0.length + t634.length < 140737488355328 then ((some (l0 ++ t634 : List Int)).bind fun y637 => (if y637.length + a1.size < 140737488355328 then (some (y637 ++ bytesOf a1)) else (none))) else (none))
set_option maxHeartbeats 8000000 in
set_option maxRecDepth 100000 in
theorem labels_sized.calls (k : Nat) (P0_ : Nat → Prop) (u9000_ : Value) (l0 : List Int) (a1 : ByteArray) (r : List Int) (w0 w : World) (hB : Below w0.heap.size w0 w) (ho0 : Kd.R (Kd.int .u8) 5 w w0.heap.size P0_ u9000_ l0) (h : labels_sized.f k l0 a1 = some r) :
  Calls Tryd.prog 72 #[u9000_, .string a1] w fun e w' => ∃ v0_ : Value, e = .returned (v0_) ∧ Kd.R (Kd.int .u8) 5 w' w0.heap.size (fun k_ => (P0_ k_ ∨ w.heap.size ≤ k_)) v0_ r ∧ Below w0.heap.size w0 w' ∧ Kept w w' (fun k_ => P0_ k_) := by
 have HO0 := Aside0.mk (show Kd.R (Kd.int .u8) 5 w w0.heap.size (fun k_ => (P0_ k_ ∨ w.heap.size ≤ k_)) u9000_ l0 from Kd.R_mono ho0 (fun k_ hk => (.inl hk)))
 have HK := Aside0.mk (Kept.refl w (fun k_ => P0_ k_))
 have HW0 := Aside0.mk hB.size
 have HB := Aside0.mk hB
 clear hB
 have H : ((bits_PutUvarint.f k (IntKind.u64.wrap ((a1.size : Int)))).bind fun t634 => (if l0.length + t634.length < 140737488355328 then ((some (l0 ++ t634 : List Int)).bind fun y637 => (if y637.length + a1.size < 140737488355328 then (some (y637 ++ bytesOf a1)) else (none))) else (none))) = some r := h
 clear h
 replace H := Option.bind_eq_some_iff.mp H
 obtain ⟨t634, A30, H⟩ := H
 replace H : (if l0.length + t634.length < 140737488355328 then ((some (l0 ++ t634 : List Int)).bind fun y637 => (if y637.length + a1.size < 140737488355328 then (some (y637 ++ bytesOf a1)) else (none))) else (none)) = some r := H
 have A3 := Aside0.mk A30
 clear A30
 by_cases c4 : l0.length + t634.length < 140737488355328
 ·rw [if_pos c4] at H
  have LMc4 := Aside0.mk c4
  clear c4
  obtain ⟨y637, hy637⟩ : ∃ y_ : List Int, y_ = (l0 ++ t634) := ⟨_, rfl⟩
  replace H : (if y637.length + a1.size < 140737488355328 then (some (y637 ++ bytesOf a1)) else (none)) = some r := by first | (rw [hy637]; with_reducible exact H) | (have H2_ := (Option.bind_some _ _).symm.trans H; rw [hy637]; with_reducible exact H2_) | (have H2_ := (Option.bind_some _ _).symm.trans H; with_reducible exact H2_) | with_reducible exact H | (rw [hy637]; exact H) | exact H
  have Ny637 := Aside0.mk hy637
  clear hy637
  by_cases c5 : y637.length + a1.size < 140737488355328
  ·rw [if_pos c5] at H
   have LMc5 := Aside0.mk c5
   clear c5
   obtain ⟨y640, hy640⟩ : ∃ y_ : List Int, y_ = (y637 ++ bytesOf a1) := ⟨_, rfl⟩
   replace H : (some y640) = some r := by first | (rw [hy640]; with_reducible exact H) | (have H2_ := (Option.bind_some _ _).symm.trans H; rw [hy640]; with_reducible exact H2_) | (have H2_ := (Option.bind_some _ _).symm.trans H; with_reducible exact H2_) | with_reducible exact H | (rw [hy640]; exact H) | exact H
   have Ny640 := Aside0.mk hy640
   clear hy640
   obtain rfl := Option.some.inj H
   go_enter Tryd.func72, Tryd.ntmps72
   go_wp2_with (first | ((with_reducible refine gate_callee (f := 71) rfl ?_); refine goesL_ (some 9) rfl rfl Tryd.func71 (by kernel_rfl) rfl #[.int .u64 (IntKind.u64.wrap ((a1.size : Int)))] rfl y2_ ?_; (with_reducible refine (bits_PutUvarint.calls k (IntKind.u64.wrap ((a1.size : Int))) t634 _ A3.out).mono ?_); rintro e w6 ⟨v635, rfl, ho0, hb⟩; refine ⟨_, rfl, ?_⟩; have n0_ := Aside0.mk (Kd.R_elder' y65_ (Kd.R_base ho0) hb); have n1_ := Aside0.mk (Kd.R_lower (Kd.R_new' (Kd.R_newM (M := fun k_ => (P0_ k_ ∨ w.heap.size ≤ k_)) ho0 y45_ (fun k_ h_ => .inr h_)) (Kd.R_lt y65_)) (below_size y1_)); have n2_ := Aside0.mk (Kept.below (S := (fun k_ => P0_ k_)) y47_ hb); have n3_ := Aside0.mk (below_step y1_ hb); clear HO0; clear HK; clear HB; have HO0 := n0_; have HO636 := n1_; have HK := n2_; have HB := n3_; clear n0_ n1_ n2_ n3_; (try clear hb); (try clear hb2); (try clear hk); (try clear hi); (try clear ho0); obtain ⟨Ao8, co8, eo8⟩ := Kd.R_slice HO636.out; subst eo8) | ((with_reducible refine gate_builtin (b := .append) (xs := #[.tmp 5, .tmp 9]) rfl ?_); at_builtin; refine Kd.R_append_rows (Kd.int .u8) (w0 := w0) w0.heap.size rfl (.tmp 5) (.tmp 9) 53 5 (.int .u8 0) 1 rfl Tryd.underlying53 info5 rfl (by decide) (by omega) u9000_ l0 t634 _ _ _ (fun k_ => (P0_ k_ ∨ w.heap.size ≤ k_) ∧ some k_ ≠ (.slice Ao8 t634.length co8 : Value).ownBlock) (fun _ => False) rfl rfl ?aO ?aR (fun _ _ h => h) (fun _ h => h.elim) ?aF ?aB ?aS ?aL ?_; (case aR => repeat (first | exact (Kd.R_reads' HO636.out).2.2 | (with_reducible refine Kd.C_alloc ?_ _) | (with_reducible refine Kd.C_drewN ?_ _) | (with_reducible refine Kd.C_drew ?_))); (case aB => exact y1_); (case aF => exact (fun k_ hk => ⟨(.inr (Nat.le_trans y45_ hk)), Kd.fresh' (Kd.R_lt y63_) k_ hk⟩)); (case aO => exact y65_); (case aS => exact (below_size y1_)); (case aL => have := LMc4.out; omega); intro v638 w7 ho hb hg hat; rw [← Ny637.out] at ho; have n0_ := Aside0.mk (Kd.R_after (ok := (fun k_ => (P0_ k_ ∨ w.heap.size ≤ k_))) (by (with_reducible repeat (first | apply Kd.R_alloc | apply Kd.R_drewN | apply Kd.R_drew)); exact Kd.R_mono HO636.out (fun _ hk => ⟨hk.1.1, hk.2⟩)) hg hat); have n1_ := Aside0.mk (hb); have n2_ := Aside0.mk (Kept.of_grown (S := (fun k_ => P0_ k_)) hg y47_ (fun k_ e_ => (HO0.out.1 k_ e_).1)); have n3_ := Aside0.mk (ho); clear HO636; clear HB; clear HK; clear HO0; have HO636 := n0_; have HB := n1_; have HK := n2_; have HO639 := n3_; clear n0_ n1_ n2_ n3_; clear ho hb hg hat) | (at_builtin; refine Kd.R_append_str (w0 := w0) w0.heap.size rfl (.tmp 10) _ 53 9 5 rfl Tryd.underlying53 Tryd.underlying9 info5 v638 y637 a1 (fun k_ => (P0_ k_ ∨ w.heap.size ≤ k_) ∧ some k_ ≠ (.slice Ao8 t634.length co8 : Value).ownBlock) rfl rfl ?aF ?aO ?aB ?aS ?aL ?_; (case aB => exact y1_); (case aF => exact (fun k_ hk => ⟨(.inr (Nat.le_trans y45_ hk)), Kd.fresh' (Kd.R_lt y63_) k_ hk⟩)); (case aO => exact (by (with_reducible repeat (first | apply Kd.R_alloc | apply Kd.R_drewN | apply Kd.R_drew)); exact HO639.out)); (case aS => exact (below_size y1_)); (case aL => have := LMc5.out; omega); intro v641 w9 ho hb hg hat; rw [← Ny640.out] at ho; have n0_ := Aside0.mk (Kd.R_after (ok := (fun k_ => (P0_ k_ ∨ w.heap.size ≤ k_))) y63_ hg hat); have n1_ := Aside0.mk (hb); have n2_ := Aside0.mk (Kept.of_grown (S := (fun k_ => P0_ k_)) hg y47_ (fun k_ e_ => (HO639.out.1 k_ e_).1)); have n3_ := Aside0.mk (ho); clear HO636; clear HB; clear HK; clear HO639; have HO636 := n0_; have HB := n1_; have HK := n2_; have HO642 := n3_; clear n0_ n1_ n2_ n3_; clear ho hb hg hat))
   go_ret
   exact ⟨_, y7_, by (with_reducible repeat (first | apply Kd.R_alloc | apply Kd.R_drewN | apply Kd.R_drew)); exact Kd.R_mono HO642.out (fun _ hk => hk.1), y1_, y47_⟩
  ·rw [if_neg c5] at H
   exact absurd H (by simp)
 ·rw [if_neg c4] at H
  exact absurd H (by simp)
end Go.Proofs.YtdhmabofncbohaaDoor.PLC
end
section
namespace Go.Proofs.YtdhmabofncbohaaDoor.PLC
open Go.RowKit Go.Proofs.YtdhmabofncbohaaDoorW.PrintWords Go.Proofs.YtdhmabofncbohaaDoorW.PrintLast Go.Proofs.YtdhmabofncbohaaDoorW.PrintMore
attribute [local go_sem] max2_int min2_int max_two min_two max_three min_three max_four min_four
set_option linter.unusedVariables false
set_option linter.unusedSimpArgs false
mutual
def manometerref01_Uvarint.l0 : Nat → List Int → Int → Int → Option (Int × Int × Int)
 | 0, _, _, _ => none
 | k + 1, x0, x5, x7 => if x7 < 10 then (if x7 = (x0.length : Int) then (some (0, 0, 6)) else (if x7 = 9 then (if 0 ≤ x7 then (if x7 < (x0.length : Int) then (manometerref01_Uvarint.j1 k x0 x5 x7 x7 (decide ((rd x0 x7) > 1))) else (none)) else (none)) else (manometerref01_Uvarint.j1 k x0 x5 x7 x7 false))) else (some (0, 0, 9))
def manometerref01_Uvarint.j1 : Nat → List Int → Int → Int → Int → Bool → Option (Int × Int × Int)
 | 0, _, _, _, _, _ => none
 | k + 1, x0, x5, x6, x7, x22 => if x22 = true then (some (0, 0, 9)) else (if 0 ≤ x6 then (if x6 < (x0.length : Int) then (if 0 ≤ (IntKind.u64.wrap (wrap64 (7 * x6))) then (if (rd x0 x6) < 128 then (if x6 > 0 then (if (rd x0 x6) = 0 then (some (0, 0, 8)) else (some (IntKind.u64.wrap (x5 + (shl .u64 (IntKind.u64.wrap (Int.tmod (rd x0 x6) 128)) (IntKind.u64.wrap (wrap64 (7 * x6))))), wrap64 (x6 + 1), 0))) else (some (IntKind.u64.wrap (x5 + (shl .u64 (IntKind.u64.wrap (Int.tmod (rd x0 x6) 128)) (IntKind.u64.wrap (wrap64 (7 * x6))))), wrap64 (x6 + 1), 0))) else (manometerref01_Uvarint.l0 k x0 (IntKind.u64.wrap (x5 + (shl .u64 (IntKind.u64.wrap (Int.tmod (rd x0 x6) 128)) (IntKind.u64.wrap (wrap64 (7 * x6)))))) (wrap64 (x7 + 1)))) else (none)) else (none)) else (none))
end
def manometerref01_Uvarint.f (k : Nat) (l0 : List Int) : Option (Int × Int × Int) := manometerref01_Uvarint.l0 k l0 0 0
def manometerref05_took.f (k : Nat) (l0 : List Int) (a1 : Int) : Option (ByteArray × List Int × Int) := (manometerref01_Uvarint.f k l0).bind fun bt722 => (if bt722.2.2 = 0 then (if bt722.1 > a1 then (some ((⟨#[]⟩ : ByteArray), ([] : List Int), 3)) else (if bt722.1 > (IntKind.u64.wrap (wrap64 ((l0.length : Int) - bt722.2.1))) then (some ((⟨#[]⟩ : ByteArray), ([] : List Int), 6)) else (if 0 ≤ bt722.2.1 then (if bt722.2.1 ≤ (wrap64 (bt722.2.1 + (wrap64 (bt722.1)))) then (if (wrap64 (bt722.2.1 + (wrap64 (bt722.1)))) ≤ (l0.length : Int) then (if 0 ≤ (wrap64 (bt722.2.1 + (wrap64 (bt722.1)))) then (some (strOfNums ((l0.take ((wrap64 (bt722.2.1 + (wrap64 (bt722.1)))) : Int).toNat).drop (bt722.2.1 : Int).toNat), (l0.drop ((wrap64 (bt722.2.1 + (wrap64 (bt722.1)))) : Int).toNat), 0)) else (none)) else (none)) else (none)) else (none)))) else (some ((⟨#[]⟩ : ByteArray), ([] : List Int), bt722.2.2)))
def manometerref05_Take.l0 : Nat → List Int → List (S44) → List Int → Int → Int → Option ((List (S44)) × Int × Int)
 | 0, _, _, _, _, _ => none
 | k + 1, x0, x8, x9, x28, x29 => if x29 < x28 then ((manometerref05_took.f k x9 64).bind fun bt748 => (if bt748.2.2 = 0 then ((manometerref05_took.f k bt748.2.1 128).bind fun bt753 => (if bt753.2.2 = 0 then (if x8.length < 4398046511104 then (manometerref05_Take.l0 k x0 (x8 ++ [(⟨bt748.1, bt753.1⟩ : S44)]) bt753.2.1 x28 (wrap64 (x29 + 1))) else (none)) else (some (([] : List (S44)), 0, bt753.2.2)))) else (some (([] : List (S44)), 0, bt748.2.2)))) else ((manometerref05_Right.f k x8).bind fun t746 => (if t746 = 0 then (some (x8, wrap64 ((x0.length : Int) - (x9.length : Int)), 0)) else (some (([] : List (S44)), 0, t746))))
def manometerref05_Take.f (k : Nat) (l0 : List Int) : Option ((List (S44)) × Int × Int) := (manometerref01_Uvarint.f k l0).bind fun bt735 => (if bt735.2.2 = 0 then (if bt735.1 > 16 then (some (([] : List (S44)), 0, 3)) else (if 0 ≤ bt735.2.1 then (if bt735.2.1 ≤ (l0.length : Int) then (manometerref05_Take.l0 k l0 (([] : List (S44))) (l0.drop (bt735.2.1 : Int).toNat) (wrap64 (bt735.1)) 0) else (none)) else (none))) else (some (([] : List (S44)), 0, bt735.2.2)))
end Go.Proofs.YtdhmabofncbohaaDoor.PLC
end
section
namespace Go.Proofs.YtdhmabofncbohaaDoor.PLC
open Go.RowKit Go.Proofs.YtdhmabofncbohaaDoorW.PrintWords Go.Proofs.YtdhmabofncbohaaDoorW.PrintLast Go.Proofs.YtdhmabofncbohaaDoorW.PrintMore
attribute [local go_sem] max2_int min2_int max_two min_two max_three min_three max_four min_four
set_option linter.unusedVariables false
set_option linter.unusedSimpArgs false
def labels_Put.l0 : Nat → List Int → List (S44) → Int → Int → Option (List Int × Int)
 | 0, _, _, _, _ => none
 | k + 1, x5, x17, x18, x19 => if x19 < x18 then (if 0 ≤ x19 then (if x19 < (x17.length : Int) then ((labels_sized.f k x5 ((rd_T44 x17 x19).f0)).bind fun t649 => ((labels_sized.f k t649 ((rd_T44 x17 x19).f1)).bind fun t652 => (labels_Put.l0 k t652 x17 x18 (wrap64 (x19 + 1))))) else (none)) else (none)) else (some (x5, 0))
def labels_Put.f (k : Nat) (l0 : List (S44)) : Option (List Int × Int) := (labels_Right.f k l0).bind fun t643 => (if t643 = 0 then ((bits_PutUvarint.f k (IntKind.u64.wrap ((l0.length : Int)))).bind fun t644 => (labels_Put.l0 k t644 l0 (l0.length : Int) 0)) else (some (([] : List Int), t643)))
def labels_Put.T8 : Bool × List (List Nat × List Nat) := (true, [([], []), ([], []), ([1], [1]), ([0, 2], [0, 2]), ([], []), ([4], [4]), ([3, 5, 3], [3, 5]), ([6, 6, 0, 1, 2, 3, 4, 5, 6], [0, 6])])
def labels_Put.B8 : List Nat := [0, 0, 2, 7, 0, 16, 63, 127]
theorem labels_Put.tab8 : rtab .any (opsOf Tryd.f49 8) = labels_Put.T8 := by kernel_rfl
theorem labels_Put.bits8 : waitsOk labels_Put.T8.2 labels_Put.B8 = true := by kernel_rfl
set_option maxHeartbeats 8000000 in
set_option maxRecDepth 100000 in
theorem labels_Put.calls (k : Nat) (A0 : Option Addr) (c0 : Nat) (l0 : List (S44)) (r1 : List Int) (r2 : Int) (w : World) (hT : Aside0 (Tab w)) (hr0 : Kd.C k44 w A0 l0.length l0) (hc0 : l0.length ≤ c0) (h : labels_Put.f k l0 = some (r1, r2)) :
  Calls Tryd.prog 49 #[.slice A0 l0.length c0] w fun e w' => ∃ v0_ : Value, e = .returned (.tuple #[v0_, .int .i64 r2]) ∧ Kd.R (Kd.int .u8) 5 w' w.heap.size (fun _ => True) v0_ r1 ∧ Below w.heap.size w w' := by
 have hu44 := Tryd.underlying44
 have HR0 := Aside0.mk hr0
 have HC0 := Aside0.mk hc0
 clear hr0 hc0
 have HB := Aside0.mk (Below.refl w.heap.size w)
 have H : ((labels_Right.f k l0).bind fun t643 => (if t643 = 0 then ((bits_PutUvarint.f k (IntKind.u64.wrap ((l0.length : Int)))).bind fun t644 => (labels_Put.l0 k t644 l0 (l0.length : Int) 0)) else (some (([] : List Int), t643)))) = some (r1, r2) := h
 clear h
 replace H := Option.bind_eq_some_iff.mp H
 obtain ⟨t643, A20, H⟩ := H
 replace H : (if t643 = 0 then ((bits_PutUvarint.f k (IntKind.u64.wrap ((l0.length : Int)))).bind fun t644 => (labels_Put.l0 k t644 l0 (l0.length : Int) 0)) else (some (([] : List Int), t643))) = some (r1, r2) := H
 have A2 := Aside0.mk A20
 clear A20
 by_cases c3 : t643 = 0
 ·rw [if_pos c3] at H
  have c3b0 : (t643 == 0) = true := beq_iff_eq.mpr c3
  have c3b1 : (t643 != 0) = false := bne_eq_false_iff_eq.mpr c3
  clear c3
  replace H := Option.bind_eq_some_iff.mp H
  obtain ⟨t644, A40, H⟩ := H
  replace H : (labels_Put.l0 k t644 l0 (l0.length : Int) 0) = some (r1, r2) := H
  have A4 := Aside0.mk A40
  clear A40
  have H' := Aside0.mk H
  clear H
  go_enter Tryd.func49, Tryd.ntmps49
  go_wp2_with (first | ((with_reducible refine gate_callee (f := 36) rfl ?_); refine goesL_ (some 9) rfl rfl Tryd.func36 (by kernel_rfl) rfl #[.slice A0 l0.length c0] rfl y2_ ?_; (with_reducible refine (labels_Right.calls k _ _ l0 t643 _ ?side1 ?side2 ?side3 A2.out).mono ?_); (case side1 => exact ⟨Tab_below hT.out y1_⟩); (case side2 => repeat (first | exact HR0.out | (with_reducible refine Kd.C_alloc ?_ _) | (with_reducible refine Kd.C_drewN ?_ _) | (with_reducible refine Kd.C_drew ?_))); (case side3 => exact HC0.out); rintro e w5 ⟨rfl, hb⟩; refine ⟨_, rfl, ?_⟩; have n0_ := Aside0.mk (below_step y1_ hb); clear HB; have HB := n0_; clear n0_; (try clear hb); (try clear hb2); (try clear hk); (try clear hi)) | ((with_reducible refine gate_callee (f := 71) rfl ?_); refine goesL_ (some 16) rfl rfl Tryd.func71 (by kernel_rfl) rfl #[.int .u64 (IntKind.u64.wrap ((l0.length : Int)))] rfl y2_ ?_; (with_reducible refine (bits_PutUvarint.calls k (IntKind.u64.wrap ((l0.length : Int))) t644 _ A4.out).mono ?_); rintro e w6 ⟨v645, rfl, ho0, hb⟩; refine ⟨_, rfl, ?_⟩; have n0_ := Aside0.mk (Kd.R_lower ho0 (below_size y1_)); have n1_ := Aside0.mk (below_step y1_ hb); clear HB; have HO646 := n0_; have HB := n1_; clear n0_ n1_; (try clear hb); (try clear hb2); (try clear hk); (try clear hi); (try clear ho0)))
  go_loopg [5, 19] k (fun kq v5 v19 w' => ∃ (x5_1 : List Int) (x19_1 : Int), v19 = .int .i64 x19_1 ∧ Aside0 (labels_Put.l0 kq x5_1 l0 (l0.length : Int) x19_1 = some (r1, r2)) ∧ Aside0 (kq ≤ k) ∧ Aside0 (Kd.R (Kd.int .u8) 5 w' w.heap.size (fun _ => True) v5 x5_1) ∧ Aside0 (Below w.heap.size w w'))
  case atStart => exact ⟨(t644), (0), y6_, H', ⟨Nat.le_refl _⟩, ⟨by (with_reducible repeat (first | apply Kd.R_alloc | apply Kd.R_drewN | apply Kd.R_drew)); exact HO646.out⟩, ⟨y1_⟩⟩
  case round =>
   clear H'
   try clear p2
   try clear c3
   try clear c3b0
   try clear c3b1
   try clear c4
   obtain ⟨x5_1, x19_1, rfl, HA, HK1, HO_5, HB⟩ := hrel
   cases gk with
   | zero => exact absurd HA.out (by simp [labels_Put.l0])
   | succ k1 =>
    have H := HA.out
    clear HA
    simp only [labels_Put.l0] at H
    by_cases c7 : x19_1 < (l0.length : Int)
    ·rw [if_pos c7] at H
     have c7b0 : decide (x19_1 < (l0.length : Int)) = true := decide_eq_true c7
     clear c7
     by_cases c8 : 0 ≤ x19_1
     ·rw [if_pos c8] at H
      have c8b0 : decide (0 ≤ x19_1) = true := decide_eq_true c8
      clear c8
      by_cases c9 : x19_1 < (l0.length : Int)
      ·rw [if_pos c9] at H
       have c9b0 : decide (x19_1 < (l0.length : Int)) = true := decide_eq_true c9
       clear c9
       replace H := Option.bind_eq_some_iff.mp H
       obtain ⟨t649, A100, H⟩ := H
       replace H : ((labels_sized.f k1 t649 ((rd_T44 l0 x19_1).f1)).bind fun t652 => (labels_Put.l0 k1 t652 l0 (l0.length : Int) (wrap64 (x19_1 + 1)))) = some (r1, r2) := H
       have A10 := Aside0.mk A100
       clear A100
       replace H := Option.bind_eq_some_iff.mp H
       obtain ⟨t652, A110, H⟩ := H
       replace H : (labels_Put.l0 k1 t652 l0 (l0.length : Int) (wrap64 (x19_1 + 1))) = some (r1, r2) := H
       have A11 := Aside0.mk A110
       clear A110
       have H' := Aside0.mk H
       clear H
       have p647 : 0 ≤ (x19_1 : Int) := of_decide_eq_true y3_
       have q647 : x19_1 < (l0.length : Int) := of_decide_eq_true y3_
       obtain ⟨ad647, e647, hx647_0, hx647_1⟩ := at_T44 HR0.out x19_1 p647 q647
       cases e647
       replace hx647_0 := (HB.out.cell (World.block_lt_of_cell? w _ hx647_0)).trans hx647_0
       replace hx647_1 := (HB.out.cell (World.block_lt_of_cell? w _ hx647_1)).trans hx647_1
       replace p647 := eq_true p647
       replace q647 := eq_true q647
       try go_wp2_with (first | ((with_reducible refine gate_dst (N := 7) rfl ?_); refine box_event ?hg (N := 7) ?hd (cs := #[.string (⟨#[]⟩ : ByteArray), .string (⟨#[]⟩ : ByteArray)]) (t := 44) ?hr ?_; (case hd => rfl); (case hg => rfl); (case hr => first | (go_simp; done) | (go_simp; rfl)); intro gb648 hg w12 hbox hb; have n0_ := Aside0.mk (Kd.R_below y36_ hb); have n1_ := Aside0.mk (below_step y1_ hb); have n2_ := Aside0.mk (hbox); have n3_ := Aside0.mk ((y15_ : w.heap.size ≤ gb648)); have n4_ := Aside0.mk ((y15_ : w.heap.size ≤ gb648)); clear HO_5; clear HB; have HO_5 := n0_; have HB := n1_; have BK648 := n2_; have GW648 := n3_; have GE648 := n4_; clear n0_ n1_ n2_ n3_ n4_; clear hb hbox hg; have hcz13_0 : w12.cell? ⟨gb648, 0, none⟩ = some (.string (⟨#[]⟩ : ByteArray)) := (blk_cell BK648.out 0).trans rfl; have hcz13_1 : w12.cell? ⟨gb648, 1, none⟩ = some (.string (⟨#[]⟩ : ByteArray)) := (blk_cell BK648.out 1).trans rfl; have hfz13_0 := blk_frozen BK648.out 0; have hfz13_1 := blk_frozen BK648.out 1))
       have n0_ : Aside0 (Kd.R (Kd.int .u8) 5 ((w12.setCell ⟨gb648, 0, none⟩ (.string ((rd_T44 l0 x19_1).f0))).setCell ⟨gb648, 1, none⟩ (.string ((rd_T44 l0 x19_1).f1))) w.heap.size (fun _ => True) u5 x5_1) := ⟨by (with_reducible repeat (first | apply Kd.R_alloc | apply Kd.R_drewN | apply Kd.R_drew)); exact Kd.R_mono (Kd.R_far (p := ⟨gb648, 1, none⟩) (Kd.R_far (p := ⟨gb648, 0, none⟩) (Kd.R_types HO_5.out BK648.out (by decide)) (fun _ hk => hk.2) (.string ((rd_T44 l0 x19_1).f0))) (fun _ hk => hk.2) (.string ((rd_T44 l0 x19_1).f1))) (fun _ hk => trivial)⟩
       have n1_ : Aside0 (((w12.setCell ⟨gb648, 0, none⟩ (.string ((rd_T44 l0 x19_1).f0))).setCell ⟨gb648, 1, none⟩ (.string ((rd_T44 l0 x19_1).f1))).heap[gb648]? = some (.cells #[.string ((rd_T44 l0 x19_1).f0), .string ((rd_T44 l0 x19_1).f1)] 44 (0, 0))) := ⟨by (with_reducible repeat (first | refine blk_drewN ?_ _ | refine blk_drew ?_ | refine blk_alloc ?_ _)); refine blk_put (cs := #[.string ((rd_T44 l0 x19_1).f0), .string (⟨#[]⟩ : ByteArray)]) ?_ 1 _ rfl; (with_reducible repeat (first | refine blk_drewN ?_ _ | refine blk_drew ?_ | refine blk_alloc ?_ _)); refine blk_put (cs := #[.string (⟨#[]⟩ : ByteArray), .string (⟨#[]⟩ : ByteArray)]) ?_ 0 _ rfl; (with_reducible repeat (first | refine blk_drewN ?_ _ | refine blk_drew ?_ | refine blk_alloc ?_ _)); exact BK648.out⟩
       have n2_ : Aside0 (Below w.heap.size w ((w12.setCell ⟨gb648, 0, none⟩ (.string ((rd_T44 l0 x19_1).f0))).setCell ⟨gb648, 1, none⟩ (.string ((rd_T44 l0 x19_1).f1)))) := ⟨by repeat (first | (with_reducible first | exact HB.out | apply below_alloc | apply pw_below_drewN | apply below_drew1 | refine below_set ?_ GE648.out) | exact HB.out)⟩
       (try clear HO_5)
       (try clear BK648)
       (try clear HB)
       generalize ((w12.setCell ⟨gb648, 0, none⟩ (.string ((rd_T44 l0 x19_1).f0))).setCell ⟨gb648, 1, none⟩ (.string ((rd_T44 l0 x19_1).f1))) = w14 at n0_ n1_ n2_ ⊢
       have HO_5 := n0_
       have BK648 := n1_
       have HB := n2_
       clear n0_ n1_ n2_
       have n0_ := Aside0.mk (Kd.R_drew HO_5.out)
       have n1_ := Aside0.mk (blk_drew BK648.out)
       have n2_ := Aside0.mk (below_drew1 HB.out)
       clear HO_5
       clear BK648
       clear HB
       have HO_5 := n0_
       have BK648 := n1_
       have HB := n2_
       clear n0_ n1_ n2_
       obtain ⟨Ao16, co16, eo16⟩ := Kd.R_slice HO_5.out
       (first | subst eo16 | (injection eo16 with f1_ f2_ f3_; have f4_ := f1_.symm; have f5_ := f3_.symm; clear f1_ f2_ f3_; subst f4_; subst f5_))
       refine start_ (n := 8) (S := fun w' => w'.cell? ⟨gb648, 0, none⟩ = some (.string ((rd_T44 l0 x19_1).f0)) ∧ w'.cell? ⟨gb648, 1, none⟩ = some (.string ((rd_T44 l0 x19_1).f1))) (ds := []) #[false, false, false, false, false, false, false, false] (by kernel_rfl) rfl rfl ⟨(blk_cell BK648.out 0).trans rfl, (blk_cell BK648.out 1).trans rfl⟩ (fun hHeld => ?_); refine with_tabW labels_Put.tab8 labels_Put.bits8 (fun HT_ HW_ => ?_)
       generalize w14.drew = w15 at HO_5 BK648 HB hHeld ⊢
       refine pure_ (i := 0) (N := some 23) (v := ?_) (a' := ?_) #[true, false, false, false, false, false, false, false] rfl rfl (any_of HT_.out (by kernel_rfl)) (fun _ _ _ h => h) (Or.inl ⟨by rfl, ?_⟩) ?_ ?_
       rotate_left
       ·intro w'
        go_simp
        with_reducible rfl
       rotate_left
       ·simp only [Act.put, List.setIfInBounds_toArray, List.set_cons_zero, List.set_cons_succ, i64_w, i32_w]
        rfl
       refine pure_ (i := 1) (N := some 24) (v := ?_) (a' := ?_) #[true, true, false, false, false, false, false, false] rfl rfl (any_of HT_.out (by kernel_rfl)) (fun _ _ _ h => h) (Or.inl ⟨by rfl, ?_⟩) ?_ ?_
       rotate_left
       ·intro w'
        go_simp
        with_reducible rfl
       rotate_left
       ·simp only [Act.put, List.setIfInBounds_toArray, List.set_cons_zero, List.set_cons_succ, i64_w, i32_w]
        rfl
       refine pure_ (i := 4) (N := some 27) (v := ?_) (a' := ?_) #[true, true, false, false, true, false, false, false] rfl rfl (any_of HT_.out (by kernel_rfl)) (fun _ _ _ h => h) (Or.inl ⟨by rfl, ?_⟩) ?_ ?_
       rotate_left
       ·intro w'
        go_simp
        with_reducible rfl
       rotate_left
       ·simp only [Act.put, List.setIfInBounds_toArray, List.set_cons_zero, List.set_cons_succ, i64_w, i32_w]
        rfl
       refine take_ (i := 2) (N := some 25) (v := ?_) (a' := ?_) #[true, true, true, false, true, false, false, false] rfl rfl (take_ofW HT_.out HW_.out (by kernel_rfl)) (fun _ _ _ h => h) (Or.inl ⟨by rfl, ?_⟩) hHeld ?_ ?_
       rotate_left
       ·rintro w' ⟨s0, s1⟩
        go_simp
        with_reducible rfl
       rotate_left
       ·simp only [Act.put, List.setIfInBounds_toArray, List.set_cons_zero, List.set_cons_succ, i64_w, i32_w]
        rfl
       refine take_ (i := 5) (N := some 28) (v := ?_) (a' := ?_) #[true, true, true, false, true, true, false, false] rfl rfl (take_ofW HT_.out HW_.out (by kernel_rfl)) (fun _ _ _ h => h) (Or.inl ⟨by rfl, ?_⟩) hHeld ?_ ?_
       rotate_left
       ·rintro w' ⟨s0, s1⟩
        go_simp
        with_reducible rfl
       rotate_left
       ·simp only [Act.put, List.setIfInBounds_toArray, List.set_cons_zero, List.set_cons_succ, i64_w, i32_w]
        rfl
       refine one_ (i := 3) (N := some 26) #[true, true, true, true, true, true, false, false] rfl rfl (one_of HT_.out (by kernel_rfl)) (by decide) (fun K hK => ?_)
       refine goes_ Tryd.func72 (by kernel_rfl) rfl #[.slice Ao16 x5_1.length co16, .string ((rd_T44 l0 x19_1).f0)] (by rfl) rfl rfl y2_ ?_
       with_reducible refine (labels_sized.calls k1 (fun k_ => some k_ = (.slice Ao16 x5_1.length co16 : Value).ownBlock) (.slice Ao16 x5_1.length co16) x5_1 ((rd_T44 l0 x19_1).f0) t649 w _ ?side1 ?side2 A10.out).mono ?_
       (case side1 => repeat (first | (with_reducible first | exact HB.out | apply below_alloc | apply pw_below_drewN | apply below_drew1 | refine below_set ?_ GE648.out) | exact HB.out))
       (case side2 => exact Kd.R_tight rfl HO_5.out)
       rintro e w17 ⟨v650, rfl, ho0, hb, hkp⟩
       refine ⟨_, rfl, ?_⟩
       have n0_ := Aside0.mk (blk_kept (by (with_reducible repeat (first | refine blk_drewN ?_ _ | refine blk_drew ?_ | refine blk_alloc ?_ _)); exact BK648.out) hkp (fun hs_ => (fun e_ => (Kd.R_ne HO_5.out BK648.out (by decide)) e_) hs_))
       have n1_ := Aside0.mk (Kd.R_mono (ok' := fun k_ => True) ho0 (fun k_ hk_ => trivial))
       have n2_ := Aside0.mk (hb)
       clear BK648
       clear HB
       clear HO_5
       have BK648 := n0_
       have HO651 := n1_
       have HB := n2_
       clear n0_ n1_ n2_
       (try clear hb)
       (try clear hkp)
       (try clear ho0)
       obtain ⟨Ao18, co18, eo18⟩ := Kd.R_slice HO651.out
       (first | subst eo18 | (injection eo18 with f1_ f2_ f3_; have f4_ := f1_.symm; have f5_ := f3_.symm; clear f1_ f2_ f3_; subst f4_; subst f5_))
       refine hK.out _ _ ⟨(blk_cell BK648.out 0).trans rfl, (blk_cell BK648.out 1).trans rfl⟩ (fun hHeld => ?_)
       clear hK K
       refine norm_ (a' := ?_) ?_ ?_
       rotate_left
       ·show Act.put _ (some 26) _ = _
        simp only [Act.put, List.setIfInBounds_toArray, List.set_cons_zero, List.set_cons_succ, i64_w, i32_w]
        rfl
       refine one_ (i := 6) (N := some 29) #[true, true, true, true, true, true, true, false] rfl rfl (one_of HT_.out (by kernel_rfl)) (by decide) (fun K hK => ?_)
       refine goes_ Tryd.func72 (by kernel_rfl) rfl #[.slice Ao18 t649.length co18, .string ((rd_T44 l0 x19_1).f1)] (by rfl) rfl rfl y2_ ?_
       with_reducible refine (labels_sized.calls k1 (fun k_ => some k_ = (.slice Ao18 t649.length co18 : Value).ownBlock) (.slice Ao18 t649.length co18) t649 ((rd_T44 l0 x19_1).f1) t652 w _ ?side1 ?side2 A11.out).mono ?_
       (case side1 => repeat (first | (with_reducible first | exact HB.out | apply below_alloc | apply pw_below_drewN | apply below_drew1 | refine below_set ?_ GE648.out) | exact HB.out))
       (case side2 => exact Kd.R_tight rfl HO651.out)
       rintro e w19 ⟨v653, rfl, ho0, hb, hkp⟩
       refine ⟨_, rfl, ?_⟩
       have n0_ := Aside0.mk (blk_kept (by (with_reducible repeat (first | refine blk_drewN ?_ _ | refine blk_drew ?_ | refine blk_alloc ?_ _)); exact BK648.out) hkp (fun hs_ => (fun e_ => (Kd.R_ne HO651.out BK648.out (by decide)) e_) hs_))
       have n1_ := Aside0.mk (Kd.R_mono (ok' := fun k_ => True) ho0 (fun k_ hk_ => trivial))
       have n2_ := Aside0.mk (hb)
       clear BK648
       clear HB
       clear HO651
       have BK648 := n0_
       have HO654 := n1_
       have HB := n2_
       clear n0_ n1_ n2_
       (try clear hb)
       (try clear hkp)
       (try clear ho0)
       refine hK.out _ _ ⟨(blk_cell BK648.out 0).trans rfl, (blk_cell BK648.out 1).trans rfl⟩ (fun hHeld => ?_)
       clear hK K
       refine norm_ (a' := ?_) ?_ ?_
       rotate_left
       ·show Act.put _ (some 29) _ = _
        simp only [Act.put, List.setIfInBounds_toArray, List.set_cons_zero, List.set_cons_succ, i64_w, i32_w]
        rfl
       refine pure_ (i := 7) (N := some 5) (v := ?_) (a' := ?_) #[true, true, true, true, true, true, true, true] rfl rfl (any_of HT_.out (by kernel_rfl)) (fun _ _ _ h => h) (Or.inl ⟨by rfl, ?_⟩) ?_ ?_
       rotate_left
       ·intro w'
        go_simp
        with_reducible rfl
       rotate_left
       ·simp only [Act.put, List.setIfInBounds_toArray, List.set_cons_zero, List.set_cons_succ, i64_w, i32_w]
        rfl
       refine done_ (done_of HT_.out (by kernel_rfl)) ?_
       try go_wp2
       go_roundg k1
       case measure => have := HK1.out; omega
       case rel => exact ⟨(t652), (wrap64 (x19_1 + 1)), y6_, H', ⟨y53_⟩, ⟨by (with_reducible repeat (first | apply Kd.R_alloc | apply Kd.R_drewN | apply Kd.R_drew)); exact HO654.out⟩, ⟨by repeat (first | (with_reducible first | exact HB.out | apply below_alloc | apply pw_below_drewN | apply below_drew1 | refine below_set ?_ GE648.out) | exact HB.out)⟩⟩
      ·rw [if_neg c9] at H
       exact absurd H (by simp)
     ·rw [if_neg c8] at H
      exact absurd H (by simp)
    ·rw [if_neg c7] at H
     have c7b0 : decide (x19_1 < (l0.length : Int)) = false := decide_eq_false c7
     clear c7
     simp only [Option.some.injEq, Prod.mk.injEq] at H
     obtain ⟨rfl, rfl⟩ := H
     go_wp2
     go_ret2
     exact ⟨_, y7_, y36_, y1_⟩
 ·rw [if_neg c3] at H
  have c3b0 : (t643 == 0) = false := beq_eq_false_iff_ne.mpr c3
  have c3b1 : (t643 != 0) = true := bne_iff_ne.mpr c3
  simp only [Option.some.injEq, Prod.mk.injEq] at H
  obtain ⟨rfl, rfl⟩ := H
  go_enter Tryd.func49, Tryd.ntmps49
  go_wp2_with (first | ((with_reducible refine gate_callee (f := 36) rfl ?_); refine goesL_ (some 9) rfl rfl Tryd.func36 (by kernel_rfl) rfl #[.slice A0 l0.length c0] rfl y2_ ?_; (with_reducible refine (labels_Right.calls k _ _ l0 t643 _ ?side1 ?side2 ?side3 A2.out).mono ?_); (case side1 => exact ⟨Tab_below hT.out y1_⟩); (case side2 => repeat (first | exact HR0.out | (with_reducible refine Kd.C_alloc ?_ _) | (with_reducible refine Kd.C_drewN ?_ _) | (with_reducible refine Kd.C_drew ?_))); (case side3 => exact HC0.out); rintro e w20 ⟨rfl, hb⟩; refine ⟨_, rfl, ?_⟩; have n0_ := Aside0.mk (below_step y1_ hb); clear HB; have HB := n0_; clear n0_; (try clear hb); (try clear hb2); (try clear hk); (try clear hi)))
  go_ret2
  exact ⟨_, y7_, y11_, y1_⟩
def manometerref01_PutUvarint.l0 : Nat → Int → List Int → Option (List Int)
 | 0, _, _ => none
 | k + 1, x0, x3 => if x0 ≥ 128 then (if x3.length < 140737488355328 then (manometerref01_PutUvarint.l0 k (IntKind.u64.wrap (Int.tdiv x0 128)) (x3 ++ [((Int.tmod x0 128) + 128) % 256])) else (none)) else (if x3.length < 140737488355328 then (some (x3 ++ [(x0) % 256])) else (none))
def manometerref01_PutUvarint.f (k : Nat) (a0 : Int) : Option (List Int) := manometerref01_PutUvarint.l0 k a0 (([] : List Int))
def manometerref05_sized.f (k : Nat) (a0 : ByteArray) : Option (List Int) := (manometerref01_PutUvarint.f k (IntKind.u64.wrap ((a0.size : Int)))).bind fun t664 => (if a0.size ≤ 9223372036854775807 then ((manometerref01_Join.f k (([t664, (bytesOf a0)] : List (List Int)))).bind fun t673 => (some t673)) else (none))
def manometerref05_Put.l0 : Nat → List Int → List (S44) → Int → Int → Option (List Int × Int)
 | 0, _, _, _, _ => none
 | k + 1, x5, x17, x18, x19 => if x19 < x18 then (if 0 ≤ x19 then (if x19 < (x17.length : Int) then ((manometerref05_sized.f k ((rd_T44 x17 x19).f0)).bind fun t682 => ((manometerref05_sized.f k ((rd_T44 x17 x19).f1)).bind fun t685 => ((manometerref01_Join.f k (([x5, t682, t685] : List (List Int)))).bind fun t691 => (manometerref05_Put.l0 k t691 x17 x18 (wrap64 (x19 + 1)))))) else (none)) else (none)) else (some (x5, 0))
def manometerref05_Put.f (k : Nat) (l0 : List (S44)) : Option (List Int × Int) := (manometerref05_Right.f k l0).bind fun t676 => (if t676 = 0 then ((manometerref01_PutUvarint.f k (IntKind.u64.wrap ((l0.length : Int)))).bind fun t677 => (manometerref05_Put.l0 k t677 l0 (l0.length : Int) 0)) else (some (([] : List Int), t676)))
end Go.Proofs.YtdhmabofncbohaaDoor.PLC
end
section
namespace Go.Proofs.YtdhmabofncbohaaDoor.PLC
open Go.RowKit Go.Proofs.YtdhmabofncbohaaDoorW.PrintWords Go.Proofs.YtdhmabofncbohaaDoorW.PrintLast Go.Proofs.YtdhmabofncbohaaDoorW.PrintMore
attribute [local go_sem] max2_int min2_int max_two min_two max_three min_three max_four min_four
set_option linter.unusedVariables false
set_option linter.unusedSimpArgs false
def manometerref01_Equal.l0 : Nat → List Int → List Int → Int → Int → Option (Bool)
 | 0, _, _, _, _ => none
 | k + 1, x0, x1, x12, x13 => if x13 < x12 then (if 0 ≤ x13 then (if x13 < (x0.length : Int) then (if x13 < (x1.length : Int) then (if (rd x0 x13) = (rd x1 x13) then (manometerref01_Equal.l0 k x0 x1 x12 (wrap64 (x13 + 1))) else (some false)) else (none)) else (none)) else (none)) else (some true)
def manometerref01_Equal.f (k : Nat) (l0 : List Int) (l1 : List Int) : Option (Bool) := if (l0.length : Int) = (l1.length : Int) then (manometerref01_Equal.l0 k l0 l1 (l0.length : Int) 0) else (some false)
set_option maxHeartbeats 8000000 in
set_option maxRecDepth 100000 in
theorem manometerref01_Equal.calls (k : Nat) (A0 : Option Addr) (c0 : Nat) (l0 : List Int) (A1 : Option Addr) (c1 : Nat) (l1 : List Int) (r : Bool) (w : World) (hr0 : Kd.C (Kd.int .u8) w A0 l0.length l0) (hc0 : l0.length ≤ c0) (hr1 : Kd.C (Kd.int .u8) w A1 l1.length l1) (hc1 : l1.length ≤ c1) (h : manometerref01_Equal.f k l0 l1 = some r) :
  Calls Tryd.prog 53 #[.slice A0 l0.length c0, .slice A1 l1.length c1] w fun e w' => e = .returned (.bool r) ∧ Drawn0 w w' := by
 have HR0 := Aside0.mk hr0
 have HC0 := Aside0.mk hc0
 clear hr0 hc0
 have HR1 := Aside0.mk hr1
 have HC1 := Aside0.mk hc1
 clear hr1 hc1
 have H : (if (l0.length : Int) = (l1.length : Int) then (manometerref01_Equal.l0 k l0 l1 (l0.length : Int) 0) else (some false)) = some r := h
 clear h
 by_cases c3 : (l0.length : Int) = (l1.length : Int)
 ·rw [if_pos c3] at H
  have c3b0 : ((l0.length : Int) == (l1.length : Int)) = true := beq_iff_eq.mpr c3
  have c3b1 : ((l0.length : Int) != (l1.length : Int)) = false := bne_eq_false_iff_eq.mpr c3
  have c3b2 : (l0.length == l1.length) = true := by first | simpa using c3 | (simp at c3 ⊢; omega)
  clear c3
  have H' := Aside0.mk H
  clear H
  go_enter Tryd.func53, Tryd.ntmps53
  go_wp2
  repeat (go_quiet (fail); try go_wp2)
  go_loopg [13] k (fun kq v13 w' => ∃ (x13_1 : Int), v13 = .int .i64 x13_1 ∧ Aside0 (manometerref01_Equal.l0 kq l0 l1 (l0.length : Int) x13_1 = some r) ∧ Aside0 (kq ≤ k) ∧ Drawn0 w w')
  case atStart => exact ⟨(0), y6_, H', ⟨Nat.le_refl _⟩, y8_⟩
  case round =>
   clear H'
   try clear c1
   try clear p2
   try clear c3
   try clear c3b0
   try clear c3b1
   try clear c3b2
   obtain ⟨x13_1, rfl, HA, HK1, ⟨m1, rfl⟩⟩ := hrel
   cases gk with
   | zero => exact absurd HA.out (by simp [manometerref01_Equal.l0])
   | succ k1 =>
    have H := HA.out
    clear HA
    simp only [manometerref01_Equal.l0] at H
    by_cases c4 : x13_1 < (l0.length : Int)
    ·rw [if_pos c4] at H
     have c4b0 : decide (x13_1 < (l0.length : Int)) = true := decide_eq_true c4
     clear c4
     by_cases c5 : 0 ≤ x13_1
     ·rw [if_pos c5] at H
      have c5b0 : decide (0 ≤ x13_1) = true := decide_eq_true c5
      clear c5
      by_cases c6 : x13_1 < (l0.length : Int)
      ·rw [if_pos c6] at H
       have c6b0 : decide (x13_1 < (l0.length : Int)) = true := decide_eq_true c6
       clear c6
       by_cases c7 : x13_1 < (l1.length : Int)
       ·rw [if_pos c7] at H
        have c7b0 : decide (x13_1 < (l1.length : Int)) = true := decide_eq_true c7
        clear c7
        by_cases c8 : (rd l0 x13_1) = (rd l1 x13_1)
        ·rw [if_pos c8] at H
         have c8b0 : ((rd l0 x13_1) == (rd l1 x13_1)) = true := beq_iff_eq.mpr c8
         have c8b1 : ((rd l0 x13_1) != (rd l1 x13_1)) = false := bne_eq_false_iff_eq.mpr c8
         clear c8
         have H' := Aside0.mk H
         clear H
         have p761 : 0 ≤ (x13_1 : Int) := of_decide_eq_true y3_
         have q761 : x13_1 < (l0.length : Int) := of_decide_eq_true y3_
         obtain ⟨ad761, e761, hx761_0⟩ := Kd.at_int HR0.out x13_1 p761 q761
         cases e761
         replace p761 := eq_true p761
         replace q761 := eq_true q761
         have p762 : 0 ≤ (x13_1 : Int) := of_decide_eq_true y3_
         have q762 : x13_1 < (l1.length : Int) := of_decide_eq_true y3_
         obtain ⟨ad762, e762, hx762_0⟩ := Kd.at_int HR1.out x13_1 p762 q762
         cases e762
         replace p762 := eq_true p762
         replace q762 := eq_true q762
         go_wp2
         repeat (go_quiet (fail); try go_wp2)
         go_roundg k1
         case measure => have := HK1.out; omega
         case rel => exact ⟨(wrap64 (x13_1 + 1)), y6_, H', ⟨y53_⟩, y8_⟩
        ·rw [if_neg c8] at H
         have c8b0 : ((rd l0 x13_1) == (rd l1 x13_1)) = false := beq_eq_false_iff_ne.mpr c8
         have c8b1 : ((rd l0 x13_1) != (rd l1 x13_1)) = true := bne_iff_ne.mpr c8
         obtain rfl := Option.some.inj H
         have p761 : 0 ≤ (x13_1 : Int) := of_decide_eq_true y3_
         have q761 : x13_1 < (l0.length : Int) := of_decide_eq_true y3_
         obtain ⟨ad761, e761, hx761_0⟩ := Kd.at_int HR0.out x13_1 p761 q761
         cases e761
         replace p761 := eq_true p761
         replace q761 := eq_true q761
         have p762 : 0 ≤ (x13_1 : Int) := of_decide_eq_true y3_
         have q762 : x13_1 < (l1.length : Int) := of_decide_eq_true y3_
         obtain ⟨ad762, e762, hx762_0⟩ := Kd.at_int HR1.out x13_1 p762 q762
         cases e762
         replace p762 := eq_true p762
         replace q762 := eq_true q762
         go_wp2
         repeat (go_quiet (fail); try go_wp2)
         go_ret
         exact ⟨y13_, y8_⟩
       ·rw [if_neg c7] at H
        exact absurd H (by simp)
      ·rw [if_neg c6] at H
       exact absurd H (by simp)
     ·rw [if_neg c5] at H
      exact absurd H (by simp)
    ·rw [if_neg c4] at H
     have c4b0 : decide (x13_1 < (l0.length : Int)) = false := decide_eq_false c4
     clear c4
     obtain rfl := Option.some.inj H
     go_wp2
     repeat (go_quiet (fail); try go_wp2)
     go_ret
     exact ⟨y13_, y8_⟩
 ·rw [if_neg c3] at H
  have c3b0 : ((l0.length : Int) == (l1.length : Int)) = false := beq_eq_false_iff_ne.mpr c3
  have c3b1 : ((l0.length : Int) != (l1.length : Int)) = true := bne_iff_ne.mpr c3
  have c3b2 : (l0.length == l1.length) = false := by first | simpa using c3 | (simp at c3 ⊢; omega)
  obtain rfl := Option.some.inj H
  go_enter Tryd.func53, Tryd.ntmps53
  go_wp2
  repeat (go_quiet (fail); try go_wp2)
  go_ret
  exact ⟨y13_, y8_⟩
end Go.Proofs.YtdhmabofncbohaaDoor.PLC
end
section
namespace Go.Proofs.YtdhmabofncbohaaDoor.Pu
open Go Go.RowKit Go.Proofs.YtdhmabofncbohaaDoor Go.Proofs.YtdhmabofncbohaaDoor.PLC Go.Proofs.YtdhmabofncbohaaDoorW.PrintWords Go.Proofs.YtdhmabofncbohaaDoorW.PrintLast Go.Proofs.YtdhmabofncbohaaDoorW.PrintMore Bq
set_option linter.unusedVariables false
set_option linter.unusedSimpArgs false
theorem rdI (xs : List Int) (n : Nat) : rd xs (n : Int) = xs.getD n 0 := by unfold rd; rw [Int.toNat_natCast]
theorem w7 (n : Nat) (h : n < 10) : IntKind.u64.wrap (wrap64 (7 * (n : Int))) = ((7 * n : Nat) : Int) := by
  rw [wn (n := 7 * n) (by omega) (by omega), wraps_u64n _ (by omega) (by omega)]
theorem shl7 (v : Int) (n : Nat) (h : n < 10) : shl .u64 v ((7 * n : Nat) : Int) = IntKind.u64.wrap (v * 2 ^ (7 * n)) := by
  unfold shl
  rw [Int.toNat_natCast, Nat.min_eq_left (by show 7 * n ≤ 64; omega)]
theorem Uv_j1 (b : List Int) (hb : Byts b) (hs : b.length ≤ 1000000000000) (n acc : Nat) (hn : n < 10) (hlt : n < b.length) (h9 : ¬ (n = 9 ∧ 1 < b.getD n 0)) (ha : acc < 128 ^ n)
    (ih : ∀ acc' : Nat, acc' < 128 ^ (n + 1) → Ev (fun k => bits_Uvarint.l0 k b (acc' : Int) ((n + 1 : Nat) : Int)) (ug (n + 1) acc' (b.drop (n + 1)))) :
    Ev (fun k => bits_Uvarint.j1 k b (acc : Int) (n : Int)) (ug n acc (b.drop n)) := by
  obtain ⟨x0, x1⟩ := byt_get hb n hlt
  rw [drop_rd b n hlt]
  refine Ev.step (f := _) (fun k => by simp only [bits_Uvarint.j1]; rfl) ?_
  have e1 : (0 : Int) ≤ (n : Int) := by omega
  have e2 : (n : Int) < (b.length : Int) := by omega
  have e4 : (0 : Int) ≤ ((7 * n : Nat) : Int) := by omega
  obtain ⟨v1, v2⟩ := val_bd n acc _ hn x0 x1 h9 ha
  have hv := or_val n acc _ hn x0 x1 h9 ha
  have hw : IntKind.u64.wrap (b.getD n 0 % 128) = b.getD n 0 % 128 := wraps_u64n _ (by omega) (by omega)
  have hm := and127n _ x0 x1
  simp only [if_pos e1, if_pos e2, rdI, w7 n hn, if_pos e4, hm, hw, shl7 _ n hn, hv, w1 n (by omega)]
  clear hv hw hm
  generalize b.getD n 0 = x at *
  by_cases h128 : x < 128
  · simp only [if_pos h128]
    by_cases hp : 0 < n
    · simp only [if_pos (show (n : Int) > 0 by omega)]
      by_cases hx : x = 0
      · simp only [if_pos hx]
        rw [hx, g_form n acc _ hn hp]
        exact Ev.now _
      · simp only [if_neg hx]
        rw [g_end n acc x _ hn h9 h128 (by omega), sum_val n acc x x0 h128]
        exact Ev.now _
    · simp only [if_neg (show ¬ (n : Int) > 0 by omega)]
      rw [g_end n acc x _ hn h9 h128 (by omega), sum_val n acc x x0 h128]
      exact Ev.now _
  · simp only [if_neg h128]
    rw [g_more n acc x _ hn h9 h128, ← more_val n acc x (by omega) x1]
    exact ih _ v1
theorem Uv_l0 (b : List Int) (hb : Byts b) (hs : b.length ≤ 1000000000000) : ∀ (d n acc : Nat), n + d = 10 → acc < 128 ^ n → Ev (fun k => bits_Uvarint.l0 k b (acc : Int) (n : Int)) (ug n acc (b.drop n))
  | d, n, acc, hd, ha => by
    refine Ev.step (f := _) (fun k => by simp only [bits_Uvarint.l0]; rfl) ?_
    by_cases hn : n < 10
    · obtain ⟨d, rfl⟩ : ∃ e, d = e + 1 := ⟨d - 1, by omega⟩
      simp only [if_pos (show (n : Int) < 10 by omega)]
      by_cases hlt : n < b.length
      · have e1 : (0 : Int) ≤ (n : Int) := by omega
        have e2 : (n : Int) < (b.length : Int) := by omega
        have ih := fun (acc' : Nat) h => Uv_l0 b hb hs d (n + 1) acc' (by omega) h
        simp only [if_neg (show ¬ (n : Int) ≥ (b.length : Int) by omega), if_pos e1, if_pos e2, rdI]
        by_cases h9 : n = 9
        · simp only [if_pos (show (n : Int) = 9 by omega)]
          by_cases hx : b.getD n 0 > 1
          · simp only [if_pos hx]
            rw [drop_rd b n hlt]
            subst h9
            rw [g_stop9 acc _ _ hx]
            exact Ev.now _
          · simp only [if_neg hx]
            exact Uv_j1 b hb hs n acc hn hlt (fun h => hx h.2) ha ih
        · simp only [if_neg (show ¬ (n : Int) = 9 by omega)]
          exact Uv_j1 b hb hs n acc hn hlt (fun h => h9 h.1) ha ih
      · simp only [if_pos (show (n : Int) ≥ (b.length : Int) by omega)]
        rw [List.drop_of_length_le (by omega), g_short n acc hn]
        exact Ev.now _
    · simp only [if_neg (show ¬ (n : Int) < 10 by omega)]
      rw [g_over n acc _ (by omega)]
      exact Ev.now _
theorem RUv_j1 (b : List Int) (hb : Byts b) (hs : b.length ≤ 1000000000000) (n acc : Nat) (hn : n < 10) (hlt : n < b.length) (h9 : ¬ (n = 9 ∧ 1 < b.getD n 0)) (ha : acc < 128 ^ n)
    (ih : ∀ acc' : Nat, acc' < 128 ^ (n + 1) → Ev (fun k => manometerref01_Uvarint.l0 k b (acc' : Int) ((n + 1 : Nat) : Int)) (ug (n + 1) acc' (b.drop (n + 1)))) :
    Ev (fun k => manometerref01_Uvarint.j1 k b (acc : Int) (n : Int) (n : Int) false) (ug n acc (b.drop n)) := by
  obtain ⟨x0, x1⟩ := byt_get hb n hlt
  rw [drop_rd b n hlt]
  refine Ev.step (f := _) (fun k => by simp only [manometerref01_Uvarint.j1]; rfl) ?_
  have e1 : (0 : Int) ≤ (n : Int) := by omega
  have e2 : (n : Int) < (b.length : Int) := by omega
  have e4 : (0 : Int) ≤ ((7 * n : Nat) : Int) := by omega
  obtain ⟨v1, v2⟩ := val_bd n acc _ hn x0 x1 h9 ha
  have hv := add_val n acc _ hn x0 x1 h9 ha
  have hw : IntKind.u64.wrap (b.getD n 0 % 128) = b.getD n 0 % 128 := wraps_u64n _ (by omega) (by omega)
  have hm : Int.tmod (b.getD n 0) 128 = b.getD n 0 % 128 := Int.tmod_eq_emod_of_nonneg x0
  simp only [Bool.false_eq_true, if_false, if_pos e1, if_pos e2, rdI, w7 n hn, if_pos e4, hm, hw, shl7 _ n hn, hv, w1 n (by omega)]
  clear hv hw hm
  generalize b.getD n 0 = x at *
  by_cases h128 : x < 128
  · simp only [if_pos h128]
    by_cases hp : 0 < n
    · simp only [if_pos (show (n : Int) > 0 by omega)]
      by_cases hx : x = 0
      · simp only [if_pos hx]
        rw [hx, g_form n acc _ hn hp]
        exact Ev.now _
      · simp only [if_neg hx]
        rw [g_end n acc x _ hn h9 h128 (by omega), sum_val n acc x x0 h128]
        exact Ev.now _
    · simp only [if_neg (show ¬ (n : Int) > 0 by omega)]
      rw [g_end n acc x _ hn h9 h128 (by omega), sum_val n acc x x0 h128]
      exact Ev.now _
  · simp only [if_neg h128]
    rw [g_more n acc x _ hn h9 h128, ← more_val n acc x (by omega) x1]
    exact ih _ v1
theorem RUv_l0 (b : List Int) (hb : Byts b) (hs : b.length ≤ 1000000000000) : ∀ (d n acc : Nat), n + d = 10 → n ≤ b.length → acc < 128 ^ n → Ev (fun k => manometerref01_Uvarint.l0 k b (acc : Int) (n : Int)) (ug n acc (b.drop n))
  | d, n, acc, hd, hnb, ha => by
    refine Ev.step (f := _) (fun k => by simp only [manometerref01_Uvarint.l0]; rfl) ?_
    by_cases hn : n < 10
    · obtain ⟨d, rfl⟩ : ∃ e, d = e + 1 := ⟨d - 1, by omega⟩
      simp only [if_pos (show (n : Int) < 10 by omega)]
      by_cases hlt : n < b.length
      · have e1 : (0 : Int) ≤ (n : Int) := by omega
        have e2 : (n : Int) < (b.length : Int) := by omega
        have ih := fun (acc' : Nat) h => RUv_l0 b hb hs d (n + 1) acc' (by omega) (by omega) h
        simp only [if_neg (show ¬ (n : Int) = (b.length : Int) by omega), if_pos e1, if_pos e2, rdI]
        by_cases h9 : n = 9
        · simp only [if_pos (show (n : Int) = 9 by omega)]
          by_cases hx : b.getD n 0 > 1
          · rw [decide_eq_true hx]
            refine Ev.step (f := _) (fun k => by simp only [manometerref01_Uvarint.j1]; rfl) ?_
            simp only [if_true]
            rw [drop_rd b n hlt]
            subst h9
            rw [g_stop9 acc _ _ hx]
            exact Ev.now _
          · rw [decide_eq_false hx]
            exact RUv_j1 b hb hs n acc hn hlt (fun h => hx h.2) ha ih
        · simp only [if_neg (show ¬ (n : Int) = 9 by omega)]
          exact RUv_j1 b hb hs n acc hn hlt (fun h => h9 h.1) ha ih
      · simp only [if_pos (show (n : Int) = (b.length : Int) by omega)]
        rw [List.drop_of_length_le (by omega), g_short n acc hn]
        exact Ev.now _
    · simp only [if_neg (show ¬ (n : Int) < 10 by omega)]
      rw [g_over n acc _ (by omega)]
      exact Ev.now _
theorem Uvarint_ev (b : List Int) (hb : Byts b) (hs : b.length ≤ 1000000000000) : Ev (fun k => bits_Uvarint.f k b) (uget b) ∧ Ev (fun k => manometerref01_Uvarint.f k b) (uget b) :=
  ⟨Uv_l0 b hb hs 10 0 0 rfl (by decide), RUv_l0 b hb hs 10 0 0 rfl (Nat.zero_le _) (by decide)⟩
theorem PutU_l0 (n : Nat) : ∀ acc : List Int, acc.length + (uv n).length ≤ 1000000000000 → Ev (fun k => bits_PutUvarint.l0 k (n : Int) acc) (acc ++ Bq.ints (uv n)) := by
  induction n using Nat.strongRecOn with
  | _ n ih =>
    intro acc hl
    refine Ev.step (f := _) (fun k => by simp only [bits_PutUvarint.l0]; rfl) ?_
    have hp := uv_pos n
    simp only [if_pos (show acc.length < 140737488355328 by omega)]
    by_cases h : n < 128
    · simp only [if_neg (show ¬ (n : Int) > 127 by omega)]
      rw [uv_small n h, show (n : Int) % 256 = (n : Int) by omega]
      exact Ev.now _
    · simp only [if_pos (show (n : Int) > 127 by omega)]
      have e : (n : Int) % 256 = ((n % 256 : Nat) : Int) := by omega
      rw [uv_big n (by omega), List.length_cons] at hl
      rw [e, or128n _ (by omega), show n % 256 % 128 = n % 128 by omega, show (n : Int) / 128 = ((n / 128 : Nat) : Int) by omega]
      have := ih (n / 128) (by omega) (acc ++ [((n % 128 + 128 : Nat) : Int)]) (by rw [List.length_append, List.length_singleton]; omega)
      rw [List.append_assoc] at this
      rw [uv_big n (by omega)]
      exact this
theorem RPutU_l0 (n : Nat) : ∀ acc : List Int, n < 18446744073709551616 → acc.length + (uv n).length ≤ 1000000000000 → Ev (fun k => manometerref01_PutUvarint.l0 k (n : Int) acc) (acc ++ Bq.ints (uv n)) := by
  induction n using Nat.strongRecOn with
  | _ n ih =>
    intro acc hn hl
    refine Ev.step (f := _) (fun k => by simp only [manometerref01_PutUvarint.l0]; rfl) ?_
    have hp := uv_pos n
    simp only [if_pos (show acc.length < 140737488355328 by omega)]
    by_cases h : n < 128
    · simp only [if_neg (show ¬ (n : Int) ≥ 128 by omega)]
      rw [uv_small n h, show (n : Int) % 256 = (n : Int) by omega]
      exact Ev.now _
    · simp only [if_pos (show (n : Int) ≥ 128 by omega)]
      rw [uv_big n (by omega), List.length_cons] at hl
      rw [Int.tmod_eq_emod_of_nonneg (by omega), Int.tdiv_eq_ediv_of_nonneg (by omega), show ((n : Int) % 128 + 128) % 256 = ((n % 128 + 128 : Nat) : Int) by omega, show (n : Int) / 128 = ((n / 128 : Nat) : Int) by omega, wraps_u64n _ (by omega) (by omega)]
      have := ih (n / 128) (by omega) (acc ++ [((n % 128 + 128 : Nat) : Int)]) (by omega) (by rw [List.length_append, List.length_singleton]; omega)
      rw [List.append_assoc] at this
      rw [uv_big n (by omega)]
      exact this
theorem PutUvarint_ev (n : Nat) (hn : n < 18446744073709551616) : Ev (fun k => bits_PutUvarint.f k (n : Int)) (Bq.ints (uv n)) ∧ Ev (fun k => manometerref01_PutUvarint.f k (n : Int)) (Bq.ints (uv n)) := by
  have h := uv_len10 n hn
  have h1 := PutU_l0 n [] (by simp; omega)
  have h2 := RPutU_l0 n [] hn (by simp; omega)
  exact ⟨h1, h2⟩
theorem rdL (l : List (List Int)) (n : Nat) : rd_L5 l (n : Int) = l.getD n [] := by unfold rd_L5; rw [Int.toNat_natCast]
theorem Join_l0 (ps : List (List Int)) (hp : ps.length ≤ 1000000) : ∀ (d n : Nat) (acc : List Int), n + d = ps.length → acc.length + (ps.drop n).flatten.length ≤ 100000000000 → Ev (fun k => manometerref01_Join.l0 k acc ps (ps.length : Int) (n : Int)) (acc ++ (ps.drop n).flatten)
  | d, n, acc, hd, hl => by
    refine Ev.step (f := _) (fun k => by simp only [manometerref01_Join.l0]; rfl) ?_
    by_cases hlt : n < ps.length
    · obtain ⟨d, rfl⟩ : ∃ e, d = e + 1 := ⟨d - 1, by omega⟩
      have e1 : (n : Int) < (ps.length : Int) := by omega
      have e2 : (0 : Int) ≤ (n : Int) := by omega
      have e3 : ps.drop n = ps.getD n [] :: ps.drop (n + 1) := by
        rw [List.drop_eq_getElem_cons hlt, List.getD_eq_getElem?_getD, List.getElem?_eq_getElem hlt]
        rfl
      rw [e3, List.flatten_cons, List.length_append] at hl
      have e4 : acc.length + (ps.getD n []).length < 140737488355328 := by omega
      simp only [if_pos e1, if_pos e2, rdL, if_pos e4, w1 n (by omega)]
      rw [e3, List.flatten_cons, ← List.append_assoc]
      exact Join_l0 ps hp d (n + 1) _ (by omega) (by rw [List.length_append]; omega)
    · simp only [if_neg (show ¬ (n : Int) < (ps.length : Int) by omega)]
      rw [List.drop_of_length_le (by omega)]
      simp only [List.flatten_nil, List.append_nil]
      exact Ev.now _
theorem Join_ev (ps : List (List Int)) (hp : ps.length ≤ 1000000) (hl : ps.flatten.length ≤ 100000000000) : Ev (fun k => manometerref01_Join.f k ps) ps.flatten := by
  have := Join_l0 ps hp ps.length 0 [] (by omega) (by simpa using hl)
  simpa [manometerref01_Join.f] using this
theorem Equal_l0 (a b : List Int) (hs : a.length ≤ 1000000000000) (hab : a.length = b.length) : ∀ (d n : Nat), n + d = a.length → Ev (fun k => manometerref01_Equal.l0 k a b (a.length : Int) (n : Int)) (decide (a.drop n = b.drop n))
  | d, n, hd => by
    refine Ev.step (f := _) (fun k => by simp only [manometerref01_Equal.l0]; rfl) ?_
    by_cases hlt : n < a.length
    · obtain ⟨d, rfl⟩ : ∃ e, d = e + 1 := ⟨d - 1, by omega⟩
      have e1 : (n : Int) < (a.length : Int) := by omega
      have e2 : (0 : Int) ≤ (n : Int) := by omega
      have e3 : (n : Int) < (b.length : Int) := by omega
      simp only [if_pos e1, if_pos e2, if_pos e3, rdI, w1 n (by omega)]
      rw [drop_rd a n hlt, drop_rd b n (by omega)]
      by_cases hx : a.getD n 0 = b.getD n 0
      · simp only [if_pos hx]
        rw [show decide (a.getD n 0 :: a.drop (n + 1) = b.getD n 0 :: b.drop (n + 1)) = decide (a.drop (n + 1) = b.drop (n + 1)) by rw [hx]; simp]
        exact Equal_l0 a b hs hab d (n + 1) (by omega)
      · simp only [if_neg hx]
        rw [decide_eq_false (fun h => hx (List.cons.inj h).1)]
        exact Ev.now _
    · simp only [if_neg (show ¬ (n : Int) < (a.length : Int) by omega)]
      rw [List.drop_of_length_le (by omega), List.drop_of_length_le (by omega)]
      exact Ev.now _
theorem Equal_ev (a b : List Int) (hs : a.length ≤ 1000000000000) : Ev (fun k => manometerref01_Equal.f k a b) (decide (a = b)) := by
  unfold manometerref01_Equal.f
  by_cases h : a.length = b.length
  · simp only [if_pos (show (a.length : Int) = (b.length : Int) by omega)]
    have := Equal_l0 a b hs h a.length 0 (by omega)
    simpa using this
  · simp only [if_neg (show ¬ (a.length : Int) = (b.length : Int) by omega)]
    rw [decide_eq_false (fun e => h (by rw [e]))]
    exact Ev.now _
end Go.Proofs.YtdhmabofncbohaaDoor.Pu
end
section
namespace Go.Proofs.YtdhmabofncbohaaDoor.Pu
open Go Go.RowKit Go.Proofs.YtdhmabofncbohaaDoor Go.Proofs.YtdhmabofncbohaaDoor.PLC Go.Proofs.YtdhmabofncbohaaDoorW.PrintWords Go.Proofs.YtdhmabofncbohaaDoorW.PrintLast Go.Proofs.YtdhmabofncbohaaDoorW.PrintMore
set_option linter.unusedVariables false
set_option linter.unusedSimpArgs false
theorem byt_of (s : ByteArray) : Byts (bytesOf s) := fun x hx => by
  obtain ⟨b, hb, rfl⟩ := List.mem_map.1 hx
  have := b.toNat_lt
  exact ⟨by omega, by omega⟩
def hb (x : Lab) : List Int := bytesOf x.f0 ++ ([255] ++ (bytesOf x.f1 ++ [255]))
theorem byt_nil : Byts [] := fun x hx => by simp at hx
end Go.Proofs.YtdhmabofncbohaaDoor.Pu
end
section
namespace Go.Proofs.YtdhmabofncbohaaDoor.Pu
open Go Go.RowKit Go.Proofs.YtdhmabofncbohaaDoor Go.Proofs.YtdhmabofncbohaaDoor.PLC Go.Proofs.YtdhmabofncbohaaDoorW.PrintWords Go.Proofs.YtdhmabofncbohaaDoorW.PrintLast Go.Proofs.YtdhmabofncbohaaDoorW.PrintMore
set_option linter.unusedVariables false
set_option linter.unusedSimpArgs false
def ints (l : Str) : List Int := l.map fun b => (b.toNat : Int)
theorem ints_length (l : Str) : (ints l).length = l.length := List.length_map _
theorem B_nums (l : Str) : B (strOfNums (ints l)) = l := by
  unfold B strOfNums ints
  simp [Function.comp_def]
theorem nums_B (s : ByteArray) : strOfNums (ints (B s)) = s := B_inj (B_nums _)
theorem u8eq (c : UInt8) (m : Nat) (hm : m < 256) : ((c.toNat : Int) = (m : Int)) ↔ c = UInt8.ofNat m := by
  constructor
  · intro h
    apply UInt8.toNat_inj.1
    simp
    omega
  · rintro rfl
    simp
    omega
theorem c34 (c : UInt8) : ((c.toNat : Int) = 34) ↔ c = 34 := u8eq c 34 (by decide)
theorem c10 (c : UInt8) : ((c.toNat : Int) = 10) ↔ c = 10 := u8eq c 10 (by decide)
end Go.Proofs.YtdhmabofncbohaaDoor.Pu
end
