import Derived.Test.YtclndenmmhdokaaDoorCHashBackH16
import Derived.Test.YtclndenmmhdokaaDoorCHashBackPHBx1
import Derived.Test.YtclndenmmhdokaaDoorCHashBackPHBx2
import Derived.Test.YtclndenmmhdokaaDoorCHashBackPHLx2
import Derived.Test.YtclndenmmhdokaaDoorCHashBackQB
namespace Go.Proofs.YtclndenmmhdokaaDoor.Bq
end Go.Proofs.YtclndenmmhdokaaDoor.Bq
section
namespace Go.Proofs.YtclndenmmhdokaaDoor.PHB
open Go.RowKit Go.Proofs.YtclndenmmhdokaaDoorW.PrintWords Go.Proofs.YtclndenmmhdokaaDoorW.PrintLast Go.Proofs.YtclndenmmhdokaaDoorW.PrintMore
attribute [local go_sem] max2_int min2_int max_two min_two max_three min_three max_four min_four
set_option linter.unusedVariables false
set_option linter.unusedSimpArgs false
def hash_Hex.l0 : Nat → List Int → List Int → Int → Int → Option (ByteArray)
 | 0, _, _, _, _ => none
 | k + 1, x3, x10, x11, x12 => if x12 < x11 then (if 0 ≤ x12 then (if x12 < (x10.length : Int) then (if 0 ≤ ((rd x10 x12) / 16) then (if ((rd x10 x12) / 16) < 16 then (if 0 ≤ (Go.bits .and .u8 (rd x10 x12) 15) then (if (Go.bits .and .u8 (rd x10 x12) 15) < 16 then ((some (([bt (⟨#[48, 49, 50, 51, 52, 53, 54, 55, 56, 57, 97, 98, 99, 100, 101, 102]⟩ : ByteArray) ((rd x10 x12) / 16), bt (⟨#[48, 49, 50, 51, 52, 53, 54, 55, 56, 57, 97, 98, 99, 100, 101, 102]⟩ : ByteArray) (Go.bits .and .u8 (rd x10 x12) 15)] : List Int) : List Int)).bind fun y155 => (if x3.length + y155.length < 140737488355328 then (hash_Hex.l0 k (x3 ++ y155) x10 x11 (wrap64 (x12 + 1))) else (none))) else (none)) else (none)) else (none)) else (none)) else (none)) else (none)) else (some (strOfNums x3))
def hash_Hex.f (k : Nat) (l0 : List Int) : Option (ByteArray) := if 0 ≤ (wrap64 (2 * (l0.length : Int))) then (if (wrap64 (2 * (l0.length : Int)) : Int).toNat ≤ 281474976710656 then (hash_Hex.l0 k (List.replicate 0 0) l0 (l0.length : Int) 0) else (none)) else (none)
def hash_Hex.T5 : Bool × List (List Nat × List Nat) := (true, [([], []), ([], []), ([1], [1]), ([2], [2]), ([], []), ([4], [4]), ([5], [5]), ([3, 6], [3, 6]), ([0, 7], [0, 7]), ([8, 8, 0, 1, 2, 3, 4, 5, 6, 7, 8], [0, 8])])
def hash_Hex.B5 : List Nat := [0, 0, 2, 6, 0, 16, 48, 126, 255, 511]
theorem hash_Hex.tab5 : rtab .any (opsOf Tryd.f34 5) = hash_Hex.T5 := by kernel_rfl
theorem hash_Hex.bits5 : waitsOk hash_Hex.T5.2 hash_Hex.B5 = true := by kernel_rfl
set_option maxHeartbeats 8000000 in
set_option maxRecDepth 100000 in
theorem hash_Hex.calls (k : Nat) (A0 : Option Addr) (c0 : Nat) (l0 : List Int) (r : ByteArray) (w : World) (hr0 : Kd.C (Kd.int .u8) w A0 l0.length l0) (hc0 : l0.length ≤ c0) (h : hash_Hex.f k l0 = some r) :
  Calls Tryd.prog 34 #[.slice A0 l0.length c0] w fun e w' => e = .returned (.string r) ∧ Below w.heap.size w w' := by
 have HR0 := Aside0.mk hr0
 have HC0 := Aside0.mk hc0
 clear hr0 hc0
 have HB := Aside0.mk (Below.refl w.heap.size w)
 have H : (if 0 ≤ (wrap64 (2 * (l0.length : Int))) then (if (wrap64 (2 * (l0.length : Int)) : Int).toNat ≤ 281474976710656 then (hash_Hex.l0 k (List.replicate 0 0) l0 (l0.length : Int) 0) else (none)) else (none)) = some r := h
 clear h
 obtain ⟨ji2, hji2⟩ : ∃ j_ : Int, (wrap64 (2 * (l0.length : Int))) = j_ := ⟨_, rfl⟩
 replace H : (if 0 ≤ (ji2) then (if (ji2 : Int).toNat ≤ 281474976710656 then (hash_Hex.l0 k (List.replicate 0 0) l0 (l0.length : Int) 0) else (none)) else (none)) = some r := by first | (rw [hji2] at H; exact H) | (simp only [hji2] at H ⊢; exact H)
 have hji2w : (IntKind.i64.wrap (2 * (l0.length : Int))) = ji2 := (i64_w _).trans hji2
 by_cases c3 : 0 ≤ (ji2)
 ·rw [if_pos c3] at H
  have c3b0 := eq_true c3
  have c3b1 : decide (0 ≤ (ji2)) = true := decide_eq_true c3
  clear c3
  by_cases c4 : (ji2 : Int).toNat ≤ 281474976710656
  ·rw [if_pos c4] at H
   have c4b0 := eq_true c4
   have c4b1 : decide ((ji2 : Int).toNat ≤ 281474976710656) = true := decide_eq_true c4
   clear c4
   obtain ⟨y151, hy151⟩ : ∃ y_ : List Int, y_ = (List.replicate 0 0) := ⟨_, rfl⟩
   replace H : (hash_Hex.l0 k y151 l0 (l0.length : Int) 0) = some r := by first | (rw [hy151]; with_reducible exact H) | (have H2_ := (Option.bind_some _ _).symm.trans H; rw [hy151]; with_reducible exact H2_) | (have H2_ := (Option.bind_some _ _).symm.trans H; with_reducible exact H2_) | with_reducible exact H | (rw [hy151]; exact H) | exact H
   have Ny151 := Aside0.mk hy151
   clear hy151
   have H' := Aside0.mk H
   clear H
   go_enter Tryd.func34, Tryd.ntmps34
   go_wp2_with (first | ((with_reducible refine gate_dst (N := 9) rfl ?_); refine Kd.R_make0 (Kd.int .u8) _ 5 rfl (N := 9) rfl 28 _ _ rfl ji2 rfl rfl Tryd.underlying28 (.int .u8 0) 1 info5 rfl (by decide) (by omega) 0 (ok := fun _ => True) (okp := fun _ => True) rfl (fun _ hk => hk) trivial (of_decide_eq_true y3_) (Nat.le_trans (Nat.mul_le_mul_right _ (of_decide_eq_true y3_ : ji2.toNat ≤ 281474976710656)) (by omega)) (Below.refl _ _) (Nat.le_refl _) ?_; intro v152 w5 ho6 hb hg_ hnew_; clear hg_ hnew_; (first | rw [← Ny151.out] at ho6 | (simp only [Int.reduceToNat] at ho6; rw [← Ny151.out] at ho6)); have n0_ := Aside0.mk (Kd.R_lower ho6 (below_size y1_)); have n1_ := Aside0.mk (below_step y1_ hb); clear HB; have HO153 := n0_; have HB := n1_; clear n0_ n1_; clear hb ho6))
   go_loopg [3, 12] k (fun kq v3 v12 w' => ∃ (x3_1 : List Int) (x12_1 : Int), v12 = .int .i64 x12_1 ∧ Aside0 (hash_Hex.l0 kq x3_1 l0 (l0.length : Int) x12_1 = some r) ∧ Aside0 (kq ≤ k) ∧ Aside0 (Kd.R (Kd.int .u8) 5 w' w.heap.size (fun _ => True) v3 x3_1) ∧ Aside0 (Below w.heap.size w w'))
   case atStart => exact ⟨(y151), (0), y2_, H', ⟨Nat.le_refl _⟩, ⟨by (with_reducible repeat (first | apply Kd.R_alloc | apply Kd.R_drewN | apply Kd.R_drew)); exact HO153.out⟩, ⟨y1_⟩⟩
   case round =>
    clear H'
    try clear p2
    try clear c3
    try clear c3b0
    try clear c3b1
    try clear c4
    try clear c4b0
    try clear c4b1
    try clear p6
    obtain ⟨x3_1, x12_1, rfl, HA, HK1, HO_3, HB⟩ := hrel
    cases gk with
    | zero => exact absurd HA.out (by simp [hash_Hex.l0])
    | succ k1 =>
     have H := HA.out
     clear HA
     simp only [hash_Hex.l0] at H
     by_cases c7 : x12_1 < (l0.length : Int)
     ·rw [if_pos c7] at H
      have c7b0 : decide (x12_1 < (l0.length : Int)) = true := decide_eq_true c7
      clear c7
      by_cases c8 : 0 ≤ x12_1
      ·rw [if_pos c8] at H
       have c8b0 : decide (0 ≤ x12_1) = true := decide_eq_true c8
       clear c8
       by_cases c9 : x12_1 < (l0.length : Int)
       ·rw [if_pos c9] at H
        have c9b0 : decide (x12_1 < (l0.length : Int)) = true := decide_eq_true c9
        clear c9
        obtain ⟨ji10, hji10⟩ : ∃ j_ : Int, ((rd l0 x12_1) / 16) = j_ := ⟨_, rfl⟩
        replace H : (if 0 ≤ (ji10) then (if (ji10) < 16 then (if 0 ≤ (Go.bits .and .u8 (rd l0 x12_1) 15) then (if (Go.bits .and .u8 (rd l0 x12_1) 15) < 16 then ((some (([bt (⟨#[48, 49, 50, 51, 52, 53, 54, 55, 56, 57, 97, 98, 99, 100, 101, 102]⟩ : ByteArray) (ji10), bt (⟨#[48, 49, 50, 51, 52, 53, 54, 55, 56, 57, 97, 98, 99, 100, 101, 102]⟩ : ByteArray) (Go.bits .and .u8 (rd l0 x12_1) 15)] : List Int) : List Int)).bind fun y155 => (if x3_1.length + y155.length < 140737488355328 then (hash_Hex.l0 k1 (x3_1 ++ y155) l0 (l0.length : Int) (wrap64 (x12_1 + 1))) else (none))) else (none)) else (none)) else (none)) else (none)) = some r := by first | (rw [hji10] at H; exact H) | (simp only [hji10] at H ⊢; exact H)
        by_cases c11 : 0 ≤ (ji10)
        ·rw [if_pos c11] at H
         have c11b0 : decide (0 ≤ (ji10)) = true := decide_eq_true c11
         clear c11
         by_cases c12 : (ji10) < 16
         ·rw [if_pos c12] at H
          have c12b0 : decide ((ji10) < 16) = true := decide_eq_true c12
          clear c12
          by_cases c14 : 0 ≤ (Go.bits .and .u8 (rd l0 x12_1) 15)
          ·rw [if_pos c14] at H
           have c14b0 : decide (0 ≤ (Go.bits .and .u8 (rd l0 x12_1) 15)) = true := decide_eq_true c14
           clear c14
           by_cases c15 : (Go.bits .and .u8 (rd l0 x12_1) 15) < 16
           ·rw [if_pos c15] at H
            have c15b0 : decide ((Go.bits .and .u8 (rd l0 x12_1) 15) < 16) = true := decide_eq_true c15
            clear c15
            obtain ⟨y155, hy155⟩ : ∃ y_ : List Int, y_ = (([bt (⟨#[48, 49, 50, 51, 52, 53, 54, 55, 56, 57, 97, 98, 99, 100, 101, 102]⟩ : ByteArray) (ji10), bt (⟨#[48, 49, 50, 51, 52, 53, 54, 55, 56, 57, 97, 98, 99, 100, 101, 102]⟩ : ByteArray) (Go.bits .and .u8 (rd l0 x12_1) 15)] : List Int)) := ⟨_, rfl⟩
            replace H : (if x3_1.length + y155.length < 140737488355328 then (hash_Hex.l0 k1 (x3_1 ++ y155) l0 (l0.length : Int) (wrap64 (x12_1 + 1))) else (none)) = some r := by first | (rw [hy155]; with_reducible exact H) | (have H2_ := (Option.bind_some _ _).symm.trans H; rw [hy155]; with_reducible exact H2_) | (have H2_ := (Option.bind_some _ _).symm.trans H; with_reducible exact H2_) | with_reducible exact H | (rw [hy155]; exact H) | exact H
            have Ny155 := Aside0.mk hy155
            clear hy155
            by_cases c17 : x3_1.length + y155.length < 140737488355328
            ·rw [if_pos c17] at H
             have LMc17 := Aside0.mk c17
             clear c17
             obtain ⟨y158, hy158⟩ : ∃ y_ : List Int, y_ = (x3_1 ++ y155) := ⟨_, rfl⟩
             replace H : (hash_Hex.l0 k1 y158 l0 (l0.length : Int) (wrap64 (x12_1 + 1))) = some r := by first | (rw [hy158]; with_reducible exact H) | (have H2_ := (Option.bind_some _ _).symm.trans H; rw [hy158]; with_reducible exact H2_) | (have H2_ := (Option.bind_some _ _).symm.trans H; with_reducible exact H2_) | with_reducible exact H | (rw [hy158]; exact H) | exact H
             have Ny158 := Aside0.mk hy158
             clear hy158
             have H' := Aside0.mk H
             clear H
             have p154 : 0 ≤ (x12_1 : Int) := of_decide_eq_true y3_
             have q154 : x12_1 < (l0.length : Int) := of_decide_eq_true y3_
             obtain ⟨ad154, e154, hx154_0⟩ := Kd.at_int HR0.out x12_1 p154 q154
             cases e154
             replace hx154_0 := (HB.out.cell (World.block_lt_of_cell? w _ hx154_0)).trans hx154_0
             replace p154 := eq_true p154
             replace q154 := eq_true q154
             try go_wp2
             have n0_ := Aside0.mk (Kd.R_drew HO_3.out)
             have n1_ := Aside0.mk (below_drew1 HB.out)
             clear HO_3
             clear HB
             have HO_3 := n0_
             have HB := n1_
             clear n0_ n1_
             have p13 : 0 ≤ ((ji10) : Int) := of_decide_eq_true y3_
             have q13 : (ji10) < (16 : Int) := of_decide_eq_true y3_
             have hx13 := bt_at (⟨#[48, 49, 50, 51, 52, 53, 54, 55, 56, 57, 97, 98, 99, 100, 101, 102]⟩ : ByteArray) (ji10)
             replace p13 := eq_true p13
             replace q13 := eq_true q13
             have p16 : 0 ≤ ((Go.bits .and .u8 (rd l0 x12_1) 15) : Int) := of_decide_eq_true y3_
             have q16 : (Go.bits .and .u8 (rd l0 x12_1) 15) < (16 : Int) := of_decide_eq_true y3_
             have hx16 := bt_at (⟨#[48, 49, 50, 51, 52, 53, 54, 55, 56, 57, 97, 98, 99, 100, 101, 102]⟩ : ByteArray) (Go.bits .and .u8 (rd l0 x12_1) 15)
             replace p16 := eq_true p16
             replace q16 := eq_true q16
             refine start_ (n := 10) (S := fun w' => True) (ds := []) #[false, false, false, false, false, false, false, false, false, false] (by kernel_rfl) rfl rfl trivial (fun hHeld => ?_); refine with_tabW hash_Hex.tab5 hash_Hex.bits5 (fun HT_ HW_ => ?_)
             generalize wr.drew = w18 at HO_3 HB hHeld ⊢
             refine pure_ (i := 0) (N := some 16) (v := ?_) (a' := ?_) #[true, false, false, false, false, false, false, false, false, false] rfl rfl (any_of HT_.out (by kernel_rfl)) (fun _ _ _ h => h) (Or.inl ⟨by rfl, ?_⟩) ?_ ?_
             rotate_left
             ·intro w'
              go_simp
              with_reducible rfl
             rotate_left
             ·simp only [Act.put, List.setIfInBounds_toArray, List.set_cons_zero, List.set_cons_succ, i64_w, i32_w]
              rfl
             refine pure_ (i := 1) (N := some 17) (v := ?_) (a' := ?_) #[true, true, false, false, false, false, false, false, false, false] rfl rfl (any_of HT_.out (by kernel_rfl)) (fun _ _ _ h => h) (Or.inl ⟨by rfl, ?_⟩) ?_ ?_
             rotate_left
             ·intro w'
              go_simp
              with_reducible rfl
             rotate_left
             ·simp only [Act.put, List.setIfInBounds_toArray, List.set_cons_zero, List.set_cons_succ, i64_w, i32_w]
              rfl
             refine pure_ (i := 2) (N := some 18) (v := ?_) (a' := ?_) #[true, true, true, false, false, false, false, false, false, false] rfl rfl (any_of HT_.out (by kernel_rfl)) (fun _ _ _ h => h) (Or.inl ⟨by rfl, ?_⟩) ?_ ?_
             rotate_left
             ·intro w'
              go_simp
              with_reducible rfl
             rotate_left
             ·simp only [Act.put, List.setIfInBounds_toArray, List.set_cons_zero, List.set_cons_succ, i64_w, i32_w]
              rfl
             refine pure_ (i := 4) (N := some 20) (v := ?_) (a' := ?_) #[true, true, true, false, true, false, false, false, false, false] rfl rfl (any_of HT_.out (by kernel_rfl)) (fun _ _ _ h => h) (Or.inl ⟨by rfl, ?_⟩) ?_ ?_
             rotate_left
             ·intro w'
              go_simp
              with_reducible rfl
             rotate_left
             ·simp only [Act.put, List.setIfInBounds_toArray, List.set_cons_zero, List.set_cons_succ, i64_w, i32_w]
              rfl
             refine pure_ (i := 5) (N := some 21) (v := ?_) (a' := ?_) #[true, true, true, false, true, true, false, false, false, false] rfl rfl (any_of HT_.out (by kernel_rfl)) (fun _ _ _ h => h) (Or.inl ⟨by rfl, ?_⟩) ?_ ?_
             rotate_left
             ·intro w'
              go_simp
              with_reducible rfl
             rotate_left
             ·simp only [Act.put, List.setIfInBounds_toArray, List.set_cons_zero, List.set_cons_succ, i64_w, i32_w]
              rfl
             refine take_ (i := 3) (N := some 19) (v := ?_) (a' := ?_) #[true, true, true, true, true, true, false, false, false, false] rfl rfl (take_ofW HT_.out HW_.out (by kernel_rfl)) (fun _ _ _ h => h) (Or.inl ⟨by rfl, ?_⟩) hHeld ?_ ?_
             rotate_left
             ·intro w' _
              go_simp
              with_reducible rfl
             rotate_left
             ·simp only [Act.put, List.setIfInBounds_toArray, List.set_cons_zero, List.set_cons_succ, i64_w, i32_w]
              rfl
             refine take_ (i := 6) (N := some 22) (v := ?_) (a' := ?_) #[true, true, true, true, true, true, true, false, false, false] rfl rfl (take_ofW HT_.out HW_.out (by kernel_rfl)) (fun _ _ _ h => h) (Or.inl ⟨by rfl, ?_⟩) hHeld ?_ ?_
             rotate_left
             ·intro w' _
              go_simp
              with_reducible rfl
             rotate_left
             ·simp only [Act.put, List.setIfInBounds_toArray, List.set_cons_zero, List.set_cons_succ, i64_w, i32_w]
              rfl
             refine one_ (i := 7) (N := some 23) #[true, true, true, true, true, true, true, true, false, false] rfl rfl (one_of HT_.out (by kernel_rfl)) (by decide) (fun K hK => ?_)
             refine Kd.R_lit_step (Kd.int .u8) _ 5 ?hg (N := 23) ?hd (xs := ([bt (⟨#[48, 49, 50, 51, 52, 53, 54, 55, 56, 57, 97, 98, 99, 100, 101, 102]⟩ : ByteArray) (ji10), bt (⟨#[48, 49, 50, 51, 52, 53, 54, 55, 56, 57, 97, 98, 99, 100, 101, 102]⟩ : ByteArray) (Go.bits .and .u8 (rd l0 x12_1) 15)] : List Int)) (inner := [.int .u8 (bt (⟨#[48, 49, 50, 51, 52, 53, 54, 55, 56, 57, 97, 98, 99, 100, 101, 102]⟩ : ByteArray) (ji10)), .int .u8 (bt (⟨#[48, 49, 50, 51, 52, 53, 54, 55, 56, 57, 97, 98, 99, 100, 101, 102]⟩ : ByteArray) (Go.bits .and .u8 (rd l0 x12_1) 15))]) (ok := fun _ => True) (okp := fun _ => True) ?hr ?hp (fun _ hk => hk) trivial (Below.refl _ _) (Nat.le_refl _) (by simp) ?_; (case hd => rfl); (case hg => rfl); (case hr => first | (go_simp; done) | (go_simp; rfl)); (case hp => exact (Reps.one (show Kd.M (Kd.int .u8) _ _ _ (bt (⟨#[48, 49, 50, 51, 52, 53, 54, 55, 56, 57, 97, 98, 99, 100, 101, 102]⟩ : ByteArray) (ji10)) [.int .u8 (bt (⟨#[48, 49, 50, 51, 52, 53, 54, 55, 56, 57, 97, 98, 99, 100, 101, 102]⟩ : ByteArray) (ji10))] from rfl) (Reps.one (show Kd.M (Kd.int .u8) _ _ _ (bt (⟨#[48, 49, 50, 51, 52, 53, 54, 55, 56, 57, 97, 98, 99, 100, 101, 102]⟩ : ByteArray) (Go.bits .and .u8 (rd l0 x12_1) 15)) [.int .u8 (bt (⟨#[48, 49, 50, 51, 52, 53, 54, 55, 56, 57, 97, 98, 99, 100, 101, 102]⟩ : ByteArray) (Go.bits .and .u8 (rd l0 x12_1) 15))] from rfl) (Reps.none _ _))))
             intro v156 w19 ho20 hb hg_ hnew_
             clear hg_ hnew_
             (first | rw [← Ny155.out] at ho20 | (simp only [Int.reduceToNat] at ho20; rw [← Ny155.out] at ho20))
             have n0_ := Aside0.mk (Kd.R_elder' (by (with_reducible repeat (first | apply Kd.R_alloc | apply Kd.R_drewN | apply Kd.R_drew)); exact HO_3.out) (Kd.R_base ho20) hb)
             have n1_ := Aside0.mk (Kd.R_lower (Kd.R_new' ho20 (Kd.R_lt (by (with_reducible repeat (first | apply Kd.R_alloc | apply Kd.R_drewN | apply Kd.R_drew)); exact HO_3.out))) (below_size y1_))
             have n2_ := Aside0.mk (below_step y1_ hb)
             clear HO_3
             clear HB
             have HO_3 := n0_
             have HO157 := n1_
             have HB := n2_
             clear n0_ n1_ n2_
             clear hb ho20
             obtain ⟨Ao22, co22, eo22⟩ := Kd.R_slice HO157.out
             (first | subst eo22 | (injection eo22 with f1_ f2_ f3_; have f4_ := f1_.symm; have f5_ := f3_.symm; clear f1_ f2_ f3_; subst f4_; subst f5_))
             refine hK.out _ _ trivial (fun hHeld => ?_)
             clear hK K
             refine norm_ (a' := ?_) ?_ ?_
             rotate_left
             ·show Act.put _ (some 23) _ = _
              simp only [Act.put, List.setIfInBounds_toArray, List.set_cons_zero, List.set_cons_succ, i64_w, i32_w]
              rfl
             refine one_ (i := 8) (N := some 24) #[true, true, true, true, true, true, true, true, true, false] rfl rfl (one_of HT_.out (by kernel_rfl)) (by decide) (fun K hK => ?_)
             refine Kd.R_append_rows_step (Kd.int .u8) (w0 := w) w.heap.size (by rfl) (.tmp 16) (.tmp 23) 28 5 (.int .u8 0) 1 rfl Tryd.underlying28 info5 rfl (by decide) (by omega) u3 x3_1 y155 _ _ _ (fun k_ => some k_ ≠ (.slice Ao22 y155.length co22 : Value).ownBlock) (fun _ => False) rfl rfl ?aO ?aR (fun _ _ h => h) (fun _ h => h.elim) ?aF ?aB ?aS ?aL ?_
             (case aR => repeat (first | exact (Kd.R_reads' HO157.out).2.2 | (with_reducible refine Kd.C_alloc ?_ _) | (with_reducible refine Kd.C_drewN ?_ _) | (with_reducible refine Kd.C_drew ?_)))
             (case aB => exact y1_)
             (case aF => exact (fun k_ hk => Kd.fresh' (Kd.R_lt (by (with_reducible repeat (first | apply Kd.R_alloc | apply Kd.R_drewN | apply Kd.R_drew)); exact HO157.out)) k_ hk))
             (case aO => exact (by (with_reducible repeat (first | apply Kd.R_alloc | apply Kd.R_drewN | apply Kd.R_drew)); exact Kd.R_mono HO_3.out (fun _ hk => hk.2)))
             (case aS => exact (below_size y1_))
             (case aL => have := LMc17.out; omega)
             intro v159 w21 ho hb hg hat
             rw [← Ny158.out] at ho
             have n0_ := Aside0.mk (Kd.R_after (ok := (fun _ => True)) (by (with_reducible repeat (first | apply Kd.R_alloc | apply Kd.R_drewN | apply Kd.R_drew)); exact HO157.out) hg hat)
             have n1_ := Aside0.mk (hb)
             have n2_ := Aside0.mk (ho)
             clear HO157
             clear HB
             clear HO_3
             have HO157 := n0_
             have HB := n1_
             have HO160 := n2_
             clear n0_ n1_ n2_
             clear ho hb hg hat
             refine hK.out _ _ trivial (fun hHeld => ?_)
             clear hK K
             refine norm_ (a' := ?_) ?_ ?_
             rotate_left
             ·show Act.put _ (some 24) _ = _
              simp only [Act.put, List.setIfInBounds_toArray, List.set_cons_zero, List.set_cons_succ, i64_w, i32_w]
              rfl
             refine pure_ (i := 9) (N := some 3) (v := ?_) (a' := ?_) #[true, true, true, true, true, true, true, true, true, true] rfl rfl (any_of HT_.out (by kernel_rfl)) (fun _ _ _ h => h) (Or.inl ⟨by rfl, ?_⟩) ?_ ?_
             rotate_left
             ·intro w'
              go_simp
              with_reducible rfl
             rotate_left
             ·simp only [Act.put, List.setIfInBounds_toArray, List.set_cons_zero, List.set_cons_succ, i64_w, i32_w]
              rfl
             refine done_ (done_of HT_.out (by kernel_rfl)) ?_
             try go_wp2
             go_roundg k1
             case measure => have := HK1.out; omega
             case rel => exact ⟨(y158), (wrap64 (x12_1 + 1)), y2_, H', ⟨by have := HK1.out; omega⟩, ⟨by (with_reducible repeat (first | apply Kd.R_alloc | apply Kd.R_drewN | apply Kd.R_drew)); exact Kd.R_mono HO160.out (fun _ hk => trivial)⟩, ⟨y1_⟩⟩
            ·rw [if_neg c17] at H
             exact absurd H (by simp)
           ·rw [if_neg c15] at H
            exact absurd H (by simp)
          ·rw [if_neg c14] at H
           exact absurd H (by simp)
         ·rw [if_neg c12] at H
          exact absurd H (by simp)
        ·rw [if_neg c11] at H
         exact absurd H (by simp)
       ·rw [if_neg c9] at H
        exact absurd H (by simp)
      ·rw [if_neg c8] at H
       exact absurd H (by simp)
     ·rw [if_neg c7] at H
      have c7b0 : decide (x12_1 < (l0.length : Int)) = false := decide_eq_false c7
      clear c7
      obtain rfl := Option.some.inj H
      have hcv23 := own_string (P := Tryd.prog) Tryd.underlying28 Tryd.underlying5 Tryd.underlying9 (Kd.own_of_R HO_3.out)
      go_wp2
      go_ret
      exact ⟨by first | rfl | (simp [errW_none, errW_some] <;> rfl) | (simp only [← hji2]; first | rfl | (simp [errW_none, errW_some] <;> rfl)) | (simp [*, errW_none, errW_some] <;> rfl), y1_⟩
  ·rw [if_neg c4] at H
   exact absurd H (by simp)
 ·rw [if_neg c3] at H
  exact absurd H (by simp)
end Go.Proofs.YtclndenmmhdokaaDoor.PHB
end
section
namespace Go.Proofs.YtclndenmmhdokaaDoor.Pu
open Go Go.RowKit Go.Proofs.YtclndenmmhdokaaDoor Go.Proofs.YtclndenmmhdokaaDoor.PHB Go.Proofs.YtclndenmmhdokaaDoorW.PrintWords Go.Proofs.YtclndenmmhdokaaDoorW.PrintLast Go.Proofs.YtclndenmmhdokaaDoorW.PrintMore Bq
set_option linter.unusedVariables false
set_option linter.unusedSimpArgs false
theorem rdI (xs : List Int) (n : Nat) : rd xs (n : Int) = xs.getD n 0 := by unfold rd; rw [Int.toNat_natCast]
theorem rdL (l : List (List Int)) (n : Nat) : rd_L2 l (n : Int) = l.getD n [] := by unfold rd_L2; rw [Int.toNat_natCast]
theorem short_l0 (X L : List (List Int)) (hL : L.length ≤ 1000000) : ∀ (d n : Nat), n + d = L.length → (∀ j, j < n → (L.getD j []).length ≤ 2000) →
    ∃ r, Ev (fun k => manometerlaw03_short.l0 k X L (L.length : Int) (n : Int)) r ∧ (r = true → ∀ x ∈ L, x.length ≤ 2000)
  | d, n, hd, hj => by
    by_cases hlt : n < L.length
    · obtain ⟨d, rfl⟩ : ∃ e, d = e + 1 := ⟨d - 1, by omega⟩
      have e1 : (n : Int) < (L.length : Int) := by omega
      have e2 : (0 : Int) ≤ (n : Int) := by omega
      by_cases h0 : (L.getD n []).length ≤ 2000
      · obtain ⟨r, hr, hp⟩ := short_l0 X L hL d (n + 1) (by omega) (fun j hjn => by
          by_cases he : j < n
          · exact hj j he
          · obtain rfl : j = n := by omega
            exact h0)
        refine ⟨r, Ev.step (f := _) (fun k => by simp only [manometerlaw03_short.l0]; rfl) ?_, hp⟩
        simp only [if_pos e1, if_pos e2, rdL, if_neg (show ¬ ((L.getD n []).length : Int) > 2000 by omega), w1 n (by omega)]
        exact hr
      · refine ⟨false, Ev.step (f := _) (fun k => by simp only [manometerlaw03_short.l0]; rfl) ?_, (fun h => by cases h)⟩
        simp only [if_pos e1, if_pos e2, rdL, if_pos (show ((L.getD n []).length : Int) > 2000 by omega)]
        exact Ev.now _
    · refine ⟨decide ((X.length : Int) ≤ 30), Ev.step (f := _) (fun k => by simp only [manometerlaw03_short.l0]; rfl) ?_, fun h x hx => ?_⟩
      · simp only [if_neg (show ¬ (n : Int) < (L.length : Int) by omega)]
        exact Ev.now _
      · obtain ⟨j, hjl, rfl⟩ := List.mem_iff_getElem.1 hx
        have := hj j (by omega)
        rwa [List.getD_eq_getElem?_getD, List.getElem?_eq_getElem hjl] at this
theorem short_ev (L : List (List Int)) (hL : L.length ≤ 1000000) : ∃ r, Ev (fun k => manometerlaw03_short.f k L) r ∧ (r = true → ∀ x ∈ L, x.length ≤ 2000) :=
  short_l0 L L hL L.length 0 (by omega) (fun j h => absurd h (Nat.not_lt_zero j))
theorem byt_at {xs : List Int} (h : Byts xs) (i : Nat) (hi : i < xs.length) : 0 ≤ xs.getD i 0 ∧ xs.getD i 0 < 256 := by
  rw [List.getD_eq_getElem?_getD, List.getElem?_eq_getElem hi]
  exact h _ (List.getElem_mem hi)
theorem and15 (x : Int) (h0 : 0 ≤ x) (h1 : x < 256) : bits .and .u8 x 15 = x % 16 := by
  obtain ⟨n, rfl⟩ := Int.eq_ofNat_of_zero_le h0
  have h := (bits_nat .u8 8 (by decide) (fun m a b => by rw [IntKind.wrap_u8]; omega) n 15 (by omega) (by decide)).1
  refine h.trans ?_
  rw [show n &&& 15 = n % 16 from Nat.and_two_pow_sub_one_eq_mod n 4]
  omega
theorem or16 (a b : Int) (ha : 0 ≤ a ∧ a ≤ 15) (hb : 0 ≤ b ∧ b ≤ 15) : bits .or .u8 ((a * 16) % 256) b = 16 * a + b := by
  obtain ⟨m, rfl⟩ := Int.eq_ofNat_of_zero_le ha.1
  obtain ⟨n, rfl⟩ := Int.eq_ofNat_of_zero_le hb.1
  have h := (bits_nat .u8 8 (by decide) (fun m a b => by rw [IntKind.wrap_u8]; omega) (m * 16) n (by omega) (by omega)).2
  rw [show ((m : Int) * 16) % 256 = ((m * 16 : Nat) : Int) by omega]
  refine h.trans ?_
  have h3 := Nat.two_pow_add_eq_or_of_lt (i := 4) (show n < 2 ^ 4 by omega) m
  rw [Nat.mul_comm m 16, show (16 : Nat) = 2 ^ 4 from rfl, ← h3]
  omega
theorem bt_hex : ∀ v : Fin 16, bt (⟨#[48, 49, 50, 51, 52, 53, 54, 55, 56, 57, 97, 98, 99, 100, 101, 102]⟩ : ByteArray) (v.val : Int) = hexD.getD v.val 0 := by decide +kernel
theorem Hex_l0 (xs : List Int) (hb : Byts xs) (hl : xs.length ≤ 1000000) : ∀ (d n : Nat), n + d = xs.length → Ev (fun k => hash_Hex.l0 k (hex (xs.take n)) xs (xs.length : Int) (n : Int)) (strOfNums (hex xs))
  | d, n, hd => by
    refine Ev.step (f := _) (fun k => by simp only [hash_Hex.l0]; rfl) ?_
    by_cases hlt : n < xs.length
    · obtain ⟨d, rfl⟩ : ∃ e, d = e + 1 := ⟨d - 1, by omega⟩
      have e1 : (n : Int) < (xs.length : Int) := by omega
      have e2 : (0 : Int) ≤ (n : Int) := by omega
      obtain ⟨x0, x1⟩ := byt_at hb n hlt
      have ha := and15 _ x0 x1
      have hn := hex_next xs n hlt
      unfold hex1 at hn
      obtain ⟨x, hx⟩ : ∃ x, x = xs.getD n 0 := ⟨_, rfl⟩
      rw [← hx] at x0 x1 ha hn
      have hlen := hex_length (xs.take n)
      have hq1 : (((x / 16).toNat : Nat) : Int) = x / 16 := by omega
      have hq2 : (((x % 16).toNat : Nat) : Int) = x % 16 := by omega
      have b1 := bt_hex ⟨(x / 16).toNat, by omega⟩
      have b2 := bt_hex ⟨(x % 16).toNat, by omega⟩
      simp only [hq1, hq2] at b1 b2
      simp only [if_pos e1, if_pos e2, rdI, ← hx, ha, if_pos (show (0 : Int) ≤ x / 16 by omega), if_pos (show x / 16 < 16 by omega), if_pos (show (0 : Int) ≤ x % 16 by omega), if_pos (show x % 16 < 16 by omega), Option.bind_some, b1, b2, w1 n (by omega), hn]
      have hc : (hex (xs.take n)).length + [hexD.getD (x / 16).toNat 0, hexD.getD (x % 16).toNat 0].length < 140737488355328 := by
        rw [hlen, List.length_take]
        simp only [List.length_cons, List.length_nil]
        omega
      simp only [if_pos hc]
      exact Hex_l0 xs hb hl d (n + 1) (by omega)
    · simp only [if_neg (show ¬ (n : Int) < (xs.length : Int) by omega)]
      rw [List.take_of_length_le (by omega)]
      exact Ev.now _
theorem Hex_ev (xs : List Int) (hb : Byts xs) (hl : xs.length ≤ 1000000) : Ev (fun k => hash_Hex.f k xs) (strOfNums (hex xs)) := by
  unfold hash_Hex.f
  rw [wn (n := 2 * xs.length) (by omega) (by omega)]
  simp only [if_pos (show (0 : Int) ≤ ((2 * xs.length : Nat) : Int) by omega), Int.toNat_natCast, if_pos (show 2 * xs.length ≤ 281474976710656 by omega)]
  exact Hex_l0 xs hb hl xs.length 0 (by omega)
theorem four_ev (c : Int) (h0 : 0 ≤ c) (h1 : c < 256) : Ev (fun k => hash_four.f k c) (nib c) := by
  refine Ev.at 1 (fun k hk => ?_)
  obtain ⟨m, rfl⟩ : ∃ m, k = m + 1 := ⟨k - 1, by omega⟩
  simp only [hash_four.f, hash_four.j0, decide_eq_true_eq, Bool.false_eq_true, if_false]
  unfold nib
  (repeat' split) <;> first
    | (exfalso; omega)
    | rfl
    | (rw [Option.some.injEq]; omega)
theorem bytesOf_byts (s : ByteArray) : Byts (bytesOf s) := fun x hx => by
  obtain ⟨b, _, rfl⟩ := List.mem_map.1 hx
  have := b.toNat_lt
  omega
theorem bt_of (s : ByteArray) (n : Nat) : bt s (n : Int) = (bytesOf s).getD n 0 := by rw [← rd_bytesOf, rdI]
theorem drop_at (xs : List Int) (n : Nat) (h : n < xs.length) : xs.drop n = xs.getD n 0 :: xs.drop (n + 1) := by
  rw [List.drop_eq_getElem_cons h, List.getD_eq_getElem?_getD, List.getElem?_eq_getElem h]
  rfl
def moreX (acc l : List Int) : List Int × Int := if l.length % 2 = 1 ∨ badN l = true then ([], 8) else (acc ++ pairs l, 0)
theorem moreX_odd {acc l : List Int} (h : l.length % 2 = 1) : moreX acc l = ([], 8) := if_pos (.inl h)
theorem moreX_bad {acc l : List Int} (h : badN l = true) : moreX acc l = ([], 8) := if_pos (.inr h)
theorem badN_cons (a : Int) (l : List Int) : badN (a :: l) = (decide (15 < nib a) || badN l) := rfl
theorem moreX_two {acc l : List Int} {a b : Int} (ha : ¬ 15 < nib a) (hb : ¬ 15 < nib b) : moreX acc (a :: b :: l) = moreX (acc ++ [16 * nib a + nib b]) l := by
  unfold moreX
  rw [badN_cons, badN_cons, decide_eq_false ha, decide_eq_false hb, Bool.false_or, Bool.false_or, List.length_cons, List.length_cons, show (l.length + 1 + 1) % 2 = l.length % 2 by omega]
  split
  · rfl
  · rw [List.append_assoc]
    rfl
theorem Unhex_l0 (s : ByteArray) (hs : s.size ≤ 1000000) (he : s.size % 2 = 0) : ∀ (d n : Nat) (acc : List Int), n + 2 * d = s.size → acc.length ≤ n → Ev (fun k => hash_Unhex.l0 k s acc (n : Int)) (moreX acc ((bytesOf s).drop n))
  | d, n, acc, hd, hl => by
    have hbl := bytesOf_length s
    refine Ev.step (f := _) (fun k => by simp only [hash_Unhex.l0]; rfl) ?_
    rcases d with _ | d
    · simp only [if_neg (show ¬ (n : Int) < (s.size : Int) by omega)]
      rw [List.drop_of_length_le (by omega)]
      show Ev (fun _ => some (acc, 0)) (moreX acc [])
      unfold moreX pairs badN
      simp only [List.length_nil, List.any_nil, List.append_nil]
      exact Ev.now _
    · have hlt : n < (bytesOf s).length := by omega
      have hlt2 : n + 1 < (bytesOf s).length := by omega
      obtain ⟨a0, a1⟩ := byt_at (bytesOf_byts s) n hlt
      obtain ⟨b0, b1⟩ := byt_at (bytesOf_byts s) (n + 1) hlt2
      rw [drop_at _ n hlt, drop_at _ (n + 1) hlt2]
      have fa := four_ev _ a0 a1
      have fb := four_ev _ b0 b1
      simp only [if_pos (show (n : Int) < (s.size : Int) by omega), if_pos (show (0 : Int) ≤ (n : Int) by omega), bt_of, w1 n (by omega), if_pos (show (0 : Int) ≤ ((n + 1 : Nat) : Int) by omega), if_pos (show ((n + 1 : Nat) : Int) < (s.size : Int) by omega)]
      generalize (bytesOf s).getD n 0 = a at *
      generalize (bytesOf s).getD (n + 1) 0 = b at *
      refine Ev.bind fa ?_
      refine Ev.bind fb ?_
      have ra := nib_range a
      have rb := nib_range b
      by_cases ha : nib a > 15
      · simp only [if_pos ha]
        rw [moreX_bad (by rw [badN_cons, decide_eq_true ha]; rfl)]
        exact Ev.now _
      · simp only [if_neg ha]
        by_cases hb : nib b > 15
        · simp only [if_pos hb]
          rw [moreX_bad (by rw [badN_cons, badN_cons, decide_eq_true hb, Bool.true_or, Bool.or_true])]
          exact Ev.now _
        · simp only [if_neg hb, if_pos (show acc.length < 140737488355328 by omega), or16 (nib a) (nib b) ⟨by omega, by omega⟩ ⟨by omega, by omega⟩, wn (x := (n : Int) + 2) (n := n + 2) (by omega) (by omega)]
          rw [moreX_two ha hb]
          exact Unhex_l0 s hs he d (n + 2) _ (by omega) (by rw [List.length_append, List.length_singleton]; omega)
theorem unhexP_more (l : List Int) : unhexP l = moreX [] l := by unfold unhexP moreX; rw [List.nil_append]
theorem Unhex_ev (s : ByteArray) (hs : s.size ≤ 1000000) : Ev (fun k => hash_Unhex.f k s) (unhexP (bytesOf s)) := by
  rw [unhexP_more]
  unfold hash_Unhex.f
  by_cases h : s.size % 2 = 0
  · simp only [if_neg (show ¬ (s.size : Int) % 2 > 0 by omega)]
    rw [wn (n := s.size / 2) (by omega) (by omega)]
    simp only [if_pos (show (0 : Int) ≤ ((s.size / 2 : Nat) : Int) by omega), Int.toNat_natCast, if_pos (show s.size / 2 ≤ 281474976710656 by omega)]
    exact Unhex_l0 s hs h (s.size / 2) 0 [] (by omega) (Nat.le_refl _)
  · simp only [if_pos (show (s.size : Int) % 2 > 0 by omega)]
    rw [moreX_odd (by rw [bytesOf_length]; omega)]
    exact Ev.now _
end Go.Proofs.YtclndenmmhdokaaDoor.Pu
end
section
namespace Go.Proofs.YtclndenmmhdokaaDoor.Pu
open Go Go.RowKit Go.Proofs.YtclndenmmhdokaaDoor Go.Proofs.YtclndenmmhdokaaDoor.PHB Go.Proofs.YtclndenmmhdokaaDoorW.PrintWords Go.Proofs.YtclndenmmhdokaaDoorW.PrintLast Go.Proofs.YtclndenmmhdokaaDoorW.PrintMore Bq
set_option linter.unusedVariables false
set_option linter.unusedSimpArgs false
theorem all_byts {xs : List Int} (h : Byts xs) : xs.all (fun x => decide (0 ≤ x ∧ x < 256)) = true := List.all_eq_true.2 (fun x hx => decide_eq_true (h x hx))
theorem sN_bytesOf (s : ByteArray) : strOfNums (bytesOf s) = s := by
  apply B_inj
  show (bytesOf s).map _ = s.data.toList
  unfold bytesOf
  rw [List.map_map]
  have : ((fun n : Int => UInt8.ofNat n.toNat) ∘ fun b : UInt8 => (b.toNat : Int)) = id := by
    funext b
    simp
  rw [this, List.map_id]
theorem u8_inj {x y : Int} (hx : 0 ≤ x ∧ x < 256) (hy : 0 ≤ y ∧ y < 256) (h : UInt8.ofNat x.toNat = UInt8.ofNat y.toNat) : x = y := by
  have := congrArg UInt8.toNat h
  rw [UInt8.toNat_ofNat', UInt8.toNat_ofNat'] at this
  omega
theorem sN_inj : ∀ {xs ys : List Int}, Byts xs → Byts ys → strOfNums xs = strOfNums ys → xs = ys
  | [], [], _, _, _ => rfl
  | [], y :: ys, _, _, h => by have := congrArg ByteArray.size h; rw [strOfNums_size, strOfNums_size] at this; simp at this
  | x :: xs, [], _, _, h => by have := congrArg ByteArray.size h; rw [strOfNums_size, strOfNums_size] at this; simp at this
  | x :: xs, y :: ys, hx, hy, h => by
    have h1 : B (strOfNums (x :: xs)) = B (strOfNums (y :: ys)) := by rw [h]
    have h2 : UInt8.ofNat x.toNat :: xs.map (fun x => UInt8.ofNat x.toNat) = UInt8.ofNat y.toNat :: ys.map (fun x => UInt8.ofNat x.toNat) := h1
    injection h2 with h3 h4
    have h5 : strOfNums xs = strOfNums ys := B_inj h4
    rw [u8_inj (hx x List.mem_cons_self) (hy y List.mem_cons_self) h3, sN_inj (fun z hz => hx z (List.mem_cons_of_mem _ hz)) (fun z hz => hy z (List.mem_cons_of_mem _ hz)) h5]
theorem bytesOf_sN {xs : List Int} (h : Byts xs) : bytesOf (strOfNums xs) = xs := sN_inj (bytesOf_byts _) h (sN_bytesOf _)
theorem six1_byt (l : List Bool) : 0 ≤ six1 l ∧ six1 l < 256 := by
  unfold six1
  rw [List.getD_eq_getElem?_getD]
  by_cases h : bnum l * 2 ^ (6 - l.length) < lett.length
  · rw [List.getElem?_eq_getElem h]
    have : ∀ x ∈ lett, 0 ≤ x ∧ x < 256 := by decide
    exact this _ (List.getElem_mem h)
  · rw [List.getElem?_eq_none (by omega)]
    decide
theorem arm_byts : ∀ (n : Nat) (l : List Bool), l.length ≤ n → Byts (arm l)
  | n, l, h => by
    by_cases he : l = []
    · subst he
      rw [arm_nil]
      exact fun x hx => by cases hx
    · rw [arm_cons l he]
      have hp := (List.length_pos_iff.2 he)
      intro x hx
      rcases List.mem_cons.1 hx with rfl | hx
      · exact six1_byt _
      · rcases n with _ | n
        · omega
        · exact arm_byts n (l.drop 6) (by rw [List.length_drop]; omega) x hx
theorem vals_bytes {s : ByteArray} {vs : List Nat} (h : (B s).map (fun c => sixV (c.toNat : Int)) = vs.map some) : bytesOf s = vs.map (fun v => lett.getD v 0) ∧ ∀ v ∈ vs, v < 64 := by
  unfold B at h
  unfold bytesOf
  generalize s.data.toList = l at h
  clear s
  induction l generalizing vs with
  | nil =>
    have : vs = [] := List.map_eq_nil_iff.1 (by rw [← h]; rfl)
    subst this
    exact ⟨rfl, fun v hv => by cases hv⟩
  | cons c l ih =>
    rcases vs with _ | ⟨v, vs⟩
    · cases h
    · rw [List.map_cons, List.map_cons] at h
      injection h with h1 h2
      obtain ⟨i1, i2⟩ := ih h2
      refine ⟨?_, fun u hu => ?_⟩
      · rw [List.map_cons, List.map_cons, i1, six_lett _ v h1]
      · rcases List.mem_cons.1 hu with rfl | hu
        · exact (sixV_lt h1).1
        · exact i2 u hu
theorem unR_text {s : ByteArray} {vs : List Nat} (h : (B s).map (fun c => sixV (c.toNat : Int)) = vs.map some) :
    (strOfNums (armor (packI (full8 (rowV vs)))) = s ↔ ¬ ((rowV vs).length % 8 = 6 ∨ bnum (rest8 (rowV vs)) ≠ 0)) := by
  obtain ⟨h1, h2⟩ := vals_bytes h
  rw [armor_pack (full8 (rowV vs)) _ (full8_length _), ← arm_full (rowV vs) vs.length (rowV_length vs), arm_row vs h2, ← h1]
  constructor
  · intro e
    rw [← e, bytesOf_sN (arm_byts _ _ (Nat.le_refl _))]
  · intro e
    rw [e, sN_bytesOf]
end Go.Proofs.YtclndenmmhdokaaDoor.Pu
end
