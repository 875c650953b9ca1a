import Derived.Test.YtclndenmmhdokaaDoorCHashLettersH16
import Derived.Test.YtclndenmmhdokaaDoorCHashLettersPHBx1
import Derived.Test.YtclndenmmhdokaaDoorCHashLettersPHBx2
import Derived.Test.YtclndenmmhdokaaDoorCHashLettersPHLx0
import Derived.Test.YtclndenmmhdokaaDoorCHashLettersHT
namespace Go.Proofs.YtclndenmmhdokaaDoor.PHB
open Go.RowKit Go.Proofs.YtclndenmmhdokaaDoorW.PrintWords Go.Proofs.YtclndenmmhdokaaDoorW.PrintLast Go.Proofs.YtclndenmmhdokaaDoorW.PrintMore
attribute [local go_sem] max2_int min2_int max_two min_two max_three min_three max_four min_four
set_option linter.unusedVariables false
set_option linter.unusedSimpArgs false
def hash_Hex.l0 : Nat → List Int → List Int → Int → Int → Option (ByteArray)
 | 0, _, _, _, _ => none
 | k + 1, x3, x10, x11, x12 => if x12 < x11 then (if 0 ≤ x12 then (if x12 < (x10.length : Int) then (if 0 ≤ ((rd x10 x12) / 16) then (if ((rd x10 x12) / 16) < 16 then (if 0 ≤ (Go.bits .and .u8 (rd x10 x12) 15) then (if (Go.bits .and .u8 (rd x10 x12) 15) < 16 then ((some (([bt (⟨#[48, 49, 50, 51, 52, 53, 54, 55, 56, 57, 97, 98, 99, 100, 101, 102]⟩ : ByteArray) ((rd x10 x12) / 16), bt (⟨#[48, 49, 50, 51, 52, 53, 54, 55, 56, 57, 97, 98, 99, 100, 101, 102]⟩ : ByteArray) (Go.bits .and .u8 (rd x10 x12) 15)] : List Int) : List Int)).bind fun y155 => (if x3.length + y155.length < 140737488355328 then (hash_Hex.l0 k (x3 ++ y155) x10 x11 (wrap64 (x12 + 1))) else (none))) else (none)) else (none)) else (none)) else (none)) else (none)) else (none)) else (some (strOfNums x3))
def hash_Hex.f (k : Nat) (l0 : List Int) : Option (ByteArray) := if 0 ≤ (wrap64 (2 * (l0.length : Int))) then (if (wrap64 (2 * (l0.length : Int)) : Int).toNat ≤ 281474976710656 then (hash_Hex.l0 k (List.replicate 0 0) l0 (l0.length : Int) 0) else (none)) else (none)
def hash_Hex.T5 : Bool × List (List Nat × List Nat) := (true, [([], []), ([], []), ([1], [1]), ([2], [2]), ([], []), ([4], [4]), ([5], [5]), ([3, 6], [3, 6]), ([0, 7], [0, 7]), ([8, 8, 0, 1, 2, 3, 4, 5, 6, 7, 8], [0, 8])])
def hash_Hex.B5 : List Nat := [0, 0, 2, 6, 0, 16, 48, 126, 255, 511]
theorem hash_Hex.tab5 : rtab .any (opsOf Tryd.f34 5) = hash_Hex.T5 := by kernel_rfl
theorem hash_Hex.bits5 : waitsOk hash_Hex.T5.2 hash_Hex.B5 = true := by kernel_rfl
set_option maxHeartbeats 8000000 in
set_option maxRecDepth 100000 in
theorem hash_Hex.calls (k : Nat) (A0 : Option Addr) (c0 : Nat) (l0 : List Int) (r : ByteArray) (w : World) (hr0 : Kd.C (Kd.int .u8) w A0 l0.length l0) (hc0 : l0.length ≤ c0) (h : hash_Hex.f k l0 = some r) :
  Calls Tryd.prog 34 #[.slice A0 l0.length c0] w fun e w' => e = .returned (.string r) ∧ Below w.heap.size w w' := by
 have HR0 := Aside0.mk hr0
 have HC0 := Aside0.mk hc0
 clear hr0 hc0
 have HB := Aside0.mk (Below.refl w.heap.size w)
 have H : (if 0 ≤ (wrap64 (2 * (l0.length : Int))) then (if (wrap64 (2 * (l0.length : Int)) : Int).toNat ≤ 281474976710656 then (hash_Hex.l0 k (List.replicate 0 0) l0 (l0.length : Int) 0) else (none)) else (none)) = some r := h
 clear h
 obtain ⟨ji2, hji2⟩ : ∃ j_ : Int, (wrap64 (2 * (l0.length : Int))) = j_ := ⟨_, rfl⟩
 replace H : (if 0 ≤ (ji2) then (if (ji2 : Int).toNat ≤ 281474976710656 then (hash_Hex.l0 k (List.replicate 0 0) l0 (l0.length : Int) 0) else (none)) else (none)) = some r := by first | (rw [hji2] at H; exact H) | (simp only [hji2] at H ⊢; exact H)
 have hji2w : (IntKind.i64.wrap (2 * (l0.length : Int))) = ji2 := (i64_w _).trans hji2
 by_cases c3 : 0 ≤ (ji2)
 ·rw [if_pos c3] at H
  have c3b0 := eq_true c3
  have c3b1 : decide (0 ≤ (ji2)) = true := decide_eq_true c3
  clear c3
  by_cases c4 : (ji2 : Int).toNat ≤ 281474976710656
  ·rw [if_pos c4] at H
   have c4b0 := eq_true c4
   have c4b1 : decide ((ji2 : Int).toNat ≤ 281474976710656) = true := decide_eq_true c4
   clear c4
   obtain ⟨y151, hy151⟩ : ∃ y_ : List Int, y_ = (List.replicate 0 0) := ⟨_, rfl⟩
   replace H : (hash_Hex.l0 k y151 l0 (l0.length : Int) 0) = some r := by first | (rw [hy151]; with_reducible exact H) | (have H2_ := (Option.bind_some _ _).symm.trans H; rw [hy151]; with_reducible exact H2_) | (have H2_ := (Option.bind_some _ _).symm.trans H; with_reducible exact H2_) | with_reducible exact H | (rw [hy151]; exact H) | exact H
   have Ny151 := Aside0.mk hy151
   clear hy151
   have H' := Aside0.mk H
   clear H
   go_enter Tryd.func34, Tryd.ntmps34
   go_wp2_with (first | ((with_reducible refine gate_dst (N := 9) rfl ?_); refine Kd.R_make0 (Kd.int .u8) _ 5 rfl (N := 9) rfl 28 _ _ rfl ji2 rfl rfl Tryd.underlying28 (.int .u8 0) 1 info5 rfl (by decide) (by omega) 0 (ok := fun _ => True) (okp := fun _ => True) rfl (fun _ hk => hk) trivial (of_decide_eq_true y6_) (Nat.le_trans (Nat.mul_le_mul_right _ (of_decide_eq_true y6_ : ji2.toNat ≤ 281474976710656)) (by omega)) (Below.refl _ _) (Nat.le_refl _) ?_; intro v152 w5 ho6 hb hg_ hnew_; clear hg_ hnew_; (first | rw [← Ny151.out] at ho6 | (simp only [Int.reduceToNat] at ho6; rw [← Ny151.out] at ho6)); have n0_ := Aside0.mk (Kd.R_lower ho6 (below_size y1_)); have n1_ := Aside0.mk (below_step y1_ hb); clear HB; have HO153 := n0_; have HB := n1_; clear n0_ n1_; clear hb ho6))
   go_loopg [3, 12] k (fun kq v3 v12 w' => ∃ (x3_1 : List Int) (x12_1 : Int), v12 = .int .i64 x12_1 ∧ Aside0 (hash_Hex.l0 kq x3_1 l0 (l0.length : Int) x12_1 = some r) ∧ Aside0 (kq ≤ k) ∧ Aside0 (Kd.R (Kd.int .u8) 5 w' w.heap.size (fun _ => True) v3 x3_1) ∧ Aside0 (Below w.heap.size w w'))
   case atStart => exact ⟨(y151), (0), y7_, H', ⟨Nat.le_refl _⟩, ⟨by (with_reducible repeat (first | apply Kd.R_alloc | apply Kd.R_drewN | apply Kd.R_drew)); exact HO153.out⟩, ⟨y1_⟩⟩
   case round =>
    clear H'
    try clear p2
    try clear c3
    try clear c3b0
    try clear c3b1
    try clear c4
    try clear c4b0
    try clear c4b1
    try clear p6
    obtain ⟨x3_1, x12_1, rfl, HA, HK1, HO_3, HB⟩ := hrel
    cases gk with
    | zero => exact absurd HA.out (by simp [hash_Hex.l0])
    | succ k1 =>
     have H := HA.out
     clear HA
     simp only [hash_Hex.l0] at H
     by_cases c7 : x12_1 < (l0.length : Int)
     ·rw [if_pos c7] at H
      have c7b0 : decide (x12_1 < (l0.length : Int)) = true := decide_eq_true c7
      clear c7
      by_cases c8 : 0 ≤ x12_1
      ·rw [if_pos c8] at H
       have c8b0 : decide (0 ≤ x12_1) = true := decide_eq_true c8
       clear c8
       by_cases c9 : x12_1 < (l0.length : Int)
       ·rw [if_pos c9] at H
        have c9b0 : decide (x12_1 < (l0.length : Int)) = true := decide_eq_true c9
        clear c9
        obtain ⟨ji10, hji10⟩ : ∃ j_ : Int, ((rd l0 x12_1) / 16) = j_ := ⟨_, rfl⟩
        replace H : (if 0 ≤ (ji10) then (if (ji10) < 16 then (if 0 ≤ (Go.bits .and .u8 (rd l0 x12_1) 15) then (if (Go.bits .and .u8 (rd l0 x12_1) 15) < 16 then ((some (([bt (⟨#[48, 49, 50, 51, 52, 53, 54, 55, 56, 57, 97, 98, 99, 100, 101, 102]⟩ : ByteArray) (ji10), bt (⟨#[48, 49, 50, 51, 52, 53, 54, 55, 56, 57, 97, 98, 99, 100, 101, 102]⟩ : ByteArray) (Go.bits .and .u8 (rd l0 x12_1) 15)] : List Int) : List Int)).bind fun y155 => (if x3_1.length + y155.length < 140737488355328 then (hash_Hex.l0 k1 (x3_1 ++ y155) l0 (l0.length : Int) (wrap64 (x12_1 + 1))) else (none))) else (none)) else (none)) else (none)) else (none)) = some r := by first | (rw [hji10] at H; exact H) | (simp only [hji10] at H ⊢; exact H)
        by_cases c11 : 0 ≤ (ji10)
        ·rw [if_pos c11] at H
         have c11b0 : decide (0 ≤ (ji10)) = true := decide_eq_true c11
         clear c11
         by_cases c12 : (ji10) < 16
         ·rw [if_pos c12] at H
          have c12b0 : decide ((ji10) < 16) = true := decide_eq_true c12
          clear c12
          by_cases c14 : 0 ≤ (Go.bits .and .u8 (rd l0 x12_1) 15)
          ·rw [if_pos c14] at H
           have c14b0 : decide (0 ≤ (Go.bits .and .u8 (rd l0 x12_1) 15)) = true := decide_eq_true c14
           clear c14
           by_cases c15 : (Go.bits .and .u8 (rd l0 x12_1) 15) < 16
           ·rw [if_pos c15] at H
            have c15b0 : decide ((Go.bits .and .u8 (rd l0 x12_1) 15) < 16) = true := decide_eq_true c15
            clear c15
            obtain ⟨y155, hy155⟩ : ∃ y_ : List Int, y_ = (([bt (⟨#[48, 49, 50, 51, 52, 53, 54, 55, 56, 57, 97, 98, 99, 100, 101, 102]⟩ : ByteArray) (ji10), bt (⟨#[48, 49, 50, 51, 52, 53, 54, 55, 56, 57, 97, 98, 99, 100, 101, 102]⟩ : ByteArray) (Go.bits .and .u8 (rd l0 x12_1) 15)] : List Int)) := ⟨_, rfl⟩
            replace H : (if x3_1.length + y155.length < 140737488355328 then (hash_Hex.l0 k1 (x3_1 ++ y155) l0 (l0.length : Int) (wrap64 (x12_1 + 1))) else (none)) = some r := by first | (rw [hy155]; with_reducible exact H) | (have H2_ := (Option.bind_some _ _).symm.trans H; rw [hy155]; with_reducible exact H2_) | (have H2_ := (Option.bind_some _ _).symm.trans H; with_reducible exact H2_) | with_reducible exact H | (rw [hy155]; exact H) | exact H
            have Ny155 := Aside0.mk hy155
            clear hy155
            by_cases c17 : x3_1.length + y155.length < 140737488355328
            ·rw [if_pos c17] at H
             have LMc17 := Aside0.mk c17
             clear c17
             obtain ⟨y158, hy158⟩ : ∃ y_ : List Int, y_ = (x3_1 ++ y155) := ⟨_, rfl⟩
             replace H : (hash_Hex.l0 k1 y158 l0 (l0.length : Int) (wrap64 (x12_1 + 1))) = some r := by first | (rw [hy158]; with_reducible exact H) | (have H2_ := (Option.bind_some _ _).symm.trans H; rw [hy158]; with_reducible exact H2_) | (have H2_ := (Option.bind_some _ _).symm.trans H; with_reducible exact H2_) | with_reducible exact H | (rw [hy158]; exact H) | exact H
             have Ny158 := Aside0.mk hy158
             clear hy158
             have H' := Aside0.mk H
             clear H
             have p154 : 0 ≤ (x12_1 : Int) := of_decide_eq_true y6_
             have q154 : x12_1 < (l0.length : Int) := of_decide_eq_true y6_
             obtain ⟨ad154, e154, hx154_0⟩ := Kd.at_int HR0.out x12_1 p154 q154
             cases e154
             replace hx154_0 := (HB.out.cell (World.block_lt_of_cell? w _ hx154_0)).trans hx154_0
             replace p154 := eq_true p154
             replace q154 := eq_true q154
             try go_wp2
             have n0_ := Aside0.mk (Kd.R_drew HO_3.out)
             have n1_ := Aside0.mk (below_drew1 HB.out)
             clear HO_3
             clear HB
             have HO_3 := n0_
             have HB := n1_
             clear n0_ n1_
             have p13 : 0 ≤ ((ji10) : Int) := of_decide_eq_true y6_
             have q13 : (ji10) < (16 : Int) := of_decide_eq_true y6_
             have hx13 := bt_at (⟨#[48, 49, 50, 51, 52, 53, 54, 55, 56, 57, 97, 98, 99, 100, 101, 102]⟩ : ByteArray) (ji10)
             replace p13 := eq_true p13
             replace q13 := eq_true q13
             have p16 : 0 ≤ ((Go.bits .and .u8 (rd l0 x12_1) 15) : Int) := of_decide_eq_true y6_
             have q16 : (Go.bits .and .u8 (rd l0 x12_1) 15) < (16 : Int) := of_decide_eq_true y6_
             have hx16 := bt_at (⟨#[48, 49, 50, 51, 52, 53, 54, 55, 56, 57, 97, 98, 99, 100, 101, 102]⟩ : ByteArray) (Go.bits .and .u8 (rd l0 x12_1) 15)
             replace p16 := eq_true p16
             replace q16 := eq_true q16
             refine start_ (n := 10) (S := fun w' => True) (ds := []) #[false, false, false, false, false, false, false, false, false, false] (by kernel_rfl) rfl rfl trivial (fun hHeld => ?_); refine with_tabW hash_Hex.tab5 hash_Hex.bits5 (fun HT_ HW_ => ?_)
             generalize wr.drew = w18 at HO_3 HB hHeld ⊢
             refine pure_ (i := 0) (N := some 16) (v := ?_) (a' := ?_) #[true, false, false, false, false, false, false, false, false, false] rfl rfl (any_of HT_.out (by kernel_rfl)) (fun _ _ _ h => h) (Or.inl ⟨by rfl, ?_⟩) ?_ ?_
             rotate_left
             ·intro w'
              go_simp
              with_reducible rfl
             rotate_left
             ·simp only [Act.put, List.setIfInBounds_toArray, List.set_cons_zero, List.set_cons_succ, i64_w, i32_w]
              rfl
             refine pure_ (i := 1) (N := some 17) (v := ?_) (a' := ?_) #[true, true, false, false, false, false, false, false, false, false] rfl rfl (any_of HT_.out (by kernel_rfl)) (fun _ _ _ h => h) (Or.inl ⟨by rfl, ?_⟩) ?_ ?_
             rotate_left
             ·intro w'
              go_simp
              with_reducible rfl
             rotate_left
             ·simp only [Act.put, List.setIfInBounds_toArray, List.set_cons_zero, List.set_cons_succ, i64_w, i32_w]
              rfl
             refine pure_ (i := 2) (N := some 18) (v := ?_) (a' := ?_) #[true, true, true, false, false, false, false, false, false, false] rfl rfl (any_of HT_.out (by kernel_rfl)) (fun _ _ _ h => h) (Or.inl ⟨by rfl, ?_⟩) ?_ ?_
             rotate_left
             ·intro w'
              go_simp
              with_reducible rfl
             rotate_left
             ·simp only [Act.put, List.setIfInBounds_toArray, List.set_cons_zero, List.set_cons_succ, i64_w, i32_w]
              rfl
             refine pure_ (i := 4) (N := some 20) (v := ?_) (a' := ?_) #[true, true, true, false, true, false, false, false, false, false] rfl rfl (any_of HT_.out (by kernel_rfl)) (fun _ _ _ h => h) (Or.inl ⟨by rfl, ?_⟩) ?_ ?_
             rotate_left
             ·intro w'
              go_simp
              with_reducible rfl
             rotate_left
             ·simp only [Act.put, List.setIfInBounds_toArray, List.set_cons_zero, List.set_cons_succ, i64_w, i32_w]
              rfl
             refine pure_ (i := 5) (N := some 21) (v := ?_) (a' := ?_) #[true, true, true, false, true, true, false, false, false, false] rfl rfl (any_of HT_.out (by kernel_rfl)) (fun _ _ _ h => h) (Or.inl ⟨by rfl, ?_⟩) ?_ ?_
             rotate_left
             ·intro w'
              go_simp
              with_reducible rfl
             rotate_left
             ·simp only [Act.put, List.setIfInBounds_toArray, List.set_cons_zero, List.set_cons_succ, i64_w, i32_w]
              rfl
             refine take_ (i := 3) (N := some 19) (v := ?_) (a' := ?_) #[true, true, true, true, true, true, false, false, false, false] rfl rfl (take_ofW HT_.out HW_.out (by kernel_rfl)) (fun _ _ _ h => h) (Or.inl ⟨by rfl, ?_⟩) hHeld ?_ ?_
             rotate_left
             ·intro w' _
              go_simp
              with_reducible rfl
             rotate_left
             ·simp only [Act.put, List.setIfInBounds_toArray, List.set_cons_zero, List.set_cons_succ, i64_w, i32_w]
              rfl
             refine take_ (i := 6) (N := some 22) (v := ?_) (a' := ?_) #[true, true, true, true, true, true, true, false, false, false] rfl rfl (take_ofW HT_.out HW_.out (by kernel_rfl)) (fun _ _ _ h => h) (Or.inl ⟨by rfl, ?_⟩) hHeld ?_ ?_
             rotate_left
             ·intro w' _
              go_simp
              with_reducible rfl
             rotate_left
             ·simp only [Act.put, List.setIfInBounds_toArray, List.set_cons_zero, List.set_cons_succ, i64_w, i32_w]
              rfl
             refine one_ (i := 7) (N := some 23) #[true, true, true, true, true, true, true, true, false, false] rfl rfl (one_of HT_.out (by kernel_rfl)) (by decide) (fun K hK => ?_)
             refine Kd.R_lit_step (Kd.int .u8) _ 5 ?hg (N := 23) ?hd (xs := ([bt (⟨#[48, 49, 50, 51, 52, 53, 54, 55, 56, 57, 97, 98, 99, 100, 101, 102]⟩ : ByteArray) (ji10), bt (⟨#[48, 49, 50, 51, 52, 53, 54, 55, 56, 57, 97, 98, 99, 100, 101, 102]⟩ : ByteArray) (Go.bits .and .u8 (rd l0 x12_1) 15)] : List Int)) (inner := [.int .u8 (bt (⟨#[48, 49, 50, 51, 52, 53, 54, 55, 56, 57, 97, 98, 99, 100, 101, 102]⟩ : ByteArray) (ji10)), .int .u8 (bt (⟨#[48, 49, 50, 51, 52, 53, 54, 55, 56, 57, 97, 98, 99, 100, 101, 102]⟩ : ByteArray) (Go.bits .and .u8 (rd l0 x12_1) 15))]) (ok := fun _ => True) (okp := fun _ => True) ?hr ?hp (fun _ hk => hk) trivial (Below.refl _ _) (Nat.le_refl _) (by simp) ?_; (case hd => rfl); (case hg => rfl); (case hr => first | (go_simp; done) | (go_simp; rfl)); (case hp => exact (Reps.one (show Kd.M (Kd.int .u8) _ _ _ (bt (⟨#[48, 49, 50, 51, 52, 53, 54, 55, 56, 57, 97, 98, 99, 100, 101, 102]⟩ : ByteArray) (ji10)) [.int .u8 (bt (⟨#[48, 49, 50, 51, 52, 53, 54, 55, 56, 57, 97, 98, 99, 100, 101, 102]⟩ : ByteArray) (ji10))] from rfl) (Reps.one (show Kd.M (Kd.int .u8) _ _ _ (bt (⟨#[48, 49, 50, 51, 52, 53, 54, 55, 56, 57, 97, 98, 99, 100, 101, 102]⟩ : ByteArray) (Go.bits .and .u8 (rd l0 x12_1) 15)) [.int .u8 (bt (⟨#[48, 49, 50, 51, 52, 53, 54, 55, 56, 57, 97, 98, 99, 100, 101, 102]⟩ : ByteArray) (Go.bits .and .u8 (rd l0 x12_1) 15))] from rfl) (Reps.none _ _))))
             intro v156 w19 ho20 hb hg_ hnew_
             clear hg_ hnew_
             (first | rw [← Ny155.out] at ho20 | (simp only [Int.reduceToNat] at ho20; rw [← Ny155.out] at ho20))
             have n0_ := Aside0.mk (Kd.R_elder' (by (with_reducible repeat (first | apply Kd.R_alloc | apply Kd.R_drewN | apply Kd.R_drew)); exact HO_3.out) (Kd.R_base ho20) hb)
             have n1_ := Aside0.mk (Kd.R_lower (Kd.R_new' ho20 (Kd.R_lt (by (with_reducible repeat (first | apply Kd.R_alloc | apply Kd.R_drewN | apply Kd.R_drew)); exact HO_3.out))) (below_size y1_))
             have n2_ := Aside0.mk (below_step y1_ hb)
             clear HO_3
             clear HB
             have HO_3 := n0_
             have HO157 := n1_
             have HB := n2_
             clear n0_ n1_ n2_
             clear hb ho20
             obtain ⟨Ao22, co22, eo22⟩ := Kd.R_slice HO157.out
             (first | subst eo22 | (injection eo22 with f1_ f2_ f3_; have f4_ := f1_.symm; have f5_ := f3_.symm; clear f1_ f2_ f3_; subst f4_; subst f5_))
             refine hK.out _ _ trivial (fun hHeld => ?_)
             clear hK K
             refine norm_ (a' := ?_) ?_ ?_
             rotate_left
             ·show Act.put _ (some 23) _ = _
              simp only [Act.put, List.setIfInBounds_toArray, List.set_cons_zero, List.set_cons_succ, i64_w, i32_w]
              rfl
             refine one_ (i := 8) (N := some 24) #[true, true, true, true, true, true, true, true, true, false] rfl rfl (one_of HT_.out (by kernel_rfl)) (by decide) (fun K hK => ?_)
             refine Kd.R_append_rows_step (Kd.int .u8) (w0 := w) w.heap.size (by rfl) (.tmp 16) (.tmp 23) 28 5 (.int .u8 0) 1 rfl Tryd.underlying28 info5 rfl (by decide) (by omega) u3 x3_1 y155 _ _ _ (fun k_ => some k_ ≠ (.slice Ao22 y155.length co22 : Value).ownBlock) (fun _ => False) rfl rfl ?aO ?aR (fun _ _ h => h) (fun _ h => h.elim) ?aF ?aB ?aS ?aL ?_
             (case aR => repeat (first | exact (Kd.R_reads' HO157.out).2.2 | (with_reducible refine Kd.C_alloc ?_ _) | (with_reducible refine Kd.C_drewN ?_ _) | (with_reducible refine Kd.C_drew ?_)))
             (case aB => exact y1_)
             (case aF => exact (fun k_ hk => Kd.fresh' (Kd.R_lt (by (with_reducible repeat (first | apply Kd.R_alloc | apply Kd.R_drewN | apply Kd.R_drew)); exact HO157.out)) k_ hk))
             (case aO => exact (by (with_reducible repeat (first | apply Kd.R_alloc | apply Kd.R_drewN | apply Kd.R_drew)); exact Kd.R_mono HO_3.out (fun _ hk => hk.2)))
             (case aS => exact (below_size y1_))
             (case aL => have := LMc17.out; omega)
             intro v159 w21 ho hb hg hat
             rw [← Ny158.out] at ho
             have n0_ := Aside0.mk (Kd.R_after (ok := (fun _ => True)) (by (with_reducible repeat (first | apply Kd.R_alloc | apply Kd.R_drewN | apply Kd.R_drew)); exact HO157.out) hg hat)
             have n1_ := Aside0.mk (hb)
             have n2_ := Aside0.mk (ho)
             clear HO157
             clear HB
             clear HO_3
             have HO157 := n0_
             have HB := n1_
             have HO160 := n2_
             clear n0_ n1_ n2_
             clear ho hb hg hat
             refine hK.out _ _ trivial (fun hHeld => ?_)
             clear hK K
             refine norm_ (a' := ?_) ?_ ?_
             rotate_left
             ·show Act.put _ (some 24) _ = _
              simp only [Act.put, List.setIfInBounds_toArray, List.set_cons_zero, List.set_cons_succ, i64_w, i32_w]
              rfl
             refine pure_ (i := 9) (N := some 3) (v := ?_) (a' := ?_) #[true, true, true, true, true, true, true, true, true, true] rfl rfl (any_of HT_.out (by kernel_rfl)) (fun _ _ _ h => h) (Or.inl ⟨by rfl, ?_⟩) ?_ ?_
             rotate_left
             ·intro w'
              go_simp
              with_reducible rfl
             rotate_left
             ·simp only [Act.put, List.setIfInBounds_toArray, List.set_cons_zero, List.set_cons_succ, i64_w, i32_w]
              rfl
             refine done_ (done_of HT_.out (by kernel_rfl)) ?_
             try go_wp2
             go_roundg k1
             case measure => have := HK1.out; omega
             case rel => exact ⟨(y158), (wrap64 (x12_1 + 1)), y7_, H', ⟨y18_⟩, ⟨by (with_reducible repeat (first | apply Kd.R_alloc | apply Kd.R_drewN | apply Kd.R_drew)); exact Kd.R_mono HO160.out (fun _ hk => trivial)⟩, ⟨y1_⟩⟩
            ·rw [if_neg c17] at H
             exact absurd H (by simp)
           ·rw [if_neg c15] at H
            exact absurd H (by simp)
          ·rw [if_neg c14] at H
           exact absurd H (by simp)
         ·rw [if_neg c12] at H
          exact absurd H (by simp)
        ·rw [if_neg c11] at H
         exact absurd H (by simp)
       ·rw [if_neg c9] at H
        exact absurd H (by simp)
      ·rw [if_neg c8] at H
       exact absurd H (by simp)
     ·rw [if_neg c7] at H
      have c7b0 : decide (x12_1 < (l0.length : Int)) = false := decide_eq_false c7
      clear c7
      obtain rfl := Option.some.inj H
      have hcv23 := own_string (P := Tryd.prog) Tryd.underlying28 Tryd.underlying5 Tryd.underlying9 (Kd.own_of_R HO_3.out)
      go_wp2
      go_ret
      exact ⟨by first | rfl | (simp [errW_none, errW_some] <;> rfl) | (simp only [← hji2]; first | rfl | (simp [errW_none, errW_some] <;> rfl)) | (simp [*, errW_none, errW_some] <;> rfl), y1_⟩
  ·rw [if_neg c4] at H
   exact absurd H (by simp)
 ·rw [if_neg c3] at H
  exact absurd H (by simp)
def manometerref03_Hex.f (l0 : List Int) : Option (ByteArray) := if l0.length ≤ 1000000000 then (if l0.all (fun x => decide (0 ≤ x ∧ x < 256)) = true then some (strOfNums (hex l0)) else none) else none
theorem manometerref03_Hex.calls (A0 : Option Addr) (c0 : Nat) (l0 : List Int) (r : ByteArray) (w : World) (hr0 : Kd.C (Kd.int .u8) w A0 l0.length l0) (hc0 : l0.length ≤ c0) (h : manometerref03_Hex.f l0 = some r) :
  Calls Tryd.prog 35 #[.slice A0 l0.length c0] w fun e w' => e = .returned (.string r) ∧ Below w.heap.size w w' := by
 unfold manometerref03_Hex.f at h
 split at h
 ·rename_i h1
  split at h
  ·rename_i h2
   obtain rfl := Option.some.inj h
   exact rhex_calls w A0 c0 l0 hr0 (fun x hx => of_decide_eq_true (List.all_eq_true.1 h2 x hx)) h1
  ·cases h
 ·cases h
def manometerlaw03_HashLetters.j0 : Nat → List Int → ByteArray → Bool → Option (Bool)
 | 0, _, _, _ => none
 | k + 1, x0, x1, x25 => if x25 = true then ((manometerlaw03_live.f).bind fun t166 => (some t166)) else ((hash_Unarmor.f x1).bind fun bt167 => ((manometerref03_Unarmor.f k x1).bind fun bt171 => ((hash_Unhex.f k x1).bind fun bt175 => ((manometerref03_Unhex.f k x1).bind fun bt179 => ((hash_Armor.f x0).bind fun t183 => ((manometerref03_Armor.f k x0).bind fun t184 => (if t183.toList = t184.toList then ((hash_Hex.f k x0).bind fun t185 => ((manometerref03_Hex.f x0).bind fun t186 => (if t185.toList = t186.toList then ((manometerref01_Equal.f bt167.1 bt171.1).bind fun t187 => (if t187 = true then (if bt167.2 = bt171.2 then ((manometerref01_Equal.f bt175.1 bt179.1).bind fun t188 => (if t188 = true then (some (bt175.2 == bt179.2)) else (some false))) else (some false)) else (some false))) else (some false)))) else (some false))))))))
def manometerlaw03_HashLetters.f (k : Nat) (l0 : List Int) (a1 : ByteArray) : Option (Bool) := (manometerlaw03_live.f).bind fun t161 => (if t161 = true then ((manometerlaw03_short.f k (([l0] : List (List Int)))).bind fun t165 => (if t165 = true then (manometerlaw03_HashLetters.j0 k l0 a1 (decide ((a1.size : Int) > 2000))) else (manometerlaw03_HashLetters.j0 k l0 a1 true))) else (manometerlaw03_HashLetters.j0 k l0 a1 true))
set_option maxHeartbeats 8000000 in
set_option maxRecDepth 100000 in
theorem manometerlaw03_HashLetters.calls (k : Nat) (P0_ : Nat → Prop) (A0 : Option Addr) (c0 : Nat) (l0 : List Int) (a1 : ByteArray) (r : Bool) (w : World) (hT : Aside0 (Tab w)) (hs0 : Kd.V (Kd.int .u8) 5 w w.heap.size (fun k_ => P0_ k_) (.slice A0 l0.length c0) l0) (h : manometerlaw03_HashLetters.f k l0 a1 = some r) :
  Calls Tryd.prog 10 #[.slice A0 l0.length c0, .string a1] w fun e w' => e = .returned (.bool r) ∧ Below w.heap.size w w' := by
 have HO0 := Aside0.mk (show Kd.V (Kd.int .u8) 5 w w.heap.size (fun k_ => (P0_ k_ ∨ w.heap.size ≤ k_)) (.slice A0 l0.length c0) l0 from Kd.V_mono hs0 (fun k_ hk => .inl hk))
 have HB := Aside0.mk (Below.refl w.heap.size w)
 have H : ((manometerlaw03_live.f).bind fun t161 => (if t161 = true then ((manometerlaw03_short.f k (([l0] : List (List Int)))).bind fun t165 => (if t165 = true then (manometerlaw03_HashLetters.j0 k l0 a1 (decide ((a1.size : Int) > 2000))) else (manometerlaw03_HashLetters.j0 k l0 a1 true))) else (manometerlaw03_HashLetters.j0 k l0 a1 true))) = some r := h
 clear h
 have HC3 := Aside0.mk H
 clear H
 go_enter Tryd.func10, Tryd.ntmps10
 go_upto_region 1 with (fail)
 go_cut [25] (fun v25 wc => ∃ (kq : Nat) (x25_2 : Bool), v25 = .bool x25_2 ∧ Aside0 (manometerlaw03_HashLetters.j0 kq l0 a1 x25_2 = some r) ∧ Aside0 (kq ≤ k) ∧ Aside0 (Kd.V (Kd.int .u8) 5 wc w.heap.size (fun k_ => (P0_ k_ ∨ w.heap.size ≤ k_)) (.slice A0 l0.length c0) l0) ∧ Aside0 (Below w.heap.size w wc))
 case first =>
  have H := HC3.out
  clear HC3
  replace H := Option.bind_eq_some_iff.mp H
  obtain ⟨t161, A40, H⟩ := H
  replace H : (if t161 = true then ((manometerlaw03_short.f k (([l0] : List (List Int)))).bind fun t165 => (if t165 = true then (manometerlaw03_HashLetters.j0 k l0 a1 (decide ((a1.size : Int) > 2000))) else (manometerlaw03_HashLetters.j0 k l0 a1 true))) else (manometerlaw03_HashLetters.j0 k l0 a1 true)) = some r := H
  have A4 := Aside0.mk A40
  clear A40
  by_cases c5 : t161 = true
  ·subst c5
   have H1 : ((manometerlaw03_short.f k (([l0] : List (List Int)))).bind fun t165 => (if t165 = true then (manometerlaw03_HashLetters.j0 k l0 a1 (decide ((a1.size : Int) > 2000))) else (manometerlaw03_HashLetters.j0 k l0 a1 true))) = some r := by rw [if_pos rfl] at H; exact H
   clear H
   have H := H1
   clear H1
   obtain ⟨y162, hy162⟩ : ∃ y_ : List (List Int), y_ = (([l0] : List (List Int))) := ⟨_, rfl⟩
   replace H : ((manometerlaw03_short.f k y162).bind fun t165 => (if t165 = true then (manometerlaw03_HashLetters.j0 k l0 a1 (decide ((a1.size : Int) > 2000))) else (manometerlaw03_HashLetters.j0 k l0 a1 true))) = some r := by first | (rw [hy162]; with_reducible exact H) | (have H2_ := (Option.bind_some _ _).symm.trans H; rw [hy162]; with_reducible exact H2_) | (have H2_ := (Option.bind_some _ _).symm.trans H; with_reducible exact H2_) | with_reducible exact H | (rw [hy162]; exact H) | exact H
   have Ny162 := Aside0.mk hy162
   clear hy162
   replace H := Option.bind_eq_some_iff.mp H
   obtain ⟨t165, A60, H⟩ := H
   replace H : (if t165 = true then (manometerlaw03_HashLetters.j0 k l0 a1 (decide ((a1.size : Int) > 2000))) else (manometerlaw03_HashLetters.j0 k l0 a1 true)) = some r := H
   have A6 := Aside0.mk A60
   clear A60
   by_cases c7 : t165 = true
   ·subst c7
    have H1 : (manometerlaw03_HashLetters.j0 k l0 a1 (decide ((a1.size : Int) > 2000))) = some r := by rw [if_pos rfl] at H; exact H
    clear H
    have H := H1
    clear H1
    have H' := Aside0.mk H
    clear H
    go_wp2_with (first | ((with_reducible refine gate_callee (f := 12) rfl ?_); refine goesL_ (some 13) rfl rfl Tryd.func12 (by kernel_rfl) rfl #[] rfl y2_ ?_; (with_reducible refine (manometerlaw03_live.calls  true _ ?side1 A4.out).mono ?_); (case side1 => exact ⟨Tab_below hT.out y1_⟩); rintro e w8 ⟨rfl, hb⟩; refine ⟨_, rfl, ?_⟩; have n0_ := Aside0.mk (Kd.V_below y16_ hb); have n1_ := Aside0.mk (below_step y1_ hb); clear HO0; clear HB; have HO0 := n0_; have HB := n1_; clear n0_ n1_; (try clear hb); (try clear hb2); (try clear hk); (try clear hi)) | ((with_reducible refine gate_dst (N := 17) rfl ?_); (try (refine gate_guard (by rfl) ?_; dsimp only)); refine Kd.N_lit (Kd.slice 5 (Kd.int .u8)) _ 28 ?hg (N' := 17) ?hd (xs := ([l0] : List (List Int))) (inner := [.slice A0 l0.length c0]) (ok := (fun k_ => (P0_ k_ ∨ w.heap.size ≤ k_))) (okp := (fun k_ => (P0_ k_ ∨ w.heap.size ≤ k_))) ?hr ?hp (fun _ hk => hk) ((show ∀ k_, w8.heap.size ≤ k_ → (fun k_ => (P0_ k_ ∨ w.heap.size ≤ k_)) k_ from fun k_ hk => (.inr (Nat.le_trans (below_size y1_) hk))) _ (Nat.le_refl _)) (Below.refl _ _) (Nat.le_refl _) (by simp) ?_; (case hd => rfl); (case hg => rfl); (case hr => first | (go_simp; done) | (go_simp; rfl)); (case hp => exact (Reps.one (show Kd.FK (Kd.slice 5 (Kd.int .u8)) _ _ l0 [.slice A0 l0.length c0] from (Kd.FK_slice_mk (Kd.V_reads' (Kd.V_mono (ok' := (fun k_ => (P0_ k_ ∨ w.heap.size ≤ k_))) (HO0.out) (fun k_ hk => hk))).2.1 (Kd.V_F (Kd.V_mono (ok' := (fun k_ => (P0_ k_ ∨ w.heap.size ≤ k_))) (HO0.out) (fun k_ hk => hk))))) (Reps.none _ _))); intro v163 w9 ho10 hb hg_ hnew_; clear hg_ hnew_; (first | rw [← Ny162.out] at ho10 | (simp only [Int.reduceToNat] at ho10; rw [← Ny162.out] at ho10)); have n0_ := Aside0.mk (Kd.V_elder' y16_ (Kd.N_base ho10) hb); have n1_ := Aside0.mk (Kd.N_lower ho10 (below_size y1_)); have n2_ := Aside0.mk (below_step y1_ hb); clear HO0; clear HB; have HO0 := n0_; have HO164 := n1_; have HB := n2_; clear n0_ n1_ n2_; clear hb ho10; obtain ⟨Ao11, co11, eo11⟩ := Kd.N_slice HO164.out; subst eo11) | (go_at_call 13; (with_reducible refine (manometerlaw03_short.calls k _ _ y162 true _ ?side1 ?side2 A6.out).mono ?_); (case side1 => repeat (first | exact (Kd.N_reads' HO164.out).2.2 | (with_reducible refine Kd.C_alloc ?_ _) | (with_reducible refine Kd.C_drewN ?_ _) | (with_reducible refine Kd.C_drew ?_))); (case side2 => exact (Kd.N_reads' HO164.out).2.1); rintro e w' ⟨rfl, ⟨nd, rfl⟩⟩))
    go_meet
    case rel => exact ⟨_, (decide ((a1.size : Int) > 2000)), y7_, H', ⟨by first | omega | exact Nat.le_refl _⟩, ⟨by (with_reducible repeat (first | apply Kd.V_alloc | apply Kd.V_drewN | apply Kd.V_drew)); exact Kd.V_mono HO0.out (fun _ hk => hk.1)⟩, ⟨y1_⟩⟩
   ·replace c7 := Bool.eq_false_iff.mpr c7
    subst c7
    have H1 : (manometerlaw03_HashLetters.j0 k l0 a1 true) = some r := by rw [if_neg (show ¬ (false = true) by decide)] at H; exact H
    clear H
    have H := H1
    clear H1
    have H' := Aside0.mk H
    clear H
    go_wp2_with (first | ((with_reducible refine gate_callee (f := 12) rfl ?_); refine goesL_ (some 13) rfl rfl Tryd.func12 (by kernel_rfl) rfl #[] rfl y2_ ?_; (with_reducible refine (manometerlaw03_live.calls  true _ ?side1 A4.out).mono ?_); (case side1 => exact ⟨Tab_below hT.out y1_⟩); rintro e w12 ⟨rfl, hb⟩; refine ⟨_, rfl, ?_⟩; have n0_ := Aside0.mk (Kd.V_below y16_ hb); have n1_ := Aside0.mk (below_step y1_ hb); clear HO0; clear HB; have HO0 := n0_; have HB := n1_; clear n0_ n1_; (try clear hb); (try clear hb2); (try clear hk); (try clear hi)) | ((with_reducible refine gate_dst (N := 17) rfl ?_); (try (refine gate_guard (by rfl) ?_; dsimp only)); refine Kd.N_lit (Kd.slice 5 (Kd.int .u8)) _ 28 ?hg (N' := 17) ?hd (xs := ([l0] : List (List Int))) (inner := [.slice A0 l0.length c0]) (ok := (fun k_ => (P0_ k_ ∨ w.heap.size ≤ k_))) (okp := (fun k_ => (P0_ k_ ∨ w.heap.size ≤ k_))) ?hr ?hp (fun _ hk => hk) ((show ∀ k_, w12.heap.size ≤ k_ → (fun k_ => (P0_ k_ ∨ w.heap.size ≤ k_)) k_ from fun k_ hk => (.inr (Nat.le_trans (below_size y1_) hk))) _ (Nat.le_refl _)) (Below.refl _ _) (Nat.le_refl _) (by simp) ?_; (case hd => rfl); (case hg => rfl); (case hr => first | (go_simp; done) | (go_simp; rfl)); (case hp => exact (Reps.one (show Kd.FK (Kd.slice 5 (Kd.int .u8)) _ _ l0 [.slice A0 l0.length c0] from (Kd.FK_slice_mk (Kd.V_reads' (Kd.V_mono (ok' := (fun k_ => (P0_ k_ ∨ w.heap.size ≤ k_))) (HO0.out) (fun k_ hk => hk))).2.1 (Kd.V_F (Kd.V_mono (ok' := (fun k_ => (P0_ k_ ∨ w.heap.size ≤ k_))) (HO0.out) (fun k_ hk => hk))))) (Reps.none _ _))); intro v163 w13 ho14 hb hg_ hnew_; clear hg_ hnew_; (first | rw [← Ny162.out] at ho14 | (simp only [Int.reduceToNat] at ho14; rw [← Ny162.out] at ho14)); have n0_ := Aside0.mk (Kd.V_elder' y16_ (Kd.N_base ho14) hb); have n1_ := Aside0.mk (Kd.N_lower ho14 (below_size y1_)); have n2_ := Aside0.mk (below_step y1_ hb); clear HO0; clear HB; have HO0 := n0_; have HO164 := n1_; have HB := n2_; clear n0_ n1_ n2_; clear hb ho14; obtain ⟨Ao15, co15, eo15⟩ := Kd.N_slice HO164.out; subst eo15) | (go_at_call 13; (with_reducible refine (manometerlaw03_short.calls k _ _ y162 false _ ?side1 ?side2 A6.out).mono ?_); (case side1 => repeat (first | exact (Kd.N_reads' HO164.out).2.2 | (with_reducible refine Kd.C_alloc ?_ _) | (with_reducible refine Kd.C_drewN ?_ _) | (with_reducible refine Kd.C_drew ?_))); (case side2 => exact (Kd.N_reads' HO164.out).2.1); rintro e w' ⟨rfl, ⟨nd, rfl⟩⟩))
    go_meet
    case rel => exact ⟨_, (true), y7_, H', ⟨by first | omega | exact Nat.le_refl _⟩, ⟨by (with_reducible repeat (first | apply Kd.V_alloc | apply Kd.V_drewN | apply Kd.V_drew)); exact Kd.V_mono HO0.out (fun _ hk => hk.1)⟩, ⟨y1_⟩⟩
  ·replace c5 := Bool.eq_false_iff.mpr c5
   subst c5
   have H1 : (manometerlaw03_HashLetters.j0 k l0 a1 true) = some r := by rw [if_neg (show ¬ (false = true) by decide)] at H; exact H
   clear H
   have H := H1
   clear H1
   have H' := Aside0.mk H
   clear H
   go_wp2_with (first | ((with_reducible refine gate_callee (f := 12) rfl ?_); refine goesL_ (some 13) rfl rfl Tryd.func12 (by kernel_rfl) rfl #[] rfl y2_ ?_; (with_reducible refine (manometerlaw03_live.calls  false _ ?side1 A4.out).mono ?_); (case side1 => exact ⟨Tab_below hT.out y1_⟩); rintro e w16 ⟨rfl, hb⟩; refine ⟨_, rfl, ?_⟩; have n0_ := Aside0.mk (Kd.V_below y16_ hb); have n1_ := Aside0.mk (below_step y1_ hb); clear HO0; clear HB; have HO0 := n0_; have HB := n1_; clear n0_ n1_; (try clear hb); (try clear hb2); (try clear hk); (try clear hi)))
   go_meet
   case rel => exact ⟨_, (true), y7_, H', ⟨by first | omega | exact Nat.le_refl _⟩, ⟨y16_⟩, ⟨y1_⟩⟩
 case rest =>
  clear HC3
  try clear c1
  try clear p2
  try clear c5
  try clear c7
  try clear c10
  try clear c12
  obtain ⟨kq, x25_2, rfl, HA, HJ2, HO_0, HB⟩ := hcut
  cases kq with
  | zero => exact absurd HA.out (by simp [manometerlaw03_HashLetters.j0])
  | succ kj2 =>
   have H := HA.out
   clear HA
   simp only [manometerlaw03_HashLetters.j0] at H
   by_cases c17 : x25_2 = true
   ·subst c17
    have H1 : ((manometerlaw03_live.f).bind fun t166 => (some t166)) = some r := by rw [if_pos rfl] at H; exact H
    clear H
    have H := H1
    clear H1
    replace H := Option.bind_eq_some_iff.mp H
    obtain ⟨t166, A180, H⟩ := H
    replace H : (some t166) = some r := H
    have A18 := Aside0.mk A180
    clear A180
    obtain rfl := Option.some.inj H
    go_wp2_with (first | ((with_reducible refine gate_callee (f := 12) rfl ?_); refine goesL_ (some 26) rfl rfl Tryd.func12 (by kernel_rfl) rfl #[] rfl y2_ ?_; (with_reducible refine (manometerlaw03_live.calls  t166 _ ?side1 A18.out).mono ?_); (case side1 => exact ⟨Tab_below hT.out y1_⟩); rintro e w19 ⟨rfl, hb⟩; refine ⟨_, rfl, ?_⟩; have n0_ := Aside0.mk (Kd.V_below y4_ hb); have n1_ := Aside0.mk (below_step y1_ hb); clear HO_0; clear HB; have HO_0 := n0_; have HB := n1_; clear n0_ n1_; (try clear hb); (try clear hb2); (try clear hk); (try clear hi)))
    go_ret
    exact ⟨y11_, y1_⟩
   ·replace c17 := Bool.eq_false_iff.mpr c17
    subst c17
    have H1 : ((hash_Unarmor.f a1).bind fun bt167 => ((manometerref03_Unarmor.f kj2 a1).bind fun bt171 => ((hash_Unhex.f kj2 a1).bind fun bt175 => ((manometerref03_Unhex.f kj2 a1).bind fun bt179 => ((hash_Armor.f l0).bind fun t183 => ((manometerref03_Armor.f kj2 l0).bind fun t184 => (if t183.toList = t184.toList then ((hash_Hex.f kj2 l0).bind fun t185 => ((manometerref03_Hex.f l0).bind fun t186 => (if t185.toList = t186.toList then ((manometerref01_Equal.f bt167.1 bt171.1).bind fun t187 => (if t187 = true then (if bt167.2 = bt171.2 then ((manometerref01_Equal.f bt175.1 bt179.1).bind fun t188 => (if t188 = true then (some (bt175.2 == bt179.2)) else (some false))) else (some false)) else (some false))) else (some false)))) else (some false)))))))) = some r := by rw [if_neg (show ¬ (false = true) by decide)] at H; exact H
    clear H
    have H := H1
    clear H1
    replace H := Option.bind_eq_some_iff.mp H
    obtain ⟨⟨t167, t168⟩, A200, H⟩ := H
    replace H : ((manometerref03_Unarmor.f kj2 a1).bind fun bt171 => ((hash_Unhex.f kj2 a1).bind fun bt175 => ((manometerref03_Unhex.f kj2 a1).bind fun bt179 => ((hash_Armor.f l0).bind fun t183 => ((manometerref03_Armor.f kj2 l0).bind fun t184 => (if t183.toList = t184.toList then ((hash_Hex.f kj2 l0).bind fun t185 => ((manometerref03_Hex.f l0).bind fun t186 => (if t185.toList = t186.toList then ((manometerref01_Equal.f t167 bt171.1).bind fun t187 => (if t187 = true then (if t168 = bt171.2 then ((manometerref01_Equal.f bt175.1 bt179.1).bind fun t188 => (if t188 = true then (some (bt175.2 == bt179.2)) else (some false))) else (some false)) else (some false))) else (some false)))) else (some false))))))) = some r := H
    have A20 := Aside0.mk A200
    clear A200
    replace H := Option.bind_eq_some_iff.mp H
    obtain ⟨⟨t171, t172⟩, A210, H⟩ := H
    replace H : ((hash_Unhex.f kj2 a1).bind fun bt175 => ((manometerref03_Unhex.f kj2 a1).bind fun bt179 => ((hash_Armor.f l0).bind fun t183 => ((manometerref03_Armor.f kj2 l0).bind fun t184 => (if t183.toList = t184.toList then ((hash_Hex.f kj2 l0).bind fun t185 => ((manometerref03_Hex.f l0).bind fun t186 => (if t185.toList = t186.toList then ((manometerref01_Equal.f t167 t171).bind fun t187 => (if t187 = true then (if t168 = t172 then ((manometerref01_Equal.f bt175.1 bt179.1).bind fun t188 => (if t188 = true then (some (bt175.2 == bt179.2)) else (some false))) else (some false)) else (some false))) else (some false)))) else (some false)))))) = some r := H
    have A21 := Aside0.mk A210
    clear A210
    replace H := Option.bind_eq_some_iff.mp H
    obtain ⟨⟨t175, t176⟩, A220, H⟩ := H
    replace H : ((manometerref03_Unhex.f kj2 a1).bind fun bt179 => ((hash_Armor.f l0).bind fun t183 => ((manometerref03_Armor.f kj2 l0).bind fun t184 => (if t183.toList = t184.toList then ((hash_Hex.f kj2 l0).bind fun t185 => ((manometerref03_Hex.f l0).bind fun t186 => (if t185.toList = t186.toList then ((manometerref01_Equal.f t167 t171).bind fun t187 => (if t187 = true then (if t168 = t172 then ((manometerref01_Equal.f t175 bt179.1).bind fun t188 => (if t188 = true then (some (t176 == bt179.2)) else (some false))) else (some false)) else (some false))) else (some false)))) else (some false))))) = some r := H
    have A22 := Aside0.mk A220
    clear A220
    replace H := Option.bind_eq_some_iff.mp H
    obtain ⟨⟨t179, t180⟩, A230, H⟩ := H
    replace H : ((hash_Armor.f l0).bind fun t183 => ((manometerref03_Armor.f kj2 l0).bind fun t184 => (if t183.toList = t184.toList then ((hash_Hex.f kj2 l0).bind fun t185 => ((manometerref03_Hex.f l0).bind fun t186 => (if t185.toList = t186.toList then ((manometerref01_Equal.f t167 t171).bind fun t187 => (if t187 = true then (if t168 = t172 then ((manometerref01_Equal.f t175 t179).bind fun t188 => (if t188 = true then (some (t176 == t180)) else (some false))) else (some false)) else (some false))) else (some false)))) else (some false)))) = some r := H
    have A23 := Aside0.mk A230
    clear A230
    replace H := Option.bind_eq_some_iff.mp H
    obtain ⟨t183, A240, H⟩ := H
    replace H : ((manometerref03_Armor.f kj2 l0).bind fun t184 => (if t183.toList = t184.toList then ((hash_Hex.f kj2 l0).bind fun t185 => ((manometerref03_Hex.f l0).bind fun t186 => (if t185.toList = t186.toList then ((manometerref01_Equal.f t167 t171).bind fun t187 => (if t187 = true then (if t168 = t172 then ((manometerref01_Equal.f t175 t179).bind fun t188 => (if t188 = true then (some (t176 == t180)) else (some false))) else (some false)) else (some false))) else (some false)))) else (some false))) = some r := H
    have A24 := Aside0.mk A240
    clear A240
    replace H := Option.bind_eq_some_iff.mp H
    obtain ⟨t184, A250, H⟩ := H
    replace H : (if t183.toList = t184.toList then ((hash_Hex.f kj2 l0).bind fun t185 => ((manometerref03_Hex.f l0).bind fun t186 => (if t185.toList = t186.toList then ((manometerref01_Equal.f t167 t171).bind fun t187 => (if t187 = true then (if t168 = t172 then ((manometerref01_Equal.f t175 t179).bind fun t188 => (if t188 = true then (some (t176 == t180)) else (some false))) else (some false)) else (some false))) else (some false)))) else (some false)) = some r := H
    have A25 := Aside0.mk A250
    clear A250
    by_cases c26 : t183.toList = t184.toList
    ·rw [if_pos c26] at H
     have c26b0 : (t183.toList == t184.toList) = true := beq_iff_eq.mpr c26
     have c26b1 : (t183.toList != t184.toList) = false := bne_eq_false_iff_eq.mpr c26
     clear c26
     replace H := Option.bind_eq_some_iff.mp H
     obtain ⟨t185, A270, H⟩ := H
     replace H : ((manometerref03_Hex.f l0).bind fun t186 => (if t185.toList = t186.toList then ((manometerref01_Equal.f t167 t171).bind fun t187 => (if t187 = true then (if t168 = t172 then ((manometerref01_Equal.f t175 t179).bind fun t188 => (if t188 = true then (some (t176 == t180)) else (some false))) else (some false)) else (some false))) else (some false))) = some r := H
     have A27 := Aside0.mk A270
     clear A270
     replace H := Option.bind_eq_some_iff.mp H
     obtain ⟨t186, A280, H⟩ := H
     replace H : (if t185.toList = t186.toList then ((manometerref01_Equal.f t167 t171).bind fun t187 => (if t187 = true then (if t168 = t172 then ((manometerref01_Equal.f t175 t179).bind fun t188 => (if t188 = true then (some (t176 == t180)) else (some false))) else (some false)) else (some false))) else (some false)) = some r := H
     have A28 := Aside0.mk A280
     clear A280
     by_cases c29 : t185.toList = t186.toList
     ·rw [if_pos c29] at H
      have c29b0 : (t185.toList == t186.toList) = true := beq_iff_eq.mpr c29
      have c29b1 : (t185.toList != t186.toList) = false := bne_eq_false_iff_eq.mpr c29
      clear c29
      replace H := Option.bind_eq_some_iff.mp H
      obtain ⟨t187, A300, H⟩ := H
      replace H : (if t187 = true then (if t168 = t172 then ((manometerref01_Equal.f t175 t179).bind fun t188 => (if t188 = true then (some (t176 == t180)) else (some false))) else (some false)) else (some false)) = some r := H
      have A30 := Aside0.mk A300
      clear A300
      by_cases c31 : t187 = true
      ·subst c31
       have H1 : (if t168 = t172 then ((manometerref01_Equal.f t175 t179).bind fun t188 => (if t188 = true then (some (t176 == t180)) else (some false))) else (some false)) = some r := by rw [if_pos rfl] at H; exact H
       clear H
       have H := H1
       clear H1
       by_cases c32 : t168 = t172
       ·rw [if_pos c32] at H
        have c32b0 : (t168 == t172) = true := beq_iff_eq.mpr c32
        have c32b1 : (t168 != t172) = false := bne_eq_false_iff_eq.mpr c32
        clear c32
        replace H := Option.bind_eq_some_iff.mp H
        obtain ⟨t188, A330, H⟩ := H
        replace H : (if t188 = true then (some (t176 == t180)) else (some false)) = some r := H
        have A33 := Aside0.mk A330
        clear A330
        by_cases c34 : t188 = true
        ·subst c34
         have H1 : (some (t176 == t180)) = some r := by rw [if_pos rfl] at H; exact H
         clear H
         have H := H1
         clear H1
         obtain rfl := Option.some.inj H
         go_wp2_with (first | ((with_reducible refine gate_callee (f := 28) rfl ?_); refine goesL_ (some 29) rfl rfl Tryd.func28 (by kernel_rfl) rfl #[.string a1] rfl y2_ ?_; (with_reducible refine (hash_Unarmor.calls a1 t167 t168 _ A20.out).mono ?_); rintro e w35 ⟨v169, rfl, ho0, hb⟩; refine ⟨_, rfl, ?_⟩; have n0_ := Aside0.mk (Kd.V_elder' y4_ (Kd.R_base ho0) hb); have n1_ := Aside0.mk (Kd.R_lower (Kd.R_newM (M := fun k_ => (w.heap.size ≤ k_)) ho0 (below_size y1_) (fun k_ h_ => h_)) (below_size y1_)); have n2_ := Aside0.mk (below_step y1_ hb); clear HO_0; clear HB; have HO_0 := n0_; have HO170 := n1_; have HB := n2_; clear n0_ n1_ n2_; (try clear hb); (try clear hb2); (try clear hk); (try clear hi); (try clear ho0)) | ((with_reducible refine gate_callee (f := 29) rfl ?_); refine goesL_ (some 34) rfl rfl Tryd.func29 (by kernel_rfl) rfl #[.string a1] rfl y2_ ?_; (with_reducible refine (manometerref03_Unarmor.calls kj2 a1 t171 t172 _ A21.out).mono ?_); rintro e w36 ⟨v173, rfl, ho0, hb⟩; refine ⟨_, rfl, ?_⟩; have n0_ := Aside0.mk (Kd.V_elder' y4_ (Kd.R_base ho0) hb); have n1_ := Aside0.mk (Kd.R_elder' y3_ (Kd.R_base ho0) hb); have n2_ := Aside0.mk (Kd.R_lower (Kd.R_new' (Kd.R_newM (M := fun k_ => (w.heap.size ≤ k_)) ho0 (below_size y1_) (fun k_ h_ => h_)) (Kd.R_lt y3_)) (below_size y1_)); have n3_ := Aside0.mk (below_step y1_ hb); clear HO_0; clear HO170; clear HB; have HO_0 := n0_; have HO170 := n1_; have HO174 := n2_; have HB := n3_; clear n0_ n1_ n2_ n3_; (try clear hb); (try clear hb2); (try clear hk); (try clear hi); (try clear ho0)) | ((with_reducible refine gate_callee (f := 30) rfl ?_); refine goesL_ (some 39) rfl rfl Tryd.func30 (by kernel_rfl) rfl #[.string a1] rfl y2_ ?_; (with_reducible refine (hash_Unhex.calls kj2 a1 t175 t176 _ A22.out).mono ?_); rintro e w37 ⟨v177, rfl, ho0, hb⟩; refine ⟨_, rfl, ?_⟩; have n0_ := Aside0.mk (Kd.V_elder' y4_ (Kd.R_base ho0) hb); have n1_ := Aside0.mk (Kd.R_elder' y3_ (Kd.R_base ho0) hb); have n2_ := Aside0.mk (Kd.R_elder' y5_ (Kd.R_base ho0) hb); have n3_ := Aside0.mk (Kd.R_lower (Kd.R_new' (Kd.R_new' (Kd.R_newM (M := fun k_ => (w.heap.size ≤ k_)) ho0 (below_size y1_) (fun k_ h_ => h_)) (Kd.R_lt y3_)) (Kd.R_lt y5_)) (below_size y1_)); have n4_ := Aside0.mk (below_step y1_ hb); clear HO_0; clear HO170; clear HO174; clear HB; have HO_0 := n0_; have HO170 := n1_; have HO174 := n2_; have HO178 := n3_; have HB := n4_; clear n0_ n1_ n2_ n3_ n4_; (try clear hb); (try clear hb2); (try clear hk); (try clear hi); (try clear ho0)) | ((with_reducible refine gate_callee (f := 31) rfl ?_); refine goesL_ (some 44) rfl rfl Tryd.func31 (by kernel_rfl) rfl #[.string a1] rfl y2_ ?_; (with_reducible refine (manometerref03_Unhex.calls kj2 a1 t179 t180 _ A23.out).mono ?_); rintro e w38 ⟨v181, rfl, ho0, hb⟩; refine ⟨_, rfl, ?_⟩; have n0_ := Aside0.mk (Kd.V_elder' y4_ (Kd.R_base ho0) hb); have n1_ := Aside0.mk (Kd.R_elder' y3_ (Kd.R_base ho0) hb); have n2_ := Aside0.mk (Kd.R_elder' y5_ (Kd.R_base ho0) hb); have n3_ := Aside0.mk (Kd.R_elder' y8_ (Kd.R_base ho0) hb); have n4_ := Aside0.mk (Kd.R_lower (Kd.R_new' (Kd.R_new' (Kd.R_new' (Kd.R_newM (M := fun k_ => (w.heap.size ≤ k_)) ho0 (below_size y1_) (fun k_ h_ => h_)) (Kd.R_lt y3_)) (Kd.R_lt y5_)) (Kd.R_lt y8_)) (below_size y1_)); have n5_ := Aside0.mk (below_step y1_ hb); clear HO_0; clear HO170; clear HO174; clear HO178; clear HB; have HO_0 := n0_; have HO170 := n1_; have HO174 := n2_; have HO178 := n3_; have HO182 := n4_; have HB := n5_; clear n0_ n1_ n2_ n3_ n4_ n5_; (try clear hb); (try clear hb2); (try clear hk); (try clear hi); (try clear ho0)) | ((with_reducible refine gate_callee (f := 32) rfl ?_); refine goesL_ (some 48) rfl rfl Tryd.func32 (by kernel_rfl) rfl #[.slice A0 l0.length c0] rfl y2_ ?_; (with_reducible refine (hash_Armor.calls _ _ l0 t183 _ ?side1 ?side2 A24.out).mono ?_); (case side1 => repeat (first | exact (Kd.V_reads' HO_0.out).2.2 | (with_reducible refine Kd.C_alloc ?_ _) | (with_reducible refine Kd.C_drewN ?_ _) | (with_reducible refine Kd.C_drew ?_))); (case side2 => exact (Kd.V_reads' HO_0.out).2.1); rintro e w39 ⟨rfl, hb⟩; refine ⟨_, rfl, ?_⟩; have n0_ := Aside0.mk (Kd.V_below y4_ hb); have n1_ := Aside0.mk (Kd.R_below y3_ hb); have n2_ := Aside0.mk (Kd.R_below y5_ hb); have n3_ := Aside0.mk (Kd.R_below y8_ hb); have n4_ := Aside0.mk (Kd.R_below y9_ hb); have n5_ := Aside0.mk (below_step y1_ hb); clear HO_0; clear HO170; clear HO174; clear HO178; clear HO182; clear HB; have HO_0 := n0_; have HO170 := n1_; have HO174 := n2_; have HO178 := n3_; have HO182 := n4_; have HB := n5_; clear n0_ n1_ n2_ n3_ n4_ n5_; (try clear hb); (try clear hb2); (try clear hk); (try clear hi)) | ((with_reducible refine gate_callee (f := 33) rfl ?_); refine goesL_ (some 50) rfl rfl Tryd.func33 (by kernel_rfl) rfl #[.slice A0 l0.length c0] rfl y2_ ?_; (with_reducible refine (manometerref03_Armor.calls kj2 _ _ l0 t184 _ ?side1 ?side2 A25.out).mono ?_); (case side1 => repeat (first | exact (Kd.V_reads' HO_0.out).2.2 | (with_reducible refine Kd.C_alloc ?_ _) | (with_reducible refine Kd.C_drewN ?_ _) | (with_reducible refine Kd.C_drew ?_))); (case side2 => exact (Kd.V_reads' HO_0.out).2.1); rintro e w40 ⟨rfl, hb⟩; refine ⟨_, rfl, ?_⟩; have n0_ := Aside0.mk (Kd.V_below y4_ hb); have n1_ := Aside0.mk (Kd.R_below y3_ hb); have n2_ := Aside0.mk (Kd.R_below y5_ hb); have n3_ := Aside0.mk (Kd.R_below y8_ hb); have n4_ := Aside0.mk (Kd.R_below y9_ hb); have n5_ := Aside0.mk (below_step y1_ hb); clear HO_0; clear HO170; clear HO174; clear HO178; clear HO182; clear HB; have HO_0 := n0_; have HO170 := n1_; have HO174 := n2_; have HO178 := n3_; have HO182 := n4_; have HB := n5_; clear n0_ n1_ n2_ n3_ n4_ n5_; (try clear hb); (try clear hb2); (try clear hk); (try clear hi)) | (go_at_call 34; (with_reducible refine (hash_Hex.calls kj2 _ _ l0 t185 _ ?side1 ?side2 A27.out).mono ?_); (case side1 => repeat (first | exact (Kd.V_reads' HO_0.out).2.2 | (with_reducible refine Kd.C_alloc ?_ _) | (with_reducible refine Kd.C_drewN ?_ _) | (with_reducible refine Kd.C_drew ?_))); (case side2 => exact (Kd.V_reads' HO_0.out).2.1); rintro e w41 ⟨rfl, hb⟩; have n0_ := Aside0.mk (Kd.V_below y4_ hb); have n1_ := Aside0.mk (Kd.R_below y3_ hb); have n2_ := Aside0.mk (Kd.R_below y5_ hb); have n3_ := Aside0.mk (Kd.R_below y8_ hb); have n4_ := Aside0.mk (Kd.R_below y9_ hb); have n5_ := Aside0.mk (below_step y1_ hb); clear HO_0; clear HO170; clear HO174; clear HO178; clear HO182; clear HB; have HO_0 := n0_; have HO170 := n1_; have HO174 := n2_; have HO178 := n3_; have HO182 := n4_; have HB := n5_; clear n0_ n1_ n2_ n3_ n4_ n5_; (try clear hb); (try clear hb2); (try clear hk); (try clear hi)) | (go_at_call 35; (with_reducible refine (manometerref03_Hex.calls _ _ l0 t186 _ ?side1 ?side2 A28.out).mono ?_); (case side1 => repeat (first | exact (Kd.V_reads' HO_0.out).2.2 | (with_reducible refine Kd.C_alloc ?_ _) | (with_reducible refine Kd.C_drewN ?_ _) | (with_reducible refine Kd.C_drew ?_))); (case side2 => exact (Kd.V_reads' HO_0.out).2.1); rintro e w42 ⟨rfl, hb⟩; have n0_ := Aside0.mk (Kd.V_below y4_ hb); have n1_ := Aside0.mk (Kd.R_below y3_ hb); have n2_ := Aside0.mk (Kd.R_below y5_ hb); have n3_ := Aside0.mk (Kd.R_below y8_ hb); have n4_ := Aside0.mk (Kd.R_below y9_ hb); have n5_ := Aside0.mk (below_step y1_ hb); clear HO_0; clear HO170; clear HO174; clear HO178; clear HO182; clear HB; have HO_0 := n0_; have HO170 := n1_; have HO174 := n2_; have HO178 := n3_; have HO182 := n4_; have HB := n5_; clear n0_ n1_ n2_ n3_ n4_ n5_; (try clear hb); (try clear hb2); (try clear hk); (try clear hi); obtain ⟨Ao43, co43, eo43⟩ := Kd.R_slice HO170.out; subst eo43; obtain ⟨Ao44, co44, eo44⟩ := Kd.R_slice HO174.out; subst eo44) | (go_at_call 15; (with_reducible refine (manometerref01_Equal.calls _ _ t167 _ _ t171 true _ ?side1 ?side2 ?side3 ?side4 A30.out).mono ?_); (case side1 => repeat (first | exact (Kd.R_reads' HO170.out).2.2 | (with_reducible refine Kd.C_alloc ?_ _) | (with_reducible refine Kd.C_drewN ?_ _) | (with_reducible refine Kd.C_drew ?_))); (case side2 => exact (Kd.R_reads' HO170.out).2.1); (case side3 => repeat (first | exact (Kd.R_reads' HO174.out).2.2 | (with_reducible refine Kd.C_alloc ?_ _) | (with_reducible refine Kd.C_drewN ?_ _) | (with_reducible refine Kd.C_drew ?_))); (case side4 => exact (Kd.R_reads' HO174.out).2.1); rintro e w' ⟨rfl, ⟨nd, rfl⟩⟩; obtain ⟨Ao45, co45, eo45⟩ := Kd.R_slice HO178.out; subst eo45; obtain ⟨Ao46, co46, eo46⟩ := Kd.R_slice HO182.out; subst eo46) | (go_at_call 15; (with_reducible refine (manometerref01_Equal.calls _ _ t175 _ _ t179 true _ ?side1 ?side2 ?side3 ?side4 A33.out).mono ?_); (case side1 => repeat (first | exact (Kd.R_reads' HO178.out).2.2 | (with_reducible refine Kd.C_alloc ?_ _) | (with_reducible refine Kd.C_drewN ?_ _) | (with_reducible refine Kd.C_drew ?_))); (case side2 => exact (Kd.R_reads' HO178.out).2.1); (case side3 => repeat (first | exact (Kd.R_reads' HO182.out).2.2 | (with_reducible refine Kd.C_alloc ?_ _) | (with_reducible refine Kd.C_drewN ?_ _) | (with_reducible refine Kd.C_drew ?_))); (case side4 => exact (Kd.R_reads' HO182.out).2.1); rintro e w' ⟨rfl, ⟨nd, rfl⟩⟩))
         go_ret
         exact ⟨y11_, y1_⟩
        ·replace c34 := Bool.eq_false_iff.mpr c34
         subst c34
         have H1 : (some false) = some r := by rw [if_neg (show ¬ (false = true) by decide)] at H; exact H
         clear H
         have H := H1
         clear H1
         obtain rfl := Option.some.inj H
         go_wp2_with (first | ((with_reducible refine gate_callee (f := 28) rfl ?_); refine goesL_ (some 29) rfl rfl Tryd.func28 (by kernel_rfl) rfl #[.string a1] rfl y2_ ?_; (with_reducible refine (hash_Unarmor.calls a1 t167 t168 _ A20.out).mono ?_); rintro e w47 ⟨v169, rfl, ho0, hb⟩; refine ⟨_, rfl, ?_⟩; have n0_ := Aside0.mk (Kd.V_elder' y4_ (Kd.R_base ho0) hb); have n1_ := Aside0.mk (Kd.R_lower (Kd.R_newM (M := fun k_ => (w.heap.size ≤ k_)) ho0 (below_size y1_) (fun k_ h_ => h_)) (below_size y1_)); have n2_ := Aside0.mk (below_step y1_ hb); clear HO_0; clear HB; have HO_0 := n0_; have HO170 := n1_; have HB := n2_; clear n0_ n1_ n2_; (try clear hb); (try clear hb2); (try clear hk); (try clear hi); (try clear ho0)) | ((with_reducible refine gate_callee (f := 29) rfl ?_); refine goesL_ (some 34) rfl rfl Tryd.func29 (by kernel_rfl) rfl #[.string a1] rfl y2_ ?_; (with_reducible refine (manometerref03_Unarmor.calls kj2 a1 t171 t172 _ A21.out).mono ?_); rintro e w48 ⟨v173, rfl, ho0, hb⟩; refine ⟨_, rfl, ?_⟩; have n0_ := Aside0.mk (Kd.V_elder' y4_ (Kd.R_base ho0) hb); have n1_ := Aside0.mk (Kd.R_elder' y3_ (Kd.R_base ho0) hb); have n2_ := Aside0.mk (Kd.R_lower (Kd.R_new' (Kd.R_newM (M := fun k_ => (w.heap.size ≤ k_)) ho0 (below_size y1_) (fun k_ h_ => h_)) (Kd.R_lt y3_)) (below_size y1_)); have n3_ := Aside0.mk (below_step y1_ hb); clear HO_0; clear HO170; clear HB; have HO_0 := n0_; have HO170 := n1_; have HO174 := n2_; have HB := n3_; clear n0_ n1_ n2_ n3_; (try clear hb); (try clear hb2); (try clear hk); (try clear hi); (try clear ho0)) | ((with_reducible refine gate_callee (f := 30) rfl ?_); refine goesL_ (some 39) rfl rfl Tryd.func30 (by kernel_rfl) rfl #[.string a1] rfl y2_ ?_; (with_reducible refine (hash_Unhex.calls kj2 a1 t175 t176 _ A22.out).mono ?_); rintro e w49 ⟨v177, rfl, ho0, hb⟩; refine ⟨_, rfl, ?_⟩; have n0_ := Aside0.mk (Kd.V_elder' y4_ (Kd.R_base ho0) hb); have n1_ := Aside0.mk (Kd.R_elder' y3_ (Kd.R_base ho0) hb); have n2_ := Aside0.mk (Kd.R_elder' y5_ (Kd.R_base ho0) hb); have n3_ := Aside0.mk (Kd.R_lower (Kd.R_new' (Kd.R_new' (Kd.R_newM (M := fun k_ => (w.heap.size ≤ k_)) ho0 (below_size y1_) (fun k_ h_ => h_)) (Kd.R_lt y3_)) (Kd.R_lt y5_)) (below_size y1_)); have n4_ := Aside0.mk (below_step y1_ hb); clear HO_0; clear HO170; clear HO174; clear HB; have HO_0 := n0_; have HO170 := n1_; have HO174 := n2_; have HO178 := n3_; have HB := n4_; clear n0_ n1_ n2_ n3_ n4_; (try clear hb); (try clear hb2); (try clear hk); (try clear hi); (try clear ho0)) | ((with_reducible refine gate_callee (f := 31) rfl ?_); refine goesL_ (some 44) rfl rfl Tryd.func31 (by kernel_rfl) rfl #[.string a1] rfl y2_ ?_; (with_reducible refine (manometerref03_Unhex.calls kj2 a1 t179 t180 _ A23.out).mono ?_); rintro e w50 ⟨v181, rfl, ho0, hb⟩; refine ⟨_, rfl, ?_⟩; have n0_ := Aside0.mk (Kd.V_elder' y4_ (Kd.R_base ho0) hb); have n1_ := Aside0.mk (Kd.R_elder' y3_ (Kd.R_base ho0) hb); have n2_ := Aside0.mk (Kd.R_elder' y5_ (Kd.R_base ho0) hb); have n3_ := Aside0.mk (Kd.R_elder' y8_ (Kd.R_base ho0) hb); have n4_ := Aside0.mk (Kd.R_lower (Kd.R_new' (Kd.R_new' (Kd.R_new' (Kd.R_newM (M := fun k_ => (w.heap.size ≤ k_)) ho0 (below_size y1_) (fun k_ h_ => h_)) (Kd.R_lt y3_)) (Kd.R_lt y5_)) (Kd.R_lt y8_)) (below_size y1_)); have n5_ := Aside0.mk (below_step y1_ hb); clear HO_0; clear HO170; clear HO174; clear HO178; clear HB; have HO_0 := n0_; have HO170 := n1_; have HO174 := n2_; have HO178 := n3_; have HO182 := n4_; have HB := n5_; clear n0_ n1_ n2_ n3_ n4_ n5_; (try clear hb); (try clear hb2); (try clear hk); (try clear hi); (try clear ho0)) | ((with_reducible refine gate_callee (f := 32) rfl ?_); refine goesL_ (some 48) rfl rfl Tryd.func32 (by kernel_rfl) rfl #[.slice A0 l0.length c0] rfl y2_ ?_; (with_reducible refine (hash_Armor.calls _ _ l0 t183 _ ?side1 ?side2 A24.out).mono ?_); (case side1 => repeat (first | exact (Kd.V_reads' HO_0.out).2.2 | (with_reducible refine Kd.C_alloc ?_ _) | (with_reducible refine Kd.C_drewN ?_ _) | (with_reducible refine Kd.C_drew ?_))); (case side2 => exact (Kd.V_reads' HO_0.out).2.1); rintro e w51 ⟨rfl, hb⟩; refine ⟨_, rfl, ?_⟩; have n0_ := Aside0.mk (Kd.V_below y4_ hb); have n1_ := Aside0.mk (Kd.R_below y3_ hb); have n2_ := Aside0.mk (Kd.R_below y5_ hb); have n3_ := Aside0.mk (Kd.R_below y8_ hb); have n4_ := Aside0.mk (Kd.R_below y9_ hb); have n5_ := Aside0.mk (below_step y1_ hb); clear HO_0; clear HO170; clear HO174; clear HO178; clear HO182; clear HB; have HO_0 := n0_; have HO170 := n1_; have HO174 := n2_; have HO178 := n3_; have HO182 := n4_; have HB := n5_; clear n0_ n1_ n2_ n3_ n4_ n5_; (try clear hb); (try clear hb2); (try clear hk); (try clear hi)) | ((with_reducible refine gate_callee (f := 33) rfl ?_); refine goesL_ (some 50) rfl rfl Tryd.func33 (by kernel_rfl) rfl #[.slice A0 l0.length c0] rfl y2_ ?_; (with_reducible refine (manometerref03_Armor.calls kj2 _ _ l0 t184 _ ?side1 ?side2 A25.out).mono ?_); (case side1 => repeat (first | exact (Kd.V_reads' HO_0.out).2.2 | (with_reducible refine Kd.C_alloc ?_ _) | (with_reducible refine Kd.C_drewN ?_ _) | (with_reducible refine Kd.C_drew ?_))); (case side2 => exact (Kd.V_reads' HO_0.out).2.1); rintro e w52 ⟨rfl, hb⟩; refine ⟨_, rfl, ?_⟩; have n0_ := Aside0.mk (Kd.V_below y4_ hb); have n1_ := Aside0.mk (Kd.R_below y3_ hb); have n2_ := Aside0.mk (Kd.R_below y5_ hb); have n3_ := Aside0.mk (Kd.R_below y8_ hb); have n4_ := Aside0.mk (Kd.R_below y9_ hb); have n5_ := Aside0.mk (below_step y1_ hb); clear HO_0; clear HO170; clear HO174; clear HO178; clear HO182; clear HB; have HO_0 := n0_; have HO170 := n1_; have HO174 := n2_; have HO178 := n3_; have HO182 := n4_; have HB := n5_; clear n0_ n1_ n2_ n3_ n4_ n5_; (try clear hb); (try clear hb2); (try clear hk); (try clear hi)) | (go_at_call 34; (with_reducible refine (hash_Hex.calls kj2 _ _ l0 t185 _ ?side1 ?side2 A27.out).mono ?_); (case side1 => repeat (first | exact (Kd.V_reads' HO_0.out).2.2 | (with_reducible refine Kd.C_alloc ?_ _) | (with_reducible refine Kd.C_drewN ?_ _) | (with_reducible refine Kd.C_drew ?_))); (case side2 => exact (Kd.V_reads' HO_0.out).2.1); rintro e w53 ⟨rfl, hb⟩; have n0_ := Aside0.mk (Kd.V_below y4_ hb); have n1_ := Aside0.mk (Kd.R_below y3_ hb); have n2_ := Aside0.mk (Kd.R_below y5_ hb); have n3_ := Aside0.mk (Kd.R_below y8_ hb); have n4_ := Aside0.mk (Kd.R_below y9_ hb); have n5_ := Aside0.mk (below_step y1_ hb); clear HO_0; clear HO170; clear HO174; clear HO178; clear HO182; clear HB; have HO_0 := n0_; have HO170 := n1_; have HO174 := n2_; have HO178 := n3_; have HO182 := n4_; have HB := n5_; clear n0_ n1_ n2_ n3_ n4_ n5_; (try clear hb); (try clear hb2); (try clear hk); (try clear hi)) | (go_at_call 35; (with_reducible refine (manometerref03_Hex.calls _ _ l0 t186 _ ?side1 ?side2 A28.out).mono ?_); (case side1 => repeat (first | exact (Kd.V_reads' HO_0.out).2.2 | (with_reducible refine Kd.C_alloc ?_ _) | (with_reducible refine Kd.C_drewN ?_ _) | (with_reducible refine Kd.C_drew ?_))); (case side2 => exact (Kd.V_reads' HO_0.out).2.1); rintro e w54 ⟨rfl, hb⟩; have n0_ := Aside0.mk (Kd.V_below y4_ hb); have n1_ := Aside0.mk (Kd.R_below y3_ hb); have n2_ := Aside0.mk (Kd.R_below y5_ hb); have n3_ := Aside0.mk (Kd.R_below y8_ hb); have n4_ := Aside0.mk (Kd.R_below y9_ hb); have n5_ := Aside0.mk (below_step y1_ hb); clear HO_0; clear HO170; clear HO174; clear HO178; clear HO182; clear HB; have HO_0 := n0_; have HO170 := n1_; have HO174 := n2_; have HO178 := n3_; have HO182 := n4_; have HB := n5_; clear n0_ n1_ n2_ n3_ n4_ n5_; (try clear hb); (try clear hb2); (try clear hk); (try clear hi); obtain ⟨Ao55, co55, eo55⟩ := Kd.R_slice HO170.out; subst eo55; obtain ⟨Ao56, co56, eo56⟩ := Kd.R_slice HO174.out; subst eo56) | (go_at_call 15; (with_reducible refine (manometerref01_Equal.calls _ _ t167 _ _ t171 true _ ?side1 ?side2 ?side3 ?side4 A30.out).mono ?_); (case side1 => repeat (first | exact (Kd.R_reads' HO170.out).2.2 | (with_reducible refine Kd.C_alloc ?_ _) | (with_reducible refine Kd.C_drewN ?_ _) | (with_reducible refine Kd.C_drew ?_))); (case side2 => exact (Kd.R_reads' HO170.out).2.1); (case side3 => repeat (first | exact (Kd.R_reads' HO174.out).2.2 | (with_reducible refine Kd.C_alloc ?_ _) | (with_reducible refine Kd.C_drewN ?_ _) | (with_reducible refine Kd.C_drew ?_))); (case side4 => exact (Kd.R_reads' HO174.out).2.1); rintro e w' ⟨rfl, ⟨nd, rfl⟩⟩; obtain ⟨Ao57, co57, eo57⟩ := Kd.R_slice HO178.out; subst eo57; obtain ⟨Ao58, co58, eo58⟩ := Kd.R_slice HO182.out; subst eo58) | (go_at_call 15; (with_reducible refine (manometerref01_Equal.calls _ _ t175 _ _ t179 false _ ?side1 ?side2 ?side3 ?side4 A33.out).mono ?_); (case side1 => repeat (first | exact (Kd.R_reads' HO178.out).2.2 | (with_reducible refine Kd.C_alloc ?_ _) | (with_reducible refine Kd.C_drewN ?_ _) | (with_reducible refine Kd.C_drew ?_))); (case side2 => exact (Kd.R_reads' HO178.out).2.1); (case side3 => repeat (first | exact (Kd.R_reads' HO182.out).2.2 | (with_reducible refine Kd.C_alloc ?_ _) | (with_reducible refine Kd.C_drewN ?_ _) | (with_reducible refine Kd.C_drew ?_))); (case side4 => exact (Kd.R_reads' HO182.out).2.1); rintro e w' ⟨rfl, ⟨nd, rfl⟩⟩))
         go_ret
         exact ⟨y11_, y1_⟩
       ·rw [if_neg c32] at H
        have c32b0 : (t168 == t172) = false := beq_eq_false_iff_ne.mpr c32
        have c32b1 : (t168 != t172) = true := bne_iff_ne.mpr c32
        obtain rfl := Option.some.inj H
        go_wp2_with (first | ((with_reducible refine gate_callee (f := 28) rfl ?_); refine goesL_ (some 29) rfl rfl Tryd.func28 (by kernel_rfl) rfl #[.string a1] rfl y2_ ?_; (with_reducible refine (hash_Unarmor.calls a1 t167 t168 _ A20.out).mono ?_); rintro e w59 ⟨v169, rfl, ho0, hb⟩; refine ⟨_, rfl, ?_⟩; have n0_ := Aside0.mk (Kd.V_elder' y4_ (Kd.R_base ho0) hb); have n1_ := Aside0.mk (Kd.R_lower (Kd.R_newM (M := fun k_ => (w.heap.size ≤ k_)) ho0 (below_size y1_) (fun k_ h_ => h_)) (below_size y1_)); have n2_ := Aside0.mk (below_step y1_ hb); clear HO_0; clear HB; have HO_0 := n0_; have HO170 := n1_; have HB := n2_; clear n0_ n1_ n2_; (try clear hb); (try clear hb2); (try clear hk); (try clear hi); (try clear ho0)) | ((with_reducible refine gate_callee (f := 29) rfl ?_); refine goesL_ (some 34) rfl rfl Tryd.func29 (by kernel_rfl) rfl #[.string a1] rfl y2_ ?_; (with_reducible refine (manometerref03_Unarmor.calls kj2 a1 t171 t172 _ A21.out).mono ?_); rintro e w60 ⟨v173, rfl, ho0, hb⟩; refine ⟨_, rfl, ?_⟩; have n0_ := Aside0.mk (Kd.V_elder' y4_ (Kd.R_base ho0) hb); have n1_ := Aside0.mk (Kd.R_elder' y3_ (Kd.R_base ho0) hb); have n2_ := Aside0.mk (Kd.R_lower (Kd.R_new' (Kd.R_newM (M := fun k_ => (w.heap.size ≤ k_)) ho0 (below_size y1_) (fun k_ h_ => h_)) (Kd.R_lt y3_)) (below_size y1_)); have n3_ := Aside0.mk (below_step y1_ hb); clear HO_0; clear HO170; clear HB; have HO_0 := n0_; have HO170 := n1_; have HO174 := n2_; have HB := n3_; clear n0_ n1_ n2_ n3_; (try clear hb); (try clear hb2); (try clear hk); (try clear hi); (try clear ho0)) | ((with_reducible refine gate_callee (f := 30) rfl ?_); refine goesL_ (some 39) rfl rfl Tryd.func30 (by kernel_rfl) rfl #[.string a1] rfl y2_ ?_; (with_reducible refine (hash_Unhex.calls kj2 a1 t175 t176 _ A22.out).mono ?_); rintro e w61 ⟨v177, rfl, ho0, hb⟩; refine ⟨_, rfl, ?_⟩; have n0_ := Aside0.mk (Kd.V_elder' y4_ (Kd.R_base ho0) hb); have n1_ := Aside0.mk (Kd.R_elder' y3_ (Kd.R_base ho0) hb); have n2_ := Aside0.mk (Kd.R_elder' y5_ (Kd.R_base ho0) hb); have n3_ := Aside0.mk (Kd.R_lower (Kd.R_new' (Kd.R_new' (Kd.R_newM (M := fun k_ => (w.heap.size ≤ k_)) ho0 (below_size y1_) (fun k_ h_ => h_)) (Kd.R_lt y3_)) (Kd.R_lt y5_)) (below_size y1_)); have n4_ := Aside0.mk (below_step y1_ hb); clear HO_0; clear HO170; clear HO174; clear HB; have HO_0 := n0_; have HO170 := n1_; have HO174 := n2_; have HO178 := n3_; have HB := n4_; clear n0_ n1_ n2_ n3_ n4_; (try clear hb); (try clear hb2); (try clear hk); (try clear hi); (try clear ho0)) | ((with_reducible refine gate_callee (f := 31) rfl ?_); refine goesL_ (some 44) rfl rfl Tryd.func31 (by kernel_rfl) rfl #[.string a1] rfl y2_ ?_; (with_reducible refine (manometerref03_Unhex.calls kj2 a1 t179 t180 _ A23.out).mono ?_); rintro e w62 ⟨v181, rfl, ho0, hb⟩; refine ⟨_, rfl, ?_⟩; have n0_ := Aside0.mk (Kd.V_elder' y4_ (Kd.R_base ho0) hb); have n1_ := Aside0.mk (Kd.R_elder' y3_ (Kd.R_base ho0) hb); have n2_ := Aside0.mk (Kd.R_elder' y5_ (Kd.R_base ho0) hb); have n3_ := Aside0.mk (Kd.R_elder' y8_ (Kd.R_base ho0) hb); have n4_ := Aside0.mk (Kd.R_lower (Kd.R_new' (Kd.R_new' (Kd.R_new' (Kd.R_newM (M := fun k_ => (w.heap.size ≤ k_)) ho0 (below_size y1_) (fun k_ h_ => h_)) (Kd.R_lt y3_)) (Kd.R_lt y5_)) (Kd.R_lt y8_)) (below_size y1_)); have n5_ := Aside0.mk (below_step y1_ hb); clear HO_0; clear HO170; clear HO174; clear HO178; clear HB; have HO_0 := n0_; have HO170 := n1_; have HO174 := n2_; have HO178 := n3_; have HO182 := n4_; have HB := n5_; clear n0_ n1_ n2_ n3_ n4_ n5_; (try clear hb); (try clear hb2); (try clear hk); (try clear hi); (try clear ho0)) | ((with_reducible refine gate_callee (f := 32) rfl ?_); refine goesL_ (some 48) rfl rfl Tryd.func32 (by kernel_rfl) rfl #[.slice A0 l0.length c0] rfl y2_ ?_; (with_reducible refine (hash_Armor.calls _ _ l0 t183 _ ?side1 ?side2 A24.out).mono ?_); (case side1 => repeat (first | exact (Kd.V_reads' HO_0.out).2.2 | (with_reducible refine Kd.C_alloc ?_ _) | (with_reducible refine Kd.C_drewN ?_ _) | (with_reducible refine Kd.C_drew ?_))); (case side2 => exact (Kd.V_reads' HO_0.out).2.1); rintro e w63 ⟨rfl, hb⟩; refine ⟨_, rfl, ?_⟩; have n0_ := Aside0.mk (Kd.V_below y4_ hb); have n1_ := Aside0.mk (Kd.R_below y3_ hb); have n2_ := Aside0.mk (Kd.R_below y5_ hb); have n3_ := Aside0.mk (Kd.R_below y8_ hb); have n4_ := Aside0.mk (Kd.R_below y9_ hb); have n5_ := Aside0.mk (below_step y1_ hb); clear HO_0; clear HO170; clear HO174; clear HO178; clear HO182; clear HB; have HO_0 := n0_; have HO170 := n1_; have HO174 := n2_; have HO178 := n3_; have HO182 := n4_; have HB := n5_; clear n0_ n1_ n2_ n3_ n4_ n5_; (try clear hb); (try clear hb2); (try clear hk); (try clear hi)) | ((with_reducible refine gate_callee (f := 33) rfl ?_); refine goesL_ (some 50) rfl rfl Tryd.func33 (by kernel_rfl) rfl #[.slice A0 l0.length c0] rfl y2_ ?_; (with_reducible refine (manometerref03_Armor.calls kj2 _ _ l0 t184 _ ?side1 ?side2 A25.out).mono ?_); (case side1 => repeat (first | exact (Kd.V_reads' HO_0.out).2.2 | (with_reducible refine Kd.C_alloc ?_ _) | (with_reducible refine Kd.C_drewN ?_ _) | (with_reducible refine Kd.C_drew ?_))); (case side2 => exact (Kd.V_reads' HO_0.out).2.1); rintro e w64 ⟨rfl, hb⟩; refine ⟨_, rfl, ?_⟩; have n0_ := Aside0.mk (Kd.V_below y4_ hb); have n1_ := Aside0.mk (Kd.R_below y3_ hb); have n2_ := Aside0.mk (Kd.R_below y5_ hb); have n3_ := Aside0.mk (Kd.R_below y8_ hb); have n4_ := Aside0.mk (Kd.R_below y9_ hb); have n5_ := Aside0.mk (below_step y1_ hb); clear HO_0; clear HO170; clear HO174; clear HO178; clear HO182; clear HB; have HO_0 := n0_; have HO170 := n1_; have HO174 := n2_; have HO178 := n3_; have HO182 := n4_; have HB := n5_; clear n0_ n1_ n2_ n3_ n4_ n5_; (try clear hb); (try clear hb2); (try clear hk); (try clear hi)) | (go_at_call 34; (with_reducible refine (hash_Hex.calls kj2 _ _ l0 t185 _ ?side1 ?side2 A27.out).mono ?_); (case side1 => repeat (first | exact (Kd.V_reads' HO_0.out).2.2 | (with_reducible refine Kd.C_alloc ?_ _) | (with_reducible refine Kd.C_drewN ?_ _) | (with_reducible refine Kd.C_drew ?_))); (case side2 => exact (Kd.V_reads' HO_0.out).2.1); rintro e w65 ⟨rfl, hb⟩; have n0_ := Aside0.mk (Kd.V_below y4_ hb); have n1_ := Aside0.mk (Kd.R_below y3_ hb); have n2_ := Aside0.mk (Kd.R_below y5_ hb); have n3_ := Aside0.mk (Kd.R_below y8_ hb); have n4_ := Aside0.mk (Kd.R_below y9_ hb); have n5_ := Aside0.mk (below_step y1_ hb); clear HO_0; clear HO170; clear HO174; clear HO178; clear HO182; clear HB; have HO_0 := n0_; have HO170 := n1_; have HO174 := n2_; have HO178 := n3_; have HO182 := n4_; have HB := n5_; clear n0_ n1_ n2_ n3_ n4_ n5_; (try clear hb); (try clear hb2); (try clear hk); (try clear hi)) | (go_at_call 35; (with_reducible refine (manometerref03_Hex.calls _ _ l0 t186 _ ?side1 ?side2 A28.out).mono ?_); (case side1 => repeat (first | exact (Kd.V_reads' HO_0.out).2.2 | (with_reducible refine Kd.C_alloc ?_ _) | (with_reducible refine Kd.C_drewN ?_ _) | (with_reducible refine Kd.C_drew ?_))); (case side2 => exact (Kd.V_reads' HO_0.out).2.1); rintro e w66 ⟨rfl, hb⟩; have n0_ := Aside0.mk (Kd.V_below y4_ hb); have n1_ := Aside0.mk (Kd.R_below y3_ hb); have n2_ := Aside0.mk (Kd.R_below y5_ hb); have n3_ := Aside0.mk (Kd.R_below y8_ hb); have n4_ := Aside0.mk (Kd.R_below y9_ hb); have n5_ := Aside0.mk (below_step y1_ hb); clear HO_0; clear HO170; clear HO174; clear HO178; clear HO182; clear HB; have HO_0 := n0_; have HO170 := n1_; have HO174 := n2_; have HO178 := n3_; have HO182 := n4_; have HB := n5_; clear n0_ n1_ n2_ n3_ n4_ n5_; (try clear hb); (try clear hb2); (try clear hk); (try clear hi); obtain ⟨Ao67, co67, eo67⟩ := Kd.R_slice HO170.out; subst eo67; obtain ⟨Ao68, co68, eo68⟩ := Kd.R_slice HO174.out; subst eo68) | (go_at_call 15; (with_reducible refine (manometerref01_Equal.calls _ _ t167 _ _ t171 true _ ?side1 ?side2 ?side3 ?side4 A30.out).mono ?_); (case side1 => repeat (first | exact (Kd.R_reads' HO170.out).2.2 | (with_reducible refine Kd.C_alloc ?_ _) | (with_reducible refine Kd.C_drewN ?_ _) | (with_reducible refine Kd.C_drew ?_))); (case side2 => exact (Kd.R_reads' HO170.out).2.1); (case side3 => repeat (first | exact (Kd.R_reads' HO174.out).2.2 | (with_reducible refine Kd.C_alloc ?_ _) | (with_reducible refine Kd.C_drewN ?_ _) | (with_reducible refine Kd.C_drew ?_))); (case side4 => exact (Kd.R_reads' HO174.out).2.1); rintro e w' ⟨rfl, ⟨nd, rfl⟩⟩))
        go_ret
        exact ⟨y11_, y1_⟩
      ·replace c31 := Bool.eq_false_iff.mpr c31
       subst c31
       have H1 : (some false) = some r := by rw [if_neg (show ¬ (false = true) by decide)] at H; exact H
       clear H
       have H := H1
       clear H1
       obtain rfl := Option.some.inj H
       go_wp2_with (first | ((with_reducible refine gate_callee (f := 28) rfl ?_); refine goesL_ (some 29) rfl rfl Tryd.func28 (by kernel_rfl) rfl #[.string a1] rfl y2_ ?_; (with_reducible refine (hash_Unarmor.calls a1 t167 t168 _ A20.out).mono ?_); rintro e w69 ⟨v169, rfl, ho0, hb⟩; refine ⟨_, rfl, ?_⟩; have n0_ := Aside0.mk (Kd.V_elder' y4_ (Kd.R_base ho0) hb); have n1_ := Aside0.mk (Kd.R_lower (Kd.R_newM (M := fun k_ => (w.heap.size ≤ k_)) ho0 (below_size y1_) (fun k_ h_ => h_)) (below_size y1_)); have n2_ := Aside0.mk (below_step y1_ hb); clear HO_0; clear HB; have HO_0 := n0_; have HO170 := n1_; have HB := n2_; clear n0_ n1_ n2_; (try clear hb); (try clear hb2); (try clear hk); (try clear hi); (try clear ho0)) | ((with_reducible refine gate_callee (f := 29) rfl ?_); refine goesL_ (some 34) rfl rfl Tryd.func29 (by kernel_rfl) rfl #[.string a1] rfl y2_ ?_; (with_reducible refine (manometerref03_Unarmor.calls kj2 a1 t171 t172 _ A21.out).mono ?_); rintro e w70 ⟨v173, rfl, ho0, hb⟩; refine ⟨_, rfl, ?_⟩; have n0_ := Aside0.mk (Kd.V_elder' y4_ (Kd.R_base ho0) hb); have n1_ := Aside0.mk (Kd.R_elder' y3_ (Kd.R_base ho0) hb); have n2_ := Aside0.mk (Kd.R_lower (Kd.R_new' (Kd.R_newM (M := fun k_ => (w.heap.size ≤ k_)) ho0 (below_size y1_) (fun k_ h_ => h_)) (Kd.R_lt y3_)) (below_size y1_)); have n3_ := Aside0.mk (below_step y1_ hb); clear HO_0; clear HO170; clear HB; have HO_0 := n0_; have HO170 := n1_; have HO174 := n2_; have HB := n3_; clear n0_ n1_ n2_ n3_; (try clear hb); (try clear hb2); (try clear hk); (try clear hi); (try clear ho0)) | ((with_reducible refine gate_callee (f := 30) rfl ?_); refine goesL_ (some 39) rfl rfl Tryd.func30 (by kernel_rfl) rfl #[.string a1] rfl y2_ ?_; (with_reducible refine (hash_Unhex.calls kj2 a1 t175 t176 _ A22.out).mono ?_); rintro e w71 ⟨v177, rfl, ho0, hb⟩; refine ⟨_, rfl, ?_⟩; have n0_ := Aside0.mk (Kd.V_elder' y4_ (Kd.R_base ho0) hb); have n1_ := Aside0.mk (Kd.R_elder' y3_ (Kd.R_base ho0) hb); have n2_ := Aside0.mk (Kd.R_elder' y5_ (Kd.R_base ho0) hb); have n3_ := Aside0.mk (Kd.R_lower (Kd.R_new' (Kd.R_new' (Kd.R_newM (M := fun k_ => (w.heap.size ≤ k_)) ho0 (below_size y1_) (fun k_ h_ => h_)) (Kd.R_lt y3_)) (Kd.R_lt y5_)) (below_size y1_)); have n4_ := Aside0.mk (below_step y1_ hb); clear HO_0; clear HO170; clear HO174; clear HB; have HO_0 := n0_; have HO170 := n1_; have HO174 := n2_; have HO178 := n3_; have HB := n4_; clear n0_ n1_ n2_ n3_ n4_; (try clear hb); (try clear hb2); (try clear hk); (try clear hi); (try clear ho0)) | ((with_reducible refine gate_callee (f := 31) rfl ?_); refine goesL_ (some 44) rfl rfl Tryd.func31 (by kernel_rfl) rfl #[.string a1] rfl y2_ ?_; (with_reducible refine (manometerref03_Unhex.calls kj2 a1 t179 t180 _ A23.out).mono ?_); rintro e w72 ⟨v181, rfl, ho0, hb⟩; refine ⟨_, rfl, ?_⟩; have n0_ := Aside0.mk (Kd.V_elder' y4_ (Kd.R_base ho0) hb); have n1_ := Aside0.mk (Kd.R_elder' y3_ (Kd.R_base ho0) hb); have n2_ := Aside0.mk (Kd.R_elder' y5_ (Kd.R_base ho0) hb); have n3_ := Aside0.mk (Kd.R_elder' y8_ (Kd.R_base ho0) hb); have n4_ := Aside0.mk (Kd.R_lower (Kd.R_new' (Kd.R_new' (Kd.R_new' (Kd.R_newM (M := fun k_ => (w.heap.size ≤ k_)) ho0 (below_size y1_) (fun k_ h_ => h_)) (Kd.R_lt y3_)) (Kd.R_lt y5_)) (Kd.R_lt y8_)) (below_size y1_)); have n5_ := Aside0.mk (below_step y1_ hb); clear HO_0; clear HO170; clear HO174; clear HO178; clear HB; have HO_0 := n0_; have HO170 := n1_; have HO174 := n2_; have HO178 := n3_; have HO182 := n4_; have HB := n5_; clear n0_ n1_ n2_ n3_ n4_ n5_; (try clear hb); (try clear hb2); (try clear hk); (try clear hi); (try clear ho0)) | ((with_reducible refine gate_callee (f := 32) rfl ?_); refine goesL_ (some 48) rfl rfl Tryd.func32 (by kernel_rfl) rfl #[.slice A0 l0.length c0] rfl y2_ ?_; (with_reducible refine (hash_Armor.calls _ _ l0 t183 _ ?side1 ?side2 A24.out).mono ?_); (case side1 => repeat (first | exact (Kd.V_reads' HO_0.out).2.2 | (with_reducible refine Kd.C_alloc ?_ _) | (with_reducible refine Kd.C_drewN ?_ _) | (with_reducible refine Kd.C_drew ?_))); (case side2 => exact (Kd.V_reads' HO_0.out).2.1); rintro e w73 ⟨rfl, hb⟩; refine ⟨_, rfl, ?_⟩; have n0_ := Aside0.mk (Kd.V_below y4_ hb); have n1_ := Aside0.mk (Kd.R_below y3_ hb); have n2_ := Aside0.mk (Kd.R_below y5_ hb); have n3_ := Aside0.mk (Kd.R_below y8_ hb); have n4_ := Aside0.mk (Kd.R_below y9_ hb); have n5_ := Aside0.mk (below_step y1_ hb); clear HO_0; clear HO170; clear HO174; clear HO178; clear HO182; clear HB; have HO_0 := n0_; have HO170 := n1_; have HO174 := n2_; have HO178 := n3_; have HO182 := n4_; have HB := n5_; clear n0_ n1_ n2_ n3_ n4_ n5_; (try clear hb); (try clear hb2); (try clear hk); (try clear hi)) | ((with_reducible refine gate_callee (f := 33) rfl ?_); refine goesL_ (some 50) rfl rfl Tryd.func33 (by kernel_rfl) rfl #[.slice A0 l0.length c0] rfl y2_ ?_; (with_reducible refine (manometerref03_Armor.calls kj2 _ _ l0 t184 _ ?side1 ?side2 A25.out).mono ?_); (case side1 => repeat (first | exact (Kd.V_reads' HO_0.out).2.2 | (with_reducible refine Kd.C_alloc ?_ _) | (with_reducible refine Kd.C_drewN ?_ _) | (with_reducible refine Kd.C_drew ?_))); (case side2 => exact (Kd.V_reads' HO_0.out).2.1); rintro e w74 ⟨rfl, hb⟩; refine ⟨_, rfl, ?_⟩; have n0_ := Aside0.mk (Kd.V_below y4_ hb); have n1_ := Aside0.mk (Kd.R_below y3_ hb); have n2_ := Aside0.mk (Kd.R_below y5_ hb); have n3_ := Aside0.mk (Kd.R_below y8_ hb); have n4_ := Aside0.mk (Kd.R_below y9_ hb); have n5_ := Aside0.mk (below_step y1_ hb); clear HO_0; clear HO170; clear HO174; clear HO178; clear HO182; clear HB; have HO_0 := n0_; have HO170 := n1_; have HO174 := n2_; have HO178 := n3_; have HO182 := n4_; have HB := n5_; clear n0_ n1_ n2_ n3_ n4_ n5_; (try clear hb); (try clear hb2); (try clear hk); (try clear hi)) | (go_at_call 34; (with_reducible refine (hash_Hex.calls kj2 _ _ l0 t185 _ ?side1 ?side2 A27.out).mono ?_); (case side1 => repeat (first | exact (Kd.V_reads' HO_0.out).2.2 | (with_reducible refine Kd.C_alloc ?_ _) | (with_reducible refine Kd.C_drewN ?_ _) | (with_reducible refine Kd.C_drew ?_))); (case side2 => exact (Kd.V_reads' HO_0.out).2.1); rintro e w75 ⟨rfl, hb⟩; have n0_ := Aside0.mk (Kd.V_below y4_ hb); have n1_ := Aside0.mk (Kd.R_below y3_ hb); have n2_ := Aside0.mk (Kd.R_below y5_ hb); have n3_ := Aside0.mk (Kd.R_below y8_ hb); have n4_ := Aside0.mk (Kd.R_below y9_ hb); have n5_ := Aside0.mk (below_step y1_ hb); clear HO_0; clear HO170; clear HO174; clear HO178; clear HO182; clear HB; have HO_0 := n0_; have HO170 := n1_; have HO174 := n2_; have HO178 := n3_; have HO182 := n4_; have HB := n5_; clear n0_ n1_ n2_ n3_ n4_ n5_; (try clear hb); (try clear hb2); (try clear hk); (try clear hi)) | (go_at_call 35; (with_reducible refine (manometerref03_Hex.calls _ _ l0 t186 _ ?side1 ?side2 A28.out).mono ?_); (case side1 => repeat (first | exact (Kd.V_reads' HO_0.out).2.2 | (with_reducible refine Kd.C_alloc ?_ _) | (with_reducible refine Kd.C_drewN ?_ _) | (with_reducible refine Kd.C_drew ?_))); (case side2 => exact (Kd.V_reads' HO_0.out).2.1); rintro e w76 ⟨rfl, hb⟩; have n0_ := Aside0.mk (Kd.V_below y4_ hb); have n1_ := Aside0.mk (Kd.R_below y3_ hb); have n2_ := Aside0.mk (Kd.R_below y5_ hb); have n3_ := Aside0.mk (Kd.R_below y8_ hb); have n4_ := Aside0.mk (Kd.R_below y9_ hb); have n5_ := Aside0.mk (below_step y1_ hb); clear HO_0; clear HO170; clear HO174; clear HO178; clear HO182; clear HB; have HO_0 := n0_; have HO170 := n1_; have HO174 := n2_; have HO178 := n3_; have HO182 := n4_; have HB := n5_; clear n0_ n1_ n2_ n3_ n4_ n5_; (try clear hb); (try clear hb2); (try clear hk); (try clear hi); obtain ⟨Ao77, co77, eo77⟩ := Kd.R_slice HO170.out; subst eo77; obtain ⟨Ao78, co78, eo78⟩ := Kd.R_slice HO174.out; subst eo78) | (go_at_call 15; (with_reducible refine (manometerref01_Equal.calls _ _ t167 _ _ t171 false _ ?side1 ?side2 ?side3 ?side4 A30.out).mono ?_); (case side1 => repeat (first | exact (Kd.R_reads' HO170.out).2.2 | (with_reducible refine Kd.C_alloc ?_ _) | (with_reducible refine Kd.C_drewN ?_ _) | (with_reducible refine Kd.C_drew ?_))); (case side2 => exact (Kd.R_reads' HO170.out).2.1); (case side3 => repeat (first | exact (Kd.R_reads' HO174.out).2.2 | (with_reducible refine Kd.C_alloc ?_ _) | (with_reducible refine Kd.C_drewN ?_ _) | (with_reducible refine Kd.C_drew ?_))); (case side4 => exact (Kd.R_reads' HO174.out).2.1); rintro e w' ⟨rfl, ⟨nd, rfl⟩⟩))
       go_ret
       exact ⟨y11_, y1_⟩
     ·rw [if_neg c29] at H
      have c29b0 : (t185.toList == t186.toList) = false := beq_eq_false_iff_ne.mpr c29
      have c29b1 : (t185.toList != t186.toList) = true := bne_iff_ne.mpr c29
      obtain rfl := Option.some.inj H
      go_wp2_with (first | ((with_reducible refine gate_callee (f := 28) rfl ?_); refine goesL_ (some 29) rfl rfl Tryd.func28 (by kernel_rfl) rfl #[.string a1] rfl y2_ ?_; (with_reducible refine (hash_Unarmor.calls a1 t167 t168 _ A20.out).mono ?_); rintro e w79 ⟨v169, rfl, ho0, hb⟩; refine ⟨_, rfl, ?_⟩; have n0_ := Aside0.mk (Kd.V_elder' y4_ (Kd.R_base ho0) hb); have n1_ := Aside0.mk (Kd.R_lower (Kd.R_newM (M := fun k_ => (w.heap.size ≤ k_)) ho0 (below_size y1_) (fun k_ h_ => h_)) (below_size y1_)); have n2_ := Aside0.mk (below_step y1_ hb); clear HO_0; clear HB; have HO_0 := n0_; have HO170 := n1_; have HB := n2_; clear n0_ n1_ n2_; (try clear hb); (try clear hb2); (try clear hk); (try clear hi); (try clear ho0)) | ((with_reducible refine gate_callee (f := 29) rfl ?_); refine goesL_ (some 34) rfl rfl Tryd.func29 (by kernel_rfl) rfl #[.string a1] rfl y2_ ?_; (with_reducible refine (manometerref03_Unarmor.calls kj2 a1 t171 t172 _ A21.out).mono ?_); rintro e w80 ⟨v173, rfl, ho0, hb⟩; refine ⟨_, rfl, ?_⟩; have n0_ := Aside0.mk (Kd.V_elder' y4_ (Kd.R_base ho0) hb); have n1_ := Aside0.mk (Kd.R_elder' y3_ (Kd.R_base ho0) hb); have n2_ := Aside0.mk (Kd.R_lower (Kd.R_new' (Kd.R_newM (M := fun k_ => (w.heap.size ≤ k_)) ho0 (below_size y1_) (fun k_ h_ => h_)) (Kd.R_lt y3_)) (below_size y1_)); have n3_ := Aside0.mk (below_step y1_ hb); clear HO_0; clear HO170; clear HB; have HO_0 := n0_; have HO170 := n1_; have HO174 := n2_; have HB := n3_; clear n0_ n1_ n2_ n3_; (try clear hb); (try clear hb2); (try clear hk); (try clear hi); (try clear ho0)) | ((with_reducible refine gate_callee (f := 30) rfl ?_); refine goesL_ (some 39) rfl rfl Tryd.func30 (by kernel_rfl) rfl #[.string a1] rfl y2_ ?_; (with_reducible refine (hash_Unhex.calls kj2 a1 t175 t176 _ A22.out).mono ?_); rintro e w81 ⟨v177, rfl, ho0, hb⟩; refine ⟨_, rfl, ?_⟩; have n0_ := Aside0.mk (Kd.V_elder' y4_ (Kd.R_base ho0) hb); have n1_ := Aside0.mk (Kd.R_elder' y3_ (Kd.R_base ho0) hb); have n2_ := Aside0.mk (Kd.R_elder' y5_ (Kd.R_base ho0) hb); have n3_ := Aside0.mk (Kd.R_lower (Kd.R_new' (Kd.R_new' (Kd.R_newM (M := fun k_ => (w.heap.size ≤ k_)) ho0 (below_size y1_) (fun k_ h_ => h_)) (Kd.R_lt y3_)) (Kd.R_lt y5_)) (below_size y1_)); have n4_ := Aside0.mk (below_step y1_ hb); clear HO_0; clear HO170; clear HO174; clear HB; have HO_0 := n0_; have HO170 := n1_; have HO174 := n2_; have HO178 := n3_; have HB := n4_; clear n0_ n1_ n2_ n3_ n4_; (try clear hb); (try clear hb2); (try clear hk); (try clear hi); (try clear ho0)) | ((with_reducible refine gate_callee (f := 31) rfl ?_); refine goesL_ (some 44) rfl rfl Tryd.func31 (by kernel_rfl) rfl #[.string a1] rfl y2_ ?_; (with_reducible refine (manometerref03_Unhex.calls kj2 a1 t179 t180 _ A23.out).mono ?_); rintro e w82 ⟨v181, rfl, ho0, hb⟩; refine ⟨_, rfl, ?_⟩; have n0_ := Aside0.mk (Kd.V_elder' y4_ (Kd.R_base ho0) hb); have n1_ := Aside0.mk (Kd.R_elder' y3_ (Kd.R_base ho0) hb); have n2_ := Aside0.mk (Kd.R_elder' y5_ (Kd.R_base ho0) hb); have n3_ := Aside0.mk (Kd.R_elder' y8_ (Kd.R_base ho0) hb); have n4_ := Aside0.mk (Kd.R_lower (Kd.R_new' (Kd.R_new' (Kd.R_new' (Kd.R_newM (M := fun k_ => (w.heap.size ≤ k_)) ho0 (below_size y1_) (fun k_ h_ => h_)) (Kd.R_lt y3_)) (Kd.R_lt y5_)) (Kd.R_lt y8_)) (below_size y1_)); have n5_ := Aside0.mk (below_step y1_ hb); clear HO_0; clear HO170; clear HO174; clear HO178; clear HB; have HO_0 := n0_; have HO170 := n1_; have HO174 := n2_; have HO178 := n3_; have HO182 := n4_; have HB := n5_; clear n0_ n1_ n2_ n3_ n4_ n5_; (try clear hb); (try clear hb2); (try clear hk); (try clear hi); (try clear ho0)) | ((with_reducible refine gate_callee (f := 32) rfl ?_); refine goesL_ (some 48) rfl rfl Tryd.func32 (by kernel_rfl) rfl #[.slice A0 l0.length c0] rfl y2_ ?_; (with_reducible refine (hash_Armor.calls _ _ l0 t183 _ ?side1 ?side2 A24.out).mono ?_); (case side1 => repeat (first | exact (Kd.V_reads' HO_0.out).2.2 | (with_reducible refine Kd.C_alloc ?_ _) | (with_reducible refine Kd.C_drewN ?_ _) | (with_reducible refine Kd.C_drew ?_))); (case side2 => exact (Kd.V_reads' HO_0.out).2.1); rintro e w83 ⟨rfl, hb⟩; refine ⟨_, rfl, ?_⟩; have n0_ := Aside0.mk (Kd.V_below y4_ hb); have n1_ := Aside0.mk (Kd.R_below y3_ hb); have n2_ := Aside0.mk (Kd.R_below y5_ hb); have n3_ := Aside0.mk (Kd.R_below y8_ hb); have n4_ := Aside0.mk (Kd.R_below y9_ hb); have n5_ := Aside0.mk (below_step y1_ hb); clear HO_0; clear HO170; clear HO174; clear HO178; clear HO182; clear HB; have HO_0 := n0_; have HO170 := n1_; have HO174 := n2_; have HO178 := n3_; have HO182 := n4_; have HB := n5_; clear n0_ n1_ n2_ n3_ n4_ n5_; (try clear hb); (try clear hb2); (try clear hk); (try clear hi)) | ((with_reducible refine gate_callee (f := 33) rfl ?_); refine goesL_ (some 50) rfl rfl Tryd.func33 (by kernel_rfl) rfl #[.slice A0 l0.length c0] rfl y2_ ?_; (with_reducible refine (manometerref03_Armor.calls kj2 _ _ l0 t184 _ ?side1 ?side2 A25.out).mono ?_); (case side1 => repeat (first | exact (Kd.V_reads' HO_0.out).2.2 | (with_reducible refine Kd.C_alloc ?_ _) | (with_reducible refine Kd.C_drewN ?_ _) | (with_reducible refine Kd.C_drew ?_))); (case side2 => exact (Kd.V_reads' HO_0.out).2.1); rintro e w84 ⟨rfl, hb⟩; refine ⟨_, rfl, ?_⟩; have n0_ := Aside0.mk (Kd.V_below y4_ hb); have n1_ := Aside0.mk (Kd.R_below y3_ hb); have n2_ := Aside0.mk (Kd.R_below y5_ hb); have n3_ := Aside0.mk (Kd.R_below y8_ hb); have n4_ := Aside0.mk (Kd.R_below y9_ hb); have n5_ := Aside0.mk (below_step y1_ hb); clear HO_0; clear HO170; clear HO174; clear HO178; clear HO182; clear HB; have HO_0 := n0_; have HO170 := n1_; have HO174 := n2_; have HO178 := n3_; have HO182 := n4_; have HB := n5_; clear n0_ n1_ n2_ n3_ n4_ n5_; (try clear hb); (try clear hb2); (try clear hk); (try clear hi)) | (go_at_call 34; (with_reducible refine (hash_Hex.calls kj2 _ _ l0 t185 _ ?side1 ?side2 A27.out).mono ?_); (case side1 => repeat (first | exact (Kd.V_reads' HO_0.out).2.2 | (with_reducible refine Kd.C_alloc ?_ _) | (with_reducible refine Kd.C_drewN ?_ _) | (with_reducible refine Kd.C_drew ?_))); (case side2 => exact (Kd.V_reads' HO_0.out).2.1); rintro e w85 ⟨rfl, hb⟩; have n0_ := Aside0.mk (Kd.V_below y4_ hb); have n1_ := Aside0.mk (Kd.R_below y3_ hb); have n2_ := Aside0.mk (Kd.R_below y5_ hb); have n3_ := Aside0.mk (Kd.R_below y8_ hb); have n4_ := Aside0.mk (Kd.R_below y9_ hb); have n5_ := Aside0.mk (below_step y1_ hb); clear HO_0; clear HO170; clear HO174; clear HO178; clear HO182; clear HB; have HO_0 := n0_; have HO170 := n1_; have HO174 := n2_; have HO178 := n3_; have HO182 := n4_; have HB := n5_; clear n0_ n1_ n2_ n3_ n4_ n5_; (try clear hb); (try clear hb2); (try clear hk); (try clear hi)) | (go_at_call 35; (with_reducible refine (manometerref03_Hex.calls _ _ l0 t186 _ ?side1 ?side2 A28.out).mono ?_); (case side1 => repeat (first | exact (Kd.V_reads' HO_0.out).2.2 | (with_reducible refine Kd.C_alloc ?_ _) | (with_reducible refine Kd.C_drewN ?_ _) | (with_reducible refine Kd.C_drew ?_))); (case side2 => exact (Kd.V_reads' HO_0.out).2.1); rintro e w86 ⟨rfl, hb⟩; have n0_ := Aside0.mk (Kd.V_below y4_ hb); have n1_ := Aside0.mk (Kd.R_below y3_ hb); have n2_ := Aside0.mk (Kd.R_below y5_ hb); have n3_ := Aside0.mk (Kd.R_below y8_ hb); have n4_ := Aside0.mk (Kd.R_below y9_ hb); have n5_ := Aside0.mk (below_step y1_ hb); clear HO_0; clear HO170; clear HO174; clear HO178; clear HO182; clear HB; have HO_0 := n0_; have HO170 := n1_; have HO174 := n2_; have HO178 := n3_; have HO182 := n4_; have HB := n5_; clear n0_ n1_ n2_ n3_ n4_ n5_; (try clear hb); (try clear hb2); (try clear hk); (try clear hi)))
      go_ret
      exact ⟨y11_, y1_⟩
    ·rw [if_neg c26] at H
     have c26b0 : (t183.toList == t184.toList) = false := beq_eq_false_iff_ne.mpr c26
     have c26b1 : (t183.toList != t184.toList) = true := bne_iff_ne.mpr c26
     obtain rfl := Option.some.inj H
     go_wp2_with (first | ((with_reducible refine gate_callee (f := 28) rfl ?_); refine goesL_ (some 29) rfl rfl Tryd.func28 (by kernel_rfl) rfl #[.string a1] rfl y2_ ?_; (with_reducible refine (hash_Unarmor.calls a1 t167 t168 _ A20.out).mono ?_); rintro e w87 ⟨v169, rfl, ho0, hb⟩; refine ⟨_, rfl, ?_⟩; have n0_ := Aside0.mk (Kd.V_elder' y4_ (Kd.R_base ho0) hb); have n1_ := Aside0.mk (Kd.R_lower (Kd.R_newM (M := fun k_ => (w.heap.size ≤ k_)) ho0 (below_size y1_) (fun k_ h_ => h_)) (below_size y1_)); have n2_ := Aside0.mk (below_step y1_ hb); clear HO_0; clear HB; have HO_0 := n0_; have HO170 := n1_; have HB := n2_; clear n0_ n1_ n2_; (try clear hb); (try clear hb2); (try clear hk); (try clear hi); (try clear ho0)) | ((with_reducible refine gate_callee (f := 29) rfl ?_); refine goesL_ (some 34) rfl rfl Tryd.func29 (by kernel_rfl) rfl #[.string a1] rfl y2_ ?_; (with_reducible refine (manometerref03_Unarmor.calls kj2 a1 t171 t172 _ A21.out).mono ?_); rintro e w88 ⟨v173, rfl, ho0, hb⟩; refine ⟨_, rfl, ?_⟩; have n0_ := Aside0.mk (Kd.V_elder' y4_ (Kd.R_base ho0) hb); have n1_ := Aside0.mk (Kd.R_elder' y3_ (Kd.R_base ho0) hb); have n2_ := Aside0.mk (Kd.R_lower (Kd.R_new' (Kd.R_newM (M := fun k_ => (w.heap.size ≤ k_)) ho0 (below_size y1_) (fun k_ h_ => h_)) (Kd.R_lt y3_)) (below_size y1_)); have n3_ := Aside0.mk (below_step y1_ hb); clear HO_0; clear HO170; clear HB; have HO_0 := n0_; have HO170 := n1_; have HO174 := n2_; have HB := n3_; clear n0_ n1_ n2_ n3_; (try clear hb); (try clear hb2); (try clear hk); (try clear hi); (try clear ho0)) | ((with_reducible refine gate_callee (f := 30) rfl ?_); refine goesL_ (some 39) rfl rfl Tryd.func30 (by kernel_rfl) rfl #[.string a1] rfl y2_ ?_; (with_reducible refine (hash_Unhex.calls kj2 a1 t175 t176 _ A22.out).mono ?_); rintro e w89 ⟨v177, rfl, ho0, hb⟩; refine ⟨_, rfl, ?_⟩; have n0_ := Aside0.mk (Kd.V_elder' y4_ (Kd.R_base ho0) hb); have n1_ := Aside0.mk (Kd.R_elder' y3_ (Kd.R_base ho0) hb); have n2_ := Aside0.mk (Kd.R_elder' y5_ (Kd.R_base ho0) hb); have n3_ := Aside0.mk (Kd.R_lower (Kd.R_new' (Kd.R_new' (Kd.R_newM (M := fun k_ => (w.heap.size ≤ k_)) ho0 (below_size y1_) (fun k_ h_ => h_)) (Kd.R_lt y3_)) (Kd.R_lt y5_)) (below_size y1_)); have n4_ := Aside0.mk (below_step y1_ hb); clear HO_0; clear HO170; clear HO174; clear HB; have HO_0 := n0_; have HO170 := n1_; have HO174 := n2_; have HO178 := n3_; have HB := n4_; clear n0_ n1_ n2_ n3_ n4_; (try clear hb); (try clear hb2); (try clear hk); (try clear hi); (try clear ho0)) | ((with_reducible refine gate_callee (f := 31) rfl ?_); refine goesL_ (some 44) rfl rfl Tryd.func31 (by kernel_rfl) rfl #[.string a1] rfl y2_ ?_; (with_reducible refine (manometerref03_Unhex.calls kj2 a1 t179 t180 _ A23.out).mono ?_); rintro e w90 ⟨v181, rfl, ho0, hb⟩; refine ⟨_, rfl, ?_⟩; have n0_ := Aside0.mk (Kd.V_elder' y4_ (Kd.R_base ho0) hb); have n1_ := Aside0.mk (Kd.R_elder' y3_ (Kd.R_base ho0) hb); have n2_ := Aside0.mk (Kd.R_elder' y5_ (Kd.R_base ho0) hb); have n3_ := Aside0.mk (Kd.R_elder' y8_ (Kd.R_base ho0) hb); have n4_ := Aside0.mk (Kd.R_lower (Kd.R_new' (Kd.R_new' (Kd.R_new' (Kd.R_newM (M := fun k_ => (w.heap.size ≤ k_)) ho0 (below_size y1_) (fun k_ h_ => h_)) (Kd.R_lt y3_)) (Kd.R_lt y5_)) (Kd.R_lt y8_)) (below_size y1_)); have n5_ := Aside0.mk (below_step y1_ hb); clear HO_0; clear HO170; clear HO174; clear HO178; clear HB; have HO_0 := n0_; have HO170 := n1_; have HO174 := n2_; have HO178 := n3_; have HO182 := n4_; have HB := n5_; clear n0_ n1_ n2_ n3_ n4_ n5_; (try clear hb); (try clear hb2); (try clear hk); (try clear hi); (try clear ho0)) | ((with_reducible refine gate_callee (f := 32) rfl ?_); refine goesL_ (some 48) rfl rfl Tryd.func32 (by kernel_rfl) rfl #[.slice A0 l0.length c0] rfl y2_ ?_; (with_reducible refine (hash_Armor.calls _ _ l0 t183 _ ?side1 ?side2 A24.out).mono ?_); (case side1 => repeat (first | exact (Kd.V_reads' HO_0.out).2.2 | (with_reducible refine Kd.C_alloc ?_ _) | (with_reducible refine Kd.C_drewN ?_ _) | (with_reducible refine Kd.C_drew ?_))); (case side2 => exact (Kd.V_reads' HO_0.out).2.1); rintro e w91 ⟨rfl, hb⟩; refine ⟨_, rfl, ?_⟩; have n0_ := Aside0.mk (Kd.V_below y4_ hb); have n1_ := Aside0.mk (Kd.R_below y3_ hb); have n2_ := Aside0.mk (Kd.R_below y5_ hb); have n3_ := Aside0.mk (Kd.R_below y8_ hb); have n4_ := Aside0.mk (Kd.R_below y9_ hb); have n5_ := Aside0.mk (below_step y1_ hb); clear HO_0; clear HO170; clear HO174; clear HO178; clear HO182; clear HB; have HO_0 := n0_; have HO170 := n1_; have HO174 := n2_; have HO178 := n3_; have HO182 := n4_; have HB := n5_; clear n0_ n1_ n2_ n3_ n4_ n5_; (try clear hb); (try clear hb2); (try clear hk); (try clear hi)) | ((with_reducible refine gate_callee (f := 33) rfl ?_); refine goesL_ (some 50) rfl rfl Tryd.func33 (by kernel_rfl) rfl #[.slice A0 l0.length c0] rfl y2_ ?_; (with_reducible refine (manometerref03_Armor.calls kj2 _ _ l0 t184 _ ?side1 ?side2 A25.out).mono ?_); (case side1 => repeat (first | exact (Kd.V_reads' HO_0.out).2.2 | (with_reducible refine Kd.C_alloc ?_ _) | (with_reducible refine Kd.C_drewN ?_ _) | (with_reducible refine Kd.C_drew ?_))); (case side2 => exact (Kd.V_reads' HO_0.out).2.1); rintro e w92 ⟨rfl, hb⟩; refine ⟨_, rfl, ?_⟩; have n0_ := Aside0.mk (Kd.V_below y4_ hb); have n1_ := Aside0.mk (Kd.R_below y3_ hb); have n2_ := Aside0.mk (Kd.R_below y5_ hb); have n3_ := Aside0.mk (Kd.R_below y8_ hb); have n4_ := Aside0.mk (Kd.R_below y9_ hb); have n5_ := Aside0.mk (below_step y1_ hb); clear HO_0; clear HO170; clear HO174; clear HO178; clear HO182; clear HB; have HO_0 := n0_; have HO170 := n1_; have HO174 := n2_; have HO178 := n3_; have HO182 := n4_; have HB := n5_; clear n0_ n1_ n2_ n3_ n4_ n5_; (try clear hb); (try clear hb2); (try clear hk); (try clear hi)))
     go_ret
     exact ⟨y11_, y1_⟩
end Go.Proofs.YtclndenmmhdokaaDoor.PHB
