import Derived.Test.YtbpmgaaipkenkaaDoorCLimitBucketsPMBx5
import Derived.Test.YtbpmgaaipkenkaaDoorCLimitBucketsPMCx0
namespace Go.Proofs.YtbpmgaaipkenkaaDoor.PMB
open Go.RowKit Go.Proofs.YtbpmgaaipkenkaaDoorW.PrintWords Go.Proofs.YtbpmgaaipkenkaaDoorW.PrintLast Go.Proofs.YtbpmgaaipkenkaaDoorW.PrintMore
attribute [local go_sem] max2_int min2_int max_two min_two max_three min_three max_four min_four
set_option linter.unusedVariables false
set_option linter.unusedSimpArgs false
attribute [local go_sem high] eqA30
mutual
def manometerlaw19_LimitBuckets.j0 : Nat → List (S33) → Bool → Int → Int → Int → Int → Option (Bool)
 | 0, _, _, _, _, _, _ => none
 | k + 1, x1, x33, x166000, x166001, x166002, x166003 => if x33 = true then ((manometerlaw19_live.f).bind fun t175 => (if t175 = true then (some (decide ((x1.length : Int) > 300))) else (some false))) else (manometerlaw19_LimitBuckets.l0 k x1 (x1.length : Int) 0 x166000 x166001 x166002 x166003 x166000 x166001 x166002 x166003)
def manometerlaw19_LimitBuckets.l0 : Nat → List (S33) → Int → Int → Int → Int → Int → Int → Int → Int → Int → Int → Option (Bool)
 | 0, _, _, _, _, _, _, _, _, _, _, _ => none
 | k + 1, x41, x42, x43, x166000, x166001, x166002, x166003, x177000, x177001, x177002, x177003 => if x43 < x42 then (if 0 ≤ x43 then (if x43 < (x41.length : Int) then ((limit_Fill.f x166000 x166001 x166002 x166003 ((rd_T33 x41 x43).f0)).bind fun bt179 => ((manometerref19_Fill.f x177000 x177001 x177002 x177003 ((rd_T33 x41 x43).f0)).bind fun bt183 => (if (!(bt179.1 == bt183.1) || (!(bt179.2.1 == bt183.2.1) || (!(bt179.2.2.1 == bt183.2.2.1) || (!(bt179.2.2.2 == bt183.2.2.2))))) = true then (some false) else (if (rd_T33 x41 x43).f2 = true then ((limit_Turn.f x166000 x166001 x166002 x166003 ((rd_T33 x41 x43).f3) ((rd_T33 x41 x43).f4) ((rd_T33 x41 x43).f0)).bind fun bt187 => ((manometerref19_Turn.f x177000 x177001 x177002 x177003 ((rd_T33 x41 x43).f3) ((rd_T33 x41 x43).f4) ((rd_T33 x41 x43).f0)).bind fun bt191 => (manometerlaw19_LimitBuckets.j2 k x41 x42 x43 bt187.1 bt187.2.1 bt187.2.2.1 bt187.2.2.2 bt191.1 bt191.2.1 bt191.2.2.1 bt191.2.2.2))) else ((limit_Take.f x166000 x166001 x166002 x166003 ((rd_T33 x41 x43).f0) ((rd_T33 x41 x43).f1)).bind fun bt195 => ((manometerref19_Take.f x177000 x177001 x177002 x177003 ((rd_T33 x41 x43).f0) ((rd_T33 x41 x43).f1)).bind fun bt200 => (if (bt195.2.2.2.2 != bt200.2.2.2.2) = true then (some false) else (manometerlaw19_LimitBuckets.j2 k x41 x42 x43 bt195.1 bt195.2.1 bt195.2.2.1 bt195.2.2.2.1 bt200.1 bt200.2.1 bt200.2.2.1 bt200.2.2.2.1)))))))) else (none)) else (none)) else (some true)
def manometerlaw19_LimitBuckets.j2 : Nat → List (S33) → Int → Int → Int → Int → Int → Int → Int → Int → Int → Int → Option (Bool)
 | 0, _, _, _, _, _, _, _, _, _, _, _ => none
 | k + 1, x41, x42, x43, x166000, x166001, x166002, x166003, x177000, x177001, x177002, x177003 => if (!(x166000 == x177000) || (!(x166001 == x177001) || (!(x166002 == x177002) || (!(x166003 == x177003))))) = true then (some false) else (manometerlaw19_LimitBuckets.l0 k x41 x42 (wrap64 (x43 + 1)) x166000 x166001 x166002 x166003 x177000 x177001 x177002 x177003)
end
def manometerlaw19_LimitBuckets.f (k : Nat) (a0_0 : Int) (a0_1 : Int) (a0_2 : Int) (a0_3 : Int) (l1 : List (S33)) : Option (Bool) := (manometerlaw19_live.f).bind fun t166 => (if t166 = true then (if (l1.length : Int) > 300 then (manometerlaw19_LimitBuckets.j0 k l1 true a0_0 a0_1 a0_2 a0_3) else ((limit_Full.f a0_0 a0_1 a0_3).bind fun bt167 => ((manometerref19_Full.f a0_0 a0_1 a0_3).bind fun bt171 => (manometerlaw19_LimitBuckets.j0 k l1 (!(bt167.1 == bt171.1) || (!(bt167.2.1 == bt171.2.1) || (!(bt167.2.2.1 == bt171.2.2.1) || (!(bt167.2.2.2 == bt171.2.2.2))))) a0_0 a0_1 a0_2 a0_3)))) else (manometerlaw19_LimitBuckets.j0 k l1 true a0_0 a0_1 a0_2 a0_3))
def manometerlaw19_LimitBuckets.T1 : Bool × List (List Nat × List Nat) := (true, [([], []), ([0], [0]), ([1, 0], [1]), ([2], [2]), ([3, 2], [2, 3]), ([4, 2], [2, 4]), ([2, 5], [2, 5]), ([6, 2], [6]), ([7], [7]), ([8, 7], [7, 8]), ([7], [7]), ([10, 7], [7, 10]), ([7], [7]), ([12, 7], [7, 12]), ([9, 11, 13, 7, 7], [7, 9, 11, 13]), ([7], [7]), ([15, 7], [7, 15]), ([7], [7]), ([17, 7], [7, 17]), ([7], [7]), ([19, 7], [7, 19]), ([16, 18, 20, 14, 7], [7, 16, 18, 20]), ([14, 21, 7], [7, 14, 21]), ([7, 22], [7, 22])])
def manometerlaw19_LimitBuckets.B1 : List Nat := [0, 1, 3, 7, 15, 31, 63, 127, 255, 511, 255, 1279, 255, 4351, 16383, 255, 33023, 255, 131327, 255, 524543, 2097151, 4194303, 8388607]
theorem manometerlaw19_LimitBuckets.tab1 : rtab .any (opsOf Tryd.f6 1) = manometerlaw19_LimitBuckets.T1 := by kernel_rfl
theorem manometerlaw19_LimitBuckets.bits1 : waitsOk manometerlaw19_LimitBuckets.T1.2 manometerlaw19_LimitBuckets.B1 = true := by kernel_rfl
def manometerlaw19_LimitBuckets.T7 : Bool × List (List Nat × List Nat) := (true, [([], []), ([], []), ([1], [1]), ([0, 2], [0, 2]), ([], []), ([], []), ([5], [5]), ([4, 6, 3], [4, 6]), ([3, 7], [3, 7])])
def manometerlaw19_LimitBuckets.B7 : List Nat := [0, 0, 2, 7, 0, 0, 32, 127, 255]
theorem manometerlaw19_LimitBuckets.tab7 : rtab .any (opsOf Tryd.f6 7) = manometerlaw19_LimitBuckets.T7 := by kernel_rfl
theorem manometerlaw19_LimitBuckets.bits7 : waitsOk manometerlaw19_LimitBuckets.T7.2 manometerlaw19_LimitBuckets.B7 = true := by kernel_rfl
def manometerlaw19_LimitBuckets.T10 : Bool × List (List Nat × List Nat) := (true, [([], []), ([], []), ([1], [1]), ([], []), ([3], [3]), ([], []), ([5], [5]), ([0, 2, 4, 6], [0, 2, 4, 6]), ([], []), ([], []), ([9], [9]), ([], []), ([11], [11]), ([], []), ([13], [13]), ([8, 10, 12, 14, 7], [8, 10, 12, 14]), ([7, 15, 0, 1, 2, 3, 4, 5, 6, 7], [7]), ([15, 16, 0, 1, 2, 3, 4, 5, 6, 7, 8, 9, 10, 11, 12, 13, 14, 15, 16], [15])])
def manometerlaw19_LimitBuckets.B10 : List Nat := [0, 0, 2, 0, 8, 0, 32, 127, 0, 0, 512, 0, 2048, 0, 8192, 32767, 65535, 131071]
theorem manometerlaw19_LimitBuckets.tab10 : rtab .any (opsOf Tryd.f6 10) = manometerlaw19_LimitBuckets.T10 := by kernel_rfl
theorem manometerlaw19_LimitBuckets.bits10 : waitsOk manometerlaw19_LimitBuckets.T10.2 manometerlaw19_LimitBuckets.B10 = true := by kernel_rfl
set_option maxHeartbeats 8000000 in
set_option maxRecDepth 100000 in
theorem manometerlaw19_LimitBuckets.calls (k : Nat) (a0_0 : Int) (a0_1 : Int) (a0_2 : Int) (a0_3 : Int) (A1 : Option Addr) (c1 : Nat) (l1 : List (S33)) (r : Bool) (w : World) (hT : Aside0 (Tab w)) (hr1 : Kd.C k33 w A1 l1.length l1) (hc1 : l1.length ≤ c1) (h : manometerlaw19_LimitBuckets.f k a0_0 a0_1 a0_2 a0_3 l1 = some r) :
  Calls Tryd.prog 6 #[.agg #[.int .u64 a0_0, .int .u64 a0_1, .int .u64 a0_2, .int .i64 a0_3], .slice A1 l1.length c1] w fun e w' => e = .returned (.bool r) ∧ Below w.heap.size w w' := by
 have hu30 := Tryd.underlying30
 have hu33 := Tryd.underlying33
 have HR1 := Aside0.mk hr1
 have HC1 := Aside0.mk hc1
 clear hr1 hc1
 have HB := Aside0.mk (Below.refl w.heap.size w)
 have H : ((manometerlaw19_live.f).bind fun t166 => (if t166 = true then (if (l1.length : Int) > 300 then (manometerlaw19_LimitBuckets.j0 k l1 true a0_0 a0_1 a0_2 a0_3) else ((limit_Full.f a0_0 a0_1 a0_3).bind fun bt167 => ((manometerref19_Full.f a0_0 a0_1 a0_3).bind fun bt171 => (manometerlaw19_LimitBuckets.j0 k l1 (!(bt167.1 == bt171.1) || (!(bt167.2.1 == bt171.2.1) || (!(bt167.2.2.1 == bt171.2.2.1) || (!(bt167.2.2.2 == bt171.2.2.2))))) a0_0 a0_1 a0_2 a0_3)))) else (manometerlaw19_LimitBuckets.j0 k l1 true a0_0 a0_1 a0_2 a0_3))) = some r := h
 clear h
 have HC3 := Aside0.mk H
 clear H
 go_enter Tryd.func6, Tryd.ntmps6
 go_upto_region 1 with (first | ((with_reducible refine gate_dst (N := 2) rfl ?_); (try (refine gate_guard (by rfl) ?_; dsimp only)); refine box_event ?hg (N := 2) ?hd (cs := #[.int .u64 a0_0, .int .u64 a0_1, .int .u64 a0_2, .int .i64 a0_3]) (t := 30) ?hr ?_; (case hd => rfl); (case hg => rfl); (case hr => first | (go_simp; done) | (go_simp; rfl)); intro gb165 hg w4 hbox hb; have n0_ := Aside0.mk (below_step y1_ hb); have n1_ := Aside0.mk (hbox); have n2_ := Aside0.mk ((y12_ : w.heap.size ≤ gb165)); have n3_ := Aside0.mk ((y12_ : w.heap.size ≤ gb165)); clear HB; have HB := n0_; have BK165 := n1_; have GW165 := n2_; have GE165 := n3_; clear n0_ n1_ n2_ n3_; clear hb hbox hg))
 (try simp only [Act.put, List.setIfInBounds_toArray, List.set_cons_zero, List.set_cons_succ])
 go_cut [33] (fun v33 wc => ∃ (kq : Nat) (x33_2 : Bool), v33 = .bool x33_2 ∧ Aside0 (manometerlaw19_LimitBuckets.j0 kq l1 x33_2 a0_0 a0_1 a0_2 a0_3 = some r) ∧ Aside0 (kq ≤ k) ∧ Aside0 (wc.heap[gb165]? = some (.cells #[.int .u64 a0_0, .int .u64 a0_1, .int .u64 a0_2, .int .i64 a0_3] 30 (0, 0))) ∧ Aside0 (Below w.heap.size w wc))
 case first =>
  have H := HC3.out
  clear HC3
  replace H := Option.bind_eq_some_iff.mp H
  obtain ⟨t166, A50, H⟩ := H
  replace H : (if t166 = true then (if (l1.length : Int) > 300 then (manometerlaw19_LimitBuckets.j0 k l1 true a0_0 a0_1 a0_2 a0_3) else ((limit_Full.f a0_0 a0_1 a0_3).bind fun bt167 => ((manometerref19_Full.f a0_0 a0_1 a0_3).bind fun bt171 => (manometerlaw19_LimitBuckets.j0 k l1 (!(bt167.1 == bt171.1) || (!(bt167.2.1 == bt171.2.1) || (!(bt167.2.2.1 == bt171.2.2.1) || (!(bt167.2.2.2 == bt171.2.2.2))))) a0_0 a0_1 a0_2 a0_3)))) else (manometerlaw19_LimitBuckets.j0 k l1 true a0_0 a0_1 a0_2 a0_3)) = some r := H
  have A5 := Aside0.mk A50
  clear A50
  by_cases c6 : t166 = true
  ·subst c6
   have H1 : (if (l1.length : Int) > 300 then (manometerlaw19_LimitBuckets.j0 k l1 true a0_0 a0_1 a0_2 a0_3) else ((limit_Full.f a0_0 a0_1 a0_3).bind fun bt167 => ((manometerref19_Full.f a0_0 a0_1 a0_3).bind fun bt171 => (manometerlaw19_LimitBuckets.j0 k l1 (!(bt167.1 == bt171.1) || (!(bt167.2.1 == bt171.2.1) || (!(bt167.2.2.1 == bt171.2.2.1) || (!(bt167.2.2.2 == bt171.2.2.2))))) a0_0 a0_1 a0_2 a0_3)))) = some r := by rw [if_pos rfl] at H; exact H
   clear H
   have H := H1
   clear H1
   by_cases c7 : (l1.length : Int) > 300
   ·rw [if_pos c7] at H
    have c7b0 : decide (300 < (l1.length : Int)) = true := decide_eq_true c7
    have c7b1 : decide (300 < l1.length) = true := decide_eq_true (by omega)
    clear c7
    (first | rw [c7b0] | (simp only [i64_w, i32_w]; rw [c7b0]) | skip)
    have H' := Aside0.mk H
    clear H
    try go_wp2
    have n0_ := Aside0.mk (blk_drew BK165.out)
    have n1_ := Aside0.mk (below_drew1 HB.out)
    clear BK165
    clear HB
    have BK165 := n0_
    have HB := n1_
    clear n0_ n1_
    refine start_ (n := 24) (S := fun w' => True) (ds := []) #[false, false, false, false, false, false, false, false, false, false, false, false, false, false, false, false, false, false, false, false, false, false, false, false] (by kernel_rfl) rfl rfl trivial (fun hHeld => ?_); refine with_tabW manometerlaw19_LimitBuckets.tab1 manometerlaw19_LimitBuckets.bits1 (fun HT_ HW_ => ?_)
    generalize w4.drew = w8 at BK165 HB hHeld ⊢
    refine one_ (i := 0) (N := some 10) #[true, false, false, false, false, false, false, false, false, false, false, false, false, false, false, false, false, false, false, false, false, false, false, false] rfl rfl (one_of HT_.out (by kernel_rfl)) (by decide) (fun K hK => ?_)
    refine goes_ Tryd.func11 (by kernel_rfl) rfl #[] (by rfl) rfl rfl y4_ ?_
    with_reducible refine (manometerlaw19_live.calls  true _ ?side1 A5.out).mono ?_
    (case side1 => exact ⟨Tab_below hT.out y8_⟩)
    rintro e w9 ⟨rfl, hb⟩
    refine ⟨_, rfl, ?_⟩
    have n0_ := Aside0.mk (blk_below (g := gb165) (o := .cells #[.int .u64 a0_0, .int .u64 a0_1, .int .u64 a0_2, .int .i64 a0_3] 30 (0, 0)) y7_ hb)
    have n1_ := Aside0.mk (below_step y8_ hb)
    clear BK165
    clear HB
    have BK165 := n0_
    have HB := n1_
    clear n0_ n1_
    (try clear hb)
    (try clear hb2)
    (try clear hk)
    (try clear hi)
    refine hK.out _ _ trivial (fun hHeld => ?_)
    clear hK K
    refine norm_ (a' := ?_) ?_ ?_
    rotate_left
    ·show Act.put _ (some 10) _ = _
     simp only [Act.put, List.setIfInBounds_toArray, List.set_cons_zero, List.set_cons_succ, i64_w, i32_w]
     rfl
    refine pure_ (i := 1) (N := some 11) (v := ?_) (a' := ?_) #[true, true, false, false, false, false, false, false, false, false, false, false, false, false, false, false, false, false, false, false, false, false, false, false] rfl rfl (any_of HT_.out (by kernel_rfl)) (fun _ _ _ h => h) (Or.inl ⟨by rfl, ?_⟩) ?_ ?_
    rotate_left
    ·intro w'
     go_simp
     with_reducible rfl
    rotate_left
    ·simp only [Act.put, List.setIfInBounds_toArray, List.set_cons_zero, List.set_cons_succ, i64_w, i32_w]
     rfl
    refine pure_ (i := 2) (N := some 12) (v := ?_) (a' := ?_) #[true, true, true, false, false, false, false, false, false, false, false, false, false, false, false, false, false, false, false, false, false, false, false, false] rfl rfl (any_of HT_.out (by kernel_rfl)) (fun _ _ _ h => h) (Or.inl ⟨by rfl, ?_⟩) ?_ ?_
    rotate_left
    ·intro w'
     go_simp
     with_reducible rfl
    rotate_left
    ·simp only [Act.put, List.setIfInBounds_toArray, List.set_cons_zero, List.set_cons_succ, i64_w, i32_w]
     rfl
    refine pure_ (i := 3) (N := some 13) (v := ?_) (a' := ?_) #[true, true, true, true, false, false, false, false, false, false, false, false, false, false, false, false, false, false, false, false, false, false, false, false] rfl rfl (any_of HT_.out (by kernel_rfl)) (fun _ _ _ h => h) (Or.inl ⟨by rfl, ?_⟩) ?_ ?_
    rotate_left
    ·intro w'
     go_simp
     with_reducible rfl
    rotate_left
    ·simp only [Act.put, List.setIfInBounds_toArray, List.set_cons_zero, List.set_cons_succ, i64_w, i32_w]
     rfl
    refine pure_ (i := 4) (N := some 14) (v := ?_) (a' := ?_) #[true, true, true, true, true, false, false, false, false, false, false, false, false, false, false, false, false, false, false, false, false, false, false, false] rfl rfl (any_of HT_.out (by kernel_rfl)) (fun _ _ _ h => h) (Or.inl ⟨by rfl, ?_⟩) ?_ ?_
    rotate_left
    ·intro w'
     go_simp
     with_reducible rfl
    rotate_left
    ·simp only [Act.put, List.setIfInBounds_toArray, List.set_cons_zero, List.set_cons_succ, i64_w, i32_w]
     rfl
    refine pure_ (i := 5) (N := some 15) (v := ?_) (a' := ?_) #[true, true, true, true, true, true, false, false, false, false, false, false, false, false, false, false, false, false, false, false, false, false, false, false] rfl rfl (any_of HT_.out (by kernel_rfl)) (fun _ _ _ h => h) (Or.inl ⟨by rfl, ?_⟩) ?_ ?_
    rotate_left
    ·intro w'
     go_simp
     with_reducible rfl
    rotate_left
    ·simp only [Act.put, List.setIfInBounds_toArray, List.set_cons_zero, List.set_cons_succ, i64_w, i32_w]
     rfl
    refine pure_ (i := 6) (N := some 16) (v := ?_) (a' := ?_) #[true, true, true, true, true, true, true, false, false, false, false, false, false, false, false, false, false, false, false, false, false, false, false, false] rfl rfl (any_of HT_.out (by kernel_rfl)) (fun _ _ _ h => h) (Or.inl ⟨by rfl, ?_⟩) ?_ ?_
    rotate_left
    ·intro w'
     go_simp
     with_reducible rfl
    rotate_left
    ·simp only [Act.put, List.setIfInBounds_toArray, List.set_cons_zero, List.set_cons_succ, i64_w, i32_w]
     rfl
    refine pure_ (i := 7) (N := some 17) (v := ?_) (a' := ?_) #[true, true, true, true, true, true, true, true, false, false, false, false, false, false, false, false, false, false, false, false, false, false, false, false] rfl rfl (any_of HT_.out (by kernel_rfl)) (fun _ _ _ h => h) (Or.inl ⟨by rfl, ?_⟩) ?_ ?_
    rotate_left
    ·intro w'
     go_simp
     with_reducible rfl
    rotate_left
    ·simp only [Act.put, List.setIfInBounds_toArray, List.set_cons_zero, List.set_cons_succ, i64_w, i32_w]
     rfl
    refine pure_ (i := 8) (N := some 18) (v := undef) (a' := ?_) #[true, true, true, true, true, true, true, true, true, false, false, false, false, false, false, false, false, false, false, false, false, false, false, false] rfl rfl (any_of HT_.out (by kernel_rfl)) (fun _ _ _ h => h) (Or.inr ⟨by rfl, rfl⟩) ?_ ?_
    rotate_left
    ·simp only [Act.put, List.setIfInBounds_toArray, List.set_cons_zero, List.set_cons_succ, i64_w, i32_w]
     rfl
    refine pure_ (i := 9) (N := some 19) (v := undef) (a' := ?_) #[true, true, true, true, true, true, true, true, true, true, false, false, false, false, false, false, false, false, false, false, false, false, false, false] rfl rfl (any_of HT_.out (by kernel_rfl)) (fun _ _ _ h => h) (Or.inr ⟨by rfl, rfl⟩) ?_ ?_
    rotate_left
    ·simp only [Act.put, List.setIfInBounds_toArray, List.set_cons_zero, List.set_cons_succ, i64_w, i32_w]
     rfl
    refine pure_ (i := 10) (N := some 20) (v := undef) (a' := ?_) #[true, true, true, true, true, true, true, true, true, true, true, false, false, false, false, false, false, false, false, false, false, false, false, false] rfl rfl (any_of HT_.out (by kernel_rfl)) (fun _ _ _ h => h) (Or.inr ⟨by rfl, rfl⟩) ?_ ?_
    rotate_left
    ·simp only [Act.put, List.setIfInBounds_toArray, List.set_cons_zero, List.set_cons_succ, i64_w, i32_w]
     rfl
    refine pure_ (i := 11) (N := some 21) (v := undef) (a' := ?_) #[true, true, true, true, true, true, true, true, true, true, true, true, false, false, false, false, false, false, false, false, false, false, false, false] rfl rfl (any_of HT_.out (by kernel_rfl)) (fun _ _ _ h => h) (Or.inr ⟨by rfl, rfl⟩) ?_ ?_
    rotate_left
    ·simp only [Act.put, List.setIfInBounds_toArray, List.set_cons_zero, List.set_cons_succ, i64_w, i32_w]
     rfl
    refine pure_ (i := 12) (N := some 22) (v := undef) (a' := ?_) #[true, true, true, true, true, true, true, true, true, true, true, true, true, false, false, false, false, false, false, false, false, false, false, false] rfl rfl (any_of HT_.out (by kernel_rfl)) (fun _ _ _ h => h) (Or.inr ⟨by rfl, rfl⟩) ?_ ?_
    rotate_left
    ·simp only [Act.put, List.setIfInBounds_toArray, List.set_cons_zero, List.set_cons_succ, i64_w, i32_w]
     rfl
    refine pure_ (i := 13) (N := some 23) (v := undef) (a' := ?_) #[true, true, true, true, true, true, true, true, true, true, true, true, true, true, false, false, false, false, false, false, false, false, false, false] rfl rfl (any_of HT_.out (by kernel_rfl)) (fun _ _ _ h => h) (Or.inr ⟨by rfl, rfl⟩) ?_ ?_
    rotate_left
    ·simp only [Act.put, List.setIfInBounds_toArray, List.set_cons_zero, List.set_cons_succ, i64_w, i32_w]
     rfl
    refine pure_ (i := 14) (N := some 24) (v := undef) (a' := ?_) #[true, true, true, true, true, true, true, true, true, true, true, true, true, true, true, false, false, false, false, false, false, false, false, false] rfl rfl (any_of HT_.out (by kernel_rfl)) (fun _ _ _ h => h) (Or.inr ⟨by rfl, rfl⟩) ?_ ?_
    rotate_left
    ·simp only [Act.put, List.setIfInBounds_toArray, List.set_cons_zero, List.set_cons_succ, i64_w, i32_w]
     rfl
    refine pure_ (i := 15) (N := some 25) (v := undef) (a' := ?_) #[true, true, true, true, true, true, true, true, true, true, true, true, true, true, true, true, false, false, false, false, false, false, false, false] rfl rfl (any_of HT_.out (by kernel_rfl)) (fun _ _ _ h => h) (Or.inr ⟨by rfl, rfl⟩) ?_ ?_
    rotate_left
    ·simp only [Act.put, List.setIfInBounds_toArray, List.set_cons_zero, List.set_cons_succ, i64_w, i32_w]
     rfl
    refine pure_ (i := 16) (N := some 26) (v := undef) (a' := ?_) #[true, true, true, true, true, true, true, true, true, true, true, true, true, true, true, true, true, false, false, false, false, false, false, false] rfl rfl (any_of HT_.out (by kernel_rfl)) (fun _ _ _ h => h) (Or.inr ⟨by rfl, rfl⟩) ?_ ?_
    rotate_left
    ·simp only [Act.put, List.setIfInBounds_toArray, List.set_cons_zero, List.set_cons_succ, i64_w, i32_w]
     rfl
    refine pure_ (i := 17) (N := some 27) (v := undef) (a' := ?_) #[true, true, true, true, true, true, true, true, true, true, true, true, true, true, true, true, true, true, false, false, false, false, false, false] rfl rfl (any_of HT_.out (by kernel_rfl)) (fun _ _ _ h => h) (Or.inr ⟨by rfl, rfl⟩) ?_ ?_
    rotate_left
    ·simp only [Act.put, List.setIfInBounds_toArray, List.set_cons_zero, List.set_cons_succ, i64_w, i32_w]
     rfl
    refine pure_ (i := 18) (N := some 28) (v := undef) (a' := ?_) #[true, true, true, true, true, true, true, true, true, true, true, true, true, true, true, true, true, true, true, false, false, false, false, false] rfl rfl (any_of HT_.out (by kernel_rfl)) (fun _ _ _ h => h) (Or.inr ⟨by rfl, rfl⟩) ?_ ?_
    rotate_left
    ·simp only [Act.put, List.setIfInBounds_toArray, List.set_cons_zero, List.set_cons_succ, i64_w, i32_w]
     rfl
    refine pure_ (i := 19) (N := some 29) (v := undef) (a' := ?_) #[true, true, true, true, true, true, true, true, true, true, true, true, true, true, true, true, true, true, true, true, false, false, false, false] rfl rfl (any_of HT_.out (by kernel_rfl)) (fun _ _ _ h => h) (Or.inr ⟨by rfl, rfl⟩) ?_ ?_
    rotate_left
    ·simp only [Act.put, List.setIfInBounds_toArray, List.set_cons_zero, List.set_cons_succ, i64_w, i32_w]
     rfl
    refine pure_ (i := 20) (N := some 30) (v := undef) (a' := ?_) #[true, true, true, true, true, true, true, true, true, true, true, true, true, true, true, true, true, true, true, true, true, false, false, false] rfl rfl (any_of HT_.out (by kernel_rfl)) (fun _ _ _ h => h) (Or.inr ⟨by rfl, rfl⟩) ?_ ?_
    rotate_left
    ·simp only [Act.put, List.setIfInBounds_toArray, List.set_cons_zero, List.set_cons_succ, i64_w, i32_w]
     rfl
    refine pure_ (i := 21) (N := some 31) (v := undef) (a' := ?_) #[true, true, true, true, true, true, true, true, true, true, true, true, true, true, true, true, true, true, true, true, true, true, false, false] rfl rfl (any_of HT_.out (by kernel_rfl)) (fun _ _ _ h => h) (Or.inr ⟨by rfl, rfl⟩) ?_ ?_
    rotate_left
    ·simp only [Act.put, List.setIfInBounds_toArray, List.set_cons_zero, List.set_cons_succ, i64_w, i32_w]
     rfl
    refine pure_ (i := 22) (N := some 32) (v := undef) (a' := ?_) #[true, true, true, true, true, true, true, true, true, true, true, true, true, true, true, true, true, true, true, true, true, true, true, false] rfl rfl (any_of HT_.out (by kernel_rfl)) (fun _ _ _ h => h) (Or.inr ⟨by rfl, rfl⟩) ?_ ?_
    rotate_left
    ·simp only [Act.put, List.setIfInBounds_toArray, List.set_cons_zero, List.set_cons_succ, i64_w, i32_w]
     rfl
    refine pure_ (i := 23) (N := some 33) (v := ?_) (a' := ?_) #[true, true, true, true, true, true, true, true, true, true, true, true, true, true, true, true, true, true, true, true, true, true, true, true] rfl rfl (any_of HT_.out (by kernel_rfl)) (fun _ _ _ h => h) (Or.inl ⟨by rfl, ?_⟩) ?_ ?_
    rotate_left
    ·intro w'
     go_simp
     with_reducible rfl
    rotate_left
    ·simp only [Act.put, List.setIfInBounds_toArray, List.set_cons_zero, List.set_cons_succ, i64_w, i32_w]
     rfl
    refine done_ (done_of HT_.out (by kernel_rfl)) ?_
    try go_wp2
    go_meet
    case rel => exact ⟨_, (true), y15_, H', ⟨by first | omega | exact Nat.le_refl _⟩, ⟨y7_⟩, ⟨y8_⟩⟩
   ·rw [if_neg c7] at H
    have c7b0 : decide (300 < (l1.length : Int)) = false := decide_eq_false c7
    have c7b1 : decide (300 < l1.length) = false := decide_eq_false (by omega)
    clear c7
    (first | rw [c7b0] | (simp only [i64_w, i32_w]; rw [c7b0]) | skip)
    replace H := Option.bind_eq_some_iff.mp H
    obtain ⟨⟨t167, t168, t169, t170⟩, A100, H⟩ := H
    replace H : ((manometerref19_Full.f a0_0 a0_1 a0_3).bind fun bt171 => (manometerlaw19_LimitBuckets.j0 k l1 (!(t167 == bt171.1) || (!(t168 == bt171.2.1) || (!(t169 == bt171.2.2.1) || (!(t170 == bt171.2.2.2))))) a0_0 a0_1 a0_2 a0_3)) = some r := H
    have A10 := Aside0.mk A100
    clear A100
    replace H := Option.bind_eq_some_iff.mp H
    obtain ⟨⟨t171, t172, t173, t174⟩, A110, H⟩ := H
    replace H : (manometerlaw19_LimitBuckets.j0 k l1 (!(t167 == t171) || (!(t168 == t172) || (!(t169 == t173) || (!(t170 == t174))))) a0_0 a0_1 a0_2 a0_3) = some r := H
    have A11 := Aside0.mk A110
    clear A110
    have H' := Aside0.mk H
    clear H
    try go_wp2
    have n0_ := Aside0.mk (blk_drew BK165.out)
    have n1_ := Aside0.mk (below_drew1 HB.out)
    clear BK165
    clear HB
    have BK165 := n0_
    have HB := n1_
    clear n0_ n1_
    refine start_ (n := 24) (S := fun w' => w'.cell? ⟨gb165, 0, none⟩ = some (.int .u64 a0_0) ∧ w'.cell? ⟨gb165, 1, none⟩ = some (.int .u64 a0_1) ∧ w'.cell? ⟨gb165, 2, none⟩ = some (.int .u64 a0_2) ∧ w'.cell? ⟨gb165, 3, none⟩ = some (.int .i64 a0_3)) (ds := []) #[false, false, false, false, false, false, false, false, false, false, false, false, false, false, false, false, false, false, false, false, false, false, false, false] (by kernel_rfl) rfl rfl ⟨(blk_cell BK165.out 0).trans rfl, (blk_cell BK165.out 1).trans rfl, (blk_cell BK165.out 2).trans rfl, (blk_cell BK165.out 3).trans rfl⟩ (fun hHeld => ?_); refine with_tabW manometerlaw19_LimitBuckets.tab1 manometerlaw19_LimitBuckets.bits1 (fun HT_ HW_ => ?_)
    generalize w4.drew = w12 at BK165 HB hHeld ⊢
    refine one_ (i := 0) (N := some 10) #[true, false, false, false, false, false, false, false, false, false, false, false, false, false, false, false, false, false, false, false, false, false, false, false] rfl rfl (one_of HT_.out (by kernel_rfl)) (by decide) (fun K hK => ?_)
    refine goes_ Tryd.func11 (by kernel_rfl) rfl #[] (by rfl) rfl rfl y4_ ?_
    with_reducible refine (manometerlaw19_live.calls  true _ ?side1 A5.out).mono ?_
    (case side1 => exact ⟨Tab_below hT.out y8_⟩)
    rintro e w13 ⟨rfl, hb⟩
    refine ⟨_, rfl, ?_⟩
    have n0_ := Aside0.mk (blk_below (g := gb165) (o := .cells #[.int .u64 a0_0, .int .u64 a0_1, .int .u64 a0_2, .int .i64 a0_3] 30 (0, 0)) y7_ hb)
    have n1_ := Aside0.mk (below_step y8_ hb)
    clear BK165
    clear HB
    have BK165 := n0_
    have HB := n1_
    clear n0_ n1_
    (try clear hb)
    (try clear hb2)
    (try clear hk)
    (try clear hi)
    refine hK.out _ _ ⟨(blk_cell BK165.out 0).trans rfl, (blk_cell BK165.out 1).trans rfl, (blk_cell BK165.out 2).trans rfl, (blk_cell BK165.out 3).trans rfl⟩ (fun hHeld => ?_)
    clear hK K
    refine norm_ (a' := ?_) ?_ ?_
    rotate_left
    ·show Act.put _ (some 10) _ = _
     simp only [Act.put, List.setIfInBounds_toArray, List.set_cons_zero, List.set_cons_succ, i64_w, i32_w]
     rfl
    refine pure_ (i := 1) (N := some 11) (v := ?_) (a' := ?_) #[true, true, false, false, false, false, false, false, false, false, false, false, false, false, false, false, false, false, false, false, false, false, false, false] rfl rfl (any_of HT_.out (by kernel_rfl)) (fun _ _ _ h => h) (Or.inl ⟨by rfl, ?_⟩) ?_ ?_
    rotate_left
    ·intro w'
     go_simp
     with_reducible rfl
    rotate_left
    ·simp only [Act.put, List.setIfInBounds_toArray, List.set_cons_zero, List.set_cons_succ, i64_w, i32_w]
     rfl
    refine pure_ (i := 2) (N := some 12) (v := ?_) (a' := ?_) #[true, true, true, false, false, false, false, false, false, false, false, false, false, false, false, false, false, false, false, false, false, false, false, false] rfl rfl (any_of HT_.out (by kernel_rfl)) (fun _ _ _ h => h) (Or.inl ⟨by rfl, ?_⟩) ?_ ?_
    rotate_left
    ·intro w'
     go_simp
     with_reducible rfl
    rotate_left
    ·simp only [Act.put, List.setIfInBounds_toArray, List.set_cons_zero, List.set_cons_succ, i64_w, i32_w]
     rfl
    refine pure_ (i := 3) (N := some 13) (v := ?_) (a' := ?_) #[true, true, true, true, false, false, false, false, false, false, false, false, false, false, false, false, false, false, false, false, false, false, false, false] rfl rfl (any_of HT_.out (by kernel_rfl)) (fun _ _ _ h => h) (Or.inl ⟨by rfl, ?_⟩) ?_ ?_
    rotate_left
    ·intro w'
     go_simp
     with_reducible rfl
    rotate_left
    ·simp only [Act.put, List.setIfInBounds_toArray, List.set_cons_zero, List.set_cons_succ, i64_w, i32_w]
     rfl
    refine pure_ (i := 4) (N := some 14) (v := ?_) (a' := ?_) #[true, true, true, true, true, false, false, false, false, false, false, false, false, false, false, false, false, false, false, false, false, false, false, false] rfl rfl (any_of HT_.out (by kernel_rfl)) (fun _ _ _ h => h) (Or.inl ⟨by rfl, ?_⟩) ?_ ?_
    rotate_left
    ·intro w'
     go_simp
     with_reducible rfl
    rotate_left
    ·simp only [Act.put, List.setIfInBounds_toArray, List.set_cons_zero, List.set_cons_succ, i64_w, i32_w]
     rfl
    refine pure_ (i := 5) (N := some 15) (v := ?_) (a' := ?_) #[true, true, true, true, true, true, false, false, false, false, false, false, false, false, false, false, false, false, false, false, false, false, false, false] rfl rfl (any_of HT_.out (by kernel_rfl)) (fun _ _ _ h => h) (Or.inl ⟨by rfl, ?_⟩) ?_ ?_
    rotate_left
    ·intro w'
     go_simp
     with_reducible rfl
    rotate_left
    ·simp only [Act.put, List.setIfInBounds_toArray, List.set_cons_zero, List.set_cons_succ, i64_w, i32_w]
     rfl
    refine pure_ (i := 6) (N := some 16) (v := ?_) (a' := ?_) #[true, true, true, true, true, true, true, false, false, false, false, false, false, false, false, false, false, false, false, false, false, false, false, false] rfl rfl (any_of HT_.out (by kernel_rfl)) (fun _ _ _ h => h) (Or.inl ⟨by rfl, ?_⟩) ?_ ?_
    rotate_left
    ·intro w'
     go_simp
     with_reducible rfl
    rotate_left
    ·simp only [Act.put, List.setIfInBounds_toArray, List.set_cons_zero, List.set_cons_succ, i64_w, i32_w]
     rfl
    refine pure_ (i := 7) (N := some 17) (v := ?_) (a' := ?_) #[true, true, true, true, true, true, true, true, false, false, false, false, false, false, false, false, false, false, false, false, false, false, false, false] rfl rfl (any_of HT_.out (by kernel_rfl)) (fun _ _ _ h => h) (Or.inl ⟨by rfl, ?_⟩) ?_ ?_
    rotate_left
    ·intro w'
     go_simp
     with_reducible rfl
    rotate_left
    ·simp only [Act.put, List.setIfInBounds_toArray, List.set_cons_zero, List.set_cons_succ, i64_w, i32_w]
     rfl
    refine pure_ (i := 8) (N := some 18) (v := ?_) (a' := ?_) #[true, true, true, true, true, true, true, true, true, false, false, false, false, false, false, false, false, false, false, false, false, false, false, false] rfl rfl (any_of HT_.out (by kernel_rfl)) (fun _ _ _ h => h) (Or.inl ⟨by rfl, ?_⟩) ?_ ?_
    rotate_left
    ·intro w'
     go_simp
     with_reducible rfl
    rotate_left
    ·simp only [Act.put, List.setIfInBounds_toArray, List.set_cons_zero, List.set_cons_succ, i64_w, i32_w]
     rfl
    refine pure_ (i := 10) (N := some 20) (v := ?_) (a' := ?_) #[true, true, true, true, true, true, true, true, true, false, true, false, false, false, false, false, false, false, false, false, false, false, false, false] rfl rfl (any_of HT_.out (by kernel_rfl)) (fun _ _ _ h => h) (Or.inl ⟨by rfl, ?_⟩) ?_ ?_
    rotate_left
    ·intro w'
     go_simp
     with_reducible rfl
    rotate_left
    ·simp only [Act.put, List.setIfInBounds_toArray, List.set_cons_zero, List.set_cons_succ, i64_w, i32_w]
     rfl
    refine pure_ (i := 12) (N := some 22) (v := ?_) (a' := ?_) #[true, true, true, true, true, true, true, true, true, false, true, false, true, false, false, false, false, false, false, false, false, false, false, false] rfl rfl (any_of HT_.out (by kernel_rfl)) (fun _ _ _ h => h) (Or.inl ⟨by rfl, ?_⟩) ?_ ?_
    rotate_left
    ·intro w'
     go_simp
     with_reducible rfl
    rotate_left
    ·simp only [Act.put, List.setIfInBounds_toArray, List.set_cons_zero, List.set_cons_succ, i64_w, i32_w]
     rfl
    refine pure_ (i := 15) (N := some 25) (v := ?_) (a' := ?_) #[true, true, true, true, true, true, true, true, true, false, true, false, true, false, false, true, false, false, false, false, false, false, false, false] rfl rfl (any_of HT_.out (by kernel_rfl)) (fun _ _ _ h => h) (Or.inl ⟨by rfl, ?_⟩) ?_ ?_
    rotate_left
    ·intro w'
     go_simp
     with_reducible rfl
    rotate_left
    ·simp only [Act.put, List.setIfInBounds_toArray, List.set_cons_zero, List.set_cons_succ, i64_w, i32_w]
     rfl
    refine pure_ (i := 17) (N := some 27) (v := ?_) (a' := ?_) #[true, true, true, true, true, true, true, true, true, false, true, false, true, false, false, true, false, true, false, false, false, false, false, false] rfl rfl (any_of HT_.out (by kernel_rfl)) (fun _ _ _ h => h) (Or.inl ⟨by rfl, ?_⟩) ?_ ?_
    rotate_left
    ·intro w'
     go_simp
     with_reducible rfl
    rotate_left
    ·simp only [Act.put, List.setIfInBounds_toArray, List.set_cons_zero, List.set_cons_succ, i64_w, i32_w]
     rfl
    refine pure_ (i := 19) (N := some 29) (v := ?_) (a' := ?_) #[true, true, true, true, true, true, true, true, true, false, true, false, true, false, false, true, false, true, false, true, false, false, false, false] rfl rfl (any_of HT_.out (by kernel_rfl)) (fun _ _ _ h => h) (Or.inl ⟨by rfl, ?_⟩) ?_ ?_
    rotate_left
    ·intro w'
     go_simp
     with_reducible rfl
    rotate_left
    ·simp only [Act.put, List.setIfInBounds_toArray, List.set_cons_zero, List.set_cons_succ, i64_w, i32_w]
     rfl
    refine take_ (i := 9) (N := some 19) (v := ?_) (a' := ?_) #[true, true, true, true, true, true, true, true, true, true, true, false, true, false, false, true, false, true, false, true, false, false, false, false] rfl rfl (take_ofW HT_.out HW_.out (by kernel_rfl)) (fun _ _ _ h => h) (Or.inl ⟨by rfl, ?_⟩) hHeld ?_ ?_
    rotate_left
    ·rintro w' ⟨s0, s1, s2, s3⟩
     go_simp
     with_reducible rfl
    rotate_left
    ·simp only [Act.put, List.setIfInBounds_toArray, List.set_cons_zero, List.set_cons_succ, i64_w, i32_w]
     rfl
    refine take_ (i := 11) (N := some 21) (v := ?_) (a' := ?_) #[true, true, true, true, true, true, true, true, true, true, true, true, true, false, false, true, false, true, false, true, false, false, false, false] rfl rfl (take_ofW HT_.out HW_.out (by kernel_rfl)) (fun _ _ _ h => h) (Or.inl ⟨by rfl, ?_⟩) hHeld ?_ ?_
    rotate_left
    ·rintro w' ⟨s0, s1, s2, s3⟩
     go_simp
     with_reducible rfl
    rotate_left
    ·simp only [Act.put, List.setIfInBounds_toArray, List.set_cons_zero, List.set_cons_succ, i64_w, i32_w]
     rfl
    refine take_ (i := 13) (N := some 23) (v := ?_) (a' := ?_) #[true, true, true, true, true, true, true, true, true, true, true, true, true, true, false, true, false, true, false, true, false, false, false, false] rfl rfl (take_ofW HT_.out HW_.out (by kernel_rfl)) (fun _ _ _ h => h) (Or.inl ⟨by rfl, ?_⟩) hHeld ?_ ?_
    rotate_left
    ·rintro w' ⟨s0, s1, s2, s3⟩
     go_simp
     with_reducible rfl
    rotate_left
    ·simp only [Act.put, List.setIfInBounds_toArray, List.set_cons_zero, List.set_cons_succ, i64_w, i32_w]
     rfl
    refine take_ (i := 16) (N := some 26) (v := ?_) (a' := ?_) #[true, true, true, true, true, true, true, true, true, true, true, true, true, true, false, true, true, true, false, true, false, false, false, false] rfl rfl (take_ofW HT_.out HW_.out (by kernel_rfl)) (fun _ _ _ h => h) (Or.inl ⟨by rfl, ?_⟩) hHeld ?_ ?_
    rotate_left
    ·rintro w' ⟨s0, s1, s2, s3⟩
     go_simp
     with_reducible rfl
    rotate_left
    ·simp only [Act.put, List.setIfInBounds_toArray, List.set_cons_zero, List.set_cons_succ, i64_w, i32_w]
     rfl
    refine take_ (i := 18) (N := some 28) (v := ?_) (a' := ?_) #[true, true, true, true, true, true, true, true, true, true, true, true, true, true, false, true, true, true, true, true, false, false, false, false] rfl rfl (take_ofW HT_.out HW_.out (by kernel_rfl)) (fun _ _ _ h => h) (Or.inl ⟨by rfl, ?_⟩) hHeld ?_ ?_
    rotate_left
    ·rintro w' ⟨s0, s1, s2, s3⟩
     go_simp
     with_reducible rfl
    rotate_left
    ·simp only [Act.put, List.setIfInBounds_toArray, List.set_cons_zero, List.set_cons_succ, i64_w, i32_w]
     rfl
    refine take_ (i := 20) (N := some 30) (v := ?_) (a' := ?_) #[true, true, true, true, true, true, true, true, true, true, true, true, true, true, false, true, true, true, true, true, true, false, false, false] rfl rfl (take_ofW HT_.out HW_.out (by kernel_rfl)) (fun _ _ _ h => h) (Or.inl ⟨by rfl, ?_⟩) hHeld ?_ ?_
    rotate_left
    ·rintro w' ⟨s0, s1, s2, s3⟩
     go_simp
     with_reducible rfl
    rotate_left
    ·simp only [Act.put, List.setIfInBounds_toArray, List.set_cons_zero, List.set_cons_succ, i64_w, i32_w]
     rfl
    refine one_ (i := 14) (N := some 24) #[true, true, true, true, true, true, true, true, true, true, true, true, true, true, true, true, true, true, true, true, true, false, false, false] rfl rfl (one_of HT_.out (by kernel_rfl)) (by decide) (fun K hK => ?_)
    refine goes_ Tryd.func17 (by kernel_rfl) rfl #[.int .u64 a0_0, .int .u64 a0_1, .int .i64 a0_3] (by rfl) rfl rfl y4_ ?_
    with_reducible refine (limit_Full.calls a0_0 a0_1 a0_3 t167 t168 t169 t170 _ A10.out).mono ?_
    rintro e w14 ⟨rfl, hb⟩
    refine ⟨_, rfl, ?_⟩
    have n0_ := Aside0.mk (blk_below (g := gb165) (o := .cells #[.int .u64 a0_0, .int .u64 a0_1, .int .u64 a0_2, .int .i64 a0_3] 30 (0, 0)) y7_ hb)
    have n1_ := Aside0.mk (below_step y8_ hb)
    clear BK165
    clear HB
    have BK165 := n0_
    have HB := n1_
    clear n0_ n1_
    (try clear hb)
    (try clear hb2)
    (try clear hk)
    (try clear hi)
    refine hK.out _ _ ⟨(blk_cell BK165.out 0).trans rfl, (blk_cell BK165.out 1).trans rfl, (blk_cell BK165.out 2).trans rfl, (blk_cell BK165.out 3).trans rfl⟩ (fun hHeld => ?_)
    clear hK K
    refine norm_ (a' := ?_) ?_ ?_
    rotate_left
    ·show Act.put _ (some 24) _ = _
     simp only [Act.put, List.setIfInBounds_toArray, List.set_cons_zero, List.set_cons_succ, i64_w, i32_w]
     rfl
    refine one_ (i := 21) (N := some 31) #[true, true, true, true, true, true, true, true, true, true, true, true, true, true, true, true, true, true, true, true, true, true, false, false] rfl rfl (one_of HT_.out (by kernel_rfl)) (by decide) (fun K hK => ?_)
    refine goes_ Tryd.func19 (by kernel_rfl) rfl #[.int .u64 a0_0, .int .u64 a0_1, .int .i64 a0_3] (by rfl) rfl rfl y4_ ?_
    with_reducible refine (manometerref19_Full.calls a0_0 a0_1 a0_3 t171 t172 t173 t174 _ A11.out).mono ?_
    rintro e w15 ⟨rfl, hb⟩
    refine ⟨_, rfl, ?_⟩
    have n0_ := Aside0.mk (blk_below (g := gb165) (o := .cells #[.int .u64 a0_0, .int .u64 a0_1, .int .u64 a0_2, .int .i64 a0_3] 30 (0, 0)) y7_ hb)
    have n1_ := Aside0.mk (below_step y8_ hb)
    clear BK165
    clear HB
    have BK165 := n0_
    have HB := n1_
    clear n0_ n1_
    (try clear hb)
    (try clear hb2)
    (try clear hk)
    (try clear hi)
    refine hK.out _ _ ⟨(blk_cell BK165.out 0).trans rfl, (blk_cell BK165.out 1).trans rfl, (blk_cell BK165.out 2).trans rfl, (blk_cell BK165.out 3).trans rfl⟩ (fun hHeld => ?_)
    clear hK K
    refine norm_ (a' := ?_) ?_ ?_
    rotate_left
    ·show Act.put _ (some 31) _ = _
     simp only [Act.put, List.setIfInBounds_toArray, List.set_cons_zero, List.set_cons_succ, i64_w, i32_w]
     rfl
    refine pure_ (i := 22) (N := some 32) (v := ?_) (a' := ?_) #[true, true, true, true, true, true, true, true, true, true, true, true, true, true, true, true, true, true, true, true, true, true, true, false] rfl rfl (any_of HT_.out (by kernel_rfl)) (fun _ _ _ h => h) (Or.inl ⟨by rfl, ?_⟩) ?_ ?_
    rotate_left
    ·intro w'
     go_simp
     with_reducible rfl
    rotate_left
    ·simp only [Act.put, List.setIfInBounds_toArray, List.set_cons_zero, List.set_cons_succ, i64_w, i32_w]
     rfl
    refine pure_ (i := 23) (N := some 33) (v := ?_) (a' := ?_) #[true, true, true, true, true, true, true, true, true, true, true, true, true, true, true, true, true, true, true, true, true, true, true, true] rfl rfl (any_of HT_.out (by kernel_rfl)) (fun _ _ _ h => h) (Or.inl ⟨by rfl, ?_⟩) ?_ ?_
    rotate_left
    ·intro w'
     go_simp
     with_reducible rfl
    rotate_left
    ·simp only [Act.put, List.setIfInBounds_toArray, List.set_cons_zero, List.set_cons_succ, i64_w, i32_w]
     rfl
    refine done_ (done_of HT_.out (by kernel_rfl)) ?_
    try go_wp2
    go_meet
    case rel => exact ⟨_, ((!(t167 == t171) || (!(t168 == t172) || (!(t169 == t173) || (!(t170 == t174)))))), y15_, H', ⟨by first | omega | exact Nat.le_refl _⟩, ⟨y7_⟩, ⟨y8_⟩⟩
  ·replace c6 := Bool.eq_false_iff.mpr c6
   subst c6
   have H1 : (manometerlaw19_LimitBuckets.j0 k l1 true a0_0 a0_1 a0_2 a0_3) = some r := by rw [if_neg (show ¬ (false = true) by decide)] at H; exact H
   clear H
   have H := H1
   clear H1
   have H' := Aside0.mk H
   clear H
   try go_wp2
   have n0_ := Aside0.mk (blk_drew BK165.out)
   have n1_ := Aside0.mk (below_drew1 HB.out)
   clear BK165
   clear HB
   have BK165 := n0_
   have HB := n1_
   clear n0_ n1_
   refine start_ (n := 24) (S := fun w' => True) (ds := []) #[false, false, false, false, false, false, false, false, false, false, false, false, false, false, false, false, false, false, false, false, false, false, false, false] (by kernel_rfl) rfl rfl trivial (fun hHeld => ?_); refine with_tabW manometerlaw19_LimitBuckets.tab1 manometerlaw19_LimitBuckets.bits1 (fun HT_ HW_ => ?_)
   generalize w4.drew = w16 at BK165 HB hHeld ⊢
   refine one_ (i := 0) (N := some 10) #[true, false, false, false, false, false, false, false, false, false, false, false, false, false, false, false, false, false, false, false, false, false, false, false] rfl rfl (one_of HT_.out (by kernel_rfl)) (by decide) (fun K hK => ?_)
   refine goes_ Tryd.func11 (by kernel_rfl) rfl #[] (by rfl) rfl rfl y4_ ?_
   with_reducible refine (manometerlaw19_live.calls  false _ ?side1 A5.out).mono ?_
   (case side1 => exact ⟨Tab_below hT.out y8_⟩)
   rintro e w17 ⟨rfl, hb⟩
   refine ⟨_, rfl, ?_⟩
   have n0_ := Aside0.mk (blk_below (g := gb165) (o := .cells #[.int .u64 a0_0, .int .u64 a0_1, .int .u64 a0_2, .int .i64 a0_3] 30 (0, 0)) y7_ hb)
   have n1_ := Aside0.mk (below_step y8_ hb)
   clear BK165
   clear HB
   have BK165 := n0_
   have HB := n1_
   clear n0_ n1_
   (try clear hb)
   (try clear hb2)
   (try clear hk)
   (try clear hi)
   refine hK.out _ _ trivial (fun hHeld => ?_)
   clear hK K
   refine norm_ (a' := ?_) ?_ ?_
   rotate_left
   ·show Act.put _ (some 10) _ = _
    simp only [Act.put, List.setIfInBounds_toArray, List.set_cons_zero, List.set_cons_succ, i64_w, i32_w]
    rfl
   refine pure_ (i := 1) (N := some 11) (v := ?_) (a' := ?_) #[true, true, false, false, false, false, false, false, false, false, false, false, false, false, false, false, false, false, false, false, false, false, false, false] rfl rfl (any_of HT_.out (by kernel_rfl)) (fun _ _ _ h => h) (Or.inl ⟨by rfl, ?_⟩) ?_ ?_
   rotate_left
   ·intro w'
    go_simp
    with_reducible rfl
   rotate_left
   ·simp only [Act.put, List.setIfInBounds_toArray, List.set_cons_zero, List.set_cons_succ, i64_w, i32_w]
    rfl
   refine pure_ (i := 2) (N := some 12) (v := ?_) (a' := ?_) #[true, true, true, false, false, false, false, false, false, false, false, false, false, false, false, false, false, false, false, false, false, false, false, false] rfl rfl (any_of HT_.out (by kernel_rfl)) (fun _ _ _ h => h) (Or.inl ⟨by rfl, ?_⟩) ?_ ?_
   rotate_left
   ·intro w'
    go_simp
    with_reducible rfl
   rotate_left
   ·simp only [Act.put, List.setIfInBounds_toArray, List.set_cons_zero, List.set_cons_succ, i64_w, i32_w]
    rfl
   refine pure_ (i := 3) (N := some 13) (v := undef) (a' := ?_) #[true, true, true, true, false, false, false, false, false, false, false, false, false, false, false, false, false, false, false, false, false, false, false, false] rfl rfl (any_of HT_.out (by kernel_rfl)) (fun _ _ _ h => h) (Or.inr ⟨by rfl, rfl⟩) ?_ ?_
   rotate_left
   ·simp only [Act.put, List.setIfInBounds_toArray, List.set_cons_zero, List.set_cons_succ, i64_w, i32_w]
    rfl
   refine pure_ (i := 4) (N := some 14) (v := undef) (a' := ?_) #[true, true, true, true, true, false, false, false, false, false, false, false, false, false, false, false, false, false, false, false, false, false, false, false] rfl rfl (any_of HT_.out (by kernel_rfl)) (fun _ _ _ h => h) (Or.inr ⟨by rfl, rfl⟩) ?_ ?_
   rotate_left
   ·simp only [Act.put, List.setIfInBounds_toArray, List.set_cons_zero, List.set_cons_succ, i64_w, i32_w]
    rfl
   refine pure_ (i := 5) (N := some 15) (v := undef) (a' := ?_) #[true, true, true, true, true, true, false, false, false, false, false, false, false, false, false, false, false, false, false, false, false, false, false, false] rfl rfl (any_of HT_.out (by kernel_rfl)) (fun _ _ _ h => h) (Or.inr ⟨by rfl, rfl⟩) ?_ ?_
   rotate_left
   ·simp only [Act.put, List.setIfInBounds_toArray, List.set_cons_zero, List.set_cons_succ, i64_w, i32_w]
    rfl
   refine pure_ (i := 6) (N := some 16) (v := ?_) (a' := ?_) #[true, true, true, true, true, true, true, false, false, false, false, false, false, false, false, false, false, false, false, false, false, false, false, false] rfl rfl (any_of HT_.out (by kernel_rfl)) (fun _ _ _ h => h) (Or.inl ⟨by rfl, ?_⟩) ?_ ?_
   rotate_left
   ·intro w'
    go_simp
    with_reducible rfl
   rotate_left
   ·simp only [Act.put, List.setIfInBounds_toArray, List.set_cons_zero, List.set_cons_succ, i64_w, i32_w]
    rfl
   refine pure_ (i := 7) (N := some 17) (v := ?_) (a' := ?_) #[true, true, true, true, true, true, true, true, false, false, false, false, false, false, false, false, false, false, false, false, false, false, false, false] rfl rfl (any_of HT_.out (by kernel_rfl)) (fun _ _ _ h => h) (Or.inl ⟨by rfl, ?_⟩) ?_ ?_
   rotate_left
   ·intro w'
    go_simp
    with_reducible rfl
   rotate_left
   ·simp only [Act.put, List.setIfInBounds_toArray, List.set_cons_zero, List.set_cons_succ, i64_w, i32_w]
    rfl
   refine pure_ (i := 8) (N := some 18) (v := undef) (a' := ?_) #[true, true, true, true, true, true, true, true, true, false, false, false, false, false, false, false, false, false, false, false, false, false, false, false] rfl rfl (any_of HT_.out (by kernel_rfl)) (fun _ _ _ h => h) (Or.inr ⟨by rfl, rfl⟩) ?_ ?_
   rotate_left
   ·simp only [Act.put, List.setIfInBounds_toArray, List.set_cons_zero, List.set_cons_succ, i64_w, i32_w]
    rfl
   refine pure_ (i := 9) (N := some 19) (v := undef) (a' := ?_) #[true, true, true, true, true, true, true, true, true, true, false, false, false, false, false, false, false, false, false, false, false, false, false, false] rfl rfl (any_of HT_.out (by kernel_rfl)) (fun _ _ _ h => h) (Or.inr ⟨by rfl, rfl⟩) ?_ ?_
   rotate_left
   ·simp only [Act.put, List.setIfInBounds_toArray, List.set_cons_zero, List.set_cons_succ, i64_w, i32_w]
    rfl
   refine pure_ (i := 10) (N := some 20) (v := undef) (a' := ?_) #[true, true, true, true, true, true, true, true, true, true, true, false, false, false, false, false, false, false, false, false, false, false, false, false] rfl rfl (any_of HT_.out (by kernel_rfl)) (fun _ _ _ h => h) (Or.inr ⟨by rfl, rfl⟩) ?_ ?_
   rotate_left
   ·simp only [Act.put, List.setIfInBounds_toArray, List.set_cons_zero, List.set_cons_succ, i64_w, i32_w]
    rfl
   refine pure_ (i := 11) (N := some 21) (v := undef) (a' := ?_) #[true, true, true, true, true, true, true, true, true, true, true, true, false, false, false, false, false, false, false, false, false, false, false, false] rfl rfl (any_of HT_.out (by kernel_rfl)) (fun _ _ _ h => h) (Or.inr ⟨by rfl, rfl⟩) ?_ ?_
   rotate_left
   ·simp only [Act.put, List.setIfInBounds_toArray, List.set_cons_zero, List.set_cons_succ, i64_w, i32_w]
    rfl
   refine pure_ (i := 12) (N := some 22) (v := undef) (a' := ?_) #[true, true, true, true, true, true, true, true, true, true, true, true, true, false, false, false, false, false, false, false, false, false, false, false] rfl rfl (any_of HT_.out (by kernel_rfl)) (fun _ _ _ h => h) (Or.inr ⟨by rfl, rfl⟩) ?_ ?_
   rotate_left
   ·simp only [Act.put, List.setIfInBounds_toArray, List.set_cons_zero, List.set_cons_succ, i64_w, i32_w]
    rfl
   refine pure_ (i := 13) (N := some 23) (v := undef) (a' := ?_) #[true, true, true, true, true, true, true, true, true, true, true, true, true, true, false, false, false, false, false, false, false, false, false, false] rfl rfl (any_of HT_.out (by kernel_rfl)) (fun _ _ _ h => h) (Or.inr ⟨by rfl, rfl⟩) ?_ ?_
   rotate_left
   ·simp only [Act.put, List.setIfInBounds_toArray, List.set_cons_zero, List.set_cons_succ, i64_w, i32_w]
    rfl
   refine pure_ (i := 14) (N := some 24) (v := undef) (a' := ?_) #[true, true, true, true, true, true, true, true, true, true, true, true, true, true, true, false, false, false, false, false, false, false, false, false] rfl rfl (any_of HT_.out (by kernel_rfl)) (fun _ _ _ h => h) (Or.inr ⟨by rfl, rfl⟩) ?_ ?_
   rotate_left
   ·simp only [Act.put, List.setIfInBounds_toArray, List.set_cons_zero, List.set_cons_succ, i64_w, i32_w]
    rfl
   refine pure_ (i := 15) (N := some 25) (v := undef) (a' := ?_) #[true, true, true, true, true, true, true, true, true, true, true, true, true, true, true, true, false, false, false, false, false, false, false, false] rfl rfl (any_of HT_.out (by kernel_rfl)) (fun _ _ _ h => h) (Or.inr ⟨by rfl, rfl⟩) ?_ ?_
   rotate_left
   ·simp only [Act.put, List.setIfInBounds_toArray, List.set_cons_zero, List.set_cons_succ, i64_w, i32_w]
    rfl
   refine pure_ (i := 16) (N := some 26) (v := undef) (a' := ?_) #[true, true, true, true, true, true, true, true, true, true, true, true, true, true, true, true, true, false, false, false, false, false, false, false] rfl rfl (any_of HT_.out (by kernel_rfl)) (fun _ _ _ h => h) (Or.inr ⟨by rfl, rfl⟩) ?_ ?_
   rotate_left
   ·simp only [Act.put, List.setIfInBounds_toArray, List.set_cons_zero, List.set_cons_succ, i64_w, i32_w]
    rfl
   refine pure_ (i := 17) (N := some 27) (v := undef) (a' := ?_) #[true, true, true, true, true, true, true, true, true, true, true, true, true, true, true, true, true, true, false, false, false, false, false, false] rfl rfl (any_of HT_.out (by kernel_rfl)) (fun _ _ _ h => h) (Or.inr ⟨by rfl, rfl⟩) ?_ ?_
   rotate_left
   ·simp only [Act.put, List.setIfInBounds_toArray, List.set_cons_zero, List.set_cons_succ, i64_w, i32_w]
    rfl
   refine pure_ (i := 18) (N := some 28) (v := undef) (a' := ?_) #[true, true, true, true, true, true, true, true, true, true, true, true, true, true, true, true, true, true, true, false, false, false, false, false] rfl rfl (any_of HT_.out (by kernel_rfl)) (fun _ _ _ h => h) (Or.inr ⟨by rfl, rfl⟩) ?_ ?_
   rotate_left
   ·simp only [Act.put, List.setIfInBounds_toArray, List.set_cons_zero, List.set_cons_succ, i64_w, i32_w]
    rfl
   refine pure_ (i := 19) (N := some 29) (v := undef) (a' := ?_) #[true, true, true, true, true, true, true, true, true, true, true, true, true, true, true, true, true, true, true, true, false, false, false, false] rfl rfl (any_of HT_.out (by kernel_rfl)) (fun _ _ _ h => h) (Or.inr ⟨by rfl, rfl⟩) ?_ ?_
   rotate_left
   ·simp only [Act.put, List.setIfInBounds_toArray, List.set_cons_zero, List.set_cons_succ, i64_w, i32_w]
    rfl
   refine pure_ (i := 20) (N := some 30) (v := undef) (a' := ?_) #[true, true, true, true, true, true, true, true, true, true, true, true, true, true, true, true, true, true, true, true, true, false, false, false] rfl rfl (any_of HT_.out (by kernel_rfl)) (fun _ _ _ h => h) (Or.inr ⟨by rfl, rfl⟩) ?_ ?_
   rotate_left
   ·simp only [Act.put, List.setIfInBounds_toArray, List.set_cons_zero, List.set_cons_succ, i64_w, i32_w]
    rfl
   refine pure_ (i := 21) (N := some 31) (v := undef) (a' := ?_) #[true, true, true, true, true, true, true, true, true, true, true, true, true, true, true, true, true, true, true, true, true, true, false, false] rfl rfl (any_of HT_.out (by kernel_rfl)) (fun _ _ _ h => h) (Or.inr ⟨by rfl, rfl⟩) ?_ ?_
   rotate_left
   ·simp only [Act.put, List.setIfInBounds_toArray, List.set_cons_zero, List.set_cons_succ, i64_w, i32_w]
    rfl
   refine pure_ (i := 22) (N := some 32) (v := undef) (a' := ?_) #[true, true, true, true, true, true, true, true, true, true, true, true, true, true, true, true, true, true, true, true, true, true, true, false] rfl rfl (any_of HT_.out (by kernel_rfl)) (fun _ _ _ h => h) (Or.inr ⟨by rfl, rfl⟩) ?_ ?_
   rotate_left
   ·simp only [Act.put, List.setIfInBounds_toArray, List.set_cons_zero, List.set_cons_succ, i64_w, i32_w]
    rfl
   refine pure_ (i := 23) (N := some 33) (v := ?_) (a' := ?_) #[true, true, true, true, true, true, true, true, true, true, true, true, true, true, true, true, true, true, true, true, true, true, true, true] rfl rfl (any_of HT_.out (by kernel_rfl)) (fun _ _ _ h => h) (Or.inl ⟨by rfl, ?_⟩) ?_ ?_
   rotate_left
   ·intro w'
    go_simp
    with_reducible rfl
   rotate_left
   ·simp only [Act.put, List.setIfInBounds_toArray, List.set_cons_zero, List.set_cons_succ, i64_w, i32_w]
    rfl
   refine done_ (done_of HT_.out (by kernel_rfl)) ?_
   try go_wp2
   go_meet
   case rel => exact ⟨_, (true), y15_, H', ⟨by first | omega | exact Nat.le_refl _⟩, ⟨y7_⟩, ⟨y8_⟩⟩
 case rest =>
  clear HC3
  try clear c1
  try clear p2
  try clear c6
  try clear c7
  try clear c7b0
  try clear c7b1
  try clear c11
  try clear c17
  obtain ⟨kq, x33_2, rfl, HA, HJ2, BK165, HB⟩ := hcut
  cases kq with
  | zero => exact absurd HA.out (by simp [manometerlaw19_LimitBuckets.j0])
  | succ kj2 =>
   have H := HA.out
   clear HA
   simp only [manometerlaw19_LimitBuckets.j0] at H
   by_cases c18 : x33_2 = true
   ·subst c18
    have H1 : ((manometerlaw19_live.f).bind fun t175 => (if t175 = true then (some (decide ((l1.length : Int) > 300))) else (some false))) = some r := by rw [if_pos rfl] at H; exact H
    clear H
    have H := H1
    clear H1
    replace H := Option.bind_eq_some_iff.mp H
    obtain ⟨t175, A190, H⟩ := H
    replace H : (if t175 = true then (some (decide ((l1.length : Int) > 300))) else (some false)) = some r := H
    have A19 := Aside0.mk A190
    clear A190
    by_cases c20 : t175 = true
    ·subst c20
     have H1 : (some (decide ((l1.length : Int) > 300))) = some r := by rw [if_pos rfl] at H; exact H
     clear H
     have H := H1
     clear H1
     obtain rfl := Option.some.inj H
     go_wp2_with (first | ((with_reducible refine gate_callee (f := 11) rfl ?_); refine goesL_ (some 34) rfl rfl Tryd.func11 (by kernel_rfl) rfl #[] rfl y4_ ?_; (with_reducible refine (manometerlaw19_live.calls  true _ ?side1 A19.out).mono ?_); (case side1 => exact ⟨Tab_below hT.out y8_⟩); rintro e w21 ⟨rfl, hb⟩; refine ⟨_, rfl, ?_⟩; have n0_ := Aside0.mk (blk_below (g := gb165) (o := .cells #[.int .u64 a0_0, .int .u64 a0_1, .int .u64 a0_2, .int .i64 a0_3] 30 (0, 0)) y7_ hb); have n1_ := Aside0.mk (below_step y8_ hb); clear BK165; clear HB; have BK165 := n0_; have HB := n1_; clear n0_ n1_; (try clear hb); (try clear hb2); (try clear hk); (try clear hi)))
     go_ret
     exact ⟨y10_, y8_⟩
    ·replace c20 := Bool.eq_false_iff.mpr c20
     subst c20
     have H1 : (some false) = some r := by rw [if_neg (show ¬ (false = true) by decide)] at H; exact H
     clear H
     have H := H1
     clear H1
     obtain rfl := Option.some.inj H
     go_wp2_with (first | ((with_reducible refine gate_callee (f := 11) rfl ?_); refine goesL_ (some 34) rfl rfl Tryd.func11 (by kernel_rfl) rfl #[] rfl y4_ ?_; (with_reducible refine (manometerlaw19_live.calls  false _ ?side1 A19.out).mono ?_); (case side1 => exact ⟨Tab_below hT.out y8_⟩); rintro e w22 ⟨rfl, hb⟩; refine ⟨_, rfl, ?_⟩; have n0_ := Aside0.mk (blk_below (g := gb165) (o := .cells #[.int .u64 a0_0, .int .u64 a0_1, .int .u64 a0_2, .int .i64 a0_3] 30 (0, 0)) y7_ hb); have n1_ := Aside0.mk (below_step y8_ hb); clear BK165; clear HB; have BK165 := n0_; have HB := n1_; clear n0_ n1_; (try clear hb); (try clear hb2); (try clear hk); (try clear hi)))
     go_ret
     exact ⟨y10_, y8_⟩
   ·replace c18 := Bool.eq_false_iff.mpr c18
    subst c18
    have H1 : (manometerlaw19_LimitBuckets.l0 kj2 l1 (l1.length : Int) 0 a0_0 a0_1 a0_2 a0_3 a0_0 a0_1 a0_2 a0_3) = some r := by rw [if_neg (show ¬ (false = true) by decide)] at H; exact H
    clear H
    have H := H1
    clear H1
    have H' := Aside0.mk H
    clear H
    have hcz23_0 : wc.cell? ⟨gb165, 0, none⟩ = some (.int .u64 a0_0) := (blk_cell BK165.out 0).trans rfl
    have hcz23_1 : wc.cell? ⟨gb165, 1, none⟩ = some (.int .u64 a0_1) := (blk_cell BK165.out 1).trans rfl
    have hcz23_2 : wc.cell? ⟨gb165, 2, none⟩ = some (.int .u64 a0_2) := (blk_cell BK165.out 2).trans rfl
    have hcz23_3 : wc.cell? ⟨gb165, 3, none⟩ = some (.int .i64 a0_3) := (blk_cell BK165.out 3).trans rfl
    have hfz23_0 := blk_frozen BK165.out 0
    have hfz23_1 := blk_frozen BK165.out 1
    have hfz23_2 := blk_frozen BK165.out 2
    have hfz23_3 := blk_frozen BK165.out 3
    go_wp2_with (first | ((with_reducible refine gate_dst (N := 5) rfl ?_); (try (refine gate_guard (by rfl) ?_; dsimp only)); refine box_event ?hg (N := 5) ?hd (cs := #[.int .u64 0, .int .u64 0, .int .u64 0, .int .i64 0]) (t := 30) ?hr ?_; (case hd => rfl); (case hg => rfl); (case hr => first | (go_simp; done) | (go_simp; rfl)); intro gb176 hg w24 hbox hb; have n0_ := Aside0.mk (blk_below (g := gb165) (o := .cells #[.int .u64 a0_0, .int .u64 a0_1, .int .u64 a0_2, .int .i64 a0_3] 30 (0, 0)) y7_ hb); have n1_ := Aside0.mk (below_step y8_ hb); have n2_ := Aside0.mk (hbox); have n3_ := Aside0.mk ((by rw [hg]; exact (below_size y8_) : w.heap.size ≤ gb176)); have n4_ := Aside0.mk ((by rw [hg]; exact (below_size y8_) : w.heap.size ≤ gb176)); have n5_ := Aside0.mk ((by rw [hg]; exact Nat.ne_of_lt (blk_lt (g := gb165) (o := .cells #[.int .u64 a0_0, .int .u64 a0_1, .int .u64 a0_2, .int .i64 a0_3] 30 (0, 0)) y7_) : gb165 ≠ gb176)); have n6_ := Aside0.mk ((by rw [hg]; exact Nat.ne_of_gt (blk_lt (g := gb165) (o := .cells #[.int .u64 a0_0, .int .u64 a0_1, .int .u64 a0_2, .int .i64 a0_3] 30 (0, 0)) y7_) : gb176 ≠ gb165)); clear BK165; clear HB; have BK165 := n0_; have HB := n1_; have BK176 := n2_; have GW176 := n3_; have GE176 := n4_; have NB165_176 := n5_; have NB176_165 := n6_; clear n0_ n1_ n2_ n3_ n4_ n5_ n6_; clear hb hbox hg; have hnb25 := NB176_165.out; have hnc25 := NB165_176.out; have hcz26_0 : w24.cell? ⟨gb176, 0, none⟩ = some (.int .u64 0) := (blk_cell BK176.out 0).trans rfl; have hcz26_1 : w24.cell? ⟨gb176, 1, none⟩ = some (.int .u64 0) := (blk_cell BK176.out 1).trans rfl; have hcz26_2 : w24.cell? ⟨gb176, 2, none⟩ = some (.int .u64 0) := (blk_cell BK176.out 2).trans rfl; have hcz26_3 : w24.cell? ⟨gb176, 3, none⟩ = some (.int .i64 0) := (blk_cell BK176.out 3).trans rfl; have hfz26_0 := blk_frozen BK176.out 0; have hfz26_1 := blk_frozen BK176.out 1; have hfz26_2 := blk_frozen BK176.out 2; have hfz26_3 := blk_frozen BK176.out 3))
    go_loopg [43] kj2 (fun kq v43 w' => ∃ (x43_2 : Int) (x166000_2 : Int) (x166001_2 : Int) (x166002_2 : Int) (x166003_2 : Int) (x177000_2 : Int) (x177001_2 : Int) (x177002_2 : Int) (x177003_2 : Int), v43 = .int .i64 x43_2 ∧ Aside0 (manometerlaw19_LimitBuckets.l0 kq l1 (l1.length : Int) x43_2 x166000_2 x166001_2 x166002_2 x166003_2 x177000_2 x177001_2 x177002_2 x177003_2 = some r) ∧ Aside0 (kq ≤ kj2) ∧ Aside0 (w'.heap[gb165]? = some (.cells #[.int .u64 x166000_2, .int .u64 x166001_2, .int .u64 x166002_2, .int .i64 x166003_2] 30 (0, 0))) ∧ Aside0 (w'.heap[gb176]? = some (.cells #[.int .u64 x177000_2, .int .u64 x177001_2, .int .u64 x177002_2, .int .i64 x177003_2] 30 (0, 0))) ∧ Aside0 (Below w.heap.size w w'))
    case atStart => exact ⟨(0), (a0_0), (a0_1), (a0_2), (a0_3), (a0_0), (a0_1), (a0_2), (a0_3), y15_, H', ⟨Nat.le_refl _⟩, ⟨y30_⟩, ⟨by (with_reducible repeat (first | refine blk_drewN ?_ _ | refine blk_drew ?_ | refine blk_alloc ?_ _)); refine blk_put (cs := #[.int .u64 a0_0, .int .u64 a0_1, .int .u64 a0_2, .int .i64 0]) ?_ 3 _ rfl; (with_reducible repeat (first | refine blk_drewN ?_ _ | refine blk_drew ?_ | refine blk_alloc ?_ _)); refine blk_put (cs := #[.int .u64 a0_0, .int .u64 a0_1, .int .u64 0, .int .i64 0]) ?_ 2 _ rfl; (with_reducible repeat (first | refine blk_drewN ?_ _ | refine blk_drew ?_ | refine blk_alloc ?_ _)); refine blk_put (cs := #[.int .u64 a0_0, .int .u64 0, .int .u64 0, .int .i64 0]) ?_ 1 _ rfl; (with_reducible repeat (first | refine blk_drewN ?_ _ | refine blk_drew ?_ | refine blk_alloc ?_ _)); refine blk_put (cs := #[.int .u64 0, .int .u64 0, .int .u64 0, .int .i64 0]) ?_ 0 _ rfl; (with_reducible repeat (first | refine blk_drewN ?_ _ | refine blk_drew ?_ | refine blk_alloc ?_ _)); exact BK176.out⟩, ⟨y16_⟩⟩
    case round =>
     clear H'
     try clear c1
     try clear c2
     try clear p2
     try clear c6
     try clear c7
     try clear c7b0
     try clear c7b1
     try clear c11
     try clear c17
     try clear c18
     try clear c19
     try clear c20
     try clear c25
     try clear hcz23_0
     try clear hcz23_1
     try clear hcz23_2
     try clear hcz23_3
     try clear hcz26_0
     try clear hcz26_1
     try clear hcz26_2
     try clear hcz26_3
     try clear hfz23_0
     try clear hfz23_1
     try clear hfz23_2
     try clear hfz23_3
     try clear hfz26_0
     try clear hfz26_1
     try clear hfz26_2
     try clear hfz26_3
     try clear p2
     obtain ⟨x43_2, x166000_2, x166001_2, x166002_2, x166003_2, x177000_2, x177001_2, x177002_2, x177003_2, rfl, HA, HK2, BK165, BK176, HB⟩ := hrel
     cases gk with
     | zero => exact absurd HA.out (by simp [manometerlaw19_LimitBuckets.l0])
     | succ k2 =>
      have H := HA.out
      clear HA
      simp only [manometerlaw19_LimitBuckets.l0] at H
      by_cases c27 : x43_2 < (l1.length : Int)
      ·rw [if_pos c27] at H
       have c27b0 : decide (x43_2 < (l1.length : Int)) = true := decide_eq_true c27
       clear c27
       by_cases c28 : 0 ≤ x43_2
       ·rw [if_pos c28] at H
        have c28b0 : decide (0 ≤ x43_2) = true := decide_eq_true c28
        clear c28
        by_cases c29 : x43_2 < (l1.length : Int)
        ·rw [if_pos c29] at H
         have c29b0 : decide (x43_2 < (l1.length : Int)) = true := decide_eq_true c29
         clear c29
         replace H := Option.bind_eq_some_iff.mp H
         obtain ⟨⟨t179, t180, t181, t182⟩, A300, H⟩ := H
         replace H : ((manometerref19_Fill.f x177000_2 x177001_2 x177002_2 x177003_2 ((rd_T33 l1 x43_2).f0)).bind fun bt183 => (if (!(t179 == bt183.1) || (!(t180 == bt183.2.1) || (!(t181 == bt183.2.2.1) || (!(t182 == bt183.2.2.2))))) = true then (some false) else (if (rd_T33 l1 x43_2).f2 = true then ((limit_Turn.f x166000_2 x166001_2 x166002_2 x166003_2 ((rd_T33 l1 x43_2).f3) ((rd_T33 l1 x43_2).f4) ((rd_T33 l1 x43_2).f0)).bind fun bt187 => ((manometerref19_Turn.f x177000_2 x177001_2 x177002_2 x177003_2 ((rd_T33 l1 x43_2).f3) ((rd_T33 l1 x43_2).f4) ((rd_T33 l1 x43_2).f0)).bind fun bt191 => (manometerlaw19_LimitBuckets.j2 k2 l1 (l1.length : Int) x43_2 bt187.1 bt187.2.1 bt187.2.2.1 bt187.2.2.2 bt191.1 bt191.2.1 bt191.2.2.1 bt191.2.2.2))) else ((limit_Take.f x166000_2 x166001_2 x166002_2 x166003_2 ((rd_T33 l1 x43_2).f0) ((rd_T33 l1 x43_2).f1)).bind fun bt195 => ((manometerref19_Take.f x177000_2 x177001_2 x177002_2 x177003_2 ((rd_T33 l1 x43_2).f0) ((rd_T33 l1 x43_2).f1)).bind fun bt200 => (if (bt195.2.2.2.2 != bt200.2.2.2.2) = true then (some false) else (manometerlaw19_LimitBuckets.j2 k2 l1 (l1.length : Int) x43_2 bt195.1 bt195.2.1 bt195.2.2.1 bt195.2.2.2.1 bt200.1 bt200.2.1 bt200.2.2.1 bt200.2.2.2.1))))))) = some r := H
         have A30 := Aside0.mk A300
         clear A300
         replace H := Option.bind_eq_some_iff.mp H
         obtain ⟨⟨t183, t184, t185, t186⟩, A310, H⟩ := H
         replace H : (if (!(t179 == t183) || (!(t180 == t184) || (!(t181 == t185) || (!(t182 == t186))))) = true then (some false) else (if (rd_T33 l1 x43_2).f2 = true then ((limit_Turn.f x166000_2 x166001_2 x166002_2 x166003_2 ((rd_T33 l1 x43_2).f3) ((rd_T33 l1 x43_2).f4) ((rd_T33 l1 x43_2).f0)).bind fun bt187 => ((manometerref19_Turn.f x177000_2 x177001_2 x177002_2 x177003_2 ((rd_T33 l1 x43_2).f3) ((rd_T33 l1 x43_2).f4) ((rd_T33 l1 x43_2).f0)).bind fun bt191 => (manometerlaw19_LimitBuckets.j2 k2 l1 (l1.length : Int) x43_2 bt187.1 bt187.2.1 bt187.2.2.1 bt187.2.2.2 bt191.1 bt191.2.1 bt191.2.2.1 bt191.2.2.2))) else ((limit_Take.f x166000_2 x166001_2 x166002_2 x166003_2 ((rd_T33 l1 x43_2).f0) ((rd_T33 l1 x43_2).f1)).bind fun bt195 => ((manometerref19_Take.f x177000_2 x177001_2 x177002_2 x177003_2 ((rd_T33 l1 x43_2).f0) ((rd_T33 l1 x43_2).f1)).bind fun bt200 => (if (bt195.2.2.2.2 != bt200.2.2.2.2) = true then (some false) else (manometerlaw19_LimitBuckets.j2 k2 l1 (l1.length : Int) x43_2 bt195.1 bt195.2.1 bt195.2.2.1 bt195.2.2.2.1 bt200.1 bt200.2.1 bt200.2.2.1 bt200.2.2.2.1)))))) = some r := H
         have A31 := Aside0.mk A310
         clear A310
         by_cases c32 : (!(t179 == t183) || (!(t180 == t184) || (!(t181 == t185) || (!(t182 == t186))))) = true
         ·rw [if_pos c32] at H
          have c32b0 : (!(t179 == t183) || (!(t180 == t184) || (!(t181 == t185) || (!(t182 == t186))))) = true := c32
          clear c32
          obtain rfl := Option.some.inj H
          have p177 : 0 ≤ (x43_2 : Int) := of_decide_eq_true y11_
          have q177 : x43_2 < (l1.length : Int) := of_decide_eq_true y11_
          obtain ⟨ad177, e177, hx177_0, hx177_1, hx177_2, hx177_3, hx177_4⟩ := at_T33 HR1.out x43_2 p177 q177
          cases e177
          replace hx177_0 := (HB.out.cell (World.block_lt_of_cell? w _ hx177_0)).trans hx177_0
          replace hx177_1 := (HB.out.cell (World.block_lt_of_cell? w _ hx177_1)).trans hx177_1
          replace hx177_2 := (HB.out.cell (World.block_lt_of_cell? w _ hx177_2)).trans hx177_2
          replace hx177_3 := (HB.out.cell (World.block_lt_of_cell? w _ hx177_3)).trans hx177_3
          replace hx177_4 := (HB.out.cell (World.block_lt_of_cell? w _ hx177_4)).trans hx177_4
          replace p177 := eq_true p177
          replace q177 := eq_true q177
          try go_wp2_with (first | ((with_reducible refine gate_dst (N := 7) rfl ?_); (try (refine gate_guard (by rfl) ?_; dsimp only)); refine box_event ?hg (N := 7) ?hd (cs := #[.int .i64 0, .int .u64 0, .bool false, .int .u64 0, .int .u64 0]) (t := 33) ?hr ?_; (case hd => rfl); (case hg => rfl); (case hr => first | (go_simp; done) | (go_simp; rfl)); intro gb178 hg w33 hbox hb; have n0_ := Aside0.mk (blk_below (g := gb165) (o := .cells #[.int .u64 x166000_2, .int .u64 x166001_2, .int .u64 x166002_2, .int .i64 x166003_2] 30 (0, 0)) y7_ hb); have n1_ := Aside0.mk (blk_below (g := gb176) (o := .cells #[.int .u64 x177000_2, .int .u64 x177001_2, .int .u64 x177002_2, .int .i64 x177003_2] 30 (0, 0)) y13_ hb); have n2_ := Aside0.mk (below_step y16_ hb); have n3_ := Aside0.mk (hbox); have n4_ := Aside0.mk ((by rw [hg]; exact (below_size y16_) : w.heap.size ≤ gb178)); have n5_ := Aside0.mk ((by rw [hg]; exact (below_size y16_) : w.heap.size ≤ gb178)); have n6_ := Aside0.mk ((by rw [hg]; exact Nat.ne_of_lt (blk_lt (g := gb165) (o := .cells #[.int .u64 x166000_2, .int .u64 x166001_2, .int .u64 x166002_2, .int .i64 x166003_2] 30 (0, 0)) y7_) : gb165 ≠ gb178)); have n7_ := Aside0.mk ((by rw [hg]; exact Nat.ne_of_gt (blk_lt (g := gb165) (o := .cells #[.int .u64 x166000_2, .int .u64 x166001_2, .int .u64 x166002_2, .int .i64 x166003_2] 30 (0, 0)) y7_) : gb178 ≠ gb165)); have n8_ := Aside0.mk ((by rw [hg]; exact Nat.ne_of_lt (blk_lt (g := gb176) (o := .cells #[.int .u64 x177000_2, .int .u64 x177001_2, .int .u64 x177002_2, .int .i64 x177003_2] 30 (0, 0)) y13_) : gb176 ≠ gb178)); have n9_ := Aside0.mk ((by rw [hg]; exact Nat.ne_of_gt (blk_lt (g := gb176) (o := .cells #[.int .u64 x177000_2, .int .u64 x177001_2, .int .u64 x177002_2, .int .i64 x177003_2] 30 (0, 0)) y13_) : gb178 ≠ gb176)); clear BK165; clear BK176; clear HB; have BK165 := n0_; have BK176 := n1_; have HB := n2_; have BK178 := n3_; have GW178 := n4_; have GE178 := n5_; have NB165_178 := n6_; have NB178_165 := n7_; have NB176_178 := n8_; have NB178_176 := n9_; clear n0_ n1_ n2_ n3_ n4_ n5_ n6_ n7_ n8_ n9_; clear hb hbox hg; have hnb34 := NB178_165.out; have hnc34 := NB165_178.out; have hnb35 := NB178_176.out; have hnc35 := NB176_178.out; have hcz36_0 : w33.cell? ⟨gb178, 0, none⟩ = some (.int .i64 0) := (blk_cell BK178.out 0).trans rfl; have hcz36_1 : w33.cell? ⟨gb178, 1, none⟩ = some (.int .u64 0) := (blk_cell BK178.out 1).trans rfl; have hcz36_2 : w33.cell? ⟨gb178, 2, none⟩ = some (.bool false) := (blk_cell BK178.out 2).trans rfl; have hcz36_3 : w33.cell? ⟨gb178, 3, none⟩ = some (.int .u64 0) := (blk_cell BK178.out 3).trans rfl; have hcz36_4 : w33.cell? ⟨gb178, 4, none⟩ = some (.int .u64 0) := (blk_cell BK178.out 4).trans rfl; have hfz36_0 := blk_frozen BK178.out 0; have hfz36_1 := blk_frozen BK178.out 1; have hfz36_2 := blk_frozen BK178.out 2; have hfz36_3 := blk_frozen BK178.out 3; have hfz36_4 := blk_frozen BK178.out 4))
          have n0_ : Aside0 ((((((w33.setCell ⟨gb178, 0, none⟩ (.int .i64 ((rd_T33 l1 x43_2).f0))).setCell ⟨gb178, 1, none⟩ (.int .u64 ((rd_T33 l1 x43_2).f1))).setCell ⟨gb178, 2, none⟩ (.bool ((rd_T33 l1 x43_2).f2))).setCell ⟨gb178, 3, none⟩ (.int .u64 ((rd_T33 l1 x43_2).f3))).setCell ⟨gb178, 4, none⟩ (.int .u64 ((rd_T33 l1 x43_2).f4))).heap[gb165]? = some (.cells #[.int .u64 x166000_2, .int .u64 x166001_2, .int .u64 x166002_2, .int .i64 x166003_2] 30 (0, 0))) := ⟨y26_⟩
          have n1_ : Aside0 ((((((w33.setCell ⟨gb178, 0, none⟩ (.int .i64 ((rd_T33 l1 x43_2).f0))).setCell ⟨gb178, 1, none⟩ (.int .u64 ((rd_T33 l1 x43_2).f1))).setCell ⟨gb178, 2, none⟩ (.bool ((rd_T33 l1 x43_2).f2))).setCell ⟨gb178, 3, none⟩ (.int .u64 ((rd_T33 l1 x43_2).f3))).setCell ⟨gb178, 4, none⟩ (.int .u64 ((rd_T33 l1 x43_2).f4))).heap[gb176]? = some (.cells #[.int .u64 x177000_2, .int .u64 x177001_2, .int .u64 x177002_2, .int .i64 x177003_2] 30 (0, 0))) := ⟨y25_⟩
          have n2_ : Aside0 ((((((w33.setCell ⟨gb178, 0, none⟩ (.int .i64 ((rd_T33 l1 x43_2).f0))).setCell ⟨gb178, 1, none⟩ (.int .u64 ((rd_T33 l1 x43_2).f1))).setCell ⟨gb178, 2, none⟩ (.bool ((rd_T33 l1 x43_2).f2))).setCell ⟨gb178, 3, none⟩ (.int .u64 ((rd_T33 l1 x43_2).f3))).setCell ⟨gb178, 4, none⟩ (.int .u64 ((rd_T33 l1 x43_2).f4))).heap[gb178]? = some (.cells #[.int .i64 ((rd_T33 l1 x43_2).f0), .int .u64 ((rd_T33 l1 x43_2).f1), .bool ((rd_T33 l1 x43_2).f2), .int .u64 ((rd_T33 l1 x43_2).f3), .int .u64 ((rd_T33 l1 x43_2).f4)] 33 (0, 0))) := ⟨y17_⟩
          have n3_ : Aside0 (Below w.heap.size w (((((w33.setCell ⟨gb178, 0, none⟩ (.int .i64 ((rd_T33 l1 x43_2).f0))).setCell ⟨gb178, 1, none⟩ (.int .u64 ((rd_T33 l1 x43_2).f1))).setCell ⟨gb178, 2, none⟩ (.bool ((rd_T33 l1 x43_2).f2))).setCell ⟨gb178, 3, none⟩ (.int .u64 ((rd_T33 l1 x43_2).f3))).setCell ⟨gb178, 4, none⟩ (.int .u64 ((rd_T33 l1 x43_2).f4)))) := ⟨y5_⟩
          (try clear BK165)
          (try clear BK176)
          (try clear BK178)
          (try clear HB)
          generalize (((((w33.setCell ⟨gb178, 0, none⟩ (.int .i64 ((rd_T33 l1 x43_2).f0))).setCell ⟨gb178, 1, none⟩ (.int .u64 ((rd_T33 l1 x43_2).f1))).setCell ⟨gb178, 2, none⟩ (.bool ((rd_T33 l1 x43_2).f2))).setCell ⟨gb178, 3, none⟩ (.int .u64 ((rd_T33 l1 x43_2).f3))).setCell ⟨gb178, 4, none⟩ (.int .u64 ((rd_T33 l1 x43_2).f4))) = w37 at n0_ n1_ n2_ n3_ ⊢
          have BK165 := n0_
          have BK176 := n1_
          have BK178 := n2_
          have HB := n3_
          clear n0_ n1_ n2_ n3_
          have n0_ := Aside0.mk (blk_drew BK165.out)
          have n1_ := Aside0.mk (blk_drew BK176.out)
          have n2_ := Aside0.mk (blk_drew BK178.out)
          have n3_ := Aside0.mk (below_drew1 HB.out)
          clear BK165
          clear BK176
          clear BK178
          clear HB
          have BK165 := n0_
          have BK176 := n1_
          have BK178 := n2_
          have HB := n3_
          clear n0_ n1_ n2_ n3_
          refine start_ (n := 9) (S := fun w' => w'.cell? ⟨gb165, 0, none⟩ = some (.int .u64 x166000_2) ∧ w'.cell? ⟨gb165, 1, none⟩ = some (.int .u64 x166001_2) ∧ w'.cell? ⟨gb165, 2, none⟩ = some (.int .u64 x166002_2) ∧ w'.cell? ⟨gb165, 3, none⟩ = some (.int .i64 x166003_2) ∧ w'.cell? ⟨gb178, 0, none⟩ = some (.int .i64 ((rd_T33 l1 x43_2).f0)) ∧ w'.cell? ⟨gb178, 1, none⟩ = some (.int .u64 ((rd_T33 l1 x43_2).f1)) ∧ w'.cell? ⟨gb178, 2, none⟩ = some (.bool ((rd_T33 l1 x43_2).f2)) ∧ w'.cell? ⟨gb178, 3, none⟩ = some (.int .u64 ((rd_T33 l1 x43_2).f3)) ∧ w'.cell? ⟨gb178, 4, none⟩ = some (.int .u64 ((rd_T33 l1 x43_2).f4)) ∧ w'.cell? ⟨gb176, 0, none⟩ = some (.int .u64 x177000_2) ∧ w'.cell? ⟨gb176, 1, none⟩ = some (.int .u64 x177001_2) ∧ w'.cell? ⟨gb176, 2, none⟩ = some (.int .u64 x177002_2) ∧ w'.cell? ⟨gb176, 3, none⟩ = some (.int .i64 x177003_2)) (ds := []) #[false, false, false, false, false, false, false, false, false] (by kernel_rfl) rfl rfl ⟨(blk_cell BK165.out 0).trans rfl, (blk_cell BK165.out 1).trans rfl, (blk_cell BK165.out 2).trans rfl, (blk_cell BK165.out 3).trans rfl, (blk_cell BK178.out 0).trans rfl, (blk_cell BK178.out 1).trans rfl, (blk_cell BK178.out 2).trans rfl, (blk_cell BK178.out 3).trans rfl, (blk_cell BK178.out 4).trans rfl, (blk_cell BK176.out 0).trans rfl, (blk_cell BK176.out 1).trans rfl, (blk_cell BK176.out 2).trans rfl, (blk_cell BK176.out 3).trans rfl⟩ (fun hHeld => ?_); refine with_tabW manometerlaw19_LimitBuckets.tab7 manometerlaw19_LimitBuckets.bits7 (fun HT_ HW_ => ?_)
          generalize w37.drew = w38 at BK165 BK176 BK178 HB hHeld ⊢
          refine pure_ (i := 1) (N := some 48) (v := ?_) (a' := ?_) #[false, true, false, false, false, false, false, false, false] rfl rfl (any_of HT_.out (by kernel_rfl)) (fun _ _ _ h => h) (Or.inl ⟨by rfl, ?_⟩) ?_ ?_
          rotate_left
          ·intro w'
           go_simp
           with_reducible rfl
          rotate_left
          ·simp only [Act.put, List.setIfInBounds_toArray, List.set_cons_zero, List.set_cons_succ, i64_w, i32_w]
           rfl
          refine pure_ (i := 5) (N := some 52) (v := ?_) (a' := ?_) #[false, true, false, false, false, true, false, false, false] rfl rfl (any_of HT_.out (by kernel_rfl)) (fun _ _ _ h => h) (Or.inl ⟨by rfl, ?_⟩) ?_ ?_
          rotate_left
          ·intro w'
           go_simp
           with_reducible rfl
          rotate_left
          ·simp only [Act.put, List.setIfInBounds_toArray, List.set_cons_zero, List.set_cons_succ, i64_w, i32_w]
           rfl
          refine take_ (i := 0) (N := some 47) (v := ?_) (a' := ?_) #[true, true, false, false, false, true, false, false, false] rfl rfl (take_ofW HT_.out HW_.out (by kernel_rfl)) (fun _ _ _ h => h) (Or.inl ⟨by rfl, ?_⟩) hHeld ?_ ?_
          rotate_left
          ·rintro w' ⟨s0, s1, s2, s3, s4, s5, s6, s7, s8, s9, s10, s11, s12⟩
           go_simp
           with_reducible rfl
          rotate_left
          ·simp only [Act.put, List.setIfInBounds_toArray, List.set_cons_zero, List.set_cons_succ, i64_w, i32_w]
           rfl
          refine take_ (i := 2) (N := some 49) (v := ?_) (a' := ?_) #[true, true, true, false, false, true, false, false, false] rfl rfl (take_ofW HT_.out HW_.out (by kernel_rfl)) (fun _ _ _ h => h) (Or.inl ⟨by rfl, ?_⟩) hHeld ?_ ?_
          rotate_left
          ·rintro w' ⟨s0, s1, s2, s3, s4, s5, s6, s7, s8, s9, s10, s11, s12⟩
           go_simp
           with_reducible rfl
          rotate_left
          ·simp only [Act.put, List.setIfInBounds_toArray, List.set_cons_zero, List.set_cons_succ, i64_w, i32_w]
           rfl
          refine take_ (i := 4) (N := some 51) (v := ?_) (a' := ?_) #[true, true, true, false, true, true, false, false, false] rfl rfl (take_ofW HT_.out HW_.out (by kernel_rfl)) (fun _ _ _ h => h) (Or.inl ⟨by rfl, ?_⟩) hHeld ?_ ?_
          rotate_left
          ·rintro w' ⟨s0, s1, s2, s3, s4, s5, s6, s7, s8, s9, s10, s11, s12⟩
           go_simp
           with_reducible rfl
          rotate_left
          ·simp only [Act.put, List.setIfInBounds_toArray, List.set_cons_zero, List.set_cons_succ, i64_w, i32_w]
           rfl
          refine take_ (i := 6) (N := some 53) (v := ?_) (a' := ?_) #[true, true, true, false, true, true, true, false, false] rfl rfl (take_ofW HT_.out HW_.out (by kernel_rfl)) (fun _ _ _ h => h) (Or.inl ⟨by rfl, ?_⟩) hHeld ?_ ?_
          rotate_left
          ·rintro w' ⟨s0, s1, s2, s3, s4, s5, s6, s7, s8, s9, s10, s11, s12⟩
           go_simp
           with_reducible rfl
          rotate_left
          ·simp only [Act.put, List.setIfInBounds_toArray, List.set_cons_zero, List.set_cons_succ, i64_w, i32_w]
           rfl
          refine one_ (i := 3) (N := some 50) #[true, true, true, true, true, true, true, false, false] rfl rfl (one_of HT_.out (by kernel_rfl)) (by decide) (fun K hK => ?_)
          refine goes_ Tryd.func18 (by kernel_rfl) rfl #[.agg #[.int .u64 x166000_2, .int .u64 x166001_2, .int .u64 x166002_2, .int .i64 x166003_2], .int .i64 ((rd_T33 l1 x43_2).f0)] (by rfl) rfl rfl y4_ ?_
          with_reducible refine (limit_Fill.calls x166000_2 x166001_2 x166002_2 x166003_2 ((rd_T33 l1 x43_2).f0) t179 t180 t181 t182 _ A30.out).mono ?_
          rintro e w39 ⟨rfl, hb⟩
          refine ⟨_, rfl, ?_⟩
          have n0_ := Aside0.mk (blk_below (g := gb165) (o := .cells #[.int .u64 x166000_2, .int .u64 x166001_2, .int .u64 x166002_2, .int .i64 x166003_2] 30 (0, 0)) y7_ hb)
          have n1_ := Aside0.mk (blk_below (g := gb176) (o := .cells #[.int .u64 x177000_2, .int .u64 x177001_2, .int .u64 x177002_2, .int .i64 x177003_2] 30 (0, 0)) y13_ hb)
          have n2_ := Aside0.mk (blk_below (g := gb178) (o := .cells #[.int .i64 ((rd_T33 l1 x43_2).f0), .int .u64 ((rd_T33 l1 x43_2).f1), .bool ((rd_T33 l1 x43_2).f2), .int .u64 ((rd_T33 l1 x43_2).f3), .int .u64 ((rd_T33 l1 x43_2).f4)] 33 (0, 0)) y24_ hb)
          have n3_ := Aside0.mk (below_step y5_ hb)
          clear BK165
          clear BK176
          clear BK178
          clear HB
          have BK165 := n0_
          have BK176 := n1_
          have BK178 := n2_
          have HB := n3_
          clear n0_ n1_ n2_ n3_
          (try clear hb)
          (try clear hb2)
          (try clear hk)
          (try clear hi)
          refine hK.out _ _ ⟨(blk_cell BK165.out 0).trans rfl, (blk_cell BK165.out 1).trans rfl, (blk_cell BK165.out 2).trans rfl, (blk_cell BK165.out 3).trans rfl, (blk_cell BK178.out 0).trans rfl, (blk_cell BK178.out 1).trans rfl, (blk_cell BK178.out 2).trans rfl, (blk_cell BK178.out 3).trans rfl, (blk_cell BK178.out 4).trans rfl, (blk_cell BK176.out 0).trans rfl, (blk_cell BK176.out 1).trans rfl, (blk_cell BK176.out 2).trans rfl, (blk_cell BK176.out 3).trans rfl⟩ (fun hHeld => ?_)
          clear hK K
          refine norm_ (a' := ?_) ?_ ?_
          rotate_left
          ·show Act.put _ (some 50) _ = _
           simp only [Act.put, List.setIfInBounds_toArray, List.set_cons_zero, List.set_cons_succ, i64_w, i32_w]
           rfl
          refine one_ (i := 7) (N := some 54) #[true, true, true, true, true, true, true, true, false] rfl rfl (one_of HT_.out (by kernel_rfl)) (by decide) (fun K hK => ?_)
          refine goes_ Tryd.func20 (by kernel_rfl) rfl #[.agg #[.int .u64 x177000_2, .int .u64 x177001_2, .int .u64 x177002_2, .int .i64 x177003_2], .int .i64 ((rd_T33 l1 x43_2).f0)] (by rfl) rfl rfl y4_ ?_
          with_reducible refine (manometerref19_Fill.calls x177000_2 x177001_2 x177002_2 x177003_2 ((rd_T33 l1 x43_2).f0) t183 t184 t185 t186 _ A31.out).mono ?_
          rintro e w40 ⟨rfl, hb⟩
          refine ⟨_, rfl, ?_⟩
          have n0_ := Aside0.mk (blk_below (g := gb165) (o := .cells #[.int .u64 x166000_2, .int .u64 x166001_2, .int .u64 x166002_2, .int .i64 x166003_2] 30 (0, 0)) y7_ hb)
          have n1_ := Aside0.mk (blk_below (g := gb176) (o := .cells #[.int .u64 x177000_2, .int .u64 x177001_2, .int .u64 x177002_2, .int .i64 x177003_2] 30 (0, 0)) y13_ hb)
          have n2_ := Aside0.mk (blk_below (g := gb178) (o := .cells #[.int .i64 ((rd_T33 l1 x43_2).f0), .int .u64 ((rd_T33 l1 x43_2).f1), .bool ((rd_T33 l1 x43_2).f2), .int .u64 ((rd_T33 l1 x43_2).f3), .int .u64 ((rd_T33 l1 x43_2).f4)] 33 (0, 0)) y24_ hb)
          have n3_ := Aside0.mk (below_step y5_ hb)
          clear BK165
          clear BK176
          clear BK178
          clear HB
          have BK165 := n0_
          have BK176 := n1_
          have BK178 := n2_
          have HB := n3_
          clear n0_ n1_ n2_ n3_
          (try clear hb)
          (try clear hb2)
          (try clear hk)
          (try clear hi)
          refine hK.out _ _ ⟨(blk_cell BK165.out 0).trans rfl, (blk_cell BK165.out 1).trans rfl, (blk_cell BK165.out 2).trans rfl, (blk_cell BK165.out 3).trans rfl, (blk_cell BK178.out 0).trans rfl, (blk_cell BK178.out 1).trans rfl, (blk_cell BK178.out 2).trans rfl, (blk_cell BK178.out 3).trans rfl, (blk_cell BK178.out 4).trans rfl, (blk_cell BK176.out 0).trans rfl, (blk_cell BK176.out 1).trans rfl, (blk_cell BK176.out 2).trans rfl, (blk_cell BK176.out 3).trans rfl⟩ (fun hHeld => ?_)
          clear hK K
          refine norm_ (a' := ?_) ?_ ?_
          rotate_left
          ·show Act.put _ (some 54) _ = _
           simp only [Act.put, List.setIfInBounds_toArray, List.set_cons_zero, List.set_cons_succ, i64_w, i32_w]
           rfl
          refine pure_ (i := 8) (N := some 55) (v := ?_) (a' := ?_) #[true, true, true, true, true, true, true, true, true] rfl rfl (any_of HT_.out (by kernel_rfl)) (fun _ _ _ h => h) (Or.inl ⟨by rfl, ?_⟩) ?_ ?_
          rotate_left
          ·intro w'
           go_simp
           with_reducible rfl
          rotate_left
          ·simp only [Act.put, List.setIfInBounds_toArray, List.set_cons_zero, List.set_cons_succ, i64_w, i32_w]
           rfl
          refine done_ (done_of HT_.out (by kernel_rfl)) ?_
          try go_wp2
          go_ret
          exact ⟨y10_, y5_⟩
         ·rw [if_neg c32] at H
          have c32b0 : (!(t179 == t183) || (!(t180 == t184) || (!(t181 == t185) || (!(t182 == t186))))) = false := by simpa using c32
          clear c32
          have HC41 := Aside0.mk H
          clear H
          have p177 : 0 ≤ (x43_2 : Int) := of_decide_eq_true y11_
          have q177 : x43_2 < (l1.length : Int) := of_decide_eq_true y11_
          obtain ⟨ad177, e177, hx177_0, hx177_1, hx177_2, hx177_3, hx177_4⟩ := at_T33 HR1.out x43_2 p177 q177
          cases e177
          replace hx177_0 := (HB.out.cell (World.block_lt_of_cell? w _ hx177_0)).trans hx177_0
          replace hx177_1 := (HB.out.cell (World.block_lt_of_cell? w _ hx177_1)).trans hx177_1
          replace hx177_2 := (HB.out.cell (World.block_lt_of_cell? w _ hx177_2)).trans hx177_2
          replace hx177_3 := (HB.out.cell (World.block_lt_of_cell? w _ hx177_3)).trans hx177_3
          replace hx177_4 := (HB.out.cell (World.block_lt_of_cell? w _ hx177_4)).trans hx177_4
          replace p177 := eq_true p177
          replace q177 := eq_true q177
          try go_wp2_with (first | ((with_reducible refine gate_dst (N := 7) rfl ?_); (try (refine gate_guard (by rfl) ?_; dsimp only)); refine box_event ?hg (N := 7) ?hd (cs := #[.int .i64 0, .int .u64 0, .bool false, .int .u64 0, .int .u64 0]) (t := 33) ?hr ?_; (case hd => rfl); (case hg => rfl); (case hr => first | (go_simp; done) | (go_simp; rfl)); intro gb178 hg w42 hbox hb; have n0_ := Aside0.mk (blk_below (g := gb165) (o := .cells #[.int .u64 x166000_2, .int .u64 x166001_2, .int .u64 x166002_2, .int .i64 x166003_2] 30 (0, 0)) y7_ hb); have n1_ := Aside0.mk (blk_below (g := gb176) (o := .cells #[.int .u64 x177000_2, .int .u64 x177001_2, .int .u64 x177002_2, .int .i64 x177003_2] 30 (0, 0)) y13_ hb); have n2_ := Aside0.mk (below_step y16_ hb); have n3_ := Aside0.mk (hbox); have n4_ := Aside0.mk ((by rw [hg]; exact (below_size y16_) : w.heap.size ≤ gb178)); have n5_ := Aside0.mk ((by rw [hg]; exact (below_size y16_) : w.heap.size ≤ gb178)); have n6_ := Aside0.mk ((by rw [hg]; exact Nat.ne_of_lt (blk_lt (g := gb165) (o := .cells #[.int .u64 x166000_2, .int .u64 x166001_2, .int .u64 x166002_2, .int .i64 x166003_2] 30 (0, 0)) y7_) : gb165 ≠ gb178)); have n7_ := Aside0.mk ((by rw [hg]; exact Nat.ne_of_gt (blk_lt (g := gb165) (o := .cells #[.int .u64 x166000_2, .int .u64 x166001_2, .int .u64 x166002_2, .int .i64 x166003_2] 30 (0, 0)) y7_) : gb178 ≠ gb165)); have n8_ := Aside0.mk ((by rw [hg]; exact Nat.ne_of_lt (blk_lt (g := gb176) (o := .cells #[.int .u64 x177000_2, .int .u64 x177001_2, .int .u64 x177002_2, .int .i64 x177003_2] 30 (0, 0)) y13_) : gb176 ≠ gb178)); have n9_ := Aside0.mk ((by rw [hg]; exact Nat.ne_of_gt (blk_lt (g := gb176) (o := .cells #[.int .u64 x177000_2, .int .u64 x177001_2, .int .u64 x177002_2, .int .i64 x177003_2] 30 (0, 0)) y13_) : gb178 ≠ gb176)); clear BK165; clear BK176; clear HB; have BK165 := n0_; have BK176 := n1_; have HB := n2_; have BK178 := n3_; have GW178 := n4_; have GE178 := n5_; have NB165_178 := n6_; have NB178_165 := n7_; have NB176_178 := n8_; have NB178_176 := n9_; clear n0_ n1_ n2_ n3_ n4_ n5_ n6_ n7_ n8_ n9_; clear hb hbox hg; have hnb43 := NB178_165.out; have hnc43 := NB165_178.out; have hnb44 := NB178_176.out; have hnc44 := NB176_178.out; have hcz45_0 : w42.cell? ⟨gb178, 0, none⟩ = some (.int .i64 0) := (blk_cell BK178.out 0).trans rfl; have hcz45_1 : w42.cell? ⟨gb178, 1, none⟩ = some (.int .u64 0) := (blk_cell BK178.out 1).trans rfl; have hcz45_2 : w42.cell? ⟨gb178, 2, none⟩ = some (.bool false) := (blk_cell BK178.out 2).trans rfl; have hcz45_3 : w42.cell? ⟨gb178, 3, none⟩ = some (.int .u64 0) := (blk_cell BK178.out 3).trans rfl; have hcz45_4 : w42.cell? ⟨gb178, 4, none⟩ = some (.int .u64 0) := (blk_cell BK178.out 4).trans rfl; have hfz45_0 := blk_frozen BK178.out 0; have hfz45_1 := blk_frozen BK178.out 1; have hfz45_2 := blk_frozen BK178.out 2; have hfz45_3 := blk_frozen BK178.out 3; have hfz45_4 := blk_frozen BK178.out 4))
          have n0_ : Aside0 ((((((w42.setCell ⟨gb178, 0, none⟩ (.int .i64 ((rd_T33 l1 x43_2).f0))).setCell ⟨gb178, 1, none⟩ (.int .u64 ((rd_T33 l1 x43_2).f1))).setCell ⟨gb178, 2, none⟩ (.bool ((rd_T33 l1 x43_2).f2))).setCell ⟨gb178, 3, none⟩ (.int .u64 ((rd_T33 l1 x43_2).f3))).setCell ⟨gb178, 4, none⟩ (.int .u64 ((rd_T33 l1 x43_2).f4))).heap[gb165]? = some (.cells #[.int .u64 x166000_2, .int .u64 x166001_2, .int .u64 x166002_2, .int .i64 x166003_2] 30 (0, 0))) := ⟨y26_⟩
          have n1_ : Aside0 ((((((w42.setCell ⟨gb178, 0, none⟩ (.int .i64 ((rd_T33 l1 x43_2).f0))).setCell ⟨gb178, 1, none⟩ (.int .u64 ((rd_T33 l1 x43_2).f1))).setCell ⟨gb178, 2, none⟩ (.bool ((rd_T33 l1 x43_2).f2))).setCell ⟨gb178, 3, none⟩ (.int .u64 ((rd_T33 l1 x43_2).f3))).setCell ⟨gb178, 4, none⟩ (.int .u64 ((rd_T33 l1 x43_2).f4))).heap[gb176]? = some (.cells #[.int .u64 x177000_2, .int .u64 x177001_2, .int .u64 x177002_2, .int .i64 x177003_2] 30 (0, 0))) := ⟨y25_⟩
          have n2_ : Aside0 ((((((w42.setCell ⟨gb178, 0, none⟩ (.int .i64 ((rd_T33 l1 x43_2).f0))).setCell ⟨gb178, 1, none⟩ (.int .u64 ((rd_T33 l1 x43_2).f1))).setCell ⟨gb178, 2, none⟩ (.bool ((rd_T33 l1 x43_2).f2))).setCell ⟨gb178, 3, none⟩ (.int .u64 ((rd_T33 l1 x43_2).f3))).setCell ⟨gb178, 4, none⟩ (.int .u64 ((rd_T33 l1 x43_2).f4))).heap[gb178]? = some (.cells #[.int .i64 ((rd_T33 l1 x43_2).f0), .int .u64 ((rd_T33 l1 x43_2).f1), .bool ((rd_T33 l1 x43_2).f2), .int .u64 ((rd_T33 l1 x43_2).f3), .int .u64 ((rd_T33 l1 x43_2).f4)] 33 (0, 0))) := ⟨y17_⟩
          have n3_ : Aside0 (Below w.heap.size w (((((w42.setCell ⟨gb178, 0, none⟩ (.int .i64 ((rd_T33 l1 x43_2).f0))).setCell ⟨gb178, 1, none⟩ (.int .u64 ((rd_T33 l1 x43_2).f1))).setCell ⟨gb178, 2, none⟩ (.bool ((rd_T33 l1 x43_2).f2))).setCell ⟨gb178, 3, none⟩ (.int .u64 ((rd_T33 l1 x43_2).f3))).setCell ⟨gb178, 4, none⟩ (.int .u64 ((rd_T33 l1 x43_2).f4)))) := ⟨y5_⟩
          (try clear BK165)
          (try clear BK176)
          (try clear BK178)
          (try clear HB)
          generalize (((((w42.setCell ⟨gb178, 0, none⟩ (.int .i64 ((rd_T33 l1 x43_2).f0))).setCell ⟨gb178, 1, none⟩ (.int .u64 ((rd_T33 l1 x43_2).f1))).setCell ⟨gb178, 2, none⟩ (.bool ((rd_T33 l1 x43_2).f2))).setCell ⟨gb178, 3, none⟩ (.int .u64 ((rd_T33 l1 x43_2).f3))).setCell ⟨gb178, 4, none⟩ (.int .u64 ((rd_T33 l1 x43_2).f4))) = w46 at n0_ n1_ n2_ n3_ ⊢
          have BK165 := n0_
          have BK176 := n1_
          have BK178 := n2_
          have HB := n3_
          clear n0_ n1_ n2_ n3_
          have n0_ := Aside0.mk (blk_drew BK165.out)
          have n1_ := Aside0.mk (blk_drew BK176.out)
          have n2_ := Aside0.mk (blk_drew BK178.out)
          have n3_ := Aside0.mk (below_drew1 HB.out)
          clear BK165
          clear BK176
          clear BK178
          clear HB
          have BK165 := n0_
          have BK176 := n1_
          have BK178 := n2_
          have HB := n3_
          clear n0_ n1_ n2_ n3_
          refine start_ (n := 9) (S := fun w' => w'.cell? ⟨gb165, 0, none⟩ = some (.int .u64 x166000_2) ∧ w'.cell? ⟨gb165, 1, none⟩ = some (.int .u64 x166001_2) ∧ w'.cell? ⟨gb165, 2, none⟩ = some (.int .u64 x166002_2) ∧ w'.cell? ⟨gb165, 3, none⟩ = some (.int .i64 x166003_2) ∧ w'.cell? ⟨gb178, 0, none⟩ = some (.int .i64 ((rd_T33 l1 x43_2).f0)) ∧ w'.cell? ⟨gb178, 1, none⟩ = some (.int .u64 ((rd_T33 l1 x43_2).f1)) ∧ w'.cell? ⟨gb178, 2, none⟩ = some (.bool ((rd_T33 l1 x43_2).f2)) ∧ w'.cell? ⟨gb178, 3, none⟩ = some (.int .u64 ((rd_T33 l1 x43_2).f3)) ∧ w'.cell? ⟨gb178, 4, none⟩ = some (.int .u64 ((rd_T33 l1 x43_2).f4)) ∧ w'.cell? ⟨gb176, 0, none⟩ = some (.int .u64 x177000_2) ∧ w'.cell? ⟨gb176, 1, none⟩ = some (.int .u64 x177001_2) ∧ w'.cell? ⟨gb176, 2, none⟩ = some (.int .u64 x177002_2) ∧ w'.cell? ⟨gb176, 3, none⟩ = some (.int .i64 x177003_2)) (ds := []) #[false, false, false, false, false, false, false, false, false] (by kernel_rfl) rfl rfl ⟨(blk_cell BK165.out 0).trans rfl, (blk_cell BK165.out 1).trans rfl, (blk_cell BK165.out 2).trans rfl, (blk_cell BK165.out 3).trans rfl, (blk_cell BK178.out 0).trans rfl, (blk_cell BK178.out 1).trans rfl, (blk_cell BK178.out 2).trans rfl, (blk_cell BK178.out 3).trans rfl, (blk_cell BK178.out 4).trans rfl, (blk_cell BK176.out 0).trans rfl, (blk_cell BK176.out 1).trans rfl, (blk_cell BK176.out 2).trans rfl, (blk_cell BK176.out 3).trans rfl⟩ (fun hHeld => ?_); refine with_tabW manometerlaw19_LimitBuckets.tab7 manometerlaw19_LimitBuckets.bits7 (fun HT_ HW_ => ?_)
          generalize w46.drew = w47 at BK165 BK176 BK178 HB hHeld ⊢
          refine pure_ (i := 1) (N := some 48) (v := ?_) (a' := ?_) #[false, true, false, false, false, false, false, false, false] rfl rfl (any_of HT_.out (by kernel_rfl)) (fun _ _ _ h => h) (Or.inl ⟨by rfl, ?_⟩) ?_ ?_
          rotate_left
          ·intro w'
           go_simp
           with_reducible rfl
          rotate_left
          ·simp only [Act.put, List.setIfInBounds_toArray, List.set_cons_zero, List.set_cons_succ, i64_w, i32_w]
           rfl
          refine pure_ (i := 5) (N := some 52) (v := ?_) (a' := ?_) #[false, true, false, false, false, true, false, false, false] rfl rfl (any_of HT_.out (by kernel_rfl)) (fun _ _ _ h => h) (Or.inl ⟨by rfl, ?_⟩) ?_ ?_
          rotate_left
          ·intro w'
           go_simp
           with_reducible rfl
          rotate_left
          ·simp only [Act.put, List.setIfInBounds_toArray, List.set_cons_zero, List.set_cons_succ, i64_w, i32_w]
           rfl
          refine take_ (i := 0) (N := some 47) (v := ?_) (a' := ?_) #[true, true, false, false, false, true, false, false, false] rfl rfl (take_ofW HT_.out HW_.out (by kernel_rfl)) (fun _ _ _ h => h) (Or.inl ⟨by rfl, ?_⟩) hHeld ?_ ?_
          rotate_left
          ·rintro w' ⟨s0, s1, s2, s3, s4, s5, s6, s7, s8, s9, s10, s11, s12⟩
           go_simp
           with_reducible rfl
          rotate_left
          ·simp only [Act.put, List.setIfInBounds_toArray, List.set_cons_zero, List.set_cons_succ, i64_w, i32_w]
           rfl
          refine take_ (i := 2) (N := some 49) (v := ?_) (a' := ?_) #[true, true, true, false, false, true, false, false, false] rfl rfl (take_ofW HT_.out HW_.out (by kernel_rfl)) (fun _ _ _ h => h) (Or.inl ⟨by rfl, ?_⟩) hHeld ?_ ?_
          rotate_left
          ·rintro w' ⟨s0, s1, s2, s3, s4, s5, s6, s7, s8, s9, s10, s11, s12⟩
           go_simp
           with_reducible rfl
          rotate_left
          ·simp only [Act.put, List.setIfInBounds_toArray, List.set_cons_zero, List.set_cons_succ, i64_w, i32_w]
           rfl
          refine take_ (i := 4) (N := some 51) (v := ?_) (a' := ?_) #[true, true, true, false, true, true, false, false, false] rfl rfl (take_ofW HT_.out HW_.out (by kernel_rfl)) (fun _ _ _ h => h) (Or.inl ⟨by rfl, ?_⟩) hHeld ?_ ?_
          rotate_left
          ·rintro w' ⟨s0, s1, s2, s3, s4, s5, s6, s7, s8, s9, s10, s11, s12⟩
           go_simp
           with_reducible rfl
          rotate_left
          ·simp only [Act.put, List.setIfInBounds_toArray, List.set_cons_zero, List.set_cons_succ, i64_w, i32_w]
           rfl
          refine take_ (i := 6) (N := some 53) (v := ?_) (a' := ?_) #[true, true, true, false, true, true, true, false, false] rfl rfl (take_ofW HT_.out HW_.out (by kernel_rfl)) (fun _ _ _ h => h) (Or.inl ⟨by rfl, ?_⟩) hHeld ?_ ?_
          rotate_left
          ·rintro w' ⟨s0, s1, s2, s3, s4, s5, s6, s7, s8, s9, s10, s11, s12⟩
           go_simp
           with_reducible rfl
          rotate_left
          ·simp only [Act.put, List.setIfInBounds_toArray, List.set_cons_zero, List.set_cons_succ, i64_w, i32_w]
           rfl
          refine one_ (i := 3) (N := some 50) #[true, true, true, true, true, true, true, false, false] rfl rfl (one_of HT_.out (by kernel_rfl)) (by decide) (fun K hK => ?_)
          refine goes_ Tryd.func18 (by kernel_rfl) rfl #[.agg #[.int .u64 x166000_2, .int .u64 x166001_2, .int .u64 x166002_2, .int .i64 x166003_2], .int .i64 ((rd_T33 l1 x43_2).f0)] (by rfl) rfl rfl y4_ ?_
          with_reducible refine (limit_Fill.calls x166000_2 x166001_2 x166002_2 x166003_2 ((rd_T33 l1 x43_2).f0) t179 t180 t181 t182 _ A30.out).mono ?_
          rintro e w48 ⟨rfl, hb⟩
          refine ⟨_, rfl, ?_⟩
          have n0_ := Aside0.mk (blk_below (g := gb165) (o := .cells #[.int .u64 x166000_2, .int .u64 x166001_2, .int .u64 x166002_2, .int .i64 x166003_2] 30 (0, 0)) y7_ hb)
          have n1_ := Aside0.mk (blk_below (g := gb176) (o := .cells #[.int .u64 x177000_2, .int .u64 x177001_2, .int .u64 x177002_2, .int .i64 x177003_2] 30 (0, 0)) y13_ hb)
          have n2_ := Aside0.mk (blk_below (g := gb178) (o := .cells #[.int .i64 ((rd_T33 l1 x43_2).f0), .int .u64 ((rd_T33 l1 x43_2).f1), .bool ((rd_T33 l1 x43_2).f2), .int .u64 ((rd_T33 l1 x43_2).f3), .int .u64 ((rd_T33 l1 x43_2).f4)] 33 (0, 0)) y24_ hb)
          have n3_ := Aside0.mk (below_step y5_ hb)
          clear BK165
          clear BK176
          clear BK178
          clear HB
          have BK165 := n0_
          have BK176 := n1_
          have BK178 := n2_
          have HB := n3_
          clear n0_ n1_ n2_ n3_
          (try clear hb)
          (try clear hb2)
          (try clear hk)
          (try clear hi)
          refine hK.out _ _ ⟨(blk_cell BK165.out 0).trans rfl, (blk_cell BK165.out 1).trans rfl, (blk_cell BK165.out 2).trans rfl, (blk_cell BK165.out 3).trans rfl, (blk_cell BK178.out 0).trans rfl, (blk_cell BK178.out 1).trans rfl, (blk_cell BK178.out 2).trans rfl, (blk_cell BK178.out 3).trans rfl, (blk_cell BK178.out 4).trans rfl, (blk_cell BK176.out 0).trans rfl, (blk_cell BK176.out 1).trans rfl, (blk_cell BK176.out 2).trans rfl, (blk_cell BK176.out 3).trans rfl⟩ (fun hHeld => ?_)
          clear hK K
          refine norm_ (a' := ?_) ?_ ?_
          rotate_left
          ·show Act.put _ (some 50) _ = _
           simp only [Act.put, List.setIfInBounds_toArray, List.set_cons_zero, List.set_cons_succ, i64_w, i32_w]
           rfl
          refine one_ (i := 7) (N := some 54) #[true, true, true, true, true, true, true, true, false] rfl rfl (one_of HT_.out (by kernel_rfl)) (by decide) (fun K hK => ?_)
          refine goes_ Tryd.func20 (by kernel_rfl) rfl #[.agg #[.int .u64 x177000_2, .int .u64 x177001_2, .int .u64 x177002_2, .int .i64 x177003_2], .int .i64 ((rd_T33 l1 x43_2).f0)] (by rfl) rfl rfl y4_ ?_
          with_reducible refine (manometerref19_Fill.calls x177000_2 x177001_2 x177002_2 x177003_2 ((rd_T33 l1 x43_2).f0) t183 t184 t185 t186 _ A31.out).mono ?_
          rintro e w49 ⟨rfl, hb⟩
          refine ⟨_, rfl, ?_⟩
          have n0_ := Aside0.mk (blk_below (g := gb165) (o := .cells #[.int .u64 x166000_2, .int .u64 x166001_2, .int .u64 x166002_2, .int .i64 x166003_2] 30 (0, 0)) y7_ hb)
          have n1_ := Aside0.mk (blk_below (g := gb176) (o := .cells #[.int .u64 x177000_2, .int .u64 x177001_2, .int .u64 x177002_2, .int .i64 x177003_2] 30 (0, 0)) y13_ hb)
          have n2_ := Aside0.mk (blk_below (g := gb178) (o := .cells #[.int .i64 ((rd_T33 l1 x43_2).f0), .int .u64 ((rd_T33 l1 x43_2).f1), .bool ((rd_T33 l1 x43_2).f2), .int .u64 ((rd_T33 l1 x43_2).f3), .int .u64 ((rd_T33 l1 x43_2).f4)] 33 (0, 0)) y24_ hb)
          have n3_ := Aside0.mk (below_step y5_ hb)
          clear BK165
          clear BK176
          clear BK178
          clear HB
          have BK165 := n0_
          have BK176 := n1_
          have BK178 := n2_
          have HB := n3_
          clear n0_ n1_ n2_ n3_
          (try clear hb)
          (try clear hb2)
          (try clear hk)
          (try clear hi)
          refine hK.out _ _ ⟨(blk_cell BK165.out 0).trans rfl, (blk_cell BK165.out 1).trans rfl, (blk_cell BK165.out 2).trans rfl, (blk_cell BK165.out 3).trans rfl, (blk_cell BK178.out 0).trans rfl, (blk_cell BK178.out 1).trans rfl, (blk_cell BK178.out 2).trans rfl, (blk_cell BK178.out 3).trans rfl, (blk_cell BK178.out 4).trans rfl, (blk_cell BK176.out 0).trans rfl, (blk_cell BK176.out 1).trans rfl, (blk_cell BK176.out 2).trans rfl, (blk_cell BK176.out 3).trans rfl⟩ (fun hHeld => ?_)
          clear hK K
          refine norm_ (a' := ?_) ?_ ?_
          rotate_left
          ·show Act.put _ (some 54) _ = _
           simp only [Act.put, List.setIfInBounds_toArray, List.set_cons_zero, List.set_cons_succ, i64_w, i32_w]
           rfl
          refine pure_ (i := 8) (N := some 55) (v := ?_) (a' := ?_) #[true, true, true, true, true, true, true, true, true] rfl rfl (any_of HT_.out (by kernel_rfl)) (fun _ _ _ h => h) (Or.inl ⟨by rfl, ?_⟩) ?_ ?_
          rotate_left
          ·intro w'
           go_simp
           with_reducible rfl
          rotate_left
          ·simp only [Act.put, List.setIfInBounds_toArray, List.set_cons_zero, List.set_cons_succ, i64_w, i32_w]
           rfl
          refine done_ (done_of HT_.out (by kernel_rfl)) ?_
          have hcz50_0 : w49.cell? ⟨gb178, 0, none⟩ = some (.int .i64 ((rd_T33 l1 x43_2).f0)) := (blk_cell BK178.out 0).trans rfl
          have hcz50_1 : w49.cell? ⟨gb178, 1, none⟩ = some (.int .u64 ((rd_T33 l1 x43_2).f1)) := (blk_cell BK178.out 1).trans rfl
          have hcz50_2 : w49.cell? ⟨gb178, 2, none⟩ = some (.bool ((rd_T33 l1 x43_2).f2)) := (blk_cell BK178.out 2).trans rfl
          have hcz50_3 : w49.cell? ⟨gb178, 3, none⟩ = some (.int .u64 ((rd_T33 l1 x43_2).f3)) := (blk_cell BK178.out 3).trans rfl
          have hcz50_4 : w49.cell? ⟨gb178, 4, none⟩ = some (.int .u64 ((rd_T33 l1 x43_2).f4)) := (blk_cell BK178.out 4).trans rfl
          have hfz50_0 := blk_frozen BK178.out 0
          have hfz50_1 := blk_frozen BK178.out 1
          have hfz50_2 := blk_frozen BK178.out 2
          have hfz50_3 := blk_frozen BK178.out 3
          have hfz50_4 := blk_frozen BK178.out 4
          go_upto_if 57 with (fail)
          go_cut [] (fun wc => ∃ (kq : Nat) (x166000_40 : Int) (x166001_40 : Int) (x166002_40 : Int) (x166003_40 : Int) (x177000_40 : Int) (x177001_40 : Int) (x177002_40 : Int) (x177003_40 : Int), Aside0 (manometerlaw19_LimitBuckets.j2 kq l1 (l1.length : Int) x43_2 x166000_40 x166001_40 x166002_40 x166003_40 x177000_40 x177001_40 x177002_40 x177003_40 = some r) ∧ Aside0 (kq ≤ k2) ∧ Aside0 (wc.heap[gb165]? = some (.cells #[.int .u64 x166000_40, .int .u64 x166001_40, .int .u64 x166002_40, .int .i64 x166003_40] 30 (0, 0))) ∧ Aside0 (wc.heap[gb176]? = some (.cells #[.int .u64 x177000_40, .int .u64 x177001_40, .int .u64 x177002_40, .int .i64 x177003_40] 30 (0, 0))) ∧ Aside0 (wc.heap[gb178]? = some (.cells #[.int .i64 ((rd_T33 l1 x43_2).f0), .int .u64 ((rd_T33 l1 x43_2).f1), .bool ((rd_T33 l1 x43_2).f2), .int .u64 ((rd_T33 l1 x43_2).f3), .int .u64 ((rd_T33 l1 x43_2).f4)] 33 (0, 0))) ∧ Aside0 (Below w.heap.size w wc))
          case first =>
           have H := HC41.out
           clear HC41
           obtain ⟨bq51, hbq51⟩ : ∃ b_ : Bool, b_ = ((rd_T33 l1 x43_2).f2) := ⟨_, rfl⟩
           replace H : (if bq51 = true then ((limit_Turn.f x166000_2 x166001_2 x166002_2 x166003_2 ((rd_T33 l1 x43_2).f3) ((rd_T33 l1 x43_2).f4) ((rd_T33 l1 x43_2).f0)).bind fun bt187 => ((manometerref19_Turn.f x177000_2 x177001_2 x177002_2 x177003_2 ((rd_T33 l1 x43_2).f3) ((rd_T33 l1 x43_2).f4) ((rd_T33 l1 x43_2).f0)).bind fun bt191 => (manometerlaw19_LimitBuckets.j2 k2 l1 (l1.length : Int) x43_2 bt187.1 bt187.2.1 bt187.2.2.1 bt187.2.2.2 bt191.1 bt191.2.1 bt191.2.2.1 bt191.2.2.2))) else ((limit_Take.f x166000_2 x166001_2 x166002_2 x166003_2 ((rd_T33 l1 x43_2).f0) ((rd_T33 l1 x43_2).f1)).bind fun bt195 => ((manometerref19_Take.f x177000_2 x177001_2 x177002_2 x177003_2 ((rd_T33 l1 x43_2).f0) ((rd_T33 l1 x43_2).f1)).bind fun bt200 => (if (bt195.2.2.2.2 != bt200.2.2.2.2) = true then (some false) else (manometerlaw19_LimitBuckets.j2 k2 l1 (l1.length : Int) x43_2 bt195.1 bt195.2.1 bt195.2.2.1 bt195.2.2.2.1 bt200.1 bt200.2.1 bt200.2.2.1 bt200.2.2.2.1))))) = some r := by rw [← hbq51] at H; exact H
           have Nbq51 := Aside0.mk hbq51
           clear hbq51
           (try rw [← Nbq51.out])
           by_cases c52 : bq51 = true
           ·subst c52
            have H1 : ((limit_Turn.f x166000_2 x166001_2 x166002_2 x166003_2 ((rd_T33 l1 x43_2).f3) ((rd_T33 l1 x43_2).f4) ((rd_T33 l1 x43_2).f0)).bind fun bt187 => ((manometerref19_Turn.f x177000_2 x177001_2 x177002_2 x177003_2 ((rd_T33 l1 x43_2).f3) ((rd_T33 l1 x43_2).f4) ((rd_T33 l1 x43_2).f0)).bind fun bt191 => (manometerlaw19_LimitBuckets.j2 k2 l1 (l1.length : Int) x43_2 bt187.1 bt187.2.1 bt187.2.2.1 bt187.2.2.2 bt191.1 bt191.2.1 bt191.2.2.1 bt191.2.2.2))) = some r := by rw [if_pos rfl] at H; exact H
            clear H
            have H := H1
            clear H1
            replace H := Option.bind_eq_some_iff.mp H
            obtain ⟨⟨t187, t188, t189, t190⟩, A530, H⟩ := H
            replace H : ((manometerref19_Turn.f x177000_2 x177001_2 x177002_2 x177003_2 ((rd_T33 l1 x43_2).f3) ((rd_T33 l1 x43_2).f4) ((rd_T33 l1 x43_2).f0)).bind fun bt191 => (manometerlaw19_LimitBuckets.j2 k2 l1 (l1.length : Int) x43_2 t187 t188 t189 t190 bt191.1 bt191.2.1 bt191.2.2.1 bt191.2.2.2)) = some r := H
            have A53 := Aside0.mk A530
            clear A530
            replace H := Option.bind_eq_some_iff.mp H
            obtain ⟨⟨t191, t192, t193, t194⟩, A540, H⟩ := H
            replace H : (manometerlaw19_LimitBuckets.j2 k2 l1 (l1.length : Int) x43_2 t187 t188 t189 t190 t191 t192 t193 t194) = some r := H
            have A54 := Aside0.mk A540
            clear A540
            have H' := Aside0.mk H
            clear H
            try go_wp2
            have n0_ := Aside0.mk (blk_drew BK165.out)
            have n1_ := Aside0.mk (blk_drew BK176.out)
            have n2_ := Aside0.mk (blk_drew BK178.out)
            have n3_ := Aside0.mk (below_drew1 HB.out)
            clear BK165
            clear BK176
            clear BK178
            clear HB
            have BK165 := n0_
            have BK176 := n1_
            have BK178 := n2_
            have HB := n3_
            clear n0_ n1_ n2_ n3_
            refine start_ (n := 18) (S := fun w' => w'.cell? ⟨gb165, 0, none⟩ = some (.int .u64 x166000_2) ∧ w'.cell? ⟨gb165, 1, none⟩ = some (.int .u64 x166001_2) ∧ w'.cell? ⟨gb165, 2, none⟩ = some (.int .u64 x166002_2) ∧ w'.cell? ⟨gb165, 3, none⟩ = some (.int .i64 x166003_2) ∧ w'.cell? ⟨gb178, 0, none⟩ = some (.int .i64 ((rd_T33 l1 x43_2).f0)) ∧ w'.cell? ⟨gb178, 1, none⟩ = some (.int .u64 ((rd_T33 l1 x43_2).f1)) ∧ w'.cell? ⟨gb178, 2, none⟩ = some (.bool true) ∧ w'.cell? ⟨gb178, 3, none⟩ = some (.int .u64 ((rd_T33 l1 x43_2).f3)) ∧ w'.cell? ⟨gb178, 4, none⟩ = some (.int .u64 ((rd_T33 l1 x43_2).f4)) ∧ w'.cell? ⟨gb176, 0, none⟩ = some (.int .u64 x177000_2) ∧ w'.cell? ⟨gb176, 1, none⟩ = some (.int .u64 x177001_2) ∧ w'.cell? ⟨gb176, 2, none⟩ = some (.int .u64 x177002_2) ∧ w'.cell? ⟨gb176, 3, none⟩ = some (.int .i64 x177003_2)) (ds := [16, 17]) #[false, false, false, false, false, false, false, false, false, false, false, false, false, false, false, false, false, false] (by kernel_rfl) rfl rfl ⟨(blk_cell BK165.out 0).trans y9_, (blk_cell BK165.out 1).trans y9_, (blk_cell BK165.out 2).trans y9_, (blk_cell BK165.out 3).trans y9_, (blk_cell BK178.out 0).trans y9_, (blk_cell BK178.out 1).trans y9_, (blk_cell BK178.out 2).trans y9_, (blk_cell BK178.out 3).trans y9_, (blk_cell BK178.out 4).trans y9_, (blk_cell BK176.out 0).trans y9_, (blk_cell BK176.out 1).trans y9_, (blk_cell BK176.out 2).trans y9_, (blk_cell BK176.out 3).trans y9_⟩ (fun hHeld => ?_); refine with_tabW manometerlaw19_LimitBuckets.tab10 manometerlaw19_LimitBuckets.bits10 (fun HT_ HW_ => ?_)
            generalize w49.drew = w55 at BK165 BK176 BK178 HB hHeld ⊢
            refine pure_ (i := 1) (N := some 59) (v := ?_) (a' := ?_) #[false, true, false, false, false, false, false, false, false, false, false, false, false, false, false, false, false, false] rfl rfl (any_of HT_.out (by kernel_rfl)) (fun _ _ _ h => h) (Or.inl ⟨by rfl, ?_⟩) ?_ ?_
            rotate_left
            ·intro w'
             go_simp
             with_reducible rfl
            rotate_left
            ·simp only [Act.put, List.setIfInBounds_toArray, List.set_cons_zero, List.set_cons_succ, i64_w, i32_w]
             rfl
            refine pure_ (i := 3) (N := some 61) (v := ?_) (a' := ?_) #[false, true, false, true, false, false, false, false, false, false, false, false, false, false, false, false, false, false] rfl rfl (any_of HT_.out (by kernel_rfl)) (fun _ _ _ h => h) (Or.inl ⟨by rfl, ?_⟩) ?_ ?_
            rotate_left
            ·intro w'
             go_simp
             with_reducible rfl
            rotate_left
            ·simp only [Act.put, List.setIfInBounds_toArray, List.set_cons_zero, List.set_cons_succ, i64_w, i32_w]
             rfl
            refine pure_ (i := 5) (N := some 63) (v := ?_) (a' := ?_) #[false, true, false, true, false, true, false, false, false, false, false, false, false, false, false, false, false, false] rfl rfl (any_of HT_.out (by kernel_rfl)) (fun _ _ _ h => h) (Or.inl ⟨by rfl, ?_⟩) ?_ ?_
            rotate_left
            ·intro w'
             go_simp
             with_reducible rfl
            rotate_left
            ·simp only [Act.put, List.setIfInBounds_toArray, List.set_cons_zero, List.set_cons_succ, i64_w, i32_w]
             rfl
            refine pure_ (i := 9) (N := some 67) (v := ?_) (a' := ?_) #[false, true, false, true, false, true, false, false, false, true, false, false, false, false, false, false, false, false] rfl rfl (any_of HT_.out (by kernel_rfl)) (fun _ _ _ h => h) (Or.inl ⟨by rfl, ?_⟩) ?_ ?_
            rotate_left
            ·intro w'
             go_simp
             with_reducible rfl
            rotate_left
            ·simp only [Act.put, List.setIfInBounds_toArray, List.set_cons_zero, List.set_cons_succ, i64_w, i32_w]
             rfl
            refine pure_ (i := 11) (N := some 69) (v := ?_) (a' := ?_) #[false, true, false, true, false, true, false, false, false, true, false, true, false, false, false, false, false, false] rfl rfl (any_of HT_.out (by kernel_rfl)) (fun _ _ _ h => h) (Or.inl ⟨by rfl, ?_⟩) ?_ ?_
            rotate_left
            ·intro w'
             go_simp
             with_reducible rfl
            rotate_left
            ·simp only [Act.put, List.setIfInBounds_toArray, List.set_cons_zero, List.set_cons_succ, i64_w, i32_w]
             rfl
            refine pure_ (i := 13) (N := some 71) (v := ?_) (a' := ?_) #[false, true, false, true, false, true, false, false, false, true, false, true, false, true, false, false, false, false] rfl rfl (any_of HT_.out (by kernel_rfl)) (fun _ _ _ h => h) (Or.inl ⟨by rfl, ?_⟩) ?_ ?_
            rotate_left
            ·intro w'
             go_simp
             with_reducible rfl
            rotate_left
            ·simp only [Act.put, List.setIfInBounds_toArray, List.set_cons_zero, List.set_cons_succ, i64_w, i32_w]
             rfl
            refine take_ (i := 0) (N := some 58) (v := ?_) (a' := ?_) #[true, true, false, true, false, true, false, false, false, true, false, true, false, true, false, false, false, false] rfl rfl (take_ofW HT_.out HW_.out (by kernel_rfl)) (fun _ _ _ h => h) (Or.inl ⟨by rfl, ?_⟩) hHeld ?_ ?_
            rotate_left
            ·rintro w' ⟨s0, s1, s2, s3, s4, s5, s6, s7, s8, s9, s10, s11, s12⟩
             go_simp
             with_reducible rfl
            rotate_left
            ·simp only [Act.put, List.setIfInBounds_toArray, List.set_cons_zero, List.set_cons_succ, i64_w, i32_w]
             rfl
            refine take_ (i := 2) (N := some 60) (v := ?_) (a' := ?_) #[true, true, true, true, false, true, false, false, false, true, false, true, false, true, false, false, false, false] rfl rfl (take_ofW HT_.out HW_.out (by kernel_rfl)) (fun _ _ _ h => h) (Or.inl ⟨by rfl, ?_⟩) hHeld ?_ ?_
            rotate_left
            ·rintro w' ⟨s0, s1, s2, s3, s4, s5, s6, s7, s8, s9, s10, s11, s12⟩
             go_simp
             with_reducible rfl
            rotate_left
            ·simp only [Act.put, List.setIfInBounds_toArray, List.set_cons_zero, List.set_cons_succ, i64_w, i32_w]
             rfl
            refine take_ (i := 4) (N := some 62) (v := ?_) (a' := ?_) #[true, true, true, true, true, true, false, false, false, true, false, true, false, true, false, false, false, false] rfl rfl (take_ofW HT_.out HW_.out (by kernel_rfl)) (fun _ _ _ h => h) (Or.inl ⟨by rfl, ?_⟩) hHeld ?_ ?_
            rotate_left
            ·rintro w' ⟨s0, s1, s2, s3, s4, s5, s6, s7, s8, s9, s10, s11, s12⟩
             go_simp
             with_reducible rfl
            rotate_left
            ·simp only [Act.put, List.setIfInBounds_toArray, List.set_cons_zero, List.set_cons_succ, i64_w, i32_w]
             rfl
            refine take_ (i := 6) (N := some 64) (v := ?_) (a' := ?_) #[true, true, true, true, true, true, true, false, false, true, false, true, false, true, false, false, false, false] rfl rfl (take_ofW HT_.out HW_.out (by kernel_rfl)) (fun _ _ _ h => h) (Or.inl ⟨by rfl, ?_⟩) hHeld ?_ ?_
            rotate_left
            ·rintro w' ⟨s0, s1, s2, s3, s4, s5, s6, s7, s8, s9, s10, s11, s12⟩
             go_simp
             with_reducible rfl
            rotate_left
            ·simp only [Act.put, List.setIfInBounds_toArray, List.set_cons_zero, List.set_cons_succ, i64_w, i32_w]
             rfl
            refine take_ (i := 8) (N := some 66) (v := ?_) (a' := ?_) #[true, true, true, true, true, true, true, false, true, true, false, true, false, true, false, false, false, false] rfl rfl (take_ofW HT_.out HW_.out (by kernel_rfl)) (fun _ _ _ h => h) (Or.inl ⟨by rfl, ?_⟩) hHeld ?_ ?_
            rotate_left
            ·rintro w' ⟨s0, s1, s2, s3, s4, s5, s6, s7, s8, s9, s10, s11, s12⟩
             go_simp
             with_reducible rfl
            rotate_left
            ·simp only [Act.put, List.setIfInBounds_toArray, List.set_cons_zero, List.set_cons_succ, i64_w, i32_w]
             rfl
            refine take_ (i := 10) (N := some 68) (v := ?_) (a' := ?_) #[true, true, true, true, true, true, true, false, true, true, true, true, false, true, false, false, false, false] rfl rfl (take_ofW HT_.out HW_.out (by kernel_rfl)) (fun _ _ _ h => h) (Or.inl ⟨by rfl, ?_⟩) hHeld ?_ ?_
            rotate_left
            ·rintro w' ⟨s0, s1, s2, s3, s4, s5, s6, s7, s8, s9, s10, s11, s12⟩
             go_simp
             with_reducible rfl
            rotate_left
            ·simp only [Act.put, List.setIfInBounds_toArray, List.set_cons_zero, List.set_cons_succ, i64_w, i32_w]
             rfl
            refine take_ (i := 12) (N := some 70) (v := ?_) (a' := ?_) #[true, true, true, true, true, true, true, false, true, true, true, true, true, true, false, false, false, false] rfl rfl (take_ofW HT_.out HW_.out (by kernel_rfl)) (fun _ _ _ h => h) (Or.inl ⟨by rfl, ?_⟩) hHeld ?_ ?_
            rotate_left
            ·rintro w' ⟨s0, s1, s2, s3, s4, s5, s6, s7, s8, s9, s10, s11, s12⟩
             go_simp
             with_reducible rfl
            rotate_left
            ·simp only [Act.put, List.setIfInBounds_toArray, List.set_cons_zero, List.set_cons_succ, i64_w, i32_w]
             rfl
            refine take_ (i := 14) (N := some 72) (v := ?_) (a' := ?_) #[true, true, true, true, true, true, true, false, true, true, true, true, true, true, true, false, false, false] rfl rfl (take_ofW HT_.out HW_.out (by kernel_rfl)) (fun _ _ _ h => h) (Or.inl ⟨by rfl, ?_⟩) hHeld ?_ ?_
            rotate_left
            ·rintro w' ⟨s0, s1, s2, s3, s4, s5, s6, s7, s8, s9, s10, s11, s12⟩
             go_simp
             with_reducible rfl
            rotate_left
            ·simp only [Act.put, List.setIfInBounds_toArray, List.set_cons_zero, List.set_cons_succ, i64_w, i32_w]
             rfl
            refine one_ (i := 7) (N := some 65) #[true, true, true, true, true, true, true, true, true, true, true, true, true, true, true, false, false, false] rfl rfl (one_of HT_.out (by kernel_rfl)) (by decide) (fun K hK => ?_)
            refine goes_ Tryd.func21 (by kernel_rfl) rfl #[.agg #[.int .u64 x166000_2, .int .u64 x166001_2, .int .u64 x166002_2, .int .i64 x166003_2], .int .u64 ((rd_T33 l1 x43_2).f3), .int .u64 ((rd_T33 l1 x43_2).f4), .int .i64 ((rd_T33 l1 x43_2).f0)] (by rfl) rfl rfl y4_ ?_
            with_reducible refine (limit_Turn.calls x166000_2 x166001_2 x166002_2 x166003_2 ((rd_T33 l1 x43_2).f3) ((rd_T33 l1 x43_2).f4) ((rd_T33 l1 x43_2).f0) t187 t188 t189 t190 _ A53.out).mono ?_
            rintro e w56 ⟨rfl, hb⟩
            refine ⟨_, rfl, ?_⟩
            have n0_ := Aside0.mk (blk_below (g := gb165) (o := .cells #[.int .u64 x166000_2, .int .u64 x166001_2, .int .u64 x166002_2, .int .i64 x166003_2] 30 (0, 0)) y7_ hb)
            have n1_ := Aside0.mk (blk_below (g := gb176) (o := .cells #[.int .u64 x177000_2, .int .u64 x177001_2, .int .u64 x177002_2, .int .i64 x177003_2] 30 (0, 0)) y13_ hb)
            have n2_ := Aside0.mk (blk_below (g := gb178) (o := .cells #[.int .i64 ((rd_T33 l1 x43_2).f0), .int .u64 ((rd_T33 l1 x43_2).f1), .bool ((rd_T33 l1 x43_2).f2), .int .u64 ((rd_T33 l1 x43_2).f3), .int .u64 ((rd_T33 l1 x43_2).f4)] 33 (0, 0)) y24_ hb)
            have n3_ := Aside0.mk (below_step y5_ hb)
            clear BK165
            clear BK176
            clear BK178
            clear HB
            have BK165 := n0_
            have BK176 := n1_
            have BK178 := n2_
            have HB := n3_
            clear n0_ n1_ n2_ n3_
            (try clear hb)
            (try clear hb2)
            (try clear hk)
            (try clear hi)
            refine hK.out _ _ ⟨(blk_cell BK165.out 0).trans y9_, (blk_cell BK165.out 1).trans y9_, (blk_cell BK165.out 2).trans y9_, (blk_cell BK165.out 3).trans y9_, (blk_cell BK178.out 0).trans y9_, (blk_cell BK178.out 1).trans y9_, (blk_cell BK178.out 2).trans y9_, (blk_cell BK178.out 3).trans y9_, (blk_cell BK178.out 4).trans y9_, (blk_cell BK176.out 0).trans y9_, (blk_cell BK176.out 1).trans y9_, (blk_cell BK176.out 2).trans y9_, (blk_cell BK176.out 3).trans y9_⟩ (fun hHeld => ?_)
            clear hK K
            refine norm_ (a' := ?_) ?_ ?_
            rotate_left
            ·show Act.put _ (some 65) _ = _
             simp only [Act.put, List.setIfInBounds_toArray, List.set_cons_zero, List.set_cons_succ, i64_w, i32_w]
             rfl
            refine one_ (i := 15) (N := some 73) #[true, true, true, true, true, true, true, true, true, true, true, true, true, true, true, true, false, false] rfl rfl (one_of HT_.out (by kernel_rfl)) (by decide) (fun K hK => ?_)
            refine goes_ Tryd.func22 (by kernel_rfl) rfl #[.agg #[.int .u64 x177000_2, .int .u64 x177001_2, .int .u64 x177002_2, .int .i64 x177003_2], .int .u64 ((rd_T33 l1 x43_2).f3), .int .u64 ((rd_T33 l1 x43_2).f4), .int .i64 ((rd_T33 l1 x43_2).f0)] (by rfl) rfl rfl y4_ ?_
            with_reducible refine (manometerref19_Turn.calls x177000_2 x177001_2 x177002_2 x177003_2 ((rd_T33 l1 x43_2).f3) ((rd_T33 l1 x43_2).f4) ((rd_T33 l1 x43_2).f0) t191 t192 t193 t194 _ A54.out).mono ?_
            rintro e w57 ⟨rfl, hb⟩
            refine ⟨_, rfl, ?_⟩
            have n0_ := Aside0.mk (blk_below (g := gb165) (o := .cells #[.int .u64 x166000_2, .int .u64 x166001_2, .int .u64 x166002_2, .int .i64 x166003_2] 30 (0, 0)) y7_ hb)
            have n1_ := Aside0.mk (blk_below (g := gb176) (o := .cells #[.int .u64 x177000_2, .int .u64 x177001_2, .int .u64 x177002_2, .int .i64 x177003_2] 30 (0, 0)) y13_ hb)
            have n2_ := Aside0.mk (blk_below (g := gb178) (o := .cells #[.int .i64 ((rd_T33 l1 x43_2).f0), .int .u64 ((rd_T33 l1 x43_2).f1), .bool ((rd_T33 l1 x43_2).f2), .int .u64 ((rd_T33 l1 x43_2).f3), .int .u64 ((rd_T33 l1 x43_2).f4)] 33 (0, 0)) y24_ hb)
            have n3_ := Aside0.mk (below_step y5_ hb)
            clear BK165
            clear BK176
            clear BK178
            clear HB
            have BK165 := n0_
            have BK176 := n1_
            have BK178 := n2_
            have HB := n3_
            clear n0_ n1_ n2_ n3_
            (try clear hb)
            (try clear hb2)
            (try clear hk)
            (try clear hi)
            refine hK.out _ _ ⟨(blk_cell BK165.out 0).trans y9_, (blk_cell BK165.out 1).trans y9_, (blk_cell BK165.out 2).trans y9_, (blk_cell BK165.out 3).trans y9_, (blk_cell BK178.out 0).trans y9_, (blk_cell BK178.out 1).trans y9_, (blk_cell BK178.out 2).trans y9_, (blk_cell BK178.out 3).trans y9_, (blk_cell BK178.out 4).trans y9_, (blk_cell BK176.out 0).trans y9_, (blk_cell BK176.out 1).trans y9_, (blk_cell BK176.out 2).trans y9_, (blk_cell BK176.out 3).trans y9_⟩ (fun hHeld => ?_)
            clear hK K
            refine norm_ (a' := ?_) ?_ ?_
            rotate_left
            ·show Act.put _ (some 73) _ = _
             simp only [Act.put, List.setIfInBounds_toArray, List.set_cons_zero, List.set_cons_succ, i64_w, i32_w]
             rfl
            refine last_ (i := 16) (N := none) #[true, true, true, true, true, true, true, true, true, true, true, true, true, true, true, true, true, false] rfl rfl (one_of HT_.out (by kernel_rfl)) (by decide) (fun K hK => ?_)
            have hs58 : w57.cell? ⟨gb165, 0, none⟩ = some (.int .u64 x166000_2) := (blk_cell BK165.out 0).trans rfl
            have hfs58 := blk_frozen BK165.out 0
            have hns58_1 := NB176_165.out
            have hns58_2 := NB178_165.out
            have hms58_1 := NB165_176.out
            have hms58_2 := NB165_178.out
            have hs59 : w57.cell? ⟨gb165, 1, none⟩ = some (.int .u64 x166001_2) := (blk_cell BK165.out 1).trans rfl
            have hfs59 := blk_frozen BK165.out 1
            have hns59_1 := NB176_165.out
            have hns59_2 := NB178_165.out
            have hms59_1 := NB165_176.out
            have hms59_2 := NB165_178.out
            have hs60 : w57.cell? ⟨gb165, 2, none⟩ = some (.int .u64 x166002_2) := (blk_cell BK165.out 2).trans rfl
            have hfs60 := blk_frozen BK165.out 2
            have hns60_1 := NB176_165.out
            have hns60_2 := NB178_165.out
            have hms60_1 := NB165_176.out
            have hms60_2 := NB165_178.out
            have hs61 : w57.cell? ⟨gb165, 3, none⟩ = some (.int .i64 x166003_2) := (blk_cell BK165.out 3).trans rfl
            have hfs61 := blk_frozen BK165.out 3
            have hns61_1 := NB176_165.out
            have hns61_2 := NB178_165.out
            have hms61_1 := NB165_176.out
            have hms61_2 := NB165_178.out
            refine skip_ (w1 := ?_) (by rfl) rfl ?_ ?_
            rotate_left
            ·go_simp
             rfl
            refine hK.out _ _ ?_
            clear hK K
            refine last_ (i := 17) (N := none) #[true, true, true, true, true, true, true, true, true, true, true, true, true, true, true, true, true, true] rfl rfl (one_of HT_.out (by kernel_rfl)) (by decide) (fun K hK => ?_)
            have hs62 : w57.cell? ⟨gb176, 0, none⟩ = some (.int .u64 x177000_2) := (blk_cell BK176.out 0).trans rfl
            have hfs62 := blk_frozen BK176.out 0
            have hns62_0 := NB165_176.out
            have hns62_2 := NB178_176.out
            have hms62_0 := NB176_165.out
            have hms62_2 := NB176_178.out
            have hs63 : w57.cell? ⟨gb176, 1, none⟩ = some (.int .u64 x177001_2) := (blk_cell BK176.out 1).trans rfl
            have hfs63 := blk_frozen BK176.out 1
            have hns63_0 := NB165_176.out
            have hns63_2 := NB178_176.out
            have hms63_0 := NB176_165.out
            have hms63_2 := NB176_178.out
            have hs64 : w57.cell? ⟨gb176, 2, none⟩ = some (.int .u64 x177002_2) := (blk_cell BK176.out 2).trans rfl
            have hfs64 := blk_frozen BK176.out 2
            have hns64_0 := NB165_176.out
            have hns64_2 := NB178_176.out
            have hms64_0 := NB176_165.out
            have hms64_2 := NB176_178.out
            have hs65 : w57.cell? ⟨gb176, 3, none⟩ = some (.int .i64 x177003_2) := (blk_cell BK176.out 3).trans rfl
            have hfs65 := blk_frozen BK176.out 3
            have hns65_0 := NB165_176.out
            have hns65_2 := NB178_176.out
            have hms65_0 := NB176_165.out
            have hms65_2 := NB176_178.out
            refine skip_ (w1 := ?_) (by rfl) rfl ?_ ?_
            rotate_left
            ·go_simp
             rfl
            refine hK.out _ _ ?_
            clear hK K
            refine done_ (done_of HT_.out (by kernel_rfl)) ?_
            try go_wp2
            go_meet
            case rel => exact ⟨_, (t187), (t188), (t189), (t190), (t191), (t192), (t193), (t194), H', ⟨by have := HJ2.out; have := HK2.out; first | omega | exact Nat.le_refl _⟩, ⟨by (with_reducible repeat (first | refine blk_drewN ?_ _ | refine blk_drew ?_ | refine blk_alloc ?_ _)); refine blk_far ?_ NB165_176.out _; (with_reducible repeat (first | refine blk_drewN ?_ _ | refine blk_drew ?_ | refine blk_alloc ?_ _)); refine blk_far ?_ NB165_176.out _; (with_reducible repeat (first | refine blk_drewN ?_ _ | refine blk_drew ?_ | refine blk_alloc ?_ _)); refine blk_far ?_ NB165_176.out _; (with_reducible repeat (first | refine blk_drewN ?_ _ | refine blk_drew ?_ | refine blk_alloc ?_ _)); refine blk_far ?_ NB165_176.out _; (with_reducible repeat (first | refine blk_drewN ?_ _ | refine blk_drew ?_ | refine blk_alloc ?_ _)); refine blk_put (cs := #[.int .u64 t187, .int .u64 t188, .int .u64 t189, .int .i64 x166003_2]) ?_ 3 _ rfl; (with_reducible repeat (first | refine blk_drewN ?_ _ | refine blk_drew ?_ | refine blk_alloc ?_ _)); refine blk_put (cs := #[.int .u64 t187, .int .u64 t188, .int .u64 x166002_2, .int .i64 x166003_2]) ?_ 2 _ rfl; (with_reducible repeat (first | refine blk_drewN ?_ _ | refine blk_drew ?_ | refine blk_alloc ?_ _)); refine blk_put (cs := #[.int .u64 t187, .int .u64 x166001_2, .int .u64 x166002_2, .int .i64 x166003_2]) ?_ 1 _ rfl; (with_reducible repeat (first | refine blk_drewN ?_ _ | refine blk_drew ?_ | refine blk_alloc ?_ _)); refine blk_put (cs := #[.int .u64 x166000_2, .int .u64 x166001_2, .int .u64 x166002_2, .int .i64 x166003_2]) ?_ 0 _ rfl; (with_reducible repeat (first | refine blk_drewN ?_ _ | refine blk_drew ?_ | refine blk_alloc ?_ _)); exact BK165.out⟩, ⟨by (with_reducible repeat (first | refine blk_drewN ?_ _ | refine blk_drew ?_ | refine blk_alloc ?_ _)); refine blk_put (cs := #[.int .u64 t191, .int .u64 t192, .int .u64 t193, .int .i64 x177003_2]) ?_ 3 _ rfl; (with_reducible repeat (first | refine blk_drewN ?_ _ | refine blk_drew ?_ | refine blk_alloc ?_ _)); refine blk_put (cs := #[.int .u64 t191, .int .u64 t192, .int .u64 x177002_2, .int .i64 x177003_2]) ?_ 2 _ rfl; (with_reducible repeat (first | refine blk_drewN ?_ _ | refine blk_drew ?_ | refine blk_alloc ?_ _)); refine blk_put (cs := #[.int .u64 t191, .int .u64 x177001_2, .int .u64 x177002_2, .int .i64 x177003_2]) ?_ 1 _ rfl; (with_reducible repeat (first | refine blk_drewN ?_ _ | refine blk_drew ?_ | refine blk_alloc ?_ _)); refine blk_put (cs := #[.int .u64 x177000_2, .int .u64 x177001_2, .int .u64 x177002_2, .int .i64 x177003_2]) ?_ 0 _ rfl; (with_reducible repeat (first | refine blk_drewN ?_ _ | refine blk_drew ?_ | refine blk_alloc ?_ _)); refine blk_far ?_ NB176_165.out _; (with_reducible repeat (first | refine blk_drewN ?_ _ | refine blk_drew ?_ | refine blk_alloc ?_ _)); refine blk_far ?_ NB176_165.out _; (with_reducible repeat (first | refine blk_drewN ?_ _ | refine blk_drew ?_ | refine blk_alloc ?_ _)); refine blk_far ?_ NB176_165.out _; (with_reducible repeat (first | refine blk_drewN ?_ _ | refine blk_drew ?_ | refine blk_alloc ?_ _)); refine blk_far ?_ NB176_165.out _; (with_reducible repeat (first | refine blk_drewN ?_ _ | refine blk_drew ?_ | refine blk_alloc ?_ _)); exact BK176.out⟩, ⟨by (with_reducible repeat (first | refine blk_drewN ?_ _ | refine blk_drew ?_ | refine blk_alloc ?_ _)); refine blk_far ?_ NB178_176.out _; (with_reducible repeat (first | refine blk_drewN ?_ _ | refine blk_drew ?_ | refine blk_alloc ?_ _)); refine blk_far ?_ NB178_176.out _; (with_reducible repeat (first | refine blk_drewN ?_ _ | refine blk_drew ?_ | refine blk_alloc ?_ _)); refine blk_far ?_ NB178_176.out _; (with_reducible repeat (first | refine blk_drewN ?_ _ | refine blk_drew ?_ | refine blk_alloc ?_ _)); refine blk_far ?_ NB178_176.out _; (with_reducible repeat (first | refine blk_drewN ?_ _ | refine blk_drew ?_ | refine blk_alloc ?_ _)); refine blk_far ?_ NB178_165.out _; (with_reducible repeat (first | refine blk_drewN ?_ _ | refine blk_drew ?_ | refine blk_alloc ?_ _)); refine blk_far ?_ NB178_165.out _; (with_reducible repeat (first | refine blk_drewN ?_ _ | refine blk_drew ?_ | refine blk_alloc ?_ _)); refine blk_far ?_ NB178_165.out _; (with_reducible repeat (first | refine blk_drewN ?_ _ | refine blk_drew ?_ | refine blk_alloc ?_ _)); refine blk_far ?_ NB178_165.out _; (with_reducible repeat (first | refine blk_drewN ?_ _ | refine blk_drew ?_ | refine blk_alloc ?_ _)); exact BK178.out⟩, ⟨y5_⟩⟩
           ·replace c52 := Bool.eq_false_iff.mpr c52
            subst c52
            have H1 : ((limit_Take.f x166000_2 x166001_2 x166002_2 x166003_2 ((rd_T33 l1 x43_2).f0) ((rd_T33 l1 x43_2).f1)).bind fun bt195 => ((manometerref19_Take.f x177000_2 x177001_2 x177002_2 x177003_2 ((rd_T33 l1 x43_2).f0) ((rd_T33 l1 x43_2).f1)).bind fun bt200 => (if (bt195.2.2.2.2 != bt200.2.2.2.2) = true then (some false) else (manometerlaw19_LimitBuckets.j2 k2 l1 (l1.length : Int) x43_2 bt195.1 bt195.2.1 bt195.2.2.1 bt195.2.2.2.1 bt200.1 bt200.2.1 bt200.2.2.1 bt200.2.2.2.1)))) = some r := by rw [if_neg (show ¬ (false = true) by decide)] at H; exact H
            clear H
            have H := H1
            clear H1
            replace H := Option.bind_eq_some_iff.mp H
            obtain ⟨⟨t195, t196, t197, t198, t199⟩, A660, H⟩ := H
            replace H : ((manometerref19_Take.f x177000_2 x177001_2 x177002_2 x177003_2 ((rd_T33 l1 x43_2).f0) ((rd_T33 l1 x43_2).f1)).bind fun bt200 => (if (t199 != bt200.2.2.2.2) = true then (some false) else (manometerlaw19_LimitBuckets.j2 k2 l1 (l1.length : Int) x43_2 t195 t196 t197 t198 bt200.1 bt200.2.1 bt200.2.2.1 bt200.2.2.2.1))) = some r := H
            have A66 := Aside0.mk A660
            clear A660
            replace H := Option.bind_eq_some_iff.mp H
            obtain ⟨⟨t200, t201, t202, t203, t204⟩, A670, H⟩ := H
            replace H : (if (t199 != t204) = true then (some false) else (manometerlaw19_LimitBuckets.j2 k2 l1 (l1.length : Int) x43_2 t195 t196 t197 t198 t200 t201 t202 t203)) = some r := H
            have A67 := Aside0.mk A670
            clear A670
            by_cases c68 : (t199 != t204) = true
            ·rw [if_pos c68] at H
             have c68b0 : (t199 != t204) = true := c68
             (try (have c68b1 : decide (t199 = t204) = false := by simpa using c68))
             (try (have c68b2 : (t199 == t204) = false := by simpa using c68))
             (try (have c68b3 : ¬ (t199 = t204) := by simpa using c68))
             clear c68
             obtain rfl := Option.some.inj H
             have hnb69 := NB165_176.out
             have hnc69 := NB176_165.out
             have hnb70 := NB165_178.out
             have hnc70 := NB178_165.out
             have hcz71_0 : w49.cell? ⟨gb165, 0, none⟩ = some (.int .u64 x166000_2) := (blk_cell BK165.out 0).trans rfl
             have hcz71_1 : w49.cell? ⟨gb165, 1, none⟩ = some (.int .u64 x166001_2) := (blk_cell BK165.out 1).trans rfl
             have hcz71_2 : w49.cell? ⟨gb165, 2, none⟩ = some (.int .u64 x166002_2) := (blk_cell BK165.out 2).trans rfl
             have hcz71_3 : w49.cell? ⟨gb165, 3, none⟩ = some (.int .i64 x166003_2) := (blk_cell BK165.out 3).trans rfl
             have hfz71_0 := blk_frozen BK165.out 0
             have hfz71_1 := blk_frozen BK165.out 1
             have hfz71_2 := blk_frozen BK165.out 2
             have hfz71_3 := blk_frozen BK165.out 3
             have hnb72 := NB178_176.out
             have hnc72 := NB176_178.out
             have hcz73_0 : w49.cell? ⟨gb178, 0, none⟩ = some (.int .i64 ((rd_T33 l1 x43_2).f0)) := (blk_cell BK178.out 0).trans rfl
             have hcz73_1 : w49.cell? ⟨gb178, 1, none⟩ = some (.int .u64 ((rd_T33 l1 x43_2).f1)) := (blk_cell BK178.out 1).trans rfl
             have hcz73_2 : w49.cell? ⟨gb178, 2, none⟩ = some (.bool false) := (blk_cell BK178.out 2).trans y9_
             have hcz73_3 : w49.cell? ⟨gb178, 3, none⟩ = some (.int .u64 ((rd_T33 l1 x43_2).f3)) := (blk_cell BK178.out 3).trans rfl
             have hcz73_4 : w49.cell? ⟨gb178, 4, none⟩ = some (.int .u64 ((rd_T33 l1 x43_2).f4)) := (blk_cell BK178.out 4).trans rfl
             have hfz73_0 := blk_frozen BK178.out 0
             have hfz73_1 := blk_frozen BK178.out 1
             have hfz73_2 := blk_frozen BK178.out 2
             have hfz73_3 := blk_frozen BK178.out 3
             have hfz73_4 := blk_frozen BK178.out 4
             go_wp2_with (first | ((with_reducible refine gate_callee (f := 23) rfl ?_); refine goesL_ (some 80) rfl rfl Tryd.func23 (by kernel_rfl) rfl #[.agg #[.int .u64 x166000_2, .int .u64 x166001_2, .int .u64 x166002_2, .int .i64 x166003_2], .int .i64 ((rd_T33 l1 x43_2).f0), .int .u64 ((rd_T33 l1 x43_2).f1)] rfl y4_ ?_; (with_reducible refine (limit_Take.calls x166000_2 x166001_2 x166002_2 x166003_2 ((rd_T33 l1 x43_2).f0) ((rd_T33 l1 x43_2).f1) t195 t196 t197 t198 t199 _ A66.out).mono ?_); rintro e w74 ⟨rfl, hb⟩; refine ⟨_, rfl, ?_⟩; have n0_ := Aside0.mk (blk_below (g := gb165) (o := .cells #[.int .u64 x166000_2, .int .u64 x166001_2, .int .u64 x166002_2, .int .i64 x166003_2] 30 (0, 0)) y7_ hb); have n1_ := Aside0.mk (blk_below (g := gb176) (o := .cells #[.int .u64 x177000_2, .int .u64 x177001_2, .int .u64 x177002_2, .int .i64 x177003_2] 30 (0, 0)) y13_ hb); have n2_ := Aside0.mk (blk_below (g := gb178) (o := .cells #[.int .i64 ((rd_T33 l1 x43_2).f0), .int .u64 ((rd_T33 l1 x43_2).f1), .bool ((rd_T33 l1 x43_2).f2), .int .u64 ((rd_T33 l1 x43_2).f3), .int .u64 ((rd_T33 l1 x43_2).f4)] 33 (0, 0)) y24_ hb); have n3_ := Aside0.mk (below_step y5_ hb); clear BK165; clear BK176; clear BK178; clear HB; have BK165 := n0_; have BK176 := n1_; have BK178 := n2_; have HB := n3_; clear n0_ n1_ n2_ n3_; (try clear hb); (try clear hb2); (try clear hk); (try clear hi); have hcz75_0 : w74.cell? ⟨gb165, 0, none⟩ = some (.int .u64 x166000_2) := (blk_cell BK165.out 0).trans y9_; have hcz75_1 : w74.cell? ⟨gb165, 1, none⟩ = some (.int .u64 x166001_2) := (blk_cell BK165.out 1).trans y9_; have hcz75_2 : w74.cell? ⟨gb165, 2, none⟩ = some (.int .u64 x166002_2) := (blk_cell BK165.out 2).trans y9_; have hcz75_3 : w74.cell? ⟨gb165, 3, none⟩ = some (.int .i64 x166003_2) := (blk_cell BK165.out 3).trans y9_; have hfz75_0 := blk_frozen BK165.out 0; have hfz75_1 := blk_frozen BK165.out 1; have hfz75_2 := blk_frozen BK165.out 2; have hfz75_3 := blk_frozen BK165.out 3; have hcz76_0 : w74.cell? ⟨gb176, 0, none⟩ = some (.int .u64 x177000_2) := (blk_cell BK176.out 0).trans y9_; have hcz76_1 : w74.cell? ⟨gb176, 1, none⟩ = some (.int .u64 x177001_2) := (blk_cell BK176.out 1).trans y9_; have hcz76_2 : w74.cell? ⟨gb176, 2, none⟩ = some (.int .u64 x177002_2) := (blk_cell BK176.out 2).trans y9_; have hcz76_3 : w74.cell? ⟨gb176, 3, none⟩ = some (.int .i64 x177003_2) := (blk_cell BK176.out 3).trans y9_; have hfz76_0 := blk_frozen BK176.out 0; have hfz76_1 := blk_frozen BK176.out 1; have hfz76_2 := blk_frozen BK176.out 2; have hfz76_3 := blk_frozen BK176.out 3; have hcz77_0 : w74.cell? ⟨gb178, 0, none⟩ = some (.int .i64 ((rd_T33 l1 x43_2).f0)) := (blk_cell BK178.out 0).trans y9_; have hcz77_1 : w74.cell? ⟨gb178, 1, none⟩ = some (.int .u64 ((rd_T33 l1 x43_2).f1)) := (blk_cell BK178.out 1).trans y9_; have hcz77_2 : w74.cell? ⟨gb178, 2, none⟩ = some (.bool false) := (blk_cell BK178.out 2).trans y9_; have hcz77_3 : w74.cell? ⟨gb178, 3, none⟩ = some (.int .u64 ((rd_T33 l1 x43_2).f3)) := (blk_cell BK178.out 3).trans y9_; have hcz77_4 : w74.cell? ⟨gb178, 4, none⟩ = some (.int .u64 ((rd_T33 l1 x43_2).f4)) := (blk_cell BK178.out 4).trans y9_; have hfz77_0 := blk_frozen BK178.out 0; have hfz77_1 := blk_frozen BK178.out 1; have hfz77_2 := blk_frozen BK178.out 2; have hfz77_3 := blk_frozen BK178.out 3; have hfz77_4 := blk_frozen BK178.out 4) | ((with_reducible refine gate_callee (f := 24) rfl ?_); refine goesL_ (some 89) rfl rfl Tryd.func24 (by kernel_rfl) rfl #[.agg #[.int .u64 x177000_2, .int .u64 x177001_2, .int .u64 x177002_2, .int .i64 x177003_2], .int .i64 ((rd_T33 l1 x43_2).f0), .int .u64 ((rd_T33 l1 x43_2).f1)] rfl y4_ ?_; (with_reducible refine (manometerref19_Take.calls x177000_2 x177001_2 x177002_2 x177003_2 ((rd_T33 l1 x43_2).f0) ((rd_T33 l1 x43_2).f1) t200 t201 t202 t203 t204 _ A67.out).mono ?_); rintro e w78 ⟨rfl, hb⟩; refine ⟨_, rfl, ?_⟩; have n0_ := Aside0.mk (blk_below (g := gb165) (o := .cells #[.int .u64 t195, .int .u64 t196, .int .u64 t197, .int .i64 t198] 30 (0, 0)) y19_ hb); have n1_ := Aside0.mk (blk_below (g := gb176) (o := .cells #[.int .u64 x177000_2, .int .u64 x177001_2, .int .u64 x177002_2, .int .i64 x177003_2] 30 (0, 0)) y29_ hb); have n2_ := Aside0.mk (blk_below (g := gb178) (o := .cells #[.int .i64 ((rd_T33 l1 x43_2).f0), .int .u64 ((rd_T33 l1 x43_2).f1), .bool ((rd_T33 l1 x43_2).f2), .int .u64 ((rd_T33 l1 x43_2).f3), .int .u64 ((rd_T33 l1 x43_2).f4)] 33 (0, 0)) y28_ hb); have n3_ := Aside0.mk (below_step y5_ hb); clear BK165; clear BK176; clear BK178; clear HB; have BK165 := n0_; have BK176 := n1_; have BK178 := n2_; have HB := n3_; clear n0_ n1_ n2_ n3_; (try clear hb); (try clear hb2); (try clear hk); (try clear hi); have hcz79_0 : w78.cell? ⟨gb176, 0, none⟩ = some (.int .u64 x177000_2) := (blk_cell BK176.out 0).trans y9_; have hcz79_1 : w78.cell? ⟨gb176, 1, none⟩ = some (.int .u64 x177001_2) := (blk_cell BK176.out 1).trans y9_; have hcz79_2 : w78.cell? ⟨gb176, 2, none⟩ = some (.int .u64 x177002_2) := (blk_cell BK176.out 2).trans y9_; have hcz79_3 : w78.cell? ⟨gb176, 3, none⟩ = some (.int .i64 x177003_2) := (blk_cell BK176.out 3).trans y9_; have hfz79_0 := blk_frozen BK176.out 0; have hfz79_1 := blk_frozen BK176.out 1; have hfz79_2 := blk_frozen BK176.out 2; have hfz79_3 := blk_frozen BK176.out 3))
             go_ret
             exact ⟨y10_, y5_⟩
            ·rw [if_neg c68] at H
             have c68b0 : (t199 != t204) = false := by simpa using c68
             (try (have c68b1 : decide (t199 = t204) = true := by simpa using c68))
             (try (have c68b2 : (t199 == t204) = true := by simpa using c68))
             clear c68
             have H' := Aside0.mk H
             clear H
             have hnb80 := NB165_176.out
             have hnc80 := NB176_165.out
             have hnb81 := NB165_178.out
             have hnc81 := NB178_165.out
             have hcz82_0 : w49.cell? ⟨gb165, 0, none⟩ = some (.int .u64 x166000_2) := (blk_cell BK165.out 0).trans rfl
             have hcz82_1 : w49.cell? ⟨gb165, 1, none⟩ = some (.int .u64 x166001_2) := (blk_cell BK165.out 1).trans rfl
             have hcz82_2 : w49.cell? ⟨gb165, 2, none⟩ = some (.int .u64 x166002_2) := (blk_cell BK165.out 2).trans rfl
             have hcz82_3 : w49.cell? ⟨gb165, 3, none⟩ = some (.int .i64 x166003_2) := (blk_cell BK165.out 3).trans rfl
             have hfz82_0 := blk_frozen BK165.out 0
             have hfz82_1 := blk_frozen BK165.out 1
             have hfz82_2 := blk_frozen BK165.out 2
             have hfz82_3 := blk_frozen BK165.out 3
             have hnb83 := NB178_176.out
             have hnc83 := NB176_178.out
             have hcz84_0 : w49.cell? ⟨gb178, 0, none⟩ = some (.int .i64 ((rd_T33 l1 x43_2).f0)) := (blk_cell BK178.out 0).trans rfl
             have hcz84_1 : w49.cell? ⟨gb178, 1, none⟩ = some (.int .u64 ((rd_T33 l1 x43_2).f1)) := (blk_cell BK178.out 1).trans rfl
             have hcz84_2 : w49.cell? ⟨gb178, 2, none⟩ = some (.bool false) := (blk_cell BK178.out 2).trans y9_
             have hcz84_3 : w49.cell? ⟨gb178, 3, none⟩ = some (.int .u64 ((rd_T33 l1 x43_2).f3)) := (blk_cell BK178.out 3).trans rfl
             have hcz84_4 : w49.cell? ⟨gb178, 4, none⟩ = some (.int .u64 ((rd_T33 l1 x43_2).f4)) := (blk_cell BK178.out 4).trans rfl
             have hfz84_0 := blk_frozen BK178.out 0
             have hfz84_1 := blk_frozen BK178.out 1
             have hfz84_2 := blk_frozen BK178.out 2
             have hfz84_3 := blk_frozen BK178.out 3
             have hfz84_4 := blk_frozen BK178.out 4
             go_wp2_with (first | ((with_reducible refine gate_callee (f := 23) rfl ?_); refine goesL_ (some 80) rfl rfl Tryd.func23 (by kernel_rfl) rfl #[.agg #[.int .u64 x166000_2, .int .u64 x166001_2, .int .u64 x166002_2, .int .i64 x166003_2], .int .i64 ((rd_T33 l1 x43_2).f0), .int .u64 ((rd_T33 l1 x43_2).f1)] rfl y4_ ?_; (with_reducible refine (limit_Take.calls x166000_2 x166001_2 x166002_2 x166003_2 ((rd_T33 l1 x43_2).f0) ((rd_T33 l1 x43_2).f1) t195 t196 t197 t198 t199 _ A66.out).mono ?_); rintro e w85 ⟨rfl, hb⟩; refine ⟨_, rfl, ?_⟩; have n0_ := Aside0.mk (blk_below (g := gb165) (o := .cells #[.int .u64 x166000_2, .int .u64 x166001_2, .int .u64 x166002_2, .int .i64 x166003_2] 30 (0, 0)) y7_ hb); have n1_ := Aside0.mk (blk_below (g := gb176) (o := .cells #[.int .u64 x177000_2, .int .u64 x177001_2, .int .u64 x177002_2, .int .i64 x177003_2] 30 (0, 0)) y13_ hb); have n2_ := Aside0.mk (blk_below (g := gb178) (o := .cells #[.int .i64 ((rd_T33 l1 x43_2).f0), .int .u64 ((rd_T33 l1 x43_2).f1), .bool ((rd_T33 l1 x43_2).f2), .int .u64 ((rd_T33 l1 x43_2).f3), .int .u64 ((rd_T33 l1 x43_2).f4)] 33 (0, 0)) y24_ hb); have n3_ := Aside0.mk (below_step y5_ hb); clear BK165; clear BK176; clear BK178; clear HB; have BK165 := n0_; have BK176 := n1_; have BK178 := n2_; have HB := n3_; clear n0_ n1_ n2_ n3_; (try clear hb); (try clear hb2); (try clear hk); (try clear hi); have hcz86_0 : w85.cell? ⟨gb165, 0, none⟩ = some (.int .u64 x166000_2) := (blk_cell BK165.out 0).trans y9_; have hcz86_1 : w85.cell? ⟨gb165, 1, none⟩ = some (.int .u64 x166001_2) := (blk_cell BK165.out 1).trans y9_; have hcz86_2 : w85.cell? ⟨gb165, 2, none⟩ = some (.int .u64 x166002_2) := (blk_cell BK165.out 2).trans y9_; have hcz86_3 : w85.cell? ⟨gb165, 3, none⟩ = some (.int .i64 x166003_2) := (blk_cell BK165.out 3).trans y9_; have hfz86_0 := blk_frozen BK165.out 0; have hfz86_1 := blk_frozen BK165.out 1; have hfz86_2 := blk_frozen BK165.out 2; have hfz86_3 := blk_frozen BK165.out 3; have hcz87_0 : w85.cell? ⟨gb176, 0, none⟩ = some (.int .u64 x177000_2) := (blk_cell BK176.out 0).trans y9_; have hcz87_1 : w85.cell? ⟨gb176, 1, none⟩ = some (.int .u64 x177001_2) := (blk_cell BK176.out 1).trans y9_; have hcz87_2 : w85.cell? ⟨gb176, 2, none⟩ = some (.int .u64 x177002_2) := (blk_cell BK176.out 2).trans y9_; have hcz87_3 : w85.cell? ⟨gb176, 3, none⟩ = some (.int .i64 x177003_2) := (blk_cell BK176.out 3).trans y9_; have hfz87_0 := blk_frozen BK176.out 0; have hfz87_1 := blk_frozen BK176.out 1; have hfz87_2 := blk_frozen BK176.out 2; have hfz87_3 := blk_frozen BK176.out 3; have hcz88_0 : w85.cell? ⟨gb178, 0, none⟩ = some (.int .i64 ((rd_T33 l1 x43_2).f0)) := (blk_cell BK178.out 0).trans y9_; have hcz88_1 : w85.cell? ⟨gb178, 1, none⟩ = some (.int .u64 ((rd_T33 l1 x43_2).f1)) := (blk_cell BK178.out 1).trans y9_; have hcz88_2 : w85.cell? ⟨gb178, 2, none⟩ = some (.bool false) := (blk_cell BK178.out 2).trans y9_; have hcz88_3 : w85.cell? ⟨gb178, 3, none⟩ = some (.int .u64 ((rd_T33 l1 x43_2).f3)) := (blk_cell BK178.out 3).trans y9_; have hcz88_4 : w85.cell? ⟨gb178, 4, none⟩ = some (.int .u64 ((rd_T33 l1 x43_2).f4)) := (blk_cell BK178.out 4).trans y9_; have hfz88_0 := blk_frozen BK178.out 0; have hfz88_1 := blk_frozen BK178.out 1; have hfz88_2 := blk_frozen BK178.out 2; have hfz88_3 := blk_frozen BK178.out 3; have hfz88_4 := blk_frozen BK178.out 4) | ((with_reducible refine gate_callee (f := 24) rfl ?_); refine goesL_ (some 89) rfl rfl Tryd.func24 (by kernel_rfl) rfl #[.agg #[.int .u64 x177000_2, .int .u64 x177001_2, .int .u64 x177002_2, .int .i64 x177003_2], .int .i64 ((rd_T33 l1 x43_2).f0), .int .u64 ((rd_T33 l1 x43_2).f1)] rfl y4_ ?_; (with_reducible refine (manometerref19_Take.calls x177000_2 x177001_2 x177002_2 x177003_2 ((rd_T33 l1 x43_2).f0) ((rd_T33 l1 x43_2).f1) t200 t201 t202 t203 t204 _ A67.out).mono ?_); rintro e w89 ⟨rfl, hb⟩; refine ⟨_, rfl, ?_⟩; have n0_ := Aside0.mk (blk_below (g := gb165) (o := .cells #[.int .u64 t195, .int .u64 t196, .int .u64 t197, .int .i64 t198] 30 (0, 0)) y19_ hb); have n1_ := Aside0.mk (blk_below (g := gb176) (o := .cells #[.int .u64 x177000_2, .int .u64 x177001_2, .int .u64 x177002_2, .int .i64 x177003_2] 30 (0, 0)) y29_ hb); have n2_ := Aside0.mk (blk_below (g := gb178) (o := .cells #[.int .i64 ((rd_T33 l1 x43_2).f0), .int .u64 ((rd_T33 l1 x43_2).f1), .bool ((rd_T33 l1 x43_2).f2), .int .u64 ((rd_T33 l1 x43_2).f3), .int .u64 ((rd_T33 l1 x43_2).f4)] 33 (0, 0)) y28_ hb); have n3_ := Aside0.mk (below_step y5_ hb); clear BK165; clear BK176; clear BK178; clear HB; have BK165 := n0_; have BK176 := n1_; have BK178 := n2_; have HB := n3_; clear n0_ n1_ n2_ n3_; (try clear hb); (try clear hb2); (try clear hk); (try clear hi); have hcz90_0 : w89.cell? ⟨gb176, 0, none⟩ = some (.int .u64 x177000_2) := (blk_cell BK176.out 0).trans y9_; have hcz90_1 : w89.cell? ⟨gb176, 1, none⟩ = some (.int .u64 x177001_2) := (blk_cell BK176.out 1).trans y9_; have hcz90_2 : w89.cell? ⟨gb176, 2, none⟩ = some (.int .u64 x177002_2) := (blk_cell BK176.out 2).trans y9_; have hcz90_3 : w89.cell? ⟨gb176, 3, none⟩ = some (.int .i64 x177003_2) := (blk_cell BK176.out 3).trans y9_; have hfz90_0 := blk_frozen BK176.out 0; have hfz90_1 := blk_frozen BK176.out 1; have hfz90_2 := blk_frozen BK176.out 2; have hfz90_3 := blk_frozen BK176.out 3))
             go_meet
             case rel => exact ⟨_, (t195), (t196), (t197), (t198), (t200), (t201), (t202), (t203), H', ⟨by have := HJ2.out; have := HK2.out; first | omega | exact Nat.le_refl _⟩, ⟨y30_⟩, ⟨by (with_reducible repeat (first | refine blk_drewN ?_ _ | refine blk_drew ?_ | refine blk_alloc ?_ _)); refine blk_put (cs := #[.int .u64 t200, .int .u64 t201, .int .u64 t202, .int .i64 x177003_2]) ?_ 3 _ rfl; (with_reducible repeat (first | refine blk_drewN ?_ _ | refine blk_drew ?_ | refine blk_alloc ?_ _)); refine blk_put (cs := #[.int .u64 t200, .int .u64 t201, .int .u64 x177002_2, .int .i64 x177003_2]) ?_ 2 _ rfl; (with_reducible repeat (first | refine blk_drewN ?_ _ | refine blk_drew ?_ | refine blk_alloc ?_ _)); refine blk_put (cs := #[.int .u64 t200, .int .u64 x177001_2, .int .u64 x177002_2, .int .i64 x177003_2]) ?_ 1 _ rfl; (with_reducible repeat (first | refine blk_drewN ?_ _ | refine blk_drew ?_ | refine blk_alloc ?_ _)); refine blk_put (cs := #[.int .u64 x177000_2, .int .u64 x177001_2, .int .u64 x177002_2, .int .i64 x177003_2]) ?_ 0 _ rfl; (with_reducible repeat (first | refine blk_drewN ?_ _ | refine blk_drew ?_ | refine blk_alloc ?_ _)); exact BK176.out⟩, ⟨by (with_reducible repeat (first | refine blk_drewN ?_ _ | refine blk_drew ?_ | refine blk_alloc ?_ _)); refine blk_far ?_ NB178_176.out _; (with_reducible repeat (first | refine blk_drewN ?_ _ | refine blk_drew ?_ | refine blk_alloc ?_ _)); refine blk_far ?_ NB178_176.out _; (with_reducible repeat (first | refine blk_drewN ?_ _ | refine blk_drew ?_ | refine blk_alloc ?_ _)); refine blk_far ?_ NB178_176.out _; (with_reducible repeat (first | refine blk_drewN ?_ _ | refine blk_drew ?_ | refine blk_alloc ?_ _)); refine blk_far ?_ NB178_176.out _; (with_reducible repeat (first | refine blk_drewN ?_ _ | refine blk_drew ?_ | refine blk_alloc ?_ _)); exact BK178.out⟩, ⟨y5_⟩⟩
          case rest =>
           clear HC41
           try clear c1
           try clear p1
           try clear q1
           try clear hx1
           try clear c2
           try clear p2
           try clear c3
           try clear c4
           try clear c5
           try clear q5
           try clear c6
           try clear c7
           try clear c8
           try clear p17
           try clear q17
           try clear hx17
           try clear c18
           try clear c20
           try clear c21
           try clear c22
           try clear c23
           try clear c24
           try clear c32
           try clear c32b0
           try clear c43
           try clear c44
           try clear q51
           try clear c52
           try clear c68
           try clear c68b0
           try clear c68b1
           try clear c68b2
           try clear c69
           try clear c70
           try clear c72
           try clear c80
           try clear c81
           try clear c83
           try clear hcz45_0
           try clear hcz45_1
           try clear hcz45_2
           try clear hcz45_3
           try clear hcz45_4
           try clear hcz50_0
           try clear hcz50_1
           try clear hcz50_2
           try clear hcz50_3
           try clear hcz50_4
           try clear hcz71_0
           try clear hcz71_1
           try clear hcz71_2
           try clear hcz71_3
           try clear hcz73_0
           try clear hcz73_1
           try clear hcz73_2
           try clear hcz73_3
           try clear hcz73_4
           try clear hcz75_0
           try clear hcz75_1
           try clear hcz75_2
           try clear hcz75_3
           try clear hcz76_0
           try clear hcz76_1
           try clear hcz76_2
           try clear hcz76_3
           try clear hcz77_0
           try clear hcz77_1
           try clear hcz77_2
           try clear hcz77_3
           try clear hcz77_4
           try clear hcz79_0
           try clear hcz79_1
           try clear hcz79_2
           try clear hcz79_3
           try clear hcz82_0
           try clear hcz82_1
           try clear hcz82_2
           try clear hcz82_3
           try clear hcz84_0
           try clear hcz84_1
           try clear hcz84_2
           try clear hcz84_3
           try clear hcz84_4
           try clear hcz86_0
           try clear hcz86_1
           try clear hcz86_2
           try clear hcz86_3
           try clear hcz87_0
           try clear hcz87_1
           try clear hcz87_2
           try clear hcz87_3
           try clear hcz88_0
           try clear hcz88_1
           try clear hcz88_2
           try clear hcz88_3
           try clear hcz88_4
           try clear hcz90_0
           try clear hcz90_1
           try clear hcz90_2
           try clear hcz90_3
           try clear hfz45_0
           try clear hfz45_1
           try clear hfz45_2
           try clear hfz45_3
           try clear hfz45_4
           try clear hfz50_0
           try clear hfz50_1
           try clear hfz50_2
           try clear hfz50_3
           try clear hfz50_4
           try clear hfz71_0
           try clear hfz71_1
           try clear hfz71_2
           try clear hfz71_3
           try clear hfz73_0
           try clear hfz73_1
           try clear hfz73_2
           try clear hfz73_3
           try clear hfz73_4
           try clear hfz75_0
           try clear hfz75_1
           try clear hfz75_2
           try clear hfz75_3
           try clear hfz76_0
           try clear hfz76_1
           try clear hfz76_2
           try clear hfz76_3
           try clear hfz77_0
           try clear hfz77_1
           try clear hfz77_2
           try clear hfz77_3
           try clear hfz77_4
           try clear hfz79_0
           try clear hfz79_1
           try clear hfz79_2
           try clear hfz79_3
           try clear hfz82_0
           try clear hfz82_1
           try clear hfz82_2
           try clear hfz82_3
           try clear hfz84_0
           try clear hfz84_1
           try clear hfz84_2
           try clear hfz84_3
           try clear hfz84_4
           try clear hfz86_0
           try clear hfz86_1
           try clear hfz86_2
           try clear hfz86_3
           try clear hfz87_0
           try clear hfz87_1
           try clear hfz87_2
           try clear hfz87_3
           try clear hfz88_0
           try clear hfz88_1
           try clear hfz88_2
           try clear hfz88_3
           try clear hfz88_4
           try clear hfz90_0
           try clear hfz90_1
           try clear hfz90_2
           try clear hfz90_3
           try clear hx177_0
           try clear hx177_1
           try clear hx177_2
           try clear hx177_3
           try clear hx177_4
           try clear p177
           try clear q177
           obtain ⟨kq, x166000_40, x166001_40, x166002_40, x166003_40, x177000_40, x177001_40, x177002_40, x177003_40, HA, HJ40, BK165, BK176, BK178, HB⟩ := hcut
           cases kq with
           | zero => exact absurd HA.out (by simp [manometerlaw19_LimitBuckets.j2])
           | succ kj40 =>
            have H := HA.out
            clear HA
            simp only [manometerlaw19_LimitBuckets.j2] at H
            by_cases c91 : (!(x166000_40 == x177000_40) || (!(x166001_40 == x177001_40) || (!(x166002_40 == x177002_40) || (!(x166003_40 == x177003_40))))) = true
            ·rw [if_pos c91] at H
             have c91b0 : (!(x166000_40 == x177000_40) || (!(x166001_40 == x177001_40) || (!(x166002_40 == x177002_40) || (!(x166003_40 == x177003_40))))) = true := c91
             clear c91
             obtain rfl := Option.some.inj H
             have hnb92 := NB165_176.out
             have hnc92 := NB176_165.out
             have hnb93 := NB165_178.out
             have hnc93 := NB178_165.out
             have hcz94_0 : wc.cell? ⟨gb165, 0, none⟩ = some (.int .u64 x166000_40) := (blk_cell BK165.out 0).trans rfl
             have hcz94_1 : wc.cell? ⟨gb165, 1, none⟩ = some (.int .u64 x166001_40) := (blk_cell BK165.out 1).trans rfl
             have hcz94_2 : wc.cell? ⟨gb165, 2, none⟩ = some (.int .u64 x166002_40) := (blk_cell BK165.out 2).trans rfl
             have hcz94_3 : wc.cell? ⟨gb165, 3, none⟩ = some (.int .i64 x166003_40) := (blk_cell BK165.out 3).trans rfl
             have hfz94_0 := blk_frozen BK165.out 0
             have hfz94_1 := blk_frozen BK165.out 1
             have hfz94_2 := blk_frozen BK165.out 2
             have hfz94_3 := blk_frozen BK165.out 3
             have hnb95 := NB176_178.out
             have hnc95 := NB178_176.out
             have hcz96_0 : wc.cell? ⟨gb176, 0, none⟩ = some (.int .u64 x177000_40) := (blk_cell BK176.out 0).trans rfl
             have hcz96_1 : wc.cell? ⟨gb176, 1, none⟩ = some (.int .u64 x177001_40) := (blk_cell BK176.out 1).trans rfl
             have hcz96_2 : wc.cell? ⟨gb176, 2, none⟩ = some (.int .u64 x177002_40) := (blk_cell BK176.out 2).trans rfl
             have hcz96_3 : wc.cell? ⟨gb176, 3, none⟩ = some (.int .i64 x177003_40) := (blk_cell BK176.out 3).trans rfl
             have hfz96_0 := blk_frozen BK176.out 0
             have hfz96_1 := blk_frozen BK176.out 1
             have hfz96_2 := blk_frozen BK176.out 2
             have hfz96_3 := blk_frozen BK176.out 3
             go_wp2
             go_ret
             exact ⟨y10_, y5_⟩
            ·rw [if_neg c91] at H
             have c91b0 : (!(x166000_40 == x177000_40) || (!(x166001_40 == x177001_40) || (!(x166002_40 == x177002_40) || (!(x166003_40 == x177003_40))))) = false := by simpa using c91
             clear c91
             have H' := Aside0.mk H
             clear H
             have hnb97 := NB165_176.out
             have hnc97 := NB176_165.out
             have hnb98 := NB165_178.out
             have hnc98 := NB178_165.out
             have hcz99_0 : wc.cell? ⟨gb165, 0, none⟩ = some (.int .u64 x166000_40) := (blk_cell BK165.out 0).trans rfl
             have hcz99_1 : wc.cell? ⟨gb165, 1, none⟩ = some (.int .u64 x166001_40) := (blk_cell BK165.out 1).trans rfl
             have hcz99_2 : wc.cell? ⟨gb165, 2, none⟩ = some (.int .u64 x166002_40) := (blk_cell BK165.out 2).trans rfl
             have hcz99_3 : wc.cell? ⟨gb165, 3, none⟩ = some (.int .i64 x166003_40) := (blk_cell BK165.out 3).trans rfl
             have hfz99_0 := blk_frozen BK165.out 0
             have hfz99_1 := blk_frozen BK165.out 1
             have hfz99_2 := blk_frozen BK165.out 2
             have hfz99_3 := blk_frozen BK165.out 3
             have hnb100 := NB176_178.out
             have hnc100 := NB178_176.out
             have hcz101_0 : wc.cell? ⟨gb176, 0, none⟩ = some (.int .u64 x177000_40) := (blk_cell BK176.out 0).trans rfl
             have hcz101_1 : wc.cell? ⟨gb176, 1, none⟩ = some (.int .u64 x177001_40) := (blk_cell BK176.out 1).trans rfl
             have hcz101_2 : wc.cell? ⟨gb176, 2, none⟩ = some (.int .u64 x177002_40) := (blk_cell BK176.out 2).trans rfl
             have hcz101_3 : wc.cell? ⟨gb176, 3, none⟩ = some (.int .i64 x177003_40) := (blk_cell BK176.out 3).trans rfl
             have hfz101_0 := blk_frozen BK176.out 0
             have hfz101_1 := blk_frozen BK176.out 1
             have hfz101_2 := blk_frozen BK176.out 2
             have hfz101_3 := blk_frozen BK176.out 3
             go_wp2
             go_roundg kj40
             case measure => have := HJ2.out; have := HK2.out; have := HJ40.out; omega
             case rel => exact ⟨(wrap64 (x43_2 + 1)), (x166000_40), (x166001_40), (x166002_40), (x166003_40), (x177000_40), (x177001_40), (x177002_40), (x177003_40), y15_, H', ⟨by have := HJ2.out; have := HK2.out; have := HJ40.out; omega⟩, ⟨y7_⟩, ⟨y13_⟩, ⟨y5_⟩⟩
        ·rw [if_neg c29] at H
         exact absurd H (by simp)
       ·rw [if_neg c28] at H
        exact absurd H (by simp)
      ·rw [if_neg c27] at H
       have c27b0 : decide (x43_2 < (l1.length : Int)) = false := decide_eq_false c27
       clear c27
       obtain rfl := Option.some.inj H
       go_wp2
       go_ret
       exact ⟨y10_, y16_⟩
end Go.Proofs.YtbpmgaaipkenkaaDoor.PMB
