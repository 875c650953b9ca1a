import Derived.Test.YtdckhaejhfkkbaaDoorCRecordTakesPRTx0
import Derived.Test.YtdckhaejhfkkbaaDoorCRecordTakesPRTx21
import Derived.Test.YtdckhaejhfkkbaaDoorCRecordTakesPRTx6
import Derived.Test.YtdckhaejhfkkbaaDoorCRecordTakesPRTx9
import Derived.Test.YtdckhaejhfkkbaaDoorCRecordTakesPRTx14
import Derived.Test.YtdckhaejhfkkbaaDoorCRecordTakesQ2
import Derived.Test.YtdckhaejhfkkbaaDoorCRecordTakesY
namespace Go.Proofs.YtdckhaejhfkkbaaDoor.PRT
open Go.RowKit Go.Proofs.YtdckhaejhfkkbaaDoorW.PrintWords Go.Proofs.YtdckhaejhfkkbaaDoorW.PrintLast Go.Proofs.YtdckhaejhfkkbaaDoorW.PrintMore
attribute [local go_sem] max2_int min2_int max_two min_two max_three min_three max_four min_four
set_option linter.unusedVariables false
set_option linter.unusedSimpArgs false
attribute [local go_sem high] eqA45
mutual
def manometerref13_Same.j0 : Nat → Bool → Int → Int → List (S52) → List (S45) → Int → Int → List (S52) → List (S45) → Option (Bool)
 | 0, _, _, _, _, _, _, _, _, _ => none
 | k + 1, x34, x398000, x398001, x398002, x398003, x399000, x399001, x399002, x399003 => if x34 = true then (some false) else (manometerref13_Same.l0 k (x398003.length : Int) 0 x398000 x398001 x398002 x398003 x399000 x399001 x399002 x399003)
def manometerref13_Same.l0 : Nat → Int → Int → Int → Int → List (S52) → List (S45) → Int → Int → List (S52) → List (S45) → Option (Bool)
 | 0, _, _, _, _, _, _, _, _, _, _ => none
 | k + 1, x37, x38, x398000, x398001, x398002, x398003, x399000, x399001, x399002, x399003 => if x38 < x37 then (if 0 ≤ x38 then (if x38 < (x398003.length : Int) then (if x38 < (x399003.length : Int) then (if (!(((rd_T45 x398003 x38).f0) == ((rd_T45 x399003 x38).f0)) || ((!(((rd_T45 x398003 x38).f1.f0) == ((rd_T45 x399003 x38).f1.f0)) || (!(((rd_T45 x398003 x38).f1.f1) == ((rd_T45 x399003 x38).f1.f1)) || (!(((rd_T45 x398003 x38).f1.f2) == ((rd_T45 x399003 x38).f1.f2))))))) = true then (some false) else (manometerref13_Same.l0 k x37 (wrap64 (x38 + 1)) x398000 x398001 x398002 x398003 x399000 x399001 x399002 x399003)) else (none)) else (none)) else (none)) else (some true)
end
def manometerref13_Same.f (k : Nat) (a0_0 : Int) (a0_1 : Int) (l0_2 : List (S52)) (l0_3 : List (S45)) (a1_0 : Int) (a1_1 : Int) (l1_2 : List (S52)) (l1_3 : List (S45)) : Option (Bool) := if a0_0 = a1_0 then (if a0_1 = a1_1 then ((manometerref05_Same.f k l0_2 l1_2).bind fun t399 => (if t399 = true then (manometerref13_Same.j0 k ((l0_3.length : Int) != (l1_3.length : Int)) a0_0 a0_1 l0_2 l0_3 a1_0 a1_1 l1_2 l1_3) else (manometerref13_Same.j0 k true a0_0 a0_1 l0_2 l0_3 a1_0 a1_1 l1_2 l1_3))) else (manometerref13_Same.j0 k true a0_0 a0_1 l0_2 l0_3 a1_0 a1_1 l1_2 l1_3)) else (manometerref13_Same.j0 k true a0_0 a0_1 l0_2 l0_3 a1_0 a1_1 l1_2 l1_3)
set_option maxHeartbeats 8000000 in
set_option maxRecDepth 100000 in
theorem manometerref13_Same.calls (k : Nat) (a0_0 : Int) (a0_1 : Int) (A0_2 : Option Addr) (c0_2 : Nat) (l0_2 : List (S52)) (A0_3 : Option Addr) (c0_3 : Nat) (l0_3 : List (S45)) (a1_0 : Int) (a1_1 : Int) (A1_2 : Option Addr) (c1_2 : Nat) (l1_2 : List (S52)) (A1_3 : Option Addr) (c1_3 : Nat) (l1_3 : List (S45)) (r : Bool) (w : World) (hr0_2 : Kd.C k52 w A0_2 l0_2.length l0_2) (hc0_2 : l0_2.length ≤ c0_2) (hr0_3 : Kd.C k45 w A0_3 l0_3.length l0_3) (hc0_3 : l0_3.length ≤ c0_3) (hr1_2 : Kd.C k52 w A1_2 l1_2.length l1_2) (hc1_2 : l1_2.length ≤ c1_2) (hr1_3 : Kd.C k45 w A1_3 l1_3.length l1_3) (hc1_3 : l1_3.length ≤ c1_3) (h : manometerref13_Same.f k a0_0 a0_1 l0_2 l0_3 a1_0 a1_1 l1_2 l1_3 = some r) :
  Calls Tryd.prog 11 #[.agg #[.int .i64 a0_0, .int .u32 a0_1, .slice A0_2 l0_2.length c0_2, .slice A0_3 l0_3.length c0_3], .agg #[.int .i64 a1_0, .int .u32 a1_1, .slice A1_2 l1_2.length c1_2, .slice A1_3 l1_3.length c1_3]] w fun e w' => e = .returned (.bool r) ∧ Below w.heap.size w w' := by
 have hu29 := Tryd.underlying29
 have hu45 := Tryd.underlying45
 have HR0_2 := Aside0.mk hr0_2
 have HC0_2 := Aside0.mk hc0_2
 clear hr0_2 hc0_2
 have HR0_3 := Aside0.mk hr0_3
 have HC0_3 := Aside0.mk hc0_3
 clear hr0_3 hc0_3
 have HR1_2 := Aside0.mk hr1_2
 have HC1_2 := Aside0.mk hc1_2
 clear hr1_2 hc1_2
 have HR1_3 := Aside0.mk hr1_3
 have HC1_3 := Aside0.mk hc1_3
 clear hr1_3 hc1_3
 have HB := Aside0.mk (Below.refl w.heap.size w)
 have H : (if a0_0 = a1_0 then (if a0_1 = a1_1 then ((manometerref05_Same.f k l0_2 l1_2).bind fun t399 => (if t399 = true then (manometerref13_Same.j0 k ((l0_3.length : Int) != (l1_3.length : Int)) a0_0 a0_1 l0_2 l0_3 a1_0 a1_1 l1_2 l1_3) else (manometerref13_Same.j0 k true a0_0 a0_1 l0_2 l0_3 a1_0 a1_1 l1_2 l1_3))) else (manometerref13_Same.j0 k true a0_0 a0_1 l0_2 l0_3 a1_0 a1_1 l1_2 l1_3)) else (manometerref13_Same.j0 k true a0_0 a0_1 l0_2 l0_3 a1_0 a1_1 l1_2 l1_3)) = some r := h
 clear h
 have HC3 := Aside0.mk H
 clear H
 go_enter Tryd.func11, Tryd.ntmps11
 go_upto_region 1 with (first | ((with_reducible refine gate_dst (N := 2) rfl ?_); (try (refine gate_guard (by rfl) ?_; dsimp only)); refine box_event ?hg (N := 2) ?hd (cs := #[.int .i64 a0_0, .int .u32 a0_1, .slice A0_2 l0_2.length c0_2, .slice A0_3 l0_3.length c0_3]) (t := 29) ?hr ?_; (case hd => rfl); (case hg => rfl); (case hr => first | (go_simp; done) | (go_simp; rfl)); intro gb397 hg w4 hbox hb; have n0_ := Aside0.mk (below_step y1_ hb); have n1_ := Aside0.mk (hbox); have n2_ := Aside0.mk ((y12_ : w.heap.size ≤ gb397)); have n3_ := Aside0.mk ((y12_ : w.heap.size ≤ gb397)); clear HB; have HB := n0_; have BK397 := n1_; have GW397 := n2_; have GE397 := n3_; clear n0_ n1_ n2_ n3_; clear hb hbox hg) | ((with_reducible refine gate_dst (N := 3) rfl ?_); (try (refine gate_guard (by rfl) ?_; dsimp only)); refine box_event ?hg (N := 3) ?hd (cs := #[.int .i64 a1_0, .int .u32 a1_1, .slice A1_2 l1_2.length c1_2, .slice A1_3 l1_3.length c1_3]) (t := 29) ?hr ?_; (case hd => rfl); (case hg => rfl); (case hr => first | (go_simp; done) | (go_simp; rfl)); intro gb398 hg w5 hbox hb; have n0_ := Aside0.mk (blk_below (g := gb397) (o := .cells #[.int .i64 a0_0, .int .u32 a0_1, .slice A0_2 l0_2.length c0_2, .slice A0_3 l0_3.length c0_3] 29 (0, 0)) y35_ hb); have n1_ := Aside0.mk (below_step y40_ hb); have n2_ := Aside0.mk (hbox); have n3_ := Aside0.mk ((by rw [hg]; exact (below_size y40_) : w.heap.size ≤ gb398)); have n4_ := Aside0.mk ((by rw [hg]; exact (below_size y40_) : w.heap.size ≤ gb398)); have n5_ := Aside0.mk ((y98_ : gb397 ≠ gb398)); have n6_ := Aside0.mk ((y99_ : gb398 ≠ gb397)); clear BK397; clear HB; have BK397 := n0_; have HB := n1_; have BK398 := n2_; have GW398 := n3_; have GE398 := n4_; have NB397_398 := n5_; have NB398_397 := n6_; clear n0_ n1_ n2_ n3_ n4_ n5_ n6_; clear hb hbox hg))
 repeat (go_quiet (first | ((with_reducible refine gate_dst (N := 2) rfl ?_); (try (refine gate_guard (by rfl) ?_; dsimp only)); refine box_event ?hg (N := 2) ?hd (cs := #[.int .i64 a0_0, .int .u32 a0_1, .slice A0_2 l0_2.length c0_2, .slice A0_3 l0_3.length c0_3]) (t := 29) ?hr ?_; (case hd => rfl); (case hg => rfl); (case hr => first | (go_simp; done) | (go_simp; rfl)); intro gb397 hg w4 hbox hb; have n0_ := Aside0.mk (below_step y1_ hb); have n1_ := Aside0.mk (hbox); have n2_ := Aside0.mk ((y12_ : w.heap.size ≤ gb397)); have n3_ := Aside0.mk ((y12_ : w.heap.size ≤ gb397)); clear HB; have HB := n0_; have BK397 := n1_; have GW397 := n2_; have GE397 := n3_; clear n0_ n1_ n2_ n3_; clear hb hbox hg) | ((with_reducible refine gate_dst (N := 3) rfl ?_); (try (refine gate_guard (by rfl) ?_; dsimp only)); refine box_event ?hg (N := 3) ?hd (cs := #[.int .i64 a1_0, .int .u32 a1_1, .slice A1_2 l1_2.length c1_2, .slice A1_3 l1_3.length c1_3]) (t := 29) ?hr ?_; (case hd => rfl); (case hg => rfl); (case hr => first | (go_simp; done) | (go_simp; rfl)); intro gb398 hg w5 hbox hb; have n0_ := Aside0.mk (blk_below (g := gb397) (o := .cells #[.int .i64 a0_0, .int .u32 a0_1, .slice A0_2 l0_2.length c0_2, .slice A0_3 l0_3.length c0_3] 29 (0, 0)) y35_ hb); have n1_ := Aside0.mk (below_step y40_ hb); have n2_ := Aside0.mk (hbox); have n3_ := Aside0.mk ((by rw [hg]; exact (below_size y40_) : w.heap.size ≤ gb398)); have n4_ := Aside0.mk ((by rw [hg]; exact (below_size y40_) : w.heap.size ≤ gb398)); have n5_ := Aside0.mk ((y98_ : gb397 ≠ gb398)); have n6_ := Aside0.mk ((y99_ : gb398 ≠ gb397)); clear BK397; clear HB; have BK397 := n0_; have HB := n1_; have BK398 := n2_; have GW398 := n3_; have GE398 := n4_; have NB397_398 := n5_; have NB398_397 := n6_; clear n0_ n1_ n2_ n3_ n4_ n5_ n6_; clear hb hbox hg)); go_upto_region 1 with (first | ((with_reducible refine gate_dst (N := 2) rfl ?_); (try (refine gate_guard (by rfl) ?_; dsimp only)); refine box_event ?hg (N := 2) ?hd (cs := #[.int .i64 a0_0, .int .u32 a0_1, .slice A0_2 l0_2.length c0_2, .slice A0_3 l0_3.length c0_3]) (t := 29) ?hr ?_; (case hd => rfl); (case hg => rfl); (case hr => first | (go_simp; done) | (go_simp; rfl)); intro gb397 hg w4 hbox hb; have n0_ := Aside0.mk (below_step y1_ hb); have n1_ := Aside0.mk (hbox); have n2_ := Aside0.mk ((y12_ : w.heap.size ≤ gb397)); have n3_ := Aside0.mk ((y12_ : w.heap.size ≤ gb397)); clear HB; have HB := n0_; have BK397 := n1_; have GW397 := n2_; have GE397 := n3_; clear n0_ n1_ n2_ n3_; clear hb hbox hg) | ((with_reducible refine gate_dst (N := 3) rfl ?_); (try (refine gate_guard (by rfl) ?_; dsimp only)); refine box_event ?hg (N := 3) ?hd (cs := #[.int .i64 a1_0, .int .u32 a1_1, .slice A1_2 l1_2.length c1_2, .slice A1_3 l1_3.length c1_3]) (t := 29) ?hr ?_; (case hd => rfl); (case hg => rfl); (case hr => first | (go_simp; done) | (go_simp; rfl)); intro gb398 hg w5 hbox hb; have n0_ := Aside0.mk (blk_below (g := gb397) (o := .cells #[.int .i64 a0_0, .int .u32 a0_1, .slice A0_2 l0_2.length c0_2, .slice A0_3 l0_3.length c0_3] 29 (0, 0)) y35_ hb); have n1_ := Aside0.mk (below_step y40_ hb); have n2_ := Aside0.mk (hbox); have n3_ := Aside0.mk ((by rw [hg]; exact (below_size y40_) : w.heap.size ≤ gb398)); have n4_ := Aside0.mk ((by rw [hg]; exact (below_size y40_) : w.heap.size ≤ gb398)); have n5_ := Aside0.mk ((y98_ : gb397 ≠ gb398)); have n6_ := Aside0.mk ((y99_ : gb398 ≠ gb397)); clear BK397; clear HB; have BK397 := n0_; have HB := n1_; have BK398 := n2_; have GW398 := n3_; have GE398 := n4_; have NB397_398 := n5_; have NB398_397 := n6_; clear n0_ n1_ n2_ n3_ n4_ n5_ n6_; clear hb hbox hg)))
 (try simp only [Act.put, List.setIfInBounds_toArray, List.set_cons_zero, List.set_cons_succ])
 go_cut [34] (fun v34 wc => ∃ (kq : Nat) (x34_2 : Bool), v34 = .bool x34_2 ∧ Aside0 (manometerref13_Same.j0 kq x34_2 a0_0 a0_1 l0_2 l0_3 a1_0 a1_1 l1_2 l1_3 = some r) ∧ Aside0 (kq ≤ k) ∧ Aside0 (wc.heap[gb397]? = some (.cells #[.int .i64 a0_0, .int .u32 a0_1, (.slice A0_2 l0_2.length c0_2), (.slice A0_3 l0_3.length c0_3)] 29 (0, 0))) ∧ Aside0 (wc.heap[gb398]? = some (.cells #[.int .i64 a1_0, .int .u32 a1_1, (.slice A1_2 l1_2.length c1_2), (.slice A1_3 l1_3.length c1_3)] 29 (0, 0))) ∧ Aside0 (Below w.heap.size w wc))
 case first =>
  have H := HC3.out
  clear HC3
  by_cases c6 : a0_0 = a1_0
  ·rw [if_pos c6] at H
   have c6b0 : (a0_0 == a1_0) = true := beq_iff_eq.mpr c6
   have c6b1 : (a0_0 != a1_0) = false := bne_eq_false_iff_eq.mpr c6
   clear c6
   (first | rw [c6b0] | (simp only [i64_w, i32_w]; rw [c6b0]) | skip)
   by_cases c7 : a0_1 = a1_1
   ·rw [if_pos c7] at H
    have c7b0 : (a0_1 == a1_1) = true := beq_iff_eq.mpr c7
    have c7b1 : (a0_1 != a1_1) = false := bne_eq_false_iff_eq.mpr c7
    clear c7
    replace H := Option.bind_eq_some_iff.mp H
    obtain ⟨t399, A80, H⟩ := H
    replace H : (if t399 = true then (manometerref13_Same.j0 k ((l0_3.length : Int) != (l1_3.length : Int)) a0_0 a0_1 l0_2 l0_3 a1_0 a1_1 l1_2 l1_3) else (manometerref13_Same.j0 k true a0_0 a0_1 l0_2 l0_3 a1_0 a1_1 l1_2 l1_3)) = some r := H
    have A8 := Aside0.mk A80
    clear A80
    by_cases c9 : t399 = true
    ·subst c9
     have H1 : (manometerref13_Same.j0 k ((l0_3.length : Int) != (l1_3.length : Int)) a0_0 a0_1 l0_2 l0_3 a1_0 a1_1 l1_2 l1_3) = some r := by rw [if_pos rfl] at H; exact H
     clear H
     have H := H1
     clear H1
     have H' := Aside0.mk H
     clear H
     have hnb10 := NB397_398.out
     have hnc10 := NB398_397.out
     have hcz11_0 : w5.cell? ⟨gb397, 0, none⟩ = some (.int .i64 a0_0) := (blk_cell BK397.out 0).trans rfl
     have hcz11_1 : w5.cell? ⟨gb397, 1, none⟩ = some (.int .u32 a0_1) := (blk_cell BK397.out 1).trans rfl
     have hcz11_2 : w5.cell? ⟨gb397, 2, none⟩ = some (.slice A0_2 l0_2.length c0_2) := (blk_cell BK397.out 2).trans rfl
     have hcz11_3 : w5.cell? ⟨gb397, 3, none⟩ = some (.slice A0_3 l0_3.length c0_3) := (blk_cell BK397.out 3).trans rfl
     have hfz11_0 := blk_frozen BK397.out 0
     have hfz11_1 := blk_frozen BK397.out 1
     have hfz11_2 := blk_frozen BK397.out 2
     have hfz11_3 := blk_frozen BK397.out 3
     have hcz12_0 : w5.cell? ⟨gb398, 0, none⟩ = some (.int .i64 a1_0) := (blk_cell BK398.out 0).trans rfl
     have hcz12_1 : w5.cell? ⟨gb398, 1, none⟩ = some (.int .u32 a1_1) := (blk_cell BK398.out 1).trans rfl
     have hcz12_2 : w5.cell? ⟨gb398, 2, none⟩ = some (.slice A1_2 l1_2.length c1_2) := (blk_cell BK398.out 2).trans rfl
     have hcz12_3 : w5.cell? ⟨gb398, 3, none⟩ = some (.slice A1_3 l1_3.length c1_3) := (blk_cell BK398.out 3).trans rfl
     have hfz12_0 := blk_frozen BK398.out 0
     have hfz12_1 := blk_frozen BK398.out 1
     have hfz12_2 := blk_frozen BK398.out 2
     have hfz12_3 := blk_frozen BK398.out 3
     go_wp2_with (first | (go_at_call 26; (with_reducible refine (manometerref05_Same.calls k _ _ l0_2 _ _ l1_2 true _ ?side1 ?side2 ?side3 ?side4 A8.out).mono ?_); (case side1 => repeat (first | exact (Kd.C_below HR0_2.out HB.out) | (with_reducible refine Kd.C_alloc ?_ _) | (with_reducible refine Kd.C_drewN ?_ _) | (with_reducible refine Kd.C_drew ?_))); (case side2 => exact HC0_2.out); (case side3 => repeat (first | exact (Kd.C_below HR1_2.out HB.out) | (with_reducible refine Kd.C_alloc ?_ _) | (with_reducible refine Kd.C_drewN ?_ _) | (with_reducible refine Kd.C_drew ?_))); (case side4 => exact HC1_2.out); rintro e w' ⟨rfl, ⟨nd, rfl⟩⟩; (try first | exact ⟨rfl, _, World.drewN_drewN _ _ _⟩ | exact ⟨rfl, _, Eq.trans (World.drewN_drewN _ _ _) (congrArg (World.drewN _) (Nat.add_assoc _ _ _))⟩)))
     repeat (go_quiet (first | (go_at_call 26; (with_reducible refine (manometerref05_Same.calls k _ _ l0_2 _ _ l1_2 true _ ?side1 ?side2 ?side3 ?side4 A8.out).mono ?_); (case side1 => repeat (first | exact (Kd.C_below HR0_2.out HB.out) | (with_reducible refine Kd.C_alloc ?_ _) | (with_reducible refine Kd.C_drewN ?_ _) | (with_reducible refine Kd.C_drew ?_))); (case side2 => exact HC0_2.out); (case side3 => repeat (first | exact (Kd.C_below HR1_2.out HB.out) | (with_reducible refine Kd.C_alloc ?_ _) | (with_reducible refine Kd.C_drewN ?_ _) | (with_reducible refine Kd.C_drew ?_))); (case side4 => exact HC1_2.out); rintro e w' ⟨rfl, ⟨nd, rfl⟩⟩; (try first | exact ⟨rfl, _, World.drewN_drewN _ _ _⟩ | exact ⟨rfl, _, Eq.trans (World.drewN_drewN _ _ _) (congrArg (World.drewN _) (Nat.add_assoc _ _ _))⟩))); try go_wp2_with (first | (go_at_call 26; (with_reducible refine (manometerref05_Same.calls k _ _ l0_2 _ _ l1_2 true _ ?side1 ?side2 ?side3 ?side4 A8.out).mono ?_); (case side1 => repeat (first | exact (Kd.C_below HR0_2.out HB.out) | (with_reducible refine Kd.C_alloc ?_ _) | (with_reducible refine Kd.C_drewN ?_ _) | (with_reducible refine Kd.C_drew ?_))); (case side2 => exact HC0_2.out); (case side3 => repeat (first | exact (Kd.C_below HR1_2.out HB.out) | (with_reducible refine Kd.C_alloc ?_ _) | (with_reducible refine Kd.C_drewN ?_ _) | (with_reducible refine Kd.C_drew ?_))); (case side4 => exact HC1_2.out); rintro e w' ⟨rfl, ⟨nd, rfl⟩⟩; (try first | exact ⟨rfl, _, World.drewN_drewN _ _ _⟩ | exact ⟨rfl, _, Eq.trans (World.drewN_drewN _ _ _) (congrArg (World.drewN _) (Nat.add_assoc _ _ _))⟩))))
     go_meet
     case rel => exact ⟨_, (((l0_3.length : Int) != (l1_3.length : Int))), y7_, H', ⟨y65_⟩, ⟨y35_⟩, ⟨y60_⟩, ⟨y36_⟩⟩
    ·replace c9 := Bool.eq_false_iff.mpr c9
     subst c9
     have H1 : (manometerref13_Same.j0 k true a0_0 a0_1 l0_2 l0_3 a1_0 a1_1 l1_2 l1_3) = some r := by rw [if_neg (show ¬ (false = true) by decide)] at H; exact H
     clear H
     have H := H1
     clear H1
     have H' := Aside0.mk H
     clear H
     have hnb13 := NB397_398.out
     have hnc13 := NB398_397.out
     have hcz14_0 : w5.cell? ⟨gb397, 0, none⟩ = some (.int .i64 a0_0) := (blk_cell BK397.out 0).trans rfl
     have hcz14_1 : w5.cell? ⟨gb397, 1, none⟩ = some (.int .u32 a0_1) := (blk_cell BK397.out 1).trans rfl
     have hcz14_2 : w5.cell? ⟨gb397, 2, none⟩ = some (.slice A0_2 l0_2.length c0_2) := (blk_cell BK397.out 2).trans rfl
     have hcz14_3 : w5.cell? ⟨gb397, 3, none⟩ = some (.slice A0_3 l0_3.length c0_3) := (blk_cell BK397.out 3).trans rfl
     have hfz14_0 := blk_frozen BK397.out 0
     have hfz14_1 := blk_frozen BK397.out 1
     have hfz14_2 := blk_frozen BK397.out 2
     have hfz14_3 := blk_frozen BK397.out 3
     have hcz15_0 : w5.cell? ⟨gb398, 0, none⟩ = some (.int .i64 a1_0) := (blk_cell BK398.out 0).trans rfl
     have hcz15_1 : w5.cell? ⟨gb398, 1, none⟩ = some (.int .u32 a1_1) := (blk_cell BK398.out 1).trans rfl
     have hcz15_2 : w5.cell? ⟨gb398, 2, none⟩ = some (.slice A1_2 l1_2.length c1_2) := (blk_cell BK398.out 2).trans rfl
     have hcz15_3 : w5.cell? ⟨gb398, 3, none⟩ = some (.slice A1_3 l1_3.length c1_3) := (blk_cell BK398.out 3).trans rfl
     have hfz15_0 := blk_frozen BK398.out 0
     have hfz15_1 := blk_frozen BK398.out 1
     have hfz15_2 := blk_frozen BK398.out 2
     have hfz15_3 := blk_frozen BK398.out 3
     go_wp2_with (first | (go_at_call 26; (with_reducible refine (manometerref05_Same.calls k _ _ l0_2 _ _ l1_2 false _ ?side1 ?side2 ?side3 ?side4 A8.out).mono ?_); (case side1 => repeat (first | exact (Kd.C_below HR0_2.out HB.out) | (with_reducible refine Kd.C_alloc ?_ _) | (with_reducible refine Kd.C_drewN ?_ _) | (with_reducible refine Kd.C_drew ?_))); (case side2 => exact HC0_2.out); (case side3 => repeat (first | exact (Kd.C_below HR1_2.out HB.out) | (with_reducible refine Kd.C_alloc ?_ _) | (with_reducible refine Kd.C_drewN ?_ _) | (with_reducible refine Kd.C_drew ?_))); (case side4 => exact HC1_2.out); rintro e w' ⟨rfl, ⟨nd, rfl⟩⟩; (try first | exact ⟨rfl, _, World.drewN_drewN _ _ _⟩ | exact ⟨rfl, _, Eq.trans (World.drewN_drewN _ _ _) (congrArg (World.drewN _) (Nat.add_assoc _ _ _))⟩)))
     repeat (go_quiet (first | (go_at_call 26; (with_reducible refine (manometerref05_Same.calls k _ _ l0_2 _ _ l1_2 false _ ?side1 ?side2 ?side3 ?side4 A8.out).mono ?_); (case side1 => repeat (first | exact (Kd.C_below HR0_2.out HB.out) | (with_reducible refine Kd.C_alloc ?_ _) | (with_reducible refine Kd.C_drewN ?_ _) | (with_reducible refine Kd.C_drew ?_))); (case side2 => exact HC0_2.out); (case side3 => repeat (first | exact (Kd.C_below HR1_2.out HB.out) | (with_reducible refine Kd.C_alloc ?_ _) | (with_reducible refine Kd.C_drewN ?_ _) | (with_reducible refine Kd.C_drew ?_))); (case side4 => exact HC1_2.out); rintro e w' ⟨rfl, ⟨nd, rfl⟩⟩; (try first | exact ⟨rfl, _, World.drewN_drewN _ _ _⟩ | exact ⟨rfl, _, Eq.trans (World.drewN_drewN _ _ _) (congrArg (World.drewN _) (Nat.add_assoc _ _ _))⟩))); try go_wp2_with (first | (go_at_call 26; (with_reducible refine (manometerref05_Same.calls k _ _ l0_2 _ _ l1_2 false _ ?side1 ?side2 ?side3 ?side4 A8.out).mono ?_); (case side1 => repeat (first | exact (Kd.C_below HR0_2.out HB.out) | (with_reducible refine Kd.C_alloc ?_ _) | (with_reducible refine Kd.C_drewN ?_ _) | (with_reducible refine Kd.C_drew ?_))); (case side2 => exact HC0_2.out); (case side3 => repeat (first | exact (Kd.C_below HR1_2.out HB.out) | (with_reducible refine Kd.C_alloc ?_ _) | (with_reducible refine Kd.C_drewN ?_ _) | (with_reducible refine Kd.C_drew ?_))); (case side4 => exact HC1_2.out); rintro e w' ⟨rfl, ⟨nd, rfl⟩⟩; (try first | exact ⟨rfl, _, World.drewN_drewN _ _ _⟩ | exact ⟨rfl, _, Eq.trans (World.drewN_drewN _ _ _) (congrArg (World.drewN _) (Nat.add_assoc _ _ _))⟩))))
     go_meet
     case rel => exact ⟨_, (true), y7_, H', ⟨y65_⟩, ⟨y35_⟩, ⟨y60_⟩, ⟨y36_⟩⟩
   ·rw [if_neg c7] at H
    have c7b0 : (a0_1 == a1_1) = false := beq_eq_false_iff_ne.mpr c7
    have c7b1 : (a0_1 != a1_1) = true := bne_iff_ne.mpr c7
    have H' := Aside0.mk H
    clear H
    have hnb16 := NB397_398.out
    have hnc16 := NB398_397.out
    have hcz17_0 : w5.cell? ⟨gb397, 0, none⟩ = some (.int .i64 a0_0) := (blk_cell BK397.out 0).trans rfl
    have hcz17_1 : w5.cell? ⟨gb397, 1, none⟩ = some (.int .u32 a0_1) := (blk_cell BK397.out 1).trans rfl
    have hcz17_2 : w5.cell? ⟨gb397, 2, none⟩ = some (.slice A0_2 l0_2.length c0_2) := (blk_cell BK397.out 2).trans rfl
    have hcz17_3 : w5.cell? ⟨gb397, 3, none⟩ = some (.slice A0_3 l0_3.length c0_3) := (blk_cell BK397.out 3).trans rfl
    have hfz17_0 := blk_frozen BK397.out 0
    have hfz17_1 := blk_frozen BK397.out 1
    have hfz17_2 := blk_frozen BK397.out 2
    have hfz17_3 := blk_frozen BK397.out 3
    have hcz18_0 : w5.cell? ⟨gb398, 0, none⟩ = some (.int .i64 a1_0) := (blk_cell BK398.out 0).trans rfl
    have hcz18_1 : w5.cell? ⟨gb398, 1, none⟩ = some (.int .u32 a1_1) := (blk_cell BK398.out 1).trans rfl
    have hcz18_2 : w5.cell? ⟨gb398, 2, none⟩ = some (.slice A1_2 l1_2.length c1_2) := (blk_cell BK398.out 2).trans rfl
    have hcz18_3 : w5.cell? ⟨gb398, 3, none⟩ = some (.slice A1_3 l1_3.length c1_3) := (blk_cell BK398.out 3).trans rfl
    have hfz18_0 := blk_frozen BK398.out 0
    have hfz18_1 := blk_frozen BK398.out 1
    have hfz18_2 := blk_frozen BK398.out 2
    have hfz18_3 := blk_frozen BK398.out 3
    go_wp2
    repeat (go_quiet (fail); try go_wp2)
    go_meet
    case rel => exact ⟨_, (true), y7_, H', ⟨y65_⟩, ⟨y35_⟩, ⟨y60_⟩, ⟨y36_⟩⟩
  ·rw [if_neg c6] at H
   have c6b0 : (a0_0 == a1_0) = false := beq_eq_false_iff_ne.mpr c6
   have c6b1 : (a0_0 != a1_0) = true := bne_iff_ne.mpr c6
   (first | rw [c6b0] | (simp only [i64_w, i32_w]; rw [c6b0]) | skip)
   have H' := Aside0.mk H
   clear H
   have hnb19 := NB397_398.out
   have hnc19 := NB398_397.out
   have hcz20_0 : w5.cell? ⟨gb397, 0, none⟩ = some (.int .i64 a0_0) := (blk_cell BK397.out 0).trans rfl
   have hcz20_1 : w5.cell? ⟨gb397, 1, none⟩ = some (.int .u32 a0_1) := (blk_cell BK397.out 1).trans rfl
   have hcz20_2 : w5.cell? ⟨gb397, 2, none⟩ = some (.slice A0_2 l0_2.length c0_2) := (blk_cell BK397.out 2).trans rfl
   have hcz20_3 : w5.cell? ⟨gb397, 3, none⟩ = some (.slice A0_3 l0_3.length c0_3) := (blk_cell BK397.out 3).trans rfl
   have hfz20_0 := blk_frozen BK397.out 0
   have hfz20_1 := blk_frozen BK397.out 1
   have hfz20_2 := blk_frozen BK397.out 2
   have hfz20_3 := blk_frozen BK397.out 3
   have hcz21_0 : w5.cell? ⟨gb398, 0, none⟩ = some (.int .i64 a1_0) := (blk_cell BK398.out 0).trans rfl
   have hcz21_1 : w5.cell? ⟨gb398, 1, none⟩ = some (.int .u32 a1_1) := (blk_cell BK398.out 1).trans rfl
   have hcz21_2 : w5.cell? ⟨gb398, 2, none⟩ = some (.slice A1_2 l1_2.length c1_2) := (blk_cell BK398.out 2).trans rfl
   have hcz21_3 : w5.cell? ⟨gb398, 3, none⟩ = some (.slice A1_3 l1_3.length c1_3) := (blk_cell BK398.out 3).trans rfl
   have hfz21_0 := blk_frozen BK398.out 0
   have hfz21_1 := blk_frozen BK398.out 1
   have hfz21_2 := blk_frozen BK398.out 2
   have hfz21_3 := blk_frozen BK398.out 3
   go_wp2
   repeat (go_quiet (fail); try go_wp2)
   go_meet
   case rel => exact ⟨_, (true), y7_, H', ⟨y65_⟩, ⟨y35_⟩, ⟨y60_⟩, ⟨y36_⟩⟩
 case rest =>
  clear HC3
  try clear c1
  try clear p2
  try clear c6
  try clear c6b0
  try clear c6b1
  try clear c7
  try clear c7b0
  try clear c7b1
  try clear c9
  try clear c10
  try clear c11
  try clear c13
  try clear c16
  try clear c19
  try clear hcz11_0
  try clear hcz11_1
  try clear hcz11_2
  try clear hcz11_3
  try clear hcz12_0
  try clear hcz12_1
  try clear hcz12_2
  try clear hcz12_3
  try clear hcz14_0
  try clear hcz14_1
  try clear hcz14_2
  try clear hcz14_3
  try clear hcz15_0
  try clear hcz15_1
  try clear hcz15_2
  try clear hcz15_3
  try clear hcz17_0
  try clear hcz17_1
  try clear hcz17_2
  try clear hcz17_3
  try clear hcz18_0
  try clear hcz18_1
  try clear hcz18_2
  try clear hcz18_3
  try clear hcz20_0
  try clear hcz20_1
  try clear hcz20_2
  try clear hcz20_3
  try clear hcz21_0
  try clear hcz21_1
  try clear hcz21_2
  try clear hcz21_3
  try clear hfz11_0
  try clear hfz11_1
  try clear hfz11_2
  try clear hfz11_3
  try clear hfz12_0
  try clear hfz12_1
  try clear hfz12_2
  try clear hfz12_3
  try clear hfz14_0
  try clear hfz14_1
  try clear hfz14_2
  try clear hfz14_3
  try clear hfz15_0
  try clear hfz15_1
  try clear hfz15_2
  try clear hfz15_3
  try clear hfz17_0
  try clear hfz17_1
  try clear hfz17_2
  try clear hfz17_3
  try clear hfz18_0
  try clear hfz18_1
  try clear hfz18_2
  try clear hfz18_3
  try clear hfz20_0
  try clear hfz20_1
  try clear hfz20_2
  try clear hfz20_3
  try clear hfz21_0
  try clear hfz21_1
  try clear hfz21_2
  try clear hfz21_3
  obtain ⟨kq, x34_2, rfl, HA, HJ2, BK397, BK398, HB⟩ := hcut
  cases kq with
  | zero => exact absurd HA.out (by simp [manometerref13_Same.j0])
  | succ kj2 =>
   have H := HA.out
   clear HA
   simp only [manometerref13_Same.j0] at H
   by_cases c22 : x34_2 = true
   ·subst c22
    have H1 : (some false) = some r := by rw [if_pos rfl] at H; exact H
    clear H
    have H := H1
    clear H1
    obtain rfl := Option.some.inj H
    go_wp2
    repeat (go_quiet (fail); try go_wp2)
    go_ret
    exact ⟨y4_, y36_⟩
   ·replace c22 := Bool.eq_false_iff.mpr c22
    subst c22
    have H1 : (manometerref13_Same.l0 kj2 (l0_3.length : Int) 0 a0_0 a0_1 l0_2 l0_3 a1_0 a1_1 l1_2 l1_3) = some r := by rw [if_neg (show ¬ (false = true) by decide)] at H; exact H
    clear H
    have H := H1
    clear H1
    have H' := Aside0.mk H
    clear H
    have hnb23 := NB397_398.out
    have hnc23 := NB398_397.out
    have hcz24_0 : wc.cell? ⟨gb397, 0, none⟩ = some (.int .i64 a0_0) := (blk_cell BK397.out 0).trans rfl
    have hcz24_1 : wc.cell? ⟨gb397, 1, none⟩ = some (.int .u32 a0_1) := (blk_cell BK397.out 1).trans rfl
    have hcz24_2 : wc.cell? ⟨gb397, 2, none⟩ = some (.slice A0_2 l0_2.length c0_2) := (blk_cell BK397.out 2).trans rfl
    have hcz24_3 : wc.cell? ⟨gb397, 3, none⟩ = some (.slice A0_3 l0_3.length c0_3) := (blk_cell BK397.out 3).trans rfl
    have hfz24_0 := blk_frozen BK397.out 0
    have hfz24_1 := blk_frozen BK397.out 1
    have hfz24_2 := blk_frozen BK397.out 2
    have hfz24_3 := blk_frozen BK397.out 3
    go_wp2
    repeat (go_quiet (fail); try go_wp2)
    go_loopg [38] kj2 (fun kq v38 w' => ∃ (x38_2 : Int), v38 = .int .i64 x38_2 ∧ Aside0 (manometerref13_Same.l0 kq (l0_3.length : Int) x38_2 a0_0 a0_1 l0_2 l0_3 a1_0 a1_1 l1_2 l1_3 = some r) ∧ Aside0 (kq ≤ kj2) ∧ Aside0 (w'.heap[gb397]? = some (.cells #[.int .i64 a0_0, .int .u32 a0_1, (.slice A0_2 l0_2.length c0_2), (.slice A0_3 l0_3.length c0_3)] 29 (0, 0))) ∧ Aside0 (w'.heap[gb398]? = some (.cells #[.int .i64 a1_0, .int .u32 a1_1, (.slice A1_2 l1_2.length c1_2), (.slice A1_3 l1_3.length c1_3)] 29 (0, 0))) ∧ Aside0 (Below w.heap.size w w'))
    case atStart => exact ⟨(0), y7_, H', ⟨Nat.le_refl _⟩, ⟨y35_⟩, ⟨y60_⟩, ⟨y36_⟩⟩
    case round =>
     clear H'
     try clear c1
     try clear c2
     try clear p2
     try clear c6
     try clear c6b0
     try clear c6b1
     try clear c7
     try clear c7b0
     try clear c7b1
     try clear c9
     try clear c10
     try clear c11
     try clear c13
     try clear c16
     try clear c19
     try clear c22
     try clear c23
     try clear hcz11_0
     try clear hcz11_1
     try clear hcz11_2
     try clear hcz11_3
     try clear hcz12_0
     try clear hcz12_1
     try clear hcz12_2
     try clear hcz12_3
     try clear hcz14_0
     try clear hcz14_1
     try clear hcz14_2
     try clear hcz14_3
     try clear hcz15_0
     try clear hcz15_1
     try clear hcz15_2
     try clear hcz15_3
     try clear hcz17_0
     try clear hcz17_1
     try clear hcz17_2
     try clear hcz17_3
     try clear hcz18_0
     try clear hcz18_1
     try clear hcz18_2
     try clear hcz18_3
     try clear hcz20_0
     try clear hcz20_1
     try clear hcz20_2
     try clear hcz20_3
     try clear hcz21_0
     try clear hcz21_1
     try clear hcz21_2
     try clear hcz21_3
     try clear hcz24_0
     try clear hcz24_1
     try clear hcz24_2
     try clear hcz24_3
     try clear hfz11_0
     try clear hfz11_1
     try clear hfz11_2
     try clear hfz11_3
     try clear hfz12_0
     try clear hfz12_1
     try clear hfz12_2
     try clear hfz12_3
     try clear hfz14_0
     try clear hfz14_1
     try clear hfz14_2
     try clear hfz14_3
     try clear hfz15_0
     try clear hfz15_1
     try clear hfz15_2
     try clear hfz15_3
     try clear hfz17_0
     try clear hfz17_1
     try clear hfz17_2
     try clear hfz17_3
     try clear hfz18_0
     try clear hfz18_1
     try clear hfz18_2
     try clear hfz18_3
     try clear hfz20_0
     try clear hfz20_1
     try clear hfz20_2
     try clear hfz20_3
     try clear hfz21_0
     try clear hfz21_1
     try clear hfz21_2
     try clear hfz21_3
     try clear hfz24_0
     try clear hfz24_1
     try clear hfz24_2
     try clear hfz24_3
     try clear p2
     obtain ⟨x38_2, rfl, HA, HK2, BK397, BK398, HB⟩ := hrel
     cases gk with
     | zero => exact absurd HA.out (by simp [manometerref13_Same.l0])
     | succ k2 =>
      have H := HA.out
      clear HA
      simp only [manometerref13_Same.l0] at H
      by_cases c25 : x38_2 < (l0_3.length : Int)
      ·rw [if_pos c25] at H
       have c25b0 : decide (x38_2 < (l0_3.length : Int)) = true := decide_eq_true c25
       clear c25
       by_cases c26 : 0 ≤ x38_2
       ·rw [if_pos c26] at H
        have c26b0 : decide (0 ≤ x38_2) = true := decide_eq_true c26
        clear c26
        by_cases c27 : x38_2 < (l0_3.length : Int)
        ·rw [if_pos c27] at H
         have c27b0 : decide (x38_2 < (l0_3.length : Int)) = true := decide_eq_true c27
         clear c27
         by_cases c28 : x38_2 < (l1_3.length : Int)
         ·rw [if_pos c28] at H
          have c28b0 : decide (x38_2 < (l1_3.length : Int)) = true := decide_eq_true c28
          clear c28
          by_cases c29 : (!(((rd_T45 l0_3 x38_2).f0) == ((rd_T45 l1_3 x38_2).f0)) || ((!(((rd_T45 l0_3 x38_2).f1.f0) == ((rd_T45 l1_3 x38_2).f1.f0)) || (!(((rd_T45 l0_3 x38_2).f1.f1) == ((rd_T45 l1_3 x38_2).f1.f1)) || (!(((rd_T45 l0_3 x38_2).f1.f2) == ((rd_T45 l1_3 x38_2).f1.f2))))))) = true
          ·rw [if_pos c29] at H
           have c29b0 : (!(((rd_T45 l0_3 x38_2).f0) == ((rd_T45 l1_3 x38_2).f0)) || ((!(((rd_T45 l0_3 x38_2).f1.f0) == ((rd_T45 l1_3 x38_2).f1.f0)) || (!(((rd_T45 l0_3 x38_2).f1.f1) == ((rd_T45 l1_3 x38_2).f1.f1)) || (!(((rd_T45 l0_3 x38_2).f1.f2) == ((rd_T45 l1_3 x38_2).f1.f2))))))) = true := c29
           clear c29
           obtain rfl := Option.some.inj H
           have hnb30 := NB397_398.out
           have hnc30 := NB398_397.out
           have hcz31_0 : wr.cell? ⟨gb397, 0, none⟩ = some (.int .i64 a0_0) := (blk_cell BK397.out 0).trans rfl
           have hcz31_1 : wr.cell? ⟨gb397, 1, none⟩ = some (.int .u32 a0_1) := (blk_cell BK397.out 1).trans rfl
           have hcz31_2 : wr.cell? ⟨gb397, 2, none⟩ = some (.slice A0_2 l0_2.length c0_2) := (blk_cell BK397.out 2).trans rfl
           have hcz31_3 : wr.cell? ⟨gb397, 3, none⟩ = some (.slice A0_3 l0_3.length c0_3) := (blk_cell BK397.out 3).trans rfl
           have hfz31_0 := blk_frozen BK397.out 0
           have hfz31_1 := blk_frozen BK397.out 1
           have hfz31_2 := blk_frozen BK397.out 2
           have hfz31_3 := blk_frozen BK397.out 3
           have p400 : 0 ≤ (x38_2 : Int) := of_decide_eq_true y2_
           have q400 : x38_2 < (l0_3.length : Int) := of_decide_eq_true y2_
           obtain ⟨ad400, e400, hx400_0, hx400_1, hx400_2, hx400_3⟩ := at_T45 HR0_3.out x38_2 p400 q400
           cases e400
           replace hx400_0 := (HB.out.cell (World.block_lt_of_cell? w _ hx400_0)).trans hx400_0
           replace hx400_1 := (HB.out.cell (World.block_lt_of_cell? w _ hx400_1)).trans hx400_1
           replace hx400_2 := (HB.out.cell (World.block_lt_of_cell? w _ hx400_2)).trans hx400_2
           replace hx400_3 := (HB.out.cell (World.block_lt_of_cell? w _ hx400_3)).trans hx400_3
           replace p400 := eq_true p400
           replace q400 := eq_true q400
           have hcz32_0 : wr.cell? ⟨gb398, 0, none⟩ = some (.int .i64 a1_0) := (blk_cell BK398.out 0).trans rfl
           have hcz32_1 : wr.cell? ⟨gb398, 1, none⟩ = some (.int .u32 a1_1) := (blk_cell BK398.out 1).trans rfl
           have hcz32_2 : wr.cell? ⟨gb398, 2, none⟩ = some (.slice A1_2 l1_2.length c1_2) := (blk_cell BK398.out 2).trans rfl
           have hcz32_3 : wr.cell? ⟨gb398, 3, none⟩ = some (.slice A1_3 l1_3.length c1_3) := (blk_cell BK398.out 3).trans rfl
           have hfz32_0 := blk_frozen BK398.out 0
           have hfz32_1 := blk_frozen BK398.out 1
           have hfz32_2 := blk_frozen BK398.out 2
           have hfz32_3 := blk_frozen BK398.out 3
           have p401 : 0 ≤ (x38_2 : Int) := of_decide_eq_true y2_
           have q401 : x38_2 < (l1_3.length : Int) := of_decide_eq_true y2_
           obtain ⟨ad401, e401, hx401_0, hx401_1, hx401_2, hx401_3⟩ := at_T45 HR1_3.out x38_2 p401 q401
           cases e401
           replace hx401_0 := (HB.out.cell (World.block_lt_of_cell? w _ hx401_0)).trans hx401_0
           replace hx401_1 := (HB.out.cell (World.block_lt_of_cell? w _ hx401_1)).trans hx401_1
           replace hx401_2 := (HB.out.cell (World.block_lt_of_cell? w _ hx401_2)).trans hx401_2
           replace hx401_3 := (HB.out.cell (World.block_lt_of_cell? w _ hx401_3)).trans hx401_3
           replace p401 := eq_true p401
           replace q401 := eq_true q401
           go_wp2
           repeat (go_quiet (fail); try go_wp2)
           go_ret
           exact ⟨y4_, y36_⟩
          ·rw [if_neg c29] at H
           have c29b0 : (!(((rd_T45 l0_3 x38_2).f0) == ((rd_T45 l1_3 x38_2).f0)) || ((!(((rd_T45 l0_3 x38_2).f1.f0) == ((rd_T45 l1_3 x38_2).f1.f0)) || (!(((rd_T45 l0_3 x38_2).f1.f1) == ((rd_T45 l1_3 x38_2).f1.f1)) || (!(((rd_T45 l0_3 x38_2).f1.f2) == ((rd_T45 l1_3 x38_2).f1.f2))))))) = false := by simpa using c29
           clear c29
           have H' := Aside0.mk H
           clear H
           have hnb33 := NB397_398.out
           have hnc33 := NB398_397.out
           have hcz34_0 : wr.cell? ⟨gb397, 0, none⟩ = some (.int .i64 a0_0) := (blk_cell BK397.out 0).trans rfl
           have hcz34_1 : wr.cell? ⟨gb397, 1, none⟩ = some (.int .u32 a0_1) := (blk_cell BK397.out 1).trans rfl
           have hcz34_2 : wr.cell? ⟨gb397, 2, none⟩ = some (.slice A0_2 l0_2.length c0_2) := (blk_cell BK397.out 2).trans rfl
           have hcz34_3 : wr.cell? ⟨gb397, 3, none⟩ = some (.slice A0_3 l0_3.length c0_3) := (blk_cell BK397.out 3).trans rfl
           have hfz34_0 := blk_frozen BK397.out 0
           have hfz34_1 := blk_frozen BK397.out 1
           have hfz34_2 := blk_frozen BK397.out 2
           have hfz34_3 := blk_frozen BK397.out 3
           have p400 : 0 ≤ (x38_2 : Int) := of_decide_eq_true y2_
           have q400 : x38_2 < (l0_3.length : Int) := of_decide_eq_true y2_
           obtain ⟨ad400, e400, hx400_0, hx400_1, hx400_2, hx400_3⟩ := at_T45 HR0_3.out x38_2 p400 q400
           cases e400
           replace hx400_0 := (HB.out.cell (World.block_lt_of_cell? w _ hx400_0)).trans hx400_0
           replace hx400_1 := (HB.out.cell (World.block_lt_of_cell? w _ hx400_1)).trans hx400_1
           replace hx400_2 := (HB.out.cell (World.block_lt_of_cell? w _ hx400_2)).trans hx400_2
           replace hx400_3 := (HB.out.cell (World.block_lt_of_cell? w _ hx400_3)).trans hx400_3
           replace p400 := eq_true p400
           replace q400 := eq_true q400
           have hcz35_0 : wr.cell? ⟨gb398, 0, none⟩ = some (.int .i64 a1_0) := (blk_cell BK398.out 0).trans rfl
           have hcz35_1 : wr.cell? ⟨gb398, 1, none⟩ = some (.int .u32 a1_1) := (blk_cell BK398.out 1).trans rfl
           have hcz35_2 : wr.cell? ⟨gb398, 2, none⟩ = some (.slice A1_2 l1_2.length c1_2) := (blk_cell BK398.out 2).trans rfl
           have hcz35_3 : wr.cell? ⟨gb398, 3, none⟩ = some (.slice A1_3 l1_3.length c1_3) := (blk_cell BK398.out 3).trans rfl
           have hfz35_0 := blk_frozen BK398.out 0
           have hfz35_1 := blk_frozen BK398.out 1
           have hfz35_2 := blk_frozen BK398.out 2
           have hfz35_3 := blk_frozen BK398.out 3
           have p401 : 0 ≤ (x38_2 : Int) := of_decide_eq_true y2_
           have q401 : x38_2 < (l1_3.length : Int) := of_decide_eq_true y2_
           obtain ⟨ad401, e401, hx401_0, hx401_1, hx401_2, hx401_3⟩ := at_T45 HR1_3.out x38_2 p401 q401
           cases e401
           replace hx401_0 := (HB.out.cell (World.block_lt_of_cell? w _ hx401_0)).trans hx401_0
           replace hx401_1 := (HB.out.cell (World.block_lt_of_cell? w _ hx401_1)).trans hx401_1
           replace hx401_2 := (HB.out.cell (World.block_lt_of_cell? w _ hx401_2)).trans hx401_2
           replace hx401_3 := (HB.out.cell (World.block_lt_of_cell? w _ hx401_3)).trans hx401_3
           replace p401 := eq_true p401
           replace q401 := eq_true q401
           go_wp2
           repeat (go_quiet (fail); try go_wp2)
           go_roundg k2
           case measure => have := HJ2.out; have := HK2.out; omega
           case rel => exact ⟨(wrap64 (x38_2 + 1)), y7_, H', ⟨by have := HJ2.out; have := HK2.out; omega⟩, ⟨y35_⟩, ⟨y60_⟩, ⟨y36_⟩⟩
         ·rw [if_neg c28] at H
          exact absurd H (by simp)
        ·rw [if_neg c27] at H
         exact absurd H (by simp)
       ·rw [if_neg c26] at H
        exact absurd H (by simp)
      ·rw [if_neg c25] at H
       have c25b0 : decide (x38_2 < (l0_3.length : Int)) = false := decide_eq_false c25
       clear c25
       obtain rfl := Option.some.inj H
       go_wp2
       repeat (go_quiet (fail); try go_wp2)
       go_ret
       exact ⟨y4_, y36_⟩
def manometerlaw13_RecordTakes.j0 : Nat → List Int → Bool → Option (Bool)
 | 0, _, _ => none
 | k + 1, x0, x13 => if x13 = true then ((manometerlaw13_live.f k).bind fun t403 => (some t403)) else ((record_Take.f k x0).bind fun bt404 => ((manometerref13_Take.f k x0).bind fun bt414 => ((manometerref13_Same.f k bt404.1 bt404.2.1 bt404.2.2.1 bt404.2.2.2.1 bt414.1 bt414.2.1 bt414.2.2.1 bt414.2.2.2.1).bind fun t424 => (if t424 = true then (some (bt404.2.2.2.2 == bt414.2.2.2.2)) else (some false)))))
def manometerlaw13_RecordTakes.f (k : Nat) (l0 : List Int) : Option (Bool) := (manometerlaw13_live.f k).bind fun t402 => (if t402 = true then (manometerlaw13_RecordTakes.j0 k l0 (decide ((l0.length : Int) > 6000))) else (manometerlaw13_RecordTakes.j0 k l0 true))
set_option maxHeartbeats 8000000 in
set_option maxRecDepth 100000 in
theorem manometerlaw13_RecordTakes.calls (k : Nat) (A0 : Option Addr) (c0 : Nat) (l0 : List Int) (r : Bool) (w : World) (hT : Aside0 (Tab w)) (hr0 : Kd.C (Kd.int .u8) w A0 l0.length l0) (hc0 : l0.length ≤ c0) (h : manometerlaw13_RecordTakes.f k l0 = some r) :
  Calls Tryd.prog 3 #[.slice A0 l0.length c0] w fun e w' => e = .returned (.bool r) ∧ Below w.heap.size w w' := by
 have hu29 := Tryd.underlying29
 have HR0 := Aside0.mk hr0
 have HC0 := Aside0.mk hc0
 clear hr0 hc0
 have HB := Aside0.mk (Below.refl w.heap.size w)
 have H : ((manometerlaw13_live.f k).bind fun t402 => (if t402 = true then (manometerlaw13_RecordTakes.j0 k l0 (decide ((l0.length : Int) > 6000))) else (manometerlaw13_RecordTakes.j0 k l0 true))) = some r := h
 clear h
 have HC2 := Aside0.mk H
 clear H
 go_enter Tryd.func3, Tryd.ntmps3
 go_upto_region 1 with (fail)
 go_cut [13] (fun v13 wc => ∃ (kq : Nat) (x13_1 : Bool), v13 = .bool x13_1 ∧ Aside0 (manometerlaw13_RecordTakes.j0 kq l0 x13_1 = some r) ∧ Aside0 (kq ≤ k) ∧ Aside0 (Below w.heap.size w wc))
 case first =>
  have H := HC2.out
  clear HC2
  replace H := Option.bind_eq_some_iff.mp H
  obtain ⟨t402, A30, H⟩ := H
  replace H : (if t402 = true then (manometerlaw13_RecordTakes.j0 k l0 (decide ((l0.length : Int) > 6000))) else (manometerlaw13_RecordTakes.j0 k l0 true)) = some r := H
  have A3 := Aside0.mk A30
  clear A30
  by_cases c4 : t402 = true
  ·subst c4
   have H1 : (manometerlaw13_RecordTakes.j0 k l0 (decide ((l0.length : Int) > 6000))) = some r := by rw [if_pos rfl] at H; exact H
   clear H
   have H := H1
   clear H1
   have H' := Aside0.mk H
   clear H
   go_wp2_with (first | ((with_reducible refine gate_callee (f := 8) rfl ?_); refine goesL_ (some 7) rfl rfl Tryd.func8 (by kernel_rfl) rfl #[] rfl y3_ ?_; (with_reducible refine (manometerlaw13_live.calls k  true _ ?side1 A3.out).mono ?_); (case side1 => exact ⟨Tab_below hT.out y1_⟩); rintro e w5 ⟨rfl, hb⟩; refine ⟨_, rfl, ?_⟩; have n0_ := Aside0.mk (below_step y1_ hb); clear HB; have HB := n0_; clear n0_; (try clear hb); (try clear hb2); (try clear hk); (try clear hi)))
   go_meet
   case rel => exact ⟨_, (decide ((l0.length : Int) > 6000)), y7_, H', ⟨y65_⟩, ⟨y1_⟩⟩
  ·replace c4 := Bool.eq_false_iff.mpr c4
   subst c4
   have H1 : (manometerlaw13_RecordTakes.j0 k l0 true) = some r := by rw [if_neg (show ¬ (false = true) by decide)] at H; exact H
   clear H
   have H := H1
   clear H1
   have H' := Aside0.mk H
   clear H
   go_wp2_with (first | ((with_reducible refine gate_callee (f := 8) rfl ?_); refine goesL_ (some 7) rfl rfl Tryd.func8 (by kernel_rfl) rfl #[] rfl y3_ ?_; (with_reducible refine (manometerlaw13_live.calls k  false _ ?side1 A3.out).mono ?_); (case side1 => exact ⟨Tab_below hT.out y1_⟩); rintro e w6 ⟨rfl, hb⟩; refine ⟨_, rfl, ?_⟩; have n0_ := Aside0.mk (below_step y1_ hb); clear HB; have HB := n0_; clear n0_; (try clear hb); (try clear hb2); (try clear hk); (try clear hi)))
   go_meet
   case rel => exact ⟨_, (true), y7_, H', ⟨y65_⟩, ⟨y1_⟩⟩
 case rest =>
  clear HC2
  try clear p2
  try clear c3
  try clear c4
  obtain ⟨kq, x13_1, rfl, HA, HJ1, HB⟩ := hcut
  cases kq with
  | zero => exact absurd HA.out (by simp [manometerlaw13_RecordTakes.j0])
  | succ kj1 =>
   have H := HA.out
   clear HA
   simp only [manometerlaw13_RecordTakes.j0] at H
   by_cases c7 : x13_1 = true
   ·subst c7
    have H1 : ((manometerlaw13_live.f kj1).bind fun t403 => (some t403)) = some r := by rw [if_pos rfl] at H; exact H
    clear H
    have H := H1
    clear H1
    replace H := Option.bind_eq_some_iff.mp H
    obtain ⟨t403, A80, H⟩ := H
    replace H : (some t403) = some r := H
    have A8 := Aside0.mk A80
    clear A80
    obtain rfl := Option.some.inj H
    go_wp2_with (first | ((with_reducible refine gate_callee (f := 8) rfl ?_); refine goesL_ (some 14) rfl rfl Tryd.func8 (by kernel_rfl) rfl #[] rfl y3_ ?_; (with_reducible refine (manometerlaw13_live.calls kj1  t403 _ ?side1 A8.out).mono ?_); (case side1 => exact ⟨Tab_below hT.out y1_⟩); rintro e w9 ⟨rfl, hb⟩; refine ⟨_, rfl, ?_⟩; have n0_ := Aside0.mk (below_step y1_ hb); clear HB; have HB := n0_; clear n0_; (try clear hb); (try clear hb2); (try clear hk); (try clear hi)))
    go_ret
    exact ⟨y4_, y1_⟩
   ·replace c7 := Bool.eq_false_iff.mpr c7
    subst c7
    have H1 : ((record_Take.f kj1 l0).bind fun bt404 => ((manometerref13_Take.f kj1 l0).bind fun bt414 => ((manometerref13_Same.f kj1 bt404.1 bt404.2.1 bt404.2.2.1 bt404.2.2.2.1 bt414.1 bt414.2.1 bt414.2.2.1 bt414.2.2.2.1).bind fun t424 => (if t424 = true then (some (bt404.2.2.2.2 == bt414.2.2.2.2)) else (some false))))) = some r := by rw [if_neg (show ¬ (false = true) by decide)] at H; exact H
    clear H
    have H := H1
    clear H1
    replace H := Option.bind_eq_some_iff.mp H
    obtain ⟨⟨t404, t405, t406, t409, t412⟩, A100, H⟩ := H
    replace H : ((manometerref13_Take.f kj1 l0).bind fun bt414 => ((manometerref13_Same.f kj1 t404 t405 t406 t409 bt414.1 bt414.2.1 bt414.2.2.1 bt414.2.2.2.1).bind fun t424 => (if t424 = true then (some (t412 == bt414.2.2.2.2)) else (some false)))) = some r := H
    have A10 := Aside0.mk A100
    clear A100
    replace H := Option.bind_eq_some_iff.mp H
    obtain ⟨⟨t414, t415, t416, t419, t422⟩, A110, H⟩ := H
    replace H : ((manometerref13_Same.f kj1 t404 t405 t406 t409 t414 t415 t416 t419).bind fun t424 => (if t424 = true then (some (t412 == t422)) else (some false))) = some r := H
    have A11 := Aside0.mk A110
    clear A110
    replace H := Option.bind_eq_some_iff.mp H
    obtain ⟨t424, A120, H⟩ := H
    replace H : (if t424 = true then (some (t412 == t422)) else (some false)) = some r := H
    have A12 := Aside0.mk A120
    clear A120
    by_cases c13 : t424 = true
    ·subst c13
     have H1 : (some (t412 == t422)) = some r := by rw [if_pos rfl] at H; exact H
     clear H
     have H := H1
     clear H1
     obtain rfl := Option.some.inj H
     go_wp2_with (first | ((with_reducible refine gate_callee (f := 9) rfl ?_); refine goesL_ (some 17) rfl rfl Tryd.func9 (by kernel_rfl) rfl #[.slice A0 l0.length c0] rfl y3_ ?_; (with_reducible refine (record_Take.calls kj1 _ _ l0 t404 t405 t406 t409 t412 _ ?side1 ?side2 ?side3 A10.out).mono ?_); (case side1 => exact ⟨Tab_below hT.out y1_⟩); (case side2 => repeat (first | exact (Kd.C_below HR0.out HB.out) | (with_reducible refine Kd.C_alloc ?_ _) | (with_reducible refine Kd.C_drewN ?_ _) | (with_reducible refine Kd.C_drew ?_))); (case side3 => exact HC0.out); rintro e w14 ⟨v407, v410, rfl, ho0, ho1, hb⟩; refine ⟨_, rfl, ?_⟩; have n0_ := Aside0.mk (Kd.R_lower ho0 (below_size y1_)); have n1_ := Aside0.mk (Kd.R_lower ho1 (below_size y1_)); have n2_ := Aside0.mk (below_step y1_ hb); clear HB; have HO408 := n0_; have HO411 := n1_; have HB := n2_; clear n0_ n1_ n2_; (try clear hb); (try clear hb2); (try clear hk); (try clear hi); (try clear ho0); (try clear ho1)) | ((with_reducible refine gate_dst (N := 3) rfl ?_); (try (refine gate_guard (by rfl) ?_; dsimp only)); refine box_event ?hg (N := 3) ?hd (cs := #[.int .i64 0, .int .u32 0, .slice none 0 0, .slice none 0 0]) (t := 29) ?hr ?_; (case hd => rfl); (case hg => rfl); (case hr => first | (go_simp; done) | (go_simp; rfl)); intro gb413 hg w15 hbox hb; have n0_ := Aside0.mk (Kd.R_below y56_ hb); have n1_ := Aside0.mk (Kd.R_below y55_ hb); have n2_ := Aside0.mk (below_step y1_ hb); have n3_ := Aside0.mk (hbox); have n4_ := Aside0.mk ((y12_ : w.heap.size ≤ gb413)); have n5_ := Aside0.mk ((y12_ : w.heap.size ≤ gb413)); clear HO408; clear HO411; clear HB; have HO408 := n0_; have HO411 := n1_; have HB := n2_; have BK413 := n3_; have GW413 := n4_; have GE413 := n5_; clear n0_ n1_ n2_ n3_ n4_ n5_; clear hb hbox hg; have hcz16_0 : w15.cell? ⟨gb413, 0, none⟩ = some (.int .i64 0) := (blk_cell BK413.out 0).trans rfl; have hcz16_1 : w15.cell? ⟨gb413, 1, none⟩ = some (.int .u32 0) := (blk_cell BK413.out 1).trans rfl; have hcz16_2 : w15.cell? ⟨gb413, 2, none⟩ = some (.slice none 0 0) := (blk_cell BK413.out 2).trans rfl; have hcz16_3 : w15.cell? ⟨gb413, 3, none⟩ = some (.slice none 0 0) := (blk_cell BK413.out 3).trans rfl; have hfz16_0 := blk_frozen BK413.out 0; have hfz16_1 := blk_frozen BK413.out 1; have hfz16_2 := blk_frozen BK413.out 2; have hfz16_3 := blk_frozen BK413.out 3; obtain ⟨Ao17, co17, eo17⟩ := Kd.R_slice HO408.out; subst eo17; obtain ⟨Ao18, co18, eo18⟩ := Kd.R_slice HO411.out; subst eo18) | ((with_reducible refine gate_store (t := 29) (p := 3) rfl ?_); refine store_event (t := 29) (p := 3) (v := ?vo_w19) (w1 := ((((w15.setCell ⟨gb413, 0, none⟩ (.int .i64 t404)).setCell ⟨gb413, 1, none⟩ (.int .u32 t405)).setCell ⟨gb413, 2, none⟩ (.slice Ao17 t406.length co17)).setCell ⟨gb413, 3, none⟩ (.slice Ao18 t409.length co18))) ?hg ?ho ?hn ?hr ?_; (case ho => rfl); (case hg => rfl); (case hn => rfl); (case hr => first | (go_simp; done) | (go_simp; rfl)); intro w19 hw; have n0_ : Aside0 (Kd.R k52 52 w19 w.heap.size (fun _ => True) (.slice Ao17 t406.length co17) t406) := ⟨(by rw [hw]; exact (by (with_reducible repeat (first | apply Kd.R_alloc | apply Kd.R_drewN | apply Kd.R_drew)); exact Kd.R_mono (Kd.R_far (p := ⟨gb413, 3, none⟩) (Kd.R_far (p := ⟨gb413, 2, none⟩) (Kd.R_far (p := ⟨gb413, 1, none⟩) (Kd.R_far (p := ⟨gb413, 0, none⟩) (Kd.R_types HO408.out BK413.out (by decide)) (fun _ hk => hk.2) (.int .i64 t404)) (fun _ hk => hk.2) (.int .u32 t405)) (fun _ hk => hk.2) (.slice Ao17 t406.length co17)) (fun _ hk => hk.2) (.slice Ao18 t409.length co18)) (fun _ hk => trivial)))⟩; have n1_ : Aside0 (Kd.R k45 45 w19 w.heap.size (fun _ => True) (.slice Ao18 t409.length co18) t409) := ⟨(by rw [hw]; exact (by (with_reducible repeat (first | apply Kd.R_alloc | apply Kd.R_drewN | apply Kd.R_drew)); exact Kd.R_mono (Kd.R_far (p := ⟨gb413, 3, none⟩) (Kd.R_far (p := ⟨gb413, 2, none⟩) (Kd.R_far (p := ⟨gb413, 1, none⟩) (Kd.R_far (p := ⟨gb413, 0, none⟩) (Kd.R_types HO411.out BK413.out (by decide)) (fun _ hk => hk.2) (.int .i64 t404)) (fun _ hk => hk.2) (.int .u32 t405)) (fun _ hk => hk.2) (.slice Ao17 t406.length co17)) (fun _ hk => hk.2) (.slice Ao18 t409.length co18)) (fun _ hk => trivial)))⟩; have n2_ : Aside0 (w19.heap[gb413]? = some (.cells #[.int .i64 t404, .int .u32 t405, .slice Ao17 t406.length co17, .slice Ao18 t409.length co18] 29 (0, 0))) := ⟨(by rw [hw]; exact (by (with_reducible repeat (first | refine blk_drewN ?_ _ | refine blk_drew ?_ | refine blk_alloc ?_ _)); refine blk_put (cs := #[.int .i64 t404, .int .u32 t405, .slice Ao17 t406.length co17, .slice none 0 0]) ?_ 3 _ rfl; (with_reducible repeat (first | refine blk_drewN ?_ _ | refine blk_drew ?_ | refine blk_alloc ?_ _)); refine blk_put (cs := #[.int .i64 t404, .int .u32 t405, .slice none 0 0, .slice none 0 0]) ?_ 2 _ rfl; (with_reducible repeat (first | refine blk_drewN ?_ _ | refine blk_drew ?_ | refine blk_alloc ?_ _)); refine blk_put (cs := #[.int .i64 t404, .int .u32 0, .slice none 0 0, .slice none 0 0]) ?_ 1 _ rfl; (with_reducible repeat (first | refine blk_drewN ?_ _ | refine blk_drew ?_ | refine blk_alloc ?_ _)); refine blk_put (cs := #[.int .i64 0, .int .u32 0, .slice none 0 0, .slice none 0 0]) ?_ 0 _ rfl; (with_reducible repeat (first | refine blk_drewN ?_ _ | refine blk_drew ?_ | refine blk_alloc ?_ _)); exact BK413.out))⟩; have n3_ : Aside0 (Below w.heap.size w w19) := ⟨(by rw [hw]; exact y27_)⟩; clear hw; clear HO408; clear HO411; clear BK413; clear HB; have HO408 := n0_; have HO411 := n1_; have BK413 := n2_; have HB := n3_; clear n0_ n1_ n2_ n3_) | ((with_reducible refine gate_callee (f := 10) rfl ?_); refine goesL_ (some 22) rfl rfl Tryd.func10 (by kernel_rfl) rfl #[.slice A0 l0.length c0] rfl y3_ ?_; (with_reducible refine (manometerref13_Take.calls kj1 (fun k_ => k_ < w.heap.size) _ _ l0 t414 t415 t416 t419 t422 _ ?side1 A11.out).mono ?_); (case side1 => exact Kd.V_mk HC0.out (Kd.F_below (Kd.C_F (Kd.heap_int .u8) HR0.out) y27_)); rintro e w20 ⟨v417, v420, rfl, ho0, ho1, hb⟩; refine ⟨_, rfl, ?_⟩; have n0_ := Aside0.mk (Kd.R_elder' y56_ (Kd.R_base ho0) hb); have n1_ := Aside0.mk (Kd.R_elder' y55_ (Kd.R_base ho1) hb); have n2_ := Aside0.mk (Kd.R_lower (Kd.R_new' (Kd.R_mono (ok' := fun k_ => True) ho0 (fun _ hk_ => trivial)) (Kd.R_lt y56_)) (below_size y27_)); have n3_ := Aside0.mk (Kd.R_lower (Kd.R_new' (Kd.R_mono (ok' := fun k_ => True) ho1 (fun _ hk_ => trivial)) (Kd.R_lt y55_)) (below_size y27_)); have n4_ := Aside0.mk (blk_below (g := gb413) (o := .cells #[.int .i64 t404, .int .u32 t405, .slice Ao17 t406.length co17, .slice Ao18 t409.length co18] 29 (0, 0)) y51_ hb); have n5_ := Aside0.mk (below_step y27_ hb); clear HO408; clear HO411; clear BK413; clear HB; have HO408 := n0_; have HO411 := n1_; have HO418 := n2_; have HO421 := n3_; have BK413 := n4_; have HB := n5_; clear n0_ n1_ n2_ n3_ n4_ n5_; (try clear hb); (try clear hb2); (try clear hk); (try clear hi); (try clear ho0); (try clear ho1)) | ((with_reducible refine gate_dst (N := 5) rfl ?_); (try (refine gate_guard (by rfl) ?_; dsimp only)); refine box_event ?hg (N := 5) ?hd (cs := #[.int .i64 0, .int .u32 0, .slice none 0 0, .slice none 0 0]) (t := 29) ?hr ?_; (case hd => rfl); (case hg => rfl); (case hr => first | (go_simp; done) | (go_simp; rfl)); intro gb423 hg w21 hbox hb; have n0_ := Aside0.mk (Kd.R_below y56_ hb); have n1_ := Aside0.mk (Kd.R_below y55_ hb); have n2_ := Aside0.mk (Kd.R_below (by (with_reducible repeat (first | apply Kd.R_alloc | apply Kd.R_drewN | apply Kd.R_drew)); exact HO418.out) hb); have n3_ := Aside0.mk (Kd.R_below (by (with_reducible repeat (first | apply Kd.R_alloc | apply Kd.R_drewN | apply Kd.R_drew)); exact HO421.out) hb); have n4_ := Aside0.mk (blk_below (g := gb413) (o := .cells #[.int .i64 t404, .int .u32 t405, .slice Ao17 t406.length co17, .slice Ao18 t409.length co18] 29 (0, 0)) y51_ hb); have n5_ := Aside0.mk (below_step y27_ hb); have n6_ := Aside0.mk (hbox); have n7_ := Aside0.mk ((by rw [hg]; exact (below_size y27_) : w.heap.size ≤ gb423)); have n8_ := Aside0.mk ((by rw [hg]; exact (below_size y27_) : w.heap.size ≤ gb423)); have n9_ := Aside0.mk ((by rw [hg]; exact Nat.ne_of_lt (blk_lt (g := gb413) (o := .cells #[.int .i64 t404, .int .u32 t405, .slice Ao17 t406.length co17, .slice Ao18 t409.length co18] 29 (0, 0)) y51_) : gb413 ≠ gb423)); have n10_ := Aside0.mk ((by rw [hg]; exact Nat.ne_of_gt (blk_lt (g := gb413) (o := .cells #[.int .i64 t404, .int .u32 t405, .slice Ao17 t406.length co17, .slice Ao18 t409.length co18] 29 (0, 0)) y51_) : gb423 ≠ gb413)); clear HO408; clear HO411; clear HO418; clear HO421; clear BK413; clear HB; have HO408 := n0_; have HO411 := n1_; have HO418 := n2_; have HO421 := n3_; have BK413 := n4_; have HB := n5_; have BK423 := n6_; have GW423 := n7_; have GE423 := n8_; have NB413_423 := n9_; have NB423_413 := n10_; clear n0_ n1_ n2_ n3_ n4_ n5_ n6_ n7_ n8_ n9_ n10_; clear hb hbox hg; have hnb22 := NB423_413.out; have hnc22 := NB413_423.out; have hcz23_0 : w21.cell? ⟨gb423, 0, none⟩ = some (.int .i64 0) := (blk_cell BK423.out 0).trans rfl; have hcz23_1 : w21.cell? ⟨gb423, 1, none⟩ = some (.int .u32 0) := (blk_cell BK423.out 1).trans rfl; have hcz23_2 : w21.cell? ⟨gb423, 2, none⟩ = some (.slice none 0 0) := (blk_cell BK423.out 2).trans rfl; have hcz23_3 : w21.cell? ⟨gb423, 3, none⟩ = some (.slice none 0 0) := (blk_cell BK423.out 3).trans rfl; have hfz23_0 := blk_frozen BK423.out 0; have hfz23_1 := blk_frozen BK423.out 1; have hfz23_2 := blk_frozen BK423.out 2; have hfz23_3 := blk_frozen BK423.out 3; obtain ⟨Ao24, co24, eo24⟩ := Kd.R_slice HO418.out; subst eo24; obtain ⟨Ao25, co25, eo25⟩ := Kd.R_slice HO421.out; subst eo25; have hcz26_0 : w21.cell? ⟨gb413, 0, none⟩ = some (.int .i64 t404) := (blk_cell BK413.out 0).trans rfl; have hcz26_1 : w21.cell? ⟨gb413, 1, none⟩ = some (.int .u32 t405) := (blk_cell BK413.out 1).trans rfl; have hcz26_2 : w21.cell? ⟨gb413, 2, none⟩ = some (.slice Ao17 t406.length co17) := (blk_cell BK413.out 2).trans rfl; have hcz26_3 : w21.cell? ⟨gb413, 3, none⟩ = some (.slice Ao18 t409.length co18) := (blk_cell BK413.out 3).trans rfl; have hfz26_0 := blk_frozen BK413.out 0; have hfz26_1 := blk_frozen BK413.out 1; have hfz26_2 := blk_frozen BK413.out 2; have hfz26_3 := blk_frozen BK413.out 3) | ((with_reducible refine gate_callee (f := 11) rfl ?_); refine goesL_ (some 27) rfl rfl Tryd.func11 (by kernel_rfl) rfl #[.agg #[.int .i64 t404, .int .u32 t405, .slice Ao17 t406.length co17, .slice Ao18 t409.length co18], .agg #[.int .i64 t414, .int .u32 t415, .slice Ao24 t416.length co24, .slice Ao25 t419.length co25]] rfl y3_ ?_; (with_reducible refine (manometerref13_Same.calls kj1 t404 t405 _ _ t406 _ _ t409 t414 t415 _ _ t416 _ _ t419 true _ ?side1 ?side2 ?side3 ?side4 ?side5 ?side6 ?side7 ?side8 A12.out).mono ?_); (case side1 => refine (Kd.R_reads' (e := 52) (base := w.heap.size) (ok := fun k_ => (True ∧ some k_ ≠ (.slice Ao24 t416.length co24 : Value).ownBlock)) (n := t406.length) (c := co17) ?_).2.2; exact y76_); (case side2 => exact (Kd.R_reads' HO408.out).2.1); (case side3 => refine (Kd.R_reads' (e := 45) (base := w.heap.size) (ok := fun k_ => (True ∧ some k_ ≠ (.slice Ao25 t419.length co25 : Value).ownBlock)) (n := t409.length) (c := co18) ?_).2.2; exact y74_); (case side4 => exact (Kd.R_reads' HO411.out).2.1); (case side5 => refine (Kd.R_reads' (e := 52) (base := w.heap.size) (ok := fun k_ => (True ∧ some k_ ≠ (.slice Ao17 t406.length co17 : Value).ownBlock)) (n := t416.length) (c := co24) ?_).2.2; exact y72_); (case side6 => exact (Kd.R_reads' HO418.out).2.1); (case side7 => refine (Kd.R_reads' (e := 45) (base := w.heap.size) (ok := fun k_ => (True ∧ some k_ ≠ (.slice Ao18 t409.length co18 : Value).ownBlock)) (n := t419.length) (c := co25) ?_).2.2; exact y70_); (case side8 => exact (Kd.R_reads' HO421.out).2.1); rintro e w27 ⟨rfl, hb⟩; refine ⟨_, rfl, ?_⟩; have n0_ := Aside0.mk (Kd.R_below y76_ hb); have n1_ := Aside0.mk (Kd.R_below y74_ hb); have n2_ := Aside0.mk (Kd.R_below y72_ hb); have n3_ := Aside0.mk (Kd.R_below y70_ hb); have n4_ := Aside0.mk (blk_below (g := gb413) (o := .cells #[.int .i64 t404, .int .u32 t405, .slice Ao17 t406.length co17, .slice Ao18 t409.length co18] 29 (0, 0)) y57_ hb); have n5_ := Aside0.mk (blk_below (g := gb423) (o := .cells #[.int .i64 t414, .int .u32 t415, .slice Ao24 t416.length co24, .slice Ao25 t419.length co25] 29 (0, 0)) (by (with_reducible repeat (first | refine blk_drewN ?_ _ | refine blk_drew ?_ | refine blk_alloc ?_ _)); refine blk_put (cs := #[.int .i64 t414, .int .u32 t415, .slice Ao24 t416.length co24, .slice none 0 0]) ?_ 3 _ rfl; (with_reducible repeat (first | refine blk_drewN ?_ _ | refine blk_drew ?_ | refine blk_alloc ?_ _)); refine blk_put (cs := #[.int .i64 t414, .int .u32 t415, .slice none 0 0, .slice none 0 0]) ?_ 2 _ rfl; (with_reducible repeat (first | refine blk_drewN ?_ _ | refine blk_drew ?_ | refine blk_alloc ?_ _)); refine blk_put (cs := #[.int .i64 t414, .int .u32 0, .slice none 0 0, .slice none 0 0]) ?_ 1 _ rfl; (with_reducible repeat (first | refine blk_drewN ?_ _ | refine blk_drew ?_ | refine blk_alloc ?_ _)); refine blk_put (cs := #[.int .i64 0, .int .u32 0, .slice none 0 0, .slice none 0 0]) ?_ 0 _ rfl; (with_reducible repeat (first | refine blk_drewN ?_ _ | refine blk_drew ?_ | refine blk_alloc ?_ _)); exact BK423.out) hb); have n6_ := Aside0.mk (below_step y58_ hb); clear HO408; clear HO411; clear HO418; clear HO421; clear BK413; clear BK423; clear HB; have HO408 := n0_; have HO411 := n1_; have HO418 := n2_; have HO421 := n3_; have BK413 := n4_; have BK423 := n5_; have HB := n6_; clear n0_ n1_ n2_ n3_ n4_ n5_ n6_; (try clear hb); (try clear hb2); (try clear hk); (try clear hi)))
     go_ret
     exact ⟨y4_, y58_⟩
    ·replace c13 := Bool.eq_false_iff.mpr c13
     subst c13
     have H1 : (some false) = some r := by rw [if_neg (show ¬ (false = true) by decide)] at H; exact H
     clear H
     have H := H1
     clear H1
     obtain rfl := Option.some.inj H
     go_wp2_with (first | ((with_reducible refine gate_callee (f := 9) rfl ?_); refine goesL_ (some 17) rfl rfl Tryd.func9 (by kernel_rfl) rfl #[.slice A0 l0.length c0] rfl y3_ ?_; (with_reducible refine (record_Take.calls kj1 _ _ l0 t404 t405 t406 t409 t412 _ ?side1 ?side2 ?side3 A10.out).mono ?_); (case side1 => exact ⟨Tab_below hT.out y1_⟩); (case side2 => repeat (first | exact (Kd.C_below HR0.out HB.out) | (with_reducible refine Kd.C_alloc ?_ _) | (with_reducible refine Kd.C_drewN ?_ _) | (with_reducible refine Kd.C_drew ?_))); (case side3 => exact HC0.out); rintro e w28 ⟨v407, v410, rfl, ho0, ho1, hb⟩; refine ⟨_, rfl, ?_⟩; have n0_ := Aside0.mk (Kd.R_lower ho0 (below_size y1_)); have n1_ := Aside0.mk (Kd.R_lower ho1 (below_size y1_)); have n2_ := Aside0.mk (below_step y1_ hb); clear HB; have HO408 := n0_; have HO411 := n1_; have HB := n2_; clear n0_ n1_ n2_; (try clear hb); (try clear hb2); (try clear hk); (try clear hi); (try clear ho0); (try clear ho1)) | ((with_reducible refine gate_dst (N := 3) rfl ?_); (try (refine gate_guard (by rfl) ?_; dsimp only)); refine box_event ?hg (N := 3) ?hd (cs := #[.int .i64 0, .int .u32 0, .slice none 0 0, .slice none 0 0]) (t := 29) ?hr ?_; (case hd => rfl); (case hg => rfl); (case hr => first | (go_simp; done) | (go_simp; rfl)); intro gb413 hg w29 hbox hb; have n0_ := Aside0.mk (Kd.R_below y56_ hb); have n1_ := Aside0.mk (Kd.R_below y55_ hb); have n2_ := Aside0.mk (below_step y1_ hb); have n3_ := Aside0.mk (hbox); have n4_ := Aside0.mk ((y12_ : w.heap.size ≤ gb413)); have n5_ := Aside0.mk ((y12_ : w.heap.size ≤ gb413)); clear HO408; clear HO411; clear HB; have HO408 := n0_; have HO411 := n1_; have HB := n2_; have BK413 := n3_; have GW413 := n4_; have GE413 := n5_; clear n0_ n1_ n2_ n3_ n4_ n5_; clear hb hbox hg; have hcz30_0 : w29.cell? ⟨gb413, 0, none⟩ = some (.int .i64 0) := (blk_cell BK413.out 0).trans rfl; have hcz30_1 : w29.cell? ⟨gb413, 1, none⟩ = some (.int .u32 0) := (blk_cell BK413.out 1).trans rfl; have hcz30_2 : w29.cell? ⟨gb413, 2, none⟩ = some (.slice none 0 0) := (blk_cell BK413.out 2).trans rfl; have hcz30_3 : w29.cell? ⟨gb413, 3, none⟩ = some (.slice none 0 0) := (blk_cell BK413.out 3).trans rfl; have hfz30_0 := blk_frozen BK413.out 0; have hfz30_1 := blk_frozen BK413.out 1; have hfz30_2 := blk_frozen BK413.out 2; have hfz30_3 := blk_frozen BK413.out 3; obtain ⟨Ao31, co31, eo31⟩ := Kd.R_slice HO408.out; subst eo31; obtain ⟨Ao32, co32, eo32⟩ := Kd.R_slice HO411.out; subst eo32) | ((with_reducible refine gate_store (t := 29) (p := 3) rfl ?_); refine store_event (t := 29) (p := 3) (v := ?vo_w33) (w1 := ((((w29.setCell ⟨gb413, 0, none⟩ (.int .i64 t404)).setCell ⟨gb413, 1, none⟩ (.int .u32 t405)).setCell ⟨gb413, 2, none⟩ (.slice Ao31 t406.length co31)).setCell ⟨gb413, 3, none⟩ (.slice Ao32 t409.length co32))) ?hg ?ho ?hn ?hr ?_; (case ho => rfl); (case hg => rfl); (case hn => rfl); (case hr => first | (go_simp; done) | (go_simp; rfl)); intro w33 hw; have n0_ : Aside0 (Kd.R k52 52 w33 w.heap.size (fun _ => True) (.slice Ao31 t406.length co31) t406) := ⟨(by rw [hw]; exact (by (with_reducible repeat (first | apply Kd.R_alloc | apply Kd.R_drewN | apply Kd.R_drew)); exact Kd.R_mono (Kd.R_far (p := ⟨gb413, 3, none⟩) (Kd.R_far (p := ⟨gb413, 2, none⟩) (Kd.R_far (p := ⟨gb413, 1, none⟩) (Kd.R_far (p := ⟨gb413, 0, none⟩) (Kd.R_types HO408.out BK413.out (by decide)) (fun _ hk => hk.2) (.int .i64 t404)) (fun _ hk => hk.2) (.int .u32 t405)) (fun _ hk => hk.2) (.slice Ao31 t406.length co31)) (fun _ hk => hk.2) (.slice Ao32 t409.length co32)) (fun _ hk => trivial)))⟩; have n1_ : Aside0 (Kd.R k45 45 w33 w.heap.size (fun _ => True) (.slice Ao32 t409.length co32) t409) := ⟨(by rw [hw]; exact (by (with_reducible repeat (first | apply Kd.R_alloc | apply Kd.R_drewN | apply Kd.R_drew)); exact Kd.R_mono (Kd.R_far (p := ⟨gb413, 3, none⟩) (Kd.R_far (p := ⟨gb413, 2, none⟩) (Kd.R_far (p := ⟨gb413, 1, none⟩) (Kd.R_far (p := ⟨gb413, 0, none⟩) (Kd.R_types HO411.out BK413.out (by decide)) (fun _ hk => hk.2) (.int .i64 t404)) (fun _ hk => hk.2) (.int .u32 t405)) (fun _ hk => hk.2) (.slice Ao31 t406.length co31)) (fun _ hk => hk.2) (.slice Ao32 t409.length co32)) (fun _ hk => trivial)))⟩; have n2_ : Aside0 (w33.heap[gb413]? = some (.cells #[.int .i64 t404, .int .u32 t405, .slice Ao31 t406.length co31, .slice Ao32 t409.length co32] 29 (0, 0))) := ⟨(by rw [hw]; exact (by (with_reducible repeat (first | refine blk_drewN ?_ _ | refine blk_drew ?_ | refine blk_alloc ?_ _)); refine blk_put (cs := #[.int .i64 t404, .int .u32 t405, .slice Ao31 t406.length co31, .slice none 0 0]) ?_ 3 _ rfl; (with_reducible repeat (first | refine blk_drewN ?_ _ | refine blk_drew ?_ | refine blk_alloc ?_ _)); refine blk_put (cs := #[.int .i64 t404, .int .u32 t405, .slice none 0 0, .slice none 0 0]) ?_ 2 _ rfl; (with_reducible repeat (first | refine blk_drewN ?_ _ | refine blk_drew ?_ | refine blk_alloc ?_ _)); refine blk_put (cs := #[.int .i64 t404, .int .u32 0, .slice none 0 0, .slice none 0 0]) ?_ 1 _ rfl; (with_reducible repeat (first | refine blk_drewN ?_ _ | refine blk_drew ?_ | refine blk_alloc ?_ _)); refine blk_put (cs := #[.int .i64 0, .int .u32 0, .slice none 0 0, .slice none 0 0]) ?_ 0 _ rfl; (with_reducible repeat (first | refine blk_drewN ?_ _ | refine blk_drew ?_ | refine blk_alloc ?_ _)); exact BK413.out))⟩; have n3_ : Aside0 (Below w.heap.size w w33) := ⟨(by rw [hw]; exact y27_)⟩; clear hw; clear HO408; clear HO411; clear BK413; clear HB; have HO408 := n0_; have HO411 := n1_; have BK413 := n2_; have HB := n3_; clear n0_ n1_ n2_ n3_) | ((with_reducible refine gate_callee (f := 10) rfl ?_); refine goesL_ (some 22) rfl rfl Tryd.func10 (by kernel_rfl) rfl #[.slice A0 l0.length c0] rfl y3_ ?_; (with_reducible refine (manometerref13_Take.calls kj1 (fun k_ => k_ < w.heap.size) _ _ l0 t414 t415 t416 t419 t422 _ ?side1 A11.out).mono ?_); (case side1 => exact Kd.V_mk HC0.out (Kd.F_below (Kd.C_F (Kd.heap_int .u8) HR0.out) y27_)); rintro e w34 ⟨v417, v420, rfl, ho0, ho1, hb⟩; refine ⟨_, rfl, ?_⟩; have n0_ := Aside0.mk (Kd.R_elder' y56_ (Kd.R_base ho0) hb); have n1_ := Aside0.mk (Kd.R_elder' y55_ (Kd.R_base ho1) hb); have n2_ := Aside0.mk (Kd.R_lower (Kd.R_new' (Kd.R_mono (ok' := fun k_ => True) ho0 (fun _ hk_ => trivial)) (Kd.R_lt y56_)) (below_size y27_)); have n3_ := Aside0.mk (Kd.R_lower (Kd.R_new' (Kd.R_mono (ok' := fun k_ => True) ho1 (fun _ hk_ => trivial)) (Kd.R_lt y55_)) (below_size y27_)); have n4_ := Aside0.mk (blk_below (g := gb413) (o := .cells #[.int .i64 t404, .int .u32 t405, .slice Ao31 t406.length co31, .slice Ao32 t409.length co32] 29 (0, 0)) y51_ hb); have n5_ := Aside0.mk (below_step y27_ hb); clear HO408; clear HO411; clear BK413; clear HB; have HO408 := n0_; have HO411 := n1_; have HO418 := n2_; have HO421 := n3_; have BK413 := n4_; have HB := n5_; clear n0_ n1_ n2_ n3_ n4_ n5_; (try clear hb); (try clear hb2); (try clear hk); (try clear hi); (try clear ho0); (try clear ho1)) | ((with_reducible refine gate_dst (N := 5) rfl ?_); (try (refine gate_guard (by rfl) ?_; dsimp only)); refine box_event ?hg (N := 5) ?hd (cs := #[.int .i64 0, .int .u32 0, .slice none 0 0, .slice none 0 0]) (t := 29) ?hr ?_; (case hd => rfl); (case hg => rfl); (case hr => first | (go_simp; done) | (go_simp; rfl)); intro gb423 hg w35 hbox hb; have n0_ := Aside0.mk (Kd.R_below y56_ hb); have n1_ := Aside0.mk (Kd.R_below y55_ hb); have n2_ := Aside0.mk (Kd.R_below (by (with_reducible repeat (first | apply Kd.R_alloc | apply Kd.R_drewN | apply Kd.R_drew)); exact HO418.out) hb); have n3_ := Aside0.mk (Kd.R_below (by (with_reducible repeat (first | apply Kd.R_alloc | apply Kd.R_drewN | apply Kd.R_drew)); exact HO421.out) hb); have n4_ := Aside0.mk (blk_below (g := gb413) (o := .cells #[.int .i64 t404, .int .u32 t405, .slice Ao31 t406.length co31, .slice Ao32 t409.length co32] 29 (0, 0)) y51_ hb); have n5_ := Aside0.mk (below_step y27_ hb); have n6_ := Aside0.mk (hbox); have n7_ := Aside0.mk ((by rw [hg]; exact (below_size y27_) : w.heap.size ≤ gb423)); have n8_ := Aside0.mk ((by rw [hg]; exact (below_size y27_) : w.heap.size ≤ gb423)); have n9_ := Aside0.mk ((by rw [hg]; exact Nat.ne_of_lt (blk_lt (g := gb413) (o := .cells #[.int .i64 t404, .int .u32 t405, .slice Ao31 t406.length co31, .slice Ao32 t409.length co32] 29 (0, 0)) y51_) : gb413 ≠ gb423)); have n10_ := Aside0.mk ((by rw [hg]; exact Nat.ne_of_gt (blk_lt (g := gb413) (o := .cells #[.int .i64 t404, .int .u32 t405, .slice Ao31 t406.length co31, .slice Ao32 t409.length co32] 29 (0, 0)) y51_) : gb423 ≠ gb413)); clear HO408; clear HO411; clear HO418; clear HO421; clear BK413; clear HB; have HO408 := n0_; have HO411 := n1_; have HO418 := n2_; have HO421 := n3_; have BK413 := n4_; have HB := n5_; have BK423 := n6_; have GW423 := n7_; have GE423 := n8_; have NB413_423 := n9_; have NB423_413 := n10_; clear n0_ n1_ n2_ n3_ n4_ n5_ n6_ n7_ n8_ n9_ n10_; clear hb hbox hg; have hnb36 := NB423_413.out; have hnc36 := NB413_423.out; have hcz37_0 : w35.cell? ⟨gb423, 0, none⟩ = some (.int .i64 0) := (blk_cell BK423.out 0).trans rfl; have hcz37_1 : w35.cell? ⟨gb423, 1, none⟩ = some (.int .u32 0) := (blk_cell BK423.out 1).trans rfl; have hcz37_2 : w35.cell? ⟨gb423, 2, none⟩ = some (.slice none 0 0) := (blk_cell BK423.out 2).trans rfl; have hcz37_3 : w35.cell? ⟨gb423, 3, none⟩ = some (.slice none 0 0) := (blk_cell BK423.out 3).trans rfl; have hfz37_0 := blk_frozen BK423.out 0; have hfz37_1 := blk_frozen BK423.out 1; have hfz37_2 := blk_frozen BK423.out 2; have hfz37_3 := blk_frozen BK423.out 3; obtain ⟨Ao38, co38, eo38⟩ := Kd.R_slice HO418.out; subst eo38; obtain ⟨Ao39, co39, eo39⟩ := Kd.R_slice HO421.out; subst eo39; have hcz40_0 : w35.cell? ⟨gb413, 0, none⟩ = some (.int .i64 t404) := (blk_cell BK413.out 0).trans rfl; have hcz40_1 : w35.cell? ⟨gb413, 1, none⟩ = some (.int .u32 t405) := (blk_cell BK413.out 1).trans rfl; have hcz40_2 : w35.cell? ⟨gb413, 2, none⟩ = some (.slice Ao31 t406.length co31) := (blk_cell BK413.out 2).trans rfl; have hcz40_3 : w35.cell? ⟨gb413, 3, none⟩ = some (.slice Ao32 t409.length co32) := (blk_cell BK413.out 3).trans rfl; have hfz40_0 := blk_frozen BK413.out 0; have hfz40_1 := blk_frozen BK413.out 1; have hfz40_2 := blk_frozen BK413.out 2; have hfz40_3 := blk_frozen BK413.out 3) | ((with_reducible refine gate_callee (f := 11) rfl ?_); refine goesL_ (some 27) rfl rfl Tryd.func11 (by kernel_rfl) rfl #[.agg #[.int .i64 t404, .int .u32 t405, .slice Ao31 t406.length co31, .slice Ao32 t409.length co32], .agg #[.int .i64 t414, .int .u32 t415, .slice Ao38 t416.length co38, .slice Ao39 t419.length co39]] rfl y3_ ?_; (with_reducible refine (manometerref13_Same.calls kj1 t404 t405 _ _ t406 _ _ t409 t414 t415 _ _ t416 _ _ t419 false _ ?side1 ?side2 ?side3 ?side4 ?side5 ?side6 ?side7 ?side8 A12.out).mono ?_); (case side1 => refine (Kd.R_reads' (e := 52) (base := w.heap.size) (ok := fun k_ => (True ∧ some k_ ≠ (.slice Ao38 t416.length co38 : Value).ownBlock)) (n := t406.length) (c := co31) ?_).2.2; exact y75_); (case side2 => exact (Kd.R_reads' HO408.out).2.1); (case side3 => refine (Kd.R_reads' (e := 45) (base := w.heap.size) (ok := fun k_ => (True ∧ some k_ ≠ (.slice Ao39 t419.length co39 : Value).ownBlock)) (n := t409.length) (c := co32) ?_).2.2; exact y73_); (case side4 => exact (Kd.R_reads' HO411.out).2.1); (case side5 => refine (Kd.R_reads' (e := 52) (base := w.heap.size) (ok := fun k_ => (True ∧ some k_ ≠ (.slice Ao31 t406.length co31 : Value).ownBlock)) (n := t416.length) (c := co38) ?_).2.2; exact y71_); (case side6 => exact (Kd.R_reads' HO418.out).2.1); (case side7 => refine (Kd.R_reads' (e := 45) (base := w.heap.size) (ok := fun k_ => (True ∧ some k_ ≠ (.slice Ao32 t409.length co32 : Value).ownBlock)) (n := t419.length) (c := co39) ?_).2.2; exact y69_); (case side8 => exact (Kd.R_reads' HO421.out).2.1); rintro e w41 ⟨rfl, hb⟩; refine ⟨_, rfl, ?_⟩; have n0_ := Aside0.mk (Kd.R_below y75_ hb); have n1_ := Aside0.mk (Kd.R_below y73_ hb); have n2_ := Aside0.mk (Kd.R_below y71_ hb); have n3_ := Aside0.mk (Kd.R_below y69_ hb); have n4_ := Aside0.mk (blk_below (g := gb413) (o := .cells #[.int .i64 t404, .int .u32 t405, .slice Ao31 t406.length co31, .slice Ao32 t409.length co32] 29 (0, 0)) y57_ hb); have n5_ := Aside0.mk (blk_below (g := gb423) (o := .cells #[.int .i64 t414, .int .u32 t415, .slice Ao38 t416.length co38, .slice Ao39 t419.length co39] 29 (0, 0)) (by (with_reducible repeat (first | refine blk_drewN ?_ _ | refine blk_drew ?_ | refine blk_alloc ?_ _)); refine blk_put (cs := #[.int .i64 t414, .int .u32 t415, .slice Ao38 t416.length co38, .slice none 0 0]) ?_ 3 _ rfl; (with_reducible repeat (first | refine blk_drewN ?_ _ | refine blk_drew ?_ | refine blk_alloc ?_ _)); refine blk_put (cs := #[.int .i64 t414, .int .u32 t415, .slice none 0 0, .slice none 0 0]) ?_ 2 _ rfl; (with_reducible repeat (first | refine blk_drewN ?_ _ | refine blk_drew ?_ | refine blk_alloc ?_ _)); refine blk_put (cs := #[.int .i64 t414, .int .u32 0, .slice none 0 0, .slice none 0 0]) ?_ 1 _ rfl; (with_reducible repeat (first | refine blk_drewN ?_ _ | refine blk_drew ?_ | refine blk_alloc ?_ _)); refine blk_put (cs := #[.int .i64 0, .int .u32 0, .slice none 0 0, .slice none 0 0]) ?_ 0 _ rfl; (with_reducible repeat (first | refine blk_drewN ?_ _ | refine blk_drew ?_ | refine blk_alloc ?_ _)); exact BK423.out) hb); have n6_ := Aside0.mk (below_step y58_ hb); clear HO408; clear HO411; clear HO418; clear HO421; clear BK413; clear BK423; clear HB; have HO408 := n0_; have HO411 := n1_; have HO418 := n2_; have HO421 := n3_; have BK413 := n4_; have BK423 := n5_; have HB := n6_; clear n0_ n1_ n2_ n3_ n4_ n5_ n6_; (try clear hb); (try clear hb2); (try clear hk); (try clear hi)))
     go_ret
     exact ⟨y4_, y58_⟩
end Go.Proofs.YtdckhaejhfkkbaaDoor.PRT
