import Derived.Test.YtdckhaejhfkkbaaDoorCRecordSamesPRTx0
import Derived.Test.YtdckhaejhfkkbaaDoorCRecordSamesPRTx2
import Derived.Test.YtdckhaejhfkkbaaDoorCRecordSamesPRTx6
import Derived.Test.YtdckhaejhfkkbaaDoorCRecordSamesPRTx9
import Derived.Test.YtdckhaejhfkkbaaDoorCRecordSamesRL
import Derived.Test.YtdckhaejhfkkbaaDoorCRecordSamesG1
namespace Go.Proofs.YtdckhaejhfkkbaaDoor.PRT
open Go.RowKit Go.Proofs.YtdckhaejhfkkbaaDoorW.PrintWords Go.Proofs.YtdckhaejhfkkbaaDoorW.PrintLast Go.Proofs.YtdckhaejhfkkbaaDoorW.PrintMore
attribute [local go_sem] max2_int min2_int max_two min_two max_three min_three max_four min_four
set_option linter.unusedVariables false
set_option linter.unusedSimpArgs false
attribute [local go_sem high] eqA45
mutual
def manometerref13_Same.j0 : Nat → Bool → Int → Int → List (S52) → List (S45) → Int → Int → List (S52) → List (S45) → Option (Bool)
 | 0, _, _, _, _, _, _, _, _, _ => none
 | k + 1, x34, x398000, x398001, x398002, x398003, x399000, x399001, x399002, x399003 => if x34 = true then (some false) else (manometerref13_Same.l0 k (x398003.length : Int) 0 x398000 x398001 x398002 x398003 x399000 x399001 x399002 x399003)
def manometerref13_Same.l0 : Nat → Int → Int → Int → Int → List (S52) → List (S45) → Int → Int → List (S52) → List (S45) → Option (Bool)
 | 0, _, _, _, _, _, _, _, _, _, _ => none
 | k + 1, x37, x38, x398000, x398001, x398002, x398003, x399000, x399001, x399002, x399003 => if x38 < x37 then (if 0 ≤ x38 then (if x38 < (x398003.length : Int) then (if x38 < (x399003.length : Int) then (if (!(((rd_T45 x398003 x38).f0) == ((rd_T45 x399003 x38).f0)) || ((!(((rd_T45 x398003 x38).f1.f0) == ((rd_T45 x399003 x38).f1.f0)) || (!(((rd_T45 x398003 x38).f1.f1) == ((rd_T45 x399003 x38).f1.f1)) || (!(((rd_T45 x398003 x38).f1.f2) == ((rd_T45 x399003 x38).f1.f2))))))) = true then (some false) else (manometerref13_Same.l0 k x37 (wrap64 (x38 + 1)) x398000 x398001 x398002 x398003 x399000 x399001 x399002 x399003)) else (none)) else (none)) else (none)) else (some true)
end
def manometerref13_Same.f (k : Nat) (a0_0 : Int) (a0_1 : Int) (l0_2 : List (S52)) (l0_3 : List (S45)) (a1_0 : Int) (a1_1 : Int) (l1_2 : List (S52)) (l1_3 : List (S45)) : Option (Bool) := if a0_0 = a1_0 then (if a0_1 = a1_1 then ((manometerref05_Same.f k l0_2 l1_2).bind fun t399 => (if t399 = true then (manometerref13_Same.j0 k ((l0_3.length : Int) != (l1_3.length : Int)) a0_0 a0_1 l0_2 l0_3 a1_0 a1_1 l1_2 l1_3) else (manometerref13_Same.j0 k true a0_0 a0_1 l0_2 l0_3 a1_0 a1_1 l1_2 l1_3))) else (manometerref13_Same.j0 k true a0_0 a0_1 l0_2 l0_3 a1_0 a1_1 l1_2 l1_3)) else (manometerref13_Same.j0 k true a0_0 a0_1 l0_2 l0_3 a1_0 a1_1 l1_2 l1_3)
set_option maxHeartbeats 8000000 in
set_option maxRecDepth 100000 in
theorem manometerref13_Same.calls (k : Nat) (a0_0 : Int) (a0_1 : Int) (A0_2 : Option Addr) (c0_2 : Nat) (l0_2 : List (S52)) (A0_3 : Option Addr) (c0_3 : Nat) (l0_3 : List (S45)) (a1_0 : Int) (a1_1 : Int) (A1_2 : Option Addr) (c1_2 : Nat) (l1_2 : List (S52)) (A1_3 : Option Addr) (c1_3 : Nat) (l1_3 : List (S45)) (r : Bool) (w : World) (hr0_2 : Kd.C k52 w A0_2 l0_2.length l0_2) (hc0_2 : l0_2.length ≤ c0_2) (hr0_3 : Kd.C k45 w A0_3 l0_3.length l0_3) (hc0_3 : l0_3.length ≤ c0_3) (hr1_2 : Kd.C k52 w A1_2 l1_2.length l1_2) (hc1_2 : l1_2.length ≤ c1_2) (hr1_3 : Kd.C k45 w A1_3 l1_3.length l1_3) (hc1_3 : l1_3.length ≤ c1_3) (h : manometerref13_Same.f k a0_0 a0_1 l0_2 l0_3 a1_0 a1_1 l1_2 l1_3 = some r) :
  Calls Tryd.prog 11 #[.agg #[.int .i64 a0_0, .int .u32 a0_1, .slice A0_2 l0_2.length c0_2, .slice A0_3 l0_3.length c0_3], .agg #[.int .i64 a1_0, .int .u32 a1_1, .slice A1_2 l1_2.length c1_2, .slice A1_3 l1_3.length c1_3]] w fun e w' => e = .returned (.bool r) ∧ Below w.heap.size w w' := by
 have hu29 := Tryd.underlying29
 have hu45 := Tryd.underlying45
 have HR0_2 := Aside0.mk hr0_2
 have HC0_2 := Aside0.mk hc0_2
 clear hr0_2 hc0_2
 have HR0_3 := Aside0.mk hr0_3
 have HC0_3 := Aside0.mk hc0_3
 clear hr0_3 hc0_3
 have HR1_2 := Aside0.mk hr1_2
 have HC1_2 := Aside0.mk hc1_2
 clear hr1_2 hc1_2
 have HR1_3 := Aside0.mk hr1_3
 have HC1_3 := Aside0.mk hc1_3
 clear hr1_3 hc1_3
 have HB := Aside0.mk (Below.refl w.heap.size w)
 have H : (if a0_0 = a1_0 then (if a0_1 = a1_1 then ((manometerref05_Same.f k l0_2 l1_2).bind fun t399 => (if t399 = true then (manometerref13_Same.j0 k ((l0_3.length : Int) != (l1_3.length : Int)) a0_0 a0_1 l0_2 l0_3 a1_0 a1_1 l1_2 l1_3) else (manometerref13_Same.j0 k true a0_0 a0_1 l0_2 l0_3 a1_0 a1_1 l1_2 l1_3))) else (manometerref13_Same.j0 k true a0_0 a0_1 l0_2 l0_3 a1_0 a1_1 l1_2 l1_3)) else (manometerref13_Same.j0 k true a0_0 a0_1 l0_2 l0_3 a1_0 a1_1 l1_2 l1_3)) = some r := h
 clear h
 have HC3 := Aside0.mk H
 clear H
 go_enter Tryd.func11, Tryd.ntmps11
 go_upto_region 1 with (first | ((with_reducible refine gate_dst (N := 2) rfl ?_); (try (refine gate_guard (by rfl) ?_; dsimp only)); refine box_event ?hg (N := 2) ?hd (cs := #[.int .i64 a0_0, .int .u32 a0_1, .slice A0_2 l0_2.length c0_2, .slice A0_3 l0_3.length c0_3]) (t := 29) ?hr ?_; (case hd => rfl); (case hg => rfl); (case hr => first | (go_simp; done) | (go_simp; rfl)); intro gb397 hg w4 hbox hb; have n0_ := Aside0.mk (below_step y1_ hb); have n1_ := Aside0.mk (hbox); have n2_ := Aside0.mk ((y11_ : w.heap.size ≤ gb397)); have n3_ := Aside0.mk ((y11_ : w.heap.size ≤ gb397)); clear HB; have HB := n0_; have BK397 := n1_; have GW397 := n2_; have GE397 := n3_; clear n0_ n1_ n2_ n3_; clear hb hbox hg) | ((with_reducible refine gate_dst (N := 3) rfl ?_); (try (refine gate_guard (by rfl) ?_; dsimp only)); refine box_event ?hg (N := 3) ?hd (cs := #[.int .i64 a1_0, .int .u32 a1_1, .slice A1_2 l1_2.length c1_2, .slice A1_3 l1_3.length c1_3]) (t := 29) ?hr ?_; (case hd => rfl); (case hg => rfl); (case hr => first | (go_simp; done) | (go_simp; rfl)); intro gb398 hg w5 hbox hb; have n0_ := Aside0.mk (blk_below (g := gb397) (o := .cells #[.int .i64 a0_0, .int .u32 a0_1, .slice A0_2 l0_2.length c0_2, .slice A0_3 l0_3.length c0_3] 29 (0, 0)) y25_ hb); have n1_ := Aside0.mk (below_step y32_ hb); have n2_ := Aside0.mk (hbox); have n3_ := Aside0.mk ((by rw [hg]; exact (below_size y32_) : w.heap.size ≤ gb398)); have n4_ := Aside0.mk ((by rw [hg]; exact (below_size y32_) : w.heap.size ≤ gb398)); have n5_ := Aside0.mk ((y66_ : gb397 ≠ gb398)); have n6_ := Aside0.mk ((y68_ : gb398 ≠ gb397)); clear BK397; clear HB; have BK397 := n0_; have HB := n1_; have BK398 := n2_; have GW398 := n3_; have GE398 := n4_; have NB397_398 := n5_; have NB398_397 := n6_; clear n0_ n1_ n2_ n3_ n4_ n5_ n6_; clear hb hbox hg))
 repeat (go_quiet (first | ((with_reducible refine gate_dst (N := 2) rfl ?_); (try (refine gate_guard (by rfl) ?_; dsimp only)); refine box_event ?hg (N := 2) ?hd (cs := #[.int .i64 a0_0, .int .u32 a0_1, .slice A0_2 l0_2.length c0_2, .slice A0_3 l0_3.length c0_3]) (t := 29) ?hr ?_; (case hd => rfl); (case hg => rfl); (case hr => first | (go_simp; done) | (go_simp; rfl)); intro gb397 hg w4 hbox hb; have n0_ := Aside0.mk (below_step y1_ hb); have n1_ := Aside0.mk (hbox); have n2_ := Aside0.mk ((y11_ : w.heap.size ≤ gb397)); have n3_ := Aside0.mk ((y11_ : w.heap.size ≤ gb397)); clear HB; have HB := n0_; have BK397 := n1_; have GW397 := n2_; have GE397 := n3_; clear n0_ n1_ n2_ n3_; clear hb hbox hg) | ((with_reducible refine gate_dst (N := 3) rfl ?_); (try (refine gate_guard (by rfl) ?_; dsimp only)); refine box_event ?hg (N := 3) ?hd (cs := #[.int .i64 a1_0, .int .u32 a1_1, .slice A1_2 l1_2.length c1_2, .slice A1_3 l1_3.length c1_3]) (t := 29) ?hr ?_; (case hd => rfl); (case hg => rfl); (case hr => first | (go_simp; done) | (go_simp; rfl)); intro gb398 hg w5 hbox hb; have n0_ := Aside0.mk (blk_below (g := gb397) (o := .cells #[.int .i64 a0_0, .int .u32 a0_1, .slice A0_2 l0_2.length c0_2, .slice A0_3 l0_3.length c0_3] 29 (0, 0)) y25_ hb); have n1_ := Aside0.mk (below_step y32_ hb); have n2_ := Aside0.mk (hbox); have n3_ := Aside0.mk ((by rw [hg]; exact (below_size y32_) : w.heap.size ≤ gb398)); have n4_ := Aside0.mk ((by rw [hg]; exact (below_size y32_) : w.heap.size ≤ gb398)); have n5_ := Aside0.mk ((y66_ : gb397 ≠ gb398)); have n6_ := Aside0.mk ((y68_ : gb398 ≠ gb397)); clear BK397; clear HB; have BK397 := n0_; have HB := n1_; have BK398 := n2_; have GW398 := n3_; have GE398 := n4_; have NB397_398 := n5_; have NB398_397 := n6_; clear n0_ n1_ n2_ n3_ n4_ n5_ n6_; clear hb hbox hg)); go_upto_region 1 with (first | ((with_reducible refine gate_dst (N := 2) rfl ?_); (try (refine gate_guard (by rfl) ?_; dsimp only)); refine box_event ?hg (N := 2) ?hd (cs := #[.int .i64 a0_0, .int .u32 a0_1, .slice A0_2 l0_2.length c0_2, .slice A0_3 l0_3.length c0_3]) (t := 29) ?hr ?_; (case hd => rfl); (case hg => rfl); (case hr => first | (go_simp; done) | (go_simp; rfl)); intro gb397 hg w4 hbox hb; have n0_ := Aside0.mk (below_step y1_ hb); have n1_ := Aside0.mk (hbox); have n2_ := Aside0.mk ((y11_ : w.heap.size ≤ gb397)); have n3_ := Aside0.mk ((y11_ : w.heap.size ≤ gb397)); clear HB; have HB := n0_; have BK397 := n1_; have GW397 := n2_; have GE397 := n3_; clear n0_ n1_ n2_ n3_; clear hb hbox hg) | ((with_reducible refine gate_dst (N := 3) rfl ?_); (try (refine gate_guard (by rfl) ?_; dsimp only)); refine box_event ?hg (N := 3) ?hd (cs := #[.int .i64 a1_0, .int .u32 a1_1, .slice A1_2 l1_2.length c1_2, .slice A1_3 l1_3.length c1_3]) (t := 29) ?hr ?_; (case hd => rfl); (case hg => rfl); (case hr => first | (go_simp; done) | (go_simp; rfl)); intro gb398 hg w5 hbox hb; have n0_ := Aside0.mk (blk_below (g := gb397) (o := .cells #[.int .i64 a0_0, .int .u32 a0_1, .slice A0_2 l0_2.length c0_2, .slice A0_3 l0_3.length c0_3] 29 (0, 0)) y25_ hb); have n1_ := Aside0.mk (below_step y32_ hb); have n2_ := Aside0.mk (hbox); have n3_ := Aside0.mk ((by rw [hg]; exact (below_size y32_) : w.heap.size ≤ gb398)); have n4_ := Aside0.mk ((by rw [hg]; exact (below_size y32_) : w.heap.size ≤ gb398)); have n5_ := Aside0.mk ((y66_ : gb397 ≠ gb398)); have n6_ := Aside0.mk ((y68_ : gb398 ≠ gb397)); clear BK397; clear HB; have BK397 := n0_; have HB := n1_; have BK398 := n2_; have GW398 := n3_; have GE398 := n4_; have NB397_398 := n5_; have NB398_397 := n6_; clear n0_ n1_ n2_ n3_ n4_ n5_ n6_; clear hb hbox hg)))
 (try simp only [Act.put, List.setIfInBounds_toArray, List.set_cons_zero, List.set_cons_succ])
 go_cut [34] (fun v34 wc => ∃ (kq : Nat) (x34_2 : Bool), v34 = .bool x34_2 ∧ Aside0 (manometerref13_Same.j0 kq x34_2 a0_0 a0_1 l0_2 l0_3 a1_0 a1_1 l1_2 l1_3 = some r) ∧ Aside0 (kq ≤ k) ∧ Aside0 (wc.heap[gb397]? = some (.cells #[.int .i64 a0_0, .int .u32 a0_1, (.slice A0_2 l0_2.length c0_2), (.slice A0_3 l0_3.length c0_3)] 29 (0, 0))) ∧ Aside0 (wc.heap[gb398]? = some (.cells #[.int .i64 a1_0, .int .u32 a1_1, (.slice A1_2 l1_2.length c1_2), (.slice A1_3 l1_3.length c1_3)] 29 (0, 0))) ∧ Aside0 (Below w.heap.size w wc))
 case first =>
  have H := HC3.out
  clear HC3
  by_cases c6 : a0_0 = a1_0
  ·rw [if_pos c6] at H
   have c6b0 : (a0_0 == a1_0) = true := beq_iff_eq.mpr c6
   have c6b1 : (a0_0 != a1_0) = false := bne_eq_false_iff_eq.mpr c6
   clear c6
   (first | rw [c6b0] | (simp only [i64_w, i32_w]; rw [c6b0]) | skip)
   by_cases c7 : a0_1 = a1_1
   ·rw [if_pos c7] at H
    have c7b0 : (a0_1 == a1_1) = true := beq_iff_eq.mpr c7
    have c7b1 : (a0_1 != a1_1) = false := bne_eq_false_iff_eq.mpr c7
    clear c7
    replace H := Option.bind_eq_some_iff.mp H
    obtain ⟨t399, A80, H⟩ := H
    replace H : (if t399 = true then (manometerref13_Same.j0 k ((l0_3.length : Int) != (l1_3.length : Int)) a0_0 a0_1 l0_2 l0_3 a1_0 a1_1 l1_2 l1_3) else (manometerref13_Same.j0 k true a0_0 a0_1 l0_2 l0_3 a1_0 a1_1 l1_2 l1_3)) = some r := H
    have A8 := Aside0.mk A80
    clear A80
    by_cases c9 : t399 = true
    ·subst c9
     have H1 : (manometerref13_Same.j0 k ((l0_3.length : Int) != (l1_3.length : Int)) a0_0 a0_1 l0_2 l0_3 a1_0 a1_1 l1_2 l1_3) = some r := by rw [if_pos rfl] at H; exact H
     clear H
     have H := H1
     clear H1
     have H' := Aside0.mk H
     clear H
     have hnb10 := NB397_398.out
     have hnc10 := NB398_397.out
     have hcz11_0 : w5.cell? ⟨gb397, 0, none⟩ = some (.int .i64 a0_0) := (blk_cell BK397.out 0).trans rfl
     have hcz11_1 : w5.cell? ⟨gb397, 1, none⟩ = some (.int .u32 a0_1) := (blk_cell BK397.out 1).trans rfl
     have hcz11_2 : w5.cell? ⟨gb397, 2, none⟩ = some (.slice A0_2 l0_2.length c0_2) := (blk_cell BK397.out 2).trans rfl
     have hcz11_3 : w5.cell? ⟨gb397, 3, none⟩ = some (.slice A0_3 l0_3.length c0_3) := (blk_cell BK397.out 3).trans rfl
     have hfz11_0 := blk_frozen BK397.out 0
     have hfz11_1 := blk_frozen BK397.out 1
     have hfz11_2 := blk_frozen BK397.out 2
     have hfz11_3 := blk_frozen BK397.out 3
     have hcz12_0 : w5.cell? ⟨gb398, 0, none⟩ = some (.int .i64 a1_0) := (blk_cell BK398.out 0).trans rfl
     have hcz12_1 : w5.cell? ⟨gb398, 1, none⟩ = some (.int .u32 a1_1) := (blk_cell BK398.out 1).trans rfl
     have hcz12_2 : w5.cell? ⟨gb398, 2, none⟩ = some (.slice A1_2 l1_2.length c1_2) := (blk_cell BK398.out 2).trans rfl
     have hcz12_3 : w5.cell? ⟨gb398, 3, none⟩ = some (.slice A1_3 l1_3.length c1_3) := (blk_cell BK398.out 3).trans rfl
     have hfz12_0 := blk_frozen BK398.out 0
     have hfz12_1 := blk_frozen BK398.out 1
     have hfz12_2 := blk_frozen BK398.out 2
     have hfz12_3 := blk_frozen BK398.out 3
     go_wp2_with (first | (go_at_call 26; (with_reducible refine (manometerref05_Same.calls k _ _ l0_2 _ _ l1_2 true _ ?side1 ?side2 ?side3 ?side4 A8.out).mono ?_); (case side1 => repeat (first | exact (Kd.C_below HR0_2.out HB.out) | (with_reducible refine Kd.C_alloc ?_ _) | (with_reducible refine Kd.C_drewN ?_ _) | (with_reducible refine Kd.C_drew ?_))); (case side2 => exact HC0_2.out); (case side3 => repeat (first | exact (Kd.C_below HR1_2.out HB.out) | (with_reducible refine Kd.C_alloc ?_ _) | (with_reducible refine Kd.C_drewN ?_ _) | (with_reducible refine Kd.C_drew ?_))); (case side4 => exact HC1_2.out); rintro e w' ⟨rfl, ⟨nd, rfl⟩⟩; (try first | exact ⟨rfl, _, World.drewN_drewN _ _ _⟩ | exact ⟨rfl, _, Eq.trans (World.drewN_drewN _ _ _) (congrArg (World.drewN _) (Nat.add_assoc _ _ _))⟩)))
     repeat (go_quiet (first | (go_at_call 26; (with_reducible refine (manometerref05_Same.calls k _ _ l0_2 _ _ l1_2 true _ ?side1 ?side2 ?side3 ?side4 A8.out).mono ?_); (case side1 => repeat (first | exact (Kd.C_below HR0_2.out HB.out) | (with_reducible refine Kd.C_alloc ?_ _) | (with_reducible refine Kd.C_drewN ?_ _) | (with_reducible refine Kd.C_drew ?_))); (case side2 => exact HC0_2.out); (case side3 => repeat (first | exact (Kd.C_below HR1_2.out HB.out) | (with_reducible refine Kd.C_alloc ?_ _) | (with_reducible refine Kd.C_drewN ?_ _) | (with_reducible refine Kd.C_drew ?_))); (case side4 => exact HC1_2.out); rintro e w' ⟨rfl, ⟨nd, rfl⟩⟩; (try first | exact ⟨rfl, _, World.drewN_drewN _ _ _⟩ | exact ⟨rfl, _, Eq.trans (World.drewN_drewN _ _ _) (congrArg (World.drewN _) (Nat.add_assoc _ _ _))⟩))); try go_wp2_with (first | (go_at_call 26; (with_reducible refine (manometerref05_Same.calls k _ _ l0_2 _ _ l1_2 true _ ?side1 ?side2 ?side3 ?side4 A8.out).mono ?_); (case side1 => repeat (first | exact (Kd.C_below HR0_2.out HB.out) | (with_reducible refine Kd.C_alloc ?_ _) | (with_reducible refine Kd.C_drewN ?_ _) | (with_reducible refine Kd.C_drew ?_))); (case side2 => exact HC0_2.out); (case side3 => repeat (first | exact (Kd.C_below HR1_2.out HB.out) | (with_reducible refine Kd.C_alloc ?_ _) | (with_reducible refine Kd.C_drewN ?_ _) | (with_reducible refine Kd.C_drew ?_))); (case side4 => exact HC1_2.out); rintro e w' ⟨rfl, ⟨nd, rfl⟩⟩; (try first | exact ⟨rfl, _, World.drewN_drewN _ _ _⟩ | exact ⟨rfl, _, Eq.trans (World.drewN_drewN _ _ _) (congrArg (World.drewN _) (Nat.add_assoc _ _ _))⟩))))
     go_meet
     case rel => exact ⟨_, (((l0_3.length : Int) != (l1_3.length : Int))), y10_, H', ⟨y57_⟩, ⟨y25_⟩, ⟨y42_⟩, ⟨y27_⟩⟩
    ·replace c9 := Bool.eq_false_iff.mpr c9
     subst c9
     have H1 : (manometerref13_Same.j0 k true a0_0 a0_1 l0_2 l0_3 a1_0 a1_1 l1_2 l1_3) = some r := by rw [if_neg (show ¬ (false = true) by decide)] at H; exact H
     clear H
     have H := H1
     clear H1
     have H' := Aside0.mk H
     clear H
     have hnb13 := NB397_398.out
     have hnc13 := NB398_397.out
     have hcz14_0 : w5.cell? ⟨gb397, 0, none⟩ = some (.int .i64 a0_0) := (blk_cell BK397.out 0).trans rfl
     have hcz14_1 : w5.cell? ⟨gb397, 1, none⟩ = some (.int .u32 a0_1) := (blk_cell BK397.out 1).trans rfl
     have hcz14_2 : w5.cell? ⟨gb397, 2, none⟩ = some (.slice A0_2 l0_2.length c0_2) := (blk_cell BK397.out 2).trans rfl
     have hcz14_3 : w5.cell? ⟨gb397, 3, none⟩ = some (.slice A0_3 l0_3.length c0_3) := (blk_cell BK397.out 3).trans rfl
     have hfz14_0 := blk_frozen BK397.out 0
     have hfz14_1 := blk_frozen BK397.out 1
     have hfz14_2 := blk_frozen BK397.out 2
     have hfz14_3 := blk_frozen BK397.out 3
     have hcz15_0 : w5.cell? ⟨gb398, 0, none⟩ = some (.int .i64 a1_0) := (blk_cell BK398.out 0).trans rfl
     have hcz15_1 : w5.cell? ⟨gb398, 1, none⟩ = some (.int .u32 a1_1) := (blk_cell BK398.out 1).trans rfl
     have hcz15_2 : w5.cell? ⟨gb398, 2, none⟩ = some (.slice A1_2 l1_2.length c1_2) := (blk_cell BK398.out 2).trans rfl
     have hcz15_3 : w5.cell? ⟨gb398, 3, none⟩ = some (.slice A1_3 l1_3.length c1_3) := (blk_cell BK398.out 3).trans rfl
     have hfz15_0 := blk_frozen BK398.out 0
     have hfz15_1 := blk_frozen BK398.out 1
     have hfz15_2 := blk_frozen BK398.out 2
     have hfz15_3 := blk_frozen BK398.out 3
     go_wp2_with (first | (go_at_call 26; (with_reducible refine (manometerref05_Same.calls k _ _ l0_2 _ _ l1_2 false _ ?side1 ?side2 ?side3 ?side4 A8.out).mono ?_); (case side1 => repeat (first | exact (Kd.C_below HR0_2.out HB.out) | (with_reducible refine Kd.C_alloc ?_ _) | (with_reducible refine Kd.C_drewN ?_ _) | (with_reducible refine Kd.C_drew ?_))); (case side2 => exact HC0_2.out); (case side3 => repeat (first | exact (Kd.C_below HR1_2.out HB.out) | (with_reducible refine Kd.C_alloc ?_ _) | (with_reducible refine Kd.C_drewN ?_ _) | (with_reducible refine Kd.C_drew ?_))); (case side4 => exact HC1_2.out); rintro e w' ⟨rfl, ⟨nd, rfl⟩⟩; (try first | exact ⟨rfl, _, World.drewN_drewN _ _ _⟩ | exact ⟨rfl, _, Eq.trans (World.drewN_drewN _ _ _) (congrArg (World.drewN _) (Nat.add_assoc _ _ _))⟩)))
     repeat (go_quiet (first | (go_at_call 26; (with_reducible refine (manometerref05_Same.calls k _ _ l0_2 _ _ l1_2 false _ ?side1 ?side2 ?side3 ?side4 A8.out).mono ?_); (case side1 => repeat (first | exact (Kd.C_below HR0_2.out HB.out) | (with_reducible refine Kd.C_alloc ?_ _) | (with_reducible refine Kd.C_drewN ?_ _) | (with_reducible refine Kd.C_drew ?_))); (case side2 => exact HC0_2.out); (case side3 => repeat (first | exact (Kd.C_below HR1_2.out HB.out) | (with_reducible refine Kd.C_alloc ?_ _) | (with_reducible refine Kd.C_drewN ?_ _) | (with_reducible refine Kd.C_drew ?_))); (case side4 => exact HC1_2.out); rintro e w' ⟨rfl, ⟨nd, rfl⟩⟩; (try first | exact ⟨rfl, _, World.drewN_drewN _ _ _⟩ | exact ⟨rfl, _, Eq.trans (World.drewN_drewN _ _ _) (congrArg (World.drewN _) (Nat.add_assoc _ _ _))⟩))); try go_wp2_with (first | (go_at_call 26; (with_reducible refine (manometerref05_Same.calls k _ _ l0_2 _ _ l1_2 false _ ?side1 ?side2 ?side3 ?side4 A8.out).mono ?_); (case side1 => repeat (first | exact (Kd.C_below HR0_2.out HB.out) | (with_reducible refine Kd.C_alloc ?_ _) | (with_reducible refine Kd.C_drewN ?_ _) | (with_reducible refine Kd.C_drew ?_))); (case side2 => exact HC0_2.out); (case side3 => repeat (first | exact (Kd.C_below HR1_2.out HB.out) | (with_reducible refine Kd.C_alloc ?_ _) | (with_reducible refine Kd.C_drewN ?_ _) | (with_reducible refine Kd.C_drew ?_))); (case side4 => exact HC1_2.out); rintro e w' ⟨rfl, ⟨nd, rfl⟩⟩; (try first | exact ⟨rfl, _, World.drewN_drewN _ _ _⟩ | exact ⟨rfl, _, Eq.trans (World.drewN_drewN _ _ _) (congrArg (World.drewN _) (Nat.add_assoc _ _ _))⟩))))
     go_meet
     case rel => exact ⟨_, (true), y10_, H', ⟨y57_⟩, ⟨y25_⟩, ⟨y42_⟩, ⟨y27_⟩⟩
   ·rw [if_neg c7] at H
    have c7b0 : (a0_1 == a1_1) = false := beq_eq_false_iff_ne.mpr c7
    have c7b1 : (a0_1 != a1_1) = true := bne_iff_ne.mpr c7
    have H' := Aside0.mk H
    clear H
    have hnb16 := NB397_398.out
    have hnc16 := NB398_397.out
    have hcz17_0 : w5.cell? ⟨gb397, 0, none⟩ = some (.int .i64 a0_0) := (blk_cell BK397.out 0).trans rfl
    have hcz17_1 : w5.cell? ⟨gb397, 1, none⟩ = some (.int .u32 a0_1) := (blk_cell BK397.out 1).trans rfl
    have hcz17_2 : w5.cell? ⟨gb397, 2, none⟩ = some (.slice A0_2 l0_2.length c0_2) := (blk_cell BK397.out 2).trans rfl
    have hcz17_3 : w5.cell? ⟨gb397, 3, none⟩ = some (.slice A0_3 l0_3.length c0_3) := (blk_cell BK397.out 3).trans rfl
    have hfz17_0 := blk_frozen BK397.out 0
    have hfz17_1 := blk_frozen BK397.out 1
    have hfz17_2 := blk_frozen BK397.out 2
    have hfz17_3 := blk_frozen BK397.out 3
    have hcz18_0 : w5.cell? ⟨gb398, 0, none⟩ = some (.int .i64 a1_0) := (blk_cell BK398.out 0).trans rfl
    have hcz18_1 : w5.cell? ⟨gb398, 1, none⟩ = some (.int .u32 a1_1) := (blk_cell BK398.out 1).trans rfl
    have hcz18_2 : w5.cell? ⟨gb398, 2, none⟩ = some (.slice A1_2 l1_2.length c1_2) := (blk_cell BK398.out 2).trans rfl
    have hcz18_3 : w5.cell? ⟨gb398, 3, none⟩ = some (.slice A1_3 l1_3.length c1_3) := (blk_cell BK398.out 3).trans rfl
    have hfz18_0 := blk_frozen BK398.out 0
    have hfz18_1 := blk_frozen BK398.out 1
    have hfz18_2 := blk_frozen BK398.out 2
    have hfz18_3 := blk_frozen BK398.out 3
    go_wp2
    repeat (go_quiet (fail); try go_wp2)
    go_meet
    case rel => exact ⟨_, (true), y10_, H', ⟨y57_⟩, ⟨y25_⟩, ⟨y42_⟩, ⟨y27_⟩⟩
  ·rw [if_neg c6] at H
   have c6b0 : (a0_0 == a1_0) = false := beq_eq_false_iff_ne.mpr c6
   have c6b1 : (a0_0 != a1_0) = true := bne_iff_ne.mpr c6
   (first | rw [c6b0] | (simp only [i64_w, i32_w]; rw [c6b0]) | skip)
   have H' := Aside0.mk H
   clear H
   have hnb19 := NB397_398.out
   have hnc19 := NB398_397.out
   have hcz20_0 : w5.cell? ⟨gb397, 0, none⟩ = some (.int .i64 a0_0) := (blk_cell BK397.out 0).trans rfl
   have hcz20_1 : w5.cell? ⟨gb397, 1, none⟩ = some (.int .u32 a0_1) := (blk_cell BK397.out 1).trans rfl
   have hcz20_2 : w5.cell? ⟨gb397, 2, none⟩ = some (.slice A0_2 l0_2.length c0_2) := (blk_cell BK397.out 2).trans rfl
   have hcz20_3 : w5.cell? ⟨gb397, 3, none⟩ = some (.slice A0_3 l0_3.length c0_3) := (blk_cell BK397.out 3).trans rfl
   have hfz20_0 := blk_frozen BK397.out 0
   have hfz20_1 := blk_frozen BK397.out 1
   have hfz20_2 := blk_frozen BK397.out 2
   have hfz20_3 := blk_frozen BK397.out 3
   have hcz21_0 : w5.cell? ⟨gb398, 0, none⟩ = some (.int .i64 a1_0) := (blk_cell BK398.out 0).trans rfl
   have hcz21_1 : w5.cell? ⟨gb398, 1, none⟩ = some (.int .u32 a1_1) := (blk_cell BK398.out 1).trans rfl
   have hcz21_2 : w5.cell? ⟨gb398, 2, none⟩ = some (.slice A1_2 l1_2.length c1_2) := (blk_cell BK398.out 2).trans rfl
   have hcz21_3 : w5.cell? ⟨gb398, 3, none⟩ = some (.slice A1_3 l1_3.length c1_3) := (blk_cell BK398.out 3).trans rfl
   have hfz21_0 := blk_frozen BK398.out 0
   have hfz21_1 := blk_frozen BK398.out 1
   have hfz21_2 := blk_frozen BK398.out 2
   have hfz21_3 := blk_frozen BK398.out 3
   go_wp2
   repeat (go_quiet (fail); try go_wp2)
   go_meet
   case rel => exact ⟨_, (true), y10_, H', ⟨y57_⟩, ⟨y25_⟩, ⟨y42_⟩, ⟨y27_⟩⟩
 case rest =>
  clear HC3
  try clear c1
  try clear p2
  try clear c6
  try clear c6b0
  try clear c6b1
  try clear c7
  try clear c7b0
  try clear c7b1
  try clear c9
  try clear c10
  try clear c11
  try clear c13
  try clear c16
  try clear c19
  try clear hcz11_0
  try clear hcz11_1
  try clear hcz11_2
  try clear hcz11_3
  try clear hcz12_0
  try clear hcz12_1
  try clear hcz12_2
  try clear hcz12_3
  try clear hcz14_0
  try clear hcz14_1
  try clear hcz14_2
  try clear hcz14_3
  try clear hcz15_0
  try clear hcz15_1
  try clear hcz15_2
  try clear hcz15_3
  try clear hcz17_0
  try clear hcz17_1
  try clear hcz17_2
  try clear hcz17_3
  try clear hcz18_0
  try clear hcz18_1
  try clear hcz18_2
  try clear hcz18_3
  try clear hcz20_0
  try clear hcz20_1
  try clear hcz20_2
  try clear hcz20_3
  try clear hcz21_0
  try clear hcz21_1
  try clear hcz21_2
  try clear hcz21_3
  try clear hfz11_0
  try clear hfz11_1
  try clear hfz11_2
  try clear hfz11_3
  try clear hfz12_0
  try clear hfz12_1
  try clear hfz12_2
  try clear hfz12_3
  try clear hfz14_0
  try clear hfz14_1
  try clear hfz14_2
  try clear hfz14_3
  try clear hfz15_0
  try clear hfz15_1
  try clear hfz15_2
  try clear hfz15_3
  try clear hfz17_0
  try clear hfz17_1
  try clear hfz17_2
  try clear hfz17_3
  try clear hfz18_0
  try clear hfz18_1
  try clear hfz18_2
  try clear hfz18_3
  try clear hfz20_0
  try clear hfz20_1
  try clear hfz20_2
  try clear hfz20_3
  try clear hfz21_0
  try clear hfz21_1
  try clear hfz21_2
  try clear hfz21_3
  obtain ⟨kq, x34_2, rfl, HA, HJ2, BK397, BK398, HB⟩ := hcut
  cases kq with
  | zero => exact absurd HA.out (by simp [manometerref13_Same.j0])
  | succ kj2 =>
   have H := HA.out
   clear HA
   simp only [manometerref13_Same.j0] at H
   by_cases c22 : x34_2 = true
   ·subst c22
    have H1 : (some false) = some r := by rw [if_pos rfl] at H; exact H
    clear H
    have H := H1
    clear H1
    obtain rfl := Option.some.inj H
    go_wp2
    repeat (go_quiet (fail); try go_wp2)
    go_ret
    exact ⟨y7_, y27_⟩
   ·replace c22 := Bool.eq_false_iff.mpr c22
    subst c22
    have H1 : (manometerref13_Same.l0 kj2 (l0_3.length : Int) 0 a0_0 a0_1 l0_2 l0_3 a1_0 a1_1 l1_2 l1_3) = some r := by rw [if_neg (show ¬ (false = true) by decide)] at H; exact H
    clear H
    have H := H1
    clear H1
    have H' := Aside0.mk H
    clear H
    have hnb23 := NB397_398.out
    have hnc23 := NB398_397.out
    have hcz24_0 : wc.cell? ⟨gb397, 0, none⟩ = some (.int .i64 a0_0) := (blk_cell BK397.out 0).trans rfl
    have hcz24_1 : wc.cell? ⟨gb397, 1, none⟩ = some (.int .u32 a0_1) := (blk_cell BK397.out 1).trans rfl
    have hcz24_2 : wc.cell? ⟨gb397, 2, none⟩ = some (.slice A0_2 l0_2.length c0_2) := (blk_cell BK397.out 2).trans rfl
    have hcz24_3 : wc.cell? ⟨gb397, 3, none⟩ = some (.slice A0_3 l0_3.length c0_3) := (blk_cell BK397.out 3).trans rfl
    have hfz24_0 := blk_frozen BK397.out 0
    have hfz24_1 := blk_frozen BK397.out 1
    have hfz24_2 := blk_frozen BK397.out 2
    have hfz24_3 := blk_frozen BK397.out 3
    go_wp2
    repeat (go_quiet (fail); try go_wp2)
    go_loopg [38] kj2 (fun kq v38 w' => ∃ (x38_2 : Int), v38 = .int .i64 x38_2 ∧ Aside0 (manometerref13_Same.l0 kq (l0_3.length : Int) x38_2 a0_0 a0_1 l0_2 l0_3 a1_0 a1_1 l1_2 l1_3 = some r) ∧ Aside0 (kq ≤ kj2) ∧ Aside0 (w'.heap[gb397]? = some (.cells #[.int .i64 a0_0, .int .u32 a0_1, (.slice A0_2 l0_2.length c0_2), (.slice A0_3 l0_3.length c0_3)] 29 (0, 0))) ∧ Aside0 (w'.heap[gb398]? = some (.cells #[.int .i64 a1_0, .int .u32 a1_1, (.slice A1_2 l1_2.length c1_2), (.slice A1_3 l1_3.length c1_3)] 29 (0, 0))) ∧ Aside0 (Below w.heap.size w w'))
    case atStart => exact ⟨(0), y10_, H', ⟨Nat.le_refl _⟩, ⟨y25_⟩, ⟨y42_⟩, ⟨y27_⟩⟩
    case round =>
     clear H'
     try clear c1
     try clear c2
     try clear p2
     try clear c6
     try clear c6b0
     try clear c6b1
     try clear c7
     try clear c7b0
     try clear c7b1
     try clear c9
     try clear c10
     try clear c11
     try clear c13
     try clear c16
     try clear c19
     try clear c22
     try clear c23
     try clear hcz11_0
     try clear hcz11_1
     try clear hcz11_2
     try clear hcz11_3
     try clear hcz12_0
     try clear hcz12_1
     try clear hcz12_2
     try clear hcz12_3
     try clear hcz14_0
     try clear hcz14_1
     try clear hcz14_2
     try clear hcz14_3
     try clear hcz15_0
     try clear hcz15_1
     try clear hcz15_2
     try clear hcz15_3
     try clear hcz17_0
     try clear hcz17_1
     try clear hcz17_2
     try clear hcz17_3
     try clear hcz18_0
     try clear hcz18_1
     try clear hcz18_2
     try clear hcz18_3
     try clear hcz20_0
     try clear hcz20_1
     try clear hcz20_2
     try clear hcz20_3
     try clear hcz21_0
     try clear hcz21_1
     try clear hcz21_2
     try clear hcz21_3
     try clear hcz24_0
     try clear hcz24_1
     try clear hcz24_2
     try clear hcz24_3
     try clear hfz11_0
     try clear hfz11_1
     try clear hfz11_2
     try clear hfz11_3
     try clear hfz12_0
     try clear hfz12_1
     try clear hfz12_2
     try clear hfz12_3
     try clear hfz14_0
     try clear hfz14_1
     try clear hfz14_2
     try clear hfz14_3
     try clear hfz15_0
     try clear hfz15_1
     try clear hfz15_2
     try clear hfz15_3
     try clear hfz17_0
     try clear hfz17_1
     try clear hfz17_2
     try clear hfz17_3
     try clear hfz18_0
     try clear hfz18_1
     try clear hfz18_2
     try clear hfz18_3
     try clear hfz20_0
     try clear hfz20_1
     try clear hfz20_2
     try clear hfz20_3
     try clear hfz21_0
     try clear hfz21_1
     try clear hfz21_2
     try clear hfz21_3
     try clear hfz24_0
     try clear hfz24_1
     try clear hfz24_2
     try clear hfz24_3
     try clear p2
     obtain ⟨x38_2, rfl, HA, HK2, BK397, BK398, HB⟩ := hrel
     cases gk with
     | zero => exact absurd HA.out (by simp [manometerref13_Same.l0])
     | succ k2 =>
      have H := HA.out
      clear HA
      simp only [manometerref13_Same.l0] at H
      by_cases c25 : x38_2 < (l0_3.length : Int)
      ·rw [if_pos c25] at H
       have c25b0 : decide (x38_2 < (l0_3.length : Int)) = true := decide_eq_true c25
       clear c25
       by_cases c26 : 0 ≤ x38_2
       ·rw [if_pos c26] at H
        have c26b0 : decide (0 ≤ x38_2) = true := decide_eq_true c26
        clear c26
        by_cases c27 : x38_2 < (l0_3.length : Int)
        ·rw [if_pos c27] at H
         have c27b0 : decide (x38_2 < (l0_3.length : Int)) = true := decide_eq_true c27
         clear c27
         by_cases c28 : x38_2 < (l1_3.length : Int)
         ·rw [if_pos c28] at H
          have c28b0 : decide (x38_2 < (l1_3.length : Int)) = true := decide_eq_true c28
          clear c28
          by_cases c29 : (!(((rd_T45 l0_3 x38_2).f0) == ((rd_T45 l1_3 x38_2).f0)) || ((!(((rd_T45 l0_3 x38_2).f1.f0) == ((rd_T45 l1_3 x38_2).f1.f0)) || (!(((rd_T45 l0_3 x38_2).f1.f1) == ((rd_T45 l1_3 x38_2).f1.f1)) || (!(((rd_T45 l0_3 x38_2).f1.f2) == ((rd_T45 l1_3 x38_2).f1.f2))))))) = true
          ·rw [if_pos c29] at H
           have c29b0 : (!(((rd_T45 l0_3 x38_2).f0) == ((rd_T45 l1_3 x38_2).f0)) || ((!(((rd_T45 l0_3 x38_2).f1.f0) == ((rd_T45 l1_3 x38_2).f1.f0)) || (!(((rd_T45 l0_3 x38_2).f1.f1) == ((rd_T45 l1_3 x38_2).f1.f1)) || (!(((rd_T45 l0_3 x38_2).f1.f2) == ((rd_T45 l1_3 x38_2).f1.f2))))))) = true := c29
           clear c29
           obtain rfl := Option.some.inj H
           have hnb30 := NB397_398.out
           have hnc30 := NB398_397.out
           have hcz31_0 : wr.cell? ⟨gb397, 0, none⟩ = some (.int .i64 a0_0) := (blk_cell BK397.out 0).trans rfl
           have hcz31_1 : wr.cell? ⟨gb397, 1, none⟩ = some (.int .u32 a0_1) := (blk_cell BK397.out 1).trans rfl
           have hcz31_2 : wr.cell? ⟨gb397, 2, none⟩ = some (.slice A0_2 l0_2.length c0_2) := (blk_cell BK397.out 2).trans rfl
           have hcz31_3 : wr.cell? ⟨gb397, 3, none⟩ = some (.slice A0_3 l0_3.length c0_3) := (blk_cell BK397.out 3).trans rfl
           have hfz31_0 := blk_frozen BK397.out 0
           have hfz31_1 := blk_frozen BK397.out 1
           have hfz31_2 := blk_frozen BK397.out 2
           have hfz31_3 := blk_frozen BK397.out 3
           have p400 : 0 ≤ (x38_2 : Int) := of_decide_eq_true y3_
           have q400 : x38_2 < (l0_3.length : Int) := of_decide_eq_true y3_
           obtain ⟨ad400, e400, hx400_0, hx400_1, hx400_2, hx400_3⟩ := at_T45 HR0_3.out x38_2 p400 q400
           cases e400
           replace hx400_0 := (HB.out.cell (World.block_lt_of_cell? w _ hx400_0)).trans hx400_0
           replace hx400_1 := (HB.out.cell (World.block_lt_of_cell? w _ hx400_1)).trans hx400_1
           replace hx400_2 := (HB.out.cell (World.block_lt_of_cell? w _ hx400_2)).trans hx400_2
           replace hx400_3 := (HB.out.cell (World.block_lt_of_cell? w _ hx400_3)).trans hx400_3
           replace p400 := eq_true p400
           replace q400 := eq_true q400
           have hcz32_0 : wr.cell? ⟨gb398, 0, none⟩ = some (.int .i64 a1_0) := (blk_cell BK398.out 0).trans rfl
           have hcz32_1 : wr.cell? ⟨gb398, 1, none⟩ = some (.int .u32 a1_1) := (blk_cell BK398.out 1).trans rfl
           have hcz32_2 : wr.cell? ⟨gb398, 2, none⟩ = some (.slice A1_2 l1_2.length c1_2) := (blk_cell BK398.out 2).trans rfl
           have hcz32_3 : wr.cell? ⟨gb398, 3, none⟩ = some (.slice A1_3 l1_3.length c1_3) := (blk_cell BK398.out 3).trans rfl
           have hfz32_0 := blk_frozen BK398.out 0
           have hfz32_1 := blk_frozen BK398.out 1
           have hfz32_2 := blk_frozen BK398.out 2
           have hfz32_3 := blk_frozen BK398.out 3
           have p401 : 0 ≤ (x38_2 : Int) := of_decide_eq_true y3_
           have q401 : x38_2 < (l1_3.length : Int) := of_decide_eq_true y3_
           obtain ⟨ad401, e401, hx401_0, hx401_1, hx401_2, hx401_3⟩ := at_T45 HR1_3.out x38_2 p401 q401
           cases e401
           replace hx401_0 := (HB.out.cell (World.block_lt_of_cell? w _ hx401_0)).trans hx401_0
           replace hx401_1 := (HB.out.cell (World.block_lt_of_cell? w _ hx401_1)).trans hx401_1
           replace hx401_2 := (HB.out.cell (World.block_lt_of_cell? w _ hx401_2)).trans hx401_2
           replace hx401_3 := (HB.out.cell (World.block_lt_of_cell? w _ hx401_3)).trans hx401_3
           replace p401 := eq_true p401
           replace q401 := eq_true q401
           go_wp2
           repeat (go_quiet (fail); try go_wp2)
           go_ret
           exact ⟨y7_, y27_⟩
          ·rw [if_neg c29] at H
           have c29b0 : (!(((rd_T45 l0_3 x38_2).f0) == ((rd_T45 l1_3 x38_2).f0)) || ((!(((rd_T45 l0_3 x38_2).f1.f0) == ((rd_T45 l1_3 x38_2).f1.f0)) || (!(((rd_T45 l0_3 x38_2).f1.f1) == ((rd_T45 l1_3 x38_2).f1.f1)) || (!(((rd_T45 l0_3 x38_2).f1.f2) == ((rd_T45 l1_3 x38_2).f1.f2))))))) = false := by simpa using c29
           clear c29
           have H' := Aside0.mk H
           clear H
           have hnb33 := NB397_398.out
           have hnc33 := NB398_397.out
           have hcz34_0 : wr.cell? ⟨gb397, 0, none⟩ = some (.int .i64 a0_0) := (blk_cell BK397.out 0).trans rfl
           have hcz34_1 : wr.cell? ⟨gb397, 1, none⟩ = some (.int .u32 a0_1) := (blk_cell BK397.out 1).trans rfl
           have hcz34_2 : wr.cell? ⟨gb397, 2, none⟩ = some (.slice A0_2 l0_2.length c0_2) := (blk_cell BK397.out 2).trans rfl
           have hcz34_3 : wr.cell? ⟨gb397, 3, none⟩ = some (.slice A0_3 l0_3.length c0_3) := (blk_cell BK397.out 3).trans rfl
           have hfz34_0 := blk_frozen BK397.out 0
           have hfz34_1 := blk_frozen BK397.out 1
           have hfz34_2 := blk_frozen BK397.out 2
           have hfz34_3 := blk_frozen BK397.out 3
           have p400 : 0 ≤ (x38_2 : Int) := of_decide_eq_true y3_
           have q400 : x38_2 < (l0_3.length : Int) := of_decide_eq_true y3_
           obtain ⟨ad400, e400, hx400_0, hx400_1, hx400_2, hx400_3⟩ := at_T45 HR0_3.out x38_2 p400 q400
           cases e400
           replace hx400_0 := (HB.out.cell (World.block_lt_of_cell? w _ hx400_0)).trans hx400_0
           replace hx400_1 := (HB.out.cell (World.block_lt_of_cell? w _ hx400_1)).trans hx400_1
           replace hx400_2 := (HB.out.cell (World.block_lt_of_cell? w _ hx400_2)).trans hx400_2
           replace hx400_3 := (HB.out.cell (World.block_lt_of_cell? w _ hx400_3)).trans hx400_3
           replace p400 := eq_true p400
           replace q400 := eq_true q400
           have hcz35_0 : wr.cell? ⟨gb398, 0, none⟩ = some (.int .i64 a1_0) := (blk_cell BK398.out 0).trans rfl
           have hcz35_1 : wr.cell? ⟨gb398, 1, none⟩ = some (.int .u32 a1_1) := (blk_cell BK398.out 1).trans rfl
           have hcz35_2 : wr.cell? ⟨gb398, 2, none⟩ = some (.slice A1_2 l1_2.length c1_2) := (blk_cell BK398.out 2).trans rfl
           have hcz35_3 : wr.cell? ⟨gb398, 3, none⟩ = some (.slice A1_3 l1_3.length c1_3) := (blk_cell BK398.out 3).trans rfl
           have hfz35_0 := blk_frozen BK398.out 0
           have hfz35_1 := blk_frozen BK398.out 1
           have hfz35_2 := blk_frozen BK398.out 2
           have hfz35_3 := blk_frozen BK398.out 3
           have p401 : 0 ≤ (x38_2 : Int) := of_decide_eq_true y3_
           have q401 : x38_2 < (l1_3.length : Int) := of_decide_eq_true y3_
           obtain ⟨ad401, e401, hx401_0, hx401_1, hx401_2, hx401_3⟩ := at_T45 HR1_3.out x38_2 p401 q401
           cases e401
           replace hx401_0 := (HB.out.cell (World.block_lt_of_cell? w _ hx401_0)).trans hx401_0
           replace hx401_1 := (HB.out.cell (World.block_lt_of_cell? w _ hx401_1)).trans hx401_1
           replace hx401_2 := (HB.out.cell (World.block_lt_of_cell? w _ hx401_2)).trans hx401_2
           replace hx401_3 := (HB.out.cell (World.block_lt_of_cell? w _ hx401_3)).trans hx401_3
           replace p401 := eq_true p401
           replace q401 := eq_true q401
           go_wp2
           repeat (go_quiet (fail); try go_wp2)
           go_roundg k2
           case measure => have := HJ2.out; have := HK2.out; omega
           case rel => exact ⟨(wrap64 (x38_2 + 1)), y10_, H', ⟨by have := HJ2.out; have := HK2.out; omega⟩, ⟨y25_⟩, ⟨y42_⟩, ⟨y27_⟩⟩
         ·rw [if_neg c28] at H
          exact absurd H (by simp)
        ·rw [if_neg c27] at H
         exact absurd H (by simp)
       ·rw [if_neg c26] at H
        exact absurd H (by simp)
      ·rw [if_neg c25] at H
       have c25b0 : decide (x38_2 < (l0_3.length : Int)) = false := decide_eq_false c25
       clear c25
       obtain rfl := Option.some.inj H
       go_wp2
       repeat (go_quiet (fail); try go_wp2)
       go_ret
       exact ⟨y7_, y27_⟩
end Go.Proofs.YtdckhaejhfkkbaaDoor.PRT
