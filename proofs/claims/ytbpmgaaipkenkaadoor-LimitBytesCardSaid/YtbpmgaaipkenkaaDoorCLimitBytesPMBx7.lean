import Derived.Test.YtbpmgaaipkenkaaDoorCLimitBytesPMBx2
import Derived.Test.YtbpmgaaipkenkaaDoorCLimitBytesPMCx0
namespace Go.Proofs.YtbpmgaaipkenkaaDoor.PMB
open Go.RowKit Go.Proofs.YtbpmgaaipkenkaaDoorW.PrintWords Go.Proofs.YtbpmgaaipkenkaaDoorW.PrintLast Go.Proofs.YtbpmgaaipkenkaaDoorW.PrintMore
attribute [local go_sem] max2_int min2_int max_two min_two max_three min_three max_four min_four
set_option linter.unusedVariables false
set_option linter.unusedSimpArgs false
attribute [local go_sem high] eqA42
def limit_Use.f (a0_0 : Int) (a0_1 : Int) (a1 : Int) : Option (Int × Int × Bool) := if okN a0_0 a1 = true then some ((if a0_1 < plusF a0_0 a1 then a0_0 else plusF a0_0 a1), a0_1, !decide (a0_1 < plusF a0_0 a1)) else none
theorem limit_Use.calls (a0_0 : Int) (a0_1 : Int) (a1 : Int) (r1 : Int) (r2 : Int) (r3 : Bool) (w : World) (h : limit_Use.f a0_0 a0_1 a1 = some (r1, r2, r3)) :
  Calls Tryd.prog 25 #[.agg #[.int .u64 a0_0, .int .u64 a0_1], .int .u64 a1] w fun e w' => e = .returned (.tuple #[.agg #[.int .u64 r1, .int .u64 r2], .bool r3]) ∧ Below w.heap.size w w' := by
 unfold limit_Use.f at h
 split at h
 ·rename_i h1
  simp only [Option.some.injEq, Prod.mk.injEq] at h
  obtain ⟨rfl, rfl, rfl⟩ := h
  exact guse w h1
 ·cases h
def manometerref19_Use.f (a0_0 : Int) (a0_1 : Int) (a1 : Int) : Option (Int × Int × Bool) := if okN a0_0 a1 = true then some ((if a0_1 < plusF a0_0 a1 then a0_0 else plusF a0_0 a1), a0_1, !decide (a0_1 < plusF a0_0 a1)) else none
theorem manometerref19_Use.calls (a0_0 : Int) (a0_1 : Int) (a1 : Int) (r1 : Int) (r2 : Int) (r3 : Bool) (w : World) (h : manometerref19_Use.f a0_0 a0_1 a1 = some (r1, r2, r3)) :
  Calls Tryd.prog 26 #[.agg #[.int .u64 a0_0, .int .u64 a0_1], .int .u64 a1] w fun e w' => e = .returned (.tuple #[.agg #[.int .u64 r1, .int .u64 r2], .bool r3]) ∧ Below w.heap.size w w' := by
 unfold manometerref19_Use.f at h
 split at h
 ·rename_i h1
  simp only [Option.some.injEq, Prod.mk.injEq] at h
  obtain ⟨rfl, rfl, rfl⟩ := h
  exact gruse w h1
 ·cases h
mutual
def manometerlaw19_LimitBytes.j0 : Nat → List Int → Bool → Int → Int → Option (Bool)
 | 0, _, _, _, _ => none
 | k + 1, x1, x17, x206000, x206001 => if x17 = true then ((manometerlaw19_live.f).bind fun t207 => (some t207)) else (manometerlaw19_LimitBytes.l0 k x1 (x1.length : Int) 0 x206000 x206001)
def manometerlaw19_LimitBytes.l0 : Nat → List Int → Int → Int → Int → Int → Option (Bool)
 | 0, _, _, _, _, _ => none
 | k + 1, x19, x20, x21, x206000, x206001 => if x21 < x20 then (if 0 ≤ x21 then (if x21 < (x19.length : Int) then ((limit_Use.f x206000 x206001 (rd x19 x21)).bind fun bt209 => ((manometerref19_Use.f x206000 x206001 (rd x19 x21)).bind fun bt213 => (if (!(bt209.1 == bt213.1) || (!(bt209.2.1 == bt213.2.1))) = true then (some false) else (if (bt209.2.2 != bt213.2.2) = true then (some false) else (if bt209.2.2 = true then (if bt209.1 > bt209.2.1 then (some false) else (manometerlaw19_LimitBytes.l0 k x19 x20 (wrap64 (x21 + 1)) bt209.1 bt209.2.1)) else (manometerlaw19_LimitBytes.l0 k x19 x20 (wrap64 (x21 + 1)) bt209.1 bt209.2.1)))))) else (none)) else (none)) else (some true)
end
def manometerlaw19_LimitBytes.f (k : Nat) (a0_0 : Int) (a0_1 : Int) (l1 : List Int) : Option (Bool) := (manometerlaw19_live.f).bind fun t206 => (if t206 = true then (manometerlaw19_LimitBytes.j0 k l1 (decide ((l1.length : Int) > 300)) a0_0 a0_1) else (manometerlaw19_LimitBytes.j0 k l1 true a0_0 a0_1))
set_option maxHeartbeats 8000000 in
set_option maxRecDepth 100000 in
theorem manometerlaw19_LimitBytes.calls (k : Nat) (a0_0 : Int) (a0_1 : Int) (A1 : Option Addr) (c1 : Nat) (l1 : List Int) (r : Bool) (w : World) (hT : Aside0 (Tab w)) (hr1 : Kd.C (Kd.int .u64) w A1 l1.length l1) (hc1 : l1.length ≤ c1) (h : manometerlaw19_LimitBytes.f k a0_0 a0_1 l1 = some r) :
  Calls Tryd.prog 7 #[.agg #[.int .u64 a0_0, .int .u64 a0_1], .slice A1 l1.length c1] w fun e w' => e = .returned (.bool r) ∧ Below w.heap.size w w' := by
 have hu42 := Tryd.underlying42
 have HR1 := Aside0.mk hr1
 have HC1 := Aside0.mk hc1
 clear hr1 hc1
 have HB := Aside0.mk (Below.refl w.heap.size w)
 have H : ((manometerlaw19_live.f).bind fun t206 => (if t206 = true then (manometerlaw19_LimitBytes.j0 k l1 (decide ((l1.length : Int) > 300)) a0_0 a0_1) else (manometerlaw19_LimitBytes.j0 k l1 true a0_0 a0_1))) = some r := h
 clear h
 have HC3 := Aside0.mk H
 clear H
 go_enter Tryd.func7, Tryd.ntmps7
 go_upto_region 1 with (first | ((with_reducible refine gate_dst (N := 2) rfl ?_); (try (refine gate_guard (by rfl) ?_; dsimp only)); refine box_event ?hg (N := 2) ?hd (cs := #[.int .u64 a0_0, .int .u64 a0_1]) (t := 42) ?hr ?_; (case hd => rfl); (case hg => rfl); (case hr => first | (go_simp; done) | (go_simp; rfl)); intro gb205 hg w4 hbox hb; have n0_ := Aside0.mk (below_step y1_ hb); have n1_ := Aside0.mk (hbox); have n2_ := Aside0.mk ((y15_ : w.heap.size ≤ gb205)); have n3_ := Aside0.mk ((y15_ : w.heap.size ≤ gb205)); clear HB; have HB := n0_; have BK205 := n1_; have GW205 := n2_; have GE205 := n3_; clear n0_ n1_ n2_ n3_; clear hb hbox hg))
 (try simp only [Act.put, List.setIfInBounds_toArray, List.set_cons_zero, List.set_cons_succ])
 go_cut [17] (fun v17 wc => ∃ (kq : Nat) (x17_2 : Bool), v17 = .bool x17_2 ∧ Aside0 (manometerlaw19_LimitBytes.j0 kq l1 x17_2 a0_0 a0_1 = some r) ∧ Aside0 (kq ≤ k) ∧ Aside0 (wc.heap[gb205]? = some (.cells #[.int .u64 a0_0, .int .u64 a0_1] 42 (0, 0))) ∧ Aside0 (Below w.heap.size w wc))
 case first =>
  have H := HC3.out
  clear HC3
  replace H := Option.bind_eq_some_iff.mp H
  obtain ⟨t206, A50, H⟩ := H
  replace H : (if t206 = true then (manometerlaw19_LimitBytes.j0 k l1 (decide ((l1.length : Int) > 300)) a0_0 a0_1) else (manometerlaw19_LimitBytes.j0 k l1 true a0_0 a0_1)) = some r := H
  have A5 := Aside0.mk A50
  clear A50
  by_cases c6 : t206 = true
  ·subst c6
   have H1 : (manometerlaw19_LimitBytes.j0 k l1 (decide ((l1.length : Int) > 300)) a0_0 a0_1) = some r := by rw [if_pos rfl] at H; exact H
   clear H
   have H := H1
   clear H1
   have H' := Aside0.mk H
   clear H
   go_wp2_with (first | ((with_reducible refine gate_callee (f := 11) rfl ?_); refine goesL_ (some 11) rfl rfl Tryd.func11 (by kernel_rfl) rfl #[] rfl y6_ ?_; (with_reducible refine (manometerlaw19_live.calls  true _ ?side1 A5.out).mono ?_); (case side1 => exact ⟨Tab_below hT.out y4_⟩); rintro e w7 ⟨rfl, hb⟩; refine ⟨_, rfl, ?_⟩; have n0_ := Aside0.mk (blk_below (g := gb205) (o := .cells #[.int .u64 a0_0, .int .u64 a0_1] 42 (0, 0)) y5_ hb); have n1_ := Aside0.mk (below_step y4_ hb); clear BK205; clear HB; have BK205 := n0_; have HB := n1_; clear n0_ n1_; (try clear hb); (try clear hb2); (try clear hk); (try clear hi)))
   go_meet
   case rel => exact ⟨_, (decide ((l1.length : Int) > 300)), y13_, H', ⟨by first | omega | exact Nat.le_refl _⟩, ⟨y5_⟩, ⟨y4_⟩⟩
  ·replace c6 := Bool.eq_false_iff.mpr c6
   subst c6
   have H1 : (manometerlaw19_LimitBytes.j0 k l1 true a0_0 a0_1) = some r := by rw [if_neg (show ¬ (false = true) by decide)] at H; exact H
   clear H
   have H := H1
   clear H1
   have H' := Aside0.mk H
   clear H
   go_wp2_with (first | ((with_reducible refine gate_callee (f := 11) rfl ?_); refine goesL_ (some 11) rfl rfl Tryd.func11 (by kernel_rfl) rfl #[] rfl y6_ ?_; (with_reducible refine (manometerlaw19_live.calls  false _ ?side1 A5.out).mono ?_); (case side1 => exact ⟨Tab_below hT.out y4_⟩); rintro e w8 ⟨rfl, hb⟩; refine ⟨_, rfl, ?_⟩; have n0_ := Aside0.mk (blk_below (g := gb205) (o := .cells #[.int .u64 a0_0, .int .u64 a0_1] 42 (0, 0)) y5_ hb); have n1_ := Aside0.mk (below_step y4_ hb); clear BK205; clear HB; have BK205 := n0_; have HB := n1_; clear n0_ n1_; (try clear hb); (try clear hb2); (try clear hk); (try clear hi)))
   go_meet
   case rel => exact ⟨_, (true), y13_, H', ⟨by first | omega | exact Nat.le_refl _⟩, ⟨y5_⟩, ⟨y4_⟩⟩
 case rest =>
  clear HC3
  try clear c1
  try clear p2
  try clear c6
  try clear c7
  obtain ⟨kq, x17_2, rfl, HA, HJ2, BK205, HB⟩ := hcut
  cases kq with
  | zero => exact absurd HA.out (by simp [manometerlaw19_LimitBytes.j0])
  | succ kj2 =>
   have H := HA.out
   clear HA
   simp only [manometerlaw19_LimitBytes.j0] at H
   by_cases c9 : x17_2 = true
   ·subst c9
    have H1 : ((manometerlaw19_live.f).bind fun t207 => (some t207)) = some r := by rw [if_pos rfl] at H; exact H
    clear H
    have H := H1
    clear H1
    replace H := Option.bind_eq_some_iff.mp H
    obtain ⟨t207, A100, H⟩ := H
    replace H : (some t207) = some r := H
    have A10 := Aside0.mk A100
    clear A100
    obtain rfl := Option.some.inj H
    go_wp2_with (first | ((with_reducible refine gate_callee (f := 11) rfl ?_); refine goesL_ (some 18) rfl rfl Tryd.func11 (by kernel_rfl) rfl #[] rfl y6_ ?_; (with_reducible refine (manometerlaw19_live.calls  t207 _ ?side1 A10.out).mono ?_); (case side1 => exact ⟨Tab_below hT.out y4_⟩); rintro e w11 ⟨rfl, hb⟩; refine ⟨_, rfl, ?_⟩; have n0_ := Aside0.mk (blk_below (g := gb205) (o := .cells #[.int .u64 a0_0, .int .u64 a0_1] 42 (0, 0)) y5_ hb); have n1_ := Aside0.mk (below_step y4_ hb); clear BK205; clear HB; have BK205 := n0_; have HB := n1_; clear n0_ n1_; (try clear hb); (try clear hb2); (try clear hk); (try clear hi)))
    go_ret
    exact ⟨y10_, y4_⟩
   ·replace c9 := Bool.eq_false_iff.mpr c9
    subst c9
    have H1 : (manometerlaw19_LimitBytes.l0 kj2 l1 (l1.length : Int) 0 a0_0 a0_1) = some r := by rw [if_neg (show ¬ (false = true) by decide)] at H; exact H
    clear H
    have H := H1
    clear H1
    have H' := Aside0.mk H
    clear H
    go_wp2
    go_loopg [21] kj2 (fun kq v21 w' => ∃ (x21_2 : Int) (x206000_2 : Int) (x206001_2 : Int), v21 = .int .i64 x21_2 ∧ Aside0 (manometerlaw19_LimitBytes.l0 kq l1 (l1.length : Int) x21_2 x206000_2 x206001_2 = some r) ∧ Aside0 (kq ≤ kj2) ∧ Aside0 (w'.heap[gb205]? = some (.cells #[.int .u64 x206000_2, .int .u64 x206001_2] 42 (0, 0))) ∧ Aside0 (Below w.heap.size w w'))
    case atStart => exact ⟨(0), (a0_0), (a0_1), y13_, H', ⟨Nat.le_refl _⟩, ⟨y5_⟩, ⟨y4_⟩⟩
    case round =>
     clear H'
     try clear c1
     try clear p2
     try clear c6
     try clear c7
     try clear c9
     try clear c11
     try clear p2
     obtain ⟨x21_2, x206000_2, x206001_2, rfl, HA, HK2, BK205, HB⟩ := hrel
     cases gk with
     | zero => exact absurd HA.out (by simp [manometerlaw19_LimitBytes.l0])
     | succ k2 =>
      have H := HA.out
      clear HA
      simp only [manometerlaw19_LimitBytes.l0] at H
      by_cases c12 : x21_2 < (l1.length : Int)
      ·rw [if_pos c12] at H
       have c12b0 : decide (x21_2 < (l1.length : Int)) = true := decide_eq_true c12
       clear c12
       by_cases c13 : 0 ≤ x21_2
       ·rw [if_pos c13] at H
        have c13b0 : decide (0 ≤ x21_2) = true := decide_eq_true c13
        clear c13
        by_cases c14 : x21_2 < (l1.length : Int)
        ·rw [if_pos c14] at H
         have c14b0 : decide (x21_2 < (l1.length : Int)) = true := decide_eq_true c14
         clear c14
         replace H := Option.bind_eq_some_iff.mp H
         obtain ⟨⟨t209, t210, t211⟩, A150, H⟩ := H
         replace H : ((manometerref19_Use.f x206000_2 x206001_2 (rd l1 x21_2)).bind fun bt213 => (if (!(t209 == bt213.1) || (!(t210 == bt213.2.1))) = true then (some false) else (if (t211 != bt213.2.2) = true then (some false) else (if t211 = true then (if t209 > t210 then (some false) else (manometerlaw19_LimitBytes.l0 k2 l1 (l1.length : Int) (wrap64 (x21_2 + 1)) t209 t210)) else (manometerlaw19_LimitBytes.l0 k2 l1 (l1.length : Int) (wrap64 (x21_2 + 1)) t209 t210))))) = some r := H
         have A15 := Aside0.mk A150
         clear A150
         replace H := Option.bind_eq_some_iff.mp H
         obtain ⟨⟨t213, t214, t215⟩, A160, H⟩ := H
         replace H : (if (!(t209 == t213) || (!(t210 == t214))) = true then (some false) else (if (t211 != t215) = true then (some false) else (if t211 = true then (if t209 > t210 then (some false) else (manometerlaw19_LimitBytes.l0 k2 l1 (l1.length : Int) (wrap64 (x21_2 + 1)) t209 t210)) else (manometerlaw19_LimitBytes.l0 k2 l1 (l1.length : Int) (wrap64 (x21_2 + 1)) t209 t210)))) = some r := H
         have A16 := Aside0.mk A160
         clear A160
         by_cases c17 : (!(t209 == t213) || (!(t210 == t214))) = true
         ·rw [if_pos c17] at H
          have c17b0 : (!(t209 == t213) || (!(t210 == t214))) = true := c17
          clear c17
          obtain rfl := Option.some.inj H
          have p208 : 0 ≤ (x21_2 : Int) := of_decide_eq_true y9_
          have q208 : x21_2 < (l1.length : Int) := of_decide_eq_true y9_
          obtain ⟨ad208, e208, hx208_0⟩ := Kd.at_int HR1.out x21_2 p208 q208
          cases e208
          replace hx208_0 := (HB.out.cell (World.block_lt_of_cell? w _ hx208_0)).trans hx208_0
          replace p208 := eq_true p208
          replace q208 := eq_true q208
          have hcz18_0 : wr.cell? ⟨gb205, 0, none⟩ = some (.int .u64 x206000_2) := (blk_cell BK205.out 0).trans rfl
          have hcz18_1 : wr.cell? ⟨gb205, 1, none⟩ = some (.int .u64 x206001_2) := (blk_cell BK205.out 1).trans rfl
          have hfz18_0 := blk_frozen BK205.out 0
          have hfz18_1 := blk_frozen BK205.out 1
          go_wp2_with (first | ((with_reducible refine gate_callee (f := 25) rfl ?_); refine goesL_ (some 28) rfl rfl Tryd.func25 (by kernel_rfl) rfl #[.agg #[.int .u64 x206000_2, .int .u64 x206001_2], .int .u64 (rd l1 x21_2)] rfl y6_ ?_; (with_reducible refine (limit_Use.calls x206000_2 x206001_2 (rd l1 x21_2) t209 t210 t211 _ A15.out).mono ?_); rintro e w19 ⟨rfl, hb⟩; refine ⟨_, rfl, ?_⟩; have n0_ := Aside0.mk (blk_below (g := gb205) (o := .cells #[.int .u64 x206000_2, .int .u64 x206001_2] 42 (0, 0)) y5_ hb); have n1_ := Aside0.mk (below_step y4_ hb); clear BK205; clear HB; have BK205 := n0_; have HB := n1_; clear n0_ n1_; (try clear hb); (try clear hb2); (try clear hk); (try clear hi)) | ((with_reducible refine gate_dst (N := 7) rfl ?_); (try (refine gate_guard (by rfl) ?_; dsimp only)); refine box_event ?hg (N := 7) ?hd (cs := #[.int .u64 0, .int .u64 0]) (t := 42) ?hr ?_; (case hd => rfl); (case hg => rfl); (case hr => first | (go_simp; done) | (go_simp; rfl)); intro gb212 hg w20 hbox hb; have n0_ := Aside0.mk (blk_below (g := gb205) (o := .cells #[.int .u64 x206000_2, .int .u64 x206001_2] 42 (0, 0)) y5_ hb); have n1_ := Aside0.mk (below_step y4_ hb); have n2_ := Aside0.mk (hbox); have n3_ := Aside0.mk ((y31_ : w.heap.size ≤ gb212)); have n4_ := Aside0.mk ((y31_ : w.heap.size ≤ gb212)); have n5_ := Aside0.mk ((y16_ : gb205 ≠ gb212)); have n6_ := Aside0.mk ((y17_ : gb212 ≠ gb205)); clear BK205; clear HB; have BK205 := n0_; have HB := n1_; have BK212 := n2_; have GW212 := n3_; have GE212 := n4_; have NB205_212 := n5_; have NB212_205 := n6_; clear n0_ n1_ n2_ n3_ n4_ n5_ n6_; clear hb hbox hg; have hnb21 := NB212_205.out; have hnc21 := NB205_212.out; have hcz22_0 : w20.cell? ⟨gb212, 0, none⟩ = some (.int .u64 0) := (blk_cell BK212.out 0).trans rfl; have hcz22_1 : w20.cell? ⟨gb212, 1, none⟩ = some (.int .u64 0) := (blk_cell BK212.out 1).trans rfl; have hfz22_0 := blk_frozen BK212.out 0; have hfz22_1 := blk_frozen BK212.out 1; have hcz23_0 : w20.cell? ⟨gb205, 0, none⟩ = some (.int .u64 x206000_2) := (blk_cell BK205.out 0).trans rfl; have hcz23_1 : w20.cell? ⟨gb205, 1, none⟩ = some (.int .u64 x206001_2) := (blk_cell BK205.out 1).trans rfl; have hfz23_0 := blk_frozen BK205.out 0; have hfz23_1 := blk_frozen BK205.out 1) | ((with_reducible refine gate_callee (f := 26) rfl ?_); refine goesL_ (some 34) rfl rfl Tryd.func26 (by kernel_rfl) rfl #[.agg #[.int .u64 x206000_2, .int .u64 x206001_2], .int .u64 (rd l1 x21_2)] rfl y6_ ?_; (with_reducible refine (manometerref19_Use.calls x206000_2 x206001_2 (rd l1 x21_2) t213 t214 t215 _ A16.out).mono ?_); rintro e w24 ⟨rfl, hb⟩; refine ⟨_, rfl, ?_⟩; have n0_ := Aside0.mk (blk_below (g := gb205) (o := .cells #[.int .u64 x206000_2, .int .u64 x206001_2] 42 (0, 0)) y14_ hb); have n1_ := Aside0.mk (blk_below (g := gb212) (o := .cells #[.int .u64 t209, .int .u64 t210] 42 (0, 0)) y11_ hb); have n2_ := Aside0.mk (below_step y7_ hb); clear BK205; clear BK212; clear HB; have BK205 := n0_; have BK212 := n1_; have HB := n2_; clear n0_ n1_ n2_; (try clear hb); (try clear hb2); (try clear hk); (try clear hi)) | ((with_reducible refine gate_dst (N := 9) rfl ?_); (try (refine gate_guard (by rfl) ?_; dsimp only)); refine box_event ?hg (N := 9) ?hd (cs := #[.int .u64 0, .int .u64 0]) (t := 42) ?hr ?_; (case hd => rfl); (case hg => rfl); (case hr => first | (go_simp; done) | (go_simp; rfl)); intro gb216 hg w25 hbox hb; have n0_ := Aside0.mk (blk_below (g := gb205) (o := .cells #[.int .u64 x206000_2, .int .u64 x206001_2] 42 (0, 0)) y5_ hb); have n1_ := Aside0.mk (blk_below (g := gb212) (o := .cells #[.int .u64 t209, .int .u64 t210] 42 (0, 0)) y12_ hb); have n2_ := Aside0.mk (below_step y7_ hb); have n3_ := Aside0.mk (hbox); have n4_ := Aside0.mk ((y30_ : w.heap.size ≤ gb216)); have n5_ := Aside0.mk ((y30_ : w.heap.size ≤ gb216)); have n6_ := Aside0.mk ((y16_ : gb205 ≠ gb216)); have n7_ := Aside0.mk ((y17_ : gb216 ≠ gb205)); have n8_ := Aside0.mk ((y28_ : gb212 ≠ gb216)); have n9_ := Aside0.mk ((y29_ : gb216 ≠ gb212)); clear BK205; clear BK212; clear HB; have BK205 := n0_; have BK212 := n1_; have HB := n2_; have BK216 := n3_; have GW216 := n4_; have GE216 := n5_; have NB205_216 := n6_; have NB216_205 := n7_; have NB212_216 := n8_; have NB216_212 := n9_; clear n0_ n1_ n2_ n3_ n4_ n5_ n6_ n7_ n8_ n9_; clear hb hbox hg; have hnb26 := NB216_205.out; have hnc26 := NB205_216.out; have hnb27 := NB216_212.out; have hnc27 := NB212_216.out; have hcz28_0 : w25.cell? ⟨gb216, 0, none⟩ = some (.int .u64 0) := (blk_cell BK216.out 0).trans rfl; have hcz28_1 : w25.cell? ⟨gb216, 1, none⟩ = some (.int .u64 0) := (blk_cell BK216.out 1).trans rfl; have hfz28_0 := blk_frozen BK216.out 0; have hfz28_1 := blk_frozen BK216.out 1; have hcz29_0 : w25.cell? ⟨gb212, 0, none⟩ = some (.int .u64 t209) := (blk_cell BK212.out 0).trans rfl; have hcz29_1 : w25.cell? ⟨gb212, 1, none⟩ = some (.int .u64 t210) := (blk_cell BK212.out 1).trans rfl; have hfz29_0 := blk_frozen BK212.out 0; have hfz29_1 := blk_frozen BK212.out 1))
          go_ret
          exact ⟨y10_, y20_⟩
         ·rw [if_neg c17] at H
          have c17b0 : (!(t209 == t213) || (!(t210 == t214))) = false := by simpa using c17
          clear c17
          by_cases c30 : (t211 != t215) = true
          ·rw [if_pos c30] at H
           have c30b0 : (t211 != t215) = true := c30
           (try (have c30b1 : decide (t211 = t215) = false := by simpa using c30))
           (try (have c30b2 : (t211 == t215) = false := by simpa using c30))
           (try (have c30b3 : ¬ (t211 = t215) := by simpa using c30))
           clear c30
           obtain rfl := Option.some.inj H
           have p208 : 0 ≤ (x21_2 : Int) := of_decide_eq_true y9_
           have q208 : x21_2 < (l1.length : Int) := of_decide_eq_true y9_
           obtain ⟨ad208, e208, hx208_0⟩ := Kd.at_int HR1.out x21_2 p208 q208
           cases e208
           replace hx208_0 := (HB.out.cell (World.block_lt_of_cell? w _ hx208_0)).trans hx208_0
           replace p208 := eq_true p208
           replace q208 := eq_true q208
           have hcz31_0 : wr.cell? ⟨gb205, 0, none⟩ = some (.int .u64 x206000_2) := (blk_cell BK205.out 0).trans rfl
           have hcz31_1 : wr.cell? ⟨gb205, 1, none⟩ = some (.int .u64 x206001_2) := (blk_cell BK205.out 1).trans rfl
           have hfz31_0 := blk_frozen BK205.out 0
           have hfz31_1 := blk_frozen BK205.out 1
           go_wp2_with (first | ((with_reducible refine gate_callee (f := 25) rfl ?_); refine goesL_ (some 28) rfl rfl Tryd.func25 (by kernel_rfl) rfl #[.agg #[.int .u64 x206000_2, .int .u64 x206001_2], .int .u64 (rd l1 x21_2)] rfl y6_ ?_; (with_reducible refine (limit_Use.calls x206000_2 x206001_2 (rd l1 x21_2) t209 t210 t211 _ A15.out).mono ?_); rintro e w32 ⟨rfl, hb⟩; refine ⟨_, rfl, ?_⟩; have n0_ := Aside0.mk (blk_below (g := gb205) (o := .cells #[.int .u64 x206000_2, .int .u64 x206001_2] 42 (0, 0)) y5_ hb); have n1_ := Aside0.mk (below_step y4_ hb); clear BK205; clear HB; have BK205 := n0_; have HB := n1_; clear n0_ n1_; (try clear hb); (try clear hb2); (try clear hk); (try clear hi)) | ((with_reducible refine gate_dst (N := 7) rfl ?_); (try (refine gate_guard (by rfl) ?_; dsimp only)); refine box_event ?hg (N := 7) ?hd (cs := #[.int .u64 0, .int .u64 0]) (t := 42) ?hr ?_; (case hd => rfl); (case hg => rfl); (case hr => first | (go_simp; done) | (go_simp; rfl)); intro gb212 hg w33 hbox hb; have n0_ := Aside0.mk (blk_below (g := gb205) (o := .cells #[.int .u64 x206000_2, .int .u64 x206001_2] 42 (0, 0)) y5_ hb); have n1_ := Aside0.mk (below_step y4_ hb); have n2_ := Aside0.mk (hbox); have n3_ := Aside0.mk ((y31_ : w.heap.size ≤ gb212)); have n4_ := Aside0.mk ((y31_ : w.heap.size ≤ gb212)); have n5_ := Aside0.mk ((y16_ : gb205 ≠ gb212)); have n6_ := Aside0.mk ((y17_ : gb212 ≠ gb205)); clear BK205; clear HB; have BK205 := n0_; have HB := n1_; have BK212 := n2_; have GW212 := n3_; have GE212 := n4_; have NB205_212 := n5_; have NB212_205 := n6_; clear n0_ n1_ n2_ n3_ n4_ n5_ n6_; clear hb hbox hg; have hnb34 := NB212_205.out; have hnc34 := NB205_212.out; have hcz35_0 : w33.cell? ⟨gb212, 0, none⟩ = some (.int .u64 0) := (blk_cell BK212.out 0).trans rfl; have hcz35_1 : w33.cell? ⟨gb212, 1, none⟩ = some (.int .u64 0) := (blk_cell BK212.out 1).trans rfl; have hfz35_0 := blk_frozen BK212.out 0; have hfz35_1 := blk_frozen BK212.out 1; have hcz36_0 : w33.cell? ⟨gb205, 0, none⟩ = some (.int .u64 x206000_2) := (blk_cell BK205.out 0).trans rfl; have hcz36_1 : w33.cell? ⟨gb205, 1, none⟩ = some (.int .u64 x206001_2) := (blk_cell BK205.out 1).trans rfl; have hfz36_0 := blk_frozen BK205.out 0; have hfz36_1 := blk_frozen BK205.out 1) | ((with_reducible refine gate_callee (f := 26) rfl ?_); refine goesL_ (some 34) rfl rfl Tryd.func26 (by kernel_rfl) rfl #[.agg #[.int .u64 x206000_2, .int .u64 x206001_2], .int .u64 (rd l1 x21_2)] rfl y6_ ?_; (with_reducible refine (manometerref19_Use.calls x206000_2 x206001_2 (rd l1 x21_2) t213 t214 t215 _ A16.out).mono ?_); rintro e w37 ⟨rfl, hb⟩; refine ⟨_, rfl, ?_⟩; have n0_ := Aside0.mk (blk_below (g := gb205) (o := .cells #[.int .u64 x206000_2, .int .u64 x206001_2] 42 (0, 0)) y14_ hb); have n1_ := Aside0.mk (blk_below (g := gb212) (o := .cells #[.int .u64 t209, .int .u64 t210] 42 (0, 0)) y11_ hb); have n2_ := Aside0.mk (below_step y7_ hb); clear BK205; clear BK212; clear HB; have BK205 := n0_; have BK212 := n1_; have HB := n2_; clear n0_ n1_ n2_; (try clear hb); (try clear hb2); (try clear hk); (try clear hi)) | ((with_reducible refine gate_dst (N := 9) rfl ?_); (try (refine gate_guard (by rfl) ?_; dsimp only)); refine box_event ?hg (N := 9) ?hd (cs := #[.int .u64 0, .int .u64 0]) (t := 42) ?hr ?_; (case hd => rfl); (case hg => rfl); (case hr => first | (go_simp; done) | (go_simp; rfl)); intro gb216 hg w38 hbox hb; have n0_ := Aside0.mk (blk_below (g := gb205) (o := .cells #[.int .u64 x206000_2, .int .u64 x206001_2] 42 (0, 0)) y5_ hb); have n1_ := Aside0.mk (blk_below (g := gb212) (o := .cells #[.int .u64 t209, .int .u64 t210] 42 (0, 0)) y12_ hb); have n2_ := Aside0.mk (below_step y7_ hb); have n3_ := Aside0.mk (hbox); have n4_ := Aside0.mk ((y30_ : w.heap.size ≤ gb216)); have n5_ := Aside0.mk ((y30_ : w.heap.size ≤ gb216)); have n6_ := Aside0.mk ((y16_ : gb205 ≠ gb216)); have n7_ := Aside0.mk ((y17_ : gb216 ≠ gb205)); have n8_ := Aside0.mk ((y28_ : gb212 ≠ gb216)); have n9_ := Aside0.mk ((y29_ : gb216 ≠ gb212)); clear BK205; clear BK212; clear HB; have BK205 := n0_; have BK212 := n1_; have HB := n2_; have BK216 := n3_; have GW216 := n4_; have GE216 := n5_; have NB205_216 := n6_; have NB216_205 := n7_; have NB212_216 := n8_; have NB216_212 := n9_; clear n0_ n1_ n2_ n3_ n4_ n5_ n6_ n7_ n8_ n9_; clear hb hbox hg; have hnb39 := NB216_205.out; have hnc39 := NB205_216.out; have hnb40 := NB216_212.out; have hnc40 := NB212_216.out; have hcz41_0 : w38.cell? ⟨gb216, 0, none⟩ = some (.int .u64 0) := (blk_cell BK216.out 0).trans rfl; have hcz41_1 : w38.cell? ⟨gb216, 1, none⟩ = some (.int .u64 0) := (blk_cell BK216.out 1).trans rfl; have hfz41_0 := blk_frozen BK216.out 0; have hfz41_1 := blk_frozen BK216.out 1; have hcz42_0 : w38.cell? ⟨gb212, 0, none⟩ = some (.int .u64 t209) := (blk_cell BK212.out 0).trans rfl; have hcz42_1 : w38.cell? ⟨gb212, 1, none⟩ = some (.int .u64 t210) := (blk_cell BK212.out 1).trans rfl; have hfz42_0 := blk_frozen BK212.out 0; have hfz42_1 := blk_frozen BK212.out 1))
           go_ret
           exact ⟨y10_, y20_⟩
          ·rw [if_neg c30] at H
           have c30b0 : (t211 != t215) = false := by simpa using c30
           (try (have c30b1 : decide (t211 = t215) = true := by simpa using c30))
           (try (have c30b2 : (t211 == t215) = true := by simpa using c30))
           clear c30
           by_cases c43 : t211 = true
           ·subst c43
            have H1 : (if t209 > t210 then (some false) else (manometerlaw19_LimitBytes.l0 k2 l1 (l1.length : Int) (wrap64 (x21_2 + 1)) t209 t210)) = some r := by rw [if_pos rfl] at H; exact H
            clear H
            have H := H1
            clear H1
            by_cases c44 : t209 > t210
            ·rw [if_pos c44] at H
             have c44b0 : decide (t210 < t209) = true := decide_eq_true c44
             clear c44
             obtain rfl := Option.some.inj H
             have p208 : 0 ≤ (x21_2 : Int) := of_decide_eq_true y9_
             have q208 : x21_2 < (l1.length : Int) := of_decide_eq_true y9_
             obtain ⟨ad208, e208, hx208_0⟩ := Kd.at_int HR1.out x21_2 p208 q208
             cases e208
             replace hx208_0 := (HB.out.cell (World.block_lt_of_cell? w _ hx208_0)).trans hx208_0
             replace p208 := eq_true p208
             replace q208 := eq_true q208
             have hcz45_0 : wr.cell? ⟨gb205, 0, none⟩ = some (.int .u64 x206000_2) := (blk_cell BK205.out 0).trans rfl
             have hcz45_1 : wr.cell? ⟨gb205, 1, none⟩ = some (.int .u64 x206001_2) := (blk_cell BK205.out 1).trans rfl
             have hfz45_0 := blk_frozen BK205.out 0
             have hfz45_1 := blk_frozen BK205.out 1
             go_wp2_with (first | ((with_reducible refine gate_callee (f := 25) rfl ?_); refine goesL_ (some 28) rfl rfl Tryd.func25 (by kernel_rfl) rfl #[.agg #[.int .u64 x206000_2, .int .u64 x206001_2], .int .u64 (rd l1 x21_2)] rfl y6_ ?_; (with_reducible refine (limit_Use.calls x206000_2 x206001_2 (rd l1 x21_2) t209 t210 true _ A15.out).mono ?_); rintro e w46 ⟨rfl, hb⟩; refine ⟨_, rfl, ?_⟩; have n0_ := Aside0.mk (blk_below (g := gb205) (o := .cells #[.int .u64 x206000_2, .int .u64 x206001_2] 42 (0, 0)) y5_ hb); have n1_ := Aside0.mk (below_step y4_ hb); clear BK205; clear HB; have BK205 := n0_; have HB := n1_; clear n0_ n1_; (try clear hb); (try clear hb2); (try clear hk); (try clear hi)) | ((with_reducible refine gate_dst (N := 7) rfl ?_); (try (refine gate_guard (by rfl) ?_; dsimp only)); refine box_event ?hg (N := 7) ?hd (cs := #[.int .u64 0, .int .u64 0]) (t := 42) ?hr ?_; (case hd => rfl); (case hg => rfl); (case hr => first | (go_simp; done) | (go_simp; rfl)); intro gb212 hg w47 hbox hb; have n0_ := Aside0.mk (blk_below (g := gb205) (o := .cells #[.int .u64 x206000_2, .int .u64 x206001_2] 42 (0, 0)) y5_ hb); have n1_ := Aside0.mk (below_step y4_ hb); have n2_ := Aside0.mk (hbox); have n3_ := Aside0.mk ((y31_ : w.heap.size ≤ gb212)); have n4_ := Aside0.mk ((y31_ : w.heap.size ≤ gb212)); have n5_ := Aside0.mk ((y16_ : gb205 ≠ gb212)); have n6_ := Aside0.mk ((y17_ : gb212 ≠ gb205)); clear BK205; clear HB; have BK205 := n0_; have HB := n1_; have BK212 := n2_; have GW212 := n3_; have GE212 := n4_; have NB205_212 := n5_; have NB212_205 := n6_; clear n0_ n1_ n2_ n3_ n4_ n5_ n6_; clear hb hbox hg; have hnb48 := NB212_205.out; have hnc48 := NB205_212.out; have hcz49_0 : w47.cell? ⟨gb212, 0, none⟩ = some (.int .u64 0) := (blk_cell BK212.out 0).trans rfl; have hcz49_1 : w47.cell? ⟨gb212, 1, none⟩ = some (.int .u64 0) := (blk_cell BK212.out 1).trans rfl; have hfz49_0 := blk_frozen BK212.out 0; have hfz49_1 := blk_frozen BK212.out 1; have hcz50_0 : w47.cell? ⟨gb205, 0, none⟩ = some (.int .u64 x206000_2) := (blk_cell BK205.out 0).trans rfl; have hcz50_1 : w47.cell? ⟨gb205, 1, none⟩ = some (.int .u64 x206001_2) := (blk_cell BK205.out 1).trans rfl; have hfz50_0 := blk_frozen BK205.out 0; have hfz50_1 := blk_frozen BK205.out 1) | ((with_reducible refine gate_callee (f := 26) rfl ?_); refine goesL_ (some 34) rfl rfl Tryd.func26 (by kernel_rfl) rfl #[.agg #[.int .u64 x206000_2, .int .u64 x206001_2], .int .u64 (rd l1 x21_2)] rfl y6_ ?_; (with_reducible refine (manometerref19_Use.calls x206000_2 x206001_2 (rd l1 x21_2) t213 t214 t215 _ A16.out).mono ?_); rintro e w51 ⟨rfl, hb⟩; refine ⟨_, rfl, ?_⟩; have n0_ := Aside0.mk (blk_below (g := gb205) (o := .cells #[.int .u64 x206000_2, .int .u64 x206001_2] 42 (0, 0)) y14_ hb); have n1_ := Aside0.mk (blk_below (g := gb212) (o := .cells #[.int .u64 t209, .int .u64 t210] 42 (0, 0)) y11_ hb); have n2_ := Aside0.mk (below_step y7_ hb); clear BK205; clear BK212; clear HB; have BK205 := n0_; have BK212 := n1_; have HB := n2_; clear n0_ n1_ n2_; (try clear hb); (try clear hb2); (try clear hk); (try clear hi)) | ((with_reducible refine gate_dst (N := 9) rfl ?_); (try (refine gate_guard (by rfl) ?_; dsimp only)); refine box_event ?hg (N := 9) ?hd (cs := #[.int .u64 0, .int .u64 0]) (t := 42) ?hr ?_; (case hd => rfl); (case hg => rfl); (case hr => first | (go_simp; done) | (go_simp; rfl)); intro gb216 hg w52 hbox hb; have n0_ := Aside0.mk (blk_below (g := gb205) (o := .cells #[.int .u64 x206000_2, .int .u64 x206001_2] 42 (0, 0)) y5_ hb); have n1_ := Aside0.mk (blk_below (g := gb212) (o := .cells #[.int .u64 t209, .int .u64 t210] 42 (0, 0)) y12_ hb); have n2_ := Aside0.mk (below_step y7_ hb); have n3_ := Aside0.mk (hbox); have n4_ := Aside0.mk ((y30_ : w.heap.size ≤ gb216)); have n5_ := Aside0.mk ((y30_ : w.heap.size ≤ gb216)); have n6_ := Aside0.mk ((y16_ : gb205 ≠ gb216)); have n7_ := Aside0.mk ((y17_ : gb216 ≠ gb205)); have n8_ := Aside0.mk ((y28_ : gb212 ≠ gb216)); have n9_ := Aside0.mk ((y29_ : gb216 ≠ gb212)); clear BK205; clear BK212; clear HB; have BK205 := n0_; have BK212 := n1_; have HB := n2_; have BK216 := n3_; have GW216 := n4_; have GE216 := n5_; have NB205_216 := n6_; have NB216_205 := n7_; have NB212_216 := n8_; have NB216_212 := n9_; clear n0_ n1_ n2_ n3_ n4_ n5_ n6_ n7_ n8_ n9_; clear hb hbox hg; have hnb53 := NB216_205.out; have hnc53 := NB205_216.out; have hnb54 := NB216_212.out; have hnc54 := NB212_216.out; have hcz55_0 : w52.cell? ⟨gb216, 0, none⟩ = some (.int .u64 0) := (blk_cell BK216.out 0).trans rfl; have hcz55_1 : w52.cell? ⟨gb216, 1, none⟩ = some (.int .u64 0) := (blk_cell BK216.out 1).trans rfl; have hfz55_0 := blk_frozen BK216.out 0; have hfz55_1 := blk_frozen BK216.out 1; have hcz56_0 : w52.cell? ⟨gb212, 0, none⟩ = some (.int .u64 t209) := (blk_cell BK212.out 0).trans rfl; have hcz56_1 : w52.cell? ⟨gb212, 1, none⟩ = some (.int .u64 t210) := (blk_cell BK212.out 1).trans rfl; have hfz56_0 := blk_frozen BK212.out 0; have hfz56_1 := blk_frozen BK212.out 1))
             go_ret
             exact ⟨y10_, y20_⟩
            ·rw [if_neg c44] at H
             have c44b0 : decide (t210 < t209) = false := decide_eq_false c44
             clear c44
             have H' := Aside0.mk H
             clear H
             have p208 : 0 ≤ (x21_2 : Int) := of_decide_eq_true y9_
             have q208 : x21_2 < (l1.length : Int) := of_decide_eq_true y9_
             obtain ⟨ad208, e208, hx208_0⟩ := Kd.at_int HR1.out x21_2 p208 q208
             cases e208
             replace hx208_0 := (HB.out.cell (World.block_lt_of_cell? w _ hx208_0)).trans hx208_0
             replace p208 := eq_true p208
             replace q208 := eq_true q208
             have hcz57_0 : wr.cell? ⟨gb205, 0, none⟩ = some (.int .u64 x206000_2) := (blk_cell BK205.out 0).trans rfl
             have hcz57_1 : wr.cell? ⟨gb205, 1, none⟩ = some (.int .u64 x206001_2) := (blk_cell BK205.out 1).trans rfl
             have hfz57_0 := blk_frozen BK205.out 0
             have hfz57_1 := blk_frozen BK205.out 1
             go_wp2_with (first | ((with_reducible refine gate_callee (f := 25) rfl ?_); refine goesL_ (some 28) rfl rfl Tryd.func25 (by kernel_rfl) rfl #[.agg #[.int .u64 x206000_2, .int .u64 x206001_2], .int .u64 (rd l1 x21_2)] rfl y6_ ?_; (with_reducible refine (limit_Use.calls x206000_2 x206001_2 (rd l1 x21_2) t209 t210 true _ A15.out).mono ?_); rintro e w58 ⟨rfl, hb⟩; refine ⟨_, rfl, ?_⟩; have n0_ := Aside0.mk (blk_below (g := gb205) (o := .cells #[.int .u64 x206000_2, .int .u64 x206001_2] 42 (0, 0)) y5_ hb); have n1_ := Aside0.mk (below_step y4_ hb); clear BK205; clear HB; have BK205 := n0_; have HB := n1_; clear n0_ n1_; (try clear hb); (try clear hb2); (try clear hk); (try clear hi)) | ((with_reducible refine gate_dst (N := 7) rfl ?_); (try (refine gate_guard (by rfl) ?_; dsimp only)); refine box_event ?hg (N := 7) ?hd (cs := #[.int .u64 0, .int .u64 0]) (t := 42) ?hr ?_; (case hd => rfl); (case hg => rfl); (case hr => first | (go_simp; done) | (go_simp; rfl)); intro gb212 hg w59 hbox hb; have n0_ := Aside0.mk (blk_below (g := gb205) (o := .cells #[.int .u64 x206000_2, .int .u64 x206001_2] 42 (0, 0)) y5_ hb); have n1_ := Aside0.mk (below_step y4_ hb); have n2_ := Aside0.mk (hbox); have n3_ := Aside0.mk ((y31_ : w.heap.size ≤ gb212)); have n4_ := Aside0.mk ((y31_ : w.heap.size ≤ gb212)); have n5_ := Aside0.mk ((y16_ : gb205 ≠ gb212)); have n6_ := Aside0.mk ((y17_ : gb212 ≠ gb205)); clear BK205; clear HB; have BK205 := n0_; have HB := n1_; have BK212 := n2_; have GW212 := n3_; have GE212 := n4_; have NB205_212 := n5_; have NB212_205 := n6_; clear n0_ n1_ n2_ n3_ n4_ n5_ n6_; clear hb hbox hg; have hnb60 := NB212_205.out; have hnc60 := NB205_212.out; have hcz61_0 : w59.cell? ⟨gb212, 0, none⟩ = some (.int .u64 0) := (blk_cell BK212.out 0).trans rfl; have hcz61_1 : w59.cell? ⟨gb212, 1, none⟩ = some (.int .u64 0) := (blk_cell BK212.out 1).trans rfl; have hfz61_0 := blk_frozen BK212.out 0; have hfz61_1 := blk_frozen BK212.out 1; have hcz62_0 : w59.cell? ⟨gb205, 0, none⟩ = some (.int .u64 x206000_2) := (blk_cell BK205.out 0).trans rfl; have hcz62_1 : w59.cell? ⟨gb205, 1, none⟩ = some (.int .u64 x206001_2) := (blk_cell BK205.out 1).trans rfl; have hfz62_0 := blk_frozen BK205.out 0; have hfz62_1 := blk_frozen BK205.out 1) | ((with_reducible refine gate_callee (f := 26) rfl ?_); refine goesL_ (some 34) rfl rfl Tryd.func26 (by kernel_rfl) rfl #[.agg #[.int .u64 x206000_2, .int .u64 x206001_2], .int .u64 (rd l1 x21_2)] rfl y6_ ?_; (with_reducible refine (manometerref19_Use.calls x206000_2 x206001_2 (rd l1 x21_2) t213 t214 t215 _ A16.out).mono ?_); rintro e w63 ⟨rfl, hb⟩; refine ⟨_, rfl, ?_⟩; have n0_ := Aside0.mk (blk_below (g := gb205) (o := .cells #[.int .u64 x206000_2, .int .u64 x206001_2] 42 (0, 0)) y14_ hb); have n1_ := Aside0.mk (blk_below (g := gb212) (o := .cells #[.int .u64 t209, .int .u64 t210] 42 (0, 0)) y11_ hb); have n2_ := Aside0.mk (below_step y7_ hb); clear BK205; clear BK212; clear HB; have BK205 := n0_; have BK212 := n1_; have HB := n2_; clear n0_ n1_ n2_; (try clear hb); (try clear hb2); (try clear hk); (try clear hi)) | ((with_reducible refine gate_dst (N := 9) rfl ?_); (try (refine gate_guard (by rfl) ?_; dsimp only)); refine box_event ?hg (N := 9) ?hd (cs := #[.int .u64 0, .int .u64 0]) (t := 42) ?hr ?_; (case hd => rfl); (case hg => rfl); (case hr => first | (go_simp; done) | (go_simp; rfl)); intro gb216 hg w64 hbox hb; have n0_ := Aside0.mk (blk_below (g := gb205) (o := .cells #[.int .u64 x206000_2, .int .u64 x206001_2] 42 (0, 0)) y5_ hb); have n1_ := Aside0.mk (blk_below (g := gb212) (o := .cells #[.int .u64 t209, .int .u64 t210] 42 (0, 0)) y12_ hb); have n2_ := Aside0.mk (below_step y7_ hb); have n3_ := Aside0.mk (hbox); have n4_ := Aside0.mk ((y30_ : w.heap.size ≤ gb216)); have n5_ := Aside0.mk ((y30_ : w.heap.size ≤ gb216)); have n6_ := Aside0.mk ((y16_ : gb205 ≠ gb216)); have n7_ := Aside0.mk ((y17_ : gb216 ≠ gb205)); have n8_ := Aside0.mk ((y28_ : gb212 ≠ gb216)); have n9_ := Aside0.mk ((y29_ : gb216 ≠ gb212)); clear BK205; clear BK212; clear HB; have BK205 := n0_; have BK212 := n1_; have HB := n2_; have BK216 := n3_; have GW216 := n4_; have GE216 := n5_; have NB205_216 := n6_; have NB216_205 := n7_; have NB212_216 := n8_; have NB216_212 := n9_; clear n0_ n1_ n2_ n3_ n4_ n5_ n6_ n7_ n8_ n9_; clear hb hbox hg; have hnb65 := NB216_205.out; have hnc65 := NB205_216.out; have hnb66 := NB216_212.out; have hnc66 := NB212_216.out; have hcz67_0 : w64.cell? ⟨gb216, 0, none⟩ = some (.int .u64 0) := (blk_cell BK216.out 0).trans rfl; have hcz67_1 : w64.cell? ⟨gb216, 1, none⟩ = some (.int .u64 0) := (blk_cell BK216.out 1).trans rfl; have hfz67_0 := blk_frozen BK216.out 0; have hfz67_1 := blk_frozen BK216.out 1; have hcz68_0 : w64.cell? ⟨gb212, 0, none⟩ = some (.int .u64 t209) := (blk_cell BK212.out 0).trans rfl; have hcz68_1 : w64.cell? ⟨gb212, 1, none⟩ = some (.int .u64 t210) := (blk_cell BK212.out 1).trans rfl; have hfz68_0 := blk_frozen BK212.out 0; have hfz68_1 := blk_frozen BK212.out 1; have hcz69_0 : w64.cell? ⟨gb205, 0, none⟩ = some (.int .u64 x206000_2) := (blk_cell BK205.out 0).trans rfl; have hcz69_1 : w64.cell? ⟨gb205, 1, none⟩ = some (.int .u64 x206001_2) := (blk_cell BK205.out 1).trans rfl; have hfz69_0 := blk_frozen BK205.out 0; have hfz69_1 := blk_frozen BK205.out 1))
             go_roundg k2
             case measure => have := HJ2.out; have := HK2.out; omega
             case rel => exact ⟨(wrap64 (x21_2 + 1)), (t209), (t210), y13_, H', ⟨by have := HJ2.out; have := HK2.out; omega⟩, ⟨y24_⟩, ⟨y20_⟩⟩
           ·replace c43 := Bool.eq_false_iff.mpr c43
            subst c43
            have H1 : (manometerlaw19_LimitBytes.l0 k2 l1 (l1.length : Int) (wrap64 (x21_2 + 1)) t209 t210) = some r := by rw [if_neg (show ¬ (false = true) by decide)] at H; exact H
            clear H
            have H := H1
            clear H1
            have H' := Aside0.mk H
            clear H
            have p208 : 0 ≤ (x21_2 : Int) := of_decide_eq_true y9_
            have q208 : x21_2 < (l1.length : Int) := of_decide_eq_true y9_
            obtain ⟨ad208, e208, hx208_0⟩ := Kd.at_int HR1.out x21_2 p208 q208
            cases e208
            replace hx208_0 := (HB.out.cell (World.block_lt_of_cell? w _ hx208_0)).trans hx208_0
            replace p208 := eq_true p208
            replace q208 := eq_true q208
            have hcz70_0 : wr.cell? ⟨gb205, 0, none⟩ = some (.int .u64 x206000_2) := (blk_cell BK205.out 0).trans rfl
            have hcz70_1 : wr.cell? ⟨gb205, 1, none⟩ = some (.int .u64 x206001_2) := (blk_cell BK205.out 1).trans rfl
            have hfz70_0 := blk_frozen BK205.out 0
            have hfz70_1 := blk_frozen BK205.out 1
            go_wp2_with (first | ((with_reducible refine gate_callee (f := 25) rfl ?_); refine goesL_ (some 28) rfl rfl Tryd.func25 (by kernel_rfl) rfl #[.agg #[.int .u64 x206000_2, .int .u64 x206001_2], .int .u64 (rd l1 x21_2)] rfl y6_ ?_; (with_reducible refine (limit_Use.calls x206000_2 x206001_2 (rd l1 x21_2) t209 t210 false _ A15.out).mono ?_); rintro e w71 ⟨rfl, hb⟩; refine ⟨_, rfl, ?_⟩; have n0_ := Aside0.mk (blk_below (g := gb205) (o := .cells #[.int .u64 x206000_2, .int .u64 x206001_2] 42 (0, 0)) y5_ hb); have n1_ := Aside0.mk (below_step y4_ hb); clear BK205; clear HB; have BK205 := n0_; have HB := n1_; clear n0_ n1_; (try clear hb); (try clear hb2); (try clear hk); (try clear hi)) | ((with_reducible refine gate_dst (N := 7) rfl ?_); (try (refine gate_guard (by rfl) ?_; dsimp only)); refine box_event ?hg (N := 7) ?hd (cs := #[.int .u64 0, .int .u64 0]) (t := 42) ?hr ?_; (case hd => rfl); (case hg => rfl); (case hr => first | (go_simp; done) | (go_simp; rfl)); intro gb212 hg w72 hbox hb; have n0_ := Aside0.mk (blk_below (g := gb205) (o := .cells #[.int .u64 x206000_2, .int .u64 x206001_2] 42 (0, 0)) y5_ hb); have n1_ := Aside0.mk (below_step y4_ hb); have n2_ := Aside0.mk (hbox); have n3_ := Aside0.mk ((y31_ : w.heap.size ≤ gb212)); have n4_ := Aside0.mk ((y31_ : w.heap.size ≤ gb212)); have n5_ := Aside0.mk ((y16_ : gb205 ≠ gb212)); have n6_ := Aside0.mk ((y17_ : gb212 ≠ gb205)); clear BK205; clear HB; have BK205 := n0_; have HB := n1_; have BK212 := n2_; have GW212 := n3_; have GE212 := n4_; have NB205_212 := n5_; have NB212_205 := n6_; clear n0_ n1_ n2_ n3_ n4_ n5_ n6_; clear hb hbox hg; have hnb73 := NB212_205.out; have hnc73 := NB205_212.out; have hcz74_0 : w72.cell? ⟨gb212, 0, none⟩ = some (.int .u64 0) := (blk_cell BK212.out 0).trans rfl; have hcz74_1 : w72.cell? ⟨gb212, 1, none⟩ = some (.int .u64 0) := (blk_cell BK212.out 1).trans rfl; have hfz74_0 := blk_frozen BK212.out 0; have hfz74_1 := blk_frozen BK212.out 1; have hcz75_0 : w72.cell? ⟨gb205, 0, none⟩ = some (.int .u64 x206000_2) := (blk_cell BK205.out 0).trans rfl; have hcz75_1 : w72.cell? ⟨gb205, 1, none⟩ = some (.int .u64 x206001_2) := (blk_cell BK205.out 1).trans rfl; have hfz75_0 := blk_frozen BK205.out 0; have hfz75_1 := blk_frozen BK205.out 1) | ((with_reducible refine gate_callee (f := 26) rfl ?_); refine goesL_ (some 34) rfl rfl Tryd.func26 (by kernel_rfl) rfl #[.agg #[.int .u64 x206000_2, .int .u64 x206001_2], .int .u64 (rd l1 x21_2)] rfl y6_ ?_; (with_reducible refine (manometerref19_Use.calls x206000_2 x206001_2 (rd l1 x21_2) t213 t214 t215 _ A16.out).mono ?_); rintro e w76 ⟨rfl, hb⟩; refine ⟨_, rfl, ?_⟩; have n0_ := Aside0.mk (blk_below (g := gb205) (o := .cells #[.int .u64 x206000_2, .int .u64 x206001_2] 42 (0, 0)) y14_ hb); have n1_ := Aside0.mk (blk_below (g := gb212) (o := .cells #[.int .u64 t209, .int .u64 t210] 42 (0, 0)) y11_ hb); have n2_ := Aside0.mk (below_step y7_ hb); clear BK205; clear BK212; clear HB; have BK205 := n0_; have BK212 := n1_; have HB := n2_; clear n0_ n1_ n2_; (try clear hb); (try clear hb2); (try clear hk); (try clear hi)) | ((with_reducible refine gate_dst (N := 9) rfl ?_); (try (refine gate_guard (by rfl) ?_; dsimp only)); refine box_event ?hg (N := 9) ?hd (cs := #[.int .u64 0, .int .u64 0]) (t := 42) ?hr ?_; (case hd => rfl); (case hg => rfl); (case hr => first | (go_simp; done) | (go_simp; rfl)); intro gb216 hg w77 hbox hb; have n0_ := Aside0.mk (blk_below (g := gb205) (o := .cells #[.int .u64 x206000_2, .int .u64 x206001_2] 42 (0, 0)) y5_ hb); have n1_ := Aside0.mk (blk_below (g := gb212) (o := .cells #[.int .u64 t209, .int .u64 t210] 42 (0, 0)) y12_ hb); have n2_ := Aside0.mk (below_step y7_ hb); have n3_ := Aside0.mk (hbox); have n4_ := Aside0.mk ((y30_ : w.heap.size ≤ gb216)); have n5_ := Aside0.mk ((y30_ : w.heap.size ≤ gb216)); have n6_ := Aside0.mk ((y16_ : gb205 ≠ gb216)); have n7_ := Aside0.mk ((y17_ : gb216 ≠ gb205)); have n8_ := Aside0.mk ((y28_ : gb212 ≠ gb216)); have n9_ := Aside0.mk ((y29_ : gb216 ≠ gb212)); clear BK205; clear BK212; clear HB; have BK205 := n0_; have BK212 := n1_; have HB := n2_; have BK216 := n3_; have GW216 := n4_; have GE216 := n5_; have NB205_216 := n6_; have NB216_205 := n7_; have NB212_216 := n8_; have NB216_212 := n9_; clear n0_ n1_ n2_ n3_ n4_ n5_ n6_ n7_ n8_ n9_; clear hb hbox hg; have hnb78 := NB216_205.out; have hnc78 := NB205_216.out; have hnb79 := NB216_212.out; have hnc79 := NB212_216.out; have hcz80_0 : w77.cell? ⟨gb216, 0, none⟩ = some (.int .u64 0) := (blk_cell BK216.out 0).trans rfl; have hcz80_1 : w77.cell? ⟨gb216, 1, none⟩ = some (.int .u64 0) := (blk_cell BK216.out 1).trans rfl; have hfz80_0 := blk_frozen BK216.out 0; have hfz80_1 := blk_frozen BK216.out 1; have hcz81_0 : w77.cell? ⟨gb212, 0, none⟩ = some (.int .u64 t209) := (blk_cell BK212.out 0).trans rfl; have hcz81_1 : w77.cell? ⟨gb212, 1, none⟩ = some (.int .u64 t210) := (blk_cell BK212.out 1).trans rfl; have hfz81_0 := blk_frozen BK212.out 0; have hfz81_1 := blk_frozen BK212.out 1; have hcz82_0 : w77.cell? ⟨gb205, 0, none⟩ = some (.int .u64 x206000_2) := (blk_cell BK205.out 0).trans rfl; have hcz82_1 : w77.cell? ⟨gb205, 1, none⟩ = some (.int .u64 x206001_2) := (blk_cell BK205.out 1).trans rfl; have hfz82_0 := blk_frozen BK205.out 0; have hfz82_1 := blk_frozen BK205.out 1))
            go_roundg k2
            case measure => have := HJ2.out; have := HK2.out; omega
            case rel => exact ⟨(wrap64 (x21_2 + 1)), (t209), (t210), y13_, H', ⟨by have := HJ2.out; have := HK2.out; omega⟩, ⟨y24_⟩, ⟨y20_⟩⟩
        ·rw [if_neg c14] at H
         exact absurd H (by simp)
       ·rw [if_neg c13] at H
        exact absurd H (by simp)
      ·rw [if_neg c12] at H
       have c12b0 : decide (x21_2 < (l1.length : Int)) = false := decide_eq_false c12
       clear c12
       obtain rfl := Option.some.inj H
       go_wp2
       go_ret
       exact ⟨y10_, y4_⟩
end Go.Proofs.YtbpmgaaipkenkaaDoor.PMB
