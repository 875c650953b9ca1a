import Derived.Test.YtdhmabofncbohaaDoorCLabelsTextsPLAx1
import Derived.Test.YtdhmabofncbohaaDoorCLabelsTextsPLBx1
import Derived.Test.YtdhmabofncbohaaDoorCLabelsTextsPLBx4
import Derived.Test.YtdhmabofncbohaaDoorCLabelsTextsPLBx5
import Derived.Test.YtdhmabofncbohaaDoorCLabelsTextsPLBx6
import Derived.Test.YtdhmabofncbohaaDoorCLabelsTextsPLBx9
import Derived.Test.YtdhmabofncbohaaDoorCLabelsTextsPLBx10
import Derived.Test.YtdhmabofncbohaaDoorCLabelsTextsPLBx12
import Derived.Test.YtdhmabofncbohaaDoorCLabelsTextsPLBx7
namespace Go.Proofs.YtdhmabofncbohaaDoor.PLB
open Go.RowKit Go.Proofs.YtdhmabofncbohaaDoorW.PrintWords Go.Proofs.YtdhmabofncbohaaDoorW.PrintLast Go.Proofs.YtdhmabofncbohaaDoorW.PrintMore
attribute [local go_sem] max2_int min2_int max_two min_two max_three min_three max_four min_four
set_option linter.unusedVariables false
set_option linter.unusedSimpArgs false
attribute [local go_sem high] eqA44
def manometerref05_Print.l0 : Nat → ByteArray → List (S44) → Int → Int → Option (ByteArray)
 | 0, _, _, _, _ => none
 | k + 1, x3, x6, x7, x8 => if x8 < x7 then (if 0 ≤ x8 then (if x8 < (x6.length : Int) then (if x8 > 0 then (if x3.size + 2 ≤ 9223372036854775807 then (if ((rd_T44 x6 x8).f0).size + 1 ≤ 9223372036854775807 then ((manometerref05_Quote.f k ((rd_T44 x6 x8).f1)).bind fun t340 => (if (((rd_T44 x6 x8).f0) ++ (⟨#[61]⟩ : ByteArray)).size + t340.size ≤ 9223372036854775807 then (if (x3 ++ (⟨#[44, 32]⟩ : ByteArray)).size + ((((rd_T44 x6 x8).f0) ++ (⟨#[61]⟩ : ByteArray)) ++ t340).size ≤ 9223372036854775807 then (manometerref05_Print.l0 k ((x3 ++ (⟨#[44, 32]⟩ : ByteArray)) ++ ((((rd_T44 x6 x8).f0) ++ (⟨#[61]⟩ : ByteArray)) ++ t340)) x6 x7 (wrap64 (x8 + 1))) else (none)) else (none))) else (none)) else (none)) else (if ((rd_T44 x6 x8).f0).size + 1 ≤ 9223372036854775807 then ((manometerref05_Quote.f k ((rd_T44 x6 x8).f1)).bind fun t341 => (if (((rd_T44 x6 x8).f0) ++ (⟨#[61]⟩ : ByteArray)).size + t341.size ≤ 9223372036854775807 then (if x3.size + ((((rd_T44 x6 x8).f0) ++ (⟨#[61]⟩ : ByteArray)) ++ t341).size ≤ 9223372036854775807 then (manometerref05_Print.l0 k (x3 ++ ((((rd_T44 x6 x8).f0) ++ (⟨#[61]⟩ : ByteArray)) ++ t341)) x6 x7 (wrap64 (x8 + 1))) else (none)) else (none))) else (none))) else (none)) else (none)) else (if x3.size + 1 ≤ 9223372036854775807 then (some (x3 ++ (⟨#[125]⟩ : ByteArray))) else (none))
def manometerref05_Print.f (k : Nat) (l0 : List (S44)) : Option (ByteArray) := manometerref05_Print.l0 k (⟨#[123]⟩ : ByteArray) l0 (l0.length : Int) 0
set_option maxHeartbeats 8000000 in
set_option maxRecDepth 100000 in
theorem manometerref05_Print.calls (k : Nat) (A0 : Option Addr) (c0 : Nat) (l0 : List (S44)) (r : ByteArray) (w : World) (hr0 : Kd.C k44 w A0 l0.length l0) (hc0 : l0.length ≤ c0) (h : manometerref05_Print.f k l0 = some r) :
  Calls Tryd.prog 28 #[.slice A0 l0.length c0] w fun e w' => e = .returned (.string r) ∧ Below w.heap.size w w' := by
 have hu44 := Tryd.underlying44
 have HR0 := Aside0.mk hr0
 have HC0 := Aside0.mk hc0
 clear hr0 hc0
 have HB := Aside0.mk (Below.refl w.heap.size w)
 have H : (manometerref05_Print.l0 k (⟨#[123]⟩ : ByteArray) l0 (l0.length : Int) 0) = some r := h
 clear h
 have H' := Aside0.mk H
 clear H
 go_enter Tryd.func28, Tryd.ntmps28
 go_wp2
 repeat (go_quiet (fail); try go_wp2)
 go_loopg [3, 8] k (fun kq v3 v8 w' => ∃ (x3_1 : ByteArray) (x8_1 : Int), v3 = .string x3_1 ∧ v8 = .int .i64 x8_1 ∧ Aside0 (manometerref05_Print.l0 kq x3_1 l0 (l0.length : Int) x8_1 = some r) ∧ Aside0 (kq ≤ k) ∧ Aside0 (Below w.heap.size w w'))
 case atStart => exact ⟨((⟨#[123]⟩ : ByteArray)), (0), y5_, y5_, H', ⟨Nat.le_refl _⟩, ⟨y1_⟩⟩
 case round =>
  clear H'
  obtain ⟨x3_1, x8_1, rfl, rfl, HA, HK1, HB⟩ := hrel
  cases gk with
  | zero => exact absurd HA.out (by simp [manometerref05_Print.l0])
  | succ k1 =>
   have H := HA.out
   clear HA
   simp only [manometerref05_Print.l0] at H
   by_cases c2 : x8_1 < (l0.length : Int)
   ·rw [if_pos c2] at H
    have c2b0 : decide (x8_1 < (l0.length : Int)) = true := decide_eq_true c2
    clear c2
    by_cases c3 : 0 ≤ x8_1
    ·rw [if_pos c3] at H
     have c3b0 : decide (0 ≤ x8_1) = true := decide_eq_true c3
     clear c3
     by_cases c4 : x8_1 < (l0.length : Int)
     ·rw [if_pos c4] at H
      have c4b0 : decide (x8_1 < (l0.length : Int)) = true := decide_eq_true c4
      clear c4
      by_cases c5 : x8_1 > 0
      ·rw [if_pos c5] at H
       have c5b0 : decide (0 < x8_1) = true := decide_eq_true c5
       clear c5
       by_cases c6 : x3_1.size + 2 ≤ 9223372036854775807
       ·rw [if_pos c6] at H
        have c6b0 := eq_true c6
        try (have c6z := c6; simp [ByteArray.size_append, Kd.size_mk_] at c6z; replace c6z := eq_false (Nat.not_lt.2 c6z))
        have c6b1 : decide (x3_1.size + 2 ≤ 9223372036854775807) = true := decide_eq_true c6
        try have c6b2 : (9223372036854775807 < x3_1.size + 2) = False := eq_false (Nat.not_lt.2 c6)
        by_cases c7 : ((rd_T44 l0 x8_1).f0).size + 1 ≤ 9223372036854775807
        ·rw [if_pos c7] at H
         have c7b0 := eq_true c7
         try (have c7z := c7; simp [ByteArray.size_append, Kd.size_mk_] at c7z; replace c7z := eq_false (Nat.not_lt.2 c7z))
         have c7b1 : decide (((rd_T44 l0 x8_1).f0).size + 1 ≤ 9223372036854775807) = true := decide_eq_true c7
         try have c7b2 : (9223372036854775807 < ((rd_T44 l0 x8_1).f0).size + 1) = False := eq_false (Nat.not_lt.2 c7)
         replace H := Option.bind_eq_some_iff.mp H
         obtain ⟨t340, A80, H⟩ := H
         replace H : (if (((rd_T44 l0 x8_1).f0) ++ (⟨#[61]⟩ : ByteArray)).size + t340.size ≤ 9223372036854775807 then (if (x3_1 ++ (⟨#[44, 32]⟩ : ByteArray)).size + ((((rd_T44 l0 x8_1).f0) ++ (⟨#[61]⟩ : ByteArray)) ++ t340).size ≤ 9223372036854775807 then (manometerref05_Print.l0 k1 ((x3_1 ++ (⟨#[44, 32]⟩ : ByteArray)) ++ ((((rd_T44 l0 x8_1).f0) ++ (⟨#[61]⟩ : ByteArray)) ++ t340)) l0 (l0.length : Int) (wrap64 (x8_1 + 1))) else (none)) else (none)) = some r := H
         have A8 := Aside0.mk A80
         clear A80
         by_cases c9 : (((rd_T44 l0 x8_1).f0) ++ (⟨#[61]⟩ : ByteArray)).size + t340.size ≤ 9223372036854775807
         ·rw [if_pos c9] at H
          have c9b0 := eq_true c9
          try (have c9z := c9; simp [ByteArray.size_append, Kd.size_mk_] at c9z; replace c9z := eq_false (Nat.not_lt.2 c9z))
          have c9b1 : decide ((((rd_T44 l0 x8_1).f0) ++ (⟨#[61]⟩ : ByteArray)).size + t340.size ≤ 9223372036854775807) = true := decide_eq_true c9
          try have c9b2 : (9223372036854775807 < (((rd_T44 l0 x8_1).f0) ++ (⟨#[61]⟩ : ByteArray)).size + t340.size) = False := eq_false (Nat.not_lt.2 c9)
          by_cases c10 : (x3_1 ++ (⟨#[44, 32]⟩ : ByteArray)).size + ((((rd_T44 l0 x8_1).f0) ++ (⟨#[61]⟩ : ByteArray)) ++ t340).size ≤ 9223372036854775807
          ·rw [if_pos c10] at H
           have c10b0 := eq_true c10
           try (have c10z := c10; simp [ByteArray.size_append, Kd.size_mk_] at c10z; replace c10z := eq_false (Nat.not_lt.2 c10z))
           have c10b1 : decide ((x3_1 ++ (⟨#[44, 32]⟩ : ByteArray)).size + ((((rd_T44 l0 x8_1).f0) ++ (⟨#[61]⟩ : ByteArray)) ++ t340).size ≤ 9223372036854775807) = true := decide_eq_true c10
           try have c10b2 : (9223372036854775807 < (x3_1 ++ (⟨#[44, 32]⟩ : ByteArray)).size + ((((rd_T44 l0 x8_1).f0) ++ (⟨#[61]⟩ : ByteArray)) ++ t340).size) = False := eq_false (Nat.not_lt.2 c10)
           have H' := Aside0.mk H
           clear H
           have p338 : 0 ≤ (x8_1 : Int) := of_decide_eq_true y3_
           have q338 : x8_1 < (l0.length : Int) := of_decide_eq_true y3_
           obtain ⟨ad338, e338, hx338_0, hx338_1⟩ := at_T44 HR0.out x8_1 p338 q338
           cases e338
           replace hx338_0 := (HB.out.cell (World.block_lt_of_cell? w _ hx338_0)).trans hx338_0
           replace hx338_1 := (HB.out.cell (World.block_lt_of_cell? w _ hx338_1)).trans hx338_1
           replace p338 := eq_true p338
           replace q338 := eq_true q338
           go_wp2_with (first | ((with_reducible refine gate_dst (N := 5) rfl ?_); refine box_event ?hg (N := 5) ?hd (cs := #[.string (⟨#[]⟩ : ByteArray), .string (⟨#[]⟩ : ByteArray)]) (t := 44) ?hr ?_; (case hd => rfl); (case hg => rfl); (case hr => first | (go_simp; done) | (go_simp; rfl)); intro gb339 hg w11 hbox hb; have n0_ := Aside0.mk (below_step y1_ hb); have n1_ := Aside0.mk (hbox); have n2_ := Aside0.mk ((y13_ : w.heap.size ≤ gb339)); have n3_ := Aside0.mk ((y13_ : w.heap.size ≤ gb339)); clear HB; have HB := n0_; have BK339 := n1_; have GW339 := n2_; have GE339 := n3_; clear n0_ n1_ n2_ n3_; clear hb hbox hg; have hcz12_0 : w11.cell? ⟨gb339, 0, none⟩ = some (.string (⟨#[]⟩ : ByteArray)) := (blk_cell BK339.out 0).trans rfl; have hcz12_1 : w11.cell? ⟨gb339, 1, none⟩ = some (.string (⟨#[]⟩ : ByteArray)) := (blk_cell BK339.out 1).trans rfl; have hfz12_0 := blk_frozen BK339.out 0; have hfz12_1 := blk_frozen BK339.out 1) | (go_at_call 23; (with_reducible refine (manometerref05_Quote.calls k1 ((rd_T44 l0 x8_1).f1) t340 _ A8.out).mono ?_); rintro e w' ⟨rfl, ⟨nd, rfl⟩⟩; (try first | exact ⟨rfl, _, World.drewN_drewN _ _ _⟩ | exact ⟨rfl, _, Eq.trans (World.drewN_drewN _ _ _) (congrArg (World.drewN _) (Nat.add_assoc _ _ _))⟩)))
           repeat (go_quiet (first | ((with_reducible refine gate_dst (N := 5) rfl ?_); refine box_event ?hg (N := 5) ?hd (cs := #[.string (⟨#[]⟩ : ByteArray), .string (⟨#[]⟩ : ByteArray)]) (t := 44) ?hr ?_; (case hd => rfl); (case hg => rfl); (case hr => first | (go_simp; done) | (go_simp; rfl)); intro gb339 hg w11 hbox hb; have n0_ := Aside0.mk (below_step y1_ hb); have n1_ := Aside0.mk (hbox); have n2_ := Aside0.mk ((y13_ : w.heap.size ≤ gb339)); have n3_ := Aside0.mk ((y13_ : w.heap.size ≤ gb339)); clear HB; have HB := n0_; have BK339 := n1_; have GW339 := n2_; have GE339 := n3_; clear n0_ n1_ n2_ n3_; clear hb hbox hg; have hcz12_0 : w11.cell? ⟨gb339, 0, none⟩ = some (.string (⟨#[]⟩ : ByteArray)) := (blk_cell BK339.out 0).trans rfl; have hcz12_1 : w11.cell? ⟨gb339, 1, none⟩ = some (.string (⟨#[]⟩ : ByteArray)) := (blk_cell BK339.out 1).trans rfl; have hfz12_0 := blk_frozen BK339.out 0; have hfz12_1 := blk_frozen BK339.out 1) | (go_at_call 23; (with_reducible refine (manometerref05_Quote.calls k1 ((rd_T44 l0 x8_1).f1) t340 _ A8.out).mono ?_); rintro e w' ⟨rfl, ⟨nd, rfl⟩⟩; (try first | exact ⟨rfl, _, World.drewN_drewN _ _ _⟩ | exact ⟨rfl, _, Eq.trans (World.drewN_drewN _ _ _) (congrArg (World.drewN _) (Nat.add_assoc _ _ _))⟩))); try go_wp2_with (first | ((with_reducible refine gate_dst (N := 5) rfl ?_); refine box_event ?hg (N := 5) ?hd (cs := #[.string (⟨#[]⟩ : ByteArray), .string (⟨#[]⟩ : ByteArray)]) (t := 44) ?hr ?_; (case hd => rfl); (case hg => rfl); (case hr => first | (go_simp; done) | (go_simp; rfl)); intro gb339 hg w11 hbox hb; have n0_ := Aside0.mk (below_step y1_ hb); have n1_ := Aside0.mk (hbox); have n2_ := Aside0.mk ((y13_ : w.heap.size ≤ gb339)); have n3_ := Aside0.mk ((y13_ : w.heap.size ≤ gb339)); clear HB; have HB := n0_; have BK339 := n1_; have GW339 := n2_; have GE339 := n3_; clear n0_ n1_ n2_ n3_; clear hb hbox hg; have hcz12_0 : w11.cell? ⟨gb339, 0, none⟩ = some (.string (⟨#[]⟩ : ByteArray)) := (blk_cell BK339.out 0).trans rfl; have hcz12_1 : w11.cell? ⟨gb339, 1, none⟩ = some (.string (⟨#[]⟩ : ByteArray)) := (blk_cell BK339.out 1).trans rfl; have hfz12_0 := blk_frozen BK339.out 0; have hfz12_1 := blk_frozen BK339.out 1) | (go_at_call 23; (with_reducible refine (manometerref05_Quote.calls k1 ((rd_T44 l0 x8_1).f1) t340 _ A8.out).mono ?_); rintro e w' ⟨rfl, ⟨nd, rfl⟩⟩; (try first | exact ⟨rfl, _, World.drewN_drewN _ _ _⟩ | exact ⟨rfl, _, Eq.trans (World.drewN_drewN _ _ _) (congrArg (World.drewN _) (Nat.add_assoc _ _ _))⟩))))
           go_roundg k1
           case measure => have := HK1.out; omega
           case rel => exact ⟨((x3_1 ++ (⟨#[44, 32]⟩ : ByteArray)) ++ ((((rd_T44 l0 x8_1).f0) ++ (⟨#[61]⟩ : ByteArray)) ++ t340)), (wrap64 (x8_1 + 1)), y5_, y5_, H', ⟨y60_⟩, ⟨by repeat (first | (with_reducible first | exact HB.out | apply below_alloc | apply pw_below_drewN | apply below_drew1 | refine below_set ?_ GE339.out) | exact HB.out)⟩⟩
          ·rw [if_neg c10] at H
           exact absurd H (by simp)
         ·rw [if_neg c9] at H
          exact absurd H (by simp)
        ·rw [if_neg c7] at H
         exact absurd H (by simp)
       ·rw [if_neg c6] at H
        exact absurd H (by simp)
      ·rw [if_neg c5] at H
       have c5b0 : decide (0 < x8_1) = false := decide_eq_false c5
       clear c5
       by_cases c13 : ((rd_T44 l0 x8_1).f0).size + 1 ≤ 9223372036854775807
       ·rw [if_pos c13] at H
        have c13b0 := eq_true c13
        try (have c13z := c13; simp [ByteArray.size_append, Kd.size_mk_] at c13z; replace c13z := eq_false (Nat.not_lt.2 c13z))
        have c13b1 : decide (((rd_T44 l0 x8_1).f0).size + 1 ≤ 9223372036854775807) = true := decide_eq_true c13
        try have c13b2 : (9223372036854775807 < ((rd_T44 l0 x8_1).f0).size + 1) = False := eq_false (Nat.not_lt.2 c13)
        replace H := Option.bind_eq_some_iff.mp H
        obtain ⟨t341, A140, H⟩ := H
        replace H : (if (((rd_T44 l0 x8_1).f0) ++ (⟨#[61]⟩ : ByteArray)).size + t341.size ≤ 9223372036854775807 then (if x3_1.size + ((((rd_T44 l0 x8_1).f0) ++ (⟨#[61]⟩ : ByteArray)) ++ t341).size ≤ 9223372036854775807 then (manometerref05_Print.l0 k1 (x3_1 ++ ((((rd_T44 l0 x8_1).f0) ++ (⟨#[61]⟩ : ByteArray)) ++ t341)) l0 (l0.length : Int) (wrap64 (x8_1 + 1))) else (none)) else (none)) = some r := H
        have A14 := Aside0.mk A140
        clear A140
        by_cases c15 : (((rd_T44 l0 x8_1).f0) ++ (⟨#[61]⟩ : ByteArray)).size + t341.size ≤ 9223372036854775807
        ·rw [if_pos c15] at H
         have c15b0 := eq_true c15
         try (have c15z := c15; simp [ByteArray.size_append, Kd.size_mk_] at c15z; replace c15z := eq_false (Nat.not_lt.2 c15z))
         have c15b1 : decide ((((rd_T44 l0 x8_1).f0) ++ (⟨#[61]⟩ : ByteArray)).size + t341.size ≤ 9223372036854775807) = true := decide_eq_true c15
         try have c15b2 : (9223372036854775807 < (((rd_T44 l0 x8_1).f0) ++ (⟨#[61]⟩ : ByteArray)).size + t341.size) = False := eq_false (Nat.not_lt.2 c15)
         by_cases c16 : x3_1.size + ((((rd_T44 l0 x8_1).f0) ++ (⟨#[61]⟩ : ByteArray)) ++ t341).size ≤ 9223372036854775807
         ·rw [if_pos c16] at H
          have c16b0 := eq_true c16
          try (have c16z := c16; simp [ByteArray.size_append, Kd.size_mk_] at c16z; replace c16z := eq_false (Nat.not_lt.2 c16z))
          have c16b1 : decide (x3_1.size + ((((rd_T44 l0 x8_1).f0) ++ (⟨#[61]⟩ : ByteArray)) ++ t341).size ≤ 9223372036854775807) = true := decide_eq_true c16
          try have c16b2 : (9223372036854775807 < x3_1.size + ((((rd_T44 l0 x8_1).f0) ++ (⟨#[61]⟩ : ByteArray)) ++ t341).size) = False := eq_false (Nat.not_lt.2 c16)
          have H' := Aside0.mk H
          clear H
          have p338 : 0 ≤ (x8_1 : Int) := of_decide_eq_true y3_
          have q338 : x8_1 < (l0.length : Int) := of_decide_eq_true y3_
          obtain ⟨ad338, e338, hx338_0, hx338_1⟩ := at_T44 HR0.out x8_1 p338 q338
          cases e338
          replace hx338_0 := (HB.out.cell (World.block_lt_of_cell? w _ hx338_0)).trans hx338_0
          replace hx338_1 := (HB.out.cell (World.block_lt_of_cell? w _ hx338_1)).trans hx338_1
          replace p338 := eq_true p338
          replace q338 := eq_true q338
          go_wp2_with (first | ((with_reducible refine gate_dst (N := 5) rfl ?_); refine box_event ?hg (N := 5) ?hd (cs := #[.string (⟨#[]⟩ : ByteArray), .string (⟨#[]⟩ : ByteArray)]) (t := 44) ?hr ?_; (case hd => rfl); (case hg => rfl); (case hr => first | (go_simp; done) | (go_simp; rfl)); intro gb339 hg w17 hbox hb; have n0_ := Aside0.mk (below_step y1_ hb); have n1_ := Aside0.mk (hbox); have n2_ := Aside0.mk ((y13_ : w.heap.size ≤ gb339)); have n3_ := Aside0.mk ((y13_ : w.heap.size ≤ gb339)); clear HB; have HB := n0_; have BK339 := n1_; have GW339 := n2_; have GE339 := n3_; clear n0_ n1_ n2_ n3_; clear hb hbox hg; have hcz18_0 : w17.cell? ⟨gb339, 0, none⟩ = some (.string (⟨#[]⟩ : ByteArray)) := (blk_cell BK339.out 0).trans rfl; have hcz18_1 : w17.cell? ⟨gb339, 1, none⟩ = some (.string (⟨#[]⟩ : ByteArray)) := (blk_cell BK339.out 1).trans rfl; have hfz18_0 := blk_frozen BK339.out 0; have hfz18_1 := blk_frozen BK339.out 1) | (go_at_call 23; (with_reducible refine (manometerref05_Quote.calls k1 ((rd_T44 l0 x8_1).f1) t341 _ A14.out).mono ?_); rintro e w' ⟨rfl, ⟨nd, rfl⟩⟩; (try first | exact ⟨rfl, _, World.drewN_drewN _ _ _⟩ | exact ⟨rfl, _, Eq.trans (World.drewN_drewN _ _ _) (congrArg (World.drewN _) (Nat.add_assoc _ _ _))⟩)))
          repeat (go_quiet (first | ((with_reducible refine gate_dst (N := 5) rfl ?_); refine box_event ?hg (N := 5) ?hd (cs := #[.string (⟨#[]⟩ : ByteArray), .string (⟨#[]⟩ : ByteArray)]) (t := 44) ?hr ?_; (case hd => rfl); (case hg => rfl); (case hr => first | (go_simp; done) | (go_simp; rfl)); intro gb339 hg w17 hbox hb; have n0_ := Aside0.mk (below_step y1_ hb); have n1_ := Aside0.mk (hbox); have n2_ := Aside0.mk ((y13_ : w.heap.size ≤ gb339)); have n3_ := Aside0.mk ((y13_ : w.heap.size ≤ gb339)); clear HB; have HB := n0_; have BK339 := n1_; have GW339 := n2_; have GE339 := n3_; clear n0_ n1_ n2_ n3_; clear hb hbox hg; have hcz18_0 : w17.cell? ⟨gb339, 0, none⟩ = some (.string (⟨#[]⟩ : ByteArray)) := (blk_cell BK339.out 0).trans rfl; have hcz18_1 : w17.cell? ⟨gb339, 1, none⟩ = some (.string (⟨#[]⟩ : ByteArray)) := (blk_cell BK339.out 1).trans rfl; have hfz18_0 := blk_frozen BK339.out 0; have hfz18_1 := blk_frozen BK339.out 1) | (go_at_call 23; (with_reducible refine (manometerref05_Quote.calls k1 ((rd_T44 l0 x8_1).f1) t341 _ A14.out).mono ?_); rintro e w' ⟨rfl, ⟨nd, rfl⟩⟩; (try first | exact ⟨rfl, _, World.drewN_drewN _ _ _⟩ | exact ⟨rfl, _, Eq.trans (World.drewN_drewN _ _ _) (congrArg (World.drewN _) (Nat.add_assoc _ _ _))⟩))); try go_wp2_with (first | ((with_reducible refine gate_dst (N := 5) rfl ?_); refine box_event ?hg (N := 5) ?hd (cs := #[.string (⟨#[]⟩ : ByteArray), .string (⟨#[]⟩ : ByteArray)]) (t := 44) ?hr ?_; (case hd => rfl); (case hg => rfl); (case hr => first | (go_simp; done) | (go_simp; rfl)); intro gb339 hg w17 hbox hb; have n0_ := Aside0.mk (below_step y1_ hb); have n1_ := Aside0.mk (hbox); have n2_ := Aside0.mk ((y13_ : w.heap.size ≤ gb339)); have n3_ := Aside0.mk ((y13_ : w.heap.size ≤ gb339)); clear HB; have HB := n0_; have BK339 := n1_; have GW339 := n2_; have GE339 := n3_; clear n0_ n1_ n2_ n3_; clear hb hbox hg; have hcz18_0 : w17.cell? ⟨gb339, 0, none⟩ = some (.string (⟨#[]⟩ : ByteArray)) := (blk_cell BK339.out 0).trans rfl; have hcz18_1 : w17.cell? ⟨gb339, 1, none⟩ = some (.string (⟨#[]⟩ : ByteArray)) := (blk_cell BK339.out 1).trans rfl; have hfz18_0 := blk_frozen BK339.out 0; have hfz18_1 := blk_frozen BK339.out 1) | (go_at_call 23; (with_reducible refine (manometerref05_Quote.calls k1 ((rd_T44 l0 x8_1).f1) t341 _ A14.out).mono ?_); rintro e w' ⟨rfl, ⟨nd, rfl⟩⟩; (try first | exact ⟨rfl, _, World.drewN_drewN _ _ _⟩ | exact ⟨rfl, _, Eq.trans (World.drewN_drewN _ _ _) (congrArg (World.drewN _) (Nat.add_assoc _ _ _))⟩))))
          go_roundg k1
          case measure => have := HK1.out; omega
          case rel => exact ⟨(x3_1 ++ ((((rd_T44 l0 x8_1).f0) ++ (⟨#[61]⟩ : ByteArray)) ++ t341)), (wrap64 (x8_1 + 1)), y5_, y5_, H', ⟨y60_⟩, ⟨by repeat (first | (with_reducible first | exact HB.out | apply below_alloc | apply pw_below_drewN | apply below_drew1 | refine below_set ?_ GE339.out) | exact HB.out)⟩⟩
         ·rw [if_neg c16] at H
          exact absurd H (by simp)
        ·rw [if_neg c15] at H
         exact absurd H (by simp)
       ·rw [if_neg c13] at H
        exact absurd H (by simp)
     ·rw [if_neg c4] at H
      exact absurd H (by simp)
    ·rw [if_neg c3] at H
     exact absurd H (by simp)
   ·rw [if_neg c2] at H
    have c2b0 : decide (x8_1 < (l0.length : Int)) = false := decide_eq_false c2
    clear c2
    by_cases c19 : x3_1.size + 1 ≤ 9223372036854775807
    ·rw [if_pos c19] at H
     have c19b0 := eq_true c19
     try (have c19z := c19; simp [ByteArray.size_append, Kd.size_mk_] at c19z; replace c19z := eq_false (Nat.not_lt.2 c19z))
     have c19b1 : decide (x3_1.size + 1 ≤ 9223372036854775807) = true := decide_eq_true c19
     try have c19b2 : (9223372036854775807 < x3_1.size + 1) = False := eq_false (Nat.not_lt.2 c19)
     obtain rfl := Option.some.inj H
     go_wp2
     repeat (go_quiet (fail); try go_wp2)
     go_ret
     exact ⟨y7_, y1_⟩
    ·rw [if_neg c19] at H
     exact absurd H (by simp)
def manometerlaw05_LabelsTexts.j0 : Nat → List (S44) → ByteArray → Bool → Option (Bool)
 | 0, _, _, _ => none
 | k + 1, x0, x1, x20 => if x20 = true then ((manometerlaw05_live.f k).bind fun t344 => (some t344)) else ((labels_Parse.f k x1).bind fun bt345 => ((manometerref05_Parse.f k x1).bind fun bt349 => ((labels_Print.f k x0).bind fun t353 => ((manometerref05_Print.f k x0).bind fun t354 => (if t353.toList = t354.toList then ((manometerref05_Same.f k bt345.1 bt349.1).bind fun t355 => (if t355 = true then (some (bt345.2 == bt349.2)) else (some false))) else (some false))))))
def manometerlaw05_LabelsTexts.f (k : Nat) (l0 : List (S44)) (a1 : ByteArray) : Option (Bool) := (manometerlaw05_live.f k).bind fun t342 => (if t342 = true then ((manometerlaw05_few.f k l0).bind fun t343 => (if t343 = true then (manometerlaw05_LabelsTexts.j0 k l0 a1 (decide ((a1.size : Int) > 3000))) else (manometerlaw05_LabelsTexts.j0 k l0 a1 true))) else (manometerlaw05_LabelsTexts.j0 k l0 a1 true))
set_option maxHeartbeats 8000000 in
set_option maxRecDepth 100000 in
theorem manometerlaw05_LabelsTexts.calls (k : Nat) (A0 : Option Addr) (c0 : Nat) (l0 : List (S44)) (a1 : ByteArray) (r : Bool) (w : World) (hT : Aside0 (Tab w)) (hr0 : Kd.C k44 w A0 l0.length l0) (hc0 : l0.length ≤ c0) (h : manometerlaw05_LabelsTexts.f k l0 a1 = some r) :
  Calls Tryd.prog 5 #[.slice A0 l0.length c0, .string a1] w fun e w' => e = .returned (.bool r) ∧ Below w.heap.size w w' := by
 have HR0 := Aside0.mk hr0
 have HC0 := Aside0.mk hc0
 clear hr0 hc0
 have HB := Aside0.mk (Below.refl w.heap.size w)
 have H : ((manometerlaw05_live.f k).bind fun t342 => (if t342 = true then ((manometerlaw05_few.f k l0).bind fun t343 => (if t343 = true then (manometerlaw05_LabelsTexts.j0 k l0 a1 (decide ((a1.size : Int) > 3000))) else (manometerlaw05_LabelsTexts.j0 k l0 a1 true))) else (manometerlaw05_LabelsTexts.j0 k l0 a1 true))) = some r := h
 clear h
 have HC3 := Aside0.mk H
 clear H
 go_enter Tryd.func5, Tryd.ntmps5
 go_upto_region 1 with (fail)
 go_cut [20] (fun v20 wc => ∃ (kq : Nat) (x20_2 : Bool), v20 = .bool x20_2 ∧ Aside0 (manometerlaw05_LabelsTexts.j0 kq l0 a1 x20_2 = some r) ∧ Aside0 (kq ≤ k) ∧ Aside0 (Below w.heap.size w wc))
 case first =>
  have H := HC3.out
  clear HC3
  replace H := Option.bind_eq_some_iff.mp H
  obtain ⟨t342, A40, H⟩ := H
  replace H : (if t342 = true then ((manometerlaw05_few.f k l0).bind fun t343 => (if t343 = true then (manometerlaw05_LabelsTexts.j0 k l0 a1 (decide ((a1.size : Int) > 3000))) else (manometerlaw05_LabelsTexts.j0 k l0 a1 true))) else (manometerlaw05_LabelsTexts.j0 k l0 a1 true)) = some r := H
  have A4 := Aside0.mk A40
  clear A40
  by_cases c5 : t342 = true
  ·subst c5
   have H1 : ((manometerlaw05_few.f k l0).bind fun t343 => (if t343 = true then (manometerlaw05_LabelsTexts.j0 k l0 a1 (decide ((a1.size : Int) > 3000))) else (manometerlaw05_LabelsTexts.j0 k l0 a1 true))) = some r := by rw [if_pos rfl] at H; exact H
   clear H
   have H := H1
   clear H1
   replace H := Option.bind_eq_some_iff.mp H
   obtain ⟨t343, A60, H⟩ := H
   replace H : (if t343 = true then (manometerlaw05_LabelsTexts.j0 k l0 a1 (decide ((a1.size : Int) > 3000))) else (manometerlaw05_LabelsTexts.j0 k l0 a1 true)) = some r := H
   have A6 := Aside0.mk A60
   clear A60
   by_cases c7 : t343 = true
   ·subst c7
    have H1 : (manometerlaw05_LabelsTexts.j0 k l0 a1 (decide ((a1.size : Int) > 3000))) = some r := by rw [if_pos rfl] at H; exact H
    clear H
    have H := H1
    clear H1
    have H' := Aside0.mk H
    clear H
    go_wp2_with (first | ((with_reducible refine gate_callee (f := 15) rfl ?_); refine goesL_ (some 9) rfl rfl Tryd.func15 (by kernel_rfl) rfl #[] rfl y2_ ?_; (with_reducible refine (manometerlaw05_live.calls k  true _ ?side1 A4.out).mono ?_); (case side1 => exact ⟨Tab_below hT.out y1_⟩); rintro e w8 ⟨rfl, hb⟩; refine ⟨_, rfl, ?_⟩; have n0_ := Aside0.mk (below_step y1_ hb); clear HB; have HB := n0_; clear n0_; (try clear hb); (try clear hb2); (try clear hk); (try clear hi)) | (go_at_call 24; (with_reducible refine (manometerlaw05_few.calls k _ _ l0 true _ ?side1 ?side2 A6.out).mono ?_); (case side1 => repeat (first | exact (Kd.C_below HR0.out HB.out) | (with_reducible refine Kd.C_alloc ?_ _) | (with_reducible refine Kd.C_drewN ?_ _) | (with_reducible refine Kd.C_drew ?_))); (case side2 => exact HC0.out); rintro e w9 ⟨rfl, hb⟩; have n0_ := Aside0.mk (below_step y1_ hb); clear HB; have HB := n0_; clear n0_; (try clear hb); (try clear hb2); (try clear hk); (try clear hi)))
    go_meet
    case rel => exact ⟨_, (decide ((a1.size : Int) > 3000)), y5_, H', ⟨y64_⟩, ⟨y1_⟩⟩
   ·replace c7 := Bool.eq_false_iff.mpr c7
    subst c7
    have H1 : (manometerlaw05_LabelsTexts.j0 k l0 a1 true) = some r := by rw [if_neg (show ¬ (false = true) by decide)] at H; exact H
    clear H
    have H := H1
    clear H1
    have H' := Aside0.mk H
    clear H
    go_wp2_with (first | ((with_reducible refine gate_callee (f := 15) rfl ?_); refine goesL_ (some 9) rfl rfl Tryd.func15 (by kernel_rfl) rfl #[] rfl y2_ ?_; (with_reducible refine (manometerlaw05_live.calls k  true _ ?side1 A4.out).mono ?_); (case side1 => exact ⟨Tab_below hT.out y1_⟩); rintro e w10 ⟨rfl, hb⟩; refine ⟨_, rfl, ?_⟩; have n0_ := Aside0.mk (below_step y1_ hb); clear HB; have HB := n0_; clear n0_; (try clear hb); (try clear hb2); (try clear hk); (try clear hi)) | (go_at_call 24; (with_reducible refine (manometerlaw05_few.calls k _ _ l0 false _ ?side1 ?side2 A6.out).mono ?_); (case side1 => repeat (first | exact (Kd.C_below HR0.out HB.out) | (with_reducible refine Kd.C_alloc ?_ _) | (with_reducible refine Kd.C_drewN ?_ _) | (with_reducible refine Kd.C_drew ?_))); (case side2 => exact HC0.out); rintro e w11 ⟨rfl, hb⟩; have n0_ := Aside0.mk (below_step y1_ hb); clear HB; have HB := n0_; clear n0_; (try clear hb); (try clear hb2); (try clear hk); (try clear hi)))
    go_meet
    case rel => exact ⟨_, (true), y5_, H', ⟨y64_⟩, ⟨y1_⟩⟩
  ·replace c5 := Bool.eq_false_iff.mpr c5
   subst c5
   have H1 : (manometerlaw05_LabelsTexts.j0 k l0 a1 true) = some r := by rw [if_neg (show ¬ (false = true) by decide)] at H; exact H
   clear H
   have H := H1
   clear H1
   have H' := Aside0.mk H
   clear H
   go_wp2_with (first | ((with_reducible refine gate_callee (f := 15) rfl ?_); refine goesL_ (some 9) rfl rfl Tryd.func15 (by kernel_rfl) rfl #[] rfl y2_ ?_; (with_reducible refine (manometerlaw05_live.calls k  false _ ?side1 A4.out).mono ?_); (case side1 => exact ⟨Tab_below hT.out y1_⟩); rintro e w12 ⟨rfl, hb⟩; refine ⟨_, rfl, ?_⟩; have n0_ := Aside0.mk (below_step y1_ hb); clear HB; have HB := n0_; clear n0_; (try clear hb); (try clear hb2); (try clear hk); (try clear hi)))
   go_meet
   case rel => exact ⟨_, (true), y5_, H', ⟨y64_⟩, ⟨y1_⟩⟩
 case rest =>
  clear HC3
  try clear c1
  try clear p2
  try clear c5
  try clear c7
  obtain ⟨kq, x20_2, rfl, HA, HJ2, HB⟩ := hcut
  cases kq with
  | zero => exact absurd HA.out (by simp [manometerlaw05_LabelsTexts.j0])
  | succ kj2 =>
   have H := HA.out
   clear HA
   simp only [manometerlaw05_LabelsTexts.j0] at H
   by_cases c13 : x20_2 = true
   ·subst c13
    have H1 : ((manometerlaw05_live.f kj2).bind fun t344 => (some t344)) = some r := by rw [if_pos rfl] at H; exact H
    clear H
    have H := H1
    clear H1
    replace H := Option.bind_eq_some_iff.mp H
    obtain ⟨t344, A140, H⟩ := H
    replace H : (some t344) = some r := H
    have A14 := Aside0.mk A140
    clear A140
    obtain rfl := Option.some.inj H
    go_wp2_with (first | ((with_reducible refine gate_callee (f := 15) rfl ?_); refine goesL_ (some 21) rfl rfl Tryd.func15 (by kernel_rfl) rfl #[] rfl y2_ ?_; (with_reducible refine (manometerlaw05_live.calls kj2  t344 _ ?side1 A14.out).mono ?_); (case side1 => exact ⟨Tab_below hT.out y1_⟩); rintro e w15 ⟨rfl, hb⟩; refine ⟨_, rfl, ?_⟩; have n0_ := Aside0.mk (below_step y1_ hb); clear HB; have HB := n0_; clear n0_; (try clear hb); (try clear hb2); (try clear hk); (try clear hi)))
    go_ret
    exact ⟨y7_, y1_⟩
   ·replace c13 := Bool.eq_false_iff.mpr c13
    subst c13
    have H1 : ((labels_Parse.f kj2 a1).bind fun bt345 => ((manometerref05_Parse.f kj2 a1).bind fun bt349 => ((labels_Print.f kj2 l0).bind fun t353 => ((manometerref05_Print.f kj2 l0).bind fun t354 => (if t353.toList = t354.toList then ((manometerref05_Same.f kj2 bt345.1 bt349.1).bind fun t355 => (if t355 = true then (some (bt345.2 == bt349.2)) else (some false))) else (some false)))))) = some r := by rw [if_neg (show ¬ (false = true) by decide)] at H; exact H
    clear H
    have H := H1
    clear H1
    replace H := Option.bind_eq_some_iff.mp H
    obtain ⟨⟨t345, t346⟩, A160, H⟩ := H
    replace H : ((manometerref05_Parse.f kj2 a1).bind fun bt349 => ((labels_Print.f kj2 l0).bind fun t353 => ((manometerref05_Print.f kj2 l0).bind fun t354 => (if t353.toList = t354.toList then ((manometerref05_Same.f kj2 t345 bt349.1).bind fun t355 => (if t355 = true then (some (t346 == bt349.2)) else (some false))) else (some false))))) = some r := H
    have A16 := Aside0.mk A160
    clear A160
    replace H := Option.bind_eq_some_iff.mp H
    obtain ⟨⟨t349, t350⟩, A170, H⟩ := H
    replace H : ((labels_Print.f kj2 l0).bind fun t353 => ((manometerref05_Print.f kj2 l0).bind fun t354 => (if t353.toList = t354.toList then ((manometerref05_Same.f kj2 t345 t349).bind fun t355 => (if t355 = true then (some (t346 == t350)) else (some false))) else (some false)))) = some r := H
    have A17 := Aside0.mk A170
    clear A170
    replace H := Option.bind_eq_some_iff.mp H
    obtain ⟨t353, A180, H⟩ := H
    replace H : ((manometerref05_Print.f kj2 l0).bind fun t354 => (if t353.toList = t354.toList then ((manometerref05_Same.f kj2 t345 t349).bind fun t355 => (if t355 = true then (some (t346 == t350)) else (some false))) else (some false))) = some r := H
    have A18 := Aside0.mk A180
    clear A180
    replace H := Option.bind_eq_some_iff.mp H
    obtain ⟨t354, A190, H⟩ := H
    replace H : (if t353.toList = t354.toList then ((manometerref05_Same.f kj2 t345 t349).bind fun t355 => (if t355 = true then (some (t346 == t350)) else (some false))) else (some false)) = some r := H
    have A19 := Aside0.mk A190
    clear A190
    by_cases c20 : t353.toList = t354.toList
    ·rw [if_pos c20] at H
     have c20b0 : (t353.toList == t354.toList) = true := beq_iff_eq.mpr c20
     have c20b1 : (t353.toList != t354.toList) = false := bne_eq_false_iff_eq.mpr c20
     clear c20
     replace H := Option.bind_eq_some_iff.mp H
     obtain ⟨t355, A210, H⟩ := H
     replace H : (if t355 = true then (some (t346 == t350)) else (some false)) = some r := H
     have A21 := Aside0.mk A210
     clear A210
     by_cases c22 : t355 = true
     ·subst c22
      have H1 : (some (t346 == t350)) = some r := by rw [if_pos rfl] at H; exact H
      clear H
      have H := H1
      clear H1
      obtain rfl := Option.some.inj H
      go_wp2_with (first | ((with_reducible refine gate_callee (f := 25) rfl ?_); refine goesL_ (some 24) rfl rfl Tryd.func25 (by kernel_rfl) rfl #[.string a1] rfl y2_ ?_; (with_reducible refine (labels_Parse.calls kj2 a1 t345 t346 _ ?side1 A16.out).mono ?_); (case side1 => exact ⟨Tab_below hT.out y1_⟩); rintro e w23 ⟨v347, rfl, ho0, hb⟩; refine ⟨_, rfl, ?_⟩; have n0_ := Aside0.mk (Kd.R_lower ho0 (below_size y1_)); have n1_ := Aside0.mk (below_step y1_ hb); clear HB; have HO348 := n0_; have HB := n1_; clear n0_ n1_; (try clear hb); (try clear hb2); (try clear hk); (try clear hi); (try clear ho0)) | ((with_reducible refine gate_callee (f := 26) rfl ?_); refine goesL_ (some 29) rfl rfl Tryd.func26 (by kernel_rfl) rfl #[.string a1] rfl y2_ ?_; (with_reducible refine (manometerref05_Parse.calls kj2 a1 t349 t350 _ A17.out).mono ?_); rintro e w24 ⟨v351, rfl, ho0, hb⟩; refine ⟨_, rfl, ?_⟩; have n0_ := Aside0.mk (Kd.R_elder' y30_ (Kd.R_base ho0) hb); have n1_ := Aside0.mk (Kd.R_lower (Kd.R_new' ho0 (Kd.R_lt y30_)) (below_size y1_)); have n2_ := Aside0.mk (below_step y1_ hb); clear HO348; clear HB; have HO348 := n0_; have HO352 := n1_; have HB := n2_; clear n0_ n1_ n2_; (try clear hb); (try clear hb2); (try clear hk); (try clear hi); (try clear ho0)) | ((with_reducible refine gate_callee (f := 27) rfl ?_); refine goesL_ (some 33) rfl rfl Tryd.func27 (by kernel_rfl) rfl #[.slice A0 l0.length c0] rfl y2_ ?_; (with_reducible refine (labels_Print.calls kj2 _ _ l0 t353 _ ?side1 ?side2 A18.out).mono ?_); (case side1 => repeat (first | exact (Kd.C_below HR0.out HB.out) | (with_reducible refine Kd.C_alloc ?_ _) | (with_reducible refine Kd.C_drewN ?_ _) | (with_reducible refine Kd.C_drew ?_))); (case side2 => exact HC0.out); rintro e w25 ⟨rfl, hb⟩; refine ⟨_, rfl, ?_⟩; have n0_ := Aside0.mk (Kd.R_below y30_ hb); have n1_ := Aside0.mk (Kd.R_below y50_ hb); have n2_ := Aside0.mk (below_step y1_ hb); clear HO348; clear HO352; clear HB; have HO348 := n0_; have HO352 := n1_; have HB := n2_; clear n0_ n1_ n2_; (try clear hb); (try clear hb2); (try clear hk); (try clear hi)) | ((with_reducible refine gate_callee (f := 28) rfl ?_); refine goesL_ (some 35) rfl rfl Tryd.func28 (by kernel_rfl) rfl #[.slice A0 l0.length c0] rfl y2_ ?_; (with_reducible refine (manometerref05_Print.calls kj2 _ _ l0 t354 _ ?side1 ?side2 A19.out).mono ?_); (case side1 => repeat (first | exact (Kd.C_below HR0.out HB.out) | (with_reducible refine Kd.C_alloc ?_ _) | (with_reducible refine Kd.C_drewN ?_ _) | (with_reducible refine Kd.C_drew ?_))); (case side2 => exact HC0.out); rintro e w26 ⟨rfl, hb⟩; refine ⟨_, rfl, ?_⟩; have n0_ := Aside0.mk (Kd.R_below y30_ hb); have n1_ := Aside0.mk (Kd.R_below y50_ hb); have n2_ := Aside0.mk (below_step y1_ hb); clear HO348; clear HO352; clear HB; have HO348 := n0_; have HO352 := n1_; have HB := n2_; clear n0_ n1_ n2_; (try clear hb); (try clear hb2); (try clear hk); (try clear hi); obtain ⟨Ao27, co27, eo27⟩ := Kd.R_slice HO348.out; subst eo27; obtain ⟨Ao28, co28, eo28⟩ := Kd.R_slice HO352.out; subst eo28) | (go_at_call 29; (with_reducible refine (manometerref05_Same.calls kj2 _ _ t345 _ _ t349 true _ ?side1 ?side2 ?side3 ?side4 A21.out).mono ?_); (case side1 => repeat (first | exact (Kd.R_reads' HO348.out).2.2 | (with_reducible refine Kd.C_alloc ?_ _) | (with_reducible refine Kd.C_drewN ?_ _) | (with_reducible refine Kd.C_drew ?_))); (case side2 => exact (Kd.R_reads' HO348.out).2.1); (case side3 => repeat (first | exact (Kd.R_reads' HO352.out).2.2 | (with_reducible refine Kd.C_alloc ?_ _) | (with_reducible refine Kd.C_drewN ?_ _) | (with_reducible refine Kd.C_drew ?_))); (case side4 => exact (Kd.R_reads' HO352.out).2.1); rintro e w' ⟨rfl, ⟨nd, rfl⟩⟩))
      go_ret
      exact ⟨y7_, y1_⟩
     ·replace c22 := Bool.eq_false_iff.mpr c22
      subst c22
      have H1 : (some false) = some r := by rw [if_neg (show ¬ (false = true) by decide)] at H; exact H
      clear H
      have H := H1
      clear H1
      obtain rfl := Option.some.inj H
      go_wp2_with (first | ((with_reducible refine gate_callee (f := 25) rfl ?_); refine goesL_ (some 24) rfl rfl Tryd.func25 (by kernel_rfl) rfl #[.string a1] rfl y2_ ?_; (with_reducible refine (labels_Parse.calls kj2 a1 t345 t346 _ ?side1 A16.out).mono ?_); (case side1 => exact ⟨Tab_below hT.out y1_⟩); rintro e w29 ⟨v347, rfl, ho0, hb⟩; refine ⟨_, rfl, ?_⟩; have n0_ := Aside0.mk (Kd.R_lower ho0 (below_size y1_)); have n1_ := Aside0.mk (below_step y1_ hb); clear HB; have HO348 := n0_; have HB := n1_; clear n0_ n1_; (try clear hb); (try clear hb2); (try clear hk); (try clear hi); (try clear ho0)) | ((with_reducible refine gate_callee (f := 26) rfl ?_); refine goesL_ (some 29) rfl rfl Tryd.func26 (by kernel_rfl) rfl #[.string a1] rfl y2_ ?_; (with_reducible refine (manometerref05_Parse.calls kj2 a1 t349 t350 _ A17.out).mono ?_); rintro e w30 ⟨v351, rfl, ho0, hb⟩; refine ⟨_, rfl, ?_⟩; have n0_ := Aside0.mk (Kd.R_elder' y30_ (Kd.R_base ho0) hb); have n1_ := Aside0.mk (Kd.R_lower (Kd.R_new' ho0 (Kd.R_lt y30_)) (below_size y1_)); have n2_ := Aside0.mk (below_step y1_ hb); clear HO348; clear HB; have HO348 := n0_; have HO352 := n1_; have HB := n2_; clear n0_ n1_ n2_; (try clear hb); (try clear hb2); (try clear hk); (try clear hi); (try clear ho0)) | ((with_reducible refine gate_callee (f := 27) rfl ?_); refine goesL_ (some 33) rfl rfl Tryd.func27 (by kernel_rfl) rfl #[.slice A0 l0.length c0] rfl y2_ ?_; (with_reducible refine (labels_Print.calls kj2 _ _ l0 t353 _ ?side1 ?side2 A18.out).mono ?_); (case side1 => repeat (first | exact (Kd.C_below HR0.out HB.out) | (with_reducible refine Kd.C_alloc ?_ _) | (with_reducible refine Kd.C_drewN ?_ _) | (with_reducible refine Kd.C_drew ?_))); (case side2 => exact HC0.out); rintro e w31 ⟨rfl, hb⟩; refine ⟨_, rfl, ?_⟩; have n0_ := Aside0.mk (Kd.R_below y30_ hb); have n1_ := Aside0.mk (Kd.R_below y50_ hb); have n2_ := Aside0.mk (below_step y1_ hb); clear HO348; clear HO352; clear HB; have HO348 := n0_; have HO352 := n1_; have HB := n2_; clear n0_ n1_ n2_; (try clear hb); (try clear hb2); (try clear hk); (try clear hi)) | ((with_reducible refine gate_callee (f := 28) rfl ?_); refine goesL_ (some 35) rfl rfl Tryd.func28 (by kernel_rfl) rfl #[.slice A0 l0.length c0] rfl y2_ ?_; (with_reducible refine (manometerref05_Print.calls kj2 _ _ l0 t354 _ ?side1 ?side2 A19.out).mono ?_); (case side1 => repeat (first | exact (Kd.C_below HR0.out HB.out) | (with_reducible refine Kd.C_alloc ?_ _) | (with_reducible refine Kd.C_drewN ?_ _) | (with_reducible refine Kd.C_drew ?_))); (case side2 => exact HC0.out); rintro e w32 ⟨rfl, hb⟩; refine ⟨_, rfl, ?_⟩; have n0_ := Aside0.mk (Kd.R_below y30_ hb); have n1_ := Aside0.mk (Kd.R_below y50_ hb); have n2_ := Aside0.mk (below_step y1_ hb); clear HO348; clear HO352; clear HB; have HO348 := n0_; have HO352 := n1_; have HB := n2_; clear n0_ n1_ n2_; (try clear hb); (try clear hb2); (try clear hk); (try clear hi); obtain ⟨Ao33, co33, eo33⟩ := Kd.R_slice HO348.out; subst eo33; obtain ⟨Ao34, co34, eo34⟩ := Kd.R_slice HO352.out; subst eo34) | (go_at_call 29; (with_reducible refine (manometerref05_Same.calls kj2 _ _ t345 _ _ t349 false _ ?side1 ?side2 ?side3 ?side4 A21.out).mono ?_); (case side1 => repeat (first | exact (Kd.R_reads' HO348.out).2.2 | (with_reducible refine Kd.C_alloc ?_ _) | (with_reducible refine Kd.C_drewN ?_ _) | (with_reducible refine Kd.C_drew ?_))); (case side2 => exact (Kd.R_reads' HO348.out).2.1); (case side3 => repeat (first | exact (Kd.R_reads' HO352.out).2.2 | (with_reducible refine Kd.C_alloc ?_ _) | (with_reducible refine Kd.C_drewN ?_ _) | (with_reducible refine Kd.C_drew ?_))); (case side4 => exact (Kd.R_reads' HO352.out).2.1); rintro e w' ⟨rfl, ⟨nd, rfl⟩⟩))
      go_ret
      exact ⟨y7_, y1_⟩
    ·rw [if_neg c20] at H
     have c20b0 : (t353.toList == t354.toList) = false := beq_eq_false_iff_ne.mpr c20
     have c20b1 : (t353.toList != t354.toList) = true := bne_iff_ne.mpr c20
     obtain rfl := Option.some.inj H
     go_wp2_with (first | ((with_reducible refine gate_callee (f := 25) rfl ?_); refine goesL_ (some 24) rfl rfl Tryd.func25 (by kernel_rfl) rfl #[.string a1] rfl y2_ ?_; (with_reducible refine (labels_Parse.calls kj2 a1 t345 t346 _ ?side1 A16.out).mono ?_); (case side1 => exact ⟨Tab_below hT.out y1_⟩); rintro e w35 ⟨v347, rfl, ho0, hb⟩; refine ⟨_, rfl, ?_⟩; have n0_ := Aside0.mk (Kd.R_lower ho0 (below_size y1_)); have n1_ := Aside0.mk (below_step y1_ hb); clear HB; have HO348 := n0_; have HB := n1_; clear n0_ n1_; (try clear hb); (try clear hb2); (try clear hk); (try clear hi); (try clear ho0)) | ((with_reducible refine gate_callee (f := 26) rfl ?_); refine goesL_ (some 29) rfl rfl Tryd.func26 (by kernel_rfl) rfl #[.string a1] rfl y2_ ?_; (with_reducible refine (manometerref05_Parse.calls kj2 a1 t349 t350 _ A17.out).mono ?_); rintro e w36 ⟨v351, rfl, ho0, hb⟩; refine ⟨_, rfl, ?_⟩; have n0_ := Aside0.mk (Kd.R_elder' y30_ (Kd.R_base ho0) hb); have n1_ := Aside0.mk (Kd.R_lower (Kd.R_new' ho0 (Kd.R_lt y30_)) (below_size y1_)); have n2_ := Aside0.mk (below_step y1_ hb); clear HO348; clear HB; have HO348 := n0_; have HO352 := n1_; have HB := n2_; clear n0_ n1_ n2_; (try clear hb); (try clear hb2); (try clear hk); (try clear hi); (try clear ho0)) | ((with_reducible refine gate_callee (f := 27) rfl ?_); refine goesL_ (some 33) rfl rfl Tryd.func27 (by kernel_rfl) rfl #[.slice A0 l0.length c0] rfl y2_ ?_; (with_reducible refine (labels_Print.calls kj2 _ _ l0 t353 _ ?side1 ?side2 A18.out).mono ?_); (case side1 => repeat (first | exact (Kd.C_below HR0.out HB.out) | (with_reducible refine Kd.C_alloc ?_ _) | (with_reducible refine Kd.C_drewN ?_ _) | (with_reducible refine Kd.C_drew ?_))); (case side2 => exact HC0.out); rintro e w37 ⟨rfl, hb⟩; refine ⟨_, rfl, ?_⟩; have n0_ := Aside0.mk (Kd.R_below y30_ hb); have n1_ := Aside0.mk (Kd.R_below y50_ hb); have n2_ := Aside0.mk (below_step y1_ hb); clear HO348; clear HO352; clear HB; have HO348 := n0_; have HO352 := n1_; have HB := n2_; clear n0_ n1_ n2_; (try clear hb); (try clear hb2); (try clear hk); (try clear hi)) | ((with_reducible refine gate_callee (f := 28) rfl ?_); refine goesL_ (some 35) rfl rfl Tryd.func28 (by kernel_rfl) rfl #[.slice A0 l0.length c0] rfl y2_ ?_; (with_reducible refine (manometerref05_Print.calls kj2 _ _ l0 t354 _ ?side1 ?side2 A19.out).mono ?_); (case side1 => repeat (first | exact (Kd.C_below HR0.out HB.out) | (with_reducible refine Kd.C_alloc ?_ _) | (with_reducible refine Kd.C_drewN ?_ _) | (with_reducible refine Kd.C_drew ?_))); (case side2 => exact HC0.out); rintro e w38 ⟨rfl, hb⟩; refine ⟨_, rfl, ?_⟩; have n0_ := Aside0.mk (Kd.R_below y30_ hb); have n1_ := Aside0.mk (Kd.R_below y50_ hb); have n2_ := Aside0.mk (below_step y1_ hb); clear HO348; clear HO352; clear HB; have HO348 := n0_; have HO352 := n1_; have HB := n2_; clear n0_ n1_ n2_; (try clear hb); (try clear hb2); (try clear hk); (try clear hi)))
     go_ret
     exact ⟨y7_, y1_⟩
def labels_Same.l0 : Nat → List (S44) → List (S44) → Int → Int → Option (Bool)
 | 0, _, _, _, _ => none
 | k + 1, x0, x1, x12, x13 => if x13 < x12 then (if 0 ≤ x13 then (if x13 < (x0.length : Int) then (if x13 < (x1.length : Int) then (if (!((((rd_T44 x0 x13).f0).toList) == (((rd_T44 x1 x13).f0).toList)) || (!((((rd_T44 x0 x13).f1).toList) == (((rd_T44 x1 x13).f1).toList)))) = true then (some false) else (labels_Same.l0 k x0 x1 x12 (wrap64 (x13 + 1)))) else (none)) else (none)) else (none)) else (some true)
def labels_Same.f (k : Nat) (l0 : List (S44)) (l1 : List (S44)) : Option (Bool) := if (l0.length : Int) = (l1.length : Int) then (labels_Same.l0 k l0 l1 (l0.length : Int) 0) else (some false)
end Go.Proofs.YtdhmabofncbohaaDoor.PLB
