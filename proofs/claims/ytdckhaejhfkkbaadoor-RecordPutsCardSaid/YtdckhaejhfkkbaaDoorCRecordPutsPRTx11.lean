import Derived.Test.YtdckhaejhfkkbaaDoorCRecordPutsPRTx0
import Derived.Test.YtdckhaejhfkkbaaDoorCRecordPutsPRTx5
import Derived.Test.YtdckhaejhfkkbaaDoorCRecordPutsPRTx9
import Derived.Test.YtdckhaejhfkkbaaDoorCRecordPutsPRTx10
import Derived.Test.YtdckhaejhfkkbaaDoorCRecordPutsG0
import Derived.Test.YtdckhaejhfkkbaaDoorCRecordPutsPRTx21
namespace Go.Proofs.YtdckhaejhfkkbaaDoor.PRT
open Go.RowKit Go.Proofs.YtdckhaejhfkkbaaDoorW.PrintWords Go.Proofs.YtdckhaejhfkkbaaDoorW.PrintLast Go.Proofs.YtdckhaejhfkkbaaDoorW.PrintMore
attribute [local go_sem] max2_int min2_int max_two min_two max_three min_three max_four min_four
set_option linter.unusedVariables false
set_option linter.unusedSimpArgs false
def manometerref05_Valued.f (k : Nat) (a0 : ByteArray) : Option (Bool) := if (a0.size : Int) ≤ 128 then ((manometerref05_Valid.f k a0).bind fun t243 => (some t243)) else (some false)
set_option maxHeartbeats 8000000 in
set_option maxRecDepth 100000 in
theorem manometerref05_Valued.calls (k : Nat) (a0 : ByteArray) (r : Bool) (w : World) (h : manometerref05_Valued.f k a0 = some r) :
  Calls Tryd.prog 53 #[.string a0] w fun e w' => e = .returned (.bool r) ∧ Drawn0 w w' := by
 have H : (if (a0.size : Int) ≤ 128 then ((manometerref05_Valid.f k a0).bind fun t243 => (some t243)) else (some false)) = some r := h
 clear h
 by_cases c2 : (a0.size : Int) ≤ 128
 ·rw [if_pos c2] at H
  have c2b0 : decide ((a0.size : Int) ≤ 128) = true := decide_eq_true c2
  have c2b1 : decide (a0.size ≤ 128) = true := decide_eq_true (by omega)
  clear c2
  replace H := Option.bind_eq_some_iff.mp H
  obtain ⟨t243, A30, H⟩ := H
  replace H : (some t243) = some r := H
  have A3 := Aside0.mk A30
  clear A30
  obtain rfl := Option.some.inj H
  go_enter Tryd.func53, Tryd.ntmps53
  go_wp2_with (first | (go_at_call 63; (with_reducible refine (manometerref05_Valid.calls k a0 t243 _ A3.out).mono ?_); rintro e w' ⟨rfl, ⟨nd, rfl⟩⟩))
  go_ret
  exact ⟨y20_, y9_⟩
 ·rw [if_neg c2] at H
  have c2b0 : decide ((a0.size : Int) ≤ 128) = false := decide_eq_false c2
  have c2b1 : decide (a0.size ≤ 128) = false := decide_eq_false (by omega)
  clear c2
  obtain rfl := Option.some.inj H
  go_enter Tryd.func53, Tryd.ntmps53
  go_wp2
  go_ret
  exact ⟨y20_, y9_⟩
mutual
def manometerref05_Right.l0 : Nat → List (S52) → List (S52) → Int → Int → Option (Int)
 | 0, _, _, _, _ => none
 | k + 1, x0, x8, x9, x10 => if x10 < x9 then (if 0 ≤ x10 then (if x10 < (x8.length : Int) then ((manometerref05_Named.f k ((rd_T52 x8 x10).f0)).bind fun t246 => (if t246 = true then ((manometerref05_Valued.f k ((rd_T52 x8 x10).f1)).bind fun t247 => (if t247 = true then (manometerref05_Right.j1 k x0 x10 x8 x9 x10 (((rd_T52 x8 x10).f1).toList == ([] : List UInt8)) ((rd_T52 x8 x10).f0) ((rd_T52 x8 x10).f1)) else (manometerref05_Right.j1 k x0 x10 x8 x9 x10 true ((rd_T52 x8 x10).f0) ((rd_T52 x8 x10).f1)))) else (some 50))) else (none)) else (none)) else (some 0)
def manometerref05_Right.j1 : Nat → List (S52) → Int → List (S52) → Int → Int → Bool → ByteArray → ByteArray → Option (Int)
 | 0, _, _, _, _, _, _, _, _ => none
 | k + 1, x0, x3, x8, x9, x10, x20, x246000, x246001 => if x20 = true then (some 51) else (if x3 > 0 then (if 0 ≤ (wrap64 (x3 - 1)) then (if (wrap64 (x3 - 1)) < (x0.length : Int) then (if (Op.bytesLess x246000.toList (((rd_T52 x0 (wrap64 (x3 - 1))).f0).toList)) = true then (some 53) else (if x246000.toList = ((rd_T52 x0 (wrap64 (x3 - 1))).f0).toList then (some 53) else (manometerref05_Right.l0 k x0 x8 x9 (wrap64 (x10 + 1))))) else (none)) else (none)) else (manometerref05_Right.l0 k x0 x8 x9 (wrap64 (x10 + 1))))
end
def manometerref05_Right.f (k : Nat) (l0 : List (S52)) : Option (Int) := if (l0.length : Int) > 16 then (some 3) else (manometerref05_Right.l0 k l0 l0 (l0.length : Int) 0)
set_option maxHeartbeats 8000000 in
set_option maxRecDepth 100000 in
theorem manometerref05_Right.calls (k : Nat) (A0 : Option Addr) (c0 : Nat) (l0 : List (S52)) (r : Int) (w : World) (hr0 : Kd.C k52 w A0 l0.length l0) (hc0 : l0.length ≤ c0) (h : manometerref05_Right.f k l0 = some r) :
  Calls Tryd.prog 36 #[.slice A0 l0.length c0] w fun e w' => e = .returned (.int .i64 r) ∧ Below w.heap.size w w' := by
 have hu52 := Tryd.underlying52
 have HR0 := Aside0.mk hr0
 have HC0 := Aside0.mk hc0
 clear hr0 hc0
 have HB := Aside0.mk (Below.refl w.heap.size w)
 have H : (if (l0.length : Int) > 16 then (some 3) else (manometerref05_Right.l0 k l0 l0 (l0.length : Int) 0)) = some r := h
 clear h
 by_cases c2 : (l0.length : Int) > 16
 ·rw [if_pos c2] at H
  have c2b0 : decide (16 < (l0.length : Int)) = true := decide_eq_true c2
  have c2b1 : decide (16 < l0.length) = true := decide_eq_true (by omega)
  clear c2
  obtain rfl := Option.some.inj H
  go_enter Tryd.func36, Tryd.ntmps36
  go_wp2
  repeat (go_quiet (fail); try go_wp2)
  go_ret
  exact ⟨y6_, y1_⟩
 ·rw [if_neg c2] at H
  have c2b0 : decide (16 < (l0.length : Int)) = false := decide_eq_false c2
  have c2b1 : decide (16 < l0.length) = false := decide_eq_false (by omega)
  clear c2
  have H' := Aside0.mk H
  clear H
  go_enter Tryd.func36, Tryd.ntmps36
  go_wp2
  repeat (go_quiet (fail); try go_wp2)
  go_loopg [10] k (fun kq v10 w' => ∃ (x10_1 : Int), v10 = .int .i64 x10_1 ∧ Aside0 (manometerref05_Right.l0 kq l0 l0 (l0.length : Int) x10_1 = some r) ∧ Aside0 (kq ≤ k) ∧ Aside0 (Below w.heap.size w w'))
  case atStart => exact ⟨(0), y8_, H', ⟨Nat.le_refl _⟩, ⟨y1_⟩⟩
  case round =>
   clear H'
   try clear c2
   try clear c2b0
   try clear c2b1
   try clear p2
   obtain ⟨x10_1, rfl, HA, HK1, HB⟩ := hrel
   cases gk with
   | zero => exact absurd HA.out (by simp [manometerref05_Right.l0])
   | succ k1 =>
    have H := HA.out
    clear HA
    simp only [manometerref05_Right.l0] at H
    by_cases c3 : x10_1 < (l0.length : Int)
    ·rw [if_pos c3] at H
     have c3b0 : decide (x10_1 < (l0.length : Int)) = true := decide_eq_true c3
     clear c3
     by_cases c4 : 0 ≤ x10_1
     ·rw [if_pos c4] at H
      have c4b0 : decide (0 ≤ x10_1) = true := decide_eq_true c4
      clear c4
      by_cases c5 : x10_1 < (l0.length : Int)
      ·rw [if_pos c5] at H
       have c5b0 : decide (x10_1 < (l0.length : Int)) = true := decide_eq_true c5
       clear c5
       replace H := Option.bind_eq_some_iff.mp H
       obtain ⟨t246, A60, H⟩ := H
       replace H : (if t246 = true then ((manometerref05_Valued.f k1 ((rd_T52 l0 x10_1).f1)).bind fun t247 => (if t247 = true then (manometerref05_Right.j1 k1 l0 x10_1 l0 (l0.length : Int) x10_1 (((rd_T52 l0 x10_1).f1).toList == ([] : List UInt8)) ((rd_T52 l0 x10_1).f0) ((rd_T52 l0 x10_1).f1)) else (manometerref05_Right.j1 k1 l0 x10_1 l0 (l0.length : Int) x10_1 true ((rd_T52 l0 x10_1).f0) ((rd_T52 l0 x10_1).f1)))) else (some 50)) = some r := H
       have A6 := Aside0.mk A60
       clear A60
       by_cases c7 : t246 = true
       ·subst c7
        have H1 : ((manometerref05_Valued.f k1 ((rd_T52 l0 x10_1).f1)).bind fun t247 => (if t247 = true then (manometerref05_Right.j1 k1 l0 x10_1 l0 (l0.length : Int) x10_1 (((rd_T52 l0 x10_1).f1).toList == ([] : List UInt8)) ((rd_T52 l0 x10_1).f0) ((rd_T52 l0 x10_1).f1)) else (manometerref05_Right.j1 k1 l0 x10_1 l0 (l0.length : Int) x10_1 true ((rd_T52 l0 x10_1).f0) ((rd_T52 l0 x10_1).f1)))) = some r := by rw [if_pos rfl] at H; exact H
        clear H
        have H := H1
        clear H1
        have HC8 := Aside0.mk H
        clear H
        have p244 : 0 ≤ (x10_1 : Int) := of_decide_eq_true y3_
        have q244 : x10_1 < (l0.length : Int) := of_decide_eq_true y3_
        obtain ⟨ad244, e244, hx244_0, hx244_1⟩ := at_T52 HR0.out x10_1 p244 q244
        cases e244
        replace hx244_0 := (HB.out.cell (World.block_lt_of_cell? w _ hx244_0)).trans hx244_0
        replace hx244_1 := (HB.out.cell (World.block_lt_of_cell? w _ hx244_1)).trans hx244_1
        replace p244 := eq_true p244
        replace q244 := eq_true q244
        go_upto_region 8 with (first | ((with_reducible refine gate_dst (N := 4) rfl ?_); refine box_event ?hg (N := 4) ?hd (cs := #[.string (⟨#[]⟩ : ByteArray), .string (⟨#[]⟩ : ByteArray)]) (t := 52) ?hr ?_; (case hd => rfl); (case hg => rfl); (case hr => first | (go_simp; done) | (go_simp; rfl)); intro gb245 hg w9 hbox hb; have n0_ := Aside0.mk (below_step y1_ hb); have n1_ := Aside0.mk (hbox); have n2_ := Aside0.mk ((y13_ : w.heap.size ≤ gb245)); have n3_ := Aside0.mk ((y13_ : w.heap.size ≤ gb245)); clear HB; have HB := n0_; have BK245 := n1_; have GW245 := n2_; have GE245 := n3_; clear n0_ n1_ n2_ n3_; clear hb hbox hg; have hcz10_0 : w9.cell? ⟨gb245, 0, none⟩ = some (.string (⟨#[]⟩ : ByteArray)) := (blk_cell BK245.out 0).trans rfl; have hcz10_1 : w9.cell? ⟨gb245, 1, none⟩ = some (.string (⟨#[]⟩ : ByteArray)) := (blk_cell BK245.out 1).trans rfl; have hfz10_0 := blk_frozen BK245.out 0; have hfz10_1 := blk_frozen BK245.out 1) | (go_at_call 52; (with_reducible refine (manometerref05_Named.calls k1 ((rd_T52 l0 x10_1).f0) true _ A6.out).mono ?_); rintro e w' ⟨rfl, ⟨nd, rfl⟩⟩; (try first | exact ⟨rfl, _, World.drewN_drewN _ _ _⟩ | exact ⟨rfl, _, Eq.trans (World.drewN_drewN _ _ _) (congrArg (World.drewN _) (Nat.add_assoc _ _ _))⟩)))
        repeat (go_quiet (first | ((with_reducible refine gate_dst (N := 4) rfl ?_); refine box_event ?hg (N := 4) ?hd (cs := #[.string (⟨#[]⟩ : ByteArray), .string (⟨#[]⟩ : ByteArray)]) (t := 52) ?hr ?_; (case hd => rfl); (case hg => rfl); (case hr => first | (go_simp; done) | (go_simp; rfl)); intro gb245 hg w9 hbox hb; have n0_ := Aside0.mk (below_step y1_ hb); have n1_ := Aside0.mk (hbox); have n2_ := Aside0.mk ((y13_ : w.heap.size ≤ gb245)); have n3_ := Aside0.mk ((y13_ : w.heap.size ≤ gb245)); clear HB; have HB := n0_; have BK245 := n1_; have GW245 := n2_; have GE245 := n3_; clear n0_ n1_ n2_ n3_; clear hb hbox hg; have hcz10_0 : w9.cell? ⟨gb245, 0, none⟩ = some (.string (⟨#[]⟩ : ByteArray)) := (blk_cell BK245.out 0).trans rfl; have hcz10_1 : w9.cell? ⟨gb245, 1, none⟩ = some (.string (⟨#[]⟩ : ByteArray)) := (blk_cell BK245.out 1).trans rfl; have hfz10_0 := blk_frozen BK245.out 0; have hfz10_1 := blk_frozen BK245.out 1) | (go_at_call 52; (with_reducible refine (manometerref05_Named.calls k1 ((rd_T52 l0 x10_1).f0) true _ A6.out).mono ?_); rintro e w' ⟨rfl, ⟨nd, rfl⟩⟩; (try first | exact ⟨rfl, _, World.drewN_drewN _ _ _⟩ | exact ⟨rfl, _, Eq.trans (World.drewN_drewN _ _ _) (congrArg (World.drewN _) (Nat.add_assoc _ _ _))⟩))); go_upto_region 8 with (first | ((with_reducible refine gate_dst (N := 4) rfl ?_); refine box_event ?hg (N := 4) ?hd (cs := #[.string (⟨#[]⟩ : ByteArray), .string (⟨#[]⟩ : ByteArray)]) (t := 52) ?hr ?_; (case hd => rfl); (case hg => rfl); (case hr => first | (go_simp; done) | (go_simp; rfl)); intro gb245 hg w9 hbox hb; have n0_ := Aside0.mk (below_step y1_ hb); have n1_ := Aside0.mk (hbox); have n2_ := Aside0.mk ((y13_ : w.heap.size ≤ gb245)); have n3_ := Aside0.mk ((y13_ : w.heap.size ≤ gb245)); clear HB; have HB := n0_; have BK245 := n1_; have GW245 := n2_; have GE245 := n3_; clear n0_ n1_ n2_ n3_; clear hb hbox hg; have hcz10_0 : w9.cell? ⟨gb245, 0, none⟩ = some (.string (⟨#[]⟩ : ByteArray)) := (blk_cell BK245.out 0).trans rfl; have hcz10_1 : w9.cell? ⟨gb245, 1, none⟩ = some (.string (⟨#[]⟩ : ByteArray)) := (blk_cell BK245.out 1).trans rfl; have hfz10_0 := blk_frozen BK245.out 0; have hfz10_1 := blk_frozen BK245.out 1) | (go_at_call 52; (with_reducible refine (manometerref05_Named.calls k1 ((rd_T52 l0 x10_1).f0) true _ A6.out).mono ?_); rintro e w' ⟨rfl, ⟨nd, rfl⟩⟩; (try first | exact ⟨rfl, _, World.drewN_drewN _ _ _⟩ | exact ⟨rfl, _, Eq.trans (World.drewN_drewN _ _ _) (congrArg (World.drewN _) (Nat.add_assoc _ _ _))⟩))))
        (try simp only [Act.put, List.setIfInBounds_toArray, List.set_cons_zero, List.set_cons_succ])
        go_cut [20] (fun v20 wc => ∃ (kq : Nat) (x20_7 : Bool), v20 = .bool x20_7 ∧ Aside0 (manometerref05_Right.j1 kq l0 x10_1 l0 (l0.length : Int) x10_1 x20_7 ((rd_T52 l0 x10_1).f0) ((rd_T52 l0 x10_1).f1) = some r) ∧ Aside0 (kq ≤ k1) ∧ Aside0 (wc.heap[gb245]? = some (.cells #[.string ((rd_T52 l0 x10_1).f0), .string ((rd_T52 l0 x10_1).f1)] 52 (0, 0))) ∧ Aside0 (Below w.heap.size w wc))
        case first =>
         have H := HC8.out
         clear HC8
         replace H := Option.bind_eq_some_iff.mp H
         obtain ⟨t247, A110, H⟩ := H
         replace H : (if t247 = true then (manometerref05_Right.j1 k1 l0 x10_1 l0 (l0.length : Int) x10_1 (((rd_T52 l0 x10_1).f1).toList == ([] : List UInt8)) ((rd_T52 l0 x10_1).f0) ((rd_T52 l0 x10_1).f1)) else (manometerref05_Right.j1 k1 l0 x10_1 l0 (l0.length : Int) x10_1 true ((rd_T52 l0 x10_1).f0) ((rd_T52 l0 x10_1).f1))) = some r := H
         have A11 := Aside0.mk A110
         clear A110
         by_cases c12 : t247 = true
         ·subst c12
          have H1 : (manometerref05_Right.j1 k1 l0 x10_1 l0 (l0.length : Int) x10_1 (((rd_T52 l0 x10_1).f1).toList == ([] : List UInt8)) ((rd_T52 l0 x10_1).f0) ((rd_T52 l0 x10_1).f1)) = some r := by rw [if_pos rfl] at H; exact H
          clear H
          have H := H1
          clear H1
          have H' := Aside0.mk H
          clear H
          have hcz13_0 : w9.cell? ⟨gb245, 0, none⟩ = some (.string (⟨#[]⟩ : ByteArray)) := (blk_cell BK245.out 0).trans rfl
          have hcz13_1 : w9.cell? ⟨gb245, 1, none⟩ = some (.string (⟨#[]⟩ : ByteArray)) := (blk_cell BK245.out 1).trans rfl
          have hfz13_0 := blk_frozen BK245.out 0
          have hfz13_1 := blk_frozen BK245.out 1
          go_wp2_with (first | (go_at_call 53; (with_reducible refine (manometerref05_Valued.calls k1 ((rd_T52 l0 x10_1).f1) true _ A11.out).mono ?_); rintro e w' ⟨rfl, ⟨nd, rfl⟩⟩; (try first | exact ⟨rfl, _, World.drewN_drewN _ _ _⟩ | exact ⟨rfl, _, Eq.trans (World.drewN_drewN _ _ _) (congrArg (World.drewN _) (Nat.add_assoc _ _ _))⟩)))
          repeat (go_quiet (first | (go_at_call 53; (with_reducible refine (manometerref05_Valued.calls k1 ((rd_T52 l0 x10_1).f1) true _ A11.out).mono ?_); rintro e w' ⟨rfl, ⟨nd, rfl⟩⟩; (try first | exact ⟨rfl, _, World.drewN_drewN _ _ _⟩ | exact ⟨rfl, _, Eq.trans (World.drewN_drewN _ _ _) (congrArg (World.drewN _) (Nat.add_assoc _ _ _))⟩))); try go_wp2_with (first | (go_at_call 53; (with_reducible refine (manometerref05_Valued.calls k1 ((rd_T52 l0 x10_1).f1) true _ A11.out).mono ?_); rintro e w' ⟨rfl, ⟨nd, rfl⟩⟩; (try first | exact ⟨rfl, _, World.drewN_drewN _ _ _⟩ | exact ⟨rfl, _, Eq.trans (World.drewN_drewN _ _ _) (congrArg (World.drewN _) (Nat.add_assoc _ _ _))⟩))))
          go_meet
          case rel => exact ⟨_, ((((rd_T52 l0 x10_1).f1).toList == ([] : List UInt8))), y8_, H', ⟨by have := HK1.out; first | omega | exact Nat.le_refl _⟩, ⟨y48_⟩, ⟨y35_⟩⟩
         ·replace c12 := Bool.eq_false_iff.mpr c12
          subst c12
          have H1 : (manometerref05_Right.j1 k1 l0 x10_1 l0 (l0.length : Int) x10_1 true ((rd_T52 l0 x10_1).f0) ((rd_T52 l0 x10_1).f1)) = some r := by rw [if_neg (show ¬ (false = true) by decide)] at H; exact H
          clear H
          have H := H1
          clear H1
          have H' := Aside0.mk H
          clear H
          have hcz14_0 : w9.cell? ⟨gb245, 0, none⟩ = some (.string (⟨#[]⟩ : ByteArray)) := (blk_cell BK245.out 0).trans rfl
          have hcz14_1 : w9.cell? ⟨gb245, 1, none⟩ = some (.string (⟨#[]⟩ : ByteArray)) := (blk_cell BK245.out 1).trans rfl
          have hfz14_0 := blk_frozen BK245.out 0
          have hfz14_1 := blk_frozen BK245.out 1
          go_wp2_with (first | (go_at_call 53; (with_reducible refine (manometerref05_Valued.calls k1 ((rd_T52 l0 x10_1).f1) false _ A11.out).mono ?_); rintro e w' ⟨rfl, ⟨nd, rfl⟩⟩; (try first | exact ⟨rfl, _, World.drewN_drewN _ _ _⟩ | exact ⟨rfl, _, Eq.trans (World.drewN_drewN _ _ _) (congrArg (World.drewN _) (Nat.add_assoc _ _ _))⟩)))
          repeat (go_quiet (first | (go_at_call 53; (with_reducible refine (manometerref05_Valued.calls k1 ((rd_T52 l0 x10_1).f1) false _ A11.out).mono ?_); rintro e w' ⟨rfl, ⟨nd, rfl⟩⟩; (try first | exact ⟨rfl, _, World.drewN_drewN _ _ _⟩ | exact ⟨rfl, _, Eq.trans (World.drewN_drewN _ _ _) (congrArg (World.drewN _) (Nat.add_assoc _ _ _))⟩))); try go_wp2_with (first | (go_at_call 53; (with_reducible refine (manometerref05_Valued.calls k1 ((rd_T52 l0 x10_1).f1) false _ A11.out).mono ?_); rintro e w' ⟨rfl, ⟨nd, rfl⟩⟩; (try first | exact ⟨rfl, _, World.drewN_drewN _ _ _⟩ | exact ⟨rfl, _, Eq.trans (World.drewN_drewN _ _ _) (congrArg (World.drewN _) (Nat.add_assoc _ _ _))⟩))))
          go_meet
          case rel => exact ⟨_, (true), y8_, H', ⟨by have := HK1.out; first | omega | exact Nat.le_refl _⟩, ⟨y48_⟩, ⟨y35_⟩⟩
        case rest =>
         clear HC8
         try clear c1
         try clear c2
         try clear c2b0
         try clear c2b1
         try clear p2
         try clear q2
         try clear hx2
         try clear c3
         try clear c3b0
         try clear c4
         try clear c4b0
         try clear c5
         try clear c5b0
         try clear c7
         try clear c12
         try clear hcz10_0
         try clear hcz10_1
         try clear hcz13_0
         try clear hcz13_1
         try clear hcz14_0
         try clear hcz14_1
         try clear hfz10_0
         try clear hfz10_1
         try clear hfz13_0
         try clear hfz13_1
         try clear hfz14_0
         try clear hfz14_1
         try clear hx244_0
         try clear hx244_1
         try clear p2
         try clear p244
         try clear q244
         obtain ⟨kq, x20_7, rfl, HA, HJ7, BK245, HB⟩ := hcut
         cases kq with
         | zero => exact absurd HA.out (by simp [manometerref05_Right.j1])
         | succ kj7 =>
          have H := HA.out
          clear HA
          simp only [manometerref05_Right.j1] at H
          by_cases c15 : x20_7 = true
          ·subst c15
           have H1 : (some 51) = some r := by rw [if_pos rfl] at H; exact H
           clear H
           have H := H1
           clear H1
           obtain rfl := Option.some.inj H
           go_wp2
           repeat (go_quiet (fail); try go_wp2)
           go_ret
           exact ⟨y6_, y35_⟩
          ·replace c15 := Bool.eq_false_iff.mpr c15
           subst c15
           have H1 : (if x10_1 > 0 then (if 0 ≤ (wrap64 (x10_1 - 1)) then (if (wrap64 (x10_1 - 1)) < (l0.length : Int) then (if (Op.bytesLess ((rd_T52 l0 x10_1).f0).toList (((rd_T52 l0 (wrap64 (x10_1 - 1))).f0).toList)) = true then (some 53) else (if ((rd_T52 l0 x10_1).f0).toList = ((rd_T52 l0 (wrap64 (x10_1 - 1))).f0).toList then (some 53) else (manometerref05_Right.l0 kj7 l0 l0 (l0.length : Int) (wrap64 (x10_1 + 1))))) else (none)) else (none)) else (manometerref05_Right.l0 kj7 l0 l0 (l0.length : Int) (wrap64 (x10_1 + 1)))) = some r := by rw [if_neg (show ¬ (false = true) by decide)] at H; exact H
           clear H
           have H := H1
           clear H1
           by_cases c16 : x10_1 > 0
           ·rw [if_pos c16] at H
            have c16b0 : decide (0 < x10_1) = true := decide_eq_true c16
            clear c16
            obtain ⟨ji17, hji17⟩ : ∃ j_ : Int, (wrap64 (x10_1 - 1)) = j_ := ⟨_, rfl⟩
            replace H : (if 0 ≤ (ji17) then (if (ji17) < (l0.length : Int) then (if (Op.bytesLess ((rd_T52 l0 x10_1).f0).toList (((rd_T52 l0 (ji17)).f0).toList)) = true then (some 53) else (if ((rd_T52 l0 x10_1).f0).toList = ((rd_T52 l0 (ji17)).f0).toList then (some 53) else (manometerref05_Right.l0 kj7 l0 l0 (l0.length : Int) (wrap64 (x10_1 + 1))))) else (none)) else (none)) = some r := by first | (rw [hji17] at H; exact H) | (simp only [hji17] at H ⊢; exact H)
            have hji17w : (IntKind.i64.wrap (x10_1 - 1)) = ji17 := (i64_w _).trans hji17
            by_cases c18 : 0 ≤ (ji17)
            ·rw [if_pos c18] at H
             have c18b0 : decide (0 ≤ (ji17)) = true := decide_eq_true c18
             clear c18
             by_cases c19 : (ji17) < (l0.length : Int)
             ·rw [if_pos c19] at H
              have c19b0 : decide ((ji17) < (l0.length : Int)) = true := decide_eq_true c19
              clear c19
              by_cases c20 : (Op.bytesLess ((rd_T52 l0 x10_1).f0).toList (((rd_T52 l0 (ji17)).f0).toList)) = true
              ·rw [if_pos c20] at H
               have c20b0 : (Op.bytesLess ((rd_T52 l0 x10_1).f0).toList (((rd_T52 l0 (ji17)).f0).toList)) = true := c20
               clear c20
               obtain rfl := Option.some.inj H
               have hcz21_0 : wc.cell? ⟨gb245, 0, none⟩ = some (.string ((rd_T52 l0 x10_1).f0)) := (blk_cell BK245.out 0).trans rfl
               have hcz21_1 : wc.cell? ⟨gb245, 1, none⟩ = some (.string ((rd_T52 l0 x10_1).f1)) := (blk_cell BK245.out 1).trans rfl
               have hfz21_0 := blk_frozen BK245.out 0
               have hfz21_1 := blk_frozen BK245.out 1
               have p248 : 0 ≤ ((ji17) : Int) := of_decide_eq_true y3_
               have q248 : (ji17) < (l0.length : Int) := of_decide_eq_true y3_
               obtain ⟨ad248, e248, hx248_0, hx248_1⟩ := at_T52 HR0.out (ji17) p248 q248
               obtain rfl : ad244 = ad248 := (by injection e248)
               replace hx248_0 := (HB.out.cell (World.block_lt_of_cell? w _ hx248_0)).trans hx248_0
               replace hx248_1 := (HB.out.cell (World.block_lt_of_cell? w _ hx248_1)).trans hx248_1
               replace p248 := eq_true p248
               replace q248 := eq_true q248
               go_wp2
               repeat (go_quiet (fail); try go_wp2)
               go_ret
               exact ⟨by first | rfl | (simp [errW_none, errW_some] <;> rfl) | (simp only [← hji17]; first | rfl | (simp [errW_none, errW_some] <;> rfl)) | (simp [*, errW_none, errW_some] <;> rfl), y35_⟩
              ·rw [if_neg c20] at H
               have c20b0 : (Op.bytesLess ((rd_T52 l0 x10_1).f0).toList (((rd_T52 l0 (ji17)).f0).toList)) = false := by simpa using c20
               clear c20
               by_cases c22 : ((rd_T52 l0 x10_1).f0).toList = ((rd_T52 l0 (ji17)).f0).toList
               ·rw [if_pos c22] at H
                have c22b0 : (((rd_T52 l0 x10_1).f0).toList == ((rd_T52 l0 (ji17)).f0).toList) = true := beq_iff_eq.mpr c22
                have c22b1 : (((rd_T52 l0 x10_1).f0).toList != ((rd_T52 l0 (ji17)).f0).toList) = false := bne_eq_false_iff_eq.mpr c22
                clear c22
                obtain rfl := Option.some.inj H
                have hcz23_0 : wc.cell? ⟨gb245, 0, none⟩ = some (.string ((rd_T52 l0 x10_1).f0)) := (blk_cell BK245.out 0).trans rfl
                have hcz23_1 : wc.cell? ⟨gb245, 1, none⟩ = some (.string ((rd_T52 l0 x10_1).f1)) := (blk_cell BK245.out 1).trans rfl
                have hfz23_0 := blk_frozen BK245.out 0
                have hfz23_1 := blk_frozen BK245.out 1
                have p248 : 0 ≤ ((ji17) : Int) := of_decide_eq_true y3_
                have q248 : (ji17) < (l0.length : Int) := of_decide_eq_true y3_
                obtain ⟨ad248, e248, hx248_0, hx248_1⟩ := at_T52 HR0.out (ji17) p248 q248
                obtain rfl : ad244 = ad248 := (by injection e248)
                replace hx248_0 := (HB.out.cell (World.block_lt_of_cell? w _ hx248_0)).trans hx248_0
                replace hx248_1 := (HB.out.cell (World.block_lt_of_cell? w _ hx248_1)).trans hx248_1
                replace p248 := eq_true p248
                replace q248 := eq_true q248
                go_wp2
                repeat (go_quiet (fail); try go_wp2)
                go_ret
                exact ⟨by first | rfl | (simp [errW_none, errW_some] <;> rfl) | (simp only [← hji17]; first | rfl | (simp [errW_none, errW_some] <;> rfl)) | (simp [*, errW_none, errW_some] <;> rfl), y35_⟩
               ·rw [if_neg c22] at H
                have c22b0 : (((rd_T52 l0 x10_1).f0).toList == ((rd_T52 l0 (ji17)).f0).toList) = false := beq_eq_false_iff_ne.mpr c22
                have c22b1 : (((rd_T52 l0 x10_1).f0).toList != ((rd_T52 l0 (ji17)).f0).toList) = true := bne_iff_ne.mpr c22
                have H' := Aside0.mk H
                clear H
                have hcz24_0 : wc.cell? ⟨gb245, 0, none⟩ = some (.string ((rd_T52 l0 x10_1).f0)) := (blk_cell BK245.out 0).trans rfl
                have hcz24_1 : wc.cell? ⟨gb245, 1, none⟩ = some (.string ((rd_T52 l0 x10_1).f1)) := (blk_cell BK245.out 1).trans rfl
                have hfz24_0 := blk_frozen BK245.out 0
                have hfz24_1 := blk_frozen BK245.out 1
                have p248 : 0 ≤ ((ji17) : Int) := of_decide_eq_true y3_
                have q248 : (ji17) < (l0.length : Int) := of_decide_eq_true y3_
                obtain ⟨ad248, e248, hx248_0, hx248_1⟩ := at_T52 HR0.out (ji17) p248 q248
                obtain rfl : ad244 = ad248 := (by injection e248)
                replace hx248_0 := (HB.out.cell (World.block_lt_of_cell? w _ hx248_0)).trans hx248_0
                replace hx248_1 := (HB.out.cell (World.block_lt_of_cell? w _ hx248_1)).trans hx248_1
                replace p248 := eq_true p248
                replace q248 := eq_true q248
                go_wp2
                repeat (go_quiet (fail); try go_wp2)
                go_roundg kj7
                case measure => have := HK1.out; have := HJ7.out; omega
                case rel => exact ⟨(wrap64 (x10_1 + 1)), y8_, H', ⟨by have := HK1.out; have := HJ7.out; omega⟩, ⟨y35_⟩⟩
             ·rw [if_neg c19] at H
              exact absurd H (by simp)
            ·rw [if_neg c18] at H
             exact absurd H (by simp)
           ·rw [if_neg c16] at H
            have c16b0 : decide (0 < x10_1) = false := decide_eq_false c16
            clear c16
            have H' := Aside0.mk H
            clear H
            go_wp2
            repeat (go_quiet (fail); try go_wp2)
            go_roundg kj7
            case measure => have := HK1.out; have := HJ7.out; omega
            case rel => exact ⟨(wrap64 (x10_1 + 1)), y8_, H', ⟨by have := HK1.out; have := HJ7.out; omega⟩, ⟨y35_⟩⟩
       ·replace c7 := Bool.eq_false_iff.mpr c7
        subst c7
        have H1 : (some 50) = some r := by rw [if_neg (show ¬ (false = true) by decide)] at H; exact H
        clear H
        have H := H1
        clear H1
        obtain rfl := Option.some.inj H
        have p244 : 0 ≤ (x10_1 : Int) := of_decide_eq_true y3_
        have q244 : x10_1 < (l0.length : Int) := of_decide_eq_true y3_
        obtain ⟨ad244, e244, hx244_0, hx244_1⟩ := at_T52 HR0.out x10_1 p244 q244
        cases e244
        replace hx244_0 := (HB.out.cell (World.block_lt_of_cell? w _ hx244_0)).trans hx244_0
        replace hx244_1 := (HB.out.cell (World.block_lt_of_cell? w _ hx244_1)).trans hx244_1
        replace p244 := eq_true p244
        replace q244 := eq_true q244
        go_wp2_with (first | ((with_reducible refine gate_dst (N := 4) rfl ?_); refine box_event ?hg (N := 4) ?hd (cs := #[.string (⟨#[]⟩ : ByteArray), .string (⟨#[]⟩ : ByteArray)]) (t := 52) ?hr ?_; (case hd => rfl); (case hg => rfl); (case hr => first | (go_simp; done) | (go_simp; rfl)); intro gb245 hg w25 hbox hb; have n0_ := Aside0.mk (below_step y1_ hb); have n1_ := Aside0.mk (hbox); have n2_ := Aside0.mk ((y13_ : w.heap.size ≤ gb245)); have n3_ := Aside0.mk ((y13_ : w.heap.size ≤ gb245)); clear HB; have HB := n0_; have BK245 := n1_; have GW245 := n2_; have GE245 := n3_; clear n0_ n1_ n2_ n3_; clear hb hbox hg; have hcz26_0 : w25.cell? ⟨gb245, 0, none⟩ = some (.string (⟨#[]⟩ : ByteArray)) := (blk_cell BK245.out 0).trans rfl; have hcz26_1 : w25.cell? ⟨gb245, 1, none⟩ = some (.string (⟨#[]⟩ : ByteArray)) := (blk_cell BK245.out 1).trans rfl; have hfz26_0 := blk_frozen BK245.out 0; have hfz26_1 := blk_frozen BK245.out 1) | (go_at_call 52; (with_reducible refine (manometerref05_Named.calls k1 ((rd_T52 l0 x10_1).f0) false _ A6.out).mono ?_); rintro e w' ⟨rfl, ⟨nd, rfl⟩⟩; (try first | exact ⟨rfl, _, World.drewN_drewN _ _ _⟩ | exact ⟨rfl, _, Eq.trans (World.drewN_drewN _ _ _) (congrArg (World.drewN _) (Nat.add_assoc _ _ _))⟩)))
        repeat (go_quiet (first | ((with_reducible refine gate_dst (N := 4) rfl ?_); refine box_event ?hg (N := 4) ?hd (cs := #[.string (⟨#[]⟩ : ByteArray), .string (⟨#[]⟩ : ByteArray)]) (t := 52) ?hr ?_; (case hd => rfl); (case hg => rfl); (case hr => first | (go_simp; done) | (go_simp; rfl)); intro gb245 hg w25 hbox hb; have n0_ := Aside0.mk (below_step y1_ hb); have n1_ := Aside0.mk (hbox); have n2_ := Aside0.mk ((y13_ : w.heap.size ≤ gb245)); have n3_ := Aside0.mk ((y13_ : w.heap.size ≤ gb245)); clear HB; have HB := n0_; have BK245 := n1_; have GW245 := n2_; have GE245 := n3_; clear n0_ n1_ n2_ n3_; clear hb hbox hg; have hcz26_0 : w25.cell? ⟨gb245, 0, none⟩ = some (.string (⟨#[]⟩ : ByteArray)) := (blk_cell BK245.out 0).trans rfl; have hcz26_1 : w25.cell? ⟨gb245, 1, none⟩ = some (.string (⟨#[]⟩ : ByteArray)) := (blk_cell BK245.out 1).trans rfl; have hfz26_0 := blk_frozen BK245.out 0; have hfz26_1 := blk_frozen BK245.out 1) | (go_at_call 52; (with_reducible refine (manometerref05_Named.calls k1 ((rd_T52 l0 x10_1).f0) false _ A6.out).mono ?_); rintro e w' ⟨rfl, ⟨nd, rfl⟩⟩; (try first | exact ⟨rfl, _, World.drewN_drewN _ _ _⟩ | exact ⟨rfl, _, Eq.trans (World.drewN_drewN _ _ _) (congrArg (World.drewN _) (Nat.add_assoc _ _ _))⟩))); try go_wp2_with (first | ((with_reducible refine gate_dst (N := 4) rfl ?_); refine box_event ?hg (N := 4) ?hd (cs := #[.string (⟨#[]⟩ : ByteArray), .string (⟨#[]⟩ : ByteArray)]) (t := 52) ?hr ?_; (case hd => rfl); (case hg => rfl); (case hr => first | (go_simp; done) | (go_simp; rfl)); intro gb245 hg w25 hbox hb; have n0_ := Aside0.mk (below_step y1_ hb); have n1_ := Aside0.mk (hbox); have n2_ := Aside0.mk ((y13_ : w.heap.size ≤ gb245)); have n3_ := Aside0.mk ((y13_ : w.heap.size ≤ gb245)); clear HB; have HB := n0_; have BK245 := n1_; have GW245 := n2_; have GE245 := n3_; clear n0_ n1_ n2_ n3_; clear hb hbox hg; have hcz26_0 : w25.cell? ⟨gb245, 0, none⟩ = some (.string (⟨#[]⟩ : ByteArray)) := (blk_cell BK245.out 0).trans rfl; have hcz26_1 : w25.cell? ⟨gb245, 1, none⟩ = some (.string (⟨#[]⟩ : ByteArray)) := (blk_cell BK245.out 1).trans rfl; have hfz26_0 := blk_frozen BK245.out 0; have hfz26_1 := blk_frozen BK245.out 1) | (go_at_call 52; (with_reducible refine (manometerref05_Named.calls k1 ((rd_T52 l0 x10_1).f0) false _ A6.out).mono ?_); rintro e w' ⟨rfl, ⟨nd, rfl⟩⟩; (try first | exact ⟨rfl, _, World.drewN_drewN _ _ _⟩ | exact ⟨rfl, _, Eq.trans (World.drewN_drewN _ _ _) (congrArg (World.drewN _) (Nat.add_assoc _ _ _))⟩))))
        go_ret
        exact ⟨y6_, y35_⟩
      ·rw [if_neg c5] at H
       exact absurd H (by simp)
     ·rw [if_neg c4] at H
      exact absurd H (by simp)
    ·rw [if_neg c3] at H
     have c3b0 : decide (x10_1 < (l0.length : Int)) = false := decide_eq_false c3
     clear c3
     obtain rfl := Option.some.inj H
     go_wp2
     repeat (go_quiet (fail); try go_wp2)
     go_ret
     exact ⟨y6_, y1_⟩
end Go.Proofs.YtdckhaejhfkkbaaDoor.PRT
