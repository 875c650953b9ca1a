import Derived.Test.YtdckhaejhfkkbaaDoorCRecordTakesPRTx0
import Derived.Test.YtdckhaejhfkkbaaDoorCRecordTakesPRTx5
import Derived.Test.YtdckhaejhfkkbaaDoorCRecordTakesPRTx9
import Derived.Test.YtdckhaejhfkkbaaDoorCRecordTakesPRTx10
import Derived.Test.YtdckhaejhfkkbaaDoorCRecordTakesQ2
import Derived.Test.YtdckhaejhfkkbaaDoorCRecordTakesPRTx21
import Derived.Test.YtdckhaejhfkkbaaDoorCRecordTakesY
namespace Go.Proofs.YtdckhaejhfkkbaaDoor.PRT
open Go.RowKit Go.Proofs.YtdckhaejhfkkbaaDoorW.PrintWords Go.Proofs.YtdckhaejhfkkbaaDoorW.PrintLast Go.Proofs.YtdckhaejhfkkbaaDoorW.PrintMore
attribute [local go_sem] max2_int min2_int max_two min_two max_three min_three max_four min_four
set_option linter.unusedVariables false
set_option linter.unusedSimpArgs false
def manometerref05_Valued.f (k : Nat) (a0 : ByteArray) : Option (Bool) := if (a0.size : Int) ≤ 128 then ((manometerref05_Valid.f k a0).bind fun t243 => (some t243)) else (some false)
set_option maxHeartbeats 8000000 in
set_option maxRecDepth 100000 in
theorem manometerref05_Valued.calls (k : Nat) (a0 : ByteArray) (r : Bool) (w : World) (h : manometerref05_Valued.f k a0 = some r) :
  Calls Tryd.prog 53 #[.string a0] w fun e w' => e = .returned (.bool r) ∧ Drawn0 w w' := by
 have H : (if (a0.size : Int) ≤ 128 then ((manometerref05_Valid.f k a0).bind fun t243 => (some t243)) else (some false)) = some r := h
 clear h
 by_cases c2 : (a0.size : Int) ≤ 128
 ·rw [if_pos c2] at H
  have c2b0 : decide ((a0.size : Int) ≤ 128) = true := decide_eq_true c2
  have c2b1 : decide (a0.size ≤ 128) = true := decide_eq_true (by omega)
  clear c2
  replace H := Option.bind_eq_some_iff.mp H
  obtain ⟨t243, A30, H⟩ := H
  replace H : (some t243) = some r := H
  have A3 := Aside0.mk A30
  clear A30
  obtain rfl := Option.some.inj H
  go_enter Tryd.func53, Tryd.ntmps53
  go_wp2_with (first | (go_at_call 63; (with_reducible refine (manometerref05_Valid.calls k a0 t243 _ A3.out).mono ?_); rintro e w' ⟨rfl, ⟨nd, rfl⟩⟩))
  go_ret
  exact ⟨y17_, y8_⟩
 ·rw [if_neg c2] at H
  have c2b0 : decide ((a0.size : Int) ≤ 128) = false := decide_eq_false c2
  have c2b1 : decide (a0.size ≤ 128) = false := decide_eq_false (by omega)
  clear c2
  obtain rfl := Option.some.inj H
  go_enter Tryd.func53, Tryd.ntmps53
  go_wp2
  go_ret
  exact ⟨y17_, y8_⟩
mutual
def manometerref05_Right.l0 : Nat → List (S52) → List (S52) → Int → Int → Option (Int)
 | 0, _, _, _, _ => none
 | k + 1, x0, x8, x9, x10 => if x10 < x9 then (if 0 ≤ x10 then (if x10 < (x8.length : Int) then ((manometerref05_Named.f k ((rd_T52 x8 x10).f0)).bind fun t246 => (if t246 = true then ((manometerref05_Valued.f k ((rd_T52 x8 x10).f1)).bind fun t247 => (if t247 = true then (manometerref05_Right.j1 k x0 x10 x8 x9 x10 (((rd_T52 x8 x10).f1).toList == ([] : List UInt8)) ((rd_T52 x8 x10).f0) ((rd_T52 x8 x10).f1)) else (manometerref05_Right.j1 k x0 x10 x8 x9 x10 true ((rd_T52 x8 x10).f0) ((rd_T52 x8 x10).f1)))) else (some 50))) else (none)) else (none)) else (some 0)
def manometerref05_Right.j1 : Nat → List (S52) → Int → List (S52) → Int → Int → Bool → ByteArray → ByteArray → Option (Int)
 | 0, _, _, _, _, _, _, _, _ => none
 | k + 1, x0, x3, x8, x9, x10, x20, x246000, x246001 => if x20 = true then (some 51) else (if x3 > 0 then (if 0 ≤ (wrap64 (x3 - 1)) then (if (wrap64 (x3 - 1)) < (x0.length : Int) then (if (Op.bytesLess x246000.toList (((rd_T52 x0 (wrap64 (x3 - 1))).f0).toList)) = true then (some 53) else (if x246000.toList = ((rd_T52 x0 (wrap64 (x3 - 1))).f0).toList then (some 53) else (manometerref05_Right.l0 k x0 x8 x9 (wrap64 (x10 + 1))))) else (none)) else (none)) else (manometerref05_Right.l0 k x0 x8 x9 (wrap64 (x10 + 1))))
end
def manometerref05_Right.f (k : Nat) (l0 : List (S52)) : Option (Int) := if (l0.length : Int) > 16 then (some 3) else (manometerref05_Right.l0 k l0 l0 (l0.length : Int) 0)
set_option maxHeartbeats 8000000 in
set_option maxRecDepth 100000 in
theorem manometerref05_Right.calls (k : Nat) (A0 : Option Addr) (c0 : Nat) (l0 : List (S52)) (r : Int) (w : World) (hr0 : Kd.C k52 w A0 l0.length l0) (hc0 : l0.length ≤ c0) (h : manometerref05_Right.f k l0 = some r) :
  Calls Tryd.prog 36 #[.slice A0 l0.length c0] w fun e w' => e = .returned (.int .i64 r) ∧ Below w.heap.size w w' := by
 have hu52 := Tryd.underlying52
 have HR0 := Aside0.mk hr0
 have HC0 := Aside0.mk hc0
 clear hr0 hc0
 have HB := Aside0.mk (Below.refl w.heap.size w)
 have H : (if (l0.length : Int) > 16 then (some 3) else (manometerref05_Right.l0 k l0 l0 (l0.length : Int) 0)) = some r := h
 clear h
 by_cases c2 : (l0.length : Int) > 16
 ·rw [if_pos c2] at H
  have c2b0 : decide (16 < (l0.length : Int)) = true := decide_eq_true c2
  have c2b1 : decide (16 < l0.length) = true := decide_eq_true (by omega)
  clear c2
  obtain rfl := Option.some.inj H
  go_enter Tryd.func36, Tryd.ntmps36
  go_wp2
  repeat (go_quiet (fail); try go_wp2)
  go_ret
  exact ⟨y4_, y1_⟩
 ·rw [if_neg c2] at H
  have c2b0 : decide (16 < (l0.length : Int)) = false := decide_eq_false c2
  have c2b1 : decide (16 < l0.length) = false := decide_eq_false (by omega)
  clear c2
  have H' := Aside0.mk H
  clear H
  go_enter Tryd.func36, Tryd.ntmps36
  go_wp2
  repeat (go_quiet (fail); try go_wp2)
  go_loopg [10] k (fun kq v10 w' => ∃ (x10_1 : Int), v10 = .int .i64 x10_1 ∧ Aside0 (manometerref05_Right.l0 kq l0 l0 (l0.length : Int) x10_1 = some r) ∧ Aside0 (kq ≤ k) ∧ Aside0 (Below w.heap.size w w'))
  case atStart => exact ⟨(0), y7_, H', ⟨Nat.le_refl _⟩, ⟨y1_⟩⟩
  case round =>
   clear H'
   try clear c2
   try clear c2b0
   try clear c2b1
   try clear p2
   obtain ⟨x10_1, rfl, HA, HK1, HB⟩ := hrel
   cases gk with
   | zero => exact absurd HA.out (by simp [manometerref05_Right.l0])
   | succ k1 =>
    have H := HA.out
    clear HA
    simp only [manometerref05_Right.l0] at H
    by_cases c3 : x10_1 < (l0.length : Int)
    ·rw [if_pos c3] at H
     have c3b0 : decide (x10_1 < (l0.length : Int)) = true := decide_eq_true c3
     clear c3
     by_cases c4 : 0 ≤ x10_1
     ·rw [if_pos c4] at H
      have c4b0 : decide (0 ≤ x10_1) = true := decide_eq_true c4
      clear c4
      by_cases c5 : x10_1 < (l0.length : Int)
      ·rw [if_pos c5] at H
       have c5b0 : decide (x10_1 < (l0.length : Int)) = true := decide_eq_true c5
       clear c5
       replace H := Option.bind_eq_some_iff.mp H
       obtain ⟨t246, A60, H⟩ := H
       replace H : (if t246 = true then ((manometerref05_Valued.f k1 ((rd_T52 l0 x10_1).f1)).bind fun t247 => (if t247 = true then (manometerref05_Right.j1 k1 l0 x10_1 l0 (l0.length : Int) x10_1 (((rd_T52 l0 x10_1).f1).toList == ([] : List UInt8)) ((rd_T52 l0 x10_1).f0) ((rd_T52 l0 x10_1).f1)) else (manometerref05_Right.j1 k1 l0 x10_1 l0 (l0.length : Int) x10_1 true ((rd_T52 l0 x10_1).f0) ((rd_T52 l0 x10_1).f1)))) else (some 50)) = some r := H
       have A6 := Aside0.mk A60
       clear A60
       by_cases c7 : t246 = true
       ·subst c7
        have H1 : ((manometerref05_Valued.f k1 ((rd_T52 l0 x10_1).f1)).bind fun t247 => (if t247 = true then (manometerref05_Right.j1 k1 l0 x10_1 l0 (l0.length : Int) x10_1 (((rd_T52 l0 x10_1).f1).toList == ([] : List UInt8)) ((rd_T52 l0 x10_1).f0) ((rd_T52 l0 x10_1).f1)) else (manometerref05_Right.j1 k1 l0 x10_1 l0 (l0.length : Int) x10_1 true ((rd_T52 l0 x10_1).f0) ((rd_T52 l0 x10_1).f1)))) = some r := by rw [if_pos rfl] at H; exact H
        clear H
        have H := H1
        clear H1
        have HC8 := Aside0.mk H
        clear H
        have p244 : 0 ≤ (x10_1 : Int) := of_decide_eq_true y2_
        have q244 : x10_1 < (l0.length : Int) := of_decide_eq_true y2_
        obtain ⟨ad244, e244, hx244_0, hx244_1⟩ := at_T52 HR0.out x10_1 p244 q244
        cases e244
        replace hx244_0 := (HB.out.cell (World.block_lt_of_cell? w _ hx244_0)).trans hx244_0
        replace hx244_1 := (HB.out.cell (World.block_lt_of_cell? w _ hx244_1)).trans hx244_1
        replace p244 := eq_true p244
        replace q244 := eq_true q244
        go_upto_region 8 with (first | ((with_reducible refine gate_dst (N := 4) rfl ?_); refine box_event ?hg (N := 4) ?hd (cs := #[.string (⟨#[]⟩ : ByteArray), .string (⟨#[]⟩ : ByteArray)]) (t := 52) ?hr ?_; (case hd => rfl); (case hg => rfl); (case hr => first | (go_simp; done) | (go_simp; rfl)); intro gb245 hg w9 hbox hb; have n0_ := Aside0.mk (below_step y1_ hb); have n1_ := Aside0.mk (hbox); have n2_ := Aside0.mk ((y12_ : w.heap.size ≤ gb245)); have n3_ := Aside0.mk ((y12_ : w.heap.size ≤ gb245)); clear HB; have HB := n0_; have BK245 := n1_; have GW245 := n2_; have GE245 := n3_; clear n0_ n1_ n2_ n3_; clear hb hbox hg; have hcz10_0 : w9.cell? ⟨gb245, 0, none⟩ = some (.string (⟨#[]⟩ : ByteArray)) := (blk_cell BK245.out 0).trans rfl; have hcz10_1 : w9.cell? ⟨gb245, 1, none⟩ = some (.string (⟨#[]⟩ : ByteArray)) := (blk_cell BK245.out 1).trans rfl; have hfz10_0 := blk_frozen BK245.out 0; have hfz10_1 := blk_frozen BK245.out 1) | (go_at_call 52; (with_reducible refine (manometerref05_Named.calls k1 ((rd_T52 l0 x10_1).f0) true _ A6.out).mono ?_); rintro e w' ⟨rfl, ⟨nd, rfl⟩⟩; (try first | exact ⟨rfl, _, World.drewN_drewN _ _ _⟩ | exact ⟨rfl, _, Eq.trans (World.drewN_drewN _ _ _) (congrArg (World.drewN _) (Nat.add_assoc _ _ _))⟩)))
        repeat (go_quiet (first | ((with_reducible refine gate_dst (N := 4) rfl ?_); refine box_event ?hg (N := 4) ?hd (cs := #[.string (⟨#[]⟩ : ByteArray), .string (⟨#[]⟩ : ByteArray)]) (t := 52) ?hr ?_; (case hd => rfl); (case hg => rfl); (case hr => first | (go_simp; done) | (go_simp; rfl)); intro gb245 hg w9 hbox hb; have n0_ := Aside0.mk (below_step y1_ hb); have n1_ := Aside0.mk (hbox); have n2_ := Aside0.mk ((y12_ : w.heap.size ≤ gb245)); have n3_ := Aside0.mk ((y12_ : w.heap.size ≤ gb245)); clear HB; have HB := n0_; have BK245 := n1_; have GW245 := n2_; have GE245 := n3_; clear n0_ n1_ n2_ n3_; clear hb hbox hg; have hcz10_0 : w9.cell? ⟨gb245, 0, none⟩ = some (.string (⟨#[]⟩ : ByteArray)) := (blk_cell BK245.out 0).trans rfl; have hcz10_1 : w9.cell? ⟨gb245, 1, none⟩ = some (.string (⟨#[]⟩ : ByteArray)) := (blk_cell BK245.out 1).trans rfl; have hfz10_0 := blk_frozen BK245.out 0; have hfz10_1 := blk_frozen BK245.out 1) | (go_at_call 52; (with_reducible refine (manometerref05_Named.calls k1 ((rd_T52 l0 x10_1).f0) true _ A6.out).mono ?_); rintro e w' ⟨rfl, ⟨nd, rfl⟩⟩; (try first | exact ⟨rfl, _, World.drewN_drewN _ _ _⟩ | exact ⟨rfl, _, Eq.trans (World.drewN_drewN _ _ _) (congrArg (World.drewN _) (Nat.add_assoc _ _ _))⟩))); go_upto_region 8 with (first | ((with_reducible refine gate_dst (N := 4) rfl ?_); refine box_event ?hg (N := 4) ?hd (cs := #[.string (⟨#[]⟩ : ByteArray), .string (⟨#[]⟩ : ByteArray)]) (t := 52) ?hr ?_; (case hd => rfl); (case hg => rfl); (case hr => first | (go_simp; done) | (go_simp; rfl)); intro gb245 hg w9 hbox hb; have n0_ := Aside0.mk (below_step y1_ hb); have n1_ := Aside0.mk (hbox); have n2_ := Aside0.mk ((y12_ : w.heap.size ≤ gb245)); have n3_ := Aside0.mk ((y12_ : w.heap.size ≤ gb245)); clear HB; have HB := n0_; have BK245 := n1_; have GW245 := n2_; have GE245 := n3_; clear n0_ n1_ n2_ n3_; clear hb hbox hg; have hcz10_0 : w9.cell? ⟨gb245, 0, none⟩ = some (.string (⟨#[]⟩ : ByteArray)) := (blk_cell BK245.out 0).trans rfl; have hcz10_1 : w9.cell? ⟨gb245, 1, none⟩ = some (.string (⟨#[]⟩ : ByteArray)) := (blk_cell BK245.out 1).trans rfl; have hfz10_0 := blk_frozen BK245.out 0; have hfz10_1 := blk_frozen BK245.out 1) | (go_at_call 52; (with_reducible refine (manometerref05_Named.calls k1 ((rd_T52 l0 x10_1).f0) true _ A6.out).mono ?_); rintro e w' ⟨rfl, ⟨nd, rfl⟩⟩; (try first | exact ⟨rfl, _, World.drewN_drewN _ _ _⟩ | exact ⟨rfl, _, Eq.trans (World.drewN_drewN _ _ _) (congrArg (World.drewN _) (Nat.add_assoc _ _ _))⟩))))
        (try simp only [Act.put, List.setIfInBounds_toArray, List.set_cons_zero, List.set_cons_succ])
        go_cut [20] (fun v20 wc => ∃ (kq : Nat) (x20_7 : Bool), v20 = .bool x20_7 ∧ Aside0 (manometerref05_Right.j1 kq l0 x10_1 l0 (l0.length : Int) x10_1 x20_7 ((rd_T52 l0 x10_1).f0) ((rd_T52 l0 x10_1).f1) = some r) ∧ Aside0 (kq ≤ k1) ∧ Aside0 (wc.heap[gb245]? = some (.cells #[.string ((rd_T52 l0 x10_1).f0), .string ((rd_T52 l0 x10_1).f1)] 52 (0, 0))) ∧ Aside0 (Below w.heap.size w wc))
        case first =>
         have H := HC8.out
         clear HC8
         replace H := Option.bind_eq_some_iff.mp H
         obtain ⟨t247, A110, H⟩ := H
         replace H : (if t247 = true then (manometerref05_Right.j1 k1 l0 x10_1 l0 (l0.length : Int) x10_1 (((rd_T52 l0 x10_1).f1).toList == ([] : List UInt8)) ((rd_T52 l0 x10_1).f0) ((rd_T52 l0 x10_1).f1)) else (manometerref05_Right.j1 k1 l0 x10_1 l0 (l0.length : Int) x10_1 true ((rd_T52 l0 x10_1).f0) ((rd_T52 l0 x10_1).f1))) = some r := H
         have A11 := Aside0.mk A110
         clear A110
         by_cases c12 : t247 = true
         ·subst c12
          have H1 : (manometerref05_Right.j1 k1 l0 x10_1 l0 (l0.length : Int) x10_1 (((rd_T52 l0 x10_1).f1).toList == ([] : List UInt8)) ((rd_T52 l0 x10_1).f0) ((rd_T52 l0 x10_1).f1)) = some r := by rw [if_pos rfl] at H; exact H
          clear H
          have H := H1
          clear H1
          have H' := Aside0.mk H
          clear H
          have hcz13_0 : w9.cell? ⟨gb245, 0, none⟩ = some (.string (⟨#[]⟩ : ByteArray)) := (blk_cell BK245.out 0).trans rfl
          have hcz13_1 : w9.cell? ⟨gb245, 1, none⟩ = some (.string (⟨#[]⟩ : ByteArray)) := (blk_cell BK245.out 1).trans rfl
          have hfz13_0 := blk_frozen BK245.out 0
          have hfz13_1 := blk_frozen BK245.out 1
          go_wp2_with (first | (go_at_call 53; (with_reducible refine (manometerref05_Valued.calls k1 ((rd_T52 l0 x10_1).f1) true _ A11.out).mono ?_); rintro e w' ⟨rfl, ⟨nd, rfl⟩⟩; (try first | exact ⟨rfl, _, World.drewN_drewN _ _ _⟩ | exact ⟨rfl, _, Eq.trans (World.drewN_drewN _ _ _) (congrArg (World.drewN _) (Nat.add_assoc _ _ _))⟩)))
          repeat (go_quiet (first | (go_at_call 53; (with_reducible refine (manometerref05_Valued.calls k1 ((rd_T52 l0 x10_1).f1) true _ A11.out).mono ?_); rintro e w' ⟨rfl, ⟨nd, rfl⟩⟩; (try first | exact ⟨rfl, _, World.drewN_drewN _ _ _⟩ | exact ⟨rfl, _, Eq.trans (World.drewN_drewN _ _ _) (congrArg (World.drewN _) (Nat.add_assoc _ _ _))⟩))); try go_wp2_with (first | (go_at_call 53; (with_reducible refine (manometerref05_Valued.calls k1 ((rd_T52 l0 x10_1).f1) true _ A11.out).mono ?_); rintro e w' ⟨rfl, ⟨nd, rfl⟩⟩; (try first | exact ⟨rfl, _, World.drewN_drewN _ _ _⟩ | exact ⟨rfl, _, Eq.trans (World.drewN_drewN _ _ _) (congrArg (World.drewN _) (Nat.add_assoc _ _ _))⟩))))
          go_meet
          case rel => exact ⟨_, ((((rd_T52 l0 x10_1).f1).toList == ([] : List UInt8))), y7_, H', ⟨y112_⟩, ⟨y66_⟩, ⟨y41_⟩⟩
         ·replace c12 := Bool.eq_false_iff.mpr c12
          subst c12
          have H1 : (manometerref05_Right.j1 k1 l0 x10_1 l0 (l0.length : Int) x10_1 true ((rd_T52 l0 x10_1).f0) ((rd_T52 l0 x10_1).f1)) = some r := by rw [if_neg (show ¬ (false = true) by decide)] at H; exact H
          clear H
          have H := H1
          clear H1
          have H' := Aside0.mk H
          clear H
          have hcz14_0 : w9.cell? ⟨gb245, 0, none⟩ = some (.string (⟨#[]⟩ : ByteArray)) := (blk_cell BK245.out 0).trans rfl
          have hcz14_1 : w9.cell? ⟨gb245, 1, none⟩ = some (.string (⟨#[]⟩ : ByteArray)) := (blk_cell BK245.out 1).trans rfl
          have hfz14_0 := blk_frozen BK245.out 0
          have hfz14_1 := blk_frozen BK245.out 1
          go_wp2_with (first | (go_at_call 53; (with_reducible refine (manometerref05_Valued.calls k1 ((rd_T52 l0 x10_1).f1) false _ A11.out).mono ?_); rintro e w' ⟨rfl, ⟨nd, rfl⟩⟩; (try first | exact ⟨rfl, _, World.drewN_drewN _ _ _⟩ | exact ⟨rfl, _, Eq.trans (World.drewN_drewN _ _ _) (congrArg (World.drewN _) (Nat.add_assoc _ _ _))⟩)))
          repeat (go_quiet (first | (go_at_call 53; (with_reducible refine (manometerref05_Valued.calls k1 ((rd_T52 l0 x10_1).f1) false _ A11.out).mono ?_); rintro e w' ⟨rfl, ⟨nd, rfl⟩⟩; (try first | exact ⟨rfl, _, World.drewN_drewN _ _ _⟩ | exact ⟨rfl, _, Eq.trans (World.drewN_drewN _ _ _) (congrArg (World.drewN _) (Nat.add_assoc _ _ _))⟩))); try go_wp2_with (first | (go_at_call 53; (with_reducible refine (manometerref05_Valued.calls k1 ((rd_T52 l0 x10_1).f1) false _ A11.out).mono ?_); rintro e w' ⟨rfl, ⟨nd, rfl⟩⟩; (try first | exact ⟨rfl, _, World.drewN_drewN _ _ _⟩ | exact ⟨rfl, _, Eq.trans (World.drewN_drewN _ _ _) (congrArg (World.drewN _) (Nat.add_assoc _ _ _))⟩))))
          go_meet
          case rel => exact ⟨_, (true), y7_, H', ⟨y112_⟩, ⟨y66_⟩, ⟨y41_⟩⟩
        case rest =>
         clear HC8
         try clear c1
         try clear c2
         try clear c2b0
         try clear c2b1
         try clear p2
         try clear q2
         try clear hx2
         try clear c3
         try clear c3b0
         try clear c4
         try clear c4b0
         try clear c5
         try clear c5b0
         try clear c7
         try clear c12
         try clear hcz10_0
         try clear hcz10_1
         try clear hcz13_0
         try clear hcz13_1
         try clear hcz14_0
         try clear hcz14_1
         try clear hfz10_0
         try clear hfz10_1
         try clear hfz13_0
         try clear hfz13_1
         try clear hfz14_0
         try clear hfz14_1
         try clear hx244_0
         try clear hx244_1
         try clear p2
         try clear p244
         try clear q244
         obtain ⟨kq, x20_7, rfl, HA, HJ7, BK245, HB⟩ := hcut
         cases kq with
         | zero => exact absurd HA.out (by simp [manometerref05_Right.j1])
         | succ kj7 =>
          have H := HA.out
          clear HA
          simp only [manometerref05_Right.j1] at H
          by_cases c15 : x20_7 = true
          ·subst c15
           have H1 : (some 51) = some r := by rw [if_pos rfl] at H; exact H
           clear H
           have H := H1
           clear H1
           obtain rfl := Option.some.inj H
           go_wp2
           repeat (go_quiet (fail); try go_wp2)
           go_ret
           exact ⟨y4_, y41_⟩
          ·replace c15 := Bool.eq_false_iff.mpr c15
           subst c15
           have H1 : (if x10_1 > 0 then (if 0 ≤ (wrap64 (x10_1 - 1)) then (if (wrap64 (x10_1 - 1)) < (l0.length : Int) then (if (Op.bytesLess ((rd_T52 l0 x10_1).f0).toList (((rd_T52 l0 (wrap64 (x10_1 - 1))).f0).toList)) = true then (some 53) else (if ((rd_T52 l0 x10_1).f0).toList = ((rd_T52 l0 (wrap64 (x10_1 - 1))).f0).toList then (some 53) else (manometerref05_Right.l0 kj7 l0 l0 (l0.length : Int) (wrap64 (x10_1 + 1))))) else (none)) else (none)) else (manometerref05_Right.l0 kj7 l0 l0 (l0.length : Int) (wrap64 (x10_1 + 1)))) = some r := by rw [if_neg (show ¬ (false = true) by decide)] at H; exact H
           clear H
           have H := H1
           clear H1
           by_cases c16 : x10_1 > 0
           ·rw [if_pos c16] at H
            have c16b0 : decide (0 < x10_1) = true := decide_eq_true c16
            clear c16
            obtain ⟨ji17, hji17⟩ : ∃ j_ : Int, (wrap64 (x10_1 - 1)) = j_ := ⟨_, rfl⟩
            replace H : (if 0 ≤ (ji17) then (if (ji17) < (l0.length : Int) then (if (Op.bytesLess ((rd_T52 l0 x10_1).f0).toList (((rd_T52 l0 (ji17)).f0).toList)) = true then (some 53) else (if ((rd_T52 l0 x10_1).f0).toList = ((rd_T52 l0 (ji17)).f0).toList then (some 53) else (manometerref05_Right.l0 kj7 l0 l0 (l0.length : Int) (wrap64 (x10_1 + 1))))) else (none)) else (none)) = some r := by first | (rw [hji17] at H; exact H) | (simp only [hji17] at H ⊢; exact H)
            have hji17w : (IntKind.i64.wrap (x10_1 - 1)) = ji17 := (i64_w _).trans hji17
            by_cases c18 : 0 ≤ (ji17)
            ·rw [if_pos c18] at H
             have c18b0 : decide (0 ≤ (ji17)) = true := decide_eq_true c18
             clear c18
             by_cases c19 : (ji17) < (l0.length : Int)
             ·rw [if_pos c19] at H
              have c19b0 : decide ((ji17) < (l0.length : Int)) = true := decide_eq_true c19
              clear c19
              by_cases c20 : (Op.bytesLess ((rd_T52 l0 x10_1).f0).toList (((rd_T52 l0 (ji17)).f0).toList)) = true
              ·rw [if_pos c20] at H
               have c20b0 : (Op.bytesLess ((rd_T52 l0 x10_1).f0).toList (((rd_T52 l0 (ji17)).f0).toList)) = true := c20
               clear c20
               obtain rfl := Option.some.inj H
               have hcz21_0 : wc.cell? ⟨gb245, 0, none⟩ = some (.string ((rd_T52 l0 x10_1).f0)) := (blk_cell BK245.out 0).trans rfl
               have hcz21_1 : wc.cell? ⟨gb245, 1, none⟩ = some (.string ((rd_T52 l0 x10_1).f1)) := (blk_cell BK245.out 1).trans rfl
               have hfz21_0 := blk_frozen BK245.out 0
               have hfz21_1 := blk_frozen BK245.out 1
               have p248 : 0 ≤ ((ji17) : Int) := of_decide_eq_true y2_
               have q248 : (ji17) < (l0.length : Int) := of_decide_eq_true y2_
               obtain ⟨ad248, e248, hx248_0, hx248_1⟩ := at_T52 HR0.out (ji17) p248 q248
               obtain rfl : ad244 = ad248 := (by injection e248)
               replace hx248_0 := (HB.out.cell (World.block_lt_of_cell? w _ hx248_0)).trans hx248_0
               replace hx248_1 := (HB.out.cell (World.block_lt_of_cell? w _ hx248_1)).trans hx248_1
               replace p248 := eq_true p248
               replace q248 := eq_true q248
               go_wp2
               repeat (go_quiet (fail); try go_wp2)
               go_ret
               exact ⟨by first | rfl | (simp [errW_none, errW_some] <;> rfl) | (simp only [← hji17]; first | rfl | (simp [errW_none, errW_some] <;> rfl)) | (simp [*, errW_none, errW_some] <;> rfl), y41_⟩
              ·rw [if_neg c20] at H
               have c20b0 : (Op.bytesLess ((rd_T52 l0 x10_1).f0).toList (((rd_T52 l0 (ji17)).f0).toList)) = false := by simpa using c20
               clear c20
               by_cases c22 : ((rd_T52 l0 x10_1).f0).toList = ((rd_T52 l0 (ji17)).f0).toList
               ·rw [if_pos c22] at H
                have c22b0 : (((rd_T52 l0 x10_1).f0).toList == ((rd_T52 l0 (ji17)).f0).toList) = true := beq_iff_eq.mpr c22
                have c22b1 : (((rd_T52 l0 x10_1).f0).toList != ((rd_T52 l0 (ji17)).f0).toList) = false := bne_eq_false_iff_eq.mpr c22
                clear c22
                obtain rfl := Option.some.inj H
                have hcz23_0 : wc.cell? ⟨gb245, 0, none⟩ = some (.string ((rd_T52 l0 x10_1).f0)) := (blk_cell BK245.out 0).trans rfl
                have hcz23_1 : wc.cell? ⟨gb245, 1, none⟩ = some (.string ((rd_T52 l0 x10_1).f1)) := (blk_cell BK245.out 1).trans rfl
                have hfz23_0 := blk_frozen BK245.out 0
                have hfz23_1 := blk_frozen BK245.out 1
                have p248 : 0 ≤ ((ji17) : Int) := of_decide_eq_true y2_
                have q248 : (ji17) < (l0.length : Int) := of_decide_eq_true y2_
                obtain ⟨ad248, e248, hx248_0, hx248_1⟩ := at_T52 HR0.out (ji17) p248 q248
                obtain rfl : ad244 = ad248 := (by injection e248)
                replace hx248_0 := (HB.out.cell (World.block_lt_of_cell? w _ hx248_0)).trans hx248_0
                replace hx248_1 := (HB.out.cell (World.block_lt_of_cell? w _ hx248_1)).trans hx248_1
                replace p248 := eq_true p248
                replace q248 := eq_true q248
                go_wp2
                repeat (go_quiet (fail); try go_wp2)
                go_ret
                exact ⟨by first | rfl | (simp [errW_none, errW_some] <;> rfl) | (simp only [← hji17]; first | rfl | (simp [errW_none, errW_some] <;> rfl)) | (simp [*, errW_none, errW_some] <;> rfl), y41_⟩
               ·rw [if_neg c22] at H
                have c22b0 : (((rd_T52 l0 x10_1).f0).toList == ((rd_T52 l0 (ji17)).f0).toList) = false := beq_eq_false_iff_ne.mpr c22
                have c22b1 : (((rd_T52 l0 x10_1).f0).toList != ((rd_T52 l0 (ji17)).f0).toList) = true := bne_iff_ne.mpr c22
                have H' := Aside0.mk H
                clear H
                have hcz24_0 : wc.cell? ⟨gb245, 0, none⟩ = some (.string ((rd_T52 l0 x10_1).f0)) := (blk_cell BK245.out 0).trans rfl
                have hcz24_1 : wc.cell? ⟨gb245, 1, none⟩ = some (.string ((rd_T52 l0 x10_1).f1)) := (blk_cell BK245.out 1).trans rfl
                have hfz24_0 := blk_frozen BK245.out 0
                have hfz24_1 := blk_frozen BK245.out 1
                have p248 : 0 ≤ ((ji17) : Int) := of_decide_eq_true y2_
                have q248 : (ji17) < (l0.length : Int) := of_decide_eq_true y2_
                obtain ⟨ad248, e248, hx248_0, hx248_1⟩ := at_T52 HR0.out (ji17) p248 q248
                obtain rfl : ad244 = ad248 := (by injection e248)
                replace hx248_0 := (HB.out.cell (World.block_lt_of_cell? w _ hx248_0)).trans hx248_0
                replace hx248_1 := (HB.out.cell (World.block_lt_of_cell? w _ hx248_1)).trans hx248_1
                replace p248 := eq_true p248
                replace q248 := eq_true q248
                go_wp2
                repeat (go_quiet (fail); try go_wp2)
                go_roundg kj7
                case measure => have := HK1.out; have := HJ7.out; omega
                case rel => exact ⟨(wrap64 (x10_1 + 1)), y7_, H', ⟨by have := HK1.out; have := HJ7.out; omega⟩, ⟨y41_⟩⟩
             ·rw [if_neg c19] at H
              exact absurd H (by simp)
            ·rw [if_neg c18] at H
             exact absurd H (by simp)
           ·rw [if_neg c16] at H
            have c16b0 : decide (0 < x10_1) = false := decide_eq_false c16
            clear c16
            have H' := Aside0.mk H
            clear H
            go_wp2
            repeat (go_quiet (fail); try go_wp2)
            go_roundg kj7
            case measure => have := HK1.out; have := HJ7.out; omega
            case rel => exact ⟨(wrap64 (x10_1 + 1)), y7_, H', ⟨by have := HK1.out; have := HJ7.out; omega⟩, ⟨y41_⟩⟩
       ·replace c7 := Bool.eq_false_iff.mpr c7
        subst c7
        have H1 : (some 50) = some r := by rw [if_neg (show ¬ (false = true) by decide)] at H; exact H
        clear H
        have H := H1
        clear H1
        obtain rfl := Option.some.inj H
        have p244 : 0 ≤ (x10_1 : Int) := of_decide_eq_true y2_
        have q244 : x10_1 < (l0.length : Int) := of_decide_eq_true y2_
        obtain ⟨ad244, e244, hx244_0, hx244_1⟩ := at_T52 HR0.out x10_1 p244 q244
        cases e244
        replace hx244_0 := (HB.out.cell (World.block_lt_of_cell? w _ hx244_0)).trans hx244_0
        replace hx244_1 := (HB.out.cell (World.block_lt_of_cell? w _ hx244_1)).trans hx244_1
        replace p244 := eq_true p244
        replace q244 := eq_true q244
        go_wp2_with (first | ((with_reducible refine gate_dst (N := 4) rfl ?_); refine box_event ?hg (N := 4) ?hd (cs := #[.string (⟨#[]⟩ : ByteArray), .string (⟨#[]⟩ : ByteArray)]) (t := 52) ?hr ?_; (case hd => rfl); (case hg => rfl); (case hr => first | (go_simp; done) | (go_simp; rfl)); intro gb245 hg w25 hbox hb; have n0_ := Aside0.mk (below_step y1_ hb); have n1_ := Aside0.mk (hbox); have n2_ := Aside0.mk ((y12_ : w.heap.size ≤ gb245)); have n3_ := Aside0.mk ((y12_ : w.heap.size ≤ gb245)); clear HB; have HB := n0_; have BK245 := n1_; have GW245 := n2_; have GE245 := n3_; clear n0_ n1_ n2_ n3_; clear hb hbox hg; have hcz26_0 : w25.cell? ⟨gb245, 0, none⟩ = some (.string (⟨#[]⟩ : ByteArray)) := (blk_cell BK245.out 0).trans rfl; have hcz26_1 : w25.cell? ⟨gb245, 1, none⟩ = some (.string (⟨#[]⟩ : ByteArray)) := (blk_cell BK245.out 1).trans rfl; have hfz26_0 := blk_frozen BK245.out 0; have hfz26_1 := blk_frozen BK245.out 1) | (go_at_call 52; (with_reducible refine (manometerref05_Named.calls k1 ((rd_T52 l0 x10_1).f0) false _ A6.out).mono ?_); rintro e w' ⟨rfl, ⟨nd, rfl⟩⟩; (try first | exact ⟨rfl, _, World.drewN_drewN _ _ _⟩ | exact ⟨rfl, _, Eq.trans (World.drewN_drewN _ _ _) (congrArg (World.drewN _) (Nat.add_assoc _ _ _))⟩)))
        repeat (go_quiet (first | ((with_reducible refine gate_dst (N := 4) rfl ?_); refine box_event ?hg (N := 4) ?hd (cs := #[.string (⟨#[]⟩ : ByteArray), .string (⟨#[]⟩ : ByteArray)]) (t := 52) ?hr ?_; (case hd => rfl); (case hg => rfl); (case hr => first | (go_simp; done) | (go_simp; rfl)); intro gb245 hg w25 hbox hb; have n0_ := Aside0.mk (below_step y1_ hb); have n1_ := Aside0.mk (hbox); have n2_ := Aside0.mk ((y12_ : w.heap.size ≤ gb245)); have n3_ := Aside0.mk ((y12_ : w.heap.size ≤ gb245)); clear HB; have HB := n0_; have BK245 := n1_; have GW245 := n2_; have GE245 := n3_; clear n0_ n1_ n2_ n3_; clear hb hbox hg; have hcz26_0 : w25.cell? ⟨gb245, 0, none⟩ = some (.string (⟨#[]⟩ : ByteArray)) := (blk_cell BK245.out 0).trans rfl; have hcz26_1 : w25.cell? ⟨gb245, 1, none⟩ = some (.string (⟨#[]⟩ : ByteArray)) := (blk_cell BK245.out 1).trans rfl; have hfz26_0 := blk_frozen BK245.out 0; have hfz26_1 := blk_frozen BK245.out 1) | (go_at_call 52; (with_reducible refine (manometerref05_Named.calls k1 ((rd_T52 l0 x10_1).f0) false _ A6.out).mono ?_); rintro e w' ⟨rfl, ⟨nd, rfl⟩⟩; (try first | exact ⟨rfl, _, World.drewN_drewN _ _ _⟩ | exact ⟨rfl, _, Eq.trans (World.drewN_drewN _ _ _) (congrArg (World.drewN _) (Nat.add_assoc _ _ _))⟩))); try go_wp2_with (first | ((with_reducible refine gate_dst (N := 4) rfl ?_); refine box_event ?hg (N := 4) ?hd (cs := #[.string (⟨#[]⟩ : ByteArray), .string (⟨#[]⟩ : ByteArray)]) (t := 52) ?hr ?_; (case hd => rfl); (case hg => rfl); (case hr => first | (go_simp; done) | (go_simp; rfl)); intro gb245 hg w25 hbox hb; have n0_ := Aside0.mk (below_step y1_ hb); have n1_ := Aside0.mk (hbox); have n2_ := Aside0.mk ((y12_ : w.heap.size ≤ gb245)); have n3_ := Aside0.mk ((y12_ : w.heap.size ≤ gb245)); clear HB; have HB := n0_; have BK245 := n1_; have GW245 := n2_; have GE245 := n3_; clear n0_ n1_ n2_ n3_; clear hb hbox hg; have hcz26_0 : w25.cell? ⟨gb245, 0, none⟩ = some (.string (⟨#[]⟩ : ByteArray)) := (blk_cell BK245.out 0).trans rfl; have hcz26_1 : w25.cell? ⟨gb245, 1, none⟩ = some (.string (⟨#[]⟩ : ByteArray)) := (blk_cell BK245.out 1).trans rfl; have hfz26_0 := blk_frozen BK245.out 0; have hfz26_1 := blk_frozen BK245.out 1) | (go_at_call 52; (with_reducible refine (manometerref05_Named.calls k1 ((rd_T52 l0 x10_1).f0) false _ A6.out).mono ?_); rintro e w' ⟨rfl, ⟨nd, rfl⟩⟩; (try first | exact ⟨rfl, _, World.drewN_drewN _ _ _⟩ | exact ⟨rfl, _, Eq.trans (World.drewN_drewN _ _ _) (congrArg (World.drewN _) (Nat.add_assoc _ _ _))⟩))))
        go_ret
        exact ⟨y4_, y41_⟩
      ·rw [if_neg c5] at H
       exact absurd H (by simp)
     ·rw [if_neg c4] at H
      exact absurd H (by simp)
    ·rw [if_neg c3] at H
     have c3b0 : decide (x10_1 < (l0.length : Int)) = false := decide_eq_false c3
     clear c3
     obtain rfl := Option.some.inj H
     go_wp2
     repeat (go_quiet (fail); try go_wp2)
     go_ret
     exact ⟨y4_, y1_⟩
def manometerref05_took.f (k : Nat) (l0 : List Int) (a1 : Int) : Option (ByteArray × List Int × Int) := (manometerref01_Uvarint.f k l0).bind fun bt249 => (if bt249.2.2 = 0 then (if bt249.1 > a1 then (some ((⟨#[]⟩ : ByteArray), ([] : List Int), 3)) else (if bt249.1 > (IntKind.u64.wrap (wrap64 ((l0.length : Int) - bt249.2.1))) then (some ((⟨#[]⟩ : ByteArray), ([] : List Int), 6)) else (if 0 ≤ bt249.2.1 then (if bt249.2.1 ≤ (wrap64 (bt249.2.1 + (wrap64 (bt249.1)))) then (if (wrap64 (bt249.2.1 + (wrap64 (bt249.1)))) ≤ (l0.length : Int) then (if 0 ≤ (wrap64 (bt249.2.1 + (wrap64 (bt249.1)))) then (some (strOfNums ((l0.take ((wrap64 (bt249.2.1 + (wrap64 (bt249.1)))) : Int).toNat).drop (bt249.2.1 : Int).toNat), (l0.drop ((wrap64 (bt249.2.1 + (wrap64 (bt249.1)))) : Int).toNat), 0)) else (none)) else (none)) else (none)) else (none)))) else (some ((⟨#[]⟩ : ByteArray), ([] : List Int), bt249.2.2)))
set_option maxHeartbeats 8000000 in
set_option maxRecDepth 100000 in
theorem manometerref05_took.calls (k : Nat) (P0_ : Nat → Prop) (A0 : Option Addr) (c0 : Nat) (l0 : List Int) (a1 : Int) (r1 : ByteArray) (r2 : List Int) (r3 : Int) (w : World) (hs0 : Kd.V (Kd.int .u8) 5 w w.heap.size (fun k_ => P0_ k_) (.slice A0 l0.length c0) l0) (h : manometerref05_took.f k l0 a1 = some (r1, r2, r3)) :
  Calls Tryd.prog 56 #[.slice A0 l0.length c0, .int .u64 a1] w fun e w' => ∃ v1_ : Value, e = .returned (.tuple #[.string r1, v1_, .int .i64 r3]) ∧ Kd.V (Kd.int .u8) 5 w' w.heap.size (fun k_ => (P0_ k_ ∨ w.heap.size ≤ k_)) v1_ r2 ∧ Below w.heap.size w w' := by
 have HO0 := Aside0.mk (show Kd.V (Kd.int .u8) 5 w w.heap.size (fun k_ => (P0_ k_ ∨ w.heap.size ≤ k_)) (.slice A0 l0.length c0) l0 from Kd.V_mono hs0 (fun k_ hk => .inl hk))
 have HB := Aside0.mk (Below.refl w.heap.size w)
 have H : ((manometerref01_Uvarint.f k l0).bind fun bt249 => (if bt249.2.2 = 0 then (if bt249.1 > a1 then (some ((⟨#[]⟩ : ByteArray), ([] : List Int), 3)) else (if bt249.1 > (IntKind.u64.wrap (wrap64 ((l0.length : Int) - bt249.2.1))) then (some ((⟨#[]⟩ : ByteArray), ([] : List Int), 6)) else (if 0 ≤ bt249.2.1 then (if bt249.2.1 ≤ (wrap64 (bt249.2.1 + (wrap64 (bt249.1)))) then (if (wrap64 (bt249.2.1 + (wrap64 (bt249.1)))) ≤ (l0.length : Int) then (if 0 ≤ (wrap64 (bt249.2.1 + (wrap64 (bt249.1)))) then (some (strOfNums ((l0.take ((wrap64 (bt249.2.1 + (wrap64 (bt249.1)))) : Int).toNat).drop (bt249.2.1 : Int).toNat), (l0.drop ((wrap64 (bt249.2.1 + (wrap64 (bt249.1)))) : Int).toNat), 0)) else (none)) else (none)) else (none)) else (none)))) else (some ((⟨#[]⟩ : ByteArray), ([] : List Int), bt249.2.2)))) = some (r1, r2, r3) := h
 clear h
 replace H := Option.bind_eq_some_iff.mp H
 obtain ⟨⟨t249, t250, t251⟩, A30, H⟩ := H
 replace H : (if t251 = 0 then (if t249 > a1 then (some ((⟨#[]⟩ : ByteArray), ([] : List Int), 3)) else (if t249 > (IntKind.u64.wrap (wrap64 ((l0.length : Int) - t250))) then (some ((⟨#[]⟩ : ByteArray), ([] : List Int), 6)) else (if 0 ≤ t250 then (if t250 ≤ (wrap64 (t250 + (wrap64 (t249)))) then (if (wrap64 (t250 + (wrap64 (t249)))) ≤ (l0.length : Int) then (if 0 ≤ (wrap64 (t250 + (wrap64 (t249)))) then (some (strOfNums ((l0.take ((wrap64 (t250 + (wrap64 (t249)))) : Int).toNat).drop (t250 : Int).toNat), (l0.drop ((wrap64 (t250 + (wrap64 (t249)))) : Int).toNat), 0)) else (none)) else (none)) else (none)) else (none)))) else (some ((⟨#[]⟩ : ByteArray), ([] : List Int), t251))) = some (r1, r2, r3) := H
 have A3 := Aside0.mk A30
 clear A30
 by_cases c4 : t251 = 0
 ·rw [if_pos c4] at H
  have c4b0 : (t251 == 0) = true := beq_iff_eq.mpr c4
  have c4b1 : (t251 != 0) = false := bne_eq_false_iff_eq.mpr c4
  clear c4
  by_cases c5 : t249 > a1
  ·rw [if_pos c5] at H
   have c5b0 : decide (a1 < t249) = true := decide_eq_true c5
   clear c5
   simp only [Option.some.injEq, Prod.mk.injEq] at H
   obtain ⟨rfl, rfl, rfl⟩ := H
   go_enter Tryd.func56, Tryd.ntmps56
   go_wp2_with (first | (go_at_call 24; (with_reducible refine (manometerref01_Uvarint.calls k _ _ l0 t249 t250 t251 _ ?side1 ?side2 A3.out).mono ?_); (case side1 => repeat (first | exact (Kd.V_reads' HO0.out).2.2 | (with_reducible refine Kd.C_alloc ?_ _) | (with_reducible refine Kd.C_drewN ?_ _) | (with_reducible refine Kd.C_drew ?_))); (case side2 => exact (Kd.V_reads' HO0.out).2.1); rintro e w' ⟨rfl, ⟨nd, rfl⟩⟩; (try first | exact ⟨rfl, _, World.drewN_drewN _ _ _⟩ | exact ⟨rfl, _, Eq.trans (World.drewN_drewN _ _ _) (congrArg (World.drewN _) (Nat.add_assoc _ _ _))⟩)))
   repeat (go_quiet (first | (go_at_call 24; (with_reducible refine (manometerref01_Uvarint.calls k _ _ l0 t249 t250 t251 _ ?side1 ?side2 A3.out).mono ?_); (case side1 => repeat (first | exact (Kd.V_reads' HO0.out).2.2 | (with_reducible refine Kd.C_alloc ?_ _) | (with_reducible refine Kd.C_drewN ?_ _) | (with_reducible refine Kd.C_drew ?_))); (case side2 => exact (Kd.V_reads' HO0.out).2.1); rintro e w' ⟨rfl, ⟨nd, rfl⟩⟩; (try first | exact ⟨rfl, _, World.drewN_drewN _ _ _⟩ | exact ⟨rfl, _, Eq.trans (World.drewN_drewN _ _ _) (congrArg (World.drewN _) (Nat.add_assoc _ _ _))⟩))); try go_wp2_with (first | (go_at_call 24; (with_reducible refine (manometerref01_Uvarint.calls k _ _ l0 t249 t250 t251 _ ?side1 ?side2 A3.out).mono ?_); (case side1 => repeat (first | exact (Kd.V_reads' HO0.out).2.2 | (with_reducible refine Kd.C_alloc ?_ _) | (with_reducible refine Kd.C_drewN ?_ _) | (with_reducible refine Kd.C_drew ?_))); (case side2 => exact (Kd.V_reads' HO0.out).2.1); rintro e w' ⟨rfl, ⟨nd, rfl⟩⟩; (try first | exact ⟨rfl, _, World.drewN_drewN _ _ _⟩ | exact ⟨rfl, _, Eq.trans (World.drewN_drewN _ _ _) (congrArg (World.drewN _) (Nat.add_assoc _ _ _))⟩))))
   go_ret3
   exact ⟨_, y4_, Kd.V_nil _ _ _ _ _, y1_⟩
  ·rw [if_neg c5] at H
   have c5b0 : decide (a1 < t249) = false := decide_eq_false c5
   clear c5
   by_cases c6 : t249 > (IntKind.u64.wrap (wrap64 ((l0.length : Int) - t250)))
   ·rw [if_pos c6] at H
    have c6b0 : decide ((IntKind.u64.wrap (wrap64 ((l0.length : Int) - t250))) < t249) = true := decide_eq_true c6
    clear c6
    simp only [Option.some.injEq, Prod.mk.injEq] at H
    obtain ⟨rfl, rfl, rfl⟩ := H
    go_enter Tryd.func56, Tryd.ntmps56
    go_wp2_with (first | (go_at_call 24; (with_reducible refine (manometerref01_Uvarint.calls k _ _ l0 t249 t250 t251 _ ?side1 ?side2 A3.out).mono ?_); (case side1 => repeat (first | exact (Kd.V_reads' HO0.out).2.2 | (with_reducible refine Kd.C_alloc ?_ _) | (with_reducible refine Kd.C_drewN ?_ _) | (with_reducible refine Kd.C_drew ?_))); (case side2 => exact (Kd.V_reads' HO0.out).2.1); rintro e w' ⟨rfl, ⟨nd, rfl⟩⟩; (try first | exact ⟨rfl, _, World.drewN_drewN _ _ _⟩ | exact ⟨rfl, _, Eq.trans (World.drewN_drewN _ _ _) (congrArg (World.drewN _) (Nat.add_assoc _ _ _))⟩)))
    repeat (go_quiet (first | (go_at_call 24; (with_reducible refine (manometerref01_Uvarint.calls k _ _ l0 t249 t250 t251 _ ?side1 ?side2 A3.out).mono ?_); (case side1 => repeat (first | exact (Kd.V_reads' HO0.out).2.2 | (with_reducible refine Kd.C_alloc ?_ _) | (with_reducible refine Kd.C_drewN ?_ _) | (with_reducible refine Kd.C_drew ?_))); (case side2 => exact (Kd.V_reads' HO0.out).2.1); rintro e w' ⟨rfl, ⟨nd, rfl⟩⟩; (try first | exact ⟨rfl, _, World.drewN_drewN _ _ _⟩ | exact ⟨rfl, _, Eq.trans (World.drewN_drewN _ _ _) (congrArg (World.drewN _) (Nat.add_assoc _ _ _))⟩))); try go_wp2_with (first | (go_at_call 24; (with_reducible refine (manometerref01_Uvarint.calls k _ _ l0 t249 t250 t251 _ ?side1 ?side2 A3.out).mono ?_); (case side1 => repeat (first | exact (Kd.V_reads' HO0.out).2.2 | (with_reducible refine Kd.C_alloc ?_ _) | (with_reducible refine Kd.C_drewN ?_ _) | (with_reducible refine Kd.C_drew ?_))); (case side2 => exact (Kd.V_reads' HO0.out).2.1); rintro e w' ⟨rfl, ⟨nd, rfl⟩⟩; (try first | exact ⟨rfl, _, World.drewN_drewN _ _ _⟩ | exact ⟨rfl, _, Eq.trans (World.drewN_drewN _ _ _) (congrArg (World.drewN _) (Nat.add_assoc _ _ _))⟩))))
    go_ret3
    exact ⟨_, y4_, Kd.V_nil _ _ _ _ _, y1_⟩
   ·rw [if_neg c6] at H
    have c6b0 : decide ((IntKind.u64.wrap (wrap64 ((l0.length : Int) - t250))) < t249) = false := decide_eq_false c6
    clear c6
    by_cases c7 : 0 ≤ t250
    ·rw [if_pos c7] at H
     have c7b0 := eq_true c7
     have c7b1 : decide (0 ≤ t250) = true := decide_eq_true c7
     clear c7
     by_cases c8 : t250 ≤ (wrap64 (t250 + (wrap64 (t249))))
     ·rw [if_pos c8] at H
      have c8b0 := eq_true c8
      have c8b1 : decide (t250 ≤ (wrap64 (t250 + (wrap64 (t249))))) = true := decide_eq_true c8
      by_cases c9 : (wrap64 (t250 + (wrap64 (t249)))) ≤ (l0.length : Int)
      ·rw [if_pos c9] at H
       have c9b0 := eq_true c9
       have c9b1 : decide ((wrap64 (t250 + (wrap64 (t249)))) ≤ (l0.length : Int)) = true := decide_eq_true c9
       obtain ⟨y252, hy252⟩ : ∃ y_ : List Int, y_ = ((l0.take ((wrap64 (t250 + (wrap64 (t249)))) : Int).toNat).drop (t250 : Int).toNat) := ⟨_, rfl⟩
       replace H : (if 0 ≤ (wrap64 (t250 + (wrap64 (t249)))) then (some (strOfNums y252, (l0.drop ((wrap64 (t250 + (wrap64 (t249)))) : Int).toNat), 0)) else (none)) = some (r1, r2, r3) := by first | (rw [hy252]; with_reducible exact H) | (have H2_ := (Option.bind_some _ _).symm.trans H; rw [hy252]; with_reducible exact H2_) | (have H2_ := (Option.bind_some _ _).symm.trans H; with_reducible exact H2_) | with_reducible exact H | (rw [hy252]; exact H) | exact H
       have Ny252 := Aside0.mk hy252
       clear hy252
       obtain ⟨ji10, hji10⟩ : ∃ j_ : Int, (wrap64 (t250 + (wrap64 (t249)))) = j_ := ⟨_, rfl⟩
       replace H : (if 0 ≤ (ji10) then (some (strOfNums y252, (l0.drop ((ji10) : Int).toNat), 0)) else (none)) = some (r1, r2, r3) := by first | (rw [hji10] at H; exact H) | (simp only [hji10] at H ⊢; exact H)
       (try rw [hji10] at c8b0)
       (try rw [hji10] at c8b1)
       (try rw [hji10] at c8)
       (try rw [hji10] at c9b0)
       (try rw [hji10] at c9b1)
       (try rw [hji10] at c9)
       (try rw [hji10] at A3)
       (try rw [hji10] at Ny252)
       (try rw [hji10] at Ny252)
       have hji10w : (IntKind.i64.wrap (t250 + (wrap64 (t249)))) = ji10 := (i64_w _).trans hji10
       by_cases c11 : 0 ≤ (ji10)
       ·rw [if_pos c11] at H
        have c11b0 := eq_true c11
        have c11b1 : decide (0 ≤ (ji10)) = true := decide_eq_true c11
        clear c11
        have c12b0 := eq_true (of_decide_eq_true y2_ : (ji10) ≤ (l0.length : Int))
        obtain ⟨y257, hy257⟩ : ∃ y_ : List Int, y_ = (l0.drop ((ji10) : Int).toNat) := ⟨_, rfl⟩
        replace H : (some (strOfNums y252, y257, 0)) = some (r1, r2, r3) := by first | (rw [hy257]; with_reducible exact H) | (have H2_ := (Option.bind_some _ _).symm.trans H; rw [hy257]; with_reducible exact H2_) | (have H2_ := (Option.bind_some _ _).symm.trans H; with_reducible exact H2_) | with_reducible exact H | (rw [hy257]; exact H) | exact H
        have Ny257 := Aside0.mk hy257
        clear hy257
        simp only [Option.some.injEq, Prod.mk.injEq] at H
        obtain ⟨rfl, rfl, rfl⟩ := H
        go_enter Tryd.func56, Tryd.ntmps56
        go_wp2_with (first | (go_at_call 24; (with_reducible refine (manometerref01_Uvarint.calls k _ _ l0 t249 t250 t251 _ ?side1 ?side2 A3.out).mono ?_); (case side1 => repeat (first | exact (Kd.V_reads' HO0.out).2.2 | (with_reducible refine Kd.C_alloc ?_ _) | (with_reducible refine Kd.C_drewN ?_ _) | (with_reducible refine Kd.C_drew ?_))); (case side2 => exact (Kd.V_reads' HO0.out).2.1); rintro e w' ⟨rfl, ⟨nd, rfl⟩⟩; (try first | exact ⟨rfl, _, World.drewN_drewN _ _ _⟩ | exact ⟨rfl, _, Eq.trans (World.drewN_drewN _ _ _) (congrArg (World.drewN _) (Nat.add_assoc _ _ _))⟩); have q13 : ((ji10) : Int) ≤ ((l0.length : Int) : Int) := of_decide_eq_true y2_; obtain ⟨i013, hi013, _, hsz13, _⟩ := info_parts info5; have hroom13 : l0.length ≤ c0 := (Kd.V_reads' HO0.out).2.1; have hC13 : Kd.F (Kd.int .u8) _ _ A0 l0.length l0 := (Kd.V_at (base := w.heap.size) HO0.out).2.2; have ql13 : (t250 : Int) ≤ ((ji10) : Int) := of_decide_eq_true y2_; have q013 : (0 : Int) ≤ (t250 : Int) := of_decide_eq_true y2_; have hcut13 := cut_mid (P := Tryd.prog) 22 5 .i64 .i64 Tryd.underlying22 hi013 1 hsz13 A0 l0.length c0 t250 (ji10) q013 ql13 q13 hroom13; have hr13 := Kd.F_mid (lo := (t250 : Int).toNat) (hi := ((ji10) : Int).toNat) (c := c0) hC13 (by omega) (by omega) hroom13; obtain ⟨A13, hA13⟩ : ∃ A1, A1 = (if c0 = (t250 : Int).toNat then A0 else (A0 : Option Addr).map (·.add ((t250 : Int).toNat * 1))) := ⟨_, rfl⟩; obtain ⟨c13, hc13⟩ : ∃ c1, c1 = c0 - (t250 : Int).toNat := ⟨_, rfl⟩; have hy13 : y252.length = ((ji10) : Int).toNat - (t250 : Int).toNat := (by rw [Ny252.out, List.length_drop, List.length_take] <;> omega); rw [show ((l0).take ((ji10) : Int).toNat).drop (t250 : Int).toNat = y252 from Ny252.out.symm] at hr13; replace hr13 : Kd.F (Kd.int .u8) _ _ A13 y252.length y252 := (by rw [hA13]; exact hr13); rw [← hy13, ← hA13, ← hc13] at hcut13; have HO256 := Aside0.mk (show Kd.V (Kd.int .u8) 5 _ w.heap.size _ (.slice A13 y252.length c13) y252 from Kd.V_mk (by rw [hy13, hc13]; exact Nat.sub_le_sub_right (Nat.le_trans (by omega) hroom13) _) hr13); have HC256 := Aside0.mk (show y252.length ≤ c13 from by rw [hy13, hc13]; exact Nat.sub_le_sub_right (Nat.le_trans (by omega) hroom13) _); clear hr13 hC13 hroom13 hi013 hsz13 hc13; have KY13 := Aside0.mk hy13; have KA13 := Aside0.mk hA13; clear hy13 hA13; replace q13 := eq_true q13; have hcv14 := Kd.C_string (P := Tryd.prog) (A := A13) (c := c13) Tryd.underlying22 Tryd.underlying5 Tryd.underlying9 (Kd.V_reads' HO256.out).2.2; have hcv14n := fun m_ : Nat => Kd.C_string (P := Tryd.prog) (A := A13) (c := c13) Tryd.underlying22 Tryd.underlying5 Tryd.underlying9 (Kd.C_drewN ((Kd.V_reads' HO256.out).2.2) m_); (try simp only [List.length_drop, List.length_take] at hcv14n); (try rw [Nat.min_eq_left (by omega)] at hcv14n); have q15 : ((ji10) : Int) ≤ ((l0.length : Int) : Int) := of_decide_eq_true y2_; obtain ⟨i015, hi015, _, hsz15, _⟩ := info_parts info5; have hroom15 : l0.length ≤ c0 := (Kd.V_reads' HO0.out).2.1; have hC15 : Kd.F (Kd.int .u8) _ _ A0 l0.length l0 := (Kd.V_at (base := w.heap.size) HO0.out).2.2; have q015 : (0 : Int) ≤ ((ji10) : Int) := of_decide_eq_true y2_; have hcut15 := cut_from (P := Tryd.prog) 22 5 .i64 Tryd.underlying22 hi015 1 hsz15 A0 l0.length c0 (ji10) q015 q15; have hr15 := Kd.F_cut (m := ((ji10) : Int).toNat) (c := c0) hC15 (by omega) hroom15; obtain ⟨A15, hA15⟩ : ∃ A1, A1 = (if c0 = ((ji10) : Int).toNat then A0 else (A0 : Option Addr).map (·.add (((ji10) : Int).toNat * 1))) := ⟨_, rfl⟩; obtain ⟨c15, hc15⟩ : ∃ c1, c1 = c0 - ((ji10) : Int).toNat := ⟨_, rfl⟩; have hy15 : y257.length = l0.length - ((ji10) : Int).toNat := (by rw [Ny257.out, List.length_drop] <;> omega); rw [show (l0).drop ((ji10) : Int).toNat = y257 from Ny257.out.symm] at hr15; replace hr15 : Kd.F (Kd.int .u8) _ _ A15 y257.length y257 := (by rw [hA15]; exact hr15); rw [← hy15, ← hA15, ← hc15] at hcut15; have HO261 := Aside0.mk (show Kd.V (Kd.int .u8) 5 _ w.heap.size _ (.slice A15 y257.length c15) y257 from Kd.V_mk (by rw [hy15, hc15]; exact Nat.sub_le_sub_right hroom15 _) hr15); have HC261 := Aside0.mk (show y257.length ≤ c15 from by rw [hy15, hc15]; exact Nat.sub_le_sub_right hroom15 _); clear hr15 hC15 hroom15 hi015 hsz15 hc15; have KY15 := Aside0.mk hy15; have KA15 := Aside0.mk hA15; clear hy15 hA15; replace q15 := eq_true q15))
        repeat (go_quiet (first | (go_at_call 24; (with_reducible refine (manometerref01_Uvarint.calls k _ _ l0 t249 t250 t251 _ ?side1 ?side2 A3.out).mono ?_); (case side1 => repeat (first | exact (Kd.V_reads' HO0.out).2.2 | (with_reducible refine Kd.C_alloc ?_ _) | (with_reducible refine Kd.C_drewN ?_ _) | (with_reducible refine Kd.C_drew ?_))); (case side2 => exact (Kd.V_reads' HO0.out).2.1); rintro e w' ⟨rfl, ⟨nd, rfl⟩⟩; (try first | exact ⟨rfl, _, World.drewN_drewN _ _ _⟩ | exact ⟨rfl, _, Eq.trans (World.drewN_drewN _ _ _) (congrArg (World.drewN _) (Nat.add_assoc _ _ _))⟩); have q13 : ((ji10) : Int) ≤ ((l0.length : Int) : Int) := of_decide_eq_true y2_; obtain ⟨i013, hi013, _, hsz13, _⟩ := info_parts info5; have hroom13 : l0.length ≤ c0 := (Kd.V_reads' HO0.out).2.1; have hC13 : Kd.F (Kd.int .u8) _ _ A0 l0.length l0 := (Kd.V_at (base := w.heap.size) HO0.out).2.2; have ql13 : (t250 : Int) ≤ ((ji10) : Int) := of_decide_eq_true y2_; have q013 : (0 : Int) ≤ (t250 : Int) := of_decide_eq_true y2_; have hcut13 := cut_mid (P := Tryd.prog) 22 5 .i64 .i64 Tryd.underlying22 hi013 1 hsz13 A0 l0.length c0 t250 (ji10) q013 ql13 q13 hroom13; have hr13 := Kd.F_mid (lo := (t250 : Int).toNat) (hi := ((ji10) : Int).toNat) (c := c0) hC13 (by omega) (by omega) hroom13; obtain ⟨A13, hA13⟩ : ∃ A1, A1 = (if c0 = (t250 : Int).toNat then A0 else (A0 : Option Addr).map (·.add ((t250 : Int).toNat * 1))) := ⟨_, rfl⟩; obtain ⟨c13, hc13⟩ : ∃ c1, c1 = c0 - (t250 : Int).toNat := ⟨_, rfl⟩; have hy13 : y252.length = ((ji10) : Int).toNat - (t250 : Int).toNat := (by rw [Ny252.out, List.length_drop, List.length_take] <;> omega); rw [show ((l0).take ((ji10) : Int).toNat).drop (t250 : Int).toNat = y252 from Ny252.out.symm] at hr13; replace hr13 : Kd.F (Kd.int .u8) _ _ A13 y252.length y252 := (by rw [hA13]; exact hr13); rw [← hy13, ← hA13, ← hc13] at hcut13; have HO256 := Aside0.mk (show Kd.V (Kd.int .u8) 5 _ w.heap.size _ (.slice A13 y252.length c13) y252 from Kd.V_mk (by rw [hy13, hc13]; exact Nat.sub_le_sub_right (Nat.le_trans (by omega) hroom13) _) hr13); have HC256 := Aside0.mk (show y252.length ≤ c13 from by rw [hy13, hc13]; exact Nat.sub_le_sub_right (Nat.le_trans (by omega) hroom13) _); clear hr13 hC13 hroom13 hi013 hsz13 hc13; have KY13 := Aside0.mk hy13; have KA13 := Aside0.mk hA13; clear hy13 hA13; replace q13 := eq_true q13; have hcv14 := Kd.C_string (P := Tryd.prog) (A := A13) (c := c13) Tryd.underlying22 Tryd.underlying5 Tryd.underlying9 (Kd.V_reads' HO256.out).2.2; have hcv14n := fun m_ : Nat => Kd.C_string (P := Tryd.prog) (A := A13) (c := c13) Tryd.underlying22 Tryd.underlying5 Tryd.underlying9 (Kd.C_drewN ((Kd.V_reads' HO256.out).2.2) m_); (try simp only [List.length_drop, List.length_take] at hcv14n); (try rw [Nat.min_eq_left (by omega)] at hcv14n); have q15 : ((ji10) : Int) ≤ ((l0.length : Int) : Int) := of_decide_eq_true y2_; obtain ⟨i015, hi015, _, hsz15, _⟩ := info_parts info5; have hroom15 : l0.length ≤ c0 := (Kd.V_reads' HO0.out).2.1; have hC15 : Kd.F (Kd.int .u8) _ _ A0 l0.length l0 := (Kd.V_at (base := w.heap.size) HO0.out).2.2; have q015 : (0 : Int) ≤ ((ji10) : Int) := of_decide_eq_true y2_; have hcut15 := cut_from (P := Tryd.prog) 22 5 .i64 Tryd.underlying22 hi015 1 hsz15 A0 l0.length c0 (ji10) q015 q15; have hr15 := Kd.F_cut (m := ((ji10) : Int).toNat) (c := c0) hC15 (by omega) hroom15; obtain ⟨A15, hA15⟩ : ∃ A1, A1 = (if c0 = ((ji10) : Int).toNat then A0 else (A0 : Option Addr).map (·.add (((ji10) : Int).toNat * 1))) := ⟨_, rfl⟩; obtain ⟨c15, hc15⟩ : ∃ c1, c1 = c0 - ((ji10) : Int).toNat := ⟨_, rfl⟩; have hy15 : y257.length = l0.length - ((ji10) : Int).toNat := (by rw [Ny257.out, List.length_drop] <;> omega); rw [show (l0).drop ((ji10) : Int).toNat = y257 from Ny257.out.symm] at hr15; replace hr15 : Kd.F (Kd.int .u8) _ _ A15 y257.length y257 := (by rw [hA15]; exact hr15); rw [← hy15, ← hA15, ← hc15] at hcut15; have HO261 := Aside0.mk (show Kd.V (Kd.int .u8) 5 _ w.heap.size _ (.slice A15 y257.length c15) y257 from Kd.V_mk (by rw [hy15, hc15]; exact Nat.sub_le_sub_right hroom15 _) hr15); have HC261 := Aside0.mk (show y257.length ≤ c15 from by rw [hy15, hc15]; exact Nat.sub_le_sub_right hroom15 _); clear hr15 hC15 hroom15 hi015 hsz15 hc15; have KY15 := Aside0.mk hy15; have KA15 := Aside0.mk hA15; clear hy15 hA15; replace q15 := eq_true q15)); try go_wp2_with (first | (go_at_call 24; (with_reducible refine (manometerref01_Uvarint.calls k _ _ l0 t249 t250 t251 _ ?side1 ?side2 A3.out).mono ?_); (case side1 => repeat (first | exact (Kd.V_reads' HO0.out).2.2 | (with_reducible refine Kd.C_alloc ?_ _) | (with_reducible refine Kd.C_drewN ?_ _) | (with_reducible refine Kd.C_drew ?_))); (case side2 => exact (Kd.V_reads' HO0.out).2.1); rintro e w' ⟨rfl, ⟨nd, rfl⟩⟩; (try first | exact ⟨rfl, _, World.drewN_drewN _ _ _⟩ | exact ⟨rfl, _, Eq.trans (World.drewN_drewN _ _ _) (congrArg (World.drewN _) (Nat.add_assoc _ _ _))⟩); have q13 : ((ji10) : Int) ≤ ((l0.length : Int) : Int) := of_decide_eq_true y2_; obtain ⟨i013, hi013, _, hsz13, _⟩ := info_parts info5; have hroom13 : l0.length ≤ c0 := (Kd.V_reads' HO0.out).2.1; have hC13 : Kd.F (Kd.int .u8) _ _ A0 l0.length l0 := (Kd.V_at (base := w.heap.size) HO0.out).2.2; have ql13 : (t250 : Int) ≤ ((ji10) : Int) := of_decide_eq_true y2_; have q013 : (0 : Int) ≤ (t250 : Int) := of_decide_eq_true y2_; have hcut13 := cut_mid (P := Tryd.prog) 22 5 .i64 .i64 Tryd.underlying22 hi013 1 hsz13 A0 l0.length c0 t250 (ji10) q013 ql13 q13 hroom13; have hr13 := Kd.F_mid (lo := (t250 : Int).toNat) (hi := ((ji10) : Int).toNat) (c := c0) hC13 (by omega) (by omega) hroom13; obtain ⟨A13, hA13⟩ : ∃ A1, A1 = (if c0 = (t250 : Int).toNat then A0 else (A0 : Option Addr).map (·.add ((t250 : Int).toNat * 1))) := ⟨_, rfl⟩; obtain ⟨c13, hc13⟩ : ∃ c1, c1 = c0 - (t250 : Int).toNat := ⟨_, rfl⟩; have hy13 : y252.length = ((ji10) : Int).toNat - (t250 : Int).toNat := (by rw [Ny252.out, List.length_drop, List.length_take] <;> omega); rw [show ((l0).take ((ji10) : Int).toNat).drop (t250 : Int).toNat = y252 from Ny252.out.symm] at hr13; replace hr13 : Kd.F (Kd.int .u8) _ _ A13 y252.length y252 := (by rw [hA13]; exact hr13); rw [← hy13, ← hA13, ← hc13] at hcut13; have HO256 := Aside0.mk (show Kd.V (Kd.int .u8) 5 _ w.heap.size _ (.slice A13 y252.length c13) y252 from Kd.V_mk (by rw [hy13, hc13]; exact Nat.sub_le_sub_right (Nat.le_trans (by omega) hroom13) _) hr13); have HC256 := Aside0.mk (show y252.length ≤ c13 from by rw [hy13, hc13]; exact Nat.sub_le_sub_right (Nat.le_trans (by omega) hroom13) _); clear hr13 hC13 hroom13 hi013 hsz13 hc13; have KY13 := Aside0.mk hy13; have KA13 := Aside0.mk hA13; clear hy13 hA13; replace q13 := eq_true q13; have hcv14 := Kd.C_string (P := Tryd.prog) (A := A13) (c := c13) Tryd.underlying22 Tryd.underlying5 Tryd.underlying9 (Kd.V_reads' HO256.out).2.2; have hcv14n := fun m_ : Nat => Kd.C_string (P := Tryd.prog) (A := A13) (c := c13) Tryd.underlying22 Tryd.underlying5 Tryd.underlying9 (Kd.C_drewN ((Kd.V_reads' HO256.out).2.2) m_); (try simp only [List.length_drop, List.length_take] at hcv14n); (try rw [Nat.min_eq_left (by omega)] at hcv14n); have q15 : ((ji10) : Int) ≤ ((l0.length : Int) : Int) := of_decide_eq_true y2_; obtain ⟨i015, hi015, _, hsz15, _⟩ := info_parts info5; have hroom15 : l0.length ≤ c0 := (Kd.V_reads' HO0.out).2.1; have hC15 : Kd.F (Kd.int .u8) _ _ A0 l0.length l0 := (Kd.V_at (base := w.heap.size) HO0.out).2.2; have q015 : (0 : Int) ≤ ((ji10) : Int) := of_decide_eq_true y2_; have hcut15 := cut_from (P := Tryd.prog) 22 5 .i64 Tryd.underlying22 hi015 1 hsz15 A0 l0.length c0 (ji10) q015 q15; have hr15 := Kd.F_cut (m := ((ji10) : Int).toNat) (c := c0) hC15 (by omega) hroom15; obtain ⟨A15, hA15⟩ : ∃ A1, A1 = (if c0 = ((ji10) : Int).toNat then A0 else (A0 : Option Addr).map (·.add (((ji10) : Int).toNat * 1))) := ⟨_, rfl⟩; obtain ⟨c15, hc15⟩ : ∃ c1, c1 = c0 - ((ji10) : Int).toNat := ⟨_, rfl⟩; have hy15 : y257.length = l0.length - ((ji10) : Int).toNat := (by rw [Ny257.out, List.length_drop] <;> omega); rw [show (l0).drop ((ji10) : Int).toNat = y257 from Ny257.out.symm] at hr15; replace hr15 : Kd.F (Kd.int .u8) _ _ A15 y257.length y257 := (by rw [hA15]; exact hr15); rw [← hy15, ← hA15, ← hc15] at hcut15; have HO261 := Aside0.mk (show Kd.V (Kd.int .u8) 5 _ w.heap.size _ (.slice A15 y257.length c15) y257 from Kd.V_mk (by rw [hy15, hc15]; exact Nat.sub_le_sub_right hroom15 _) hr15); have HC261 := Aside0.mk (show y257.length ≤ c15 from by rw [hy15, hc15]; exact Nat.sub_le_sub_right hroom15 _); clear hr15 hC15 hroom15 hi015 hsz15 hc15; have KY15 := Aside0.mk hy15; have KA15 := Aside0.mk hA15; clear hy15 hA15; replace q15 := eq_true q15)))
        go_ret3
        exact ⟨_, by first | rfl | (simp [errW_none, errW_some] <;> rfl) | (simp only [← hji10]; first | rfl | (simp [errW_none, errW_some] <;> rfl)) | (simp [*, errW_none, errW_some] <;> rfl), by (with_reducible repeat (first | apply Kd.V_alloc | apply Kd.V_drewN | apply Kd.V_drew)); exact HO261.out, y1_⟩
       ·rw [if_neg c11] at H
        exact absurd H (by simp)
      ·rw [if_neg c9] at H
       exact absurd H (by simp)
     ·rw [if_neg c8] at H
      exact absurd H (by simp)
    ·rw [if_neg c7] at H
     exact absurd H (by simp)
 ·rw [if_neg c4] at H
  have c4b0 : (t251 == 0) = false := beq_eq_false_iff_ne.mpr c4
  have c4b1 : (t251 != 0) = true := bne_iff_ne.mpr c4
  simp only [Option.some.injEq, Prod.mk.injEq] at H
  obtain ⟨rfl, rfl, rfl⟩ := H
  go_enter Tryd.func56, Tryd.ntmps56
  go_wp2_with (first | (go_at_call 24; (with_reducible refine (manometerref01_Uvarint.calls k _ _ l0 t249 t250 t251 _ ?side1 ?side2 A3.out).mono ?_); (case side1 => repeat (first | exact (Kd.V_reads' HO0.out).2.2 | (with_reducible refine Kd.C_alloc ?_ _) | (with_reducible refine Kd.C_drewN ?_ _) | (with_reducible refine Kd.C_drew ?_))); (case side2 => exact (Kd.V_reads' HO0.out).2.1); rintro e w' ⟨rfl, ⟨nd, rfl⟩⟩; (try first | exact ⟨rfl, _, World.drewN_drewN _ _ _⟩ | exact ⟨rfl, _, Eq.trans (World.drewN_drewN _ _ _) (congrArg (World.drewN _) (Nat.add_assoc _ _ _))⟩)))
  repeat (go_quiet (first | (go_at_call 24; (with_reducible refine (manometerref01_Uvarint.calls k _ _ l0 t249 t250 t251 _ ?side1 ?side2 A3.out).mono ?_); (case side1 => repeat (first | exact (Kd.V_reads' HO0.out).2.2 | (with_reducible refine Kd.C_alloc ?_ _) | (with_reducible refine Kd.C_drewN ?_ _) | (with_reducible refine Kd.C_drew ?_))); (case side2 => exact (Kd.V_reads' HO0.out).2.1); rintro e w' ⟨rfl, ⟨nd, rfl⟩⟩; (try first | exact ⟨rfl, _, World.drewN_drewN _ _ _⟩ | exact ⟨rfl, _, Eq.trans (World.drewN_drewN _ _ _) (congrArg (World.drewN _) (Nat.add_assoc _ _ _))⟩))); try go_wp2_with (first | (go_at_call 24; (with_reducible refine (manometerref01_Uvarint.calls k _ _ l0 t249 t250 t251 _ ?side1 ?side2 A3.out).mono ?_); (case side1 => repeat (first | exact (Kd.V_reads' HO0.out).2.2 | (with_reducible refine Kd.C_alloc ?_ _) | (with_reducible refine Kd.C_drewN ?_ _) | (with_reducible refine Kd.C_drew ?_))); (case side2 => exact (Kd.V_reads' HO0.out).2.1); rintro e w' ⟨rfl, ⟨nd, rfl⟩⟩; (try first | exact ⟨rfl, _, World.drewN_drewN _ _ _⟩ | exact ⟨rfl, _, Eq.trans (World.drewN_drewN _ _ _) (congrArg (World.drewN _) (Nat.add_assoc _ _ _))⟩))))
  go_ret3
  exact ⟨_, y4_, Kd.V_nil _ _ _ _ _, y1_⟩
def manometerref05_Take.l0 : Nat → List Int → List (S52) → List Int → Int → Int → Option ((List (S52)) × Int × Int)
 | 0, _, _, _, _, _ => none
 | k + 1, x0, x8, x9, x28, x29 => if x29 < x28 then ((manometerref05_took.f k x9 64).bind fun bt275 => (if bt275.2.2 = 0 then ((manometerref05_took.f k bt275.2.1 128).bind fun bt280 => (if bt280.2.2 = 0 then (if x8.length < 4398046511104 then (manometerref05_Take.l0 k x0 (x8 ++ [(⟨bt275.1, bt280.1⟩ : S52)]) bt280.2.1 x28 (wrap64 (x29 + 1))) else (none)) else (some (([] : List (S52)), 0, bt280.2.2)))) else (some (([] : List (S52)), 0, bt275.2.2)))) else ((manometerref05_Right.f k x8).bind fun t273 => (if t273 = 0 then (some (x8, wrap64 ((x0.length : Int) - (x9.length : Int)), 0)) else (some (([] : List (S52)), 0, t273))))
def manometerref05_Take.f (k : Nat) (l0 : List Int) : Option ((List (S52)) × Int × Int) := (manometerref01_Uvarint.f k l0).bind fun bt262 => (if bt262.2.2 = 0 then (if bt262.1 > 16 then (some (([] : List (S52)), 0, 3)) else (if 0 ≤ bt262.2.1 then (if bt262.2.1 ≤ (l0.length : Int) then (manometerref05_Take.l0 k l0 (([] : List (S52))) (l0.drop (bt262.2.1 : Int).toNat) (wrap64 (bt262.1)) 0) else (none)) else (none))) else (some (([] : List (S52)), 0, bt262.2.2)))
set_option maxHeartbeats 8000000 in
set_option maxRecDepth 100000 in
theorem manometerref05_Take.calls (k : Nat) (P0_ : Nat → Prop) (A0 : Option Addr) (c0 : Nat) (l0 : List Int) (r1 : List (S52)) (r2 : Int) (r3 : Int) (w : World) (hs0 : Kd.V (Kd.int .u8) 5 w w.heap.size (fun k_ => P0_ k_) (.slice A0 l0.length c0) l0) (h : manometerref05_Take.f k l0 = some (r1, r2, r3)) :
  Calls Tryd.prog 42 #[.slice A0 l0.length c0] w fun e w' => ∃ v0_ : Value, e = .returned (.tuple #[v0_, .int .i64 r2, .int .i64 r3]) ∧ Kd.R k52 52 w' w.heap.size (fun k_ => (w.heap.size ≤ k_)) v0_ r1 ∧ Below w.heap.size w w' := by
 have hu52 := Tryd.underlying52
 have HO0 := Aside0.mk (show Kd.V (Kd.int .u8) 5 w w.heap.size (fun k_ => (P0_ k_ ∨ w.heap.size ≤ k_)) (.slice A0 l0.length c0) l0 from Kd.V_mono hs0 (fun k_ hk => .inl hk))
 have HB := Aside0.mk (Below.refl w.heap.size w)
 have H : ((manometerref01_Uvarint.f k l0).bind fun bt262 => (if bt262.2.2 = 0 then (if bt262.1 > 16 then (some (([] : List (S52)), 0, 3)) else (if 0 ≤ bt262.2.1 then (if bt262.2.1 ≤ (l0.length : Int) then (manometerref05_Take.l0 k l0 (([] : List (S52))) (l0.drop (bt262.2.1 : Int).toNat) (wrap64 (bt262.1)) 0) else (none)) else (none))) else (some (([] : List (S52)), 0, bt262.2.2)))) = some (r1, r2, r3) := h
 clear h
 replace H := Option.bind_eq_some_iff.mp H
 obtain ⟨⟨t262, t263, t264⟩, A20, H⟩ := H
 replace H : (if t264 = 0 then (if t262 > 16 then (some (([] : List (S52)), 0, 3)) else (if 0 ≤ t263 then (if t263 ≤ (l0.length : Int) then (manometerref05_Take.l0 k l0 (([] : List (S52))) (l0.drop (t263 : Int).toNat) (wrap64 (t262)) 0) else (none)) else (none))) else (some (([] : List (S52)), 0, t264))) = some (r1, r2, r3) := H
 have A2 := Aside0.mk A20
 clear A20
 by_cases c3 : t264 = 0
 ·rw [if_pos c3] at H
  have c3b0 : (t264 == 0) = true := beq_iff_eq.mpr c3
  have c3b1 : (t264 != 0) = false := bne_eq_false_iff_eq.mpr c3
  clear c3
  by_cases c4 : t262 > 16
  ·rw [if_pos c4] at H
   have c4b0 : decide (16 < t262) = true := decide_eq_true c4
   clear c4
   simp only [Option.some.injEq, Prod.mk.injEq] at H
   obtain ⟨rfl, rfl, rfl⟩ := H
   go_enter Tryd.func42, Tryd.ntmps42
   go_wp2_with (first | ((with_reducible refine gate_callee (f := 24) rfl ?_); refine goesL_ (some 14) rfl rfl Tryd.func24 (by kernel_rfl) rfl #[.slice A0 l0.length c0] rfl y3_ ?_; (with_reducible refine (manometerref01_Uvarint.calls k _ _ l0 t262 t263 t264 _ ?side1 ?side2 A2.out).mono ?_); (case side1 => repeat (first | exact (Kd.V_reads' HO0.out).2.2 | (with_reducible refine Kd.C_alloc ?_ _) | (with_reducible refine Kd.C_drewN ?_ _) | (with_reducible refine Kd.C_drew ?_))); (case side2 => exact (Kd.V_reads' HO0.out).2.1); rintro e w' ⟨rfl, ⟨nd, rfl⟩⟩; refine ⟨_, rfl, ?_⟩))
   go_ret3
   exact ⟨_, y4_, y6_, y1_⟩
  ·rw [if_neg c4] at H
   have c4b0 : decide (16 < t262) = false := decide_eq_false c4
   clear c4
   obtain ⟨y265, hy265⟩ : ∃ y_ : List (S52), y_ = (([] : List (S52))) := ⟨_, rfl⟩
   replace H : (if 0 ≤ t263 then (if t263 ≤ (l0.length : Int) then (manometerref05_Take.l0 k l0 y265 (l0.drop (t263 : Int).toNat) (wrap64 (t262)) 0) else (none)) else (none)) = some (r1, r2, r3) := by first | (rw [hy265]; with_reducible exact H) | (have H2_ := (Option.bind_some _ _).symm.trans H; rw [hy265]; with_reducible exact H2_) | (have H2_ := (Option.bind_some _ _).symm.trans H; with_reducible exact H2_) | with_reducible exact H | (rw [hy265]; exact H) | exact H
   have Ny265 := Aside0.mk hy265
   clear hy265
   by_cases c5 : 0 ≤ t263
   ·rw [if_pos c5] at H
    have c5b0 := eq_true c5
    have c5b1 : decide (0 ≤ t263) = true := decide_eq_true c5
    clear c5
    by_cases c6 : t263 ≤ (l0.length : Int)
    ·rw [if_pos c6] at H
     have c6b0 := eq_true c6
     have c6b1 : decide (t263 ≤ (l0.length : Int)) = true := decide_eq_true c6
     clear c6
     obtain ⟨y268, hy268⟩ : ∃ y_ : List Int, y_ = (l0.drop (t263 : Int).toNat) := ⟨_, rfl⟩
     replace H : (manometerref05_Take.l0 k l0 y265 y268 (wrap64 (t262)) 0) = some (r1, r2, r3) := by first | (rw [hy268]; with_reducible exact H) | (have H2_ := (Option.bind_some _ _).symm.trans H; rw [hy268]; with_reducible exact H2_) | (have H2_ := (Option.bind_some _ _).symm.trans H; with_reducible exact H2_) | with_reducible exact H | (rw [hy268]; exact H) | exact H
     have Ny268 := Aside0.mk hy268
     clear hy268
     have H' := Aside0.mk H
     clear H
     go_enter Tryd.func42, Tryd.ntmps42
     try go_wp2_with (first | ((with_reducible refine gate_callee (f := 24) rfl ?_); refine goesL_ (some 14) rfl rfl Tryd.func24 (by kernel_rfl) rfl #[.slice A0 l0.length c0] rfl y3_ ?_; (with_reducible refine (manometerref01_Uvarint.calls k _ _ l0 t262 t263 t264 _ ?side1 ?side2 A2.out).mono ?_); (case side1 => repeat (first | exact (Kd.V_reads' HO0.out).2.2 | (with_reducible refine Kd.C_alloc ?_ _) | (with_reducible refine Kd.C_drewN ?_ _) | (with_reducible refine Kd.C_drew ?_))); (case side2 => exact (Kd.V_reads' HO0.out).2.1); rintro e w' ⟨rfl, ⟨nd, rfl⟩⟩; refine ⟨_, rfl, ?_⟩))
     have n0_ := Aside0.mk (Kd.V_drew (Kd.V_drewN HO0.out nd))
     have n1_ := Aside0.mk (below_drew1 (pw_below_drewN HB.out nd))
     clear HO0
     clear HB
     have HO0 := n0_
     have HB := n1_
     clear n0_ n1_
     have q8 : (t263 : Int) ≤ ((l0.length : Int) : Int) := of_decide_eq_true y2_
     obtain ⟨i08, hi08, _, hsz8, _⟩ := info_parts info5
     have hroom8 : l0.length ≤ c0 := (Kd.V_reads' HO0.out).2.1
     have hC8 : Kd.F (Kd.int .u8) _ _ A0 l0.length l0 := (Kd.V_at (base := w.heap.size) HO0.out).2.2
     have q08 : (0 : Int) ≤ (t263 : Int) := of_decide_eq_true y2_
     have hcut8 := cut_from (P := Tryd.prog) 22 5 .i64 Tryd.underlying22 hi08 1 hsz8 A0 l0.length c0 t263 q08 q8
     have hr8 := Kd.F_cut (m := (t263 : Int).toNat) (c := c0) hC8 (by omega) hroom8
     obtain ⟨A8, hA8⟩ : ∃ A1, A1 = (if c0 = (t263 : Int).toNat then A0 else (A0 : Option Addr).map (·.add ((t263 : Int).toNat * 1))) := ⟨_, rfl⟩
     obtain ⟨c8, hc8⟩ : ∃ c1, c1 = c0 - (t263 : Int).toNat := ⟨_, rfl⟩
     have hy8 : y268.length = l0.length - (t263 : Int).toNat := (by rw [Ny268.out, List.length_drop] <;> omega)
     rw [show (l0).drop (t263 : Int).toNat = y268 from Ny268.out.symm] at hr8
     replace hr8 : Kd.F (Kd.int .u8) _ _ A8 y268.length y268 := (by rw [hA8]; exact hr8)
     rw [← hy8, ← hA8, ← hc8] at hcut8
     have HO272 := Aside0.mk (show Kd.V (Kd.int .u8) 5 _ w.heap.size _ (.slice A8 y268.length c8) y268 from Kd.V_mk (by rw [hy8, hc8]; exact Nat.sub_le_sub_right hroom8 _) hr8)
     have HC272 := Aside0.mk (show y268.length ≤ c8 from by rw [hy8, hc8]; exact Nat.sub_le_sub_right hroom8 _)
     clear hr8 hC8 hroom8 hi08 hsz8 hc8
     have KY8 := Aside0.mk hy8
     have KA8 := Aside0.mk hA8
     clear hy8 hA8
     replace q8 := eq_true q8
     refine start_ (n := 6) (S := fun w' => True) (ds := []) #[false, false, false, false, false, false] (by kernel_rfl) rfl rfl trivial (fun hHeld => ?_)
     generalize (w.drewN nd).drew = w7 at HO0 HB HO272 hHeld ⊢
     refine pure_ (i := 1) (N := some 24) (v := ?_) (a' := ?_) #[false, true, false, false, false, false] rfl rfl (by kernel_rfl) (fun _ _ _ h => h) (Or.inl ⟨by rfl, ?_⟩) ?_ ?_
     rotate_left
     ·intro w'
      go_simp
      with_reducible rfl
     rotate_left
     ·simp only [Act.put, List.setIfInBounds_toArray, List.set_cons_zero, List.set_cons_succ, i64_w, i32_w]
      rfl
     refine pure_ (i := 2) (N := some 25) (v := ?_) (a' := ?_) #[false, true, true, false, false, false] rfl rfl (by kernel_rfl) (fun _ _ _ h => h) (Or.inl ⟨by rfl, ?_⟩) ?_ ?_
     rotate_left
     ·intro w'
      go_simp
      with_reducible rfl
     rotate_left
     ·simp only [Act.put, List.setIfInBounds_toArray, List.set_cons_zero, List.set_cons_succ, i64_w, i32_w]
      rfl
     refine pure_ (i := 3) (N := some 26) (v := ?_) (a' := ?_) #[false, true, true, true, false, false] rfl rfl (by kernel_rfl) (fun _ _ _ h => h) (Or.inl ⟨by rfl, ?_⟩) ?_ ?_
     rotate_left
     ·intro w'
      go_simp
      with_reducible rfl
     rotate_left
     ·simp only [Act.put, List.setIfInBounds_toArray, List.set_cons_zero, List.set_cons_succ, i64_w, i32_w]
      rfl
     refine one_ (i := 0) (N := some 23) #[true, true, true, true, false, false] rfl rfl (by kernel_rfl) (by decide) (fun K hK => ?_)
     refine Kd.R_lit_step k52 _ 52 ?hg (N := 23) ?hd (xs := ([] : List (S52))) (inner := []) (ok := fun _ => True) (okp := fun _ => True) ?hr ?hp (fun _ hk => hk) trivial (Below.refl _ _) (Nat.le_refl _) (by simp) ?_; (case hd => rfl); (case hg => rfl); (case hr => first | (go_simp; done) | (go_simp; rfl)); (case hp => exact (Reps.none _ _))
     intro v266 w9 ho10 hb hg_ hnew_
     clear hg_ hnew_
     (first | rw [← Ny265.out] at ho10 | (simp only [Int.reduceToNat] at ho10; rw [← Ny265.out] at ho10))
     have n0_ := Aside0.mk (Kd.V_elder' y32_ (Kd.R_base ho10) hb)
     have n1_ := Aside0.mk (Kd.V_elder' (by (with_reducible repeat (first | apply Kd.V_alloc | apply Kd.V_drewN | apply Kd.V_drew)); exact HO272.out) (Kd.R_base ho10) hb)
     have n2_ := Aside0.mk (Kd.R_lower (Kd.R_newM (M := fun k_ => (w.heap.size ≤ k_)) ho10 (below_size y1_) (fun k_ h_ => h_)) (below_size y1_))
     have n3_ := Aside0.mk (below_step y1_ hb)
     clear HO0
     clear HO272
     clear HB
     have HO0 := n0_
     have HO272 := n1_
     have HO267 := n2_
     have HB := n3_
     clear n0_ n1_ n2_ n3_
     clear hb ho10
     refine hK.out _ _ trivial (fun hHeld => ?_)
     clear hK K
     refine norm_ (a' := ?_) ?_ ?_
     rotate_left
     ·show Act.put _ (some 23) _ = _
      simp only [Act.put, List.setIfInBounds_toArray, List.set_cons_zero, List.set_cons_succ, i64_w, i32_w]
      rfl
     refine pure_ (i := 4) (N := some 8) (v := ?_) (a' := ?_) #[true, true, true, true, true, false] rfl rfl (by kernel_rfl) (fun _ _ _ h => h) (Or.inl ⟨by rfl, ?_⟩) ?_ ?_
     rotate_left
     ·intro w'
      go_simp
      with_reducible rfl
     rotate_left
     ·simp only [Act.put, List.setIfInBounds_toArray, List.set_cons_zero, List.set_cons_succ, i64_w, i32_w]
      rfl
     refine pure_ (i := 5) (N := some 9) (v := ?_) (a' := ?_) #[true, true, true, true, true, true] rfl rfl (by kernel_rfl) (fun _ _ _ h => h) (Or.inl ⟨by rfl, ?_⟩) ?_ ?_
     rotate_left
     ·intro w'
      go_simp
      with_reducible rfl
     rotate_left
     ·simp only [Act.put, List.setIfInBounds_toArray, List.set_cons_zero, List.set_cons_succ, i64_w, i32_w]
      rfl
     refine done_ (by kernel_rfl) ?_
     try go_wp2
     go_loopg [8, 9, 29] k (fun kq v8 v9 v29 w' => ∃ (x8_1 : List (S52)) (x9_1 : List Int) (x29_1 : Int), v29 = .int .i64 x29_1 ∧ Aside0 (manometerref05_Take.l0 kq l0 x8_1 x9_1 (wrap64 (t262)) x29_1 = some (r1, r2, r3)) ∧ Aside0 (kq ≤ k) ∧ Aside0 (Kd.V (Kd.int .u8) 5 w' w.heap.size (fun k_ => (P0_ k_ ∨ w.heap.size ≤ k_) ∧ some k_ ≠ (v8 : Value).ownBlock) (.slice A0 l0.length c0) l0) ∧ Aside0 (Kd.R k52 52 w' w.heap.size (fun k_ => (w.heap.size ≤ k_)) v8 x8_1) ∧ Aside0 (Kd.V (Kd.int .u8) 5 w' w.heap.size (fun k_ => (P0_ k_ ∨ w.heap.size ≤ k_) ∧ some k_ ≠ (v8 : Value).ownBlock) v9 x9_1) ∧ Aside0 (Below w.heap.size w w'))
     case atStart => exact ⟨(y265), (y268), (0), y7_, H', ⟨Nat.le_refl _⟩, ⟨y32_⟩, ⟨by (with_reducible repeat (first | apply Kd.R_alloc | apply Kd.R_drewN | apply Kd.R_drew)); exact Kd.R_mono HO267.out (fun _ hk => hk.1)⟩, ⟨by (with_reducible repeat (first | apply Kd.V_alloc | apply Kd.V_drewN | apply Kd.V_drew)); exact HO272.out⟩, ⟨y1_⟩⟩
     case round =>
      clear H'
      try clear c1
      try clear c2
      try clear p2
      try clear c3
      try clear c3b0
      try clear c3b1
      try clear c4
      try clear c4b0
      try clear c5
      try clear c5b0
      try clear c5b1
      try clear c6
      try clear c6b0
      try clear c6b1
      try clear p6
      try clear c8
      try clear q8
      try clear q08
      try clear q8
      obtain ⟨x8_1, x9_1, x29_1, rfl, HA, HK1, HO_0, HO_8, HO_9, HB⟩ := hrel
      cases gk with
      | zero => exact absurd HA.out (by simp [manometerref05_Take.l0])
      | succ k1 =>
       have H := HA.out
       clear HA
       simp only [manometerref05_Take.l0] at H
       by_cases c11 : x29_1 < (wrap64 (t262))
       ·rw [if_pos c11] at H
        have c11b0 : decide (x29_1 < (wrap64 (t262))) = true := decide_eq_true c11
        clear c11
        replace H := Option.bind_eq_some_iff.mp H
        obtain ⟨⟨t275, t276, t279⟩, A120, H⟩ := H
        replace H : (if t279 = 0 then ((manometerref05_took.f k1 t276 128).bind fun bt280 => (if bt280.2.2 = 0 then (if x8_1.length < 4398046511104 then (manometerref05_Take.l0 k1 l0 (x8_1 ++ [(⟨t275, bt280.1⟩ : S52)]) bt280.2.1 (wrap64 (t262)) (wrap64 (x29_1 + 1))) else (none)) else (some (([] : List (S52)), 0, bt280.2.2)))) else (some (([] : List (S52)), 0, t279))) = some (r1, r2, r3) := H
        have A12 := Aside0.mk A120
        clear A120
        by_cases c13 : t279 = 0
        ·rw [if_pos c13] at H
         have c13b0 : (t279 == 0) = true := beq_iff_eq.mpr c13
         have c13b1 : (t279 != 0) = false := bne_eq_false_iff_eq.mpr c13
         clear c13
         replace H := Option.bind_eq_some_iff.mp H
         obtain ⟨⟨t280, t281, t284⟩, A140, H⟩ := H
         replace H : (if t284 = 0 then (if x8_1.length < 4398046511104 then (manometerref05_Take.l0 k1 l0 (x8_1 ++ [(⟨t275, t280⟩ : S52)]) t281 (wrap64 (t262)) (wrap64 (x29_1 + 1))) else (none)) else (some (([] : List (S52)), 0, t284))) = some (r1, r2, r3) := H
         have A14 := Aside0.mk A140
         clear A140
         by_cases c15 : t284 = 0
         ·rw [if_pos c15] at H
          have c15b0 : (t284 == 0) = true := beq_iff_eq.mpr c15
          have c15b1 : (t284 != 0) = false := bne_eq_false_iff_eq.mpr c15
          clear c15
          by_cases c16 : x8_1.length < 4398046511104
          ·rw [if_pos c16] at H
           have LMc16 := Aside0.mk c16
           clear c16
           obtain ⟨y285, hy285⟩ : ∃ y_ : List (S52), y_ = (x8_1 ++ [(⟨t275, t280⟩ : S52)]) := ⟨_, rfl⟩
           replace H : (manometerref05_Take.l0 k1 l0 y285 t281 (wrap64 (t262)) (wrap64 (x29_1 + 1))) = some (r1, r2, r3) := by first | (rw [hy285]; with_reducible exact H) | (have H2_ := (Option.bind_some _ _).symm.trans H; rw [hy285]; with_reducible exact H2_) | (have H2_ := (Option.bind_some _ _).symm.trans H; with_reducible exact H2_) | with_reducible exact H | (rw [hy285]; exact H) | exact H
           have Ny285 := Aside0.mk hy285
           clear hy285
           have H' := Aside0.mk H
           clear H
           go_wp2_with (first | ((with_reducible refine gate_dst (N := 10) rfl ?_); refine box_event ?hg (N := 10) ?hd (cs := #[.string (⟨#[]⟩ : ByteArray), .string (⟨#[]⟩ : ByteArray)]) (t := 52) ?hr ?_; (case hd => rfl); (case hg => rfl); (case hr => first | (go_simp; done) | (go_simp; rfl)); intro gb274 hg w17 hbox hb; have n0_ := Aside0.mk (Kd.V_below (Kd.V_elderB y28_ gb274 (Nat.le_of_eq hg.symm)) hb); have n1_ := Aside0.mk (Kd.R_below (Kd.R_elderB y18_ gb274 (Nat.le_of_eq hg.symm)) hb); have n2_ := Aside0.mk (Kd.V_below (Kd.V_elderB y48_ gb274 (Nat.le_of_eq hg.symm)) hb); have n3_ := Aside0.mk (below_step y1_ hb); have n4_ := Aside0.mk (hbox); have n5_ := Aside0.mk ((y12_ : w.heap.size ≤ gb274)); have n6_ := Aside0.mk ((y12_ : w.heap.size ≤ gb274)); clear HO_0; clear HO_8; clear HO_9; clear HB; have HO_0 := n0_; have HO_8 := n1_; have HO_9 := n2_; have HB := n3_; have BK274 := n4_; have GW274 := n5_; have GE274 := n6_; clear n0_ n1_ n2_ n3_ n4_ n5_ n6_; clear hb hbox hg; obtain ⟨Ao18, co18, eo18⟩ := Kd.V_slice HO_9.out; subst eo18) | ((with_reducible refine gate_callee (f := 56) rfl ?_); refine goesL_ (some 33) rfl rfl Tryd.func56 (by kernel_rfl) rfl #[.slice Ao18 x9_1.length co18, .int .u64 64] rfl y3_ ?_; (with_reducible refine (manometerref05_took.calls k1 (fun k_ => (((P0_ k_ ∨ w.heap.size ≤ k_) ∧ some k_ ≠ (u8 : Value).ownBlock) ∧ k_ ≠ gb274)) _ _ x9_1 64 t275 t276 t279 _ ?side1 A12.out).mono ?_); (case side1 => exact HO_9.out); rintro e w19 ⟨v277, rfl, ho0, hb⟩; refine ⟨_, rfl, ?_⟩; have n0_ := Aside0.mk (Kd.V_below y28_ hb); have n1_ := Aside0.mk (Kd.R_below y18_ hb); have n2_ := Aside0.mk (Kd.V_below y48_ hb); have n3_ := Aside0.mk (Kd.V_lower (Kd.V_mono (ok' := fun k_ => (P0_ k_ ∨ w.heap.size ≤ k_) ∧ some k_ ≠ (u8 : Value).ownBlock ∧ k_ ≠ gb274) ho0 (fun k_ hk_ => ⟨Or.elim hk_ (fun hs_ => hs_.1.1) (fun hn_ => (.inr (Nat.le_trans (below_size y13_) hn_))), Or.elim hk_ (fun hs_ => hs_.1.2) (fun hn_ => (Kd.fresh' (Kd.R_lt y18_) k_ hn_)), Or.elim hk_ (fun hs_ => hs_.2) (fun hn_ => (Kd.freshB (g := gb274) (o := .cells #[.string (⟨#[]⟩ : ByteArray), .string (⟨#[]⟩ : ByteArray)] 52 (0, 0)) y43_ k_ hn_))⟩)) (below_size y13_)); have n4_ := Aside0.mk (blk_below (g := gb274) (o := .cells #[.string (⟨#[]⟩ : ByteArray), .string (⟨#[]⟩ : ByteArray)] 52 (0, 0)) y43_ hb); have n5_ := Aside0.mk (below_step y13_ hb); clear HO_0; clear HO_8; clear HO_9; clear BK274; clear HB; have HO_0 := n0_; have HO_8 := n1_; have HO_9 := n2_; have HO278 := n3_; have BK274 := n4_; have HB := n5_; clear n0_ n1_ n2_ n3_ n4_ n5_; (try clear hb); (try clear hb2); (try clear hk); (try clear hi); (try clear ho0); have hcz20_0 : w19.cell? ⟨gb274, 0, none⟩ = some (.string (⟨#[]⟩ : ByteArray)) := (blk_cell BK274.out 0).trans rfl; have hcz20_1 : w19.cell? ⟨gb274, 1, none⟩ = some (.string (⟨#[]⟩ : ByteArray)) := (blk_cell BK274.out 1).trans rfl; have hfz20_0 := blk_frozen BK274.out 0; have hfz20_1 := blk_frozen BK274.out 1) | ((with_reducible refine gate_store (t := 9) (p := 37) rfl ?_); refine store_event (t := 9) (p := 37) (v := ?vo_w21) (w1 := (w19.setCell ⟨gb274, 0, none⟩ (.string t275))) ?hg ?ho ?hn ?hr ?_; (case ho => rfl); (case hg => rfl); (case hn => rfl); (case hr => first | (go_simp; done) | (go_simp; rfl)); intro w21 hw; have n0_ : Aside0 (Kd.V (Kd.int .u8) 5 w21 w.heap.size (fun k_ => (P0_ k_ ∨ w.heap.size ≤ k_) ∧ some k_ ≠ (u8 : Value).ownBlock ∧ k_ ≠ gb274) (.slice A0 l0.length c0) l0) := ⟨y102_⟩; have n1_ : Aside0 (Kd.R k52 52 w21 w.heap.size (fun k_ => (w.heap.size ≤ k_) ∧ k_ ≠ gb274) u8 x8_1) := ⟨y106_⟩; have n2_ : Aside0 (Kd.V (Kd.int .u8) 5 w21 w.heap.size (fun k_ => (P0_ k_ ∨ w.heap.size ≤ k_) ∧ some k_ ≠ (u8 : Value).ownBlock ∧ k_ ≠ gb274) (.slice Ao18 x9_1.length co18) x9_1) := ⟨y101_⟩; have n3_ : Aside0 (Kd.V (Kd.int .u8) 5 w21 w.heap.size (fun k_ => (P0_ k_ ∨ w.heap.size ≤ k_) ∧ some k_ ≠ (u8 : Value).ownBlock ∧ k_ ≠ gb274) v277 t276) := ⟨y100_⟩; have n4_ : Aside0 (w21.heap[gb274]? = some (.cells #[.string t275, .string (⟨#[]⟩ : ByteArray)] 52 (0, 0))) := ⟨y97_⟩; have n5_ : Aside0 (Below w.heap.size w w21) := ⟨(by rw [hw]; exact y13_)⟩; clear hw; clear HO_0; clear HO_8; clear HO_9; clear HO278; clear BK274; clear HB; have HO_0 := n0_; have HO_8 := n1_; have HO_9 := n2_; have HO278 := n3_; have BK274 := n4_; have HB := n5_; clear n0_ n1_ n2_ n3_ n4_ n5_; obtain ⟨Ao22, co22, eo22⟩ := Kd.V_slice HO278.out; subst eo22) | ((with_reducible refine gate_callee (f := 56) rfl ?_); refine goesL_ (some 43) rfl rfl Tryd.func56 (by kernel_rfl) rfl #[.slice Ao22 t276.length co22, .int .u64 128] rfl y3_ ?_; (with_reducible refine (manometerref05_took.calls k1 (fun k_ => ((P0_ k_ ∨ w.heap.size ≤ k_) ∧ (some k_ ≠ (u8 : Value).ownBlock ∧ k_ ≠ gb274))) _ _ t276 128 t280 t281 t284 _ ?side1 A14.out).mono ?_); (case side1 => exact HO278.out); rintro e w23 ⟨v282, rfl, ho0, hb⟩; refine ⟨_, rfl, ?_⟩; have n0_ := Aside0.mk (Kd.V_below y28_ hb); have n1_ := Aside0.mk (Kd.R_below y18_ hb); have n2_ := Aside0.mk (Kd.V_below y48_ hb); have n3_ := Aside0.mk (Kd.V_below (by (with_reducible repeat (first | apply Kd.V_alloc | apply Kd.V_drewN | apply Kd.V_drew)); exact HO278.out) hb); have n4_ := Aside0.mk (Kd.V_lower (Kd.V_mono (ok' := fun k_ => (P0_ k_ ∨ w.heap.size ≤ k_) ∧ some k_ ≠ (u8 : Value).ownBlock ∧ k_ ≠ gb274) ho0 (fun k_ hk_ => ⟨Or.elim hk_ (fun hs_ => hs_.1) (fun hn_ => (.inr (Nat.le_trans (below_size y13_) hn_))), Or.elim hk_ (fun hs_ => hs_.2.1) (fun hn_ => (Kd.fresh' (Kd.R_lt y18_) k_ hn_)), Or.elim hk_ (fun hs_ => hs_.2.2) (fun hn_ => (Kd.freshB (g := gb274) (o := .cells #[.string t275, .string (⟨#[]⟩ : ByteArray)] 52 (0, 0)) y43_ k_ hn_))⟩)) (below_size y13_)); have n5_ := Aside0.mk (blk_below (g := gb274) (o := .cells #[.string t275, .string (⟨#[]⟩ : ByteArray)] 52 (0, 0)) y43_ hb); have n6_ := Aside0.mk (below_step y13_ hb); clear HO_0; clear HO_8; clear HO_9; clear HO278; clear BK274; clear HB; have HO_0 := n0_; have HO_8 := n1_; have HO_9 := n2_; have HO278 := n3_; have HO283 := n4_; have BK274 := n5_; have HB := n6_; clear n0_ n1_ n2_ n3_ n4_ n5_ n6_; (try clear hb); (try clear hb2); (try clear hk); (try clear hi); (try clear ho0); have hcz24_0 : w23.cell? ⟨gb274, 0, none⟩ = some (.string t275) := (blk_cell BK274.out 0).trans rfl; have hcz24_1 : w23.cell? ⟨gb274, 1, none⟩ = some (.string (⟨#[]⟩ : ByteArray)) := (blk_cell BK274.out 1).trans rfl; have hfz24_0 := blk_frozen BK274.out 0; have hfz24_1 := blk_frozen BK274.out 1) | ((with_reducible refine gate_builtin (b := .append) (xs := #[.tmp 51, .tmp 53]) rfl ?_); at_builtin; refine Kd.R_append k52 (w0 := w) w.heap.size rfl (.tmp 51) (.tmp 53) 26 52 (.agg #[(.string ⟨#[]⟩), (.string ⟨#[]⟩)]) 32 rfl Tryd.underlying26 info52 rfl (by decide) (by omega) u8 x8_1 (⟨t275, t280⟩ : S52) [.string t275, .string t280] (fun k_ => (w.heap.size ≤ k_) ∧ k_ ≠ gb274) (fun _ => False) rfl (by first | (go_simp; done) | (go_simp; rfl)) ?aP (fun _ hk => hk.elim) ?aF ?aO ?aB ?aS ?aL ?_; (case aP => exact k52_mkM _ _ _ (⟨t275, t280⟩ : S52)); (case aB => exact y13_); (case aF => exact (fun k_ hk => ⟨(Nat.le_trans (below_size y13_) hk), Kd.freshB (g := gb274) (o := .cells #[.string t275, .string t280] 52 (0, 0)) y108_ k_ hk⟩)); (case aO => exact (by (with_reducible repeat (first | apply Kd.R_alloc | apply Kd.R_drewN | apply Kd.R_drew)); exact Kd.R_mono (Kd.R_far (p := ⟨gb274, 1, none⟩) (Kd.R_mono HO_8.out (fun k_ hk => (⟨hk, hk.2⟩ : _ ∧ k_ ≠ gb274))) (fun _ hk => hk.2) (.string t280)) (fun _ hk => ⟨hk.1.1, hk.1.2⟩))); (case aS => exact (below_size y13_)); (case aL => have := LMc16.out; omega); intro v286 w25 ho hb hg hat; rw [← Ny285.out] at ho; have n0_ := Aside0.mk (Kd.V_afterv (ok := (fun k_ => (P0_ k_ ∨ w.heap.size ≤ k_) ∧ k_ ≠ gb274)) (by (with_reducible repeat (first | apply Kd.V_alloc | apply Kd.V_drewN | apply Kd.V_drew)); exact Kd.V_mono (Kd.V_far (p := ⟨gb274, 1, none⟩) (Kd.V_mono HO_0.out (fun k_ hk => (⟨hk, hk.2.2⟩ : _ ∧ k_ ≠ gb274))) (fun _ hk => hk.2) (.string t280)) (fun _ hk => ⟨⟨hk.1.1, hk.1.2.2⟩, hk.1.2.1⟩)) hg hat); have n1_ := Aside0.mk (Kd.V_afterv (ok := (fun k_ => (P0_ k_ ∨ w.heap.size ≤ k_) ∧ k_ ≠ gb274)) (by (with_reducible repeat (first | apply Kd.V_alloc | apply Kd.V_drewN | apply Kd.V_drew)); exact Kd.V_mono (Kd.V_far (p := ⟨gb274, 1, none⟩) (Kd.V_mono HO_9.out (fun k_ hk => (⟨hk, hk.2.2⟩ : _ ∧ k_ ≠ gb274))) (fun _ hk => hk.2) (.string t280)) (fun _ hk => ⟨⟨hk.1.1, hk.1.2.2⟩, hk.1.2.1⟩)) hg hat); have n2_ := Aside0.mk (blk_grown (g := gb274) (o := .cells #[.string t275, .string t280] 52 (0, 0)) y108_ hg (Kd.R_away HO_8.out (fun _ hk => hk.2))); have n3_ := Aside0.mk (Kd.V_afterv (ok := (fun k_ => (P0_ k_ ∨ w.heap.size ≤ k_) ∧ k_ ≠ gb274)) (by (with_reducible repeat (first | apply Kd.V_alloc | apply Kd.V_drewN | apply Kd.V_drew)); exact Kd.V_mono (Kd.V_far (p := ⟨gb274, 1, none⟩) (Kd.V_mono HO278.out (fun k_ hk => (⟨hk, hk.2.2⟩ : _ ∧ k_ ≠ gb274))) (fun _ hk => hk.2) (.string t280)) (fun _ hk => ⟨⟨hk.1.1, hk.1.2.2⟩, hk.1.2.1⟩)) hg hat); have n4_ := Aside0.mk (Kd.V_afterv (ok := (fun k_ => (P0_ k_ ∨ w.heap.size ≤ k_) ∧ k_ ≠ gb274)) (by (with_reducible repeat (first | apply Kd.V_alloc | apply Kd.V_drewN | apply Kd.V_drew)); exact Kd.V_mono (Kd.V_far (p := ⟨gb274, 1, none⟩) (Kd.V_mono HO283.out (fun k_ hk => (⟨hk, hk.2.2⟩ : _ ∧ k_ ≠ gb274))) (fun _ hk => hk.2) (.string t280)) (fun _ hk => ⟨⟨hk.1.1, hk.1.2.2⟩, hk.1.2.1⟩)) hg hat); have n5_ := Aside0.mk (hb); have n6_ := Aside0.mk (ho); clear HO_0; clear HO_9; clear BK274; clear HO278; clear HO283; clear HB; clear HO_8; have HO_0 := n0_; have HO_9 := n1_; have BK274 := n2_; have HO278 := n3_; have HO283 := n4_; have HB := n5_; have HO287 := n6_; clear n0_ n1_ n2_ n3_ n4_ n5_ n6_; clear ho hb hg hat))
           go_roundg k1
           case measure => have := HK1.out; omega
           case rel => exact ⟨(y285), (t281), (wrap64 (x29_1 + 1)), y7_, H', ⟨y109_⟩, ⟨by (with_reducible repeat (first | apply Kd.V_alloc | apply Kd.V_drewN | apply Kd.V_drew)); exact Kd.V_mono HO_0.out (fun _ hk => ⟨hk.1.1, hk.2⟩)⟩, ⟨by (with_reducible repeat (first | apply Kd.R_alloc | apply Kd.R_drewN | apply Kd.R_drew)); exact Kd.R_mono HO287.out (fun _ hk => hk.1)⟩, ⟨by (with_reducible repeat (first | apply Kd.V_alloc | apply Kd.V_drewN | apply Kd.V_drew)); exact Kd.V_mono HO283.out (fun _ hk => ⟨hk.1.1, hk.2⟩)⟩, ⟨y13_⟩⟩
          ·rw [if_neg c16] at H
           exact absurd H (by simp)
         ·rw [if_neg c15] at H
          have c15b0 : (t284 == 0) = false := beq_eq_false_iff_ne.mpr c15
          have c15b1 : (t284 != 0) = true := bne_iff_ne.mpr c15
          simp only [Option.some.injEq, Prod.mk.injEq] at H
          obtain ⟨rfl, rfl, rfl⟩ := H
          go_wp2_with (first | ((with_reducible refine gate_dst (N := 10) rfl ?_); refine box_event ?hg (N := 10) ?hd (cs := #[.string (⟨#[]⟩ : ByteArray), .string (⟨#[]⟩ : ByteArray)]) (t := 52) ?hr ?_; (case hd => rfl); (case hg => rfl); (case hr => first | (go_simp; done) | (go_simp; rfl)); intro gb274 hg w26 hbox hb; have n0_ := Aside0.mk (Kd.V_below (Kd.V_elderB y28_ gb274 (Nat.le_of_eq hg.symm)) hb); have n1_ := Aside0.mk (Kd.R_below (Kd.R_elderB y18_ gb274 (Nat.le_of_eq hg.symm)) hb); have n2_ := Aside0.mk (Kd.V_below (Kd.V_elderB y48_ gb274 (Nat.le_of_eq hg.symm)) hb); have n3_ := Aside0.mk (below_step y1_ hb); have n4_ := Aside0.mk (hbox); have n5_ := Aside0.mk ((y12_ : w.heap.size ≤ gb274)); have n6_ := Aside0.mk ((y12_ : w.heap.size ≤ gb274)); clear HO_0; clear HO_8; clear HO_9; clear HB; have HO_0 := n0_; have HO_8 := n1_; have HO_9 := n2_; have HB := n3_; have BK274 := n4_; have GW274 := n5_; have GE274 := n6_; clear n0_ n1_ n2_ n3_ n4_ n5_ n6_; clear hb hbox hg; obtain ⟨Ao27, co27, eo27⟩ := Kd.V_slice HO_9.out; subst eo27) | ((with_reducible refine gate_callee (f := 56) rfl ?_); refine goesL_ (some 33) rfl rfl Tryd.func56 (by kernel_rfl) rfl #[.slice Ao27 x9_1.length co27, .int .u64 64] rfl y3_ ?_; (with_reducible refine (manometerref05_took.calls k1 (fun k_ => (((P0_ k_ ∨ w.heap.size ≤ k_) ∧ some k_ ≠ (u8 : Value).ownBlock) ∧ k_ ≠ gb274)) _ _ x9_1 64 t275 t276 t279 _ ?side1 A12.out).mono ?_); (case side1 => exact HO_9.out); rintro e w28 ⟨v277, rfl, ho0, hb⟩; refine ⟨_, rfl, ?_⟩; have n0_ := Aside0.mk (Kd.V_below y28_ hb); have n1_ := Aside0.mk (Kd.R_below y18_ hb); have n2_ := Aside0.mk (Kd.V_below y48_ hb); have n3_ := Aside0.mk (Kd.V_lower (Kd.V_mono (ok' := fun k_ => (P0_ k_ ∨ w.heap.size ≤ k_) ∧ some k_ ≠ (u8 : Value).ownBlock ∧ k_ ≠ gb274) ho0 (fun k_ hk_ => ⟨Or.elim hk_ (fun hs_ => hs_.1.1) (fun hn_ => (.inr (Nat.le_trans (below_size y13_) hn_))), Or.elim hk_ (fun hs_ => hs_.1.2) (fun hn_ => (Kd.fresh' (Kd.R_lt y18_) k_ hn_)), Or.elim hk_ (fun hs_ => hs_.2) (fun hn_ => (Kd.freshB (g := gb274) (o := .cells #[.string (⟨#[]⟩ : ByteArray), .string (⟨#[]⟩ : ByteArray)] 52 (0, 0)) y43_ k_ hn_))⟩)) (below_size y13_)); have n4_ := Aside0.mk (blk_below (g := gb274) (o := .cells #[.string (⟨#[]⟩ : ByteArray), .string (⟨#[]⟩ : ByteArray)] 52 (0, 0)) y43_ hb); have n5_ := Aside0.mk (below_step y13_ hb); clear HO_0; clear HO_8; clear HO_9; clear BK274; clear HB; have HO_0 := n0_; have HO_8 := n1_; have HO_9 := n2_; have HO278 := n3_; have BK274 := n4_; have HB := n5_; clear n0_ n1_ n2_ n3_ n4_ n5_; (try clear hb); (try clear hb2); (try clear hk); (try clear hi); (try clear ho0); have hcz29_0 : w28.cell? ⟨gb274, 0, none⟩ = some (.string (⟨#[]⟩ : ByteArray)) := (blk_cell BK274.out 0).trans rfl; have hcz29_1 : w28.cell? ⟨gb274, 1, none⟩ = some (.string (⟨#[]⟩ : ByteArray)) := (blk_cell BK274.out 1).trans rfl; have hfz29_0 := blk_frozen BK274.out 0; have hfz29_1 := blk_frozen BK274.out 1) | ((with_reducible refine gate_store (t := 9) (p := 37) rfl ?_); refine store_event (t := 9) (p := 37) (v := ?vo_w30) (w1 := (w28.setCell ⟨gb274, 0, none⟩ (.string t275))) ?hg ?ho ?hn ?hr ?_; (case ho => rfl); (case hg => rfl); (case hn => rfl); (case hr => first | (go_simp; done) | (go_simp; rfl)); intro w30 hw; have n0_ : Aside0 (Kd.V (Kd.int .u8) 5 w30 w.heap.size (fun k_ => (P0_ k_ ∨ w.heap.size ≤ k_) ∧ some k_ ≠ (u8 : Value).ownBlock ∧ k_ ≠ gb274) (.slice A0 l0.length c0) l0) := ⟨y102_⟩; have n1_ : Aside0 (Kd.R k52 52 w30 w.heap.size (fun k_ => (w.heap.size ≤ k_) ∧ k_ ≠ gb274) u8 x8_1) := ⟨y106_⟩; have n2_ : Aside0 (Kd.V (Kd.int .u8) 5 w30 w.heap.size (fun k_ => (P0_ k_ ∨ w.heap.size ≤ k_) ∧ some k_ ≠ (u8 : Value).ownBlock ∧ k_ ≠ gb274) (.slice Ao27 x9_1.length co27) x9_1) := ⟨y101_⟩; have n3_ : Aside0 (Kd.V (Kd.int .u8) 5 w30 w.heap.size (fun k_ => (P0_ k_ ∨ w.heap.size ≤ k_) ∧ some k_ ≠ (u8 : Value).ownBlock ∧ k_ ≠ gb274) v277 t276) := ⟨y100_⟩; have n4_ : Aside0 (w30.heap[gb274]? = some (.cells #[.string t275, .string (⟨#[]⟩ : ByteArray)] 52 (0, 0))) := ⟨y97_⟩; have n5_ : Aside0 (Below w.heap.size w w30) := ⟨(by rw [hw]; exact y13_)⟩; clear hw; clear HO_0; clear HO_8; clear HO_9; clear HO278; clear BK274; clear HB; have HO_0 := n0_; have HO_8 := n1_; have HO_9 := n2_; have HO278 := n3_; have BK274 := n4_; have HB := n5_; clear n0_ n1_ n2_ n3_ n4_ n5_; obtain ⟨Ao31, co31, eo31⟩ := Kd.V_slice HO278.out; subst eo31) | ((with_reducible refine gate_callee (f := 56) rfl ?_); refine goesL_ (some 43) rfl rfl Tryd.func56 (by kernel_rfl) rfl #[.slice Ao31 t276.length co31, .int .u64 128] rfl y3_ ?_; (with_reducible refine (manometerref05_took.calls k1 (fun k_ => ((P0_ k_ ∨ w.heap.size ≤ k_) ∧ (some k_ ≠ (u8 : Value).ownBlock ∧ k_ ≠ gb274))) _ _ t276 128 t280 t281 t284 _ ?side1 A14.out).mono ?_); (case side1 => exact HO278.out); rintro e w32 ⟨v282, rfl, ho0, hb⟩; refine ⟨_, rfl, ?_⟩; have n0_ := Aside0.mk (Kd.V_below y28_ hb); have n1_ := Aside0.mk (Kd.R_below y18_ hb); have n2_ := Aside0.mk (Kd.V_below y48_ hb); have n3_ := Aside0.mk (Kd.V_below (by (with_reducible repeat (first | apply Kd.V_alloc | apply Kd.V_drewN | apply Kd.V_drew)); exact HO278.out) hb); have n4_ := Aside0.mk (Kd.V_lower (Kd.V_mono (ok' := fun k_ => (P0_ k_ ∨ w.heap.size ≤ k_) ∧ some k_ ≠ (u8 : Value).ownBlock ∧ k_ ≠ gb274) ho0 (fun k_ hk_ => ⟨Or.elim hk_ (fun hs_ => hs_.1) (fun hn_ => (.inr (Nat.le_trans (below_size y13_) hn_))), Or.elim hk_ (fun hs_ => hs_.2.1) (fun hn_ => (Kd.fresh' (Kd.R_lt y18_) k_ hn_)), Or.elim hk_ (fun hs_ => hs_.2.2) (fun hn_ => (Kd.freshB (g := gb274) (o := .cells #[.string t275, .string (⟨#[]⟩ : ByteArray)] 52 (0, 0)) y43_ k_ hn_))⟩)) (below_size y13_)); have n5_ := Aside0.mk (blk_below (g := gb274) (o := .cells #[.string t275, .string (⟨#[]⟩ : ByteArray)] 52 (0, 0)) y43_ hb); have n6_ := Aside0.mk (below_step y13_ hb); clear HO_0; clear HO_8; clear HO_9; clear HO278; clear BK274; clear HB; have HO_0 := n0_; have HO_8 := n1_; have HO_9 := n2_; have HO278 := n3_; have HO283 := n4_; have BK274 := n5_; have HB := n6_; clear n0_ n1_ n2_ n3_ n4_ n5_ n6_; (try clear hb); (try clear hb2); (try clear hk); (try clear hi); (try clear ho0); have hcz33_0 : w32.cell? ⟨gb274, 0, none⟩ = some (.string t275) := (blk_cell BK274.out 0).trans rfl; have hcz33_1 : w32.cell? ⟨gb274, 1, none⟩ = some (.string (⟨#[]⟩ : ByteArray)) := (blk_cell BK274.out 1).trans rfl; have hfz33_0 := blk_frozen BK274.out 0; have hfz33_1 := blk_frozen BK274.out 1))
          go_ret3
          exact ⟨_, y4_, y6_, y13_⟩
        ·rw [if_neg c13] at H
         have c13b0 : (t279 == 0) = false := beq_eq_false_iff_ne.mpr c13
         have c13b1 : (t279 != 0) = true := bne_iff_ne.mpr c13
         simp only [Option.some.injEq, Prod.mk.injEq] at H
         obtain ⟨rfl, rfl, rfl⟩ := H
         go_wp2_with (first | ((with_reducible refine gate_dst (N := 10) rfl ?_); refine box_event ?hg (N := 10) ?hd (cs := #[.string (⟨#[]⟩ : ByteArray), .string (⟨#[]⟩ : ByteArray)]) (t := 52) ?hr ?_; (case hd => rfl); (case hg => rfl); (case hr => first | (go_simp; done) | (go_simp; rfl)); intro gb274 hg w34 hbox hb; have n0_ := Aside0.mk (Kd.V_below (Kd.V_elderB y28_ gb274 (Nat.le_of_eq hg.symm)) hb); have n1_ := Aside0.mk (Kd.R_below (Kd.R_elderB y18_ gb274 (Nat.le_of_eq hg.symm)) hb); have n2_ := Aside0.mk (Kd.V_below (Kd.V_elderB y48_ gb274 (Nat.le_of_eq hg.symm)) hb); have n3_ := Aside0.mk (below_step y1_ hb); have n4_ := Aside0.mk (hbox); have n5_ := Aside0.mk ((y12_ : w.heap.size ≤ gb274)); have n6_ := Aside0.mk ((y12_ : w.heap.size ≤ gb274)); clear HO_0; clear HO_8; clear HO_9; clear HB; have HO_0 := n0_; have HO_8 := n1_; have HO_9 := n2_; have HB := n3_; have BK274 := n4_; have GW274 := n5_; have GE274 := n6_; clear n0_ n1_ n2_ n3_ n4_ n5_ n6_; clear hb hbox hg; obtain ⟨Ao35, co35, eo35⟩ := Kd.V_slice HO_9.out; subst eo35) | ((with_reducible refine gate_callee (f := 56) rfl ?_); refine goesL_ (some 33) rfl rfl Tryd.func56 (by kernel_rfl) rfl #[.slice Ao35 x9_1.length co35, .int .u64 64] rfl y3_ ?_; (with_reducible refine (manometerref05_took.calls k1 (fun k_ => (((P0_ k_ ∨ w.heap.size ≤ k_) ∧ some k_ ≠ (u8 : Value).ownBlock) ∧ k_ ≠ gb274)) _ _ x9_1 64 t275 t276 t279 _ ?side1 A12.out).mono ?_); (case side1 => exact HO_9.out); rintro e w36 ⟨v277, rfl, ho0, hb⟩; refine ⟨_, rfl, ?_⟩; have n0_ := Aside0.mk (Kd.V_below y28_ hb); have n1_ := Aside0.mk (Kd.R_below y18_ hb); have n2_ := Aside0.mk (Kd.V_below y48_ hb); have n3_ := Aside0.mk (Kd.V_lower (Kd.V_mono (ok' := fun k_ => (P0_ k_ ∨ w.heap.size ≤ k_) ∧ some k_ ≠ (u8 : Value).ownBlock ∧ k_ ≠ gb274) ho0 (fun k_ hk_ => ⟨Or.elim hk_ (fun hs_ => hs_.1.1) (fun hn_ => (.inr (Nat.le_trans (below_size y13_) hn_))), Or.elim hk_ (fun hs_ => hs_.1.2) (fun hn_ => (Kd.fresh' (Kd.R_lt y18_) k_ hn_)), Or.elim hk_ (fun hs_ => hs_.2) (fun hn_ => (Kd.freshB (g := gb274) (o := .cells #[.string (⟨#[]⟩ : ByteArray), .string (⟨#[]⟩ : ByteArray)] 52 (0, 0)) y43_ k_ hn_))⟩)) (below_size y13_)); have n4_ := Aside0.mk (blk_below (g := gb274) (o := .cells #[.string (⟨#[]⟩ : ByteArray), .string (⟨#[]⟩ : ByteArray)] 52 (0, 0)) y43_ hb); have n5_ := Aside0.mk (below_step y13_ hb); clear HO_0; clear HO_8; clear HO_9; clear BK274; clear HB; have HO_0 := n0_; have HO_8 := n1_; have HO_9 := n2_; have HO278 := n3_; have BK274 := n4_; have HB := n5_; clear n0_ n1_ n2_ n3_ n4_ n5_; (try clear hb); (try clear hb2); (try clear hk); (try clear hi); (try clear ho0); have hcz37_0 : w36.cell? ⟨gb274, 0, none⟩ = some (.string (⟨#[]⟩ : ByteArray)) := (blk_cell BK274.out 0).trans rfl; have hcz37_1 : w36.cell? ⟨gb274, 1, none⟩ = some (.string (⟨#[]⟩ : ByteArray)) := (blk_cell BK274.out 1).trans rfl; have hfz37_0 := blk_frozen BK274.out 0; have hfz37_1 := blk_frozen BK274.out 1))
         go_ret3
         exact ⟨_, y4_, y6_, y13_⟩
       ·rw [if_neg c11] at H
        have c11b0 : decide (x29_1 < (wrap64 (t262))) = false := decide_eq_false c11
        clear c11
        replace H := Option.bind_eq_some_iff.mp H
        obtain ⟨t273, A380, H⟩ := H
        replace H : (if t273 = 0 then (some (x8_1, wrap64 ((l0.length : Int) - (x9_1.length : Int)), 0)) else (some (([] : List (S52)), 0, t273))) = some (r1, r2, r3) := H
        have A38 := Aside0.mk A380
        clear A380
        by_cases c39 : t273 = 0
        ·rw [if_pos c39] at H
         have c39b0 : (t273 == 0) = true := beq_iff_eq.mpr c39
         have c39b1 : (t273 != 0) = false := bne_eq_false_iff_eq.mpr c39
         clear c39
         simp only [Option.some.injEq, Prod.mk.injEq] at H
         obtain ⟨rfl, rfl, rfl⟩ := H
         obtain ⟨Ao40, co40, eo40⟩ := Kd.R_slice HO_8.out
         subst eo40
         go_wp2_with (first | ((with_reducible refine gate_callee (f := 36) rfl ?_); refine goesL_ (some 57) rfl rfl Tryd.func36 (by kernel_rfl) rfl #[.slice Ao40 x8_1.length co40] rfl y3_ ?_; (with_reducible refine (manometerref05_Right.calls k1 _ _ x8_1 t273 _ ?side1 ?side2 A38.out).mono ?_); (case side1 => repeat (first | exact (Kd.R_reads' HO_8.out).2.2 | (with_reducible refine Kd.C_alloc ?_ _) | (with_reducible refine Kd.C_drewN ?_ _) | (with_reducible refine Kd.C_drew ?_))); (case side2 => exact (Kd.R_reads' HO_8.out).2.1); rintro e w41 ⟨rfl, hb⟩; refine ⟨_, rfl, ?_⟩; have n0_ := Aside0.mk (Kd.V_below y28_ hb); have n1_ := Aside0.mk (Kd.R_below y18_ hb); have n2_ := Aside0.mk (Kd.V_below y48_ hb); have n3_ := Aside0.mk (below_step y1_ hb); clear HO_0; clear HO_8; clear HO_9; clear HB; have HO_0 := n0_; have HO_8 := n1_; have HO_9 := n2_; have HB := n3_; clear n0_ n1_ n2_ n3_; (try clear hb); (try clear hb2); (try clear hk); (try clear hi); obtain ⟨Ao42, co42, eo42⟩ := Kd.V_slice HO_9.out; subst eo42))
         go_ret3
         exact ⟨_, y4_, y18_, y1_⟩
        ·rw [if_neg c39] at H
         have c39b0 : (t273 == 0) = false := beq_eq_false_iff_ne.mpr c39
         have c39b1 : (t273 != 0) = true := bne_iff_ne.mpr c39
         simp only [Option.some.injEq, Prod.mk.injEq] at H
         obtain ⟨rfl, rfl, rfl⟩ := H
         obtain ⟨Ao43, co43, eo43⟩ := Kd.R_slice HO_8.out
         subst eo43
         go_wp2_with (first | ((with_reducible refine gate_callee (f := 36) rfl ?_); refine goesL_ (some 57) rfl rfl Tryd.func36 (by kernel_rfl) rfl #[.slice Ao43 x8_1.length co43] rfl y3_ ?_; (with_reducible refine (manometerref05_Right.calls k1 _ _ x8_1 t273 _ ?side1 ?side2 A38.out).mono ?_); (case side1 => repeat (first | exact (Kd.R_reads' HO_8.out).2.2 | (with_reducible refine Kd.C_alloc ?_ _) | (with_reducible refine Kd.C_drewN ?_ _) | (with_reducible refine Kd.C_drew ?_))); (case side2 => exact (Kd.R_reads' HO_8.out).2.1); rintro e w44 ⟨rfl, hb⟩; refine ⟨_, rfl, ?_⟩; have n0_ := Aside0.mk (Kd.V_below y28_ hb); have n1_ := Aside0.mk (Kd.R_below y18_ hb); have n2_ := Aside0.mk (Kd.V_below y48_ hb); have n3_ := Aside0.mk (below_step y1_ hb); clear HO_0; clear HO_8; clear HO_9; clear HB; have HO_0 := n0_; have HO_8 := n1_; have HO_9 := n2_; have HB := n3_; clear n0_ n1_ n2_ n3_; (try clear hb); (try clear hb2); (try clear hk); (try clear hi)))
         go_ret3
         exact ⟨_, y4_, y6_, y1_⟩
    ·rw [if_neg c6] at H
     exact absurd H (by simp)
   ·rw [if_neg c5] at H
    exact absurd H (by simp)
 ·rw [if_neg c3] at H
  have c3b0 : (t264 == 0) = false := beq_eq_false_iff_ne.mpr c3
  have c3b1 : (t264 != 0) = true := bne_iff_ne.mpr c3
  simp only [Option.some.injEq, Prod.mk.injEq] at H
  obtain ⟨rfl, rfl, rfl⟩ := H
  go_enter Tryd.func42, Tryd.ntmps42
  go_wp2_with (first | ((with_reducible refine gate_callee (f := 24) rfl ?_); refine goesL_ (some 14) rfl rfl Tryd.func24 (by kernel_rfl) rfl #[.slice A0 l0.length c0] rfl y3_ ?_; (with_reducible refine (manometerref01_Uvarint.calls k _ _ l0 t262 t263 t264 _ ?side1 ?side2 A2.out).mono ?_); (case side1 => repeat (first | exact (Kd.V_reads' HO0.out).2.2 | (with_reducible refine Kd.C_alloc ?_ _) | (with_reducible refine Kd.C_drewN ?_ _) | (with_reducible refine Kd.C_drew ?_))); (case side2 => exact (Kd.V_reads' HO0.out).2.1); rintro e w' ⟨rfl, ⟨nd, rfl⟩⟩; refine ⟨_, rfl, ?_⟩))
  go_ret3
  exact ⟨_, y4_, y6_, y1_⟩
end Go.Proofs.YtdckhaejhfkkbaaDoor.PRT
