import Derived.Test.YtdhmabofncbohaaDoorCLabelsTextsPLAx1
import Derived.Test.YtdhmabofncbohaaDoorCLabelsTextsPLBx9
import Derived.Test.YtdhmabofncbohaaDoorCLabelsTextsPLBx11
import Derived.Test.YtdhmabofncbohaaDoorCLabelsTextsPLBx7
namespace Go.Proofs.YtdhmabofncbohaaDoor.PLB
open Go.RowKit Go.Proofs.YtdhmabofncbohaaDoorW.PrintWords Go.Proofs.YtdhmabofncbohaaDoorW.PrintLast Go.Proofs.YtdhmabofncbohaaDoorW.PrintMore
attribute [local go_sem] max2_int min2_int max_two min_two max_three min_three max_four min_four
set_option linter.unusedVariables false
set_option linter.unusedSimpArgs false
def manometerref05_pair.j0 : Nat → ByteArray → ByteArray → Bool → Option (ByteArray × ByteArray × ByteArray × Bool)
 | 0, _, _, _ => none
 | k + 1, x0, x5, x26 => if x26 = true then (some ((⟨#[]⟩ : ByteArray), (⟨#[]⟩ : ByteArray), (⟨#[]⟩ : ByteArray), false)) else (if 1 ≤ (x0.size : Int) then ((manometerref05_Bare.f k (x0.extract 1 x0.size)).bind fun t314 => ((manometerref05_Unquote.f k t314).bind fun bt315 => (if bt315.2.2 = 0 then (if 0 ≤ bt315.2.1 then (if bt315.2.1 ≤ (t314.size : Int) then ((manometerref05_Bare.f k (t314.extract (bt315.2.1 : Int).toNat t314.size)).bind fun t318 => (some (x5, bt315.1, t318, true))) else (none)) else (none)) else (some ((⟨#[]⟩ : ByteArray), (⟨#[]⟩ : ByteArray), (⟨#[]⟩ : ByteArray), false))))) else (none))
def manometerref05_pair.f (k : Nat) (a0 : ByteArray) : Option (ByteArray × ByteArray × ByteArray × Bool) := (manometerref05_Word.f k a0).bind fun bt311 => ((manometerref05_Bare.f k bt311.2).bind fun t313 => (if bt311.1.toList = ([] : List UInt8) then (manometerref05_pair.j0 k t313 bt311.1 true) else (if t313.toList = ([] : List UInt8) then (manometerref05_pair.j0 k t313 bt311.1 true) else (if 0 < (t313.size : Int) then (manometerref05_pair.j0 k t313 bt311.1 ((bt t313 0) != 61)) else (none)))))
set_option maxHeartbeats 8000000 in
set_option maxRecDepth 100000 in
theorem manometerref05_pair.calls (k : Nat) (a0 : ByteArray) (r1 : ByteArray) (r2 : ByteArray) (r3 : ByteArray) (r4 : Bool) (w : World) (h : manometerref05_pair.f k a0 = some (r1, r2, r3, r4)) :
  Calls Tryd.prog 63 #[.string a0] w fun e w' => e = .returned (.tuple #[.agg #[.string r1, .string r2], .string r3, .bool r4]) ∧ Below w.heap.size w w' := by
 have hu44 := Tryd.underlying44
 have HB := Aside0.mk (Below.refl w.heap.size w)
 have H : ((manometerref05_Word.f k a0).bind fun bt311 => ((manometerref05_Bare.f k bt311.2).bind fun t313 => (if bt311.1.toList = ([] : List UInt8) then (manometerref05_pair.j0 k t313 bt311.1 true) else (if t313.toList = ([] : List UInt8) then (manometerref05_pair.j0 k t313 bt311.1 true) else (if 0 < (t313.size : Int) then (manometerref05_pair.j0 k t313 bt311.1 ((bt t313 0) != 61)) else (none)))))) = some (r1, r2, r3, r4) := h
 clear h
 replace H := Option.bind_eq_some_iff.mp H
 obtain ⟨⟨t311, t312⟩, A20, H⟩ := H
 replace H : ((manometerref05_Bare.f k t312).bind fun t313 => (if t311.toList = ([] : List UInt8) then (manometerref05_pair.j0 k t313 t311 true) else (if t313.toList = ([] : List UInt8) then (manometerref05_pair.j0 k t313 t311 true) else (if 0 < (t313.size : Int) then (manometerref05_pair.j0 k t313 t311 ((bt t313 0) != 61)) else (none))))) = some (r1, r2, r3, r4) := H
 have A2 := Aside0.mk A20
 clear A20
 replace H := Option.bind_eq_some_iff.mp H
 obtain ⟨t313, A30, H⟩ := H
 replace H : (if t311.toList = ([] : List UInt8) then (manometerref05_pair.j0 k t313 t311 true) else (if t313.toList = ([] : List UInt8) then (manometerref05_pair.j0 k t313 t311 true) else (if 0 < (t313.size : Int) then (manometerref05_pair.j0 k t313 t311 ((bt t313 0) != 61)) else (none)))) = some (r1, r2, r3, r4) := H
 have A3 := Aside0.mk A30
 clear A30
 have HC4 := Aside0.mk H
 clear H
 go_enter Tryd.func63, Tryd.ntmps63
 go_upto_region 3 with (first | ((with_reducible refine gate_dst (N := 2) rfl ?_); refine box_event ?hg (N := 2) ?hd (cs := #[.string (⟨#[]⟩ : ByteArray), .string (⟨#[]⟩ : ByteArray)]) (t := 44) ?hr ?_; (case hd => rfl); (case hg => rfl); (case hr => first | (go_simp; done) | (go_simp; rfl)); intro gb310 hg w5 hbox hb; have n0_ := Aside0.mk (below_step y1_ hb); have n1_ := Aside0.mk (hbox); have n2_ := Aside0.mk ((y13_ : w.heap.size ≤ gb310)); have n3_ := Aside0.mk ((y13_ : w.heap.size ≤ gb310)); clear HB; have HB := n0_; have BK310 := n1_; have GW310 := n2_; have GE310 := n3_; clear n0_ n1_ n2_ n3_; clear hb hbox hg) | ((with_reducible refine gate_callee (f := 81) rfl ?_); refine goesL_ (some 11) rfl rfl Tryd.func81 (by kernel_rfl) rfl #[.string a0] rfl y2_ ?_; (with_reducible refine (manometerref05_Word.calls k a0 t311 t312 _ A2.out).mono ?_); rintro e w' ⟨rfl, ⟨nd, rfl⟩⟩; refine ⟨_, rfl, ?_⟩) | ((with_reducible refine gate_callee (f := 62) rfl ?_); refine goesL_ (some 15) rfl rfl Tryd.func62 (by kernel_rfl) rfl #[.string t312] rfl y2_ ?_; (with_reducible refine (manometerref05_Bare.calls k t312 t313 _ A3.out).mono ?_); rintro e w' ⟨rfl, ⟨nd, rfl⟩⟩; refine ⟨_, rfl, ?_⟩))
 (try simp only [Act.put, List.setIfInBounds_toArray, List.set_cons_zero, List.set_cons_succ])
 go_cut [26] (fun v26 wc => ∃ (kq : Nat) (x26_3 : Bool), v26 = .bool x26_3 ∧ Aside0 (manometerref05_pair.j0 kq t313 t311 x26_3 = some (r1, r2, r3, r4)) ∧ Aside0 (kq ≤ k) ∧ Aside0 (wc.heap[gb310]? = some (.cells #[.string (⟨#[]⟩ : ByteArray), .string (⟨#[]⟩ : ByteArray)] 44 (0, 0))) ∧ Aside0 (Below w.heap.size w wc))
 case first =>
  have H := HC4.out
  clear HC4
  by_cases c6 : t311.toList = ([] : List UInt8)
  ·rw [if_pos c6] at H
   have c6b0 : (t311.toList == ([] : List UInt8)) = true := beq_iff_eq.mpr c6
   have c6b1 : (t311.toList != ([] : List UInt8)) = false := bne_eq_false_iff_eq.mpr c6
   clear c6
   (first | rw [c6b0] | (simp only [i64_w, i32_w]; rw [c6b0]) | skip)
   have H' := Aside0.mk H
   clear H
   go_wp2
   go_meet
   case rel => exact ⟨_, (true), y5_, H', ⟨y64_⟩, ⟨y38_⟩, ⟨y19_⟩⟩
  ·rw [if_neg c6] at H
   have c6b0 : (t311.toList == ([] : List UInt8)) = false := beq_eq_false_iff_ne.mpr c6
   have c6b1 : (t311.toList != ([] : List UInt8)) = true := bne_iff_ne.mpr c6
   (first | rw [c6b0] | (simp only [i64_w, i32_w]; rw [c6b0]) | skip)
   by_cases c7 : t313.toList = ([] : List UInt8)
   ·rw [if_pos c7] at H
    have c7b0 : (t313.toList == ([] : List UInt8)) = true := beq_iff_eq.mpr c7
    have c7b1 : (t313.toList != ([] : List UInt8)) = false := bne_eq_false_iff_eq.mpr c7
    clear c7
    have H' := Aside0.mk H
    clear H
    go_wp2
    go_meet
    case rel => exact ⟨_, (true), y5_, H', ⟨y64_⟩, ⟨y38_⟩, ⟨y19_⟩⟩
   ·rw [if_neg c7] at H
    have c7b0 : (t313.toList == ([] : List UInt8)) = false := beq_eq_false_iff_ne.mpr c7
    have c7b1 : (t313.toList != ([] : List UInt8)) = true := bne_iff_ne.mpr c7
    by_cases c8 : 0 < (t313.size : Int)
    ·rw [if_pos c8] at H
     have c8b0 : decide (0 < (t313.size : Int)) = true := decide_eq_true c8
     have c8b1 : decide (0 < t313.size) = true := decide_eq_true (by omega)
     clear c8
     have H' := Aside0.mk H
     clear H
     have p9 : 0 ≤ (0 : Int) := (by omega)
     have q9 : 0 < t313.size := (by have : (0 : Int) < (t313.size : Int) := of_decide_eq_true y3_; omega)
     have hx9 : ∀ h : 0 < t313.size, ((t313[0]'h).toNat : Int) = bt t313 0 := bt_at t313 0
     clear p9
     have qi9 : (0 < (t313.size : Int)) = True := eq_true (of_decide_eq_true y3_)
     replace q9 := eq_true q9
     go_wp2
     go_meet
     case rel => exact ⟨_, (((bt t313 0) != 61)), y5_, H', ⟨y64_⟩, ⟨y38_⟩, ⟨y19_⟩⟩
    ·rw [if_neg c8] at H
     exact absurd H (by simp)
 case rest =>
  clear HC4
  try clear p2
  try clear c6
  try clear c6b0
  try clear c6b1
  try clear c7
  try clear c7b0
  try clear c7b1
  try clear c8
  try clear c8b0
  try clear c8b1
  try clear p9
  try clear q9
  try clear hx9
  try clear qi9
  try clear p9
  try clear q9
  obtain ⟨kq, x26_3, rfl, HA, HJ3, BK310, HB⟩ := hcut
  cases kq with
  | zero => exact absurd HA.out (by simp [manometerref05_pair.j0])
  | succ kj3 =>
   have H := HA.out
   clear HA
   simp only [manometerref05_pair.j0] at H
   by_cases c10 : x26_3 = true
   ·subst c10
    have H1 : (some ((⟨#[]⟩ : ByteArray), (⟨#[]⟩ : ByteArray), (⟨#[]⟩ : ByteArray), false)) = some (r1, r2, r3, r4) := by rw [if_pos rfl] at H; exact H
    clear H
    have H := H1
    clear H1
    simp only [Option.some.injEq, Prod.mk.injEq] at H
    obtain ⟨rfl, rfl, rfl, rfl⟩ := H
    have hcz11_0 : wc.cell? ⟨gb310, 0, none⟩ = some (.string (⟨#[]⟩ : ByteArray)) := (blk_cell BK310.out 0).trans rfl
    have hcz11_1 : wc.cell? ⟨gb310, 1, none⟩ = some (.string (⟨#[]⟩ : ByteArray)) := (blk_cell BK310.out 1).trans rfl
    have hfz11_0 := blk_frozen BK310.out 0
    have hfz11_1 := blk_frozen BK310.out 1
    go_wp2
    refine bodyPost_ret (results_ctt rfl _ _ gb310 44 #[.string (⟨#[]⟩ : ByteArray), .string (⟨#[]⟩ : ByteArray)] (0, 0) _ rfl y45_ Tryd.underlying44 rfl (by kernel_rfl)) rfl ?_
    exact ⟨y7_, y19_⟩
   ·replace c10 := Bool.eq_false_iff.mpr c10
    subst c10
    have H1 : (if 1 ≤ (t313.size : Int) then ((manometerref05_Bare.f kj3 (t313.extract 1 t313.size)).bind fun t314 => ((manometerref05_Unquote.f kj3 t314).bind fun bt315 => (if bt315.2.2 = 0 then (if 0 ≤ bt315.2.1 then (if bt315.2.1 ≤ (t314.size : Int) then ((manometerref05_Bare.f kj3 (t314.extract (bt315.2.1 : Int).toNat t314.size)).bind fun t318 => (some (t311, bt315.1, t318, true))) else (none)) else (none)) else (some ((⟨#[]⟩ : ByteArray), (⟨#[]⟩ : ByteArray), (⟨#[]⟩ : ByteArray), false))))) else (none)) = some (r1, r2, r3, r4) := by rw [if_neg (show ¬ (false = true) by decide)] at H; exact H
    clear H
    have H := H1
    clear H1
    by_cases c12 : 1 ≤ (t313.size : Int)
    ·rw [if_pos c12] at H
     have c12b0 := eq_true c12
     have c12b1 : decide (1 ≤ (t313.size : Int)) = true := decide_eq_true c12
     clear c12
     replace H := Option.bind_eq_some_iff.mp H
     obtain ⟨t314, A130, H⟩ := H
     replace H : ((manometerref05_Unquote.f kj3 t314).bind fun bt315 => (if bt315.2.2 = 0 then (if 0 ≤ bt315.2.1 then (if bt315.2.1 ≤ (t314.size : Int) then ((manometerref05_Bare.f kj3 (t314.extract (bt315.2.1 : Int).toNat t314.size)).bind fun t318 => (some (t311, bt315.1, t318, true))) else (none)) else (none)) else (some ((⟨#[]⟩ : ByteArray), (⟨#[]⟩ : ByteArray), (⟨#[]⟩ : ByteArray), false)))) = some (r1, r2, r3, r4) := H
     have A13 := Aside0.mk A130
     clear A130
     replace H := Option.bind_eq_some_iff.mp H
     obtain ⟨⟨t315, t316, t317⟩, A140, H⟩ := H
     replace H : (if t317 = 0 then (if 0 ≤ t316 then (if t316 ≤ (t314.size : Int) then ((manometerref05_Bare.f kj3 (t314.extract (t316 : Int).toNat t314.size)).bind fun t318 => (some (t311, t315, t318, true))) else (none)) else (none)) else (some ((⟨#[]⟩ : ByteArray), (⟨#[]⟩ : ByteArray), (⟨#[]⟩ : ByteArray), false))) = some (r1, r2, r3, r4) := H
     have A14 := Aside0.mk A140
     clear A140
     by_cases c15 : t317 = 0
     ·rw [if_pos c15] at H
      have c15b0 : (t317 == 0) = true := beq_iff_eq.mpr c15
      have c15b1 : (t317 != 0) = false := bne_eq_false_iff_eq.mpr c15
      clear c15
      by_cases c16 : 0 ≤ t316
      ·rw [if_pos c16] at H
       have c16b0 := eq_true c16
       have c16b1 : decide (0 ≤ t316) = true := decide_eq_true c16
       clear c16
       by_cases c17 : t316 ≤ (t314.size : Int)
       ·rw [if_pos c17] at H
        have c17b0 := eq_true c17
        have c17b1 : decide (t316 ≤ (t314.size : Int)) = true := decide_eq_true c17
        clear c17
        replace H := Option.bind_eq_some_iff.mp H
        obtain ⟨t318, A180, H⟩ := H
        replace H : (some (t311, t315, t318, true)) = some (r1, r2, r3, r4) := H
        have A18 := Aside0.mk A180
        clear A180
        simp only [Option.some.injEq, Prod.mk.injEq] at H
        obtain ⟨rfl, rfl, rfl, rfl⟩ := H
        go_wp2_with (first | ((with_reducible refine gate_callee (f := 62) rfl ?_); refine goesL_ (some 30) rfl rfl Tryd.func62 (by kernel_rfl) rfl #[.string (t313.extract 1 t313.size)] rfl y2_ ?_; (with_reducible refine (manometerref05_Bare.calls kj3 (t313.extract 1 t313.size) t314 _ A13.out).mono ?_); rintro e w' ⟨rfl, ⟨nd, rfl⟩⟩; refine ⟨_, rfl, ?_⟩; (try (rw [drewN_self wc]; generalize hq_ : World.drewN wc _ = wc; have n0_ : Aside0 (wc.heap[gb310]? = some (.cells #[.string (⟨#[]⟩ : ByteArray), .string (⟨#[]⟩ : ByteArray)] 44 (0, 0))) := ⟨by rw [← hq_]; exact y38_⟩; have n1_ : Aside0 (Below w.heap.size w wc) := ⟨by rw [← hq_]; exact y19_⟩; clear BK310 HB hq_; have BK310 := n0_; have HB := n1_; clear n0_ n1_))) | ((with_reducible refine gate_callee (f := 21) rfl ?_); refine goesL_ (some 33) rfl rfl Tryd.func21 (by kernel_rfl) rfl #[.string t314] rfl y2_ ?_; (with_reducible refine (manometerref05_Unquote.calls kj3 t314 t315 t316 t317 _ A14.out).mono ?_); rintro e w19 ⟨rfl, hb⟩; refine ⟨_, rfl, ?_⟩; have n0_ := Aside0.mk (blk_below (g := gb310) (o := .cells #[.string (⟨#[]⟩ : ByteArray), .string (⟨#[]⟩ : ByteArray)] 44 (0, 0)) y38_ hb); have n1_ := Aside0.mk (below_step y19_ hb); clear BK310; clear HB; have BK310 := n0_; have HB := n1_; clear n0_ n1_; (try clear hb); (try clear hb2); (try clear hk); (try clear hi)) | ((with_reducible refine gate_callee (f := 62) rfl ?_); refine goesL_ (some 46) rfl rfl Tryd.func62 (by kernel_rfl) rfl #[.string (t314.extract (t316 : Int).toNat t314.size)] rfl y2_ ?_; (with_reducible refine (manometerref05_Bare.calls kj3 (t314.extract (t316 : Int).toNat t314.size) t318 _ A18.out).mono ?_); rintro e w' ⟨rfl, ⟨nd, rfl⟩⟩; refine ⟨_, rfl, ?_⟩; (try (rw [drewN_self w19]; generalize hq_ : World.drewN w19 _ = w19; have n0_ : Aside0 (w19.heap[gb310]? = some (.cells #[.string (⟨#[]⟩ : ByteArray), .string (⟨#[]⟩ : ByteArray)] 44 (0, 0))) := ⟨by rw [← hq_]; exact y38_⟩; have n1_ : Aside0 (Below w.heap.size w w19) := ⟨by rw [← hq_]; exact y19_⟩; clear BK310 HB hq_; have BK310 := n0_; have HB := n1_; clear n0_ n1_)); have hcz20_0 : w19.cell? ⟨gb310, 0, none⟩ = some (.string (⟨#[]⟩ : ByteArray)) := (blk_cell BK310.out 0).trans rfl; have hcz20_1 : w19.cell? ⟨gb310, 1, none⟩ = some (.string (⟨#[]⟩ : ByteArray)) := (blk_cell BK310.out 1).trans rfl; have hfz20_0 := blk_frozen BK310.out 0; have hfz20_1 := blk_frozen BK310.out 1))
        refine bodyPost_ret (results_ctt rfl _ _ gb310 44 #[.string t311, .string t315] (0, 0) _ rfl (by (with_reducible repeat (first | refine blk_drewN ?_ _ | refine blk_drew ?_ | refine blk_alloc ?_ _)); refine blk_put (cs := #[.string t311, .string (⟨#[]⟩ : ByteArray)]) ?_ 1 _ rfl; (with_reducible repeat (first | refine blk_drewN ?_ _ | refine blk_drew ?_ | refine blk_alloc ?_ _)); refine blk_put (cs := #[.string (⟨#[]⟩ : ByteArray), .string (⟨#[]⟩ : ByteArray)]) ?_ 0 _ rfl; (with_reducible repeat (first | refine blk_drewN ?_ _ | refine blk_drew ?_ | refine blk_alloc ?_ _)); exact BK310.out) Tryd.underlying44 rfl (by kernel_rfl)) rfl ?_
        exact ⟨y7_, y19_⟩
       ·rw [if_neg c17] at H
        exact absurd H (by simp)
      ·rw [if_neg c16] at H
       exact absurd H (by simp)
     ·rw [if_neg c15] at H
      have c15b0 : (t317 == 0) = false := beq_eq_false_iff_ne.mpr c15
      have c15b1 : (t317 != 0) = true := bne_iff_ne.mpr c15
      simp only [Option.some.injEq, Prod.mk.injEq] at H
      obtain ⟨rfl, rfl, rfl, rfl⟩ := H
      go_wp2_with (first | ((with_reducible refine gate_callee (f := 62) rfl ?_); refine goesL_ (some 30) rfl rfl Tryd.func62 (by kernel_rfl) rfl #[.string (t313.extract 1 t313.size)] rfl y2_ ?_; (with_reducible refine (manometerref05_Bare.calls kj3 (t313.extract 1 t313.size) t314 _ A13.out).mono ?_); rintro e w' ⟨rfl, ⟨nd, rfl⟩⟩; refine ⟨_, rfl, ?_⟩; (try (rw [drewN_self wc]; generalize hq_ : World.drewN wc _ = wc; have n0_ : Aside0 (wc.heap[gb310]? = some (.cells #[.string (⟨#[]⟩ : ByteArray), .string (⟨#[]⟩ : ByteArray)] 44 (0, 0))) := ⟨by rw [← hq_]; exact y38_⟩; have n1_ : Aside0 (Below w.heap.size w wc) := ⟨by rw [← hq_]; exact y19_⟩; clear BK310 HB hq_; have BK310 := n0_; have HB := n1_; clear n0_ n1_))) | ((with_reducible refine gate_callee (f := 21) rfl ?_); refine goesL_ (some 33) rfl rfl Tryd.func21 (by kernel_rfl) rfl #[.string t314] rfl y2_ ?_; (with_reducible refine (manometerref05_Unquote.calls kj3 t314 t315 t316 t317 _ A14.out).mono ?_); rintro e w21 ⟨rfl, hb⟩; refine ⟨_, rfl, ?_⟩; have n0_ := Aside0.mk (blk_below (g := gb310) (o := .cells #[.string (⟨#[]⟩ : ByteArray), .string (⟨#[]⟩ : ByteArray)] 44 (0, 0)) y38_ hb); have n1_ := Aside0.mk (below_step y19_ hb); clear BK310; clear HB; have BK310 := n0_; have HB := n1_; clear n0_ n1_; (try clear hb); (try clear hb2); (try clear hk); (try clear hi); have hcz22_0 : w21.cell? ⟨gb310, 0, none⟩ = some (.string (⟨#[]⟩ : ByteArray)) := (blk_cell BK310.out 0).trans rfl; have hcz22_1 : w21.cell? ⟨gb310, 1, none⟩ = some (.string (⟨#[]⟩ : ByteArray)) := (blk_cell BK310.out 1).trans rfl; have hfz22_0 := blk_frozen BK310.out 0; have hfz22_1 := blk_frozen BK310.out 1))
      refine bodyPost_ret (results_ctt rfl _ _ gb310 44 #[.string (⟨#[]⟩ : ByteArray), .string (⟨#[]⟩ : ByteArray)] (0, 0) _ rfl y45_ Tryd.underlying44 rfl (by kernel_rfl)) rfl ?_
      exact ⟨y7_, y19_⟩
    ·rw [if_neg c12] at H
     exact absurd H (by simp)
mutual
def manometerref05_Parse.j0 : Nat → ByteArray → Bool → Option ((List (S44)) × Int)
 | 0, _, _ => none
 | k + 1, x0, x16 => if x16 = true then (some (([] : List (S44)), 8)) else (if 1 ≤ (x0.size : Int) then ((manometerref05_Bare.f k (x0.extract 1 x0.size)).bind fun t320 => (manometerref05_Parse.l0 k t320 (([] : List (S44))))) else (none))
def manometerref05_Parse.l0 : Nat → ByteArray → List (S44) → Option ((List (S44)) × Int)
 | 0, _, _ => none
 | k + 1, x0, x4 => if x0.toList = ([] : List UInt8) then (manometerref05_Parse.j2 k x0 x4 false) else (if 0 < (x0.size : Int) then (manometerref05_Parse.j2 k x0 x4 ((bt x0 0) != 125)) else (none))
def manometerref05_Parse.j2 : Nat → ByteArray → List (S44) → Bool → Option ((List (S44)) × Int)
 | 0, _, _, _ => none
 | k + 1, x0, x4, x27 => if x27 = true then ((manometerref05_pair.f k x0).bind fun bt324 => (if bt324.2.2.2 = true then (manometerref05_Parse.j3 k x4 bt324.2.2.1 (bt324.2.2.1.toList == ([] : List UInt8)) bt324.1 bt324.2.1) else (manometerref05_Parse.j3 k x4 bt324.2.2.1 true bt324.1 bt324.2.1))) else (if x0.toList = ([] : List UInt8) then (some (([] : List (S44)), 8)) else (if 1 ≤ (x0.size : Int) then ((manometerref05_Bare.f k (x0.extract 1 x0.size)).bind fun t333 => (if t333.toList = ([] : List UInt8) then ((manometerref05_Make.f k x4).bind fun bt334 => (some (bt334.1, bt334.2))) else (some (([] : List (S44)), 8)))) else (none)))
def manometerref05_Parse.j3 : Nat → List (S44) → ByteArray → Bool → ByteArray → ByteArray → Option ((List (S44)) × Int)
 | 0, _, _, _, _, _ => none
 | k + 1, x4, x6, x39, x329000, x329001 => if x39 = true then (some (([] : List (S44)), 8)) else (if x4.length < 4398046511104 then ((some (x4 ++ [(⟨x329000, x329001⟩ : S44)] : List (S44))).bind fun y329 => (if 0 < (x6.size : Int) then (if (bt x6 0) = 44 then (if 1 ≤ (x6.size : Int) then ((manometerref05_Bare.f k (x6.extract 1 x6.size)).bind fun t332 => (manometerref05_Parse.l0 k t332 y329)) else (none)) else (if (bt x6 0) = 125 then (manometerref05_Parse.l0 k x6 y329) else (some (([] : List (S44)), 8)))) else (none))) else (none))
end
def manometerref05_Parse.f (k : Nat) (a0 : ByteArray) : Option ((List (S44)) × Int) := (manometerref05_Bare.f k a0).bind fun t319 => (if t319.toList = ([] : List UInt8) then (manometerref05_Parse.j0 k t319 true) else (if 0 < (t319.size : Int) then (manometerref05_Parse.j0 k t319 ((bt t319 0) != 123)) else (none)))
set_option maxHeartbeats 8000000 in
set_option maxRecDepth 100000 in
theorem manometerref05_Parse.calls (k : Nat) (a0 : ByteArray) (r1 : List (S44)) (r2 : Int) (w : World) (h : manometerref05_Parse.f k a0 = some (r1, r2)) :
  Calls Tryd.prog 26 #[.string a0] w fun e w' => ∃ v0_ : Value, e = .returned (.tuple #[v0_, .int .i64 r2]) ∧ Kd.R k44 44 w' w.heap.size (fun _ => True) v0_ r1 ∧ Below w.heap.size w w' := by
 have hu44 := Tryd.underlying44
 have HB := Aside0.mk (Below.refl w.heap.size w)
 have H : ((manometerref05_Bare.f k a0).bind fun t319 => (if t319.toList = ([] : List UInt8) then (manometerref05_Parse.j0 k t319 true) else (if 0 < (t319.size : Int) then (manometerref05_Parse.j0 k t319 ((bt t319 0) != 123)) else (none)))) = some (r1, r2) := h
 clear h
 replace H := Option.bind_eq_some_iff.mp H
 obtain ⟨t319, A20, H⟩ := H
 replace H : (if t319.toList = ([] : List UInt8) then (manometerref05_Parse.j0 k t319 true) else (if 0 < (t319.size : Int) then (manometerref05_Parse.j0 k t319 ((bt t319 0) != 123)) else (none))) = some (r1, r2) := H
 have A2 := Aside0.mk A20
 clear A20
 have HC3 := Aside0.mk H
 clear H
 go_enter Tryd.func26, Tryd.ntmps26
 go_upto_region 2 with (first | ((with_reducible refine gate_callee (f := 62) rfl ?_); refine goesL_ (some 9) rfl rfl Tryd.func62 (by kernel_rfl) rfl #[.string a0] rfl y2_ ?_; (with_reducible refine (manometerref05_Bare.calls k a0 t319 _ A2.out).mono ?_); rintro e w' ⟨rfl, ⟨nd, rfl⟩⟩; refine ⟨_, rfl, ?_⟩))
 (try simp only [Act.put, List.setIfInBounds_toArray, List.set_cons_zero, List.set_cons_succ])
 go_cut [16] (fun v16 wc => ∃ (kq : Nat) (x16_2 : Bool), v16 = .bool x16_2 ∧ Aside0 (manometerref05_Parse.j0 kq t319 x16_2 = some (r1, r2)) ∧ Aside0 (kq ≤ k) ∧ Aside0 (Below w.heap.size w wc))
 case first =>
  have H := HC3.out
  clear HC3
  by_cases c4 : t319.toList = ([] : List UInt8)
  ·rw [if_pos c4] at H
   have c4b0 : (t319.toList == ([] : List UInt8)) = true := beq_iff_eq.mpr c4
   have c4b1 : (t319.toList != ([] : List UInt8)) = false := bne_eq_false_iff_eq.mpr c4
   clear c4
   (first | rw [c4b0] | (simp only [i64_w, i32_w]; rw [c4b0]) | skip)
   have H' := Aside0.mk H
   clear H
   go_wp2
   go_meet
   case rel => exact ⟨_, (true), y5_, H', ⟨y64_⟩, ⟨y1_⟩⟩
  ·rw [if_neg c4] at H
   have c4b0 : (t319.toList == ([] : List UInt8)) = false := beq_eq_false_iff_ne.mpr c4
   have c4b1 : (t319.toList != ([] : List UInt8)) = true := bne_iff_ne.mpr c4
   (first | rw [c4b0] | (simp only [i64_w, i32_w]; rw [c4b0]) | skip)
   by_cases c5 : 0 < (t319.size : Int)
   ·rw [if_pos c5] at H
    have c5b0 : decide (0 < (t319.size : Int)) = true := decide_eq_true c5
    have c5b1 : decide (0 < t319.size) = true := decide_eq_true (by omega)
    clear c5
    have H' := Aside0.mk H
    clear H
    have p6 : 0 ≤ (0 : Int) := (by omega)
    have q6 : 0 < t319.size := (by have : (0 : Int) < (t319.size : Int) := of_decide_eq_true y3_; omega)
    have hx6 : ∀ h : 0 < t319.size, ((t319[0]'h).toNat : Int) = bt t319 0 := bt_at t319 0
    clear p6
    have qi6 : (0 < (t319.size : Int)) = True := eq_true (of_decide_eq_true y3_)
    replace q6 := eq_true q6
    go_wp2
    go_meet
    case rel => exact ⟨_, (((bt t319 0) != 123)), y5_, H', ⟨y64_⟩, ⟨y1_⟩⟩
   ·rw [if_neg c5] at H
    exact absurd H (by simp)
 case rest =>
  clear HC3
  try clear c2
  try clear p2
  try clear c4
  try clear c4b0
  try clear c4b1
  try clear c5
  try clear c5b0
  try clear c5b1
  try clear c6
  try clear p6
  try clear q6
  try clear hx6
  try clear qi6
  try clear p6
  try clear q6
  obtain ⟨kq, x16_2, rfl, HA, HJ2, HB⟩ := hcut
  cases kq with
  | zero => exact absurd HA.out (by simp [manometerref05_Parse.j0])
  | succ kj2 =>
   have H := HA.out
   clear HA
   simp only [manometerref05_Parse.j0] at H
   by_cases c7 : x16_2 = true
   ·subst c7
    have H1 : (some (([] : List (S44)), 8)) = some (r1, r2) := by rw [if_pos rfl] at H; exact H
    clear H
    have H := H1
    clear H1
    simp only [Option.some.injEq, Prod.mk.injEq] at H
    obtain ⟨rfl, rfl⟩ := H
    go_wp2
    go_ret2
    exact ⟨_, y7_, y10_, y1_⟩
   ·replace c7 := Bool.eq_false_iff.mpr c7
    subst c7
    have H1 : (if 1 ≤ (t319.size : Int) then ((manometerref05_Bare.f kj2 (t319.extract 1 t319.size)).bind fun t320 => (manometerref05_Parse.l0 kj2 t320 (([] : List (S44))))) else (none)) = some (r1, r2) := by rw [if_neg (show ¬ (false = true) by decide)] at H; exact H
    clear H
    have H := H1
    clear H1
    by_cases c8 : 1 ≤ (t319.size : Int)
    ·rw [if_pos c8] at H
     have c8b0 := eq_true c8
     have c8b1 : decide (1 ≤ (t319.size : Int)) = true := decide_eq_true c8
     clear c8
     replace H := Option.bind_eq_some_iff.mp H
     obtain ⟨t320, A90, H⟩ := H
     replace H : (manometerref05_Parse.l0 kj2 t320 (([] : List (S44)))) = some (r1, r2) := H
     have A9 := Aside0.mk A90
     clear A90
     obtain ⟨y321, hy321⟩ : ∃ y_ : List (S44), y_ = (([] : List (S44))) := ⟨_, rfl⟩
     replace H : (manometerref05_Parse.l0 kj2 t320 y321) = some (r1, r2) := by first | (rw [hy321]; with_reducible exact H) | (have H2_ := (Option.bind_some _ _).symm.trans H; rw [hy321]; with_reducible exact H2_) | (have H2_ := (Option.bind_some _ _).symm.trans H; with_reducible exact H2_) | with_reducible exact H | (rw [hy321]; exact H) | exact H
     have Ny321 := Aside0.mk hy321
     clear hy321
     have H' := Aside0.mk H
     clear H
     go_wp2_with (first | ((with_reducible refine gate_callee (f := 62) rfl ?_); refine goesL_ (some 19) rfl rfl Tryd.func62 (by kernel_rfl) rfl #[.string (t319.extract 1 t319.size)] rfl y2_ ?_; (with_reducible refine (manometerref05_Bare.calls kj2 (t319.extract 1 t319.size) t320 _ A9.out).mono ?_); rintro e w' ⟨rfl, ⟨nd, rfl⟩⟩; refine ⟨_, rfl, ?_⟩) | ((with_reducible refine gate_dst (N := 20) rfl ?_); refine Kd.R_lit k44 _ 44 ?hg (N := 20) ?hd (xs := ([] : List (S44))) (inner := []) (ok := fun _ => True) (okp := fun _ => True) ?hr ?hp (fun _ hk => hk) trivial (Below.refl _ _) (Nat.le_refl _) (by simp) ?_; (case hd => rfl); (case hg => rfl); (case hr => first | (go_simp; done) | (go_simp; rfl)); (case hp => exact (Reps.none _ _)); intro v322 w10 ho11 hb hg_ hnew_; clear hg_ hnew_; (first | rw [← Ny321.out] at ho11 | (simp only [Int.reduceToNat] at ho11; rw [← Ny321.out] at ho11)); have n0_ := Aside0.mk (Kd.R_lower ho11 (below_size y1_)); have n1_ := Aside0.mk (below_step y1_ hb); clear HB; have HO323 := n0_; have HB := n1_; clear n0_ n1_; clear hb ho11))
     go_loopg [0, 4] kj2 (fun kq v0 v4 w' => ∃ (x0_2 : ByteArray) (x4_2 : List (S44)), v0 = .string x0_2 ∧ Aside0 (manometerref05_Parse.l0 kq x0_2 x4_2 = some (r1, r2)) ∧ Aside0 (kq ≤ kj2) ∧ Aside0 (Kd.R k44 44 w' w.heap.size (fun _ => True) v4 x4_2) ∧ Aside0 (Below w.heap.size w w'))
     case atStart => exact ⟨(t320), (y321), y5_, H', ⟨Nat.le_refl _⟩, ⟨by (with_reducible repeat (first | apply Kd.R_alloc | apply Kd.R_drewN | apply Kd.R_drew)); exact HO323.out⟩, ⟨y1_⟩⟩
     case round =>
      clear H'
      try clear c2
      try clear p2
      try clear c4
      try clear c4b0
      try clear c4b1
      try clear c5
      try clear c5b0
      try clear c5b1
      try clear c6
      try clear p6
      try clear q6
      try clear hx6
      try clear qi6
      try clear c7
      try clear c8
      try clear c8b0
      try clear c8b1
      try clear p2
      try clear p6
      try clear q6
      obtain ⟨x0_2, x4_2, rfl, HA, HK2, HO_4, HB⟩ := hrel
      cases gk with
      | zero => exact absurd HA.out (by simp [manometerref05_Parse.l0])
      | succ k2 =>
       have H := HA.out
       clear HA
       simp only [manometerref05_Parse.l0] at H
       have HC12 := Aside0.mk H
       clear H
       go_upto_region 6 with (fail)
       go_cut [27] (fun v27 wc => ∃ (kq : Nat) (x27_11 : Bool), v27 = .bool x27_11 ∧ Aside0 (manometerref05_Parse.j2 kq x0_2 x4_2 x27_11 = some (r1, r2)) ∧ Aside0 (kq ≤ k2) ∧ Aside0 (Kd.R k44 44 wc w.heap.size (fun _ => True) u4 x4_2) ∧ Aside0 (Below w.heap.size w wc))
       case first =>
        have H := HC12.out
        clear HC12
        by_cases c13 : x0_2.toList = ([] : List UInt8)
        ·rw [if_pos c13] at H
         have c13b0 : (x0_2.toList == ([] : List UInt8)) = true := beq_iff_eq.mpr c13
         have c13b1 : (x0_2.toList != ([] : List UInt8)) = false := bne_eq_false_iff_eq.mpr c13
         clear c13
         (first | rw [c13b0] | (simp only [i64_w, i32_w]; rw [c13b0]) | skip)
         have H' := Aside0.mk H
         clear H
         go_wp2
         go_meet
         case rel => exact ⟨_, (false), y5_, H', ⟨by have := HJ2.out; have := HK2.out; first | omega | exact Nat.le_refl _⟩, ⟨y16_⟩, ⟨y1_⟩⟩
        ·rw [if_neg c13] at H
         have c13b0 : (x0_2.toList == ([] : List UInt8)) = false := beq_eq_false_iff_ne.mpr c13
         have c13b1 : (x0_2.toList != ([] : List UInt8)) = true := bne_iff_ne.mpr c13
         (first | rw [c13b0] | (simp only [i64_w, i32_w]; rw [c13b0]) | skip)
         by_cases c14 : 0 < (x0_2.size : Int)
         ·rw [if_pos c14] at H
          have c14b0 : decide (0 < (x0_2.size : Int)) = true := decide_eq_true c14
          have c14b1 : decide (0 < x0_2.size) = true := decide_eq_true (by omega)
          clear c14
          have H' := Aside0.mk H
          clear H
          have p15 : 0 ≤ (0 : Int) := (by omega)
          have q15 : 0 < x0_2.size := (by have : (0 : Int) < (x0_2.size : Int) := of_decide_eq_true y3_; omega)
          have hx15 : ∀ h : 0 < x0_2.size, ((x0_2[0]'h).toNat : Int) = bt x0_2 0 := bt_at x0_2 0
          clear p15
          have qi15 : (0 < (x0_2.size : Int)) = True := eq_true (of_decide_eq_true y3_)
          replace q15 := eq_true q15
          go_wp2
          go_meet
          case rel => exact ⟨_, (((bt x0_2 0) != 125)), y5_, H', ⟨by have := HJ2.out; have := HK2.out; first | omega | exact Nat.le_refl _⟩, ⟨y16_⟩, ⟨y1_⟩⟩
         ·rw [if_neg c14] at H
          exact absurd H (by simp)
       case rest =>
        clear HC12
        try clear c1
        try clear p1
        try clear q1
        try clear hx1
        try clear qi1
        try clear c2
        try clear p2
        try clear c4
        try clear c4b0
        try clear c4b1
        try clear c5
        try clear c5b0
        try clear c5b1
        try clear c6
        try clear p6
        try clear q6
        try clear hx6
        try clear qi6
        try clear c7
        try clear c8
        try clear c8b0
        try clear c8b1
        try clear c13
        try clear c13b0
        try clear c13b1
        try clear c14
        try clear c14b0
        try clear c14b1
        try clear p15
        try clear q15
        try clear hx15
        try clear qi15
        try clear p15
        try clear p2
        try clear p6
        try clear q15
        try clear q6
        obtain ⟨kq, x27_11, rfl, HA, HJ11, HO_4, HB⟩ := hcut
        cases kq with
        | zero => exact absurd HA.out (by simp [manometerref05_Parse.j2])
        | succ kj11 =>
         have H := HA.out
         clear HA
         simp only [manometerref05_Parse.j2] at H
         by_cases c16 : x27_11 = true
         ·subst c16
          have H1 : ((manometerref05_pair.f kj11 x0_2).bind fun bt324 => (if bt324.2.2.2 = true then (manometerref05_Parse.j3 kj11 x4_2 bt324.2.2.1 (bt324.2.2.1.toList == ([] : List UInt8)) bt324.1 bt324.2.1) else (manometerref05_Parse.j3 kj11 x4_2 bt324.2.2.1 true bt324.1 bt324.2.1))) = some (r1, r2) := by rw [if_pos rfl] at H; exact H
          clear H
          have H := H1
          clear H1
          replace H := Option.bind_eq_some_iff.mp H
          obtain ⟨⟨t324, t325, t326, t327⟩, A170, H⟩ := H
          replace H : (if t327 = true then (manometerref05_Parse.j3 kj11 x4_2 t326 (t326.toList == ([] : List UInt8)) t324 t325) else (manometerref05_Parse.j3 kj11 x4_2 t326 true t324 t325)) = some (r1, r2) := H
          have A17 := Aside0.mk A170
          clear A170
          have HC18 := Aside0.mk H
          clear H
          go_upto_region 8 with (first | ((with_reducible refine gate_callee (f := 63) rfl ?_); refine goesL_ (some 30) rfl rfl Tryd.func63 (by kernel_rfl) rfl #[.string x0_2] rfl y2_ ?_; (with_reducible refine (manometerref05_pair.calls kj11 x0_2 t324 t325 t326 t327 _ A17.out).mono ?_); rintro e w19 ⟨rfl, hb⟩; refine ⟨_, rfl, ?_⟩; have n0_ := Aside0.mk (Kd.R_below y16_ hb); have n1_ := Aside0.mk (below_step y1_ hb); clear HO_4; clear HB; have HO_4 := n0_; have HB := n1_; clear n0_ n1_; (try clear hb); (try clear hb2); (try clear hk); (try clear hi)) | ((with_reducible refine gate_dst (N := 5) rfl ?_); refine box_event ?hg (N := 5) ?hd (cs := #[.string (⟨#[]⟩ : ByteArray), .string (⟨#[]⟩ : ByteArray)]) (t := 44) ?hr ?_; (case hd => rfl); (case hg => rfl); (case hr => first | (go_simp; done) | (go_simp; rfl)); intro gb328 hg w20 hbox hb; have n0_ := Aside0.mk (Kd.R_below (Kd.R_elderB y16_ gb328 (Nat.le_of_eq hg.symm)) hb); have n1_ := Aside0.mk (below_step y1_ hb); have n2_ := Aside0.mk (hbox); have n3_ := Aside0.mk ((y13_ : w.heap.size ≤ gb328)); have n4_ := Aside0.mk ((y13_ : w.heap.size ≤ gb328)); clear HO_4; clear HB; have HO_4 := n0_; have HB := n1_; have BK328 := n2_; have GW328 := n3_; have GE328 := n4_; clear n0_ n1_ n2_ n3_ n4_; clear hb hbox hg; have hcz21_0 : w20.cell? ⟨gb328, 0, none⟩ = some (.string (⟨#[]⟩ : ByteArray)) := (blk_cell BK328.out 0).trans rfl; have hcz21_1 : w20.cell? ⟨gb328, 1, none⟩ = some (.string (⟨#[]⟩ : ByteArray)) := (blk_cell BK328.out 1).trans rfl; have hfz21_0 := blk_frozen BK328.out 0; have hfz21_1 := blk_frozen BK328.out 1))
          (try simp only [Act.put, List.setIfInBounds_toArray, List.set_cons_zero, List.set_cons_succ])
          go_cut [39] (fun v39 wc => ∃ (kq : Nat) (x39_17 : Bool), v39 = .bool x39_17 ∧ Aside0 (manometerref05_Parse.j3 kq x4_2 t326 x39_17 t324 t325 = some (r1, r2)) ∧ Aside0 (kq ≤ kj11) ∧ Aside0 (Kd.R k44 44 wc w.heap.size (fun k_ => k_ ≠ gb328) u4 x4_2) ∧ Aside0 (wc.heap[gb328]? = some (.cells #[.string t324, .string t325] 44 (0, 0))) ∧ Aside0 (Below w.heap.size w wc))
          case first =>
           have H := HC18.out
           clear HC18
           by_cases c22 : t327 = true
           ·subst c22
            have H1 : (manometerref05_Parse.j3 kj11 x4_2 t326 (t326.toList == ([] : List UInt8)) t324 t325) = some (r1, r2) := by rw [if_pos rfl] at H; exact H
            clear H
            have H := H1
            clear H1
            have H' := Aside0.mk H
            clear H
            go_wp2
            go_meet
            case rel => exact ⟨_, ((t326.toList == ([] : List UInt8))), y5_, H', ⟨by have := HJ2.out; have := HK2.out; have := HJ11.out; first | omega | exact Nat.le_refl _⟩, ⟨y63_⟩, ⟨y51_⟩, ⟨y18_⟩⟩
           ·replace c22 := Bool.eq_false_iff.mpr c22
            subst c22
            have H1 : (manometerref05_Parse.j3 kj11 x4_2 t326 true t324 t325) = some (r1, r2) := by rw [if_neg (show ¬ (false = true) by decide)] at H; exact H
            clear H
            have H := H1
            clear H1
            have H' := Aside0.mk H
            clear H
            go_wp2
            go_meet
            case rel => exact ⟨_, (true), y5_, H', ⟨by have := HJ2.out; have := HK2.out; have := HJ11.out; first | omega | exact Nat.le_refl _⟩, ⟨y63_⟩, ⟨y51_⟩, ⟨y18_⟩⟩
          case rest =>
           clear HC18
           try clear c1
           try clear p1
           try clear q1
           try clear hx1
           try clear qi1
           try clear c2
           try clear p2
           try clear c4
           try clear c4b0
           try clear c4b1
           try clear c5
           try clear c5b0
           try clear c5b1
           try clear c6
           try clear p6
           try clear q6
           try clear hx6
           try clear qi6
           try clear c7
           try clear c8
           try clear c8b0
           try clear c8b1
           try clear c13
           try clear c13b0
           try clear c13b1
           try clear c14
           try clear c14b0
           try clear c14b1
           try clear p15
           try clear q15
           try clear hx15
           try clear qi15
           try clear c16
           try clear c22
           try clear hcz21_0
           try clear hcz21_1
           try clear hfz21_0
           try clear hfz21_1
           try clear p1
           try clear p15
           try clear p2
           try clear p6
           try clear q1
           try clear q15
           try clear q6
           obtain ⟨kq, x39_17, rfl, HA, HJ17, HO_4, BK328, HB⟩ := hcut
           cases kq with
           | zero => exact absurd HA.out (by simp [manometerref05_Parse.j3])
           | succ kj17 =>
            have H := HA.out
            clear HA
            simp only [manometerref05_Parse.j3] at H
            by_cases c23 : x39_17 = true
            ·subst c23
             have H1 : (some (([] : List (S44)), 8)) = some (r1, r2) := by rw [if_pos rfl] at H; exact H
             clear H
             have H := H1
             clear H1
             simp only [Option.some.injEq, Prod.mk.injEq] at H
             obtain ⟨rfl, rfl⟩ := H
             go_wp2
             go_ret2
             exact ⟨_, y7_, y10_, y18_⟩
            ·replace c23 := Bool.eq_false_iff.mpr c23
             subst c23
             have H1 : (if x4_2.length < 4398046511104 then ((some (x4_2 ++ [(⟨t324, t325⟩ : S44)] : List (S44))).bind fun y329 => (if 0 < (t326.size : Int) then (if (bt t326 0) = 44 then (if 1 ≤ (t326.size : Int) then ((manometerref05_Bare.f kj17 (t326.extract 1 t326.size)).bind fun t332 => (manometerref05_Parse.l0 kj17 t332 y329)) else (none)) else (if (bt t326 0) = 125 then (manometerref05_Parse.l0 kj17 t326 y329) else (some (([] : List (S44)), 8)))) else (none))) else (none)) = some (r1, r2) := by rw [if_neg (show ¬ (false = true) by decide)] at H; exact H
             clear H
             have H := H1
             clear H1
             by_cases c24 : x4_2.length < 4398046511104
             ·rw [if_pos c24] at H
              have LMc24 := Aside0.mk c24
              clear c24
              obtain ⟨y329, hy329⟩ : ∃ y_ : List (S44), y_ = (x4_2 ++ [(⟨t324, t325⟩ : S44)]) := ⟨_, rfl⟩
              replace H : (if 0 < (t326.size : Int) then (if (bt t326 0) = 44 then (if 1 ≤ (t326.size : Int) then ((manometerref05_Bare.f kj17 (t326.extract 1 t326.size)).bind fun t332 => (manometerref05_Parse.l0 kj17 t332 y329)) else (none)) else (if (bt t326 0) = 125 then (manometerref05_Parse.l0 kj17 t326 y329) else (some (([] : List (S44)), 8)))) else (none)) = some (r1, r2) := by first | (rw [hy329]; with_reducible exact H) | (have H2_ := (Option.bind_some _ _).symm.trans H; rw [hy329]; with_reducible exact H2_) | (have H2_ := (Option.bind_some _ _).symm.trans H; with_reducible exact H2_) | with_reducible exact H | (rw [hy329]; exact H) | exact H
              have Ny329 := Aside0.mk hy329
              clear hy329
              by_cases c25 : 0 < (t326.size : Int)
              ·rw [if_pos c25] at H
               have c25b0 : decide (0 < (t326.size : Int)) = true := decide_eq_true c25
               have c25b1 : decide (0 < t326.size) = true := decide_eq_true (by omega)
               clear c25
               by_cases c27 : (bt t326 0) = 44
               ·rw [if_pos c27] at H
                have c27b0 : ((bt t326 0) == 44) = true := beq_iff_eq.mpr c27
                have c27b1 : ((bt t326 0) != 44) = false := bne_eq_false_iff_eq.mpr c27
                clear c27
                by_cases c28 : 1 ≤ (t326.size : Int)
                ·rw [if_pos c28] at H
                 have c28b0 := eq_true c28
                 have c28b1 : decide (1 ≤ (t326.size : Int)) = true := decide_eq_true c28
                 clear c28
                 replace H := Option.bind_eq_some_iff.mp H
                 obtain ⟨t332, A290, H⟩ := H
                 replace H : (manometerref05_Parse.l0 kj17 t332 y329) = some (r1, r2) := H
                 have A29 := Aside0.mk A290
                 clear A290
                 have H' := Aside0.mk H
                 clear H
                 have hcz30_0 : wc.cell? ⟨gb328, 0, none⟩ = some (.string t324) := (blk_cell BK328.out 0).trans rfl
                 have hcz30_1 : wc.cell? ⟨gb328, 1, none⟩ = some (.string t325) := (blk_cell BK328.out 1).trans rfl
                 have hfz30_0 := blk_frozen BK328.out 0
                 have hfz30_1 := blk_frozen BK328.out 1
                 go_wp2_with (first | ((with_reducible refine gate_builtin (b := .append) (xs := #[.tmp 40, .tmp 42]) rfl ?_); at_builtin; refine Kd.R_append k44 (w0 := w) w.heap.size rfl (.tmp 40) (.tmp 42) 29 44 (.agg #[(.string ⟨#[]⟩), (.string ⟨#[]⟩)]) 32 rfl Tryd.underlying29 info44 rfl (by decide) (by omega) u4 x4_2 (⟨t324, t325⟩ : S44) [.string t324, .string t325] (fun k_ => k_ ≠ gb328) (fun _ => False) rfl rfl ?aP (fun _ hk => hk.elim) ?aF ?aO ?aB ?aS ?aL ?_; (case aP => exact k44_mkM _ _ _ (⟨t324, t325⟩ : S44)); (case aB => exact y18_); (case aF => exact (fun k_ hk => Kd.freshB (g := gb328) (o := .cells #[.string t324, .string t325] 44 (0, 0)) y43_ k_ hk)); (case aO => exact y16_); (case aS => exact (below_size y18_)); (case aL => have := LMc24.out; omega); intro v330 w31 ho hb hg hat; rw [← Ny329.out] at ho; have n0_ := Aside0.mk (blk_grown (g := gb328) (o := .cells #[.string t324, .string t325] 44 (0, 0)) y43_ hg (Kd.R_away HO_4.out (fun _ hk => hk))); have n1_ := Aside0.mk (hb); have n2_ := Aside0.mk (ho); clear BK328; clear HB; clear HO_4; have BK328 := n0_; have HB := n1_; have HO331 := n2_; clear n0_ n1_ n2_; clear ho hb hg hat; have p26 : 0 ≤ (0 : Int) := (by omega); have q26 : 0 < t326.size := y78_; have hx26 : ∀ h : 0 < t326.size, ((t326[0]'h).toNat : Int) = bt t326 0 := bt_at t326 0; clear p26; have qi26 : (0 < (t326.size : Int)) = True := eq_true (of_decide_eq_true y3_); replace q26 := eq_true q26) | ((with_reducible refine gate_callee (f := 62) rfl ?_); refine goesL_ (some 50) rfl rfl Tryd.func62 (by kernel_rfl) rfl #[.string (t326.extract 1 t326.size)] rfl y2_ ?_; (with_reducible refine (manometerref05_Bare.calls kj17 (t326.extract 1 t326.size) t332 _ A29.out).mono ?_); rintro e w' ⟨rfl, ⟨nd, rfl⟩⟩; refine ⟨_, rfl, ?_⟩))
                 go_roundg kj17
                 case measure => have := HJ2.out; have := HK2.out; have := HJ11.out; have := HJ17.out; omega
                 case rel => exact ⟨(t332), (y329), y5_, H', ⟨by have := HJ2.out; have := HK2.out; have := HJ11.out; have := HJ17.out; omega⟩, ⟨by (with_reducible repeat (first | apply Kd.R_alloc | apply Kd.R_drewN | apply Kd.R_drew)); exact Kd.R_mono HO331.out (fun _ hk => trivial)⟩, ⟨y18_⟩⟩
                ·rw [if_neg c28] at H
                 exact absurd H (by simp)
               ·rw [if_neg c27] at H
                have c27b0 : ((bt t326 0) == 44) = false := beq_eq_false_iff_ne.mpr c27
                have c27b1 : ((bt t326 0) != 44) = true := bne_iff_ne.mpr c27
                by_cases c33 : (bt t326 0) = 125
                ·rw [if_pos c33] at H
                 have c33b0 : ((bt t326 0) == 125) = true := beq_iff_eq.mpr c33
                 have c33b1 : ((bt t326 0) != 125) = false := bne_eq_false_iff_eq.mpr c33
                 clear c33
                 have H' := Aside0.mk H
                 clear H
                 have hcz34_0 : wc.cell? ⟨gb328, 0, none⟩ = some (.string t324) := (blk_cell BK328.out 0).trans rfl
                 have hcz34_1 : wc.cell? ⟨gb328, 1, none⟩ = some (.string t325) := (blk_cell BK328.out 1).trans rfl
                 have hfz34_0 := blk_frozen BK328.out 0
                 have hfz34_1 := blk_frozen BK328.out 1
                 go_wp2_with (first | ((with_reducible refine gate_builtin (b := .append) (xs := #[.tmp 40, .tmp 42]) rfl ?_); at_builtin; refine Kd.R_append k44 (w0 := w) w.heap.size rfl (.tmp 40) (.tmp 42) 29 44 (.agg #[(.string ⟨#[]⟩), (.string ⟨#[]⟩)]) 32 rfl Tryd.underlying29 info44 rfl (by decide) (by omega) u4 x4_2 (⟨t324, t325⟩ : S44) [.string t324, .string t325] (fun k_ => k_ ≠ gb328) (fun _ => False) rfl rfl ?aP (fun _ hk => hk.elim) ?aF ?aO ?aB ?aS ?aL ?_; (case aP => exact k44_mkM _ _ _ (⟨t324, t325⟩ : S44)); (case aB => exact y18_); (case aF => exact (fun k_ hk => Kd.freshB (g := gb328) (o := .cells #[.string t324, .string t325] 44 (0, 0)) y43_ k_ hk)); (case aO => exact y16_); (case aS => exact (below_size y18_)); (case aL => have := LMc24.out; omega); intro v330 w35 ho hb hg hat; rw [← Ny329.out] at ho; have n0_ := Aside0.mk (blk_grown (g := gb328) (o := .cells #[.string t324, .string t325] 44 (0, 0)) y43_ hg (Kd.R_away HO_4.out (fun _ hk => hk))); have n1_ := Aside0.mk (hb); have n2_ := Aside0.mk (ho); clear BK328; clear HB; clear HO_4; have BK328 := n0_; have HB := n1_; have HO331 := n2_; clear n0_ n1_ n2_; clear ho hb hg hat; have p26 : 0 ≤ (0 : Int) := (by omega); have q26 : 0 < t326.size := y78_; have hx26 : ∀ h : 0 < t326.size, ((t326[0]'h).toNat : Int) = bt t326 0 := bt_at t326 0; clear p26; have qi26 : (0 < (t326.size : Int)) = True := eq_true (of_decide_eq_true y3_); replace q26 := eq_true q26; have p32 : 0 ≤ (0 : Int) := (by omega); have q32 : 0 < t326.size := y78_; have hx32 : ∀ h : 0 < t326.size, ((t326[0]'h).toNat : Int) = bt t326 0 := bt_at t326 0; clear p32; have qi32 : (0 < (t326.size : Int)) = True := eq_true (of_decide_eq_true y3_); replace q32 := eq_true q32))
                 go_roundg kj17
                 case measure => have := HJ2.out; have := HK2.out; have := HJ11.out; have := HJ17.out; omega
                 case rel => exact ⟨(t326), (y329), y5_, H', ⟨by have := HJ2.out; have := HK2.out; have := HJ11.out; have := HJ17.out; omega⟩, ⟨by (with_reducible repeat (first | apply Kd.R_alloc | apply Kd.R_drewN | apply Kd.R_drew)); exact Kd.R_mono HO331.out (fun _ hk => trivial)⟩, ⟨y18_⟩⟩
                ·rw [if_neg c33] at H
                 have c33b0 : ((bt t326 0) == 125) = false := beq_eq_false_iff_ne.mpr c33
                 have c33b1 : ((bt t326 0) != 125) = true := bne_iff_ne.mpr c33
                 simp only [Option.some.injEq, Prod.mk.injEq] at H
                 obtain ⟨rfl, rfl⟩ := H
                 have hcz36_0 : wc.cell? ⟨gb328, 0, none⟩ = some (.string t324) := (blk_cell BK328.out 0).trans rfl
                 have hcz36_1 : wc.cell? ⟨gb328, 1, none⟩ = some (.string t325) := (blk_cell BK328.out 1).trans rfl
                 have hfz36_0 := blk_frozen BK328.out 0
                 have hfz36_1 := blk_frozen BK328.out 1
                 go_wp2_with (first | ((with_reducible refine gate_builtin (b := .append) (xs := #[.tmp 40, .tmp 42]) rfl ?_); at_builtin; refine Kd.R_append k44 (w0 := w) w.heap.size rfl (.tmp 40) (.tmp 42) 29 44 (.agg #[(.string ⟨#[]⟩), (.string ⟨#[]⟩)]) 32 rfl Tryd.underlying29 info44 rfl (by decide) (by omega) u4 x4_2 (⟨t324, t325⟩ : S44) [.string t324, .string t325] (fun k_ => k_ ≠ gb328) (fun _ => False) rfl rfl ?aP (fun _ hk => hk.elim) ?aF ?aO ?aB ?aS ?aL ?_; (case aP => exact k44_mkM _ _ _ (⟨t324, t325⟩ : S44)); (case aB => exact y18_); (case aF => exact (fun k_ hk => Kd.freshB (g := gb328) (o := .cells #[.string t324, .string t325] 44 (0, 0)) y43_ k_ hk)); (case aO => exact y16_); (case aS => exact (below_size y18_)); (case aL => have := LMc24.out; omega); intro v330 w37 ho hb hg hat; rw [← Ny329.out] at ho; have n0_ := Aside0.mk (blk_grown (g := gb328) (o := .cells #[.string t324, .string t325] 44 (0, 0)) y43_ hg (Kd.R_away HO_4.out (fun _ hk => hk))); have n1_ := Aside0.mk (hb); have n2_ := Aside0.mk (ho); clear BK328; clear HB; clear HO_4; have BK328 := n0_; have HB := n1_; have HO331 := n2_; clear n0_ n1_ n2_; clear ho hb hg hat; have p26 : 0 ≤ (0 : Int) := (by omega); have q26 : 0 < t326.size := y78_; have hx26 : ∀ h : 0 < t326.size, ((t326[0]'h).toNat : Int) = bt t326 0 := bt_at t326 0; clear p26; have qi26 : (0 < (t326.size : Int)) = True := eq_true (of_decide_eq_true y3_); replace q26 := eq_true q26; have p32 : 0 ≤ (0 : Int) := (by omega); have q32 : 0 < t326.size := y78_; have hx32 : ∀ h : 0 < t326.size, ((t326[0]'h).toNat : Int) = bt t326 0 := bt_at t326 0; clear p32; have qi32 : (0 < (t326.size : Int)) = True := eq_true (of_decide_eq_true y3_); replace q32 := eq_true q32))
                 go_ret2
                 exact ⟨_, y7_, y10_, y18_⟩
              ·rw [if_neg c25] at H
               exact absurd H (by simp)
             ·rw [if_neg c24] at H
              exact absurd H (by simp)
         ·replace c16 := Bool.eq_false_iff.mpr c16
          subst c16
          have H1 : (if x0_2.toList = ([] : List UInt8) then (some (([] : List (S44)), 8)) else (if 1 ≤ (x0_2.size : Int) then ((manometerref05_Bare.f kj11 (x0_2.extract 1 x0_2.size)).bind fun t333 => (if t333.toList = ([] : List UInt8) then ((manometerref05_Make.f kj11 x4_2).bind fun bt334 => (some (bt334.1, bt334.2))) else (some (([] : List (S44)), 8)))) else (none))) = some (r1, r2) := by rw [if_neg (show ¬ (false = true) by decide)] at H; exact H
          clear H
          have H := H1
          clear H1
          by_cases c38 : x0_2.toList = ([] : List UInt8)
          ·rw [if_pos c38] at H
           have c38b0 : (x0_2.toList == ([] : List UInt8)) = true := beq_iff_eq.mpr c38
           have c38b1 : (x0_2.toList != ([] : List UInt8)) = false := bne_eq_false_iff_eq.mpr c38
           clear c38
           simp only [Option.some.injEq, Prod.mk.injEq] at H
           obtain ⟨rfl, rfl⟩ := H
           go_wp2
           go_ret2
           exact ⟨_, y7_, y10_, y1_⟩
          ·rw [if_neg c38] at H
           have c38b0 : (x0_2.toList == ([] : List UInt8)) = false := beq_eq_false_iff_ne.mpr c38
           have c38b1 : (x0_2.toList != ([] : List UInt8)) = true := bne_iff_ne.mpr c38
           by_cases c39 : 1 ≤ (x0_2.size : Int)
           ·rw [if_pos c39] at H
            have c39b0 := eq_true c39
            have c39b1 : decide (1 ≤ (x0_2.size : Int)) = true := decide_eq_true c39
            clear c39
            replace H := Option.bind_eq_some_iff.mp H
            obtain ⟨t333, A400, H⟩ := H
            replace H : (if t333.toList = ([] : List UInt8) then ((manometerref05_Make.f kj11 x4_2).bind fun bt334 => (some (bt334.1, bt334.2))) else (some (([] : List (S44)), 8))) = some (r1, r2) := H
            have A40 := Aside0.mk A400
            clear A400
            by_cases c41 : t333.toList = ([] : List UInt8)
            ·rw [if_pos c41] at H
             have c41b0 : (t333.toList == ([] : List UInt8)) = true := beq_iff_eq.mpr c41
             have c41b1 : (t333.toList != ([] : List UInt8)) = false := bne_eq_false_iff_eq.mpr c41
             clear c41
             replace H := Option.bind_eq_some_iff.mp H
             obtain ⟨⟨t334, t335⟩, A420, H⟩ := H
             replace H : (some (t334, t335)) = some (r1, r2) := H
             have A42 := Aside0.mk A420
             clear A420
             simp only [Option.some.injEq, Prod.mk.injEq] at H
             obtain ⟨rfl, rfl⟩ := H
             go_wp2_with (first | (go_at_call 62; (with_reducible refine (manometerref05_Bare.calls kj11 (x0_2.extract 1 x0_2.size) t333 _ A40.out).mono ?_); rintro e w' ⟨rfl, ⟨nd, rfl⟩⟩; obtain ⟨Ao43, co43, eo43⟩ := Kd.R_slice HO_4.out; subst eo43) | ((with_reducible refine gate_callee (f := 35) rfl ?_); refine goesL_ (some 63) rfl rfl Tryd.func35 (by kernel_rfl) rfl #[.slice Ao43 x4_2.length co43] rfl y2_ ?_; (with_reducible refine (manometerref05_Make.calls kj11 _ _ x4_2 t334 t335 _ ?side1 ?side2 A42.out).mono ?_); (case side1 => repeat (first | exact (Kd.R_reads' HO_4.out).2.2 | (with_reducible refine Kd.C_alloc ?_ _) | (with_reducible refine Kd.C_drewN ?_ _) | (with_reducible refine Kd.C_drew ?_))); (case side2 => exact (Kd.R_reads' HO_4.out).2.1); rintro e w44 ⟨v336, rfl, ho0, hb⟩; refine ⟨_, rfl, ?_⟩; have n0_ := Aside0.mk (Kd.R_elder' y16_ (Kd.R_base ho0) hb); have n1_ := Aside0.mk (Kd.R_lower (Kd.R_new' ho0 (Kd.R_lt y16_)) (below_size y1_)); have n2_ := Aside0.mk (below_step y1_ hb); clear HO_4; clear HB; have HO_4 := n0_; have HO337 := n1_; have HB := n2_; clear n0_ n1_ n2_; (try clear hb); (try clear hb2); (try clear hk); (try clear hi); (try clear ho0)))
             go_ret2
             exact ⟨_, y7_, by (with_reducible repeat (first | apply Kd.R_alloc | apply Kd.R_drewN | apply Kd.R_drew)); exact Kd.R_mono HO337.out (fun _ hk => trivial), y1_⟩
            ·rw [if_neg c41] at H
             have c41b0 : (t333.toList == ([] : List UInt8)) = false := beq_eq_false_iff_ne.mpr c41
             have c41b1 : (t333.toList != ([] : List UInt8)) = true := bne_iff_ne.mpr c41
             simp only [Option.some.injEq, Prod.mk.injEq] at H
             obtain ⟨rfl, rfl⟩ := H
             go_wp2_with (first | (go_at_call 62; (with_reducible refine (manometerref05_Bare.calls kj11 (x0_2.extract 1 x0_2.size) t333 _ A40.out).mono ?_); rintro e w' ⟨rfl, ⟨nd, rfl⟩⟩))
             go_ret2
             exact ⟨_, y7_, y10_, y1_⟩
           ·rw [if_neg c39] at H
            exact absurd H (by simp)
    ·rw [if_neg c8] at H
     exact absurd H (by simp)
end Go.Proofs.YtdhmabofncbohaaDoor.PLB
