import Derived.Test.YtclndenmmhdokaaDoorCHashLettersH16
import Derived.Test.YtclndenmmhdokaaDoorCHashLettersPHLx0
import Derived.Test.YtclndenmmhdokaaDoorCHashLettersHT
namespace Go.Proofs.YtclndenmmhdokaaDoor.PHB
open Go.RowKit Go.Proofs.YtclndenmmhdokaaDoorW.PrintWords Go.Proofs.YtclndenmmhdokaaDoorW.PrintLast Go.Proofs.YtclndenmmhdokaaDoorW.PrintMore
attribute [local go_sem] max2_int min2_int max_two min_two max_three min_three max_four min_four
set_option linter.unusedVariables false
set_option linter.unusedSimpArgs false
def manometerlaw03_live.f : Option (Bool) := some true
theorem manometerlaw03_live.calls  (r : Bool) (w : World) (hT : Aside0 (Tab w)) (h : manometerlaw03_live.f  = some r) :
  Calls Tryd.prog 12 #[] w fun e w' => e = .returned (.bool r) ∧ Below w.heap.size w w' := by
 obtain rfl := Option.some.inj h
 exact live_calls w hT.out
def manometerlaw03_short.l0 : Nat → List (List Int) → List (List Int) → Int → Int → Option (Bool)
 | 0, _, _, _, _ => none
 | k + 1, x0, x5, x6, x7 => if x7 < x6 then (if 0 ≤ x7 then (if x7 < (x5.length : Int) then (if ((rd_L2 x5 x7).length : Int) > 2000 then (some false) else (manometerlaw03_short.l0 k x0 x5 x6 (wrap64 (x7 + 1)))) else (none)) else (none)) else (some (decide ((x0.length : Int) ≤ 30)))
def manometerlaw03_short.f (k : Nat) (l0 : List (List Int)) : Option (Bool) := manometerlaw03_short.l0 k l0 l0 (l0.length : Int) 0
set_option maxHeartbeats 8000000 in
set_option maxRecDepth 100000 in
theorem manometerlaw03_short.calls (k : Nat) (A0 : Option Addr) (c0 : Nat) (l0 : List (List Int)) (r : Bool) (w : World) (hr0 : Kd.C (Kd.slice 5 (Kd.int .u8)) w A0 l0.length l0) (hc0 : l0.length ≤ c0) (h : manometerlaw03_short.f k l0 = some r) :
  Calls Tryd.prog 13 #[.slice A0 l0.length c0] w fun e w' => e = .returned (.bool r) ∧ Drawn0 w w' := by
 have HR0 := Aside0.mk hr0
 have HC0 := Aside0.mk hc0
 clear hr0 hc0
 have H : (manometerlaw03_short.l0 k l0 l0 (l0.length : Int) 0) = some r := h
 clear h
 have H' := Aside0.mk H
 clear H
 go_enter Tryd.func13, Tryd.ntmps13
 go_wp2
 go_loopg [7] k (fun kq v7 w' => ∃ (x7_1 : Int), v7 = .int .i64 x7_1 ∧ Aside0 (manometerlaw03_short.l0 kq l0 l0 (l0.length : Int) x7_1 = some r) ∧ Aside0 (kq ≤ k) ∧ Drawn0 w w')
 case atStart => exact ⟨(0), y7_, H', ⟨Nat.le_refl _⟩, y10_⟩
 case round =>
  clear H'
  try clear c1
  obtain ⟨x7_1, rfl, HA, HK1, ⟨m1, rfl⟩⟩ := hrel
  cases gk with
  | zero => exact absurd HA.out (by simp [manometerlaw03_short.l0])
  | succ k1 =>
   have H := HA.out
   clear HA
   simp only [manometerlaw03_short.l0] at H
   by_cases c2 : x7_1 < (l0.length : Int)
   ·rw [if_pos c2] at H
    have c2b0 : decide (x7_1 < (l0.length : Int)) = true := decide_eq_true c2
    clear c2
    by_cases c3 : 0 ≤ x7_1
    ·rw [if_pos c3] at H
     have c3b0 : decide (0 ≤ x7_1) = true := decide_eq_true c3
     clear c3
     by_cases c4 : x7_1 < (l0.length : Int)
     ·rw [if_pos c4] at H
      have c4b0 : decide (x7_1 < (l0.length : Int)) = true := decide_eq_true c4
      clear c4
      by_cases c5 : ((rd_L2 l0 x7_1).length : Int) > 2000
      ·rw [if_pos c5] at H
       have c5b0 : decide (2000 < ((rd_L2 l0 x7_1).length : Int)) = true := decide_eq_true c5
       have c5b1 : decide (2000 < (rd_L2 l0 x7_1).length) = true := decide_eq_true (by omega)
       clear c5
       obtain rfl := Option.some.inj H
       have p101 : 0 ≤ (x7_1 : Int) := of_decide_eq_true y6_
       have q101 : x7_1 < (l0.length : Int) := of_decide_eq_true y6_
       obtain ⟨ad101, A101_0, c101_0, e101, hx101_0, hl101_0, hi101_0⟩ := at_L2 HR0.out x7_1 p101 q101
       cases e101
       have HR101_0 := Aside0.mk hi101_0
       have HC101_0 := Aside0.mk hl101_0
       clear hi101_0 hl101_0
       replace p101 := eq_true p101
       replace q101 := eq_true q101
       go_wp2
       go_ret
       exact ⟨y15_, y10_⟩
      ·rw [if_neg c5] at H
       have c5b0 : decide (2000 < ((rd_L2 l0 x7_1).length : Int)) = false := decide_eq_false c5
       have c5b1 : decide (2000 < (rd_L2 l0 x7_1).length) = false := decide_eq_false (by omega)
       clear c5
       have H' := Aside0.mk H
       clear H
       have p101 : 0 ≤ (x7_1 : Int) := of_decide_eq_true y6_
       have q101 : x7_1 < (l0.length : Int) := of_decide_eq_true y6_
       obtain ⟨ad101, A101_0, c101_0, e101, hx101_0, hl101_0, hi101_0⟩ := at_L2 HR0.out x7_1 p101 q101
       cases e101
       have HR101_0 := Aside0.mk hi101_0
       have HC101_0 := Aside0.mk hl101_0
       clear hi101_0 hl101_0
       replace p101 := eq_true p101
       replace q101 := eq_true q101
       go_wp2
       go_roundg k1
       case measure => have := HK1.out; omega
       case rel => exact ⟨(wrap64 (x7_1 + 1)), y7_, H', ⟨y18_⟩, y10_⟩
     ·rw [if_neg c4] at H
      exact absurd H (by simp)
    ·rw [if_neg c3] at H
     exact absurd H (by simp)
   ·rw [if_neg c2] at H
    have c2b0 : decide (x7_1 < (l0.length : Int)) = false := decide_eq_false c2
    clear c2
    obtain rfl := Option.some.inj H
    go_wp2
    go_ret
    exact ⟨y15_, y10_⟩
def manometerref01_Equal.f (l0 : List Int) (l1 : List Int) : Option (Bool) := if l0.length ≤ 1000000000000 then (if l1.length ≤ 1000000000000 then some (decide (l0 = l1)) else none) else none
theorem manometerref01_Equal.calls (A0 : Option Addr) (c0 : Nat) (l0 : List Int) (A1 : Option Addr) (c1 : Nat) (l1 : List Int) (r : Bool) (w : World) (hr0 : Kd.C (Kd.int .u8) w A0 l0.length l0) (hc0 : l0.length ≤ c0) (hr1 : Kd.C (Kd.int .u8) w A1 l1.length l1) (hc1 : l1.length ≤ c1) (h : manometerref01_Equal.f l0 l1 = some r) :
  Calls Tryd.prog 15 #[.slice A0 l0.length c0, .slice A1 l1.length c1] w fun e w' => e = .returned (.bool r) ∧ Drawn0 w w' := by
 unfold manometerref01_Equal.f at h
 split at h
 ·rename_i h1
  split at h
  ·rename_i h2
   obtain rfl := Option.some.inj h
   refine (requal_calls w A0 A1 c0 c1 l0 l1 hr0 hr1 h1 h2).mono ?_
   rintro e w' ⟨rfl, n, hn⟩
   exact ⟨rfl, by first | exact ⟨n, hn⟩ | exact ⟨n, hn.symm⟩⟩
  ·cases h
 ·cases h
def hash_Unarmor.f (a0 : ByteArray) : Option (List Int × Int) := if a0.size ≤ 1000000 then some (unL a0.data.toList 0 0 []) else none
theorem hash_Unarmor.calls (a0 : ByteArray) (r1 : List Int) (r2 : Int) (w : World) (h : hash_Unarmor.f a0 = some (r1, r2)) :
  Calls Tryd.prog 28 #[.string a0] w fun e w' => ∃ v0_ : Value, e = .returned (.tuple #[v0_, .int .i64 r2]) ∧ Kd.R (Kd.int .u8) 5 w' w.heap.size (fun _ => True) v0_ r1 ∧ Below w.heap.size w w' := by
 unfold hash_Unarmor.f at h
 split at h
 ·rename_i h1
  exact unarmor_calls w a0 h1 r1 r2 (Option.some.inj h)
 ·cases h
def manometerref01_Bits.f (l0 : List Int) (a1 : Int) : Option (List Bool) := if l0.length ≤ 1000000 then (if l0.all (fun x => decide (0 ≤ x ∧ x < 256)) = true then (if 0 ≤ a1 then (if a1 ≤ 8 * (l0.length : Int) then some (bitsOf l0 a1.toNat) else none) else none) else none) else none
theorem manometerref01_Bits.calls (A0 : Option Addr) (c0 : Nat) (l0 : List Int) (a1 : Int) (r : List Bool) (w : World) (hr0 : Kd.C (Kd.int .u8) w A0 l0.length l0) (hc0 : l0.length ≤ c0) (h : manometerref01_Bits.f l0 a1 = some r) :
  Calls Tryd.prog 57 #[.slice A0 l0.length c0, .int .i64 a1] w fun e w' => ∃ v0_ : Value, e = .returned (v0_) ∧ Kd.R Kd.bool 4 w' w.heap.size (fun _ => True) v0_ r ∧ Below w.heap.size w w' := by
 unfold manometerref01_Bits.f at h
 split at h
 ·rename_i h1
  split at h
  ·rename_i h2
   split at h
   ·rename_i h3
    split at h
    ·rename_i h4
     obtain rfl := Option.some.inj h
     obtain ⟨n, rfl⟩ := Int.eq_ofNat_of_zero_le h3
     rw [Int.toNat_natCast]
     refine (rbits_calls w A0 c0 l0 n hr0 (fun x hx => of_decide_eq_true (List.all_eq_true.1 h2 x hx)) (by omega) h1).mono ?_
     rintro e w' ⟨v, rfl, hR, hB⟩
     exact ⟨v, rfl, Kd.R_mono hR (fun _ _ => trivial), hB⟩
    ·cases h
   ·cases h
  ·cases h
 ·cases h
def manometerref01_Number.f (l0 : List Bool) : Option (Int) := if l0.length ≤ 64 then some ((Bq.bnum l0 : Nat) : Int) else none
theorem manometerref01_Number.calls (A0 : Option Addr) (c0 : Nat) (l0 : List Bool) (r : Int) (w : World) (hr0 : Kd.C Kd.bool w A0 l0.length l0) (hc0 : l0.length ≤ c0) (h : manometerref01_Number.f l0 = some r) :
  Calls Tryd.prog 58 #[.slice A0 l0.length c0] w fun e w' => e = .returned (.int .u64 r) ∧ Drawn0 w w' := by
 unfold manometerref01_Number.f at h
 split at h
 ·rename_i h1
  obtain rfl := Option.some.inj h
  refine (number_calls w A0 c0 l0 hr0 h1).mono ?_
  rintro e w' ⟨rfl, rfl⟩
  exact ⟨rfl, Drawn0.refl _⟩
 ·cases h
mutual
def manometerref03_Armor.l0 : Nat → List Bool → Option (ByteArray)
 | 0, _ => none
 | k + 1, x3 => if ((x3.length : Int) % 6) = 0 then (manometerref03_Armor.l1 k x3 (⟨#[]⟩ : ByteArray)) else (if x3.length < 140737488355328 then (manometerref03_Armor.l0 k (x3 ++ [false])) else (none))
def manometerref03_Armor.l1 : Nat → List Bool → ByteArray → Option (ByteArray)
 | 0, _, _ => none
 | k + 1, x3, x4 => if (x3.length : Int) > 0 then (if 6 ≤ (x3.length : Int) then ((manometerref01_Number.f (x3.take 6)).bind fun t112 => (if 0 ≤ t112 then (if t112 ≤ (IntKind.u64.wrap (t112 + 1)) then (if (IntKind.u64.wrap (t112 + 1)) ≤ 64 then (if x4.size + ((⟨#[65, 66, 67, 68, 69, 70, 71, 72, 73, 74, 75, 76, 77, 78, 79, 80, 81, 82, 83, 84, 85, 86, 87, 88, 89, 90, 97, 98, 99, 100, 101, 102, 103, 104, 105, 106, 107, 108, 109, 110, 111, 112, 113, 114, 115, 116, 117, 118, 119, 120, 121, 122, 48, 49, 50, 51, 52, 53, 54, 55, 56, 57, 45, 95]⟩ : ByteArray).extract (t112 : Int).toNat ((IntKind.u64.wrap (t112 + 1)) : Int).toNat).size ≤ 9223372036854775807 then (manometerref03_Armor.l1 k (x3.drop (6 : Int).toNat) (x4 ++ ((⟨#[65, 66, 67, 68, 69, 70, 71, 72, 73, 74, 75, 76, 77, 78, 79, 80, 81, 82, 83, 84, 85, 86, 87, 88, 89, 90, 97, 98, 99, 100, 101, 102, 103, 104, 105, 106, 107, 108, 109, 110, 111, 112, 113, 114, 115, 116, 117, 118, 119, 120, 121, 122, 48, 49, 50, 51, 52, 53, 54, 55, 56, 57, 45, 95]⟩ : ByteArray).extract (t112 : Int).toNat ((IntKind.u64.wrap (t112 + 1)) : Int).toNat))) else (none)) else (none)) else (none)) else (none))) else (none)) else (some x4)
end
def manometerref03_Armor.f (k : Nat) (l0 : List Int) : Option (ByteArray) := (manometerref01_Bits.f l0 (wrap64 (8 * (l0.length : Int)))).bind fun t102 => (manometerref03_Armor.l0 k t102)
set_option maxHeartbeats 8000000 in
set_option maxRecDepth 100000 in
theorem manometerref03_Armor.calls (k : Nat) (A0 : Option Addr) (c0 : Nat) (l0 : List Int) (r : ByteArray) (w : World) (hr0 : Kd.C (Kd.int .u8) w A0 l0.length l0) (hc0 : l0.length ≤ c0) (h : manometerref03_Armor.f k l0 = some r) :
  Calls Tryd.prog 33 #[.slice A0 l0.length c0] w fun e w' => e = .returned (.string r) ∧ Below w.heap.size w w' := by
 have HR0 := Aside0.mk hr0
 have HC0 := Aside0.mk hc0
 clear hr0 hc0
 have HB := Aside0.mk (Below.refl w.heap.size w)
 have H : ((manometerref01_Bits.f l0 (wrap64 (8 * (l0.length : Int)))).bind fun t102 => (manometerref03_Armor.l0 k t102)) = some r := h
 clear h
 replace H := Option.bind_eq_some_iff.mp H
 obtain ⟨t102, A20, H⟩ := H
 replace H : (manometerref03_Armor.l0 k t102) = some r := H
 have A2 := Aside0.mk A20
 clear A20
 have H' := Aside0.mk H
 clear H
 go_enter Tryd.func33, Tryd.ntmps33
 go_wp2_with (first | ((with_reducible refine gate_callee (f := 57) rfl ?_); refine goesL_ (some 10) rfl rfl Tryd.func57 (by kernel_rfl) rfl #[.slice A0 l0.length c0, .int .i64 (wrap64 (8 * (l0.length : Int)))] rfl y2_ ?_; (with_reducible refine (manometerref01_Bits.calls _ _ l0 (wrap64 (8 * (l0.length : Int))) t102 _ ?side1 ?side2 A2.out).mono ?_); (case side1 => repeat (first | exact HR0.out | (with_reducible refine Kd.C_alloc ?_ _) | (with_reducible refine Kd.C_drewN ?_ _) | (with_reducible refine Kd.C_drew ?_))); (case side2 => exact HC0.out); rintro e w3 ⟨v103, rfl, ho0, hb⟩; refine ⟨_, rfl, ?_⟩; have n0_ := Aside0.mk (Kd.R_lower ho0 (below_size y1_)); have n1_ := Aside0.mk (below_step y1_ hb); clear HB; have HO104 := n0_; have HB := n1_; clear n0_ n1_; (try clear hb); (try clear hb2); (try clear hk); (try clear hi); (try clear ho0)))
 go_loopg [3] k (fun kq v3 w' => ∃ (x3_1 : List Bool), Aside0 (manometerref03_Armor.l0 kq x3_1 = some r) ∧ Aside0 (kq ≤ k) ∧ Aside0 (Kd.Q Kd.bool 4 w' w.heap.size (fun _ => True) v3 x3_1) ∧ Aside0 (Below w.heap.size w w'))
 case atStart => exact ⟨(t102), H', ⟨Nat.le_refl _⟩, ⟨Kd.Q_of_R (by (with_reducible repeat (first | apply Kd.R_alloc | apply Kd.R_drewN | apply Kd.R_drew)); exact HO104.out)⟩, ⟨y1_⟩⟩
 case round =>
  clear H'
  try clear p2
  try clear c3
  obtain ⟨x3_1, HA, HK1, HO_3, HB⟩ := hrel
  cases gk with
  | zero => exact absurd HA.out (by simp [manometerref03_Armor.l0])
  | succ k1 =>
   have H := HA.out
   clear HA
   simp only [manometerref03_Armor.l0] at H
   by_cases c4 : ((x3_1.length : Int) % 6) = 0
   ·rw [if_pos c4] at H
    have c4b0 : (((x3_1.length : Int) % 6) == 0) = true := beq_iff_eq.mpr c4
    have c4b1 : (((x3_1.length : Int) % 6) != 0) = false := bne_eq_false_iff_eq.mpr c4
    clear c4
    have H' := Aside0.mk H
    clear H
    obtain ⟨Ao5, co5, eo5, _⟩ := Kd.Q_slice HO_3.out
    subst eo5
    go_wp2
    go_loopg [3, 4] k1 (fun kq v3 v4 w' => ∃ (x3_2 : List Bool) (x4_2 : ByteArray), v4 = .string x4_2 ∧ Aside0 (manometerref03_Armor.l1 kq x3_2 x4_2 = some r) ∧ Aside0 (kq ≤ k1) ∧ Aside0 (Kd.Q Kd.bool 4 w' w.heap.size (fun _ => True) v3 x3_2) ∧ Aside0 (Below w.heap.size w w'))
    case atStart => exact ⟨(x3_1), ((⟨#[]⟩ : ByteArray)), y7_, H', ⟨Nat.le_refl _⟩, ⟨by (with_reducible repeat (first | apply Kd.Q_alloc | apply Kd.Q_drewN | apply Kd.Q_drew)); exact HO_3.out⟩, ⟨y1_⟩⟩
    case round =>
     clear H'
     try clear p2
     try clear c3
     try clear c4
     try clear c4b0
     try clear c4b1
     try clear c5
     try clear p2
     obtain ⟨x3_2, x4_2, rfl, HA, HK2, HO_3, HB⟩ := hrel
     cases gk with
     | zero => exact absurd HA.out (by simp [manometerref03_Armor.l1])
     | succ k2 =>
      have H := HA.out
      clear HA
      simp only [manometerref03_Armor.l1] at H
      by_cases c6 : (x3_2.length : Int) > 0
      ·rw [if_pos c6] at H
       have c6b0 : decide (0 < (x3_2.length : Int)) = true := decide_eq_true c6
       have c6b1 : decide (0 < x3_2.length) = true := decide_eq_true (by omega)
       clear c6
       by_cases c7 : 6 ≤ (x3_2.length : Int)
       ·rw [if_pos c7] at H
        have c7b0 := eq_true c7
        have c7b1 : decide (6 ≤ (x3_2.length : Int)) = true := decide_eq_true c7
        clear c7
        obtain ⟨y108, hy108⟩ : ∃ y_ : List Bool, y_ = (x3_2.take 6) := ⟨_, rfl⟩
        replace H : ((manometerref01_Number.f y108).bind fun t112 => (if 0 ≤ t112 then (if t112 ≤ (IntKind.u64.wrap (t112 + 1)) then (if (IntKind.u64.wrap (t112 + 1)) ≤ 64 then (if x4_2.size + ((⟨#[65, 66, 67, 68, 69, 70, 71, 72, 73, 74, 75, 76, 77, 78, 79, 80, 81, 82, 83, 84, 85, 86, 87, 88, 89, 90, 97, 98, 99, 100, 101, 102, 103, 104, 105, 106, 107, 108, 109, 110, 111, 112, 113, 114, 115, 116, 117, 118, 119, 120, 121, 122, 48, 49, 50, 51, 52, 53, 54, 55, 56, 57, 45, 95]⟩ : ByteArray).extract (t112 : Int).toNat ((IntKind.u64.wrap (t112 + 1)) : Int).toNat).size ≤ 9223372036854775807 then (manometerref03_Armor.l1 k2 (x3_2.drop (6 : Int).toNat) (x4_2 ++ ((⟨#[65, 66, 67, 68, 69, 70, 71, 72, 73, 74, 75, 76, 77, 78, 79, 80, 81, 82, 83, 84, 85, 86, 87, 88, 89, 90, 97, 98, 99, 100, 101, 102, 103, 104, 105, 106, 107, 108, 109, 110, 111, 112, 113, 114, 115, 116, 117, 118, 119, 120, 121, 122, 48, 49, 50, 51, 52, 53, 54, 55, 56, 57, 45, 95]⟩ : ByteArray).extract (t112 : Int).toNat ((IntKind.u64.wrap (t112 + 1)) : Int).toNat))) else (none)) else (none)) else (none)) else (none))) = some r := by first | (rw [hy108]; with_reducible exact H) | (have H2_ := (Option.bind_some _ _).symm.trans H; rw [hy108]; with_reducible exact H2_) | (have H2_ := (Option.bind_some _ _).symm.trans H; with_reducible exact H2_) | with_reducible exact H | (rw [hy108]; exact H) | exact H
        have Ny108 := Aside0.mk hy108
        clear hy108
        replace H := Option.bind_eq_some_iff.mp H
        obtain ⟨t112, A80, H⟩ := H
        replace H : (if 0 ≤ t112 then (if t112 ≤ (IntKind.u64.wrap (t112 + 1)) then (if (IntKind.u64.wrap (t112 + 1)) ≤ 64 then (if x4_2.size + ((⟨#[65, 66, 67, 68, 69, 70, 71, 72, 73, 74, 75, 76, 77, 78, 79, 80, 81, 82, 83, 84, 85, 86, 87, 88, 89, 90, 97, 98, 99, 100, 101, 102, 103, 104, 105, 106, 107, 108, 109, 110, 111, 112, 113, 114, 115, 116, 117, 118, 119, 120, 121, 122, 48, 49, 50, 51, 52, 53, 54, 55, 56, 57, 45, 95]⟩ : ByteArray).extract (t112 : Int).toNat ((IntKind.u64.wrap (t112 + 1)) : Int).toNat).size ≤ 9223372036854775807 then (manometerref03_Armor.l1 k2 (x3_2.drop (6 : Int).toNat) (x4_2 ++ ((⟨#[65, 66, 67, 68, 69, 70, 71, 72, 73, 74, 75, 76, 77, 78, 79, 80, 81, 82, 83, 84, 85, 86, 87, 88, 89, 90, 97, 98, 99, 100, 101, 102, 103, 104, 105, 106, 107, 108, 109, 110, 111, 112, 113, 114, 115, 116, 117, 118, 119, 120, 121, 122, 48, 49, 50, 51, 52, 53, 54, 55, 56, 57, 45, 95]⟩ : ByteArray).extract (t112 : Int).toNat ((IntKind.u64.wrap (t112 + 1)) : Int).toNat))) else (none)) else (none)) else (none)) else (none)) = some r := H
        have A8 := Aside0.mk A80
        clear A80
        by_cases c9 : 0 ≤ t112
        ·rw [if_pos c9] at H
         have c9b0 := eq_true c9
         have c9b1 : decide (0 ≤ t112) = true := decide_eq_true c9
         clear c9
         by_cases c10 : t112 ≤ (IntKind.u64.wrap (t112 + 1))
         ·rw [if_pos c10] at H
          have c10b0 := eq_true c10
          have c10b1 : decide (t112 ≤ (IntKind.u64.wrap (t112 + 1))) = true := decide_eq_true c10
          by_cases c11 : (IntKind.u64.wrap (t112 + 1)) ≤ 64
          ·rw [if_pos c11] at H
           have c11b0 := eq_true c11
           have c11b1 : decide ((IntKind.u64.wrap (t112 + 1)) ≤ 64) = true := decide_eq_true c11
           by_cases c12 : x4_2.size + ((⟨#[65, 66, 67, 68, 69, 70, 71, 72, 73, 74, 75, 76, 77, 78, 79, 80, 81, 82, 83, 84, 85, 86, 87, 88, 89, 90, 97, 98, 99, 100, 101, 102, 103, 104, 105, 106, 107, 108, 109, 110, 111, 112, 113, 114, 115, 116, 117, 118, 119, 120, 121, 122, 48, 49, 50, 51, 52, 53, 54, 55, 56, 57, 45, 95]⟩ : ByteArray).extract (t112 : Int).toNat ((IntKind.u64.wrap (t112 + 1)) : Int).toNat).size ≤ 9223372036854775807
           ·rw [if_pos c12] at H
            have c12b0 := eq_true c12
            try (have c12z := c12; simp [ByteArray.size_append, Kd.size_mk_] at c12z; replace c12z := eq_false (Nat.not_lt.2 c12z))
            try (have c12m := c12; simp [ByteArray.size_append, Kd.size_mk_] at c12m; rw [Nat.min_eq_left (by omega)] at c12m; replace c12m := eq_false (Nat.not_lt.2 c12m))
            have c12b1 : decide (x4_2.size + ((⟨#[65, 66, 67, 68, 69, 70, 71, 72, 73, 74, 75, 76, 77, 78, 79, 80, 81, 82, 83, 84, 85, 86, 87, 88, 89, 90, 97, 98, 99, 100, 101, 102, 103, 104, 105, 106, 107, 108, 109, 110, 111, 112, 113, 114, 115, 116, 117, 118, 119, 120, 121, 122, 48, 49, 50, 51, 52, 53, 54, 55, 56, 57, 45, 95]⟩ : ByteArray).extract (t112 : Int).toNat ((IntKind.u64.wrap (t112 + 1)) : Int).toNat).size ≤ 9223372036854775807) = true := decide_eq_true c12
            try have c12b2 : (9223372036854775807 < x4_2.size + ((⟨#[65, 66, 67, 68, 69, 70, 71, 72, 73, 74, 75, 76, 77, 78, 79, 80, 81, 82, 83, 84, 85, 86, 87, 88, 89, 90, 97, 98, 99, 100, 101, 102, 103, 104, 105, 106, 107, 108, 109, 110, 111, 112, 113, 114, 115, 116, 117, 118, 119, 120, 121, 122, 48, 49, 50, 51, 52, 53, 54, 55, 56, 57, 45, 95]⟩ : ByteArray).extract (t112 : Int).toNat ((IntKind.u64.wrap (t112 + 1)) : Int).toNat).size) = False := eq_false (Nat.not_lt.2 c12)
            have c13b0 := eq_true (of_decide_eq_true y6_ : 6 ≤ (x3_2.length : Int))
            obtain ⟨y113, hy113⟩ : ∃ y_ : List Bool, y_ = (x3_2.drop (6 : Int).toNat) := ⟨_, rfl⟩
            replace H : (manometerref03_Armor.l1 k2 y113 (x4_2 ++ ((⟨#[65, 66, 67, 68, 69, 70, 71, 72, 73, 74, 75, 76, 77, 78, 79, 80, 81, 82, 83, 84, 85, 86, 87, 88, 89, 90, 97, 98, 99, 100, 101, 102, 103, 104, 105, 106, 107, 108, 109, 110, 111, 112, 113, 114, 115, 116, 117, 118, 119, 120, 121, 122, 48, 49, 50, 51, 52, 53, 54, 55, 56, 57, 45, 95]⟩ : ByteArray).extract (t112 : Int).toNat ((IntKind.u64.wrap (t112 + 1)) : Int).toNat))) = some r := by first | (rw [hy113]; with_reducible exact H) | (have H2_ := (Option.bind_some _ _).symm.trans H; rw [hy113]; with_reducible exact H2_) | (have H2_ := (Option.bind_some _ _).symm.trans H; with_reducible exact H2_) | with_reducible exact H | (rw [hy113]; exact H) | exact H
            have Ny113 := Aside0.mk hy113
            clear hy113
            have H' := Aside0.mk H
            clear H
            obtain ⟨Ao14, co14, eo14, _⟩ := Kd.Q_slice HO_3.out
            subst eo14
            have q15 : (6 : Int) ≤ ((x3_2.length : Int) : Int) := of_decide_eq_true y6_
            obtain ⟨i015, hi015, _, hsz15, _⟩ := info_parts info4
            have hroom15 : x3_2.length ≤ co14 := (Kd.Q_reads' HO_3.out).2.1
            have hC15 : Kd.C Kd.bool _ Ao14 x3_2.length x3_2 := (Kd.Q_reads' HO_3.out).2.2
            have hcut15 := cut_to (P := Tryd.prog) 35 4 .i64 Tryd.underlying35 hi015 Ao14 x3_2.length co14 6 (by omega) q15 hroom15
            have hr15 := Kd.C_take (m := 6) hC15 (by omega)
            have hy15 : y108.length = (6 : Int).toNat := (by rw [Ny108.out, List.length_take]; omega)
            rw [← Ny108.out] at hr15
            rw [← hy15] at hcut15
            have HR111 := Aside0.mk hr15
            have HC111 := Aside0.mk (show y108.length ≤ co14 from by omega)
            clear hr15 hC15 hroom15 hi015 hsz15
            have KY15 := Aside0.mk hy15
            clear hy15
            have KL15 := Aside0.mk (show 6 ≤ x3_2.length from by omega)
            replace q15 := eq_true q15
            go_wp2_with (first | ((with_reducible refine gate_callee (f := 58) rfl ?_); refine goesL_ (some 23) rfl rfl Tryd.func58 (by kernel_rfl) rfl #[.slice Ao14 y108.length co14] rfl y2_ ?_; (with_reducible refine (manometerref01_Number.calls _ _ y108 t112 _ ?side1 ?side2 A8.out).mono ?_); (case side1 => repeat (first | exact (by repeat (first | (with_reducible exact HR111.out) | (with_reducible refine Kd.C_alloc ?_ _) | (with_reducible refine Kd.C_drewN ?_ _) | (with_reducible refine Kd.C_drew ?_) | exact HR111.out)) | (with_reducible refine Kd.C_alloc ?_ _) | (with_reducible refine Kd.C_drewN ?_ _) | (with_reducible refine Kd.C_drew ?_))); (case side2 => exact HC111.out); rintro e w' ⟨rfl, ⟨nd, rfl⟩⟩; refine ⟨_, rfl, ?_⟩; have q16 : (6 : Int) ≤ ((x3_2.length : Int) : Int) := of_decide_eq_true y6_; obtain ⟨i016, hi016, _, hsz16, _⟩ := info_parts info4; have hcut16 := cut_from (P := Tryd.prog) 35 4 .i64 Tryd.underlying35 hi016 1 hsz16 Ao14 x3_2.length co14 6 (by omega) q16; have hr16 := Kd.Q_drop (k := (6 : Int).toNat) HO_3.out (by omega); obtain ⟨A16, hA16⟩ : ∃ A1, A1 = (if co14 = (6 : Int).toNat then Ao14 else (Ao14 : Option Addr).map (·.add ((6 : Int).toNat * 1))) := ⟨_, rfl⟩; obtain ⟨c16, hc16⟩ : ∃ c1, c1 = co14 - (6 : Int).toNat := ⟨_, rfl⟩; have hy16 : y113.length = x3_2.length - (6 : Int).toNat := (by rw [Ny113.out, List.length_drop]); rw [← Ny113.out] at hr16; rw [← hy16, ← hA16, ← hc16] at hcut16; replace hr16 : Kd.Q Kd.bool 4 wr w.heap.size (fun _ => True) (.slice A16 y113.length c16) y113 := (by rw [hA16, hc16, hy16]; exact hr16); have HE16 : Aside0 ((Value.slice A16 y113.length c16).ownBlock = (.slice Ao14 x3_2.length co14 : Value).ownBlock) := ⟨by rw [hA16]; split <;> (cases (Ao14 : Option Addr) <;> rfl)⟩; clear hy16 hi016 hsz16 HO_3 hA16 hc16; have HO115 := Aside0.mk hr16; clear hr16; replace q16 := eq_true q16))
            go_roundg k2
            case measure => have := HK1.out; have := HK2.out; omega
            case rel => exact ⟨(y113), (x4_2 ++ ((⟨#[65, 66, 67, 68, 69, 70, 71, 72, 73, 74, 75, 76, 77, 78, 79, 80, 81, 82, 83, 84, 85, 86, 87, 88, 89, 90, 97, 98, 99, 100, 101, 102, 103, 104, 105, 106, 107, 108, 109, 110, 111, 112, 113, 114, 115, 116, 117, 118, 119, 120, 121, 122, 48, 49, 50, 51, 52, 53, 54, 55, 56, 57, 45, 95]⟩ : ByteArray).extract (t112 : Int).toNat ((IntKind.u64.wrap (t112 + 1)) : Int).toNat)), y7_, H', ⟨by have := HK1.out; have := HK2.out; omega⟩, ⟨by (with_reducible repeat (first | apply Kd.Q_alloc | apply Kd.Q_drewN | apply Kd.Q_drew)); exact HO115.out⟩, ⟨y1_⟩⟩
           ·rw [if_neg c12] at H
            exact absurd H (by simp)
          ·rw [if_neg c11] at H
           exact absurd H (by simp)
         ·rw [if_neg c10] at H
          exact absurd H (by simp)
        ·rw [if_neg c9] at H
         exact absurd H (by simp)
       ·rw [if_neg c7] at H
        exact absurd H (by simp)
      ·rw [if_neg c6] at H
       have c6b0 : decide (0 < (x3_2.length : Int)) = false := decide_eq_false c6
       have c6b1 : decide (0 < x3_2.length) = false := decide_eq_false (by omega)
       clear c6
       obtain rfl := Option.some.inj H
       obtain ⟨Ao17, co17, eo17, _⟩ := Kd.Q_slice HO_3.out
       subst eo17
       go_wp2
       go_ret
       exact ⟨y11_, y1_⟩
   ·rw [if_neg c4] at H
    have c4b0 : (((x3_1.length : Int) % 6) == 0) = false := beq_eq_false_iff_ne.mpr c4
    have c4b1 : (((x3_1.length : Int) % 6) != 0) = true := bne_iff_ne.mpr c4
    by_cases c18 : x3_1.length < 140737488355328
    ·rw [if_pos c18] at H
     have LMc18 := Aside0.mk c18
     clear c18
     obtain ⟨y105, hy105⟩ : ∃ y_ : List Bool, y_ = (x3_1 ++ [false]) := ⟨_, rfl⟩
     replace H : (manometerref03_Armor.l0 k1 y105) = some r := by first | (rw [hy105]; with_reducible exact H) | (have H2_ := (Option.bind_some _ _).symm.trans H; rw [hy105]; with_reducible exact H2_) | (have H2_ := (Option.bind_some _ _).symm.trans H; with_reducible exact H2_) | with_reducible exact H | (rw [hy105]; exact H) | exact H
     have Ny105 := Aside0.mk hy105
     clear hy105
     have H' := Aside0.mk H
     clear H
     obtain ⟨Ao19, co19, eo19, _⟩ := Kd.Q_slice HO_3.out
     subst eo19
     go_wp2_with (first | ((with_reducible refine gate_builtin (b := .append) (xs := #[.tmp 15, .tmp 16]) rfl ?_); at_builtin; refine Kd.Q_append Kd.bool (w0 := w) w.heap.size rfl (.tmp 15) (.tmp 16) 35 4 (.bool false) 1 rfl Tryd.underlying35 info4 rfl (by decide) (by omega) (.slice Ao19 x3_1.length co19) x3_1 false [.bool false] (fun _ => True) (fun _ => False) rfl rfl ?aP (fun _ hk => hk.elim) ?aF ?aO ?aB ?aS ?aL ?_; (case aP => exact rfl); (case aB => exact y1_); (case aF => exact (fun _ _ => trivial)); (case aO => exact (by (with_reducible repeat (first | apply Kd.Q_alloc | apply Kd.Q_drewN | apply Kd.Q_drew)); exact HO_3.out)); (case aS => exact (below_size y1_)); (case aL => have := LMc18.out; omega); intro v106 w20 ho hb hg hat; rw [← Ny105.out] at ho; have n0_ := Aside0.mk (hb); have n1_ := Aside0.mk (ho); clear HB; clear HO_3; have HB := n0_; have HO107 := n1_; clear n0_ n1_; clear ho hb hg hat))
     go_roundg k1
     case measure => have := HK1.out; omega
     case rel => exact ⟨(y105), H', ⟨y18_⟩, ⟨by (with_reducible repeat (first | apply Kd.Q_alloc | apply Kd.Q_drewN | apply Kd.Q_drew)); exact HO107.out⟩, ⟨y1_⟩⟩
    ·rw [if_neg c18] at H
     exact absurd H (by simp)
def manometerref03_value.l0 : Nat → Int → Int → Option (Int)
 | 0, _, _ => none
 | k + 1, x0, x4 => if x4 < 64 then (if 0 ≤ x4 then (if (bt (⟨#[65, 66, 67, 68, 69, 70, 71, 72, 73, 74, 75, 76, 77, 78, 79, 80, 81, 82, 83, 84, 85, 86, 87, 88, 89, 90, 97, 98, 99, 100, 101, 102, 103, 104, 105, 106, 107, 108, 109, 110, 111, 112, 113, 114, 115, 116, 117, 118, 119, 120, 121, 122, 48, 49, 50, 51, 52, 53, 54, 55, 56, 57, 45, 95]⟩ : ByteArray) x4) = x0 then (some (IntKind.u64.wrap (x4))) else (manometerref03_value.l0 k x0 (wrap64 (x4 + 1)))) else (none)) else (some 64)
def manometerref03_value.f (k : Nat) (a0 : Int) : Option (Int) := manometerref03_value.l0 k a0 0
set_option maxHeartbeats 8000000 in
set_option maxRecDepth 100000 in
theorem manometerref03_value.calls (k : Nat) (a0 : Int) (r : Int) (w : World) (h : manometerref03_value.f k a0 = some r) :
  Calls Tryd.prog 52 #[.int .u8 a0] w fun e w' => e = .returned (.int .u64 r) ∧ Drawn0 w w' := by
 have H : (manometerref03_value.l0 k a0 0) = some r := h
 clear h
 have H' := Aside0.mk H
 clear H
 go_enter Tryd.func52, Tryd.ntmps52
 go_wp2
 go_loopg [4] k (fun kq v4 w' => ∃ (x4_1 : Int), v4 = .int .i64 x4_1 ∧ Aside0 (manometerref03_value.l0 kq a0 x4_1 = some r) ∧ Aside0 (kq ≤ k) ∧ Drawn0 w w')
 case atStart => exact ⟨(0), y7_, H', ⟨Nat.le_refl _⟩, y10_⟩
 case round =>
  clear H'
  obtain ⟨x4_1, rfl, HA, HK1, ⟨m1, rfl⟩⟩ := hrel
  cases gk with
  | zero => exact absurd HA.out (by simp [manometerref03_value.l0])
  | succ k1 =>
   have H := HA.out
   clear HA
   simp only [manometerref03_value.l0] at H
   by_cases c2 : x4_1 < 64
   ·rw [if_pos c2] at H
    have c2b0 : decide (x4_1 < 64) = true := decide_eq_true c2
    clear c2
    by_cases c3 : 0 ≤ x4_1
    ·rw [if_pos c3] at H
     have c3b0 : decide (0 ≤ x4_1) = true := decide_eq_true c3
     clear c3
     by_cases c5 : (bt (⟨#[65, 66, 67, 68, 69, 70, 71, 72, 73, 74, 75, 76, 77, 78, 79, 80, 81, 82, 83, 84, 85, 86, 87, 88, 89, 90, 97, 98, 99, 100, 101, 102, 103, 104, 105, 106, 107, 108, 109, 110, 111, 112, 113, 114, 115, 116, 117, 118, 119, 120, 121, 122, 48, 49, 50, 51, 52, 53, 54, 55, 56, 57, 45, 95]⟩ : ByteArray) x4_1) = a0
     ·rw [if_pos c5] at H
      have c5b0 : ((bt (⟨#[65, 66, 67, 68, 69, 70, 71, 72, 73, 74, 75, 76, 77, 78, 79, 80, 81, 82, 83, 84, 85, 86, 87, 88, 89, 90, 97, 98, 99, 100, 101, 102, 103, 104, 105, 106, 107, 108, 109, 110, 111, 112, 113, 114, 115, 116, 117, 118, 119, 120, 121, 122, 48, 49, 50, 51, 52, 53, 54, 55, 56, 57, 45, 95]⟩ : ByteArray) x4_1) == a0) = true := beq_iff_eq.mpr c5
      have c5b1 : ((bt (⟨#[65, 66, 67, 68, 69, 70, 71, 72, 73, 74, 75, 76, 77, 78, 79, 80, 81, 82, 83, 84, 85, 86, 87, 88, 89, 90, 97, 98, 99, 100, 101, 102, 103, 104, 105, 106, 107, 108, 109, 110, 111, 112, 113, 114, 115, 116, 117, 118, 119, 120, 121, 122, 48, 49, 50, 51, 52, 53, 54, 55, 56, 57, 45, 95]⟩ : ByteArray) x4_1) != a0) = false := bne_eq_false_iff_eq.mpr c5
      clear c5
      obtain rfl := Option.some.inj H
      have p4 : 0 ≤ (x4_1 : Int) := of_decide_eq_true y6_
      have q4 : x4_1 < (64 : Int) := of_decide_eq_true y6_
      have hx4 := bt_at (⟨#[65, 66, 67, 68, 69, 70, 71, 72, 73, 74, 75, 76, 77, 78, 79, 80, 81, 82, 83, 84, 85, 86, 87, 88, 89, 90, 97, 98, 99, 100, 101, 102, 103, 104, 105, 106, 107, 108, 109, 110, 111, 112, 113, 114, 115, 116, 117, 118, 119, 120, 121, 122, 48, 49, 50, 51, 52, 53, 54, 55, 56, 57, 45, 95]⟩ : ByteArray) x4_1
      replace p4 := eq_true p4
      replace q4 := eq_true q4
      go_wp2
      go_ret
      exact ⟨y15_, y10_⟩
     ·rw [if_neg c5] at H
      have c5b0 : ((bt (⟨#[65, 66, 67, 68, 69, 70, 71, 72, 73, 74, 75, 76, 77, 78, 79, 80, 81, 82, 83, 84, 85, 86, 87, 88, 89, 90, 97, 98, 99, 100, 101, 102, 103, 104, 105, 106, 107, 108, 109, 110, 111, 112, 113, 114, 115, 116, 117, 118, 119, 120, 121, 122, 48, 49, 50, 51, 52, 53, 54, 55, 56, 57, 45, 95]⟩ : ByteArray) x4_1) == a0) = false := beq_eq_false_iff_ne.mpr c5
      have c5b1 : ((bt (⟨#[65, 66, 67, 68, 69, 70, 71, 72, 73, 74, 75, 76, 77, 78, 79, 80, 81, 82, 83, 84, 85, 86, 87, 88, 89, 90, 97, 98, 99, 100, 101, 102, 103, 104, 105, 106, 107, 108, 109, 110, 111, 112, 113, 114, 115, 116, 117, 118, 119, 120, 121, 122, 48, 49, 50, 51, 52, 53, 54, 55, 56, 57, 45, 95]⟩ : ByteArray) x4_1) != a0) = true := bne_iff_ne.mpr c5
      have H' := Aside0.mk H
      clear H
      have p4 : 0 ≤ (x4_1 : Int) := of_decide_eq_true y6_
      have q4 : x4_1 < (64 : Int) := of_decide_eq_true y6_
      have hx4 := bt_at (⟨#[65, 66, 67, 68, 69, 70, 71, 72, 73, 74, 75, 76, 77, 78, 79, 80, 81, 82, 83, 84, 85, 86, 87, 88, 89, 90, 97, 98, 99, 100, 101, 102, 103, 104, 105, 106, 107, 108, 109, 110, 111, 112, 113, 114, 115, 116, 117, 118, 119, 120, 121, 122, 48, 49, 50, 51, 52, 53, 54, 55, 56, 57, 45, 95]⟩ : ByteArray) x4_1
      replace p4 := eq_true p4
      replace q4 := eq_true q4
      go_wp2
      go_roundg k1
      case measure => have := HK1.out; omega
      case rel => exact ⟨(wrap64 (x4_1 + 1)), y7_, H', ⟨y18_⟩, y10_⟩
    ·rw [if_neg c3] at H
     exact absurd H (by simp)
   ·rw [if_neg c2] at H
    have c2b0 : decide (x4_1 < 64) = false := decide_eq_false c2
    clear c2
    obtain rfl := Option.some.inj H
    go_wp2
    go_ret
    exact ⟨y15_, y10_⟩
def manometerref01_Put.l0 : Nat → List Bool → Int → Int → Option (List Bool)
 | 0, _, _, _ => none
 | k + 1, x0, x1, x7 => if x7 ≥ 0 then (if 0 ≤ (IntKind.u64.wrap (x7)) then (if x0.length < 140737488355328 then (manometerref01_Put.l0 k (x0 ++ [((Go.bits .and .u64 (shr .u64 x1 (IntKind.u64.wrap (x7))) 1) == 1)]) x1 (wrap64 (x7 - 1))) else (none)) else (none)) else (some x0)
def manometerref01_Put.f (k : Nat) (l0 : List Bool) (a1 : Int) (a2 : Int) : Option (List Bool) := manometerref01_Put.l0 k l0 a1 (wrap64 (a2 - 1))
set_option maxHeartbeats 8000000 in
set_option maxRecDepth 100000 in
theorem manometerref01_Put.calls (k : Nat) (P0_ : Nat → Prop) (u9000_ : Value) (l0 : List Bool) (a1 : Int) (a2 : Int) (r : List Bool) (w0 w : World) (hB : Below w0.heap.size w0 w) (ho0 : Kd.R Kd.bool 4 w w0.heap.size P0_ u9000_ l0) (h : manometerref01_Put.f k l0 a1 a2 = some r) :
  Calls Tryd.prog 53 #[u9000_, .int .u64 a1, .int .i64 a2] w fun e w' => ∃ v0_ : Value, e = .returned (v0_) ∧ Kd.R Kd.bool 4 w' w0.heap.size (fun k_ => (P0_ k_ ∨ w.heap.size ≤ k_)) v0_ r ∧ Below w0.heap.size w0 w' ∧ Kept w w' (fun k_ => P0_ k_) := by
 have HO0 := Aside0.mk (show Kd.R Kd.bool 4 w w0.heap.size (fun k_ => (P0_ k_ ∨ w.heap.size ≤ k_)) u9000_ l0 from Kd.R_mono ho0 (fun k_ hk => (.inl hk)))
 have HK := Aside0.mk (Kept.refl w (fun k_ => P0_ k_))
 have HW0 := Aside0.mk hB.size
 have HB := Aside0.mk hB
 clear hB
 have H : (manometerref01_Put.l0 k l0 a1 (wrap64 (a2 - 1))) = some r := h
 clear h
 have H' := Aside0.mk H
 clear H
 go_enter Tryd.func53, Tryd.ntmps53
 go_wp2
 go_loopg [0, 7] k (fun kq v0 v7 w' => ∃ (x0_1 : List Bool) (x7_1 : Int), v7 = .int .i64 x7_1 ∧ Aside0 (manometerref01_Put.l0 kq x0_1 a1 x7_1 = some r) ∧ Aside0 (kq ≤ k) ∧ Aside0 (Kd.R Kd.bool 4 w' w0.heap.size (fun k_ => (P0_ k_ ∨ w.heap.size ≤ k_)) v0 x0_1) ∧ Aside0 (Kept w w' (fun k_ => P0_ k_)) ∧ Aside0 (Below w0.heap.size w0 w'))
 case atStart => exact ⟨(l0), (wrap64 (a2 - 1)), y7_, H', ⟨Nat.le_refl _⟩, ⟨by (with_reducible repeat (first | apply Kd.R_alloc | apply Kd.R_drewN | apply Kd.R_drew)); exact HO0.out⟩, ⟨y17_⟩, ⟨y1_⟩⟩
 case round =>
  clear H'
  try clear p2
  obtain ⟨x0_1, x7_1, rfl, HA, HK1, HO_0, HK, HB⟩ := hrel
  cases gk with
  | zero => exact absurd HA.out (by simp [manometerref01_Put.l0])
  | succ k1 =>
   have H := HA.out
   clear HA
   simp only [manometerref01_Put.l0] at H
   by_cases c4 : x7_1 ≥ 0
   ·rw [if_pos c4] at H
    have c4b0 : decide (0 ≤ x7_1) = true := decide_eq_true c4
    clear c4
    obtain ⟨ji5, hji5⟩ : ∃ j_ : Int, (IntKind.u64.wrap (x7_1)) = j_ := ⟨_, rfl⟩
    replace H : (if 0 ≤ (ji5) then (if x0_1.length < 140737488355328 then (manometerref01_Put.l0 k1 (x0_1 ++ [((Go.bits .and .u64 (shr .u64 a1 (ji5)) 1) == 1)]) a1 (wrap64 (x7_1 - 1))) else (none)) else (none)) = some r := by first | (rw [hji5] at H; exact H) | (simp only [hji5] at H ⊢; exact H)
    by_cases c6 : 0 ≤ (ji5)
    ·rw [if_pos c6] at H
     have c6b0 := eq_true c6
     have c6b1 : decide (0 ≤ (ji5)) = true := decide_eq_true c6
     clear c6
     obtain ⟨ji7, hji7⟩ : ∃ j_ : Int, (shr .u64 a1 (ji5)) = j_ := ⟨_, rfl⟩
     replace H : (if x0_1.length < 140737488355328 then (manometerref01_Put.l0 k1 (x0_1 ++ [((Go.bits .and .u64 (ji7) 1) == 1)]) a1 (wrap64 (x7_1 - 1))) else (none)) = some r := by first | (rw [hji7] at H; exact H) | (simp only [hji7] at H ⊢; exact H)
     have hji7_ : (a1 / 2 ^ min (ji5).toNat 64) = ji7 := hji7
     have hji7z : (ji5) ≤ 64 → (a1 / 2 ^ (ji5).toNat) = ji7 := shr_small hji7
     by_cases c8 : x0_1.length < 140737488355328
     ·rw [if_pos c8] at H
      have LMc8 := Aside0.mk c8
      clear c8
      obtain ⟨y116, hy116⟩ : ∃ y_ : List Bool, y_ = (x0_1 ++ [((Go.bits .and .u64 (ji7) 1) == 1)]) := ⟨_, rfl⟩
      replace H : (manometerref01_Put.l0 k1 y116 a1 (wrap64 (x7_1 - 1))) = some r := by first | (rw [hy116]; with_reducible exact H) | (have H2_ := (Option.bind_some _ _).symm.trans H; rw [hy116]; with_reducible exact H2_) | (have H2_ := (Option.bind_some _ _).symm.trans H; with_reducible exact H2_) | with_reducible exact H | (rw [hy116]; exact H) | exact H
      have Ny116 := Aside0.mk hy116
      clear hy116
      have H' := Aside0.mk H
      clear H
      go_wp2_with (first | ((with_reducible refine gate_builtin (b := .append) (xs := #[.tmp 14, .tmp 21]) rfl ?_); at_builtin; refine Kd.R_append Kd.bool (w0 := w0) w0.heap.size rfl (.tmp 14) (.tmp 21) 35 4 (.bool false) 1 rfl Tryd.underlying35 info4 rfl (by decide) (by omega) u0 x0_1 ((Go.bits .and .u64 (ji7) 1) == 1) [.bool ((Go.bits .and .u64 (ji7) 1) == 1)] (fun k_ => (P0_ k_ ∨ w.heap.size ≤ k_)) (fun _ => False) rfl rfl ?aP (fun _ hk => hk.elim) ?aF ?aO ?aB ?aS ?aL ?_; (case aP => exact rfl); (case aB => exact y1_); (case aF => exact (fun k_ hk => (.inr (Nat.le_trans (by first | exact HK.out.1 | exact (show Kept w _ (fun k_ => P0_ k_) from by repeat (first | (with_reducible first | exact HK.out | apply Kept.alloc | apply Kept.drewN | apply Kept.drew) | exact HK.out)).1) hk)))); (case aO => exact (by (with_reducible repeat (first | apply Kd.R_alloc | apply Kd.R_drewN | apply Kd.R_drew)); exact HO_0.out)); (case aS => exact (below_size y1_)); (case aL => have := LMc8.out; omega); intro v117 w9 ho hb hg hat; rw [← Ny116.out] at ho; have n0_ := Aside0.mk (hb); have n1_ := Aside0.mk (Kept.of_grown (S := (fun k_ => P0_ k_)) hg y17_ (fun k_ e_ => (HO_0.out.1 k_ e_))); have n2_ := Aside0.mk (ho); clear HB; clear HK; clear HO_0; have HB := n0_; have HK := n1_; have HO118 := n2_; clear n0_ n1_ n2_; clear ho hb hg hat))
      go_roundg k1
      case measure => have := HK1.out; omega
      case rel => exact ⟨(y116), (wrap64 (x7_1 - 1)), y7_, H', ⟨y18_⟩, ⟨by (with_reducible repeat (first | apply Kd.R_alloc | apply Kd.R_drewN | apply Kd.R_drew)); exact HO118.out⟩, ⟨y17_⟩, ⟨y1_⟩⟩
     ·rw [if_neg c8] at H
      exact absurd H (by simp)
    ·rw [if_neg c6] at H
     exact absurd H (by simp)
   ·rw [if_neg c4] at H
    have c4b0 : decide (0 ≤ x7_1) = false := decide_eq_false c4
    clear c4
    obtain rfl := Option.some.inj H
    go_wp2
    go_ret
    exact ⟨_, y11_, by (with_reducible repeat (first | apply Kd.R_alloc | apply Kd.R_drewN | apply Kd.R_drew)); exact HO_0.out, y1_, y17_⟩
def manometerref01_Bytes.f (l0 : List Bool) : Option (List Int) := if l0.length ≤ 100000000 then some (Bq.packI l0) else none
theorem manometerref01_Bytes.calls (A0 : Option Addr) (c0 : Nat) (l0 : List Bool) (r : List Int) (w : World) (hr0 : Kd.C Kd.bool w A0 l0.length l0) (hc0 : l0.length ≤ c0) (h : manometerref01_Bytes.f l0 = some r) :
  Calls Tryd.prog 54 #[.slice A0 l0.length c0] w fun e w' => ∃ v0_ : Value, e = .returned (v0_) ∧ Kd.R (Kd.int .u8) 5 w' w.heap.size (fun _ => True) v0_ r ∧ Below w.heap.size w w' := by
 unfold manometerref01_Bytes.f at h
 split at h
 ·rename_i h1
  obtain rfl := Option.some.inj h
  refine (rbytes_calls w A0 c0 l0 hr0 h1).mono ?_
  rintro e w' ⟨v, rfl, hR, hB⟩
  exact ⟨v, rfl, Kd.R_mono hR (fun _ _ => trivial), hB⟩
 ·cases h
def manometerref03_Unarmor.l0 : Nat → ByteArray → List Bool → Int → Int → Option (List Int × Int)
 | 0, _, _, _, _ => none
 | k + 1, x0, x4, x10, x11 => if x11 < x10 then (if 0 ≤ x11 then (if x11 < (x0.size : Int) then ((manometerref03_value.f k (bt x0 x11)).bind fun t122 => (if t122 > 63 then (some (([] : List Int), 8)) else ((manometerref01_Put.f k x4 t122 6).bind fun t123 => (manometerref03_Unarmor.l0 k x0 t123 x10 (wrap64 (x11 + 1)))))) else (none)) else (none)) else (if 0 ≤ (wrap64 ((wrap64 ((x4.length : Int) / 8)) * 8)) then (if (wrap64 ((wrap64 ((x4.length : Int) / 8)) * 8)) ≤ (x4.length : Int) then ((manometerref01_Bytes.f (x4.take ((wrap64 ((wrap64 ((x4.length : Int) / 8)) * 8)) : Int).toNat)).bind fun t130 => ((manometerref03_Armor.f k t130).bind fun t133 => (if t133.toList = x0.toList then (some (t130, 0)) else (some (([] : List Int), 8))))) else (none)) else (none))
def manometerref03_Unarmor.f (k : Nat) (a0 : ByteArray) : Option (List Int × Int) := manometerref03_Unarmor.l0 k a0 (([] : List Bool)) (a0.size : Int) 0
set_option maxHeartbeats 8000000 in
set_option maxRecDepth 100000 in
theorem manometerref03_Unarmor.calls (k : Nat) (a0 : ByteArray) (r1 : List Int) (r2 : Int) (w : World) (h : manometerref03_Unarmor.f k a0 = some (r1, r2)) :
  Calls Tryd.prog 29 #[.string a0] w fun e w' => ∃ v0_ : Value, e = .returned (.tuple #[v0_, .int .i64 r2]) ∧ Kd.R (Kd.int .u8) 5 w' w.heap.size (fun _ => True) v0_ r1 ∧ Below w.heap.size w w' := by
 have HB := Aside0.mk (Below.refl w.heap.size w)
 have H : (manometerref03_Unarmor.l0 k a0 (([] : List Bool)) (a0.size : Int) 0) = some (r1, r2) := h
 clear h
 obtain ⟨y119, hy119⟩ : ∃ y_ : List Bool, y_ = (([] : List Bool)) := ⟨_, rfl⟩
 replace H : (manometerref03_Unarmor.l0 k a0 y119 (a0.size : Int) 0) = some (r1, r2) := by first | (rw [hy119]; with_reducible exact H) | (have H2_ := (Option.bind_some _ _).symm.trans H; rw [hy119]; with_reducible exact H2_) | (have H2_ := (Option.bind_some _ _).symm.trans H; with_reducible exact H2_) | with_reducible exact H | (rw [hy119]; exact H) | exact H
 have Ny119 := Aside0.mk hy119
 clear hy119
 have H' := Aside0.mk H
 clear H
 go_enter Tryd.func29, Tryd.ntmps29
 go_wp2_with (first | ((with_reducible refine gate_dst (N := 8) rfl ?_); refine Kd.R_lit Kd.bool _ 4 ?hg (N := 8) ?hd (xs := ([] : List Bool)) (inner := []) (ok := fun _ => True) (okp := fun _ => True) ?hr ?hp (fun _ hk => hk) trivial (Below.refl _ _) (Nat.le_refl _) (by simp) ?_; (case hd => rfl); (case hg => rfl); (case hr => first | (go_simp; done) | (go_simp; rfl)); (case hp => exact (Reps.none _ _)); intro v120 w2 ho3 hb hg_ hnew_; clear hg_ hnew_; (first | rw [← Ny119.out] at ho3 | (simp only [Int.reduceToNat] at ho3; rw [← Ny119.out] at ho3)); have n0_ := Aside0.mk (Kd.R_lower ho3 (below_size y1_)); have n1_ := Aside0.mk (below_step y1_ hb); clear HB; have HO121 := n0_; have HB := n1_; clear n0_ n1_; clear hb ho3))
 go_loopg [4, 11] k (fun kq v4 v11 w' => ∃ (x4_1 : List Bool) (x11_1 : Int), v11 = .int .i64 x11_1 ∧ Aside0 (manometerref03_Unarmor.l0 kq a0 x4_1 (a0.size : Int) x11_1 = some (r1, r2)) ∧ Aside0 (kq ≤ k) ∧ Aside0 (Kd.R Kd.bool 4 w' w.heap.size (fun _ => True) v4 x4_1) ∧ Aside0 (Below w.heap.size w w'))
 case atStart => exact ⟨(y119), (0), y7_, H', ⟨Nat.le_refl _⟩, ⟨by (with_reducible repeat (first | apply Kd.R_alloc | apply Kd.R_drewN | apply Kd.R_drew)); exact HO121.out⟩, ⟨y1_⟩⟩
 case round =>
  clear H'
  try clear c2
  try clear p2
  obtain ⟨x4_1, x11_1, rfl, HA, HK1, HO_4, HB⟩ := hrel
  cases gk with
  | zero => exact absurd HA.out (by simp [manometerref03_Unarmor.l0])
  | succ k1 =>
   have H := HA.out
   clear HA
   simp only [manometerref03_Unarmor.l0] at H
   by_cases c4 : x11_1 < (a0.size : Int)
   ·rw [if_pos c4] at H
    have c4b0 : decide (x11_1 < (a0.size : Int)) = true := decide_eq_true c4
    clear c4
    by_cases c5 : 0 ≤ x11_1
    ·rw [if_pos c5] at H
     have c5b0 : decide (0 ≤ x11_1) = true := decide_eq_true c5
     clear c5
     by_cases c6 : x11_1 < (a0.size : Int)
     ·rw [if_pos c6] at H
      have c6b0 : decide (x11_1 < (a0.size : Int)) = true := decide_eq_true c6
      clear c6
      replace H := Option.bind_eq_some_iff.mp H
      obtain ⟨t122, A80, H⟩ := H
      replace H : (if t122 > 63 then (some (([] : List Int), 8)) else ((manometerref01_Put.f k1 x4_1 t122 6).bind fun t123 => (manometerref03_Unarmor.l0 k1 a0 t123 (a0.size : Int) (wrap64 (x11_1 + 1))))) = some (r1, r2) := H
      have A8 := Aside0.mk A80
      clear A80
      by_cases c9 : t122 > 63
      ·rw [if_pos c9] at H
       have c9b0 : decide (63 < t122) = true := decide_eq_true c9
       clear c9
       simp only [Option.some.injEq, Prod.mk.injEq] at H
       obtain ⟨rfl, rfl⟩ := H
       have p7 : 0 ≤ (x11_1 : Int) := of_decide_eq_true y6_
       have q7 : x11_1 < (a0.size : Int) := of_decide_eq_true y6_
       have hx7 := bt_at a0 x11_1
       replace p7 := eq_true p7
       replace q7 := eq_true q7
       go_wp2_with (first | ((with_reducible refine gate_callee (f := 52) rfl ?_); refine goesL_ (some 17) rfl rfl Tryd.func52 (by kernel_rfl) rfl #[.int .u8 (bt a0 x11_1)] rfl y2_ ?_; (with_reducible refine (manometerref03_value.calls k1 (bt a0 x11_1) t122 _ A8.out).mono ?_); rintro e w' ⟨rfl, ⟨nd, rfl⟩⟩; refine ⟨_, rfl, ?_⟩))
       go_ret2
       exact ⟨_, y11_, y13_, y1_⟩
      ·rw [if_neg c9] at H
       have c9b0 : decide (63 < t122) = false := decide_eq_false c9
       clear c9
       replace H := Option.bind_eq_some_iff.mp H
       obtain ⟨t123, A100, H⟩ := H
       replace H : (manometerref03_Unarmor.l0 k1 a0 t123 (a0.size : Int) (wrap64 (x11_1 + 1))) = some (r1, r2) := H
       have A10 := Aside0.mk A100
       clear A100
       have H' := Aside0.mk H
       clear H
       have p7 : 0 ≤ (x11_1 : Int) := of_decide_eq_true y6_
       have q7 : x11_1 < (a0.size : Int) := of_decide_eq_true y6_
       have hx7 := bt_at a0 x11_1
       replace p7 := eq_true p7
       replace q7 := eq_true q7
       go_wp2_with (first | ((with_reducible refine gate_callee (f := 52) rfl ?_); refine goesL_ (some 17) rfl rfl Tryd.func52 (by kernel_rfl) rfl #[.int .u8 (bt a0 x11_1)] rfl y2_ ?_; (with_reducible refine (manometerref03_value.calls k1 (bt a0 x11_1) t122 _ A8.out).mono ?_); rintro e w' ⟨rfl, ⟨nd, rfl⟩⟩; refine ⟨_, rfl, ?_⟩; obtain ⟨Ao11, co11, eo11⟩ := Kd.R_slice HO_4.out; subst eo11) | ((with_reducible refine gate_callee (f := 53) rfl ?_); refine goesL_ (some 22) rfl rfl Tryd.func53 (by kernel_rfl) rfl #[.slice Ao11 x4_1.length co11, .int .u64 t122, .int .i64 6] rfl y2_ ?_; (with_reducible refine (manometerref01_Put.calls k1 (fun k_ => some k_ = (.slice Ao11 x4_1.length co11 : Value).ownBlock) (.slice Ao11 x4_1.length co11) x4_1 t122 6 t123 w _ ?side1 ?side2 A10.out).mono ?_); (case side1 => repeat (first | (with_reducible first | exact HB.out | apply below_alloc | apply pw_below_drewN | apply below_drew1) | exact HB.out)); (case side2 => exact Kd.R_tight rfl HO_4.out); rintro e w12 ⟨v124, rfl, ho0, hb, hkp⟩; refine ⟨_, rfl, ?_⟩; have n0_ := Aside0.mk (Kd.R_mono (ok' := fun k_ => True) ho0 (fun k_ hk_ => trivial)); have n1_ := Aside0.mk (hb); clear HB; clear HO_4; have HO125 := n0_; have HB := n1_; clear n0_ n1_; (try clear hb); (try clear hkp); (try clear ho0)))
       go_roundg k1
       case measure => have := HK1.out; omega
       case rel => exact ⟨(t123), (wrap64 (x11_1 + 1)), y7_, H', ⟨y18_⟩, ⟨by (with_reducible repeat (first | apply Kd.R_alloc | apply Kd.R_drewN | apply Kd.R_drew)); exact HO125.out⟩, ⟨y1_⟩⟩
     ·rw [if_neg c6] at H
      exact absurd H (by simp)
    ·rw [if_neg c5] at H
     exact absurd H (by simp)
   ·rw [if_neg c4] at H
    have c4b0 : decide (x11_1 < (a0.size : Int)) = false := decide_eq_false c4
    clear c4
    obtain ⟨ji13, hji13⟩ : ∃ j_ : Int, (wrap64 ((wrap64 ((x4_1.length : Int) / 8)) * 8)) = j_ := ⟨_, rfl⟩
    replace H : (if 0 ≤ (ji13) then (if (ji13) ≤ (x4_1.length : Int) then ((manometerref01_Bytes.f (x4_1.take ((ji13) : Int).toNat)).bind fun t130 => ((manometerref03_Armor.f k1 t130).bind fun t133 => (if t133.toList = a0.toList then (some (t130, 0)) else (some (([] : List Int), 8))))) else (none)) else (none)) = some (r1, r2) := by first | (rw [hji13] at H; exact H) | (simp only [hji13] at H ⊢; exact H)
    have hji13w : (IntKind.i64.wrap ((wrap64 ((x4_1.length : Int) / 8)) * 8)) = ji13 := (i64_w _).trans hji13
    by_cases c14 : 0 ≤ (ji13)
    ·rw [if_pos c14] at H
     have c14b0 := eq_true c14
     have c14b1 : decide (0 ≤ (ji13)) = true := decide_eq_true c14
     clear c14
     by_cases c15 : (ji13) ≤ (x4_1.length : Int)
     ·rw [if_pos c15] at H
      have c15b0 := eq_true c15
      have c15b1 : decide ((ji13) ≤ (x4_1.length : Int)) = true := decide_eq_true c15
      clear c15
      obtain ⟨y126, hy126⟩ : ∃ y_ : List Bool, y_ = (x4_1.take ((ji13) : Int).toNat) := ⟨_, rfl⟩
      replace H : ((manometerref01_Bytes.f y126).bind fun t130 => ((manometerref03_Armor.f k1 t130).bind fun t133 => (if t133.toList = a0.toList then (some (t130, 0)) else (some (([] : List Int), 8))))) = some (r1, r2) := by first | (rw [hy126]; with_reducible exact H) | (have H2_ := (Option.bind_some _ _).symm.trans H; rw [hy126]; with_reducible exact H2_) | (have H2_ := (Option.bind_some _ _).symm.trans H; with_reducible exact H2_) | with_reducible exact H | (rw [hy126]; exact H) | exact H
      have Ny126 := Aside0.mk hy126
      clear hy126
      replace H := Option.bind_eq_some_iff.mp H
      obtain ⟨t130, A160, H⟩ := H
      replace H : ((manometerref03_Armor.f k1 t130).bind fun t133 => (if t133.toList = a0.toList then (some (t130, 0)) else (some (([] : List Int), 8)))) = some (r1, r2) := H
      have A16 := Aside0.mk A160
      clear A160
      replace H := Option.bind_eq_some_iff.mp H
      obtain ⟨t133, A170, H⟩ := H
      replace H : (if t133.toList = a0.toList then (some (t130, 0)) else (some (([] : List Int), 8))) = some (r1, r2) := H
      have A17 := Aside0.mk A170
      clear A170
      by_cases c18 : t133.toList = a0.toList
      ·rw [if_pos c18] at H
       have c18b0 : (t133.toList == a0.toList) = true := beq_iff_eq.mpr c18
       have c18b1 : (t133.toList != a0.toList) = false := bne_eq_false_iff_eq.mpr c18
       clear c18
       simp only [Option.some.injEq, Prod.mk.injEq] at H
       obtain ⟨rfl, rfl⟩ := H
       obtain ⟨Ao19, co19, eo19⟩ := Kd.R_slice HO_4.out
       subst eo19
       have q20 : ((ji13) : Int) ≤ ((x4_1.length : Int) : Int) := of_decide_eq_true y6_
       obtain ⟨i020, hi020, _, hsz20, _⟩ := info_parts info4
       have hroom20 : x4_1.length ≤ co19 := (Kd.R_reads' HO_4.out).2.1
       have hC20 : Kd.C Kd.bool _ Ao19 x4_1.length x4_1 := (Kd.R_reads' HO_4.out).2.2
       have hcut20 := cut_to (P := Tryd.prog) 35 4 .i64 Tryd.underlying35 hi020 Ao19 x4_1.length co19 (ji13) (of_decide_eq_true y6_) q20 hroom20
       have hr20 := Kd.C_take (m := ((ji13) : Int).toNat) hC20 (by omega)
       have hy20 : y126.length = ((ji13) : Int).toNat := (by rw [Ny126.out, List.length_take]; omega)
       rw [← Ny126.out] at hr20
       rw [← hy20] at hcut20
       have HR129 := Aside0.mk hr20
       have HC129 := Aside0.mk (show y126.length ≤ co19 from by omega)
       clear hr20 hC20 hroom20 hi020 hsz20
       have KY20 := Aside0.mk hy20
       clear hy20
       have KL20 := Aside0.mk (show ((ji13) : Int).toNat ≤ x4_1.length from by omega)
       replace q20 := eq_true q20
       go_wp2_with (first | ((with_reducible refine gate_callee (f := 54) rfl ?_); refine goesL_ (some 30) rfl rfl Tryd.func54 (by kernel_rfl) rfl #[.slice Ao19 y126.length co19] rfl y2_ ?_; (with_reducible refine (manometerref01_Bytes.calls _ _ y126 t130 _ ?side1 ?side2 A16.out).mono ?_); (case side1 => repeat (first | exact y14_ | (with_reducible refine Kd.C_alloc ?_ _) | (with_reducible refine Kd.C_drewN ?_ _) | (with_reducible refine Kd.C_drew ?_))); (case side2 => exact HC129.out); rintro e w21 ⟨v131, rfl, ho0, hb⟩; refine ⟨_, rfl, ?_⟩; have n0_ := Aside0.mk (Kd.R_below y12_ hb); have n1_ := Aside0.mk (Kd.R_lower ho0 (below_size y1_)); have n2_ := Aside0.mk (Kd.C_below y14_ hb); have n3_ := Aside0.mk (below_step y1_ hb); clear HO_4; clear HR129; clear HB; have HO_4 := n0_; have HO132 := n1_; have HR129 := n2_; have HB := n3_; clear n0_ n1_ n2_ n3_; (try clear hb); (try clear hb2); (try clear hk); (try clear hi); (try clear ho0); obtain ⟨Ao22, co22, eo22⟩ := Kd.R_slice HO132.out; subst eo22) | ((with_reducible refine gate_callee (f := 33) rfl ?_); refine goesL_ (some 32) rfl rfl Tryd.func33 (by kernel_rfl) rfl #[.slice Ao22 t130.length co22] rfl y2_ ?_; (with_reducible refine (manometerref03_Armor.calls k1 _ _ t130 t133 _ ?side1 ?side2 A17.out).mono ?_); (case side1 => repeat (first | exact (Kd.R_reads' HO132.out).2.2 | (with_reducible refine Kd.C_alloc ?_ _) | (with_reducible refine Kd.C_drewN ?_ _) | (with_reducible refine Kd.C_drew ?_))); (case side2 => exact (Kd.R_reads' HO132.out).2.1); rintro e w23 ⟨rfl, hb⟩; refine ⟨_, rfl, ?_⟩; have n0_ := Aside0.mk (Kd.R_below y12_ hb); have n1_ := Aside0.mk (Kd.R_below y19_ hb); have n2_ := Aside0.mk (Kd.C_below y14_ hb); have n3_ := Aside0.mk (below_step y1_ hb); clear HO_4; clear HO132; clear HR129; clear HB; have HO_4 := n0_; have HO132 := n1_; have HR129 := n2_; have HB := n3_; clear n0_ n1_ n2_ n3_; (try clear hb); (try clear hb2); (try clear hk); (try clear hi)))
       go_ret2
       exact ⟨_, by first | rfl | (simp [errW_none, errW_some] <;> rfl) | (simp only [← hji13]; first | rfl | (simp [errW_none, errW_some] <;> rfl)) | (simp [*, errW_none, errW_some] <;> rfl), y19_, y1_⟩
      ·rw [if_neg c18] at H
       have c18b0 : (t133.toList == a0.toList) = false := beq_eq_false_iff_ne.mpr c18
       have c18b1 : (t133.toList != a0.toList) = true := bne_iff_ne.mpr c18
       simp only [Option.some.injEq, Prod.mk.injEq] at H
       obtain ⟨rfl, rfl⟩ := H
       obtain ⟨Ao24, co24, eo24⟩ := Kd.R_slice HO_4.out
       subst eo24
       have q25 : ((ji13) : Int) ≤ ((x4_1.length : Int) : Int) := of_decide_eq_true y6_
       obtain ⟨i025, hi025, _, hsz25, _⟩ := info_parts info4
       have hroom25 : x4_1.length ≤ co24 := (Kd.R_reads' HO_4.out).2.1
       have hC25 : Kd.C Kd.bool _ Ao24 x4_1.length x4_1 := (Kd.R_reads' HO_4.out).2.2
       have hcut25 := cut_to (P := Tryd.prog) 35 4 .i64 Tryd.underlying35 hi025 Ao24 x4_1.length co24 (ji13) (of_decide_eq_true y6_) q25 hroom25
       have hr25 := Kd.C_take (m := ((ji13) : Int).toNat) hC25 (by omega)
       have hy25 : y126.length = ((ji13) : Int).toNat := (by rw [Ny126.out, List.length_take]; omega)
       rw [← Ny126.out] at hr25
       rw [← hy25] at hcut25
       have HR129 := Aside0.mk hr25
       have HC129 := Aside0.mk (show y126.length ≤ co24 from by omega)
       clear hr25 hC25 hroom25 hi025 hsz25
       have KY25 := Aside0.mk hy25
       clear hy25
       have KL25 := Aside0.mk (show ((ji13) : Int).toNat ≤ x4_1.length from by omega)
       replace q25 := eq_true q25
       go_wp2_with (first | ((with_reducible refine gate_callee (f := 54) rfl ?_); refine goesL_ (some 30) rfl rfl Tryd.func54 (by kernel_rfl) rfl #[.slice Ao24 y126.length co24] rfl y2_ ?_; (with_reducible refine (manometerref01_Bytes.calls _ _ y126 t130 _ ?side1 ?side2 A16.out).mono ?_); (case side1 => repeat (first | exact y14_ | (with_reducible refine Kd.C_alloc ?_ _) | (with_reducible refine Kd.C_drewN ?_ _) | (with_reducible refine Kd.C_drew ?_))); (case side2 => exact HC129.out); rintro e w26 ⟨v131, rfl, ho0, hb⟩; refine ⟨_, rfl, ?_⟩; have n0_ := Aside0.mk (Kd.R_below y12_ hb); have n1_ := Aside0.mk (Kd.R_lower ho0 (below_size y1_)); have n2_ := Aside0.mk (Kd.C_below y14_ hb); have n3_ := Aside0.mk (below_step y1_ hb); clear HO_4; clear HR129; clear HB; have HO_4 := n0_; have HO132 := n1_; have HR129 := n2_; have HB := n3_; clear n0_ n1_ n2_ n3_; (try clear hb); (try clear hb2); (try clear hk); (try clear hi); (try clear ho0); obtain ⟨Ao27, co27, eo27⟩ := Kd.R_slice HO132.out; subst eo27) | ((with_reducible refine gate_callee (f := 33) rfl ?_); refine goesL_ (some 32) rfl rfl Tryd.func33 (by kernel_rfl) rfl #[.slice Ao27 t130.length co27] rfl y2_ ?_; (with_reducible refine (manometerref03_Armor.calls k1 _ _ t130 t133 _ ?side1 ?side2 A17.out).mono ?_); (case side1 => repeat (first | exact (Kd.R_reads' HO132.out).2.2 | (with_reducible refine Kd.C_alloc ?_ _) | (with_reducible refine Kd.C_drewN ?_ _) | (with_reducible refine Kd.C_drew ?_))); (case side2 => exact (Kd.R_reads' HO132.out).2.1); rintro e w28 ⟨rfl, hb⟩; refine ⟨_, rfl, ?_⟩; have n0_ := Aside0.mk (Kd.R_below y12_ hb); have n1_ := Aside0.mk (Kd.R_below y19_ hb); have n2_ := Aside0.mk (Kd.C_below y14_ hb); have n3_ := Aside0.mk (below_step y1_ hb); clear HO_4; clear HO132; clear HR129; clear HB; have HO_4 := n0_; have HO132 := n1_; have HR129 := n2_; have HB := n3_; clear n0_ n1_ n2_ n3_; (try clear hb); (try clear hb2); (try clear hk); (try clear hi)))
       go_ret2
       exact ⟨_, by first | rfl | (simp [errW_none, errW_some] <;> rfl) | (simp only [← hji13]; first | rfl | (simp [errW_none, errW_some] <;> rfl)) | (simp [*, errW_none, errW_some] <;> rfl), y13_, y1_⟩
     ·rw [if_neg c15] at H
      exact absurd H (by simp)
    ·rw [if_neg c14] at H
     exact absurd H (by simp)
end Go.Proofs.YtclndenmmhdokaaDoor.PHB
