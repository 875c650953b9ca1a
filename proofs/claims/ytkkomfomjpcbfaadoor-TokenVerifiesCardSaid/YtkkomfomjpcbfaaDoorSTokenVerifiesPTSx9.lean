import Derived.Test.YtkkomfomjpcbfaaDoorSTokenVerifiesH14
import Derived.Test.YtkkomfomjpcbfaaDoorSTokenVerifiesPTSx8
import Derived.Laws.RangeAny
import Derived.Lib.OthersKept
import Derived.Test.YtkkomfomjpcbfaaDoorSTokenVerifiesE1
import Derived.Test.YtkkomfomjpcbfaaDoorSTokenVerifiesWGuard
import Derived.Test.YtkkomfomjpcbfaaDoorSTokenVerifiesTM
import Derived.Test.YtkkomfomjpcbfaaDoorSTokenVerifiesTT
import Derived.Test.YtkkomfomjpcbfaaDoorSTokenVerifiesY
set_option linter.unusedVariables false
set_option linter.unusedSimpArgs false
namespace Go.Proofs.YtkkomfomjpcbfaaDoor.PTS
open Go.RowKit Go.Proofs.YtkkomfomjpcbfaaDoorW.PrintWords Go.Proofs.YtkkomfomjpcbfaaDoorW.PrintLast Go.Proofs.YtkkomfomjpcbfaaDoorW.PrintMore
attribute [local go_sem] kQ kO kW kV kG kF kP kN
mutual
def mr03_Armor.l0 : Nat → List Bool → Option (ByteArray)
 | 0, _ => none
 | k + 1, x3 => if ((x3.length : Int) % 6) = 0 then (mr03_Armor.l1 k x3 (⟨#[]⟩ : ByteArray)) else (if x3.length < 140737488355328 then (mr03_Armor.l0 k (x3 ++ [false])) else (none))
def mr03_Armor.l1 : Nat → List Bool → ByteArray → Option (ByteArray)
 | 0, _, _ => none
 | k + 1, x3, x4 => if (x3.length : Int) > 0 then (if 6 ≤ (x3.length : Int) then ((mr01_Number.f (x3.take 6)).bind fun t227 => (if 0 ≤ t227 then (if t227 ≤ (IntKind.u64.wrap (t227 + 1)) then (if (IntKind.u64.wrap (t227 + 1)) ≤ 64 then (if x4.size + ((⟨#[65, 66, 67, 68, 69, 70, 71, 72, 73, 74, 75, 76, 77, 78, 79, 80, 81, 82, 83, 84, 85, 86, 87, 88, 89, 90, 97, 98, 99, 100, 101, 102, 103, 104, 105, 106, 107, 108, 109, 110, 111, 112, 113, 114, 115, 116, 117, 118, 119, 120, 121, 122, 48, 49, 50, 51, 52, 53, 54, 55, 56, 57, 45, 95]⟩ : ByteArray).extract (t227 : Int).toNat ((IntKind.u64.wrap (t227 + 1)) : Int).toNat).size ≤ 9223372036854775807 then (mr03_Armor.l1 k (x3.drop (6 : Int).toNat) (x4 ++ ((⟨#[65, 66, 67, 68, 69, 70, 71, 72, 73, 74, 75, 76, 77, 78, 79, 80, 81, 82, 83, 84, 85, 86, 87, 88, 89, 90, 97, 98, 99, 100, 101, 102, 103, 104, 105, 106, 107, 108, 109, 110, 111, 112, 113, 114, 115, 116, 117, 118, 119, 120, 121, 122, 48, 49, 50, 51, 52, 53, 54, 55, 56, 57, 45, 95]⟩ : ByteArray).extract (t227 : Int).toNat ((IntKind.u64.wrap (t227 + 1)) : Int).toNat))) else (none)) else (none)) else (none)) else (none))) else (none)) else (some x4)
end
def mr03_Armor.f (k : Nat) (l0 : List Int) : Option (ByteArray) := (mr01_Bits.f l0 (wrap64 (8 * (l0.length : Int)))).bind fun t217 => (mr03_Armor.l0 k t217)
set_option maxHeartbeats 8000000 in
set_option maxRecDepth 100000 in
theorem mr03_Armor.calls (k : Nat) (A0 : Option Addr) (c0 : Nat) (l0 : List Int) (r : ByteArray) (w : World) (hr0 : Kd.C (Kd.int .u8) w A0 l0.length l0) (hc0 : l0.length ≤ c0) (h : mr03_Armor.f k l0 = some r) :
  Calls Tryd.prog 29 #[.slice A0 l0.length c0] w fun e w' => e = .returned (.string r) ∧ Below w.heap.size w w' := by
 have HR0 := Aside0.mk hr0; have HC0 := Aside0.mk hc0; clear hr0 hc0; have HB := am_ (Below.refl w.heap.size w); have H : ((mr01_Bits.f l0 (wrap64 (8 * (l0.length : Int)))).bind fun t217 => (mr03_Armor.l0 k t217)) = some r := h; clear h; replace H := Option.bind_eq_some_iff.mp H; obtain ⟨t217, A20, H⟩ := H; have A2 := Aside0.mk A20; clear A20; have H' := Aside0.mk H; clear H; go_enter Tryd.func29, Tryd.ntmps29
 go_wp2_with (first | ((with_reducible refine kj (f := 50) rfl ?_); refine kw (some 10) rfl rfl Tryd.func50 (by kernel_rfl) rfl #[.slice A0 l0.length c0, .int .i64 (wrap64 (8 * (l0.length : Int)))] rfl y2_ ?_; (with_reducible refine (mr01_Bits.calls _ _ l0 (wrap64 (8 * (l0.length : Int))) t217 _ ?side1 ?side2 A2.out).mono ?_); (case side1 => repeat (first | exact HR0.out | (with_reducible refine Kd.C_alloc ?_ _) | (with_reducible refine Kd.C_drewN ?_ _) | (with_reducible refine Kd.C_drew ?_))); (case side2 => exact HC0.out); rintro e w3 ⟨v218, rfl, ho0, hb⟩; refine ⟨_, rfl, ?_⟩; have HO219 := am_ (Kd.R_lower ho0 (km y1_)); replace HB := am_ (ke y1_ hb); (try clear hb); (try clear hb2); (try clear hk); (try clear hi); (try clear ho0)))
 go_loopg [3] k (fun kq v3 w' => ∃ (x3_1 : List Bool), Aside0 (mr03_Armor.l0 kq x3_1 = some r) ∧ Aside0 (kq ≤ k) ∧ Aside0 (Kd.Q Kd.bool 4 w' w.heap.size (fun _ => True) v3 x3_1) ∧ Aside0 (Below w.heap.size w w'))
 case atStart => exact ⟨(t217), H', ⟨Nat.le_refl _⟩, ⟨Kd.Q_of_R (by (with_reducible repeat (first | apply Kd.R_alloc | apply Kd.R_drewN | apply Kd.R_drew)); exact HO219.out)⟩, ⟨y1_⟩⟩
 case round =>
  clear H'
  try clear c2
  try clear p2
  obtain ⟨x3_1, HA, HK1, HO_3, HB⟩ := hrel
  cases gk with
  | zero => exact absurd HA.out (by simp [mr03_Armor.l0])
  | succ k1 =>
   have H := HA.out; clear HA; simp only [mr03_Armor.l0] at H
   by_cases c4 : ((x3_1.length : Int) % 6) = 0
   ·rw [if_pos c4] at H; have c4b0 : (((x3_1.length : Int) % 6) == 0) = true := beq_iff_eq.mpr c4; have c4b1 : (((x3_1.length : Int) % 6) != 0) = false := bne_eq_false_iff_eq.mpr c4; clear c4; have H' := Aside0.mk H; clear H; obtain ⟨Ao5, co5, eo5, _⟩ := Kd.Q_slice HO_3.out; subst eo5
    go_wp2
    go_loopg [3, 4] k1 (fun kq v3 v4 w' => ∃ (x3_2 : List Bool) (x4_2 : ByteArray), v4 = .string x4_2 ∧ Aside0 (mr03_Armor.l1 kq x3_2 x4_2 = some r) ∧ Aside0 (kq ≤ k1) ∧ Aside0 (Kd.Q Kd.bool 4 w' w.heap.size (fun _ => True) v3 x3_2) ∧ Aside0 (Below w.heap.size w w'))
    case atStart => exact ⟨(x3_1), ((⟨#[]⟩ : ByteArray)), y3_, H', ⟨Nat.le_refl _⟩, ⟨by (with_reducible repeat (first | apply Kd.Q_alloc | apply Kd.Q_drewN | apply Kd.Q_drew)); exact HO_3.out⟩, ⟨y1_⟩⟩
    case round =>
     clear H'
     try clear c2
     try clear p2
     try clear c4
     try clear c4b0
     try clear c4b1
     try clear c5
     try clear p2
     obtain ⟨x3_2, x4_2, rfl, HA, HK2, HO_3, HB⟩ := hrel
     cases gk with
     | zero => exact absurd HA.out (by simp [mr03_Armor.l1])
     | succ k2 =>
      have H := HA.out; clear HA; simp only [mr03_Armor.l1] at H
      by_cases c6 : (x3_2.length : Int) > 0
      ·rw [if_pos c6] at H; have c6b0 : decide (0 < (x3_2.length : Int)) = true := decide_eq_true c6; have c6b1 : decide (0 < x3_2.length) = true := decide_eq_true (by omega); clear c6
       by_cases c7 : 6 ≤ (x3_2.length : Int)
       ·rw [if_pos c7] at H; have c7b0 := eq_true c7; have c7b1 : decide (6 ≤ (x3_2.length : Int)) = true := decide_eq_true c7; clear c7; obtain ⟨y223, hy223⟩ : ∃ y_ : List Bool, y_ = (x3_2.take 6) := ⟨_, rfl⟩
        replace H : ((mr01_Number.f y223).bind fun t227 => (if 0 ≤ t227 then (if t227 ≤ (IntKind.u64.wrap (t227 + 1)) then (if (IntKind.u64.wrap (t227 + 1)) ≤ 64 then (if x4_2.size + ((⟨#[65, 66, 67, 68, 69, 70, 71, 72, 73, 74, 75, 76, 77, 78, 79, 80, 81, 82, 83, 84, 85, 86, 87, 88, 89, 90, 97, 98, 99, 100, 101, 102, 103, 104, 105, 106, 107, 108, 109, 110, 111, 112, 113, 114, 115, 116, 117, 118, 119, 120, 121, 122, 48, 49, 50, 51, 52, 53, 54, 55, 56, 57, 45, 95]⟩ : ByteArray).extract (t227 : Int).toNat ((IntKind.u64.wrap (t227 + 1)) : Int).toNat).size ≤ 9223372036854775807 then (mr03_Armor.l1 k2 (x3_2.drop (6 : Int).toNat) (x4_2 ++ ((⟨#[65, 66, 67, 68, 69, 70, 71, 72, 73, 74, 75, 76, 77, 78, 79, 80, 81, 82, 83, 84, 85, 86, 87, 88, 89, 90, 97, 98, 99, 100, 101, 102, 103, 104, 105, 106, 107, 108, 109, 110, 111, 112, 113, 114, 115, 116, 117, 118, 119, 120, 121, 122, 48, 49, 50, 51, 52, 53, 54, 55, 56, 57, 45, 95]⟩ : ByteArray).extract (t227 : Int).toNat ((IntKind.u64.wrap (t227 + 1)) : Int).toNat))) else (none)) else (none)) else (none)) else (none))) = some r := by first | (rw [hy223]; with_reducible exact H) | (have H2_ := (Option.bind_some _ _).symm.trans H; rw [hy223]; with_reducible exact H2_) | (have H2_ := (Option.bind_some _ _).symm.trans H; with_reducible exact H2_) | with_reducible exact H | (rw [hy223]; exact H) | exact H
        have Ny223 := Aside0.mk hy223; clear hy223; replace H := Option.bind_eq_some_iff.mp H; obtain ⟨t227, A80, H⟩ := H; have A8 := Aside0.mk A80; clear A80
        by_cases c9 : 0 ≤ t227
        ·rw [if_pos c9] at H; have c9b0 := eq_true c9; have c9b1 : decide (0 ≤ t227) = true := decide_eq_true c9; clear c9
         by_cases c10 : t227 ≤ (IntKind.u64.wrap (t227 + 1))
         ·rw [if_pos c10] at H; have c10b0 := eq_true c10; have c10b1 : decide (t227 ≤ (IntKind.u64.wrap (t227 + 1))) = true := decide_eq_true c10
          by_cases c11 : (IntKind.u64.wrap (t227 + 1)) ≤ 64
          ·rw [if_pos c11] at H; have c11b0 := eq_true c11; have c11b1 : decide ((IntKind.u64.wrap (t227 + 1)) ≤ 64) = true := decide_eq_true c11
           by_cases c12 : x4_2.size + ((⟨#[65, 66, 67, 68, 69, 70, 71, 72, 73, 74, 75, 76, 77, 78, 79, 80, 81, 82, 83, 84, 85, 86, 87, 88, 89, 90, 97, 98, 99, 100, 101, 102, 103, 104, 105, 106, 107, 108, 109, 110, 111, 112, 113, 114, 115, 116, 117, 118, 119, 120, 121, 122, 48, 49, 50, 51, 52, 53, 54, 55, 56, 57, 45, 95]⟩ : ByteArray).extract (t227 : Int).toNat ((IntKind.u64.wrap (t227 + 1)) : Int).toNat).size ≤ 9223372036854775807
           ·rw [if_pos c12] at H; have c12b0 := eq_true c12
            try (have c12z := c12; simp [ByteArray.size_append, Kd.size_mk_] at c12z; replace c12z := eq_false (Nat.not_lt.2 c12z))
            try (have c12m := c12; simp [ByteArray.size_append, Kd.size_mk_] at c12m; rw [Nat.min_eq_left (by omega)] at c12m; replace c12m := eq_false (Nat.not_lt.2 c12m))
            have c12b1 : decide (x4_2.size + ((⟨#[65, 66, 67, 68, 69, 70, 71, 72, 73, 74, 75, 76, 77, 78, 79, 80, 81, 82, 83, 84, 85, 86, 87, 88, 89, 90, 97, 98, 99, 100, 101, 102, 103, 104, 105, 106, 107, 108, 109, 110, 111, 112, 113, 114, 115, 116, 117, 118, 119, 120, 121, 122, 48, 49, 50, 51, 52, 53, 54, 55, 56, 57, 45, 95]⟩ : ByteArray).extract (t227 : Int).toNat ((IntKind.u64.wrap (t227 + 1)) : Int).toNat).size ≤ 9223372036854775807) = true := decide_eq_true c12
            try have c12b2 : (9223372036854775807 < x4_2.size + ((⟨#[65, 66, 67, 68, 69, 70, 71, 72, 73, 74, 75, 76, 77, 78, 79, 80, 81, 82, 83, 84, 85, 86, 87, 88, 89, 90, 97, 98, 99, 100, 101, 102, 103, 104, 105, 106, 107, 108, 109, 110, 111, 112, 113, 114, 115, 116, 117, 118, 119, 120, 121, 122, 48, 49, 50, 51, 52, 53, 54, 55, 56, 57, 45, 95]⟩ : ByteArray).extract (t227 : Int).toNat ((IntKind.u64.wrap (t227 + 1)) : Int).toNat).size) = False := eq_false (Nat.not_lt.2 c12)
            have c13b0 := eq_true (of_decide_eq_true y4_ : 6 ≤ (x3_2.length : Int)); obtain ⟨y228, hy228⟩ : ∃ y_ : List Bool, y_ = (x3_2.drop (6 : Int).toNat) := ⟨_, rfl⟩
            replace H : (mr03_Armor.l1 k2 y228 (x4_2 ++ ((⟨#[65, 66, 67, 68, 69, 70, 71, 72, 73, 74, 75, 76, 77, 78, 79, 80, 81, 82, 83, 84, 85, 86, 87, 88, 89, 90, 97, 98, 99, 100, 101, 102, 103, 104, 105, 106, 107, 108, 109, 110, 111, 112, 113, 114, 115, 116, 117, 118, 119, 120, 121, 122, 48, 49, 50, 51, 52, 53, 54, 55, 56, 57, 45, 95]⟩ : ByteArray).extract (t227 : Int).toNat ((IntKind.u64.wrap (t227 + 1)) : Int).toNat))) = some r := by first | (rw [hy228]; with_reducible exact H) | (have H2_ := (Option.bind_some _ _).symm.trans H; rw [hy228]; with_reducible exact H2_) | (have H2_ := (Option.bind_some _ _).symm.trans H; with_reducible exact H2_) | with_reducible exact H | (rw [hy228]; exact H) | exact H
            have Ny228 := Aside0.mk hy228; clear hy228; have H' := Aside0.mk H; clear H; obtain ⟨Ao14, co14, eo14, _⟩ := Kd.Q_slice HO_3.out; subst eo14; have q15 : (6 : Int) ≤ ((x3_2.length : Int) : Int) := of_decide_eq_true y4_; obtain ⟨i015, hi015, _, hsz15, _⟩ := info_parts info4; have hroom15 : x3_2.length ≤ co14 := (Kd.Q_reads' HO_3.out).2.1; have hC15 : Kd.C Kd.bool _ Ao14 x3_2.length x3_2 := (Kd.Q_reads' HO_3.out).2.2; have hcut15 := cut_to (P := Tryd.prog) 74 4 .i64 Tryd.underlying74 hi015 Ao14 x3_2.length co14 6 (by omega) q15 hroom15; have hr15 := Kd.C_take (m := 6) hC15 (by omega); have hy15 : y223.length = (6 : Int).toNat := (by rw [Ny223.out, List.length_take]; omega); rw [← Ny223.out] at hr15; rw [← hy15] at hcut15; have HR226 := Aside0.mk hr15; have HC226 := am_ (show y223.length ≤ co14 from by omega); clear hr15 hC15 hroom15 hi015 hsz15; have KY15 := Aside0.mk hy15; clear hy15; have KL15 := am_ (show 6 ≤ x3_2.length from by omega); replace q15 := eq_true q15
            go_wp2_with (first | ((with_reducible refine kj (f := 51) rfl ?_); refine kw (some 23) rfl rfl Tryd.func51 (by kernel_rfl) rfl #[.slice Ao14 y223.length co14] rfl y2_ ?_; (with_reducible refine (mr01_Number.calls _ _ y223 t227 _ ?side1 ?side2 A8.out).mono ?_); (case side1 => repeat (first | exact (by repeat (first | (with_reducible exact HR226.out) | (with_reducible refine Kd.C_alloc ?_ _) | (with_reducible refine Kd.C_drewN ?_ _) | (with_reducible refine Kd.C_drew ?_) | exact HR226.out)) | (with_reducible refine Kd.C_alloc ?_ _) | (with_reducible refine Kd.C_drewN ?_ _) | (with_reducible refine Kd.C_drew ?_))); (case side2 => exact HC226.out); rintro e w' ⟨rfl, ⟨nd, rfl⟩⟩; refine ⟨_, rfl, ?_⟩; have q16 : (6 : Int) ≤ ((x3_2.length : Int) : Int) := of_decide_eq_true y4_; obtain ⟨i016, hi016, _, hsz16, _⟩ := info_parts info4; have hcut16 := cut_from (P := Tryd.prog) 74 4 .i64 Tryd.underlying74 hi016 1 hsz16 Ao14 x3_2.length co14 6 (by omega) q16; have hr16 := Kd.Q_drop (k := (6 : Int).toNat) HO_3.out (by omega); obtain ⟨A16, hA16⟩ : ∃ A1, A1 = (if co14 = (6 : Int).toNat then Ao14 else (Ao14 : Option Addr).map (·.add ((6 : Int).toNat * 1))) := ⟨_, rfl⟩; obtain ⟨c16, hc16⟩ : ∃ c1, c1 = co14 - (6 : Int).toNat := ⟨_, rfl⟩; have hy16 : y228.length = x3_2.length - (6 : Int).toNat := (by rw [Ny228.out, List.length_drop]); rw [← Ny228.out] at hr16; rw [← hy16, ← hA16, ← hc16] at hcut16; replace hr16 : Kd.Q Kd.bool 4 wr w.heap.size (fun _ => True) (.slice A16 y228.length c16) y228 := (by rw [hA16, hc16, hy16]; exact hr16); have HE16 : Aside0 ((Value.slice A16 y228.length c16).ownBlock = (.slice Ao14 x3_2.length co14 : Value).ownBlock) := ⟨by rw [hA16]; split <;> (cases (Ao14 : Option Addr) <;> rfl)⟩; clear hy16 hi016 hsz16 HO_3 hA16 hc16; have HO230 := Aside0.mk hr16; clear hr16; replace q16 := eq_true q16))
            go_roundg k2
            case measure => have := HK1.out; have := HK2.out; omega
            case rel => exact ⟨(y228), (x4_2 ++ ((⟨#[65, 66, 67, 68, 69, 70, 71, 72, 73, 74, 75, 76, 77, 78, 79, 80, 81, 82, 83, 84, 85, 86, 87, 88, 89, 90, 97, 98, 99, 100, 101, 102, 103, 104, 105, 106, 107, 108, 109, 110, 111, 112, 113, 114, 115, 116, 117, 118, 119, 120, 121, 122, 48, 49, 50, 51, 52, 53, 54, 55, 56, 57, 45, 95]⟩ : ByteArray).extract (t227 : Int).toNat ((IntKind.u64.wrap (t227 + 1)) : Int).toNat)), y3_, H', ⟨by have := HK1.out; have := HK2.out; omega⟩, ⟨by (with_reducible repeat (first | apply Kd.Q_alloc | apply Kd.Q_drewN | apply Kd.Q_drew)); exact HO230.out⟩, ⟨y1_⟩⟩
           ·rw [if_neg c12] at H
            exact absurd H (by simp)
          ·rw [if_neg c11] at H
           exact absurd H (by simp)
         ·rw [if_neg c10] at H
          exact absurd H (by simp)
        ·rw [if_neg c9] at H
         exact absurd H (by simp)
       ·rw [if_neg c7] at H
        exact absurd H (by simp)
      ·rw [if_neg c6] at H; have c6b0 : decide (0 < (x3_2.length : Int)) = false := decide_eq_false c6; have c6b1 : decide (0 < x3_2.length) = false := decide_eq_false (by omega); clear c6; obtain rfl := Option.some.inj H; obtain ⟨Ao17, co17, eo17, _⟩ := Kd.Q_slice HO_3.out; subst eo17
       go_wp2
       go_ret
       exact ⟨y5_, y1_⟩
   ·rw [if_neg c4] at H; have c4b0 : (((x3_1.length : Int) % 6) == 0) = false := beq_eq_false_iff_ne.mpr c4; have c4b1 : (((x3_1.length : Int) % 6) != 0) = true := bne_iff_ne.mpr c4
    by_cases c18 : x3_1.length < 140737488355328
    ·rw [if_pos c18] at H; have LMc18 := Aside0.mk c18; clear c18; obtain ⟨y220, hy220⟩ : ∃ y_ : List Bool, y_ = (x3_1 ++ [false]) := ⟨_, rfl⟩
     replace H : (mr03_Armor.l0 k1 y220) = some r := by first | (rw [hy220]; with_reducible exact H) | (have H2_ := (Option.bind_some _ _).symm.trans H; rw [hy220]; with_reducible exact H2_) | (have H2_ := (Option.bind_some _ _).symm.trans H; with_reducible exact H2_) | with_reducible exact H | (rw [hy220]; exact H) | exact H
     have Ny220 := Aside0.mk hy220; clear hy220; have H' := Aside0.mk H; clear H; obtain ⟨Ao19, co19, eo19, _⟩ := Kd.Q_slice HO_3.out; subst eo19
     go_wp2_with (first | ((with_reducible refine kS (b := .append) (xs := #[.tmp 15, .tmp 16]) rfl ?_); at_builtin; refine Kd.Q_append Kd.bool (w0 := w) w.heap.size rfl (.tmp 15) (.tmp 16) 74 4 (.bool false) 1 rfl Tryd.underlying74 info4 rfl (by decide) (by omega) (.slice Ao19 x3_1.length co19) x3_1 false [.bool false] (fun _ => True) (fun _ => False) rfl rfl ?aP (fun _ hk => hk.elim) ?aF ?aO ?aB ?aS ?aL ?_; (case aP => exact rfl); (case aB => exact y1_); (case aF => exact (fun _ _ => trivial)); (case aO => exact (by (with_reducible repeat (first | apply Kd.Q_alloc | apply Kd.Q_drewN | apply Kd.Q_drew)); exact HO_3.out)); (case aS => exact (km y1_)); (case aL => have := LMc18.out; omega); intro v221 w20 ho hb hg hat; rw [← Ny220.out] at ho; have n0_ := am_ (hb); have n1_ := am_ (ho); clear HB; clear HO_3; have HB := n0_; have HO222 := n1_; clear n0_ n1_; clear ho hb hg hat))
     go_roundg k1
     case measure => have := HK1.out; omega
     case rel => exact ⟨(y220), H', ⟨y124_⟩, ⟨by (with_reducible repeat (first | apply Kd.Q_alloc | apply Kd.Q_drewN | apply Kd.Q_drew)); exact HO222.out⟩, ⟨y1_⟩⟩
    ·rw [if_neg c18] at H
     exact absurd H (by simp)
def mr01_Join.l0 : Nat → List Int → List (List Int) → Int → Int → Option (List Int)
 | 0, _, _, _, _ => none
 | k + 1, x3, x7, x8, x9 => if x9 < x8 then (if 0 ≤ x9 then (if x9 < (x7.length : Int) then (if x3.length + (rd_L3 x7 x9).length < 140737488355328 then (mr01_Join.l0 k (x3 ++ (rd_L3 x7 x9)) x7 x8 (wrap64 (x9 + 1))) else (none)) else (none)) else (none)) else (some x3)
def mr01_Join.f (k : Nat) (l0 : List (List Int)) : Option (List Int) := mr01_Join.l0 k (([] : List Int)) l0 (l0.length : Int) 0
set_option maxHeartbeats 8000000 in
set_option maxRecDepth 100000 in
theorem mr01_Join.calls (k : Nat) (A0 : Option Addr) (c0 : Nat) (l0 : List (List Int)) (r : List Int) (w : World) (hr0 : Kd.C (Kd.slice 5 (Kd.int .u8)) w A0 l0.length l0) (hc0 : l0.length ≤ c0) (h : mr01_Join.f k l0 = some r) :
  Calls Tryd.prog 47 #[.slice A0 l0.length c0] w fun e w' => ∃ v0_ : Value, e = .returned (v0_) ∧ Kd.R (Kd.int .u8) 5 w' w.heap.size (fun _ => True) v0_ r ∧ Below w.heap.size w w' := by
 have HR0 := Aside0.mk hr0; have HC0 := Aside0.mk hc0; clear hr0 hc0; have HB := am_ (Below.refl w.heap.size w); have H : (mr01_Join.l0 k (([] : List Int)) l0 (l0.length : Int) 0) = some r := h; clear h; obtain ⟨y231, hy231⟩ : ∃ y_ : List Int, y_ = (([] : List Int)) := ⟨_, rfl⟩
 replace H : (mr01_Join.l0 k y231 l0 (l0.length : Int) 0) = some r := by first | (rw [hy231]; with_reducible exact H) | (have H2_ := (Option.bind_some _ _).symm.trans H; rw [hy231]; with_reducible exact H2_) | (have H2_ := (Option.bind_some _ _).symm.trans H; with_reducible exact H2_) | with_reducible exact H | (rw [hy231]; exact H) | exact H
 have Ny231 := Aside0.mk hy231; clear hy231; have H' := Aside0.mk H; clear H; go_enter Tryd.func47, Tryd.ntmps47
 go_wp2_with (first | ((with_reducible refine ko (N := 6) rfl ?_); refine Kd.R_lit (Kd.int .u8) _ 5 ?hg (N := 6) ?hd (xs := ([] : List Int)) (inner := []) (ok := fun _ => True) (okp := fun _ => True) ?hr ?hp (fun _ hk => hk) trivial (Below.refl _ _) (Nat.le_refl _) (by simp) ?_; (case hd => rfl); (case hg => rfl); (case hr => first | (go_simp; done) | (go_simp; rfl)); (case hp => exact (Reps.none _ _)); intro v232 w2 ho3 hb hg_ hnew_; clear hg_ hnew_; (first | rw [← Ny231.out] at ho3 | (simp only [Int.reduceToNat] at ho3; rw [← Ny231.out] at ho3)); have HO233 := am_ (Kd.R_lower ho3 (km y1_)); replace HB := am_ (ke y1_ hb); clear hb ho3))
 go_loopg [3, 9] k (fun kq v3 v9 w' => ∃ (x3_1 : List Int) (x9_1 : Int), v9 = .int .i64 x9_1 ∧ Aside0 (mr01_Join.l0 kq x3_1 l0 (l0.length : Int) x9_1 = some r) ∧ Aside0 (kq ≤ k) ∧ Aside0 (Kd.R (Kd.int .u8) 5 w' w.heap.size (fun _ => True) v3 x3_1) ∧ Aside0 (Below w.heap.size w w'))
 case atStart => exact ⟨(y231), (0), y3_, H', ⟨Nat.le_refl _⟩, ⟨by (with_reducible repeat (first | apply Kd.R_alloc | apply Kd.R_drewN | apply Kd.R_drew)); exact HO233.out⟩, ⟨y1_⟩⟩
 case round =>
  clear H'
  try clear p2
  obtain ⟨x3_1, x9_1, rfl, HA, HK1, HO_3, HB⟩ := hrel
  cases gk with
  | zero => exact absurd HA.out (by simp [mr01_Join.l0])
  | succ k1 =>
   have H := HA.out; clear HA; simp only [mr01_Join.l0] at H
   by_cases c4 : x9_1 < (l0.length : Int)
   ·rw [if_pos c4] at H; have c4b0 : decide (x9_1 < (l0.length : Int)) = true := decide_eq_true c4; clear c4
    by_cases c5 : 0 ≤ x9_1
    ·rw [if_pos c5] at H; have c5b0 : decide (0 ≤ x9_1) = true := decide_eq_true c5; clear c5
     by_cases c6 : x9_1 < (l0.length : Int)
     ·rw [if_pos c6] at H; have c6b0 : decide (x9_1 < (l0.length : Int)) = true := decide_eq_true c6; clear c6
      by_cases c7 : x3_1.length + (rd_L3 l0 x9_1).length < 140737488355328
      ·rw [if_pos c7] at H; have LMc7 := Aside0.mk c7; clear c7; obtain ⟨y235, hy235⟩ : ∃ y_ : List Int, y_ = (x3_1 ++ (rd_L3 l0 x9_1)) := ⟨_, rfl⟩
       replace H : (mr01_Join.l0 k1 y235 l0 (l0.length : Int) (wrap64 (x9_1 + 1))) = some r := by first | (rw [hy235]; with_reducible exact H) | (have H2_ := (Option.bind_some _ _).symm.trans H; rw [hy235]; with_reducible exact H2_) | (have H2_ := (Option.bind_some _ _).symm.trans H; with_reducible exact H2_) | with_reducible exact H | (rw [hy235]; exact H) | exact H
       have Ny235 := Aside0.mk hy235; clear hy235; have H' := Aside0.mk H; clear H; have p234 : 0 ≤ (x9_1 : Int) := of_decide_eq_true y4_; have q234 : x9_1 < (l0.length : Int) := of_decide_eq_true y4_; obtain ⟨ad234, A234_0, c234_0, e234, hx234_0, hl234_0, hi234_0⟩ := at_L3 HR0.out x9_1 p234 q234
       cases e234
       replace hx234_0 := (HB.out.cell (World.block_lt_of_cell? w _ hx234_0)).trans hx234_0; have HR234_0 := Aside0.mk hi234_0; have HC234_0 := Aside0.mk hl234_0; clear hi234_0 hl234_0; replace p234 := eq_true p234; replace q234 := eq_true q234
       go_wp2_with (first | ((with_reducible refine kS (b := .append) (xs := #[.tmp 13, .tmp 14]) rfl ?_); at_builtin; refine Kd.R_append_rows (Kd.int .u8) (w0 := w) w.heap.size rfl (.tmp 13) (.tmp 14) 45 5 (.int .u8 0) 1 rfl Tryd.underlying45 info5 rfl (by decide) (by omega) u3 x3_1 (rd_L3 l0 x9_1) _ _ _ (fun _ => True) (fun _ => False) rfl rfl ?aO ?aR (fun _ _ h => h) (fun _ h => h.elim) ?aF ?aB ?aS ?aL ?_; (case aR => repeat (first | exact (Kd.C_below HR234_0.out HB.out) | (with_reducible refine Kd.C_alloc ?_ _) | (with_reducible refine Kd.C_drewN ?_ _) | (with_reducible refine Kd.C_drew ?_))); (case aB => exact y1_); (case aF => exact (fun _ _ => trivial)); (case aO => exact y88_); (case aS => exact (km y1_)); (case aL => have := LMc7.out; omega); intro v236 w8 ho hb hg hat; rw [← Ny235.out] at ho; have n0_ := am_ (hb); have n1_ := am_ (ho); clear HB; clear HO_3; have HB := n0_; have HO237 := n1_; clear n0_ n1_; clear ho hb hg hat))
       go_roundg k1
       case measure => have := HK1.out; omega
       case rel => exact ⟨(y235), (wrap64 (x9_1 + 1)), y3_, H', ⟨y124_⟩, ⟨by (with_reducible repeat (first | apply Kd.R_alloc | apply Kd.R_drewN | apply Kd.R_drew)); exact HO237.out⟩, ⟨y1_⟩⟩
      ·rw [if_neg c7] at H
       exact absurd H (by simp)
     ·rw [if_neg c6] at H
      exact absurd H (by simp)
    ·rw [if_neg c5] at H
     exact absurd H (by simp)
   ·rw [if_neg c4] at H; have c4b0 : decide (x9_1 < (l0.length : Int)) = false := decide_eq_false c4; clear c4; obtain rfl := Option.some.inj H
    go_wp2
    go_ret
    exact ⟨_, y5_, y88_, y1_⟩
def mr01_PutUvarint.l0 : Nat → Int → List Int → Option (List Int)
 | 0, _, _ => none
 | k + 1, x0, x3 => if x0 ≥ 128 then (if x3.length < 140737488355328 then (mr01_PutUvarint.l0 k (IntKind.u64.wrap (Int.tdiv x0 128)) (x3 ++ [((Int.tmod x0 128) + 128) % 256])) else (none)) else (if x3.length < 140737488355328 then (some (x3 ++ [(x0) % 256])) else (none))
def mr01_PutUvarint.f (k : Nat) (a0 : Int) : Option (List Int) := mr01_PutUvarint.l0 k a0 (([] : List Int))
set_option maxHeartbeats 8000000 in
set_option maxRecDepth 100000 in
theorem mr01_PutUvarint.calls (k : Nat) (a0 : Int) (r : List Int) (w : World) (h : mr01_PutUvarint.f k a0 = some r) :
  Calls Tryd.prog 48 #[.int .u64 a0] w fun e w' => ∃ v0_ : Value, e = .returned (v0_) ∧ Kd.R (Kd.int .u8) 5 w' w.heap.size (fun _ => True) v0_ r ∧ Below w.heap.size w w' := by
 have HB := am_ (Below.refl w.heap.size w); have H : (mr01_PutUvarint.l0 k a0 (([] : List Int))) = some r := h; clear h; obtain ⟨y238, hy238⟩ : ∃ y_ : List Int, y_ = (([] : List Int)) := ⟨_, rfl⟩
 replace H : (mr01_PutUvarint.l0 k a0 y238) = some r := by first | (rw [hy238]; with_reducible exact H) | (have H2_ := (Option.bind_some _ _).symm.trans H; rw [hy238]; with_reducible exact H2_) | (have H2_ := (Option.bind_some _ _).symm.trans H; with_reducible exact H2_) | with_reducible exact H | (rw [hy238]; exact H) | exact H
 have Ny238 := Aside0.mk hy238; clear hy238; have H' := Aside0.mk H; clear H; go_enter Tryd.func48, Tryd.ntmps48
 go_wp2_with (first | ((with_reducible refine ko (N := 4) rfl ?_); refine Kd.R_lit (Kd.int .u8) _ 5 ?hg (N := 4) ?hd (xs := ([] : List Int)) (inner := []) (ok := fun _ => True) (okp := fun _ => True) ?hr ?hp (fun _ hk => hk) trivial (Below.refl _ _) (Nat.le_refl _) (by simp) ?_; (case hd => rfl); (case hg => rfl); (case hr => first | (go_simp; done) | (go_simp; rfl)); (case hp => exact (Reps.none _ _)); intro v239 w2 ho3 hb hg_ hnew_; clear hg_ hnew_; (first | rw [← Ny238.out] at ho3 | (simp only [Int.reduceToNat] at ho3; rw [← Ny238.out] at ho3)); have HO240 := am_ (Kd.R_lower ho3 (km y1_)); replace HB := am_ (ke y1_ hb); clear hb ho3))
 go_loopg [0, 3] k (fun kq v0 v3 w' => ∃ (x0_1 : Int) (x3_1 : List Int), v0 = .int .u64 x0_1 ∧ Aside0 (mr01_PutUvarint.l0 kq x0_1 x3_1 = some r) ∧ Aside0 (kq ≤ k) ∧ Aside0 (Kd.R (Kd.int .u8) 5 w' w.heap.size (fun _ => True) v3 x3_1) ∧ Aside0 (Below w.heap.size w w'))
 case atStart => exact ⟨(a0), (y238), y3_, H', ⟨Nat.le_refl _⟩, ⟨by (with_reducible repeat (first | apply Kd.R_alloc | apply Kd.R_drewN | apply Kd.R_drew)); exact HO240.out⟩, ⟨y1_⟩⟩
 case round =>
  clear H'
  try clear p2
  obtain ⟨x0_1, x3_1, rfl, HA, HK1, HO_3, HB⟩ := hrel
  cases gk with
  | zero => exact absurd HA.out (by simp [mr01_PutUvarint.l0])
  | succ k1 =>
   have H := HA.out; clear HA; simp only [mr01_PutUvarint.l0] at H
   by_cases c4 : x0_1 ≥ 128
   ·rw [if_pos c4] at H; have c4b0 : decide (128 ≤ x0_1) = true := decide_eq_true c4; clear c4
    by_cases c5 : x3_1.length < 140737488355328
    ·rw [if_pos c5] at H; have LMc5 := Aside0.mk c5; clear c5; obtain ⟨y241, hy241⟩ : ∃ y_ : List Int, y_ = (x3_1 ++ [((Int.tmod x0_1 128) + 128) % 256]) := ⟨_, rfl⟩
     replace H : (mr01_PutUvarint.l0 k1 (IntKind.u64.wrap (Int.tdiv x0_1 128)) y241) = some r := by first | (rw [hy241]; with_reducible exact H) | (have H2_ := (Option.bind_some _ _).symm.trans H; rw [hy241]; with_reducible exact H2_) | (have H2_ := (Option.bind_some _ _).symm.trans H; with_reducible exact H2_) | with_reducible exact H | (rw [hy241]; exact H) | exact H
     have Ny241 := Aside0.mk hy241; clear hy241; have H' := Aside0.mk H; clear H
     go_wp2_with (first | ((with_reducible refine kS (b := .append) (xs := #[.tmp 7, .tmp 12]) rfl ?_); at_builtin; refine Kd.R_append (Kd.int .u8) (w0 := w) w.heap.size rfl (.tmp 7) (.tmp 12) 45 5 (.int .u8 0) 1 rfl Tryd.underlying45 info5 rfl (by decide) (by omega) u3 x3_1 (((Int.tmod x0_1 128) + 128) % 256) [.int .u8 (((Int.tmod x0_1 128) + 128) % 256)] (fun _ => True) (fun _ => False) rfl rfl ?aP (fun _ hk => hk.elim) ?aF ?aO ?aB ?aS ?aL ?_; (case aP => exact rfl); (case aB => exact y1_); (case aF => exact (fun _ _ => trivial)); (case aO => exact y88_); (case aS => exact (km y1_)); (case aL => have := LMc5.out; omega); intro v242 w6 ho hb hg hat; rw [← Ny241.out] at ho; have n0_ := am_ (hb); have n1_ := am_ (ho); clear HB; clear HO_3; have HB := n0_; have HO243 := n1_; clear n0_ n1_; clear ho hb hg hat))
     go_roundg k1
     case measure => have := HK1.out; omega
     case rel => exact ⟨(IntKind.u64.wrap (Int.tdiv x0_1 128)), (y241), y3_, H', ⟨y124_⟩, ⟨by (with_reducible repeat (first | apply Kd.R_alloc | apply Kd.R_drewN | apply Kd.R_drew)); exact HO243.out⟩, ⟨y1_⟩⟩
    ·rw [if_neg c5] at H
     exact absurd H (by simp)
   ·rw [if_neg c4] at H; have c4b0 : decide (128 ≤ x0_1) = false := decide_eq_false c4; clear c4
    by_cases c7 : x3_1.length < 140737488355328
    ·rw [if_pos c7] at H; have LMc7 := Aside0.mk c7; clear c7; obtain ⟨y244, hy244⟩ : ∃ y_ : List Int, y_ = (x3_1 ++ [(x0_1) % 256]) := ⟨_, rfl⟩
     replace H : (some y244) = some r := by first | (rw [hy244]; with_reducible exact H) | (have H2_ := (Option.bind_some _ _).symm.trans H; rw [hy244]; with_reducible exact H2_) | (have H2_ := (Option.bind_some _ _).symm.trans H; with_reducible exact H2_) | with_reducible exact H | (rw [hy244]; exact H) | exact H
     have Ny244 := Aside0.mk hy244; clear hy244; obtain rfl := Option.some.inj H
     go_wp2_with (first | ((with_reducible refine kS (b := .append) (xs := #[.tmp 16, .tmp 19]) rfl ?_); at_builtin; refine Kd.R_append (Kd.int .u8) (w0 := w) w.heap.size rfl (.tmp 16) (.tmp 19) 45 5 (.int .u8 0) 1 rfl Tryd.underlying45 info5 rfl (by decide) (by omega) u3 x3_1 ((x0_1) % 256) [.int .u8 ((x0_1) % 256)] (fun _ => True) (fun _ => False) rfl rfl ?aP (fun _ hk => hk.elim) ?aF ?aO ?aB ?aS ?aL ?_; (case aP => exact rfl); (case aB => exact y1_); (case aF => exact (fun _ _ => trivial)); (case aO => exact y88_); (case aS => exact (km y1_)); (case aL => have := LMc7.out; omega); intro v245 w8 ho hb hg hat; rw [← Ny244.out] at ho; have n0_ := am_ (hb); have n1_ := am_ (ho); clear HB; clear HO_3; have HB := n0_; have HO246 := n1_; clear n0_ n1_; clear ho hb hg hat))
     go_ret
     exact ⟨_, y5_, by (with_reducible repeat (first | apply Kd.R_alloc | apply Kd.R_drewN | apply Kd.R_drew)); exact HO246.out, y1_⟩
    ·rw [if_neg c7] at H
     exact absurd H (by simp)
def mr01_Zig.f (a0 : Int) : Option (Int) := if a0 < 0 then (some (IntKind.u64.wrap ((IntKind.u64.wrap (2 * (IntKind.u64.wrap (wrap64 (-(wrap64 (a0 + 1))))))) + 1))) else (some (IntKind.u64.wrap (2 * (IntKind.u64.wrap (a0)))))
set_option maxHeartbeats 8000000 in
set_option maxRecDepth 100000 in
theorem mr01_Zig.calls (a0 : Int) (r : Int) (w : World) (h : mr01_Zig.f a0 = some r) :
  Calls Tryd.prog 68 #[.int .i64 a0] w fun e w' => e = .returned (.int .u64 r) ∧ Drawn0 w w' := by
 have H : (if a0 < 0 then (some (IntKind.u64.wrap ((IntKind.u64.wrap (2 * (IntKind.u64.wrap (wrap64 (-(wrap64 (a0 + 1))))))) + 1))) else (some (IntKind.u64.wrap (2 * (IntKind.u64.wrap (a0)))))) = some r := h; clear h
 by_cases c2 : a0 < 0
 ·rw [if_pos c2] at H; have c2b0 : decide (a0 < 0) = true := decide_eq_true c2; clear c2; obtain rfl := Option.some.inj H; go_enter Tryd.func68, Tryd.ntmps68
  go_wp2
  go_ret
  exact ⟨y24_, y6_⟩
 ·rw [if_neg c2] at H; have c2b0 : decide (a0 < 0) = false := decide_eq_false c2; clear c2; obtain rfl := Option.some.inj H; go_enter Tryd.func68, Tryd.ntmps68
  go_wp2
  go_ret
  exact ⟨y24_, y6_⟩
def mr01_PutVarint.f (k : Nat) (a0 : Int) : Option (List Int) := (mr01_Zig.f a0).bind fun t247 => ((mr01_PutUvarint.f k t247).bind fun t248 => (some t248))
set_option maxHeartbeats 8000000 in
set_option maxRecDepth 100000 in
theorem mr01_PutVarint.calls (k : Nat) (a0 : Int) (r : List Int) (w : World) (h : mr01_PutVarint.f k a0 = some r) :
  Calls Tryd.prog 49 #[.int .i64 a0] w fun e w' => ∃ v0_ : Value, e = .returned (v0_) ∧ Kd.R (Kd.int .u8) 5 w' w.heap.size (fun _ => True) v0_ r ∧ Below w.heap.size w w' := by
 have HB := am_ (Below.refl w.heap.size w); have H : ((mr01_Zig.f a0).bind fun t247 => ((mr01_PutUvarint.f k t247).bind fun t248 => (some t248))) = some r := h; clear h; replace H := Option.bind_eq_some_iff.mp H; obtain ⟨t247, A20, H⟩ := H; have A2 := Aside0.mk A20; clear A20; replace H := Option.bind_eq_some_iff.mp H; obtain ⟨t248, A30, H⟩ := H; have A3 := Aside0.mk A30; clear A30; obtain rfl := Option.some.inj H; go_enter Tryd.func49, Tryd.ntmps49
 go_wp2_with (first | ((with_reducible refine kj (f := 68) rfl ?_); refine kw (some 4) rfl rfl Tryd.func68 (by kernel_rfl) rfl #[.int .i64 a0] rfl y2_ ?_; (with_reducible refine (mr01_Zig.calls a0 t247 _ A2.out).mono ?_); rintro e w' ⟨rfl, ⟨nd, rfl⟩⟩; refine ⟨_, rfl, ?_⟩) | ((with_reducible refine kj (f := 48) rfl ?_); refine kw (some 5) rfl rfl Tryd.func48 (by kernel_rfl) rfl #[.int .u64 t247] rfl y2_ ?_; (with_reducible refine (mr01_PutUvarint.calls k t247 t248 _ A3.out).mono ?_); rintro e w4 ⟨v249, rfl, ho0, hb⟩; refine ⟨_, rfl, ?_⟩; have HO250 := am_ (Kd.R_lower ho0 (km y1_)); replace HB := am_ (ke y1_ hb); (try clear hb); (try clear hb2); (try clear hk); (try clear hi); (try clear ho0)))
 go_ret
 exact ⟨_, y5_, by (with_reducible repeat (first | apply Kd.R_alloc | apply Kd.R_drewN | apply Kd.R_drew)); exact HO250.out, y1_⟩
end Go.Proofs.YtkkomfomjpcbfaaDoor.PTS
