import Derived.Test.YtclndenmmhdokaaDoorCHashBackH16
import Derived.Test.YtclndenmmhdokaaDoorCHashBackPHBx1
import Derived.Test.YtclndenmmhdokaaDoorCHashBackPHBx2
import Derived.Test.YtclndenmmhdokaaDoorCHashBackHP3
import Derived.Test.YtclndenmmhdokaaDoorCHashBackPHLx2
namespace Go.Proofs.YtclndenmmhdokaaDoor.PHB
open Go.RowKit Go.Proofs.YtclndenmmhdokaaDoorW.PrintWords Go.Proofs.YtclndenmmhdokaaDoorW.PrintLast Go.Proofs.YtclndenmmhdokaaDoorW.PrintMore
attribute [local go_sem] max2_int min2_int max_two min_two max_three min_three max_four min_four
set_option linter.unusedVariables false
set_option linter.unusedSimpArgs false
mutual
def manometerlaw03_HashBack.j0 : Nat → List Int → List Int → ByteArray → Bool → Option (Bool)
 | 0, _, _, _, _ => none
 | k + 1, x0, x1, x2, x28 => if x28 = true then ((manometerlaw03_live.f).bind fun t194 => (some t194)) else ((hash_Armor.f x0).bind fun t195 => ((hash_Unarmor.f t195).bind fun bt196 => ((hash_Hex.f k x0).bind fun t200 => ((hash_Unhex.f k t200).bind fun bt201 => (if bt196.2 = 0 then (if bt201.2 = 0 then ((manometerref01_Equal.f bt196.1 x0).bind fun t205 => (if t205 = true then ((manometerref01_Equal.f bt201.1 x0).bind fun t206 => (manometerlaw03_HashBack.j1 k x0 x1 x2 (!t206))) else (manometerlaw03_HashBack.j1 k x0 x1 x2 true))) else (manometerlaw03_HashBack.j1 k x0 x1 x2 true)) else (manometerlaw03_HashBack.j1 k x0 x1 x2 true))))))
def manometerlaw03_HashBack.j1 : Nat → List Int → List Int → ByteArray → Bool → Option (Bool)
 | 0, _, _, _, _ => none
 | k + 1, x0, x1, x2, x59 => if x59 = true then (some false) else ((hash_Unarmor.f x2).bind fun bt207 => (if bt207.2 = 0 then ((hash_Armor.f bt207.1).bind fun t211 => (manometerlaw03_HashBack.j2 k x0 x1 x2 (t211.toList != x2.toList))) else (manometerlaw03_HashBack.j2 k x0 x1 x2 false)))
def manometerlaw03_HashBack.j2 : Nat → List Int → List Int → ByteArray → Bool → Option (Bool)
 | 0, _, _, _, _ => none
 | k + 1, x0, x1, x2, x72 => if x72 = true then (some false) else ((hash_Unhex.f k x2).bind fun bt212 => (if bt212.2 = 0 then ((hash_Hex.f k bt212.1).bind fun t216 => (manometerlaw03_HashBack.j3 k x0 x1 (t216.toList != x2.toList))) else (manometerlaw03_HashBack.j3 k x0 x1 false)))
def manometerlaw03_HashBack.j3 : Nat → List Int → List Int → Bool → Option (Bool)
 | 0, _, _, _ => none
 | k + 1, x0, x1, x85 => if x85 = true then (some false) else (if (x0.length : Int) > (x1.length : Int) then (some true) else ((hash_Armor.f x0).bind fun t217 => ((hash_Armor.f x1).bind fun t218 => (if (t217.size : Int) ≤ (t218.size : Int) then ((hash_Hex.f k x0).bind fun t219 => (some ((t219.size : Int) == (wrap64 (2 * (x0.length : Int)))))) else (some false)))))
end
def manometerlaw03_HashBack.f (k : Nat) (l0 : List Int) (l1 : List Int) (a2 : ByteArray) : Option (Bool) := (manometerlaw03_live.f).bind fun t189 => (if t189 = true then ((manometerlaw03_short.f k (([l0, l1] : List (List Int)))).bind fun t193 => (if t193 = true then (manometerlaw03_HashBack.j0 k l0 l1 a2 (decide ((a2.size : Int) > 2000))) else (manometerlaw03_HashBack.j0 k l0 l1 a2 true))) else (manometerlaw03_HashBack.j0 k l0 l1 a2 true))
set_option maxHeartbeats 8000000 in
set_option maxRecDepth 100000 in
theorem manometerlaw03_HashBack.calls (k : Nat) (P0_ : Nat → Prop) (A0 : Option Addr) (c0 : Nat) (l0 : List Int) (P1_ : Nat → Prop) (A1 : Option Addr) (c1 : Nat) (l1 : List Int) (a2 : ByteArray) (r : Bool) (w : World) (hT : Aside0 (Tab w)) (hs0 : Kd.V (Kd.int .u8) 5 w w.heap.size (fun k_ => P0_ k_) (.slice A0 l0.length c0) l0) (hs1 : Kd.V (Kd.int .u8) 5 w w.heap.size (fun k_ => P1_ k_) (.slice A1 l1.length c1) l1) (h : manometerlaw03_HashBack.f k l0 l1 a2 = some r) :
  Calls Tryd.prog 11 #[.slice A0 l0.length c0, .slice A1 l1.length c1, .string a2] w fun e w' => e = .returned (.bool r) ∧ Below w.heap.size w w' := by
 have HO0 := Aside0.mk (show Kd.V (Kd.int .u8) 5 w w.heap.size (fun k_ => ((P0_ k_ ∨ P1_ k_) ∨ w.heap.size ≤ k_)) (.slice A0 l0.length c0) l0 from Kd.V_mono hs0 (fun k_ hk => .inl (.inl hk)))
 have HO1 := Aside0.mk (show Kd.V (Kd.int .u8) 5 w w.heap.size (fun k_ => ((P0_ k_ ∨ P1_ k_) ∨ w.heap.size ≤ k_)) (.slice A1 l1.length c1) l1 from Kd.V_mono hs1 (fun k_ hk => .inl (.inr hk)))
 have HB := Aside0.mk (Below.refl w.heap.size w)
 have H : ((manometerlaw03_live.f).bind fun t189 => (if t189 = true then ((manometerlaw03_short.f k (([l0, l1] : List (List Int)))).bind fun t193 => (if t193 = true then (manometerlaw03_HashBack.j0 k l0 l1 a2 (decide ((a2.size : Int) > 2000))) else (manometerlaw03_HashBack.j0 k l0 l1 a2 true))) else (manometerlaw03_HashBack.j0 k l0 l1 a2 true))) = some r := h
 clear h
 have HC4 := Aside0.mk H
 clear H
 go_enter Tryd.func11, Tryd.ntmps11
 go_upto_region 1 with (fail)
 go_cut [28] (fun v28 wc => ∃ (kq : Nat) (x28_3 : Bool), v28 = .bool x28_3 ∧ Aside0 (manometerlaw03_HashBack.j0 kq l0 l1 a2 x28_3 = some r) ∧ Aside0 (kq ≤ k) ∧ Aside0 (Kd.V (Kd.int .u8) 5 wc w.heap.size (fun k_ => ((P0_ k_ ∨ P1_ k_) ∨ w.heap.size ≤ k_)) (.slice A0 l0.length c0) l0) ∧ Aside0 (Kd.V (Kd.int .u8) 5 wc w.heap.size (fun k_ => ((P0_ k_ ∨ P1_ k_) ∨ w.heap.size ≤ k_)) (.slice A1 l1.length c1) l1) ∧ Aside0 (Below w.heap.size w wc))
 case first =>
  have H := HC4.out
  clear HC4
  replace H := Option.bind_eq_some_iff.mp H
  obtain ⟨t189, A50, H⟩ := H
  replace H : (if t189 = true then ((manometerlaw03_short.f k (([l0, l1] : List (List Int)))).bind fun t193 => (if t193 = true then (manometerlaw03_HashBack.j0 k l0 l1 a2 (decide ((a2.size : Int) > 2000))) else (manometerlaw03_HashBack.j0 k l0 l1 a2 true))) else (manometerlaw03_HashBack.j0 k l0 l1 a2 true)) = some r := H
  have A5 := Aside0.mk A50
  clear A50
  by_cases c6 : t189 = true
  ·subst c6
   have H1 : ((manometerlaw03_short.f k (([l0, l1] : List (List Int)))).bind fun t193 => (if t193 = true then (manometerlaw03_HashBack.j0 k l0 l1 a2 (decide ((a2.size : Int) > 2000))) else (manometerlaw03_HashBack.j0 k l0 l1 a2 true))) = some r := by rw [if_pos rfl] at H; exact H
   clear H
   have H := H1
   clear H1
   obtain ⟨y190, hy190⟩ : ∃ y_ : List (List Int), y_ = (([l0, l1] : List (List Int))) := ⟨_, rfl⟩
   replace H : ((manometerlaw03_short.f k y190).bind fun t193 => (if t193 = true then (manometerlaw03_HashBack.j0 k l0 l1 a2 (decide ((a2.size : Int) > 2000))) else (manometerlaw03_HashBack.j0 k l0 l1 a2 true))) = some r := by first | (rw [hy190]; with_reducible exact H) | (have H2_ := (Option.bind_some _ _).symm.trans H; rw [hy190]; with_reducible exact H2_) | (have H2_ := (Option.bind_some _ _).symm.trans H; with_reducible exact H2_) | with_reducible exact H | (rw [hy190]; exact H) | exact H
   have Ny190 := Aside0.mk hy190
   clear hy190
   replace H := Option.bind_eq_some_iff.mp H
   obtain ⟨t193, A70, H⟩ := H
   replace H : (if t193 = true then (manometerlaw03_HashBack.j0 k l0 l1 a2 (decide ((a2.size : Int) > 2000))) else (manometerlaw03_HashBack.j0 k l0 l1 a2 true)) = some r := H
   have A7 := Aside0.mk A70
   clear A70
   by_cases c8 : t193 = true
   ·subst c8
    have H1 : (manometerlaw03_HashBack.j0 k l0 l1 a2 (decide ((a2.size : Int) > 2000))) = some r := by rw [if_pos rfl] at H; exact H
    clear H
    have H := H1
    clear H1
    have H' := Aside0.mk H
    clear H
    go_wp2_with (first | ((with_reducible refine gate_callee (f := 12) rfl ?_); refine goesL_ (some 15) rfl rfl Tryd.func12 (by kernel_rfl) rfl #[] rfl y6_ ?_; (with_reducible refine (manometerlaw03_live.calls  true _ ?side1 A5.out).mono ?_); (case side1 => exact ⟨Tab_below hT.out y1_⟩); rintro e w9 ⟨rfl, hb⟩; refine ⟨_, rfl, ?_⟩; have n0_ := Aside0.mk (Kd.V_below y10_ hb); have n1_ := Aside0.mk (Kd.V_below y9_ hb); have n2_ := Aside0.mk (below_step y1_ hb); clear HO0; clear HO1; clear HB; have HO0 := n0_; have HO1 := n1_; have HB := n2_; clear n0_ n1_ n2_; (try clear hb); (try clear hb2); (try clear hk); (try clear hi)) | ((with_reducible refine gate_dst (N := 20) rfl ?_); (try (refine gate_guard (by rfl) ?_; dsimp only)); refine Kd.N_lit (Kd.slice 5 (Kd.int .u8)) _ 28 ?hg (N' := 20) ?hd (xs := ([l0, l1] : List (List Int))) (inner := [.slice A0 l0.length c0, .slice A1 l1.length c1]) (ok := (fun k_ => ((P0_ k_ ∨ P1_ k_) ∨ w.heap.size ≤ k_))) (okp := (fun k_ => ((P0_ k_ ∨ P1_ k_) ∨ w.heap.size ≤ k_))) ?hr ?hp (fun _ hk => hk) ((show ∀ k_, w9.heap.size ≤ k_ → (fun k_ => ((P0_ k_ ∨ P1_ k_) ∨ w.heap.size ≤ k_)) k_ from fun k_ hk => (.inr (Nat.le_trans (below_size y1_) hk))) _ (Nat.le_refl _)) (Below.refl _ _) (Nat.le_refl _) (by simp) ?_; (case hd => rfl); (case hg => rfl); (case hr => first | (go_simp; done) | (go_simp; rfl)); (case hp => exact (Reps.one (show Kd.FK (Kd.slice 5 (Kd.int .u8)) _ _ l0 [.slice A0 l0.length c0] from (Kd.FK_slice_mk (Kd.V_reads' (Kd.V_mono (ok' := (fun k_ => ((P0_ k_ ∨ P1_ k_) ∨ w.heap.size ≤ k_))) (HO0.out) (fun k_ hk => hk))).2.1 (Kd.V_F (Kd.V_mono (ok' := (fun k_ => ((P0_ k_ ∨ P1_ k_) ∨ w.heap.size ≤ k_))) (HO0.out) (fun k_ hk => hk))))) (Reps.one (show Kd.FK (Kd.slice 5 (Kd.int .u8)) _ _ l1 [.slice A1 l1.length c1] from (Kd.FK_slice_mk (Kd.V_reads' (Kd.V_mono (ok' := (fun k_ => ((P0_ k_ ∨ P1_ k_) ∨ w.heap.size ≤ k_))) (HO1.out) (fun k_ hk => hk))).2.1 (Kd.V_F (Kd.V_mono (ok' := (fun k_ => ((P0_ k_ ∨ P1_ k_) ∨ w.heap.size ≤ k_))) (HO1.out) (fun k_ hk => hk))))) (Reps.none _ _)))); intro v191 w10 ho11 hb hg_ hnew_; clear hg_ hnew_; (first | rw [← Ny190.out] at ho11 | (simp only [Int.reduceToNat] at ho11; rw [← Ny190.out] at ho11)); have n0_ := Aside0.mk (Kd.V_elder' y10_ (Kd.N_base ho11) hb); have n1_ := Aside0.mk (Kd.V_elder' y9_ (Kd.N_base ho11) hb); have n2_ := Aside0.mk (Kd.N_lower ho11 (below_size y1_)); have n3_ := Aside0.mk (below_step y1_ hb); clear HO0; clear HO1; clear HB; have HO0 := n0_; have HO1 := n1_; have HO192 := n2_; have HB := n3_; clear n0_ n1_ n2_ n3_; clear hb ho11; obtain ⟨Ao12, co12, eo12⟩ := Kd.N_slice HO192.out; subst eo12) | (go_at_call 13; (with_reducible refine (manometerlaw03_short.calls k _ _ y190 true _ ?side1 ?side2 A7.out).mono ?_); (case side1 => repeat (first | exact (Kd.N_reads' HO192.out).2.2 | (with_reducible refine Kd.C_alloc ?_ _) | (with_reducible refine Kd.C_drewN ?_ _) | (with_reducible refine Kd.C_drew ?_))); (case side2 => exact (Kd.N_reads' HO192.out).2.1); rintro e w' ⟨rfl, ⟨nd, rfl⟩⟩))
    go_meet
    case rel => exact ⟨_, (decide ((a2.size : Int) > 2000)), y2_, H', ⟨by first | omega | exact Nat.le_refl _⟩, ⟨by (with_reducible repeat (first | apply Kd.V_alloc | apply Kd.V_drewN | apply Kd.V_drew)); exact Kd.V_mono HO0.out (fun _ hk => hk.1)⟩, ⟨by (with_reducible repeat (first | apply Kd.V_alloc | apply Kd.V_drewN | apply Kd.V_drew)); exact Kd.V_mono HO1.out (fun _ hk => hk.1)⟩, ⟨y1_⟩⟩
   ·replace c8 := Bool.eq_false_iff.mpr c8
    subst c8
    have H1 : (manometerlaw03_HashBack.j0 k l0 l1 a2 true) = some r := by rw [if_neg (show ¬ (false = true) by decide)] at H; exact H
    clear H
    have H := H1
    clear H1
    have H' := Aside0.mk H
    clear H
    go_wp2_with (first | ((with_reducible refine gate_callee (f := 12) rfl ?_); refine goesL_ (some 15) rfl rfl Tryd.func12 (by kernel_rfl) rfl #[] rfl y6_ ?_; (with_reducible refine (manometerlaw03_live.calls  true _ ?side1 A5.out).mono ?_); (case side1 => exact ⟨Tab_below hT.out y1_⟩); rintro e w13 ⟨rfl, hb⟩; refine ⟨_, rfl, ?_⟩; have n0_ := Aside0.mk (Kd.V_below y10_ hb); have n1_ := Aside0.mk (Kd.V_below y9_ hb); have n2_ := Aside0.mk (below_step y1_ hb); clear HO0; clear HO1; clear HB; have HO0 := n0_; have HO1 := n1_; have HB := n2_; clear n0_ n1_ n2_; (try clear hb); (try clear hb2); (try clear hk); (try clear hi)) | ((with_reducible refine gate_dst (N := 20) rfl ?_); (try (refine gate_guard (by rfl) ?_; dsimp only)); refine Kd.N_lit (Kd.slice 5 (Kd.int .u8)) _ 28 ?hg (N' := 20) ?hd (xs := ([l0, l1] : List (List Int))) (inner := [.slice A0 l0.length c0, .slice A1 l1.length c1]) (ok := (fun k_ => ((P0_ k_ ∨ P1_ k_) ∨ w.heap.size ≤ k_))) (okp := (fun k_ => ((P0_ k_ ∨ P1_ k_) ∨ w.heap.size ≤ k_))) ?hr ?hp (fun _ hk => hk) ((show ∀ k_, w13.heap.size ≤ k_ → (fun k_ => ((P0_ k_ ∨ P1_ k_) ∨ w.heap.size ≤ k_)) k_ from fun k_ hk => (.inr (Nat.le_trans (below_size y1_) hk))) _ (Nat.le_refl _)) (Below.refl _ _) (Nat.le_refl _) (by simp) ?_; (case hd => rfl); (case hg => rfl); (case hr => first | (go_simp; done) | (go_simp; rfl)); (case hp => exact (Reps.one (show Kd.FK (Kd.slice 5 (Kd.int .u8)) _ _ l0 [.slice A0 l0.length c0] from (Kd.FK_slice_mk (Kd.V_reads' (Kd.V_mono (ok' := (fun k_ => ((P0_ k_ ∨ P1_ k_) ∨ w.heap.size ≤ k_))) (HO0.out) (fun k_ hk => hk))).2.1 (Kd.V_F (Kd.V_mono (ok' := (fun k_ => ((P0_ k_ ∨ P1_ k_) ∨ w.heap.size ≤ k_))) (HO0.out) (fun k_ hk => hk))))) (Reps.one (show Kd.FK (Kd.slice 5 (Kd.int .u8)) _ _ l1 [.slice A1 l1.length c1] from (Kd.FK_slice_mk (Kd.V_reads' (Kd.V_mono (ok' := (fun k_ => ((P0_ k_ ∨ P1_ k_) ∨ w.heap.size ≤ k_))) (HO1.out) (fun k_ hk => hk))).2.1 (Kd.V_F (Kd.V_mono (ok' := (fun k_ => ((P0_ k_ ∨ P1_ k_) ∨ w.heap.size ≤ k_))) (HO1.out) (fun k_ hk => hk))))) (Reps.none _ _)))); intro v191 w14 ho15 hb hg_ hnew_; clear hg_ hnew_; (first | rw [← Ny190.out] at ho15 | (simp only [Int.reduceToNat] at ho15; rw [← Ny190.out] at ho15)); have n0_ := Aside0.mk (Kd.V_elder' y10_ (Kd.N_base ho15) hb); have n1_ := Aside0.mk (Kd.V_elder' y9_ (Kd.N_base ho15) hb); have n2_ := Aside0.mk (Kd.N_lower ho15 (below_size y1_)); have n3_ := Aside0.mk (below_step y1_ hb); clear HO0; clear HO1; clear HB; have HO0 := n0_; have HO1 := n1_; have HO192 := n2_; have HB := n3_; clear n0_ n1_ n2_ n3_; clear hb ho15; obtain ⟨Ao16, co16, eo16⟩ := Kd.N_slice HO192.out; subst eo16) | (go_at_call 13; (with_reducible refine (manometerlaw03_short.calls k _ _ y190 false _ ?side1 ?side2 A7.out).mono ?_); (case side1 => repeat (first | exact (Kd.N_reads' HO192.out).2.2 | (with_reducible refine Kd.C_alloc ?_ _) | (with_reducible refine Kd.C_drewN ?_ _) | (with_reducible refine Kd.C_drew ?_))); (case side2 => exact (Kd.N_reads' HO192.out).2.1); rintro e w' ⟨rfl, ⟨nd, rfl⟩⟩))
    go_meet
    case rel => exact ⟨_, (true), y2_, H', ⟨by first | omega | exact Nat.le_refl _⟩, ⟨by (with_reducible repeat (first | apply Kd.V_alloc | apply Kd.V_drewN | apply Kd.V_drew)); exact Kd.V_mono HO0.out (fun _ hk => hk.1)⟩, ⟨by (with_reducible repeat (first | apply Kd.V_alloc | apply Kd.V_drewN | apply Kd.V_drew)); exact Kd.V_mono HO1.out (fun _ hk => hk.1)⟩, ⟨y1_⟩⟩
  ·replace c6 := Bool.eq_false_iff.mpr c6
   subst c6
   have H1 : (manometerlaw03_HashBack.j0 k l0 l1 a2 true) = some r := by rw [if_neg (show ¬ (false = true) by decide)] at H; exact H
   clear H
   have H := H1
   clear H1
   have H' := Aside0.mk H
   clear H
   go_wp2_with (first | ((with_reducible refine gate_callee (f := 12) rfl ?_); refine goesL_ (some 15) rfl rfl Tryd.func12 (by kernel_rfl) rfl #[] rfl y6_ ?_; (with_reducible refine (manometerlaw03_live.calls  false _ ?side1 A5.out).mono ?_); (case side1 => exact ⟨Tab_below hT.out y1_⟩); rintro e w17 ⟨rfl, hb⟩; refine ⟨_, rfl, ?_⟩; have n0_ := Aside0.mk (Kd.V_below y10_ hb); have n1_ := Aside0.mk (Kd.V_below y9_ hb); have n2_ := Aside0.mk (below_step y1_ hb); clear HO0; clear HO1; clear HB; have HO0 := n0_; have HO1 := n1_; have HB := n2_; clear n0_ n1_ n2_; (try clear hb); (try clear hb2); (try clear hk); (try clear hi)))
   go_meet
   case rel => exact ⟨_, (true), y2_, H', ⟨by first | omega | exact Nat.le_refl _⟩, ⟨y10_⟩, ⟨y9_⟩, ⟨y1_⟩⟩
 case rest =>
  clear HC4
  try clear c1
  try clear p2
  try clear c6
  try clear c8
  try clear c11
  try clear c12
  obtain ⟨kq, x28_3, rfl, HA, HJ3, HO_0, HO_1, HB⟩ := hcut
  cases kq with
  | zero => exact absurd HA.out (by simp [manometerlaw03_HashBack.j0])
  | succ kj3 =>
   have H := HA.out
   clear HA
   simp only [manometerlaw03_HashBack.j0] at H
   by_cases c18 : x28_3 = true
   ·subst c18
    have H1 : ((manometerlaw03_live.f).bind fun t194 => (some t194)) = some r := by rw [if_pos rfl] at H; exact H
    clear H
    have H := H1
    clear H1
    replace H := Option.bind_eq_some_iff.mp H
    obtain ⟨t194, A190, H⟩ := H
    replace H : (some t194) = some r := H
    have A19 := Aside0.mk A190
    clear A190
    obtain rfl := Option.some.inj H
    go_wp2_with (first | ((with_reducible refine gate_callee (f := 12) rfl ?_); refine goesL_ (some 29) rfl rfl Tryd.func12 (by kernel_rfl) rfl #[] rfl y6_ ?_; (with_reducible refine (manometerlaw03_live.calls  t194 _ ?side1 A19.out).mono ?_); (case side1 => exact ⟨Tab_below hT.out y1_⟩); rintro e w20 ⟨rfl, hb⟩; refine ⟨_, rfl, ?_⟩; have n0_ := Aside0.mk (Kd.V_below y5_ hb); have n1_ := Aside0.mk (Kd.V_below y4_ hb); have n2_ := Aside0.mk (below_step y1_ hb); clear HO_0; clear HO_1; clear HB; have HO_0 := n0_; have HO_1 := n1_; have HB := n2_; clear n0_ n1_ n2_; (try clear hb); (try clear hb2); (try clear hk); (try clear hi)))
    go_ret
    exact ⟨y8_, y1_⟩
   ·replace c18 := Bool.eq_false_iff.mpr c18
    subst c18
    have H1 : ((hash_Armor.f l0).bind fun t195 => ((hash_Unarmor.f t195).bind fun bt196 => ((hash_Hex.f kj3 l0).bind fun t200 => ((hash_Unhex.f kj3 t200).bind fun bt201 => (if bt196.2 = 0 then (if bt201.2 = 0 then ((manometerref01_Equal.f bt196.1 l0).bind fun t205 => (if t205 = true then ((manometerref01_Equal.f bt201.1 l0).bind fun t206 => (manometerlaw03_HashBack.j1 kj3 l0 l1 a2 (!t206))) else (manometerlaw03_HashBack.j1 kj3 l0 l1 a2 true))) else (manometerlaw03_HashBack.j1 kj3 l0 l1 a2 true)) else (manometerlaw03_HashBack.j1 kj3 l0 l1 a2 true)))))) = some r := by rw [if_neg (show ¬ (false = true) by decide)] at H; exact H
    clear H
    have H := H1
    clear H1
    replace H := Option.bind_eq_some_iff.mp H
    obtain ⟨t195, A210, H⟩ := H
    replace H : ((hash_Unarmor.f t195).bind fun bt196 => ((hash_Hex.f kj3 l0).bind fun t200 => ((hash_Unhex.f kj3 t200).bind fun bt201 => (if bt196.2 = 0 then (if bt201.2 = 0 then ((manometerref01_Equal.f bt196.1 l0).bind fun t205 => (if t205 = true then ((manometerref01_Equal.f bt201.1 l0).bind fun t206 => (manometerlaw03_HashBack.j1 kj3 l0 l1 a2 (!t206))) else (manometerlaw03_HashBack.j1 kj3 l0 l1 a2 true))) else (manometerlaw03_HashBack.j1 kj3 l0 l1 a2 true)) else (manometerlaw03_HashBack.j1 kj3 l0 l1 a2 true))))) = some r := H
    have A21 := Aside0.mk A210
    clear A210
    replace H := Option.bind_eq_some_iff.mp H
    obtain ⟨⟨t196, t197⟩, A220, H⟩ := H
    replace H : ((hash_Hex.f kj3 l0).bind fun t200 => ((hash_Unhex.f kj3 t200).bind fun bt201 => (if t197 = 0 then (if bt201.2 = 0 then ((manometerref01_Equal.f t196 l0).bind fun t205 => (if t205 = true then ((manometerref01_Equal.f bt201.1 l0).bind fun t206 => (manometerlaw03_HashBack.j1 kj3 l0 l1 a2 (!t206))) else (manometerlaw03_HashBack.j1 kj3 l0 l1 a2 true))) else (manometerlaw03_HashBack.j1 kj3 l0 l1 a2 true)) else (manometerlaw03_HashBack.j1 kj3 l0 l1 a2 true)))) = some r := H
    have A22 := Aside0.mk A220
    clear A220
    replace H := Option.bind_eq_some_iff.mp H
    obtain ⟨t200, A230, H⟩ := H
    replace H : ((hash_Unhex.f kj3 t200).bind fun bt201 => (if t197 = 0 then (if bt201.2 = 0 then ((manometerref01_Equal.f t196 l0).bind fun t205 => (if t205 = true then ((manometerref01_Equal.f bt201.1 l0).bind fun t206 => (manometerlaw03_HashBack.j1 kj3 l0 l1 a2 (!t206))) else (manometerlaw03_HashBack.j1 kj3 l0 l1 a2 true))) else (manometerlaw03_HashBack.j1 kj3 l0 l1 a2 true)) else (manometerlaw03_HashBack.j1 kj3 l0 l1 a2 true))) = some r := H
    have A23 := Aside0.mk A230
    clear A230
    replace H := Option.bind_eq_some_iff.mp H
    obtain ⟨⟨t201, t202⟩, A240, H⟩ := H
    replace H : (if t197 = 0 then (if t202 = 0 then ((manometerref01_Equal.f t196 l0).bind fun t205 => (if t205 = true then ((manometerref01_Equal.f t201 l0).bind fun t206 => (manometerlaw03_HashBack.j1 kj3 l0 l1 a2 (!t206))) else (manometerlaw03_HashBack.j1 kj3 l0 l1 a2 true))) else (manometerlaw03_HashBack.j1 kj3 l0 l1 a2 true)) else (manometerlaw03_HashBack.j1 kj3 l0 l1 a2 true)) = some r := H
    have A24 := Aside0.mk A240
    clear A240
    have HC25 := Aside0.mk H
    clear H
    go_upto_region 5 with (first | ((with_reducible refine gate_callee (f := 32) rfl ?_); refine goesL_ (some 32) rfl rfl Tryd.func32 (by kernel_rfl) rfl #[.slice A0 l0.length c0] rfl y6_ ?_; (with_reducible refine (hash_Armor.calls _ _ l0 t195 _ ?side1 ?side2 A21.out).mono ?_); (case side1 => repeat (first | exact (Kd.V_reads' HO_0.out).2.2 | (with_reducible refine Kd.C_alloc ?_ _) | (with_reducible refine Kd.C_drewN ?_ _) | (with_reducible refine Kd.C_drew ?_))); (case side2 => exact (Kd.V_reads' HO_0.out).2.1); rintro e w26 ⟨rfl, hb⟩; refine ⟨_, rfl, ?_⟩; have n0_ := Aside0.mk (Kd.V_below y5_ hb); have n1_ := Aside0.mk (Kd.V_below y4_ hb); have n2_ := Aside0.mk (below_step y1_ hb); clear HO_0; clear HO_1; clear HB; have HO_0 := n0_; have HO_1 := n1_; have HB := n2_; clear n0_ n1_ n2_; (try clear hb); (try clear hb2); (try clear hk); (try clear hi)) | ((with_reducible refine gate_callee (f := 28) rfl ?_); refine goesL_ (some 33) rfl rfl Tryd.func28 (by kernel_rfl) rfl #[.string t195] rfl y6_ ?_; (with_reducible refine (hash_Unarmor.calls t195 t196 t197 _ A22.out).mono ?_); rintro e w27 ⟨v198, rfl, ho0, hb⟩; refine ⟨_, rfl, ?_⟩; have n0_ := Aside0.mk (Kd.V_elder' y5_ (Kd.R_base ho0) hb); have n1_ := Aside0.mk (Kd.V_elder' y4_ (Kd.R_base ho0) hb); have n2_ := Aside0.mk (Kd.R_lower (Kd.R_newM (M := fun k_ => (w.heap.size ≤ k_)) ho0 (below_size y1_) (fun k_ h_ => h_)) (below_size y1_)); have n3_ := Aside0.mk (below_step y1_ hb); clear HO_0; clear HO_1; clear HB; have HO_0 := n0_; have HO_1 := n1_; have HO199 := n2_; have HB := n3_; clear n0_ n1_ n2_ n3_; (try clear hb); (try clear hb2); (try clear hk); (try clear hi); (try clear ho0)) | ((with_reducible refine gate_callee (f := 34) rfl ?_); refine goesL_ (some 38) rfl rfl Tryd.func34 (by kernel_rfl) rfl #[.slice A0 l0.length c0] rfl y6_ ?_; (with_reducible refine (hash_Hex.calls kj3 _ _ l0 t200 _ ?side1 ?side2 A23.out).mono ?_); (case side1 => repeat (first | exact (Kd.V_reads' HO_0.out).2.2 | (with_reducible refine Kd.C_alloc ?_ _) | (with_reducible refine Kd.C_drewN ?_ _) | (with_reducible refine Kd.C_drew ?_))); (case side2 => exact (Kd.V_reads' HO_0.out).2.1); rintro e w28 ⟨rfl, hb⟩; refine ⟨_, rfl, ?_⟩; have n0_ := Aside0.mk (Kd.V_below y5_ hb); have n1_ := Aside0.mk (Kd.V_below y4_ hb); have n2_ := Aside0.mk (Kd.R_below y18_ hb); have n3_ := Aside0.mk (below_step y1_ hb); clear HO_0; clear HO_1; clear HO199; clear HB; have HO_0 := n0_; have HO_1 := n1_; have HO199 := n2_; have HB := n3_; clear n0_ n1_ n2_ n3_; (try clear hb); (try clear hb2); (try clear hk); (try clear hi)) | ((with_reducible refine gate_callee (f := 30) rfl ?_); refine goesL_ (some 39) rfl rfl Tryd.func30 (by kernel_rfl) rfl #[.string t200] rfl y6_ ?_; (with_reducible refine (hash_Unhex.calls kj3 t200 t201 t202 _ A24.out).mono ?_); rintro e w29 ⟨v203, rfl, ho0, hb⟩; refine ⟨_, rfl, ?_⟩; have n0_ := Aside0.mk (Kd.V_elder' y5_ (Kd.R_base ho0) hb); have n1_ := Aside0.mk (Kd.V_elder' y4_ (Kd.R_base ho0) hb); have n2_ := Aside0.mk (Kd.R_elder' y18_ (Kd.R_base ho0) hb); have n3_ := Aside0.mk (Kd.R_lower (Kd.R_new' (Kd.R_newM (M := fun k_ => (w.heap.size ≤ k_)) ho0 (below_size y1_) (fun k_ h_ => h_)) (Kd.R_lt y18_)) (below_size y1_)); have n4_ := Aside0.mk (below_step y1_ hb); clear HO_0; clear HO_1; clear HO199; clear HB; have HO_0 := n0_; have HO_1 := n1_; have HO199 := n2_; have HO204 := n3_; have HB := n4_; clear n0_ n1_ n2_ n3_ n4_; (try clear hb); (try clear hb2); (try clear hk); (try clear hi); (try clear ho0)))
    (try simp only [Act.put, List.setIfInBounds_toArray, List.set_cons_zero, List.set_cons_succ])
    go_cut [59] (fun v59 wc => ∃ (kq : Nat) (x59_24 : Bool), v59 = .bool x59_24 ∧ Aside0 (manometerlaw03_HashBack.j1 kq l0 l1 a2 x59_24 = some r) ∧ Aside0 (kq ≤ kj3) ∧ Aside0 (Kd.V (Kd.int .u8) 5 wc w.heap.size (fun k_ => ((P0_ k_ ∨ P1_ k_) ∨ w.heap.size ≤ k_)) (.slice A0 l0.length c0) l0) ∧ Aside0 (Kd.V (Kd.int .u8) 5 wc w.heap.size (fun k_ => ((P0_ k_ ∨ P1_ k_) ∨ w.heap.size ≤ k_)) (.slice A1 l1.length c1) l1) ∧ Aside0 (Below w.heap.size w wc))
    case first =>
     have H := HC25.out
     clear HC25
     by_cases c30 : t197 = 0
     ·rw [if_pos c30] at H
      have c30b0 : (t197 == 0) = true := beq_iff_eq.mpr c30
      have c30b1 : (t197 != 0) = false := bne_eq_false_iff_eq.mpr c30
      clear c30
      (first | rw [c30b0] | (simp only [i64_w, i32_w]; rw [c30b0]) | skip)
      by_cases c31 : t202 = 0
      ·rw [if_pos c31] at H
       have c31b0 : (t202 == 0) = true := beq_iff_eq.mpr c31
       have c31b1 : (t202 != 0) = false := bne_eq_false_iff_eq.mpr c31
       clear c31
       replace H := Option.bind_eq_some_iff.mp H
       obtain ⟨t205, A320, H⟩ := H
       replace H : (if t205 = true then ((manometerref01_Equal.f t201 l0).bind fun t206 => (manometerlaw03_HashBack.j1 kj3 l0 l1 a2 (!t206))) else (manometerlaw03_HashBack.j1 kj3 l0 l1 a2 true)) = some r := H
       have A32 := Aside0.mk A320
       clear A320
       by_cases c33 : t205 = true
       ·subst c33
        have H1 : ((manometerref01_Equal.f t201 l0).bind fun t206 => (manometerlaw03_HashBack.j1 kj3 l0 l1 a2 (!t206))) = some r := by rw [if_pos rfl] at H; exact H
        clear H
        have H := H1
        clear H1
        replace H := Option.bind_eq_some_iff.mp H
        obtain ⟨t206, A340, H⟩ := H
        replace H : (manometerlaw03_HashBack.j1 kj3 l0 l1 a2 (!t206)) = some r := H
        have A34 := Aside0.mk A340
        clear A340
        have H' := Aside0.mk H
        clear H
        obtain ⟨Ao35, co35, eo35⟩ := Kd.R_slice HO199.out
        subst eo35
        go_wp2_with (first | (go_at_call 15; (with_reducible refine (manometerref01_Equal.calls _ _ t196 _ _ l0 true _ ?side1 ?side2 ?side3 ?side4 A32.out).mono ?_); (case side1 => repeat (first | exact (Kd.R_reads' HO199.out).2.2 | (with_reducible refine Kd.C_alloc ?_ _) | (with_reducible refine Kd.C_drewN ?_ _) | (with_reducible refine Kd.C_drew ?_))); (case side2 => exact (Kd.R_reads' HO199.out).2.1); (case side3 => repeat (first | exact (Kd.V_reads' HO_0.out).2.2 | (with_reducible refine Kd.C_alloc ?_ _) | (with_reducible refine Kd.C_drewN ?_ _) | (with_reducible refine Kd.C_drew ?_))); (case side4 => exact (Kd.V_reads' HO_0.out).2.1); rintro e w' ⟨rfl, ⟨nd, rfl⟩⟩; obtain ⟨Ao36, co36, eo36⟩ := Kd.R_slice HO204.out; subst eo36) | (go_at_call 15; (with_reducible refine (manometerref01_Equal.calls _ _ t201 _ _ l0 t206 _ ?side1 ?side2 ?side3 ?side4 A34.out).mono ?_); (case side1 => repeat (first | exact (Kd.R_reads' HO204.out).2.2 | (with_reducible refine Kd.C_alloc ?_ _) | (with_reducible refine Kd.C_drewN ?_ _) | (with_reducible refine Kd.C_drew ?_))); (case side2 => exact (Kd.R_reads' HO204.out).2.1); (case side3 => repeat (first | exact (Kd.V_reads' HO_0.out).2.2 | (with_reducible refine Kd.C_alloc ?_ _) | (with_reducible refine Kd.C_drewN ?_ _) | (with_reducible refine Kd.C_drew ?_))); (case side4 => exact (Kd.V_reads' HO_0.out).2.1); rintro e w' ⟨rfl, ⟨nd, rfl⟩⟩))
        go_meet
        case rel => exact ⟨_, (!t206), y2_, H', ⟨by have := HJ3.out; first | omega | exact Nat.le_refl _⟩, ⟨y13_⟩, ⟨y12_⟩, ⟨y1_⟩⟩
       ·replace c33 := Bool.eq_false_iff.mpr c33
        subst c33
        have H1 : (manometerlaw03_HashBack.j1 kj3 l0 l1 a2 true) = some r := by rw [if_neg (show ¬ (false = true) by decide)] at H; exact H
        clear H
        have H := H1
        clear H1
        have H' := Aside0.mk H
        clear H
        obtain ⟨Ao37, co37, eo37⟩ := Kd.R_slice HO199.out
        subst eo37
        go_wp2_with (first | (go_at_call 15; (with_reducible refine (manometerref01_Equal.calls _ _ t196 _ _ l0 false _ ?side1 ?side2 ?side3 ?side4 A32.out).mono ?_); (case side1 => repeat (first | exact (Kd.R_reads' HO199.out).2.2 | (with_reducible refine Kd.C_alloc ?_ _) | (with_reducible refine Kd.C_drewN ?_ _) | (with_reducible refine Kd.C_drew ?_))); (case side2 => exact (Kd.R_reads' HO199.out).2.1); (case side3 => repeat (first | exact (Kd.V_reads' HO_0.out).2.2 | (with_reducible refine Kd.C_alloc ?_ _) | (with_reducible refine Kd.C_drewN ?_ _) | (with_reducible refine Kd.C_drew ?_))); (case side4 => exact (Kd.V_reads' HO_0.out).2.1); rintro e w' ⟨rfl, ⟨nd, rfl⟩⟩))
        go_meet
        case rel => exact ⟨_, (true), y2_, H', ⟨by have := HJ3.out; first | omega | exact Nat.le_refl _⟩, ⟨y13_⟩, ⟨y12_⟩, ⟨y1_⟩⟩
      ·rw [if_neg c31] at H
       have c31b0 : (t202 == 0) = false := beq_eq_false_iff_ne.mpr c31
       have c31b1 : (t202 != 0) = true := bne_iff_ne.mpr c31
       have H' := Aside0.mk H
       clear H
       go_wp2
       go_meet
       case rel => exact ⟨_, (true), y2_, H', ⟨by have := HJ3.out; first | omega | exact Nat.le_refl _⟩, ⟨y13_⟩, ⟨y12_⟩, ⟨y1_⟩⟩
     ·rw [if_neg c30] at H
      have c30b0 : (t197 == 0) = false := beq_eq_false_iff_ne.mpr c30
      have c30b1 : (t197 != 0) = true := bne_iff_ne.mpr c30
      (first | rw [c30b0] | (simp only [i64_w, i32_w]; rw [c30b0]) | skip)
      have H' := Aside0.mk H
      clear H
      go_wp2
      go_meet
      case rel => exact ⟨_, (true), y2_, H', ⟨by have := HJ3.out; first | omega | exact Nat.le_refl _⟩, ⟨y13_⟩, ⟨y12_⟩, ⟨y1_⟩⟩
    case rest =>
     clear HC25
     try clear c1
     try clear c2
     try clear p2
     try clear c3
     try clear c6
     try clear c8
     try clear c11
     try clear c12
     try clear c18
     try clear c28
     try clear c30
     try clear c30b0
     try clear c30b1
     try clear c31
     try clear c31b0
     try clear c31b1
     try clear c32
     try clear c33
     try clear c34
     try clear p2
     obtain ⟨kq, x59_24, rfl, HA, HJ24, HO_0, HO_1, HB⟩ := hcut
     cases kq with
     | zero => exact absurd HA.out (by simp [manometerlaw03_HashBack.j1])
     | succ kj24 =>
      have H := HA.out
      clear HA
      simp only [manometerlaw03_HashBack.j1] at H
      by_cases c38 : x59_24 = true
      ·subst c38
       have H1 : (some false) = some r := by rw [if_pos rfl] at H; exact H
       clear H
       have H := H1
       clear H1
       obtain rfl := Option.some.inj H
       go_wp2
       go_ret
       exact ⟨y8_, y1_⟩
      ·replace c38 := Bool.eq_false_iff.mpr c38
       subst c38
       have H1 : ((hash_Unarmor.f a2).bind fun bt207 => (if bt207.2 = 0 then ((hash_Armor.f bt207.1).bind fun t211 => (manometerlaw03_HashBack.j2 kj24 l0 l1 a2 (t211.toList != a2.toList))) else (manometerlaw03_HashBack.j2 kj24 l0 l1 a2 false))) = some r := by rw [if_neg (show ¬ (false = true) by decide)] at H; exact H
       clear H
       have H := H1
       clear H1
       replace H := Option.bind_eq_some_iff.mp H
       obtain ⟨⟨t207, t208⟩, A390, H⟩ := H
       replace H : (if t208 = 0 then ((hash_Armor.f t207).bind fun t211 => (manometerlaw03_HashBack.j2 kj24 l0 l1 a2 (t211.toList != a2.toList))) else (manometerlaw03_HashBack.j2 kj24 l0 l1 a2 false)) = some r := H
       have A39 := Aside0.mk A390
       clear A390
       have HC40 := Aside0.mk H
       clear H
       go_upto_region 8 with (first | ((with_reducible refine gate_callee (f := 28) rfl ?_); refine goesL_ (some 62) rfl rfl Tryd.func28 (by kernel_rfl) rfl #[.string a2] rfl y6_ ?_; (with_reducible refine (hash_Unarmor.calls a2 t207 t208 _ A39.out).mono ?_); rintro e w41 ⟨v209, rfl, ho0, hb⟩; refine ⟨_, rfl, ?_⟩; have n0_ := Aside0.mk (Kd.V_elder' y5_ (Kd.R_base ho0) hb); have n1_ := Aside0.mk (Kd.V_elder' y4_ (Kd.R_base ho0) hb); have n2_ := Aside0.mk (Kd.R_lower (Kd.R_newM (M := fun k_ => (w.heap.size ≤ k_)) ho0 (below_size y1_) (fun k_ h_ => h_)) (below_size y1_)); have n3_ := Aside0.mk (below_step y1_ hb); clear HO_0; clear HO_1; clear HB; have HO_0 := n0_; have HO_1 := n1_; have HO210 := n2_; have HB := n3_; clear n0_ n1_ n2_ n3_; (try clear hb); (try clear hb2); (try clear hk); (try clear hi); (try clear ho0)))
       (try simp only [Act.put, List.setIfInBounds_toArray, List.set_cons_zero, List.set_cons_succ])
       go_cut [72] (fun v72 wc => ∃ (kq : Nat) (x72_39 : Bool), v72 = .bool x72_39 ∧ Aside0 (manometerlaw03_HashBack.j2 kq l0 l1 a2 x72_39 = some r) ∧ Aside0 (kq ≤ kj24) ∧ Aside0 (Kd.V (Kd.int .u8) 5 wc w.heap.size (fun k_ => ((P0_ k_ ∨ P1_ k_) ∨ w.heap.size ≤ k_)) (.slice A0 l0.length c0) l0) ∧ Aside0 (Kd.V (Kd.int .u8) 5 wc w.heap.size (fun k_ => ((P0_ k_ ∨ P1_ k_) ∨ w.heap.size ≤ k_)) (.slice A1 l1.length c1) l1) ∧ Aside0 (Below w.heap.size w wc))
       case first =>
        have H := HC40.out
        clear HC40
        by_cases c42 : t208 = 0
        ·rw [if_pos c42] at H
         have c42b0 : (t208 == 0) = true := beq_iff_eq.mpr c42
         have c42b1 : (t208 != 0) = false := bne_eq_false_iff_eq.mpr c42
         clear c42
         (first | rw [c42b0] | (simp only [i64_w, i32_w]; rw [c42b0]) | skip)
         replace H := Option.bind_eq_some_iff.mp H
         obtain ⟨t211, A430, H⟩ := H
         replace H : (manometerlaw03_HashBack.j2 kj24 l0 l1 a2 (t211.toList != a2.toList)) = some r := H
         have A43 := Aside0.mk A430
         clear A430
         have H' := Aside0.mk H
         clear H
         obtain ⟨Ao44, co44, eo44⟩ := Kd.R_slice HO210.out
         subst eo44
         go_wp2_with (first | (go_at_call 32; (with_reducible refine (hash_Armor.calls _ _ t207 t211 _ ?side1 ?side2 A43.out).mono ?_); (case side1 => repeat (first | exact (Kd.R_reads' HO210.out).2.2 | (with_reducible refine Kd.C_alloc ?_ _) | (with_reducible refine Kd.C_drewN ?_ _) | (with_reducible refine Kd.C_drew ?_))); (case side2 => exact (Kd.R_reads' HO210.out).2.1); rintro e w45 ⟨rfl, hb⟩; have n0_ := Aside0.mk (Kd.V_below y5_ hb); have n1_ := Aside0.mk (Kd.V_below y4_ hb); have n2_ := Aside0.mk (Kd.R_below (by (with_reducible repeat (first | apply Kd.R_alloc | apply Kd.R_drewN | apply Kd.R_drew)); exact HO210.out) hb); have n3_ := Aside0.mk (below_step y1_ hb); clear HO_0; clear HO_1; clear HO210; clear HB; have HO_0 := n0_; have HO_1 := n1_; have HO210 := n2_; have HB := n3_; clear n0_ n1_ n2_ n3_; (try clear hb); (try clear hb2); (try clear hk); (try clear hi)))
         go_meet
         case rel => exact ⟨_, ((t211.toList != a2.toList)), y2_, H', ⟨by have := HJ3.out; have := HJ24.out; first | omega | exact Nat.le_refl _⟩, ⟨y15_⟩, ⟨y14_⟩, ⟨y1_⟩⟩
        ·rw [if_neg c42] at H
         have c42b0 : (t208 == 0) = false := beq_eq_false_iff_ne.mpr c42
         have c42b1 : (t208 != 0) = true := bne_iff_ne.mpr c42
         (first | rw [c42b0] | (simp only [i64_w, i32_w]; rw [c42b0]) | skip)
         have H' := Aside0.mk H
         clear H
         go_wp2
         go_meet
         case rel => exact ⟨_, (false), y2_, H', ⟨by have := HJ3.out; have := HJ24.out; first | omega | exact Nat.le_refl _⟩, ⟨y15_⟩, ⟨y14_⟩, ⟨y1_⟩⟩
       case rest =>
        clear HC40
        try clear c1
        try clear c2
        try clear p2
        try clear c3
        try clear c4
        try clear c6
        try clear c8
        try clear c11
        try clear c12
        try clear c18
        try clear c28
        try clear c30
        try clear c30b0
        try clear c30b1
        try clear c31
        try clear c31b0
        try clear c31b1
        try clear c32
        try clear c33
        try clear c34
        try clear c38
        try clear c42
        try clear c42b0
        try clear c42b1
        try clear p2
        obtain ⟨kq, x72_39, rfl, HA, HJ39, HO_0, HO_1, HB⟩ := hcut
        cases kq with
        | zero => exact absurd HA.out (by simp [manometerlaw03_HashBack.j2])
        | succ kj39 =>
         have H := HA.out
         clear HA
         simp only [manometerlaw03_HashBack.j2] at H
         by_cases c46 : x72_39 = true
         ·subst c46
          have H1 : (some false) = some r := by rw [if_pos rfl] at H; exact H
          clear H
          have H := H1
          clear H1
          obtain rfl := Option.some.inj H
          go_wp2
          go_ret
          exact ⟨y8_, y1_⟩
         ·replace c46 := Bool.eq_false_iff.mpr c46
          subst c46
          have H1 : ((hash_Unhex.f kj39 a2).bind fun bt212 => (if bt212.2 = 0 then ((hash_Hex.f kj39 bt212.1).bind fun t216 => (manometerlaw03_HashBack.j3 kj39 l0 l1 (t216.toList != a2.toList))) else (manometerlaw03_HashBack.j3 kj39 l0 l1 false))) = some r := by rw [if_neg (show ¬ (false = true) by decide)] at H; exact H
          clear H
          have H := H1
          clear H1
          replace H := Option.bind_eq_some_iff.mp H
          obtain ⟨⟨t212, t213⟩, A470, H⟩ := H
          replace H : (if t213 = 0 then ((hash_Hex.f kj39 t212).bind fun t216 => (manometerlaw03_HashBack.j3 kj39 l0 l1 (t216.toList != a2.toList))) else (manometerlaw03_HashBack.j3 kj39 l0 l1 false)) = some r := H
          have A47 := Aside0.mk A470
          clear A470
          have HC48 := Aside0.mk H
          clear H
          go_upto_region 11 with (first | ((with_reducible refine gate_callee (f := 30) rfl ?_); refine goesL_ (some 75) rfl rfl Tryd.func30 (by kernel_rfl) rfl #[.string a2] rfl y6_ ?_; (with_reducible refine (hash_Unhex.calls kj39 a2 t212 t213 _ A47.out).mono ?_); rintro e w49 ⟨v214, rfl, ho0, hb⟩; refine ⟨_, rfl, ?_⟩; have n0_ := Aside0.mk (Kd.V_elder' y5_ (Kd.R_base ho0) hb); have n1_ := Aside0.mk (Kd.V_elder' y4_ (Kd.R_base ho0) hb); have n2_ := Aside0.mk (Kd.R_lower (Kd.R_newM (M := fun k_ => (w.heap.size ≤ k_)) ho0 (below_size y1_) (fun k_ h_ => h_)) (below_size y1_)); have n3_ := Aside0.mk (below_step y1_ hb); clear HO_0; clear HO_1; clear HB; have HO_0 := n0_; have HO_1 := n1_; have HO215 := n2_; have HB := n3_; clear n0_ n1_ n2_ n3_; (try clear hb); (try clear hb2); (try clear hk); (try clear hi); (try clear ho0)))
          (try simp only [Act.put, List.setIfInBounds_toArray, List.set_cons_zero, List.set_cons_succ])
          go_cut [85] (fun v85 wc => ∃ (kq : Nat) (x85_47 : Bool), v85 = .bool x85_47 ∧ Aside0 (manometerlaw03_HashBack.j3 kq l0 l1 x85_47 = some r) ∧ Aside0 (kq ≤ kj39) ∧ Aside0 (Kd.V (Kd.int .u8) 5 wc w.heap.size (fun k_ => ((P0_ k_ ∨ P1_ k_) ∨ w.heap.size ≤ k_)) (.slice A0 l0.length c0) l0) ∧ Aside0 (Kd.V (Kd.int .u8) 5 wc w.heap.size (fun k_ => ((P0_ k_ ∨ P1_ k_) ∨ w.heap.size ≤ k_)) (.slice A1 l1.length c1) l1) ∧ Aside0 (Below w.heap.size w wc))
          case first =>
           have H := HC48.out
           clear HC48
           by_cases c50 : t213 = 0
           ·rw [if_pos c50] at H
            have c50b0 : (t213 == 0) = true := beq_iff_eq.mpr c50
            have c50b1 : (t213 != 0) = false := bne_eq_false_iff_eq.mpr c50
            clear c50
            (first | rw [c50b0] | (simp only [i64_w, i32_w]; rw [c50b0]) | skip)
            replace H := Option.bind_eq_some_iff.mp H
            obtain ⟨t216, A510, H⟩ := H
            replace H : (manometerlaw03_HashBack.j3 kj39 l0 l1 (t216.toList != a2.toList)) = some r := H
            have A51 := Aside0.mk A510
            clear A510
            have H' := Aside0.mk H
            clear H
            obtain ⟨Ao52, co52, eo52⟩ := Kd.R_slice HO215.out
            subst eo52
            go_wp2_with (first | (go_at_call 34; (with_reducible refine (hash_Hex.calls kj39 _ _ t212 t216 _ ?side1 ?side2 A51.out).mono ?_); (case side1 => repeat (first | exact (Kd.R_reads' HO215.out).2.2 | (with_reducible refine Kd.C_alloc ?_ _) | (with_reducible refine Kd.C_drewN ?_ _) | (with_reducible refine Kd.C_drew ?_))); (case side2 => exact (Kd.R_reads' HO215.out).2.1); rintro e w53 ⟨rfl, hb⟩; have n0_ := Aside0.mk (Kd.V_below y5_ hb); have n1_ := Aside0.mk (Kd.V_below y4_ hb); have n2_ := Aside0.mk (Kd.R_below (by (with_reducible repeat (first | apply Kd.R_alloc | apply Kd.R_drewN | apply Kd.R_drew)); exact HO215.out) hb); have n3_ := Aside0.mk (below_step y1_ hb); clear HO_0; clear HO_1; clear HO215; clear HB; have HO_0 := n0_; have HO_1 := n1_; have HO215 := n2_; have HB := n3_; clear n0_ n1_ n2_ n3_; (try clear hb); (try clear hb2); (try clear hk); (try clear hi)))
            go_meet
            case rel => exact ⟨_, ((t216.toList != a2.toList)), y2_, H', ⟨by have := HJ3.out; have := HJ24.out; have := HJ39.out; first | omega | exact Nat.le_refl _⟩, ⟨y15_⟩, ⟨y14_⟩, ⟨y1_⟩⟩
           ·rw [if_neg c50] at H
            have c50b0 : (t213 == 0) = false := beq_eq_false_iff_ne.mpr c50
            have c50b1 : (t213 != 0) = true := bne_iff_ne.mpr c50
            (first | rw [c50b0] | (simp only [i64_w, i32_w]; rw [c50b0]) | skip)
            have H' := Aside0.mk H
            clear H
            go_wp2
            go_meet
            case rel => exact ⟨_, (false), y2_, H', ⟨by have := HJ3.out; have := HJ24.out; have := HJ39.out; first | omega | exact Nat.le_refl _⟩, ⟨y15_⟩, ⟨y14_⟩, ⟨y1_⟩⟩
          case rest =>
           clear HC48
           try clear c1
           try clear c2
           try clear p2
           try clear c3
           try clear c4
           try clear c5
           try clear c6
           try clear c8
           try clear c11
           try clear c12
           try clear c18
           try clear c28
           try clear c30
           try clear c30b0
           try clear c30b1
           try clear c31
           try clear c31b0
           try clear c31b1
           try clear c32
           try clear c33
           try clear c34
           try clear c38
           try clear c42
           try clear c42b0
           try clear c42b1
           try clear c46
           try clear c50
           try clear c50b0
           try clear c50b1
           try clear p2
           obtain ⟨kq, x85_47, rfl, HA, HJ47, HO_0, HO_1, HB⟩ := hcut
           cases kq with
           | zero => exact absurd HA.out (by simp [manometerlaw03_HashBack.j3])
           | succ kj47 =>
            have H := HA.out
            clear HA
            simp only [manometerlaw03_HashBack.j3] at H
            by_cases c54 : x85_47 = true
            ·subst c54
             have H1 : (some false) = some r := by rw [if_pos rfl] at H; exact H
             clear H
             have H := H1
             clear H1
             obtain rfl := Option.some.inj H
             go_wp2
             go_ret
             exact ⟨y8_, y1_⟩
            ·replace c54 := Bool.eq_false_iff.mpr c54
             subst c54
             have H1 : (if (l0.length : Int) > (l1.length : Int) then (some true) else ((hash_Armor.f l0).bind fun t217 => ((hash_Armor.f l1).bind fun t218 => (if (t217.size : Int) ≤ (t218.size : Int) then ((hash_Hex.f kj47 l0).bind fun t219 => (some ((t219.size : Int) == (wrap64 (2 * (l0.length : Int)))))) else (some false))))) = some r := by rw [if_neg (show ¬ (false = true) by decide)] at H; exact H
             clear H
             have H := H1
             clear H1
             by_cases c55 : (l0.length : Int) > (l1.length : Int)
             ·rw [if_pos c55] at H
              have c55b0 : decide ((l1.length : Int) < (l0.length : Int)) = true := decide_eq_true c55
              have c55b1 : decide (l1.length < l0.length) = true := decide_eq_true (Int.ofNat_lt.mp c55)
              clear c55
              obtain rfl := Option.some.inj H
              go_wp2
              go_ret
              exact ⟨y8_, y1_⟩
             ·rw [if_neg c55] at H
              have c55b0 : decide ((l1.length : Int) < (l0.length : Int)) = false := decide_eq_false c55
              have c55b1 : decide (l1.length < l0.length) = false := decide_eq_false (fun h => c55 (Int.ofNat_lt.mpr h))
              clear c55
              replace H := Option.bind_eq_some_iff.mp H
              obtain ⟨t217, A560, H⟩ := H
              replace H : ((hash_Armor.f l1).bind fun t218 => (if (t217.size : Int) ≤ (t218.size : Int) then ((hash_Hex.f kj47 l0).bind fun t219 => (some ((t219.size : Int) == (wrap64 (2 * (l0.length : Int)))))) else (some false))) = some r := H
              have A56 := Aside0.mk A560
              clear A560
              replace H := Option.bind_eq_some_iff.mp H
              obtain ⟨t218, A570, H⟩ := H
              replace H : (if (t217.size : Int) ≤ (t218.size : Int) then ((hash_Hex.f kj47 l0).bind fun t219 => (some ((t219.size : Int) == (wrap64 (2 * (l0.length : Int)))))) else (some false)) = some r := H
              have A57 := Aside0.mk A570
              clear A570
              by_cases c58 : (t217.size : Int) ≤ (t218.size : Int)
              ·rw [if_pos c58] at H
               have c58b0 : decide ((t217.size : Int) ≤ (t218.size : Int)) = true := decide_eq_true c58
               have c58b1 : decide (t217.size ≤ t218.size) = true := decide_eq_true (Int.ofNat_le.mp c58)
               clear c58
               replace H := Option.bind_eq_some_iff.mp H
               obtain ⟨t219, A590, H⟩ := H
               replace H : (some ((t219.size : Int) == (wrap64 (2 * (l0.length : Int))))) = some r := H
               have A59 := Aside0.mk A590
               clear A590
               obtain rfl := Option.some.inj H
               go_wp2_with (first | (go_at_call 32; (with_reducible refine (hash_Armor.calls _ _ l0 t217 _ ?side1 ?side2 A56.out).mono ?_); (case side1 => repeat (first | exact (Kd.V_reads' HO_0.out).2.2 | (with_reducible refine Kd.C_alloc ?_ _) | (with_reducible refine Kd.C_drewN ?_ _) | (with_reducible refine Kd.C_drew ?_))); (case side2 => exact (Kd.V_reads' HO_0.out).2.1); rintro e w60 ⟨rfl, hb⟩; have n0_ := Aside0.mk (Kd.V_below y5_ hb); have n1_ := Aside0.mk (Kd.V_below y4_ hb); have n2_ := Aside0.mk (below_step y1_ hb); clear HO_0; clear HO_1; clear HB; have HO_0 := n0_; have HO_1 := n1_; have HB := n2_; clear n0_ n1_ n2_; (try clear hb); (try clear hb2); (try clear hk); (try clear hi)) | (go_at_call 32; (with_reducible refine (hash_Armor.calls _ _ l1 t218 _ ?side1 ?side2 A57.out).mono ?_); (case side1 => repeat (first | exact (Kd.V_reads' HO_1.out).2.2 | (with_reducible refine Kd.C_alloc ?_ _) | (with_reducible refine Kd.C_drewN ?_ _) | (with_reducible refine Kd.C_drew ?_))); (case side2 => exact (Kd.V_reads' HO_1.out).2.1); rintro e w61 ⟨rfl, hb⟩; have n0_ := Aside0.mk (Kd.V_below y5_ hb); have n1_ := Aside0.mk (Kd.V_below y4_ hb); have n2_ := Aside0.mk (below_step y1_ hb); clear HO_0; clear HO_1; clear HB; have HO_0 := n0_; have HO_1 := n1_; have HB := n2_; clear n0_ n1_ n2_; (try clear hb); (try clear hb2); (try clear hk); (try clear hi)) | (go_at_call 34; (with_reducible refine (hash_Hex.calls kj47 _ _ l0 t219 _ ?side1 ?side2 A59.out).mono ?_); (case side1 => repeat (first | exact (Kd.V_reads' HO_0.out).2.2 | (with_reducible refine Kd.C_alloc ?_ _) | (with_reducible refine Kd.C_drewN ?_ _) | (with_reducible refine Kd.C_drew ?_))); (case side2 => exact (Kd.V_reads' HO_0.out).2.1); rintro e w62 ⟨rfl, hb⟩; have n0_ := Aside0.mk (Kd.V_below y5_ hb); have n1_ := Aside0.mk (Kd.V_below y4_ hb); have n2_ := Aside0.mk (below_step y1_ hb); clear HO_0; clear HO_1; clear HB; have HO_0 := n0_; have HO_1 := n1_; have HB := n2_; clear n0_ n1_ n2_; (try clear hb); (try clear hb2); (try clear hk); (try clear hi)))
               go_ret
               exact ⟨y8_, y1_⟩
              ·rw [if_neg c58] at H
               have c58b0 : decide ((t217.size : Int) ≤ (t218.size : Int)) = false := decide_eq_false c58
               have c58b1 : decide (t217.size ≤ t218.size) = false := decide_eq_false (fun h => c58 (Int.ofNat_le.mpr h))
               clear c58
               obtain rfl := Option.some.inj H
               go_wp2_with (first | (go_at_call 32; (with_reducible refine (hash_Armor.calls _ _ l0 t217 _ ?side1 ?side2 A56.out).mono ?_); (case side1 => repeat (first | exact (Kd.V_reads' HO_0.out).2.2 | (with_reducible refine Kd.C_alloc ?_ _) | (with_reducible refine Kd.C_drewN ?_ _) | (with_reducible refine Kd.C_drew ?_))); (case side2 => exact (Kd.V_reads' HO_0.out).2.1); rintro e w63 ⟨rfl, hb⟩; have n0_ := Aside0.mk (Kd.V_below y5_ hb); have n1_ := Aside0.mk (Kd.V_below y4_ hb); have n2_ := Aside0.mk (below_step y1_ hb); clear HO_0; clear HO_1; clear HB; have HO_0 := n0_; have HO_1 := n1_; have HB := n2_; clear n0_ n1_ n2_; (try clear hb); (try clear hb2); (try clear hk); (try clear hi)) | (go_at_call 32; (with_reducible refine (hash_Armor.calls _ _ l1 t218 _ ?side1 ?side2 A57.out).mono ?_); (case side1 => repeat (first | exact (Kd.V_reads' HO_1.out).2.2 | (with_reducible refine Kd.C_alloc ?_ _) | (with_reducible refine Kd.C_drewN ?_ _) | (with_reducible refine Kd.C_drew ?_))); (case side2 => exact (Kd.V_reads' HO_1.out).2.1); rintro e w64 ⟨rfl, hb⟩; have n0_ := Aside0.mk (Kd.V_below y5_ hb); have n1_ := Aside0.mk (Kd.V_below y4_ hb); have n2_ := Aside0.mk (below_step y1_ hb); clear HO_0; clear HO_1; clear HB; have HO_0 := n0_; have HO_1 := n1_; have HB := n2_; clear n0_ n1_ n2_; (try clear hb); (try clear hb2); (try clear hk); (try clear hi)))
               go_ret
               exact ⟨y8_, y1_⟩
end Go.Proofs.YtclndenmmhdokaaDoor.PHB
