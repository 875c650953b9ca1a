import Derived.Test.YtmllgglcdlcdhaaDoorCXorGetsYA
import Derived.Test.YtmllgglcdlcdhaaDoorCXorGetsPXLx1
import Derived.Test.YtmllgglcdlcdhaaDoorCXorGetsPXLx2
import Derived.Test.YtmllgglcdlcdhaaDoorCXorGetsYQ
import Derived.Test.YtmllgglcdlcdhaaDoorCXorGetsS6
import Derived.Test.YtmllgglcdlcdhaaDoorCXorGetsYG
import Derived.Test.YtmllgglcdlcdhaaDoorCXorGetsYI
import Derived.Test.YtmllgglcdlcdhaaDoorCXorGetsYN
namespace Go.Proofs.YtmllgglcdlcdhaaDoor.PXL
open Go.RowKit Go.Proofs.YtmllgglcdlcdhaaDoorW.PrintWords Go.Proofs.YtmllgglcdlcdhaaDoorW.PrintLast Go.Proofs.YtmllgglcdlcdhaaDoorW.PrintMore
attribute [local go_sem] max2_int min2_int max_two min_two max_three min_three max_four min_four
set_option linter.unusedVariables false
set_option linter.unusedSimpArgs false
def manometerref08_Get.f (l0 : List Int) : Option (List S39 × Int) := if l0.length ≤ 10000 then (if l0.all (fun x => decide (0 ≤ x ∧ x < 256)) = true then some (getS l0) else none) else none
theorem manometerref08_Get.calls (A0 : Option Addr) (c0 : Nat) (l0 : List Int) (r1 : List S39) (r2 : Int) (w : World) (hr0 : Kd.C (Kd.int .u8) w A0 l0.length l0) (hc0 : l0.length ≤ c0) (h : manometerref08_Get.f l0 = some (r1, r2)) :
  Calls Tryd.prog 17 #[.slice A0 l0.length c0] w fun e w' => ∃ v0_ : Value, e = .returned (.tuple #[v0_, .int .i64 r2]) ∧ Kd.R k39 39 w' w.heap.size (fun _ => True) v0_ r1 ∧ Below w.heap.size w w' := by
 unfold manometerref08_Get.f at h
 split at h
 ·rename_i h1
  split at h
  ·rename_i h2
   have h5 := Option.some.inj h
   have hC := rget08 w A0 c0 l0 hr0 (fun x hx => of_decide_eq_true (List.all_eq_true.1 h2 x hx)) h1
   rw [h5] at hC
   exact hC
  ·cases h
 ·cases h
def manometerlaw08_XorGets.j0 : Nat → List Int → Bool → Option (Bool)
 | 0, _, _ => none
 | k + 1, x0, x14 => if x14 = true then ((manometerlaw08_live.f).bind fun t217 => (some t217)) else ((manometerref01_Join.f k (([x0] : List (List Int)))).bind fun t221 => ((xor_Get.f t221).bind fun bt224 => ((manometerref08_Get.f x0).bind fun bt228 => ((manometerlaw08_same.f k bt224.1 bt228.1).bind fun t232 => (if t232 = true then (if bt224.2 = bt228.2 then ((manometerref01_Equal.f t221 x0).bind fun t233 => (some t233)) else (some false)) else (some false))))))
def manometerlaw08_XorGets.f (k : Nat) (l0 : List Int) : Option (Bool) := (manometerlaw08_live.f).bind fun t216 => (if t216 = true then (manometerlaw08_XorGets.j0 k l0 (decide ((l0.length : Int) > 3000))) else (manometerlaw08_XorGets.j0 k l0 true))
set_option maxHeartbeats 8000000 in
set_option maxRecDepth 100000 in
theorem manometerlaw08_XorGets.calls (k : Nat) (P0_ : Nat → Prop) (A0 : Option Addr) (c0 : Nat) (l0 : List Int) (r : Bool) (w : World) (hT : Aside0 (Tab w)) (hs0 : Kd.V (Kd.int .u8) 5 w w.heap.size (fun k_ => P0_ k_) (.slice A0 l0.length c0) l0) (h : manometerlaw08_XorGets.f k l0 = some r) :
  Calls Tryd.prog 4 #[.slice A0 l0.length c0] w fun e w' => e = .returned (.bool r) ∧ Below w.heap.size w w' := by
 have HO0 := Aside0.mk (show Kd.V (Kd.int .u8) 5 w w.heap.size (fun k_ => (P0_ k_ ∨ w.heap.size ≤ k_)) (.slice A0 l0.length c0) l0 from Kd.V_mono hs0 (fun k_ hk => .inl hk))
 have HB := Aside0.mk (Below.refl w.heap.size w)
 have H : ((manometerlaw08_live.f).bind fun t216 => (if t216 = true then (manometerlaw08_XorGets.j0 k l0 (decide ((l0.length : Int) > 3000))) else (manometerlaw08_XorGets.j0 k l0 true))) = some r := h
 clear h
 have HC2 := Aside0.mk H
 clear H
 go_enter Tryd.func4, Tryd.ntmps4
 go_upto_region 1 with (fail)
 go_cut [14] (fun v14 wc => ∃ (kq : Nat) (x14_1 : Bool), v14 = .bool x14_1 ∧ Aside0 (manometerlaw08_XorGets.j0 kq l0 x14_1 = some r) ∧ Aside0 (kq ≤ k) ∧ Aside0 (Kd.V (Kd.int .u8) 5 wc w.heap.size (fun k_ => (P0_ k_ ∨ w.heap.size ≤ k_)) (.slice A0 l0.length c0) l0) ∧ Aside0 (Below w.heap.size w wc))
 case first =>
  have H := HC2.out
  clear HC2
  replace H := Option.bind_eq_some_iff.mp H
  obtain ⟨t216, A30, H⟩ := H
  replace H : (if t216 = true then (manometerlaw08_XorGets.j0 k l0 (decide ((l0.length : Int) > 3000))) else (manometerlaw08_XorGets.j0 k l0 true)) = some r := H
  have A3 := Aside0.mk A30
  clear A30
  by_cases c4 : t216 = true
  ·subst c4
   have H1 : (manometerlaw08_XorGets.j0 k l0 (decide ((l0.length : Int) > 3000))) = some r := by rw [if_pos rfl] at H; exact H
   clear H
   have H := H1
   clear H1
   have H' := Aside0.mk H
   clear H
   go_wp2_with (first | ((with_reducible refine gate_callee (f := 11) rfl ?_); refine goesL_ (some 8) rfl rfl Tryd.func11 (by kernel_rfl) rfl #[] rfl y2_ ?_; (with_reducible refine (manometerlaw08_live.calls  true _ ?side1 A3.out).mono ?_); (case side1 => exact ⟨Tab_below hT.out y1_⟩); rintro e w5 ⟨rfl, hb⟩; refine ⟨_, rfl, ?_⟩; have n0_ := Aside0.mk (Kd.V_below y15_ hb); have n1_ := Aside0.mk (below_step y1_ hb); clear HO0; clear HB; have HO0 := n0_; have HB := n1_; clear n0_ n1_; (try clear hb); (try clear hb2); (try clear hk); (try clear hi)))
   go_meet
   case rel => exact ⟨_, (decide ((l0.length : Int) > 3000)), y11_, H', ⟨by first | omega | exact Nat.le_refl _⟩, ⟨y15_⟩, ⟨y1_⟩⟩
  ·replace c4 := Bool.eq_false_iff.mpr c4
   subst c4
   have H1 : (manometerlaw08_XorGets.j0 k l0 true) = some r := by rw [if_neg (show ¬ (false = true) by decide)] at H; exact H
   clear H
   have H := H1
   clear H1
   have H' := Aside0.mk H
   clear H
   go_wp2_with (first | ((with_reducible refine gate_callee (f := 11) rfl ?_); refine goesL_ (some 8) rfl rfl Tryd.func11 (by kernel_rfl) rfl #[] rfl y2_ ?_; (with_reducible refine (manometerlaw08_live.calls  false _ ?side1 A3.out).mono ?_); (case side1 => exact ⟨Tab_below hT.out y1_⟩); rintro e w6 ⟨rfl, hb⟩; refine ⟨_, rfl, ?_⟩; have n0_ := Aside0.mk (Kd.V_below y15_ hb); have n1_ := Aside0.mk (below_step y1_ hb); clear HO0; clear HB; have HO0 := n0_; have HB := n1_; clear n0_ n1_; (try clear hb); (try clear hb2); (try clear hk); (try clear hi)))
   go_meet
   case rel => exact ⟨_, (true), y11_, H', ⟨by first | omega | exact Nat.le_refl _⟩, ⟨y15_⟩, ⟨y1_⟩⟩
 case rest =>
  clear HC2
  try clear c1
  try clear p2
  try clear c4
  obtain ⟨kq, x14_1, rfl, HA, HJ1, HO_0, HB⟩ := hcut
  cases kq with
  | zero => exact absurd HA.out (by simp [manometerlaw08_XorGets.j0])
  | succ kj1 =>
   have H := HA.out
   clear HA
   simp only [manometerlaw08_XorGets.j0] at H
   by_cases c7 : x14_1 = true
   ·subst c7
    have H1 : ((manometerlaw08_live.f).bind fun t217 => (some t217)) = some r := by rw [if_pos rfl] at H; exact H
    clear H
    have H := H1
    clear H1
    replace H := Option.bind_eq_some_iff.mp H
    obtain ⟨t217, A80, H⟩ := H
    replace H : (some t217) = some r := H
    have A8 := Aside0.mk A80
    clear A80
    obtain rfl := Option.some.inj H
    go_wp2_with (first | ((with_reducible refine gate_callee (f := 11) rfl ?_); refine goesL_ (some 15) rfl rfl Tryd.func11 (by kernel_rfl) rfl #[] rfl y2_ ?_; (with_reducible refine (manometerlaw08_live.calls  t217 _ ?side1 A8.out).mono ?_); (case side1 => exact ⟨Tab_below hT.out y1_⟩); rintro e w9 ⟨rfl, hb⟩; refine ⟨_, rfl, ?_⟩; have n0_ := Aside0.mk (Kd.V_below y6_ hb); have n1_ := Aside0.mk (below_step y1_ hb); clear HO_0; clear HB; have HO_0 := n0_; have HB := n1_; clear n0_ n1_; (try clear hb); (try clear hb2); (try clear hk); (try clear hi)))
    go_ret
    exact ⟨y7_, y1_⟩
   ·replace c7 := Bool.eq_false_iff.mpr c7
    subst c7
    have H1 : ((manometerref01_Join.f kj1 (([l0] : List (List Int)))).bind fun t221 => ((xor_Get.f t221).bind fun bt224 => ((manometerref08_Get.f l0).bind fun bt228 => ((manometerlaw08_same.f kj1 bt224.1 bt228.1).bind fun t232 => (if t232 = true then (if bt224.2 = bt228.2 then ((manometerref01_Equal.f t221 l0).bind fun t233 => (some t233)) else (some false)) else (some false)))))) = some r := by rw [if_neg (show ¬ (false = true) by decide)] at H; exact H
    clear H
    have H := H1
    clear H1
    obtain ⟨y218, hy218⟩ : ∃ y_ : List (List Int), y_ = (([l0] : List (List Int))) := ⟨_, rfl⟩
    replace H : ((manometerref01_Join.f kj1 y218).bind fun t221 => ((xor_Get.f t221).bind fun bt224 => ((manometerref08_Get.f l0).bind fun bt228 => ((manometerlaw08_same.f kj1 bt224.1 bt228.1).bind fun t232 => (if t232 = true then (if bt224.2 = bt228.2 then ((manometerref01_Equal.f t221 l0).bind fun t233 => (some t233)) else (some false)) else (some false)))))) = some r := by first | (rw [hy218]; with_reducible exact H) | (have H2_ := (Option.bind_some _ _).symm.trans H; rw [hy218]; with_reducible exact H2_) | (have H2_ := (Option.bind_some _ _).symm.trans H; with_reducible exact H2_) | with_reducible exact H | (rw [hy218]; exact H) | exact H
    have Ny218 := Aside0.mk hy218
    clear hy218
    replace H := Option.bind_eq_some_iff.mp H
    obtain ⟨t221, A100, H⟩ := H
    replace H : ((xor_Get.f t221).bind fun bt224 => ((manometerref08_Get.f l0).bind fun bt228 => ((manometerlaw08_same.f kj1 bt224.1 bt228.1).bind fun t232 => (if t232 = true then (if bt224.2 = bt228.2 then ((manometerref01_Equal.f t221 l0).bind fun t233 => (some t233)) else (some false)) else (some false))))) = some r := H
    have A10 := Aside0.mk A100
    clear A100
    replace H := Option.bind_eq_some_iff.mp H
    obtain ⟨⟨t224, t225⟩, A110, H⟩ := H
    replace H : ((manometerref08_Get.f l0).bind fun bt228 => ((manometerlaw08_same.f kj1 t224 bt228.1).bind fun t232 => (if t232 = true then (if t225 = bt228.2 then ((manometerref01_Equal.f t221 l0).bind fun t233 => (some t233)) else (some false)) else (some false)))) = some r := H
    have A11 := Aside0.mk A110
    clear A110
    replace H := Option.bind_eq_some_iff.mp H
    obtain ⟨⟨t228, t229⟩, A120, H⟩ := H
    replace H : ((manometerlaw08_same.f kj1 t224 t228).bind fun t232 => (if t232 = true then (if t225 = t229 then ((manometerref01_Equal.f t221 l0).bind fun t233 => (some t233)) else (some false)) else (some false))) = some r := H
    have A12 := Aside0.mk A120
    clear A120
    replace H := Option.bind_eq_some_iff.mp H
    obtain ⟨t232, A130, H⟩ := H
    replace H : (if t232 = true then (if t225 = t229 then ((manometerref01_Equal.f t221 l0).bind fun t233 => (some t233)) else (some false)) else (some false)) = some r := H
    have A13 := Aside0.mk A130
    clear A130
    by_cases c14 : t232 = true
    ·subst c14
     have H1 : (if t225 = t229 then ((manometerref01_Equal.f t221 l0).bind fun t233 => (some t233)) else (some false)) = some r := by rw [if_pos rfl] at H; exact H
     clear H
     have H := H1
     clear H1
     by_cases c15 : t225 = t229
     ·rw [if_pos c15] at H
      have c15b0 : (t225 == t229) = true := beq_iff_eq.mpr c15
      have c15b1 : (t225 != t229) = false := bne_eq_false_iff_eq.mpr c15
      clear c15
      replace H := Option.bind_eq_some_iff.mp H
      obtain ⟨t233, A160, H⟩ := H
      replace H : (some t233) = some r := H
      have A16 := Aside0.mk A160
      clear A160
      obtain rfl := Option.some.inj H
      go_wp2_with (first | ((with_reducible refine gate_dst (N := 17) rfl ?_); (try (refine gate_guard (by rfl) ?_; dsimp only)); refine Kd.N_lit (Kd.slice 5 (Kd.int .u8)) _ 24 ?hg (N' := 17) ?hd (xs := ([l0] : List (List Int))) (inner := [.slice A0 l0.length c0]) (ok := (fun k_ => (P0_ k_ ∨ w.heap.size ≤ k_))) (okp := (fun k_ => (P0_ k_ ∨ w.heap.size ≤ k_))) ?hr ?hp (fun _ hk => hk) ((show ∀ k_, wc.heap.size ≤ k_ → (fun k_ => (P0_ k_ ∨ w.heap.size ≤ k_)) k_ from fun k_ hk => (.inr (Nat.le_trans (below_size y1_) hk))) _ (Nat.le_refl _)) (Below.refl _ _) (Nat.le_refl _) (by simp) ?_; (case hd => rfl); (case hg => rfl); (case hr => first | (go_simp; done) | (go_simp; rfl)); (case hp => exact (Reps.one (show Kd.FK (Kd.slice 5 (Kd.int .u8)) _ _ l0 [.slice A0 l0.length c0] from (Kd.FK_slice_mk (Kd.V_reads' (Kd.V_mono (ok' := (fun k_ => (P0_ k_ ∨ w.heap.size ≤ k_))) (HO_0.out) (fun k_ hk => hk))).2.1 (Kd.V_F (Kd.V_mono (ok' := (fun k_ => (P0_ k_ ∨ w.heap.size ≤ k_))) (HO_0.out) (fun k_ hk => hk))))) (Reps.none _ _))); intro v219 w17 ho18 hb hg_ hnew_; clear hg_ hnew_; (first | rw [← Ny218.out] at ho18 | (simp only [Int.reduceToNat] at ho18; rw [← Ny218.out] at ho18)); have n0_ := Aside0.mk (Kd.V_elder' y6_ (Kd.N_base ho18) hb); have n1_ := Aside0.mk (Kd.N_lower ho18 (below_size y1_)); have n2_ := Aside0.mk (below_step y1_ hb); clear HO_0; clear HB; have HO_0 := n0_; have HO220 := n1_; have HB := n2_; clear n0_ n1_ n2_; clear hb ho18; obtain ⟨Ao19, co19, eo19⟩ := Kd.N_slice HO220.out; subst eo19) | ((with_reducible refine gate_callee (f := 15) rfl ?_); refine goesL_ (some 18) rfl rfl Tryd.func15 (by kernel_rfl) rfl #[.slice Ao19 y218.length co19] rfl y2_ ?_; (with_reducible refine (manometerref01_Join.calls kj1 _ _ y218 t221 _ ?side1 ?side2 A10.out).mono ?_); (case side1 => repeat (first | exact (Kd.N_reads' HO220.out).2.2 | (with_reducible refine Kd.C_alloc ?_ _) | (with_reducible refine Kd.C_drewN ?_ _) | (with_reducible refine Kd.C_drew ?_))); (case side2 => exact (Kd.N_reads' HO220.out).2.1); rintro e w20 ⟨v222, rfl, ho0, hb⟩; refine ⟨_, rfl, ?_⟩; have n0_ := Aside0.mk (Kd.V_elder' y6_ (Kd.R_base ho0) hb); have n1_ := Aside0.mk (Kd.N_elder' y9_ (Kd.R_base ho0) hb); have n2_ := Aside0.mk (Kd.R_lower (Kd.R_newM (M := fun k_ => (w.heap.size ≤ k_)) ho0 (below_size y1_) (fun k_ h_ => h_)) (below_size y1_)); have n3_ := Aside0.mk (below_step y1_ hb); clear HO_0; clear HO220; clear HB; have HO_0 := n0_; have HO220 := n1_; have HO223 := n2_; have HB := n3_; clear n0_ n1_ n2_ n3_; (try clear hb); (try clear hb2); (try clear hk); (try clear hi); (try clear ho0); obtain ⟨Ao21, co21, eo21⟩ := Kd.R_slice HO223.out; subst eo21) | ((with_reducible refine gate_callee (f := 16) rfl ?_); refine goesL_ (some 21) rfl rfl Tryd.func16 (by kernel_rfl) rfl #[.slice Ao21 t221.length co21] rfl y2_ ?_; (with_reducible refine (xor_Get.calls _ _ t221 t224 t225 _ ?side1 ?side2 ?side3 A11.out).mono ?_); (case side1 => exact ⟨Tab_below hT.out y1_⟩); (case side2 => repeat (first | exact (Kd.R_reads' HO223.out).2.2 | (with_reducible refine Kd.C_alloc ?_ _) | (with_reducible refine Kd.C_drewN ?_ _) | (with_reducible refine Kd.C_drew ?_))); (case side3 => exact (Kd.R_reads' HO223.out).2.1); rintro e w22 ⟨v226, rfl, ho0, hb⟩; refine ⟨_, rfl, ?_⟩; have n0_ := Aside0.mk (Kd.V_elder' y6_ (Kd.R_base ho0) hb); have n1_ := Aside0.mk (Kd.N_elder' y9_ (Kd.R_base ho0) hb); have n2_ := Aside0.mk (Kd.R_below y13_ hb); have n3_ := Aside0.mk (Kd.R_lower (Kd.R_newM (M := fun k_ => (w.heap.size ≤ k_)) ho0 (below_size y1_) (fun k_ h_ => h_)) (below_size y1_)); have n4_ := Aside0.mk (below_step y1_ hb); clear HO_0; clear HO220; clear HO223; clear HB; have HO_0 := n0_; have HO220 := n1_; have HO223 := n2_; have HO227 := n3_; have HB := n4_; clear n0_ n1_ n2_ n3_ n4_; (try clear hb); (try clear hb2); (try clear hk); (try clear hi); (try clear ho0)) | ((with_reducible refine gate_callee (f := 17) rfl ?_); refine goesL_ (some 26) rfl rfl Tryd.func17 (by kernel_rfl) rfl #[.slice A0 l0.length c0] rfl y2_ ?_; (with_reducible refine (manometerref08_Get.calls _ _ l0 t228 t229 _ ?side1 ?side2 A12.out).mono ?_); (case side1 => repeat (first | exact (Kd.V_reads' HO_0.out).2.2 | (with_reducible refine Kd.C_alloc ?_ _) | (with_reducible refine Kd.C_drewN ?_ _) | (with_reducible refine Kd.C_drew ?_))); (case side2 => exact (Kd.V_reads' HO_0.out).2.1); rintro e w23 ⟨v230, rfl, ho0, hb⟩; refine ⟨_, rfl, ?_⟩; have n0_ := Aside0.mk (Kd.V_elder' y6_ (Kd.R_base ho0) hb); have n1_ := Aside0.mk (Kd.N_elder' y9_ (Kd.R_base ho0) hb); have n2_ := Aside0.mk (Kd.R_below y13_ hb); have n3_ := Aside0.mk (Kd.R_elder' y12_ (Kd.R_base ho0) hb); have n4_ := Aside0.mk (Kd.R_lower (Kd.R_new' (Kd.R_newM (M := fun k_ => (w.heap.size ≤ k_)) ho0 (below_size y1_) (fun k_ h_ => h_)) (Kd.R_lt y12_)) (below_size y1_)); have n5_ := Aside0.mk (below_step y1_ hb); clear HO_0; clear HO220; clear HO223; clear HO227; clear HB; have HO_0 := n0_; have HO220 := n1_; have HO223 := n2_; have HO227 := n3_; have HO231 := n4_; have HB := n5_; clear n0_ n1_ n2_ n3_ n4_ n5_; (try clear hb); (try clear hb2); (try clear hk); (try clear hi); (try clear ho0); obtain ⟨Ao24, co24, eo24⟩ := Kd.R_slice HO227.out; subst eo24; obtain ⟨Ao25, co25, eo25⟩ := Kd.R_slice HO231.out; subst eo25) | ((with_reducible refine gate_callee (f := 18) rfl ?_); refine goesL_ (some 31) rfl rfl Tryd.func18 (by kernel_rfl) rfl #[.slice Ao24 t224.length co24, .slice Ao25 t228.length co25] rfl y2_ ?_; (with_reducible refine (manometerlaw08_same.calls kj1 _ _ t224 _ _ t228 true _ ?side1 ?side2 ?side3 ?side4 A13.out).mono ?_); (case side1 => repeat (first | exact (Kd.R_reads' HO227.out).2.2 | (with_reducible refine Kd.C_alloc ?_ _) | (with_reducible refine Kd.C_drewN ?_ _) | (with_reducible refine Kd.C_drew ?_))); (case side2 => exact (Kd.R_reads' HO227.out).2.1); (case side3 => repeat (first | exact (Kd.R_reads' HO231.out).2.2 | (with_reducible refine Kd.C_alloc ?_ _) | (with_reducible refine Kd.C_drewN ?_ _) | (with_reducible refine Kd.C_drew ?_))); (case side4 => exact (Kd.R_reads' HO231.out).2.1); rintro e w' ⟨rfl, ⟨nd, rfl⟩⟩; refine ⟨_, rfl, ?_⟩) | (go_at_call 14; (with_reducible refine (manometerref01_Equal.calls _ _ t221 _ _ l0 t233 _ ?side1 ?side2 ?side3 ?side4 A16.out).mono ?_); (case side1 => repeat (first | exact (Kd.R_reads' HO223.out).2.2 | (with_reducible refine Kd.C_alloc ?_ _) | (with_reducible refine Kd.C_drewN ?_ _) | (with_reducible refine Kd.C_drew ?_))); (case side2 => exact (Kd.R_reads' HO223.out).2.1); (case side3 => repeat (first | exact (Kd.V_reads' HO_0.out).2.2 | (with_reducible refine Kd.C_alloc ?_ _) | (with_reducible refine Kd.C_drewN ?_ _) | (with_reducible refine Kd.C_drew ?_))); (case side4 => exact (Kd.V_reads' HO_0.out).2.1); rintro e w' ⟨rfl, ⟨nd, rfl⟩⟩))
      go_ret
      exact ⟨y7_, y1_⟩
     ·rw [if_neg c15] at H
      have c15b0 : (t225 == t229) = false := beq_eq_false_iff_ne.mpr c15
      have c15b1 : (t225 != t229) = true := bne_iff_ne.mpr c15
      obtain rfl := Option.some.inj H
      go_wp2_with (first | ((with_reducible refine gate_dst (N := 17) rfl ?_); (try (refine gate_guard (by rfl) ?_; dsimp only)); refine Kd.N_lit (Kd.slice 5 (Kd.int .u8)) _ 24 ?hg (N' := 17) ?hd (xs := ([l0] : List (List Int))) (inner := [.slice A0 l0.length c0]) (ok := (fun k_ => (P0_ k_ ∨ w.heap.size ≤ k_))) (okp := (fun k_ => (P0_ k_ ∨ w.heap.size ≤ k_))) ?hr ?hp (fun _ hk => hk) ((show ∀ k_, wc.heap.size ≤ k_ → (fun k_ => (P0_ k_ ∨ w.heap.size ≤ k_)) k_ from fun k_ hk => (.inr (Nat.le_trans (below_size y1_) hk))) _ (Nat.le_refl _)) (Below.refl _ _) (Nat.le_refl _) (by simp) ?_; (case hd => rfl); (case hg => rfl); (case hr => first | (go_simp; done) | (go_simp; rfl)); (case hp => exact (Reps.one (show Kd.FK (Kd.slice 5 (Kd.int .u8)) _ _ l0 [.slice A0 l0.length c0] from (Kd.FK_slice_mk (Kd.V_reads' (Kd.V_mono (ok' := (fun k_ => (P0_ k_ ∨ w.heap.size ≤ k_))) (HO_0.out) (fun k_ hk => hk))).2.1 (Kd.V_F (Kd.V_mono (ok' := (fun k_ => (P0_ k_ ∨ w.heap.size ≤ k_))) (HO_0.out) (fun k_ hk => hk))))) (Reps.none _ _))); intro v219 w26 ho27 hb hg_ hnew_; clear hg_ hnew_; (first | rw [← Ny218.out] at ho27 | (simp only [Int.reduceToNat] at ho27; rw [← Ny218.out] at ho27)); have n0_ := Aside0.mk (Kd.V_elder' y6_ (Kd.N_base ho27) hb); have n1_ := Aside0.mk (Kd.N_lower ho27 (below_size y1_)); have n2_ := Aside0.mk (below_step y1_ hb); clear HO_0; clear HB; have HO_0 := n0_; have HO220 := n1_; have HB := n2_; clear n0_ n1_ n2_; clear hb ho27; obtain ⟨Ao28, co28, eo28⟩ := Kd.N_slice HO220.out; subst eo28) | ((with_reducible refine gate_callee (f := 15) rfl ?_); refine goesL_ (some 18) rfl rfl Tryd.func15 (by kernel_rfl) rfl #[.slice Ao28 y218.length co28] rfl y2_ ?_; (with_reducible refine (manometerref01_Join.calls kj1 _ _ y218 t221 _ ?side1 ?side2 A10.out).mono ?_); (case side1 => repeat (first | exact (Kd.N_reads' HO220.out).2.2 | (with_reducible refine Kd.C_alloc ?_ _) | (with_reducible refine Kd.C_drewN ?_ _) | (with_reducible refine Kd.C_drew ?_))); (case side2 => exact (Kd.N_reads' HO220.out).2.1); rintro e w29 ⟨v222, rfl, ho0, hb⟩; refine ⟨_, rfl, ?_⟩; have n0_ := Aside0.mk (Kd.V_elder' y6_ (Kd.R_base ho0) hb); have n1_ := Aside0.mk (Kd.N_elder' y9_ (Kd.R_base ho0) hb); have n2_ := Aside0.mk (Kd.R_lower (Kd.R_newM (M := fun k_ => (w.heap.size ≤ k_)) ho0 (below_size y1_) (fun k_ h_ => h_)) (below_size y1_)); have n3_ := Aside0.mk (below_step y1_ hb); clear HO_0; clear HO220; clear HB; have HO_0 := n0_; have HO220 := n1_; have HO223 := n2_; have HB := n3_; clear n0_ n1_ n2_ n3_; (try clear hb); (try clear hb2); (try clear hk); (try clear hi); (try clear ho0); obtain ⟨Ao30, co30, eo30⟩ := Kd.R_slice HO223.out; subst eo30) | ((with_reducible refine gate_callee (f := 16) rfl ?_); refine goesL_ (some 21) rfl rfl Tryd.func16 (by kernel_rfl) rfl #[.slice Ao30 t221.length co30] rfl y2_ ?_; (with_reducible refine (xor_Get.calls _ _ t221 t224 t225 _ ?side1 ?side2 ?side3 A11.out).mono ?_); (case side1 => exact ⟨Tab_below hT.out y1_⟩); (case side2 => repeat (first | exact (Kd.R_reads' HO223.out).2.2 | (with_reducible refine Kd.C_alloc ?_ _) | (with_reducible refine Kd.C_drewN ?_ _) | (with_reducible refine Kd.C_drew ?_))); (case side3 => exact (Kd.R_reads' HO223.out).2.1); rintro e w31 ⟨v226, rfl, ho0, hb⟩; refine ⟨_, rfl, ?_⟩; have n0_ := Aside0.mk (Kd.V_elder' y6_ (Kd.R_base ho0) hb); have n1_ := Aside0.mk (Kd.N_elder' y9_ (Kd.R_base ho0) hb); have n2_ := Aside0.mk (Kd.R_below y13_ hb); have n3_ := Aside0.mk (Kd.R_lower (Kd.R_newM (M := fun k_ => (w.heap.size ≤ k_)) ho0 (below_size y1_) (fun k_ h_ => h_)) (below_size y1_)); have n4_ := Aside0.mk (below_step y1_ hb); clear HO_0; clear HO220; clear HO223; clear HB; have HO_0 := n0_; have HO220 := n1_; have HO223 := n2_; have HO227 := n3_; have HB := n4_; clear n0_ n1_ n2_ n3_ n4_; (try clear hb); (try clear hb2); (try clear hk); (try clear hi); (try clear ho0)) | ((with_reducible refine gate_callee (f := 17) rfl ?_); refine goesL_ (some 26) rfl rfl Tryd.func17 (by kernel_rfl) rfl #[.slice A0 l0.length c0] rfl y2_ ?_; (with_reducible refine (manometerref08_Get.calls _ _ l0 t228 t229 _ ?side1 ?side2 A12.out).mono ?_); (case side1 => repeat (first | exact (Kd.V_reads' HO_0.out).2.2 | (with_reducible refine Kd.C_alloc ?_ _) | (with_reducible refine Kd.C_drewN ?_ _) | (with_reducible refine Kd.C_drew ?_))); (case side2 => exact (Kd.V_reads' HO_0.out).2.1); rintro e w32 ⟨v230, rfl, ho0, hb⟩; refine ⟨_, rfl, ?_⟩; have n0_ := Aside0.mk (Kd.V_elder' y6_ (Kd.R_base ho0) hb); have n1_ := Aside0.mk (Kd.N_elder' y9_ (Kd.R_base ho0) hb); have n2_ := Aside0.mk (Kd.R_below y13_ hb); have n3_ := Aside0.mk (Kd.R_elder' y12_ (Kd.R_base ho0) hb); have n4_ := Aside0.mk (Kd.R_lower (Kd.R_new' (Kd.R_newM (M := fun k_ => (w.heap.size ≤ k_)) ho0 (below_size y1_) (fun k_ h_ => h_)) (Kd.R_lt y12_)) (below_size y1_)); have n5_ := Aside0.mk (below_step y1_ hb); clear HO_0; clear HO220; clear HO223; clear HO227; clear HB; have HO_0 := n0_; have HO220 := n1_; have HO223 := n2_; have HO227 := n3_; have HO231 := n4_; have HB := n5_; clear n0_ n1_ n2_ n3_ n4_ n5_; (try clear hb); (try clear hb2); (try clear hk); (try clear hi); (try clear ho0); obtain ⟨Ao33, co33, eo33⟩ := Kd.R_slice HO227.out; subst eo33; obtain ⟨Ao34, co34, eo34⟩ := Kd.R_slice HO231.out; subst eo34) | ((with_reducible refine gate_callee (f := 18) rfl ?_); refine goesL_ (some 31) rfl rfl Tryd.func18 (by kernel_rfl) rfl #[.slice Ao33 t224.length co33, .slice Ao34 t228.length co34] rfl y2_ ?_; (with_reducible refine (manometerlaw08_same.calls kj1 _ _ t224 _ _ t228 true _ ?side1 ?side2 ?side3 ?side4 A13.out).mono ?_); (case side1 => repeat (first | exact (Kd.R_reads' HO227.out).2.2 | (with_reducible refine Kd.C_alloc ?_ _) | (with_reducible refine Kd.C_drewN ?_ _) | (with_reducible refine Kd.C_drew ?_))); (case side2 => exact (Kd.R_reads' HO227.out).2.1); (case side3 => repeat (first | exact (Kd.R_reads' HO231.out).2.2 | (with_reducible refine Kd.C_alloc ?_ _) | (with_reducible refine Kd.C_drewN ?_ _) | (with_reducible refine Kd.C_drew ?_))); (case side4 => exact (Kd.R_reads' HO231.out).2.1); rintro e w' ⟨rfl, ⟨nd, rfl⟩⟩; refine ⟨_, rfl, ?_⟩))
      go_ret
      exact ⟨y7_, y1_⟩
    ·replace c14 := Bool.eq_false_iff.mpr c14
     subst c14
     have H1 : (some false) = some r := by rw [if_neg (show ¬ (false = true) by decide)] at H; exact H
     clear H
     have H := H1
     clear H1
     obtain rfl := Option.some.inj H
     go_wp2_with (first | ((with_reducible refine gate_dst (N := 17) rfl ?_); (try (refine gate_guard (by rfl) ?_; dsimp only)); refine Kd.N_lit (Kd.slice 5 (Kd.int .u8)) _ 24 ?hg (N' := 17) ?hd (xs := ([l0] : List (List Int))) (inner := [.slice A0 l0.length c0]) (ok := (fun k_ => (P0_ k_ ∨ w.heap.size ≤ k_))) (okp := (fun k_ => (P0_ k_ ∨ w.heap.size ≤ k_))) ?hr ?hp (fun _ hk => hk) ((show ∀ k_, wc.heap.size ≤ k_ → (fun k_ => (P0_ k_ ∨ w.heap.size ≤ k_)) k_ from fun k_ hk => (.inr (Nat.le_trans (below_size y1_) hk))) _ (Nat.le_refl _)) (Below.refl _ _) (Nat.le_refl _) (by simp) ?_; (case hd => rfl); (case hg => rfl); (case hr => first | (go_simp; done) | (go_simp; rfl)); (case hp => exact (Reps.one (show Kd.FK (Kd.slice 5 (Kd.int .u8)) _ _ l0 [.slice A0 l0.length c0] from (Kd.FK_slice_mk (Kd.V_reads' (Kd.V_mono (ok' := (fun k_ => (P0_ k_ ∨ w.heap.size ≤ k_))) (HO_0.out) (fun k_ hk => hk))).2.1 (Kd.V_F (Kd.V_mono (ok' := (fun k_ => (P0_ k_ ∨ w.heap.size ≤ k_))) (HO_0.out) (fun k_ hk => hk))))) (Reps.none _ _))); intro v219 w35 ho36 hb hg_ hnew_; clear hg_ hnew_; (first | rw [← Ny218.out] at ho36 | (simp only [Int.reduceToNat] at ho36; rw [← Ny218.out] at ho36)); have n0_ := Aside0.mk (Kd.V_elder' y6_ (Kd.N_base ho36) hb); have n1_ := Aside0.mk (Kd.N_lower ho36 (below_size y1_)); have n2_ := Aside0.mk (below_step y1_ hb); clear HO_0; clear HB; have HO_0 := n0_; have HO220 := n1_; have HB := n2_; clear n0_ n1_ n2_; clear hb ho36; obtain ⟨Ao37, co37, eo37⟩ := Kd.N_slice HO220.out; subst eo37) | ((with_reducible refine gate_callee (f := 15) rfl ?_); refine goesL_ (some 18) rfl rfl Tryd.func15 (by kernel_rfl) rfl #[.slice Ao37 y218.length co37] rfl y2_ ?_; (with_reducible refine (manometerref01_Join.calls kj1 _ _ y218 t221 _ ?side1 ?side2 A10.out).mono ?_); (case side1 => repeat (first | exact (Kd.N_reads' HO220.out).2.2 | (with_reducible refine Kd.C_alloc ?_ _) | (with_reducible refine Kd.C_drewN ?_ _) | (with_reducible refine Kd.C_drew ?_))); (case side2 => exact (Kd.N_reads' HO220.out).2.1); rintro e w38 ⟨v222, rfl, ho0, hb⟩; refine ⟨_, rfl, ?_⟩; have n0_ := Aside0.mk (Kd.V_elder' y6_ (Kd.R_base ho0) hb); have n1_ := Aside0.mk (Kd.N_elder' y9_ (Kd.R_base ho0) hb); have n2_ := Aside0.mk (Kd.R_lower (Kd.R_newM (M := fun k_ => (w.heap.size ≤ k_)) ho0 (below_size y1_) (fun k_ h_ => h_)) (below_size y1_)); have n3_ := Aside0.mk (below_step y1_ hb); clear HO_0; clear HO220; clear HB; have HO_0 := n0_; have HO220 := n1_; have HO223 := n2_; have HB := n3_; clear n0_ n1_ n2_ n3_; (try clear hb); (try clear hb2); (try clear hk); (try clear hi); (try clear ho0); obtain ⟨Ao39, co39, eo39⟩ := Kd.R_slice HO223.out; subst eo39) | ((with_reducible refine gate_callee (f := 16) rfl ?_); refine goesL_ (some 21) rfl rfl Tryd.func16 (by kernel_rfl) rfl #[.slice Ao39 t221.length co39] rfl y2_ ?_; (with_reducible refine (xor_Get.calls _ _ t221 t224 t225 _ ?side1 ?side2 ?side3 A11.out).mono ?_); (case side1 => exact ⟨Tab_below hT.out y1_⟩); (case side2 => repeat (first | exact (Kd.R_reads' HO223.out).2.2 | (with_reducible refine Kd.C_alloc ?_ _) | (with_reducible refine Kd.C_drewN ?_ _) | (with_reducible refine Kd.C_drew ?_))); (case side3 => exact (Kd.R_reads' HO223.out).2.1); rintro e w40 ⟨v226, rfl, ho0, hb⟩; refine ⟨_, rfl, ?_⟩; have n0_ := Aside0.mk (Kd.V_elder' y6_ (Kd.R_base ho0) hb); have n1_ := Aside0.mk (Kd.N_elder' y9_ (Kd.R_base ho0) hb); have n2_ := Aside0.mk (Kd.R_below y13_ hb); have n3_ := Aside0.mk (Kd.R_lower (Kd.R_newM (M := fun k_ => (w.heap.size ≤ k_)) ho0 (below_size y1_) (fun k_ h_ => h_)) (below_size y1_)); have n4_ := Aside0.mk (below_step y1_ hb); clear HO_0; clear HO220; clear HO223; clear HB; have HO_0 := n0_; have HO220 := n1_; have HO223 := n2_; have HO227 := n3_; have HB := n4_; clear n0_ n1_ n2_ n3_ n4_; (try clear hb); (try clear hb2); (try clear hk); (try clear hi); (try clear ho0)) | ((with_reducible refine gate_callee (f := 17) rfl ?_); refine goesL_ (some 26) rfl rfl Tryd.func17 (by kernel_rfl) rfl #[.slice A0 l0.length c0] rfl y2_ ?_; (with_reducible refine (manometerref08_Get.calls _ _ l0 t228 t229 _ ?side1 ?side2 A12.out).mono ?_); (case side1 => repeat (first | exact (Kd.V_reads' HO_0.out).2.2 | (with_reducible refine Kd.C_alloc ?_ _) | (with_reducible refine Kd.C_drewN ?_ _) | (with_reducible refine Kd.C_drew ?_))); (case side2 => exact (Kd.V_reads' HO_0.out).2.1); rintro e w41 ⟨v230, rfl, ho0, hb⟩; refine ⟨_, rfl, ?_⟩; have n0_ := Aside0.mk (Kd.V_elder' y6_ (Kd.R_base ho0) hb); have n1_ := Aside0.mk (Kd.N_elder' y9_ (Kd.R_base ho0) hb); have n2_ := Aside0.mk (Kd.R_below y13_ hb); have n3_ := Aside0.mk (Kd.R_elder' y12_ (Kd.R_base ho0) hb); have n4_ := Aside0.mk (Kd.R_lower (Kd.R_new' (Kd.R_newM (M := fun k_ => (w.heap.size ≤ k_)) ho0 (below_size y1_) (fun k_ h_ => h_)) (Kd.R_lt y12_)) (below_size y1_)); have n5_ := Aside0.mk (below_step y1_ hb); clear HO_0; clear HO220; clear HO223; clear HO227; clear HB; have HO_0 := n0_; have HO220 := n1_; have HO223 := n2_; have HO227 := n3_; have HO231 := n4_; have HB := n5_; clear n0_ n1_ n2_ n3_ n4_ n5_; (try clear hb); (try clear hb2); (try clear hk); (try clear hi); (try clear ho0); obtain ⟨Ao42, co42, eo42⟩ := Kd.R_slice HO227.out; subst eo42; obtain ⟨Ao43, co43, eo43⟩ := Kd.R_slice HO231.out; subst eo43) | ((with_reducible refine gate_callee (f := 18) rfl ?_); refine goesL_ (some 31) rfl rfl Tryd.func18 (by kernel_rfl) rfl #[.slice Ao42 t224.length co42, .slice Ao43 t228.length co43] rfl y2_ ?_; (with_reducible refine (manometerlaw08_same.calls kj1 _ _ t224 _ _ t228 false _ ?side1 ?side2 ?side3 ?side4 A13.out).mono ?_); (case side1 => repeat (first | exact (Kd.R_reads' HO227.out).2.2 | (with_reducible refine Kd.C_alloc ?_ _) | (with_reducible refine Kd.C_drewN ?_ _) | (with_reducible refine Kd.C_drew ?_))); (case side2 => exact (Kd.R_reads' HO227.out).2.1); (case side3 => repeat (first | exact (Kd.R_reads' HO231.out).2.2 | (with_reducible refine Kd.C_alloc ?_ _) | (with_reducible refine Kd.C_drewN ?_ _) | (with_reducible refine Kd.C_drew ?_))); (case side4 => exact (Kd.R_reads' HO231.out).2.1); rintro e w' ⟨rfl, ⟨nd, rfl⟩⟩; refine ⟨_, rfl, ?_⟩))
     go_ret
     exact ⟨y7_, y1_⟩
end Go.Proofs.YtmllgglcdlcdhaaDoor.PXL
