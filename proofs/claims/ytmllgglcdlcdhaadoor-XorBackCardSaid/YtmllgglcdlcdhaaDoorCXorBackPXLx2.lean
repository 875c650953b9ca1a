import Derived.Test.YtmllgglcdlcdhaaDoorCXorBackYA
import Derived.Test.YtmllgglcdlcdhaaDoorCXorBackPXLx1
import Derived.Test.YtmllgglcdlcdhaaDoorCXorBackY5
namespace Go.Proofs.YtmllgglcdlcdhaaDoor.PXL
open Go.RowKit Go.Proofs.YtmllgglcdlcdhaaDoorW.PrintWords Go.Proofs.YtmllgglcdlcdhaaDoorW.PrintLast Go.Proofs.YtmllgglcdlcdhaaDoorW.PrintMore
attribute [local go_sem] max2_int min2_int max_two min_two max_three min_three max_four min_four
set_option linter.unusedVariables false
set_option linter.unusedSimpArgs false
attribute [local go_sem high] eqA39
def xor_Put.f (l0 : List S39) : Option (List Int × Int) := if 65535 < l0.length then some ([], 3) else if l0.length ≤ 50000 then (if l0.all smpOkB = true then some (Xs.packL (smps l0), 0) else none) else none
theorem xor_Put.calls (A0 : Option Addr) (c0 : Nat) (l0 : List S39) (r1 : List Int) (r2 : Int) (w : World) (hT : Aside0 (Tab w)) (hr0 : Kd.C k39 w A0 l0.length l0) (hc0 : l0.length ≤ c0) (h : xor_Put.f l0 = some (r1, r2)) :
  Calls Tryd.prog 12 #[.slice A0 l0.length c0] w fun e w' => ∃ v0_ : Value, e = .returned (.tuple #[v0_, .int .i64 r2]) ∧ Kd.R (Kd.int .u8) 5 w' w.heap.size (fun _ => True) v0_ r1 ∧ Below w.heap.size w w' := by
 unfold xor_Put.f at h
 split at h
 ·rename_i h1
  have h5 := Option.some.inj h
  obtain rfl : [] = r1 := congrArg Prod.fst h5
  obtain rfl : 3 = r2 := congrArg Prod.snd h5
  refine (xput_long w A0 c0 l0.length h1).mono ?_
  rintro e w' ⟨rfl, rfl⟩
  exact ⟨_, rfl, Kd.R_nil _ _ _ _ _, Below.refl _ _⟩
 ·split at h
  ·rename_i h2
   split at h
   ·rename_i h3
    have h5 := Option.some.inj h
    obtain rfl : Xs.packL (smps l0) = r1 := congrArg Prod.fst h5
    obtain rfl : 0 = r2 := congrArg Prod.snd h5
    have hC := xput_calls w A0 c0 (smps l0) (smpRow_of hr0 (all_f1 h3)) (smps_ok l0 h3) (by rw [smps_length]; exact h2) hT.out
    rw [smps_length] at hC
    refine hC.mono ?_
    rintro e w' ⟨v, rfl, hR, hB⟩
    exact ⟨v, rfl, hR, hB⟩
   ·cases h
  ·cases h
def manometerref01_Equal.f (l0 : List Int) (l1 : List Int) : Option (Bool) := if l0.length ≤ 1000000000000 then (if l1.length ≤ 1000000000000 then some (decide (l0 = l1)) else none) else none
theorem manometerref01_Equal.calls (A0 : Option Addr) (c0 : Nat) (l0 : List Int) (A1 : Option Addr) (c1 : Nat) (l1 : List Int) (r : Bool) (w : World) (hr0 : Kd.C (Kd.int .u8) w A0 l0.length l0) (hc0 : l0.length ≤ c0) (hr1 : Kd.C (Kd.int .u8) w A1 l1.length l1) (hc1 : l1.length ≤ c1) (h : manometerref01_Equal.f l0 l1 = some r) :
  Calls Tryd.prog 14 #[.slice A0 l0.length c0, .slice A1 l1.length c1] w fun e w' => e = .returned (.bool r) ∧ Drawn0 w w' := by
 unfold manometerref01_Equal.f at h
 split at h
 ·rename_i h1
  split at h
  ·rename_i h2
   obtain rfl := Option.some.inj h
   refine (requal_calls w A0 A1 c0 c1 l0 l1 hr0 hr1 h1 h2).mono ?_
   rintro e w' ⟨rfl, n, hn⟩
   exact ⟨rfl, by first | exact ⟨n, hn⟩ | exact ⟨n, hn.symm⟩⟩
  ·cases h
 ·cases h
def xor_Get.f (l0 : List Int) : Option (List S39 × Int) := if l0.length ≤ 10000 then (if l0.all (fun x => decide (0 ≤ x ∧ x < 256)) = true then some (getS l0) else none) else none
theorem xor_Get.calls (A0 : Option Addr) (c0 : Nat) (l0 : List Int) (r1 : List S39) (r2 : Int) (w : World) (hT : Aside0 (Tab w)) (hr0 : Kd.C (Kd.int .u8) w A0 l0.length l0) (hc0 : l0.length ≤ c0) (h : xor_Get.f l0 = some (r1, r2)) :
  Calls Tryd.prog 16 #[.slice A0 l0.length c0] w fun e w' => ∃ v0_ : Value, e = .returned (.tuple #[v0_, .int .i64 r2]) ∧ Kd.R k39 39 w' w.heap.size (fun _ => True) v0_ r1 ∧ Below w.heap.size w w' := by
 unfold xor_Get.f at h
 split at h
 ·rename_i h1
  split at h
  ·rename_i h2
   have h5 := Option.some.inj h
   have hC := xget_calls w A0 c0 l0 hr0 (fun x hx => of_decide_eq_true (List.all_eq_true.1 h2 x hx)) h1 hT.out
   rw [h5] at hC
   exact hC
  ·cases h
 ·cases h
def manometerlaw08_live.f  : Option (Bool) := (xor_Put.f ([] : List (S39))).bind fun bt101 => ((xor_Put.f (([(⟨0, 4607182418800017408⟩ : S39)] : List (S39)))).bind fun bt108 => ((xor_Get.f bt108.1).bind fun bt112 => (if bt101.2 = 0 then ((manometerref01_Equal.f bt101.1 (([0, 0] : List Int))).bind fun t119 => (if t119 = true then (if bt108.2 = 0 then ((manometerref01_Equal.f bt108.1 (([0, 1, 0, 63, 240, 0, 0, 0, 0, 0, 0] : List Int))).bind fun t123 => (if t123 = true then (if bt112.2 = 0 then (if (bt112.1.length : Int) = 1 then (if 0 < (bt112.1.length : Int) then (some (((rd_T39 bt112.1 0).f1) == 4607182418800017408)) else (none)) else (some false)) else (some false)) else (some false))) else (some false)) else (some false))) else (some false))))
set_option maxHeartbeats 8000000 in
set_option maxRecDepth 100000 in
theorem manometerlaw08_live.calls  (r : Bool) (w : World) (hT : Aside0 (Tab w)) (h : manometerlaw08_live.f  = some r) :
  Calls Tryd.prog 11 #[] w fun e w' => e = .returned (.bool r) ∧ Below w.heap.size w w' := by
 have hu39 := Tryd.underlying39
 have HB := Aside0.mk (Below.refl w.heap.size w)
 have H : ((xor_Put.f ([] : List (S39))).bind fun bt101 => ((xor_Put.f (([(⟨0, 4607182418800017408⟩ : S39)] : List (S39)))).bind fun bt108 => ((xor_Get.f bt108.1).bind fun bt112 => (if bt101.2 = 0 then ((manometerref01_Equal.f bt101.1 (([0, 0] : List Int))).bind fun t119 => (if t119 = true then (if bt108.2 = 0 then ((manometerref01_Equal.f bt108.1 (([0, 1, 0, 63, 240, 0, 0, 0, 0, 0, 0] : List Int))).bind fun t123 => (if t123 = true then (if bt112.2 = 0 then (if (bt112.1.length : Int) = 1 then (if 0 < (bt112.1.length : Int) then (some (((rd_T39 bt112.1 0).f1) == 4607182418800017408)) else (none)) else (some false)) else (some false)) else (some false))) else (some false)) else (some false))) else (some false))))) = some r := h
 clear h
 replace H := Option.bind_eq_some_iff.mp H
 obtain ⟨⟨t101, t102⟩, A10, H⟩ := H
 replace H : ((xor_Put.f (([(⟨0, 4607182418800017408⟩ : S39)] : List (S39)))).bind fun bt108 => ((xor_Get.f bt108.1).bind fun bt112 => (if t102 = 0 then ((manometerref01_Equal.f t101 (([0, 0] : List Int))).bind fun t119 => (if t119 = true then (if bt108.2 = 0 then ((manometerref01_Equal.f bt108.1 (([0, 1, 0, 63, 240, 0, 0, 0, 0, 0, 0] : List Int))).bind fun t123 => (if t123 = true then (if bt112.2 = 0 then (if (bt112.1.length : Int) = 1 then (if 0 < (bt112.1.length : Int) then (some (((rd_T39 bt112.1 0).f1) == 4607182418800017408)) else (none)) else (some false)) else (some false)) else (some false))) else (some false)) else (some false))) else (some false)))) = some r := H
 have A1 := Aside0.mk A10
 clear A10
 obtain ⟨y105, hy105⟩ : ∃ y_ : List (S39), y_ = (([(⟨0, 4607182418800017408⟩ : S39)] : List (S39))) := ⟨_, rfl⟩
 replace H : ((xor_Put.f y105).bind fun bt108 => ((xor_Get.f bt108.1).bind fun bt112 => (if t102 = 0 then ((manometerref01_Equal.f t101 (([0, 0] : List Int))).bind fun t119 => (if t119 = true then (if bt108.2 = 0 then ((manometerref01_Equal.f bt108.1 (([0, 1, 0, 63, 240, 0, 0, 0, 0, 0, 0] : List Int))).bind fun t123 => (if t123 = true then (if bt112.2 = 0 then (if (bt112.1.length : Int) = 1 then (if 0 < (bt112.1.length : Int) then (some (((rd_T39 bt112.1 0).f1) == 4607182418800017408)) else (none)) else (some false)) else (some false)) else (some false))) else (some false)) else (some false))) else (some false)))) = some r := by first | (rw [hy105]; with_reducible exact H) | (have H2_ := (Option.bind_some _ _).symm.trans H; rw [hy105]; with_reducible exact H2_) | (have H2_ := (Option.bind_some _ _).symm.trans H; with_reducible exact H2_) | with_reducible exact H | (rw [hy105]; exact H) | exact H
 have Ny105 := Aside0.mk hy105
 clear hy105
 replace H := Option.bind_eq_some_iff.mp H
 obtain ⟨⟨t108, t109⟩, A20, H⟩ := H
 replace H : ((xor_Get.f t108).bind fun bt112 => (if t102 = 0 then ((manometerref01_Equal.f t101 (([0, 0] : List Int))).bind fun t119 => (if t119 = true then (if t109 = 0 then ((manometerref01_Equal.f t108 (([0, 1, 0, 63, 240, 0, 0, 0, 0, 0, 0] : List Int))).bind fun t123 => (if t123 = true then (if bt112.2 = 0 then (if (bt112.1.length : Int) = 1 then (if 0 < (bt112.1.length : Int) then (some (((rd_T39 bt112.1 0).f1) == 4607182418800017408)) else (none)) else (some false)) else (some false)) else (some false))) else (some false)) else (some false))) else (some false))) = some r := H
 have A2 := Aside0.mk A20
 clear A20
 replace H := Option.bind_eq_some_iff.mp H
 obtain ⟨⟨t112, t113⟩, A30, H⟩ := H
 replace H : (if t102 = 0 then ((manometerref01_Equal.f t101 (([0, 0] : List Int))).bind fun t119 => (if t119 = true then (if t109 = 0 then ((manometerref01_Equal.f t108 (([0, 1, 0, 63, 240, 0, 0, 0, 0, 0, 0] : List Int))).bind fun t123 => (if t123 = true then (if t113 = 0 then (if (t112.length : Int) = 1 then (if 0 < (t112.length : Int) then (some (((rd_T39 t112 0).f1) == 4607182418800017408)) else (none)) else (some false)) else (some false)) else (some false))) else (some false)) else (some false))) else (some false)) = some r := H
 have A3 := Aside0.mk A30
 clear A30
 by_cases c4 : t102 = 0
 ·rw [if_pos c4] at H
  have c4b0 : (t102 == 0) = true := beq_iff_eq.mpr c4
  have c4b1 : (t102 != 0) = false := bne_eq_false_iff_eq.mpr c4
  clear c4
  obtain ⟨y116, hy116⟩ : ∃ y_ : List Int, y_ = (([0, 0] : List Int)) := ⟨_, rfl⟩
  replace H : ((manometerref01_Equal.f t101 y116).bind fun t119 => (if t119 = true then (if t109 = 0 then ((manometerref01_Equal.f t108 (([0, 1, 0, 63, 240, 0, 0, 0, 0, 0, 0] : List Int))).bind fun t123 => (if t123 = true then (if t113 = 0 then (if (t112.length : Int) = 1 then (if 0 < (t112.length : Int) then (some (((rd_T39 t112 0).f1) == 4607182418800017408)) else (none)) else (some false)) else (some false)) else (some false))) else (some false)) else (some false))) = some r := by first | (rw [hy116]; with_reducible exact H) | (have H2_ := (Option.bind_some _ _).symm.trans H; rw [hy116]; with_reducible exact H2_) | (have H2_ := (Option.bind_some _ _).symm.trans H; with_reducible exact H2_) | with_reducible exact H | (rw [hy116]; exact H) | exact H
  have Ny116 := Aside0.mk hy116
  clear hy116
  replace H := Option.bind_eq_some_iff.mp H
  obtain ⟨t119, A50, H⟩ := H
  replace H : (if t119 = true then (if t109 = 0 then ((manometerref01_Equal.f t108 (([0, 1, 0, 63, 240, 0, 0, 0, 0, 0, 0] : List Int))).bind fun t123 => (if t123 = true then (if t113 = 0 then (if (t112.length : Int) = 1 then (if 0 < (t112.length : Int) then (some (((rd_T39 t112 0).f1) == 4607182418800017408)) else (none)) else (some false)) else (some false)) else (some false))) else (some false)) else (some false)) = some r := H
  have A5 := Aside0.mk A50
  clear A50
  by_cases c6 : t119 = true
  ·subst c6
   have H1 : (if t109 = 0 then ((manometerref01_Equal.f t108 (([0, 1, 0, 63, 240, 0, 0, 0, 0, 0, 0] : List Int))).bind fun t123 => (if t123 = true then (if t113 = 0 then (if (t112.length : Int) = 1 then (if 0 < (t112.length : Int) then (some (((rd_T39 t112 0).f1) == 4607182418800017408)) else (none)) else (some false)) else (some false)) else (some false))) else (some false)) = some r := by rw [if_pos rfl] at H; exact H
   clear H
   have H := H1
   clear H1
   by_cases c7 : t109 = 0
   ·rw [if_pos c7] at H
    have c7b0 : (t109 == 0) = true := beq_iff_eq.mpr c7
    have c7b1 : (t109 != 0) = false := bne_eq_false_iff_eq.mpr c7
    clear c7
    obtain ⟨y120, hy120⟩ : ∃ y_ : List Int, y_ = (([0, 1, 0, 63, 240, 0, 0, 0, 0, 0, 0] : List Int)) := ⟨_, rfl⟩
    replace H : ((manometerref01_Equal.f t108 y120).bind fun t123 => (if t123 = true then (if t113 = 0 then (if (t112.length : Int) = 1 then (if 0 < (t112.length : Int) then (some (((rd_T39 t112 0).f1) == 4607182418800017408)) else (none)) else (some false)) else (some false)) else (some false))) = some r := by first | (rw [hy120]; with_reducible exact H) | (have H2_ := (Option.bind_some _ _).symm.trans H; rw [hy120]; with_reducible exact H2_) | (have H2_ := (Option.bind_some _ _).symm.trans H; with_reducible exact H2_) | with_reducible exact H | (rw [hy120]; exact H) | exact H
    have Ny120 := Aside0.mk hy120
    clear hy120
    replace H := Option.bind_eq_some_iff.mp H
    obtain ⟨t123, A80, H⟩ := H
    replace H : (if t123 = true then (if t113 = 0 then (if (t112.length : Int) = 1 then (if 0 < (t112.length : Int) then (some (((rd_T39 t112 0).f1) == 4607182418800017408)) else (none)) else (some false)) else (some false)) else (some false)) = some r := H
    have A8 := Aside0.mk A80
    clear A80
    by_cases c9 : t123 = true
    ·subst c9
     have H1 : (if t113 = 0 then (if (t112.length : Int) = 1 then (if 0 < (t112.length : Int) then (some (((rd_T39 t112 0).f1) == 4607182418800017408)) else (none)) else (some false)) else (some false)) = some r := by rw [if_pos rfl] at H; exact H
     clear H
     have H := H1
     clear H1
     by_cases c10 : t113 = 0
     ·rw [if_pos c10] at H
      have c10b0 : (t113 == 0) = true := beq_iff_eq.mpr c10
      have c10b1 : (t113 != 0) = false := bne_eq_false_iff_eq.mpr c10
      clear c10
      by_cases c11 : (t112.length : Int) = 1
      ·rw [if_pos c11] at H
       have c11b0 : ((t112.length : Int) == 1) = true := beq_iff_eq.mpr c11
       have c11b1 : ((t112.length : Int) != 1) = false := bne_eq_false_iff_eq.mpr c11
       clear c11
       by_cases c12 : 0 < (t112.length : Int)
       ·rw [if_pos c12] at H
        have c12b0 : decide (0 < (t112.length : Int)) = true := decide_eq_true c12
        have c12b1 : decide (0 < t112.length) = true := decide_eq_true (by omega)
        clear c12
        obtain rfl := Option.some.inj H
        go_enter Tryd.func11, Tryd.ntmps11
        go_wp2_with (first | ((with_reducible refine gate_callee (f := 12) rfl ?_); refine goesL_ (some 8) rfl rfl Tryd.func12 (by kernel_rfl) rfl #[.slice none 0 0] rfl y3_ ?_; (refine (xor_Put.calls _ _ ([] : List (S39)) t101 t102 _ ?side1 ?side2 ?side3 A1.out).mono ?_); (case side1 => exact ⟨Tab_below hT.out y1_⟩); (case side2 => exact Kd.C_nil _ _); (case side3 => exact Nat.le_refl _); rintro e w13 ⟨v103, rfl, ho0, hb⟩; refine ⟨_, rfl, ?_⟩; have n0_ := Aside0.mk (Kd.R_lower ho0 (below_size y1_)); have n1_ := Aside0.mk (below_step y1_ hb); clear HB; have HO104 := n0_; have HB := n1_; clear n0_ n1_; (try clear hb); (try clear hb2); (try clear hk); (try clear hi); (try clear ho0)) | ((with_reducible refine gate_dst (N := 13) rfl ?_); (try (refine gate_guard (by rfl) ?_; dsimp only)); refine Kd.R_lit k39 _ 39 ?hg (N := 13) ?hd (xs := ([(⟨0, 4607182418800017408⟩ : S39)] : List (S39))) (inner := [.int .i64 0, .int .u64 4607182418800017408]) (ok := fun _ => True) (okp := fun _ => True) ?hr ?hp (fun _ hk => hk) trivial (Below.refl _ _) (Nat.le_refl _) (by simp) ?_; (case hd => rfl); (case hg => rfl); (case hr => first | (go_simp; done) | (go_simp; rfl)); (case hp => exact (Reps.c2 (show Kd.M k39 _ _ _ (⟨0, 4607182418800017408⟩ : S39) [.int .i64 0, .int .u64 4607182418800017408] from (k39_mkM _ _ _ (⟨0, 4607182418800017408⟩ : S39) )) (Reps.none _ _))); intro v106 w14 ho15 hb hg_ hnew_; clear hg_ hnew_; (first | rw [← Ny105.out] at ho15 | (simp only [Int.reduceToNat] at ho15; rw [← Ny105.out] at ho15)); have n0_ := Aside0.mk (Kd.R_below y2_ hb); have n1_ := Aside0.mk (Kd.R_lower ho15 (below_size y1_)); have n2_ := Aside0.mk (below_step y1_ hb); clear HO104; clear HB; have HO104 := n0_; have HO107 := n1_; have HB := n2_; clear n0_ n1_ n2_; clear hb ho15; obtain ⟨Ao16, co16, eo16⟩ := Kd.R_slice HO107.out; subst eo16) | ((with_reducible refine gate_callee (f := 12) rfl ?_); refine goesL_ (some 14) rfl rfl Tryd.func12 (by kernel_rfl) rfl #[.slice Ao16 y105.length co16] rfl y3_ ?_; (with_reducible refine (xor_Put.calls _ _ y105 t108 t109 _ ?side1 ?side2 ?side3 A2.out).mono ?_); (case side1 => exact ⟨Tab_below hT.out y1_⟩); (case side2 => repeat (first | exact (Kd.R_reads' HO107.out).2.2 | (with_reducible refine Kd.C_alloc ?_ _) | (with_reducible refine Kd.C_drewN ?_ _) | (with_reducible refine Kd.C_drew ?_))); (case side3 => exact (Kd.R_reads' HO107.out).2.1); rintro e w17 ⟨v110, rfl, ho0, hb⟩; refine ⟨_, rfl, ?_⟩; have n0_ := Aside0.mk (Kd.R_elder' y2_ (Kd.R_base ho0) hb); have n1_ := Aside0.mk (Kd.R_below y4_ hb); have n2_ := Aside0.mk (Kd.R_lower (Kd.R_new' ho0 (Kd.R_lt y2_)) (below_size y1_)); have n3_ := Aside0.mk (below_step y1_ hb); clear HO104; clear HO107; clear HB; have HO104 := n0_; have HO107 := n1_; have HO111 := n2_; have HB := n3_; clear n0_ n1_ n2_ n3_; (try clear hb); (try clear hb2); (try clear hk); (try clear hi); (try clear ho0); obtain ⟨Ao18, co18, eo18⟩ := Kd.R_slice HO111.out; subst eo18) | ((with_reducible refine gate_callee (f := 16) rfl ?_); refine goesL_ (some 19) rfl rfl Tryd.func16 (by kernel_rfl) rfl #[.slice Ao18 t108.length co18] rfl y3_ ?_; (with_reducible refine (xor_Get.calls _ _ t108 t112 t113 _ ?side1 ?side2 ?side3 A3.out).mono ?_); (case side1 => exact ⟨Tab_below hT.out y1_⟩); (case side2 => repeat (first | exact (Kd.R_reads' HO111.out).2.2 | (with_reducible refine Kd.C_alloc ?_ _) | (with_reducible refine Kd.C_drewN ?_ _) | (with_reducible refine Kd.C_drew ?_))); (case side3 => exact (Kd.R_reads' HO111.out).2.1); rintro e w19 ⟨v114, rfl, ho0, hb⟩; refine ⟨_, rfl, ?_⟩; have n0_ := Aside0.mk (Kd.R_below y2_ hb); have n1_ := Aside0.mk (Kd.R_elder' y4_ (Kd.R_base ho0) hb); have n2_ := Aside0.mk (Kd.R_below y5_ hb); have n3_ := Aside0.mk (Kd.R_lower (Kd.R_new' ho0 (Kd.R_lt y4_)) (below_size y1_)); have n4_ := Aside0.mk (below_step y1_ hb); clear HO104; clear HO107; clear HO111; clear HB; have HO104 := n0_; have HO107 := n1_; have HO111 := n2_; have HO115 := n3_; have HB := n4_; clear n0_ n1_ n2_ n3_ n4_; (try clear hb); (try clear hb2); (try clear hk); (try clear hi); (try clear ho0)) | ((with_reducible refine gate_dst (N := 26) rfl ?_); (try (refine gate_guard (by rfl) ?_; dsimp only)); refine Kd.R_lit (Kd.int .u8) _ 5 ?hg (N := 26) ?hd (xs := ([0, 0] : List Int)) (inner := [.int .u8 0, .int .u8 0]) (ok := fun _ => True) (okp := fun _ => True) ?hr ?hp (fun _ hk => hk) trivial (Below.refl _ _) (Nat.le_refl _) (by simp) ?_; (case hd => rfl); (case hg => rfl); (case hr => first | (go_simp; done) | (go_simp; rfl)); (case hp => exact (Reps.one (show Kd.M (Kd.int .u8) _ _ _ 0 [.int .u8 0] from rfl) (Reps.one (show Kd.M (Kd.int .u8) _ _ _ 0 [.int .u8 0] from rfl) (Reps.none _ _)))); intro v117 w20 ho21 hb hg_ hnew_; clear hg_ hnew_; (first | rw [← Ny116.out] at ho21 | (simp only [Int.reduceToNat] at ho21; rw [← Ny116.out] at ho21)); have n0_ := Aside0.mk (Kd.R_elder' y2_ (Kd.R_base ho21) hb); have n1_ := Aside0.mk (Kd.R_below y4_ hb); have n2_ := Aside0.mk (Kd.R_elder' y5_ (Kd.R_base ho21) hb); have n3_ := Aside0.mk (Kd.R_below y8_ hb); have n4_ := Aside0.mk (Kd.R_lower (Kd.R_new' (Kd.R_new' ho21 (Kd.R_lt y2_)) (Kd.R_lt y5_)) (below_size y1_)); have n5_ := Aside0.mk (below_step y1_ hb); clear HO104; clear HO107; clear HO111; clear HO115; clear HB; have HO104 := n0_; have HO107 := n1_; have HO111 := n2_; have HO115 := n3_; have HO118 := n4_; have HB := n5_; clear n0_ n1_ n2_ n3_ n4_ n5_; clear hb ho21; obtain ⟨Ao22, co22, eo22⟩ := Kd.R_slice HO104.out; subst eo22; obtain ⟨Ao23, co23, eo23⟩ := Kd.R_slice HO118.out; subst eo23) | (go_at_call 14; (with_reducible refine (manometerref01_Equal.calls _ _ t101 _ _ y116 true _ ?side1 ?side2 ?side3 ?side4 A5.out).mono ?_); (case side1 => repeat (first | exact (Kd.R_reads' HO104.out).2.2 | (with_reducible refine Kd.C_alloc ?_ _) | (with_reducible refine Kd.C_drewN ?_ _) | (with_reducible refine Kd.C_drew ?_))); (case side2 => exact (Kd.R_reads' HO104.out).2.1); (case side3 => repeat (first | exact (Kd.R_reads' HO118.out).2.2 | (with_reducible refine Kd.C_alloc ?_ _) | (with_reducible refine Kd.C_drewN ?_ _) | (with_reducible refine Kd.C_drew ?_))); (case side4 => exact (Kd.R_reads' HO118.out).2.1); rintro e w' ⟨rfl, ⟨nd, rfl⟩⟩) | ((with_reducible refine gate_dst (N := 35) rfl ?_); (try (refine gate_guard (by rfl) ?_; dsimp only)); refine Kd.R_lit (Kd.int .u8) _ 5 ?hg (N := 35) ?hd (xs := ([0, 1, 0, 63, 240, 0, 0, 0, 0, 0, 0] : List Int)) (inner := [.int .u8 0, .int .u8 1, .int .u8 0, .int .u8 63, .int .u8 240, .int .u8 0, .int .u8 0, .int .u8 0, .int .u8 0, .int .u8 0, .int .u8 0]) (ok := fun _ => True) (okp := fun _ => True) ?hr ?hp (fun _ hk => hk) trivial (Below.refl _ _) (Nat.le_refl _) (by simp) ?_; (case hd => rfl); (case hg => rfl); (case hr => first | (go_simp; done) | (go_simp; rfl)); (case hp => exact (Reps.one (show Kd.M (Kd.int .u8) _ _ _ 0 [.int .u8 0] from rfl) (Reps.one (show Kd.M (Kd.int .u8) _ _ _ 1 [.int .u8 1] from rfl) (Reps.one (show Kd.M (Kd.int .u8) _ _ _ 0 [.int .u8 0] from rfl) (Reps.one (show Kd.M (Kd.int .u8) _ _ _ 63 [.int .u8 63] from rfl) (Reps.one (show Kd.M (Kd.int .u8) _ _ _ 240 [.int .u8 240] from rfl) (Reps.one (show Kd.M (Kd.int .u8) _ _ _ 0 [.int .u8 0] from rfl) (Reps.one (show Kd.M (Kd.int .u8) _ _ _ 0 [.int .u8 0] from rfl) (Reps.one (show Kd.M (Kd.int .u8) _ _ _ 0 [.int .u8 0] from rfl) (Reps.one (show Kd.M (Kd.int .u8) _ _ _ 0 [.int .u8 0] from rfl) (Reps.one (show Kd.M (Kd.int .u8) _ _ _ 0 [.int .u8 0] from rfl) (Reps.one (show Kd.M (Kd.int .u8) _ _ _ 0 [.int .u8 0] from rfl) (Reps.none _ _))))))))))))); intro v121 w24 ho25 hb hg_ hnew_; clear hg_ hnew_; (first | rw [← Ny120.out] at ho25 | (simp only [Int.reduceToNat] at ho25; rw [← Ny120.out] at ho25)); have n0_ := Aside0.mk (Kd.R_elder' y2_ (Kd.R_base ho25) hb); have n1_ := Aside0.mk (Kd.R_below y4_ hb); have n2_ := Aside0.mk (Kd.R_elder' y5_ (Kd.R_base ho25) hb); have n3_ := Aside0.mk (Kd.R_below y8_ hb); have n4_ := Aside0.mk (Kd.R_elder' y9_ (Kd.R_base ho25) hb); have n5_ := Aside0.mk (Kd.R_lower (Kd.R_new' (Kd.R_new' (Kd.R_new' ho25 (Kd.R_lt y2_)) (Kd.R_lt y5_)) (Kd.R_lt y9_)) (below_size y1_)); have n6_ := Aside0.mk (below_step y1_ hb); clear HO104; clear HO107; clear HO111; clear HO115; clear HO118; clear HB; have HO104 := n0_; have HO107 := n1_; have HO111 := n2_; have HO115 := n3_; have HO118 := n4_; have HO122 := n5_; have HB := n6_; clear n0_ n1_ n2_ n3_ n4_ n5_ n6_; clear hb ho25; obtain ⟨Ao26, co26, eo26⟩ := Kd.R_slice HO122.out; subst eo26) | (go_at_call 14; (with_reducible refine (manometerref01_Equal.calls _ _ t108 _ _ y120 true _ ?side1 ?side2 ?side3 ?side4 A8.out).mono ?_); (case side1 => repeat (first | exact (Kd.R_reads' HO111.out).2.2 | (with_reducible refine Kd.C_alloc ?_ _) | (with_reducible refine Kd.C_drewN ?_ _) | (with_reducible refine Kd.C_drew ?_))); (case side2 => exact (Kd.R_reads' HO111.out).2.1); (case side3 => repeat (first | exact (Kd.R_reads' HO122.out).2.2 | (with_reducible refine Kd.C_alloc ?_ _) | (with_reducible refine Kd.C_drewN ?_ _) | (with_reducible refine Kd.C_drew ?_))); (case side4 => exact (Kd.R_reads' HO122.out).2.1); rintro e w' ⟨rfl, ⟨nd, rfl⟩⟩; obtain ⟨Ao27, co27, eo27⟩ := Kd.R_slice HO115.out; subst eo27; have p124 : 0 ≤ (0 : Int) := (by omega); have q124 : 0 < (t112.length : Int) := of_decide_eq_true y10_; obtain ⟨ad124, e124, hx124_0, hx124_1⟩ := at_T39 (Kd.R_reads' HO115.out).2.2 0 p124 q124; cases e124; have qi124 : (0 < t112.length) = True := eq_true (by omega); (try rw [show ((0 : Int)).toNat = 0 from rfl] at hx124_0); (try rw [show 0 * 2 = 0 from rfl] at hx124_0); (try rw [Addr.add_zero'] at hx124_0); (try rw [show ((0 : Int)).toNat = 0 from rfl] at hx124_1); (try rw [show 0 * 2 = 0 from rfl] at hx124_1); (try rw [Addr.add_zero'] at hx124_1); replace p124 := eq_true p124; replace q124 := eq_true q124))
        go_ret
        exact ⟨y6_, y1_⟩
       ·rw [if_neg c12] at H
        exact absurd H (by simp)
      ·rw [if_neg c11] at H
       have c11b0 : ((t112.length : Int) == 1) = false := beq_eq_false_iff_ne.mpr c11
       have c11b1 : ((t112.length : Int) != 1) = true := bne_iff_ne.mpr c11
       obtain rfl := Option.some.inj H
       go_enter Tryd.func11, Tryd.ntmps11
       go_wp2_with (first | ((with_reducible refine gate_callee (f := 12) rfl ?_); refine goesL_ (some 8) rfl rfl Tryd.func12 (by kernel_rfl) rfl #[.slice none 0 0] rfl y3_ ?_; (refine (xor_Put.calls _ _ ([] : List (S39)) t101 t102 _ ?side1 ?side2 ?side3 A1.out).mono ?_); (case side1 => exact ⟨Tab_below hT.out y1_⟩); (case side2 => exact Kd.C_nil _ _); (case side3 => exact Nat.le_refl _); rintro e w28 ⟨v103, rfl, ho0, hb⟩; refine ⟨_, rfl, ?_⟩; have n0_ := Aside0.mk (Kd.R_lower ho0 (below_size y1_)); have n1_ := Aside0.mk (below_step y1_ hb); clear HB; have HO104 := n0_; have HB := n1_; clear n0_ n1_; (try clear hb); (try clear hb2); (try clear hk); (try clear hi); (try clear ho0)) | ((with_reducible refine gate_dst (N := 13) rfl ?_); (try (refine gate_guard (by rfl) ?_; dsimp only)); refine Kd.R_lit k39 _ 39 ?hg (N := 13) ?hd (xs := ([(⟨0, 4607182418800017408⟩ : S39)] : List (S39))) (inner := [.int .i64 0, .int .u64 4607182418800017408]) (ok := fun _ => True) (okp := fun _ => True) ?hr ?hp (fun _ hk => hk) trivial (Below.refl _ _) (Nat.le_refl _) (by simp) ?_; (case hd => rfl); (case hg => rfl); (case hr => first | (go_simp; done) | (go_simp; rfl)); (case hp => exact (Reps.c2 (show Kd.M k39 _ _ _ (⟨0, 4607182418800017408⟩ : S39) [.int .i64 0, .int .u64 4607182418800017408] from (k39_mkM _ _ _ (⟨0, 4607182418800017408⟩ : S39) )) (Reps.none _ _))); intro v106 w29 ho30 hb hg_ hnew_; clear hg_ hnew_; (first | rw [← Ny105.out] at ho30 | (simp only [Int.reduceToNat] at ho30; rw [← Ny105.out] at ho30)); have n0_ := Aside0.mk (Kd.R_below y2_ hb); have n1_ := Aside0.mk (Kd.R_lower ho30 (below_size y1_)); have n2_ := Aside0.mk (below_step y1_ hb); clear HO104; clear HB; have HO104 := n0_; have HO107 := n1_; have HB := n2_; clear n0_ n1_ n2_; clear hb ho30; obtain ⟨Ao31, co31, eo31⟩ := Kd.R_slice HO107.out; subst eo31) | ((with_reducible refine gate_callee (f := 12) rfl ?_); refine goesL_ (some 14) rfl rfl Tryd.func12 (by kernel_rfl) rfl #[.slice Ao31 y105.length co31] rfl y3_ ?_; (with_reducible refine (xor_Put.calls _ _ y105 t108 t109 _ ?side1 ?side2 ?side3 A2.out).mono ?_); (case side1 => exact ⟨Tab_below hT.out y1_⟩); (case side2 => repeat (first | exact (Kd.R_reads' HO107.out).2.2 | (with_reducible refine Kd.C_alloc ?_ _) | (with_reducible refine Kd.C_drewN ?_ _) | (with_reducible refine Kd.C_drew ?_))); (case side3 => exact (Kd.R_reads' HO107.out).2.1); rintro e w32 ⟨v110, rfl, ho0, hb⟩; refine ⟨_, rfl, ?_⟩; have n0_ := Aside0.mk (Kd.R_elder' y2_ (Kd.R_base ho0) hb); have n1_ := Aside0.mk (Kd.R_below y4_ hb); have n2_ := Aside0.mk (Kd.R_lower (Kd.R_new' ho0 (Kd.R_lt y2_)) (below_size y1_)); have n3_ := Aside0.mk (below_step y1_ hb); clear HO104; clear HO107; clear HB; have HO104 := n0_; have HO107 := n1_; have HO111 := n2_; have HB := n3_; clear n0_ n1_ n2_ n3_; (try clear hb); (try clear hb2); (try clear hk); (try clear hi); (try clear ho0); obtain ⟨Ao33, co33, eo33⟩ := Kd.R_slice HO111.out; subst eo33) | ((with_reducible refine gate_callee (f := 16) rfl ?_); refine goesL_ (some 19) rfl rfl Tryd.func16 (by kernel_rfl) rfl #[.slice Ao33 t108.length co33] rfl y3_ ?_; (with_reducible refine (xor_Get.calls _ _ t108 t112 t113 _ ?side1 ?side2 ?side3 A3.out).mono ?_); (case side1 => exact ⟨Tab_below hT.out y1_⟩); (case side2 => repeat (first | exact (Kd.R_reads' HO111.out).2.2 | (with_reducible refine Kd.C_alloc ?_ _) | (with_reducible refine Kd.C_drewN ?_ _) | (with_reducible refine Kd.C_drew ?_))); (case side3 => exact (Kd.R_reads' HO111.out).2.1); rintro e w34 ⟨v114, rfl, ho0, hb⟩; refine ⟨_, rfl, ?_⟩; have n0_ := Aside0.mk (Kd.R_below y2_ hb); have n1_ := Aside0.mk (Kd.R_elder' y4_ (Kd.R_base ho0) hb); have n2_ := Aside0.mk (Kd.R_below y5_ hb); have n3_ := Aside0.mk (Kd.R_lower (Kd.R_new' ho0 (Kd.R_lt y4_)) (below_size y1_)); have n4_ := Aside0.mk (below_step y1_ hb); clear HO104; clear HO107; clear HO111; clear HB; have HO104 := n0_; have HO107 := n1_; have HO111 := n2_; have HO115 := n3_; have HB := n4_; clear n0_ n1_ n2_ n3_ n4_; (try clear hb); (try clear hb2); (try clear hk); (try clear hi); (try clear ho0)) | ((with_reducible refine gate_dst (N := 26) rfl ?_); (try (refine gate_guard (by rfl) ?_; dsimp only)); refine Kd.R_lit (Kd.int .u8) _ 5 ?hg (N := 26) ?hd (xs := ([0, 0] : List Int)) (inner := [.int .u8 0, .int .u8 0]) (ok := fun _ => True) (okp := fun _ => True) ?hr ?hp (fun _ hk => hk) trivial (Below.refl _ _) (Nat.le_refl _) (by simp) ?_; (case hd => rfl); (case hg => rfl); (case hr => first | (go_simp; done) | (go_simp; rfl)); (case hp => exact (Reps.one (show Kd.M (Kd.int .u8) _ _ _ 0 [.int .u8 0] from rfl) (Reps.one (show Kd.M (Kd.int .u8) _ _ _ 0 [.int .u8 0] from rfl) (Reps.none _ _)))); intro v117 w35 ho36 hb hg_ hnew_; clear hg_ hnew_; (first | rw [← Ny116.out] at ho36 | (simp only [Int.reduceToNat] at ho36; rw [← Ny116.out] at ho36)); have n0_ := Aside0.mk (Kd.R_elder' y2_ (Kd.R_base ho36) hb); have n1_ := Aside0.mk (Kd.R_below y4_ hb); have n2_ := Aside0.mk (Kd.R_elder' y5_ (Kd.R_base ho36) hb); have n3_ := Aside0.mk (Kd.R_below y8_ hb); have n4_ := Aside0.mk (Kd.R_lower (Kd.R_new' (Kd.R_new' ho36 (Kd.R_lt y2_)) (Kd.R_lt y5_)) (below_size y1_)); have n5_ := Aside0.mk (below_step y1_ hb); clear HO104; clear HO107; clear HO111; clear HO115; clear HB; have HO104 := n0_; have HO107 := n1_; have HO111 := n2_; have HO115 := n3_; have HO118 := n4_; have HB := n5_; clear n0_ n1_ n2_ n3_ n4_ n5_; clear hb ho36; obtain ⟨Ao37, co37, eo37⟩ := Kd.R_slice HO104.out; subst eo37; obtain ⟨Ao38, co38, eo38⟩ := Kd.R_slice HO118.out; subst eo38) | (go_at_call 14; (with_reducible refine (manometerref01_Equal.calls _ _ t101 _ _ y116 true _ ?side1 ?side2 ?side3 ?side4 A5.out).mono ?_); (case side1 => repeat (first | exact (Kd.R_reads' HO104.out).2.2 | (with_reducible refine Kd.C_alloc ?_ _) | (with_reducible refine Kd.C_drewN ?_ _) | (with_reducible refine Kd.C_drew ?_))); (case side2 => exact (Kd.R_reads' HO104.out).2.1); (case side3 => repeat (first | exact (Kd.R_reads' HO118.out).2.2 | (with_reducible refine Kd.C_alloc ?_ _) | (with_reducible refine Kd.C_drewN ?_ _) | (with_reducible refine Kd.C_drew ?_))); (case side4 => exact (Kd.R_reads' HO118.out).2.1); rintro e w' ⟨rfl, ⟨nd, rfl⟩⟩) | ((with_reducible refine gate_dst (N := 35) rfl ?_); (try (refine gate_guard (by rfl) ?_; dsimp only)); refine Kd.R_lit (Kd.int .u8) _ 5 ?hg (N := 35) ?hd (xs := ([0, 1, 0, 63, 240, 0, 0, 0, 0, 0, 0] : List Int)) (inner := [.int .u8 0, .int .u8 1, .int .u8 0, .int .u8 63, .int .u8 240, .int .u8 0, .int .u8 0, .int .u8 0, .int .u8 0, .int .u8 0, .int .u8 0]) (ok := fun _ => True) (okp := fun _ => True) ?hr ?hp (fun _ hk => hk) trivial (Below.refl _ _) (Nat.le_refl _) (by simp) ?_; (case hd => rfl); (case hg => rfl); (case hr => first | (go_simp; done) | (go_simp; rfl)); (case hp => exact (Reps.one (show Kd.M (Kd.int .u8) _ _ _ 0 [.int .u8 0] from rfl) (Reps.one (show Kd.M (Kd.int .u8) _ _ _ 1 [.int .u8 1] from rfl) (Reps.one (show Kd.M (Kd.int .u8) _ _ _ 0 [.int .u8 0] from rfl) (Reps.one (show Kd.M (Kd.int .u8) _ _ _ 63 [.int .u8 63] from rfl) (Reps.one (show Kd.M (Kd.int .u8) _ _ _ 240 [.int .u8 240] from rfl) (Reps.one (show Kd.M (Kd.int .u8) _ _ _ 0 [.int .u8 0] from rfl) (Reps.one (show Kd.M (Kd.int .u8) _ _ _ 0 [.int .u8 0] from rfl) (Reps.one (show Kd.M (Kd.int .u8) _ _ _ 0 [.int .u8 0] from rfl) (Reps.one (show Kd.M (Kd.int .u8) _ _ _ 0 [.int .u8 0] from rfl) (Reps.one (show Kd.M (Kd.int .u8) _ _ _ 0 [.int .u8 0] from rfl) (Reps.one (show Kd.M (Kd.int .u8) _ _ _ 0 [.int .u8 0] from rfl) (Reps.none _ _))))))))))))); intro v121 w39 ho40 hb hg_ hnew_; clear hg_ hnew_; (first | rw [← Ny120.out] at ho40 | (simp only [Int.reduceToNat] at ho40; rw [← Ny120.out] at ho40)); have n0_ := Aside0.mk (Kd.R_elder' y2_ (Kd.R_base ho40) hb); have n1_ := Aside0.mk (Kd.R_below y4_ hb); have n2_ := Aside0.mk (Kd.R_elder' y5_ (Kd.R_base ho40) hb); have n3_ := Aside0.mk (Kd.R_below y8_ hb); have n4_ := Aside0.mk (Kd.R_elder' y9_ (Kd.R_base ho40) hb); have n5_ := Aside0.mk (Kd.R_lower (Kd.R_new' (Kd.R_new' (Kd.R_new' ho40 (Kd.R_lt y2_)) (Kd.R_lt y5_)) (Kd.R_lt y9_)) (below_size y1_)); have n6_ := Aside0.mk (below_step y1_ hb); clear HO104; clear HO107; clear HO111; clear HO115; clear HO118; clear HB; have HO104 := n0_; have HO107 := n1_; have HO111 := n2_; have HO115 := n3_; have HO118 := n4_; have HO122 := n5_; have HB := n6_; clear n0_ n1_ n2_ n3_ n4_ n5_ n6_; clear hb ho40; obtain ⟨Ao41, co41, eo41⟩ := Kd.R_slice HO122.out; subst eo41) | (go_at_call 14; (with_reducible refine (manometerref01_Equal.calls _ _ t108 _ _ y120 true _ ?side1 ?side2 ?side3 ?side4 A8.out).mono ?_); (case side1 => repeat (first | exact (Kd.R_reads' HO111.out).2.2 | (with_reducible refine Kd.C_alloc ?_ _) | (with_reducible refine Kd.C_drewN ?_ _) | (with_reducible refine Kd.C_drew ?_))); (case side2 => exact (Kd.R_reads' HO111.out).2.1); (case side3 => repeat (first | exact (Kd.R_reads' HO122.out).2.2 | (with_reducible refine Kd.C_alloc ?_ _) | (with_reducible refine Kd.C_drewN ?_ _) | (with_reducible refine Kd.C_drew ?_))); (case side4 => exact (Kd.R_reads' HO122.out).2.1); rintro e w' ⟨rfl, ⟨nd, rfl⟩⟩; obtain ⟨Ao42, co42, eo42⟩ := Kd.R_slice HO115.out; subst eo42))
       go_ret
       exact ⟨y6_, y1_⟩
     ·rw [if_neg c10] at H
      have c10b0 : (t113 == 0) = false := beq_eq_false_iff_ne.mpr c10
      have c10b1 : (t113 != 0) = true := bne_iff_ne.mpr c10
      obtain rfl := Option.some.inj H
      go_enter Tryd.func11, Tryd.ntmps11
      go_wp2_with (first | ((with_reducible refine gate_callee (f := 12) rfl ?_); refine goesL_ (some 8) rfl rfl Tryd.func12 (by kernel_rfl) rfl #[.slice none 0 0] rfl y3_ ?_; (refine (xor_Put.calls _ _ ([] : List (S39)) t101 t102 _ ?side1 ?side2 ?side3 A1.out).mono ?_); (case side1 => exact ⟨Tab_below hT.out y1_⟩); (case side2 => exact Kd.C_nil _ _); (case side3 => exact Nat.le_refl _); rintro e w43 ⟨v103, rfl, ho0, hb⟩; refine ⟨_, rfl, ?_⟩; have n0_ := Aside0.mk (Kd.R_lower ho0 (below_size y1_)); have n1_ := Aside0.mk (below_step y1_ hb); clear HB; have HO104 := n0_; have HB := n1_; clear n0_ n1_; (try clear hb); (try clear hb2); (try clear hk); (try clear hi); (try clear ho0)) | ((with_reducible refine gate_dst (N := 13) rfl ?_); (try (refine gate_guard (by rfl) ?_; dsimp only)); refine Kd.R_lit k39 _ 39 ?hg (N := 13) ?hd (xs := ([(⟨0, 4607182418800017408⟩ : S39)] : List (S39))) (inner := [.int .i64 0, .int .u64 4607182418800017408]) (ok := fun _ => True) (okp := fun _ => True) ?hr ?hp (fun _ hk => hk) trivial (Below.refl _ _) (Nat.le_refl _) (by simp) ?_; (case hd => rfl); (case hg => rfl); (case hr => first | (go_simp; done) | (go_simp; rfl)); (case hp => exact (Reps.c2 (show Kd.M k39 _ _ _ (⟨0, 4607182418800017408⟩ : S39) [.int .i64 0, .int .u64 4607182418800017408] from (k39_mkM _ _ _ (⟨0, 4607182418800017408⟩ : S39) )) (Reps.none _ _))); intro v106 w44 ho45 hb hg_ hnew_; clear hg_ hnew_; (first | rw [← Ny105.out] at ho45 | (simp only [Int.reduceToNat] at ho45; rw [← Ny105.out] at ho45)); have n0_ := Aside0.mk (Kd.R_below y2_ hb); have n1_ := Aside0.mk (Kd.R_lower ho45 (below_size y1_)); have n2_ := Aside0.mk (below_step y1_ hb); clear HO104; clear HB; have HO104 := n0_; have HO107 := n1_; have HB := n2_; clear n0_ n1_ n2_; clear hb ho45; obtain ⟨Ao46, co46, eo46⟩ := Kd.R_slice HO107.out; subst eo46) | ((with_reducible refine gate_callee (f := 12) rfl ?_); refine goesL_ (some 14) rfl rfl Tryd.func12 (by kernel_rfl) rfl #[.slice Ao46 y105.length co46] rfl y3_ ?_; (with_reducible refine (xor_Put.calls _ _ y105 t108 t109 _ ?side1 ?side2 ?side3 A2.out).mono ?_); (case side1 => exact ⟨Tab_below hT.out y1_⟩); (case side2 => repeat (first | exact (Kd.R_reads' HO107.out).2.2 | (with_reducible refine Kd.C_alloc ?_ _) | (with_reducible refine Kd.C_drewN ?_ _) | (with_reducible refine Kd.C_drew ?_))); (case side3 => exact (Kd.R_reads' HO107.out).2.1); rintro e w47 ⟨v110, rfl, ho0, hb⟩; refine ⟨_, rfl, ?_⟩; have n0_ := Aside0.mk (Kd.R_elder' y2_ (Kd.R_base ho0) hb); have n1_ := Aside0.mk (Kd.R_below y4_ hb); have n2_ := Aside0.mk (Kd.R_lower (Kd.R_new' ho0 (Kd.R_lt y2_)) (below_size y1_)); have n3_ := Aside0.mk (below_step y1_ hb); clear HO104; clear HO107; clear HB; have HO104 := n0_; have HO107 := n1_; have HO111 := n2_; have HB := n3_; clear n0_ n1_ n2_ n3_; (try clear hb); (try clear hb2); (try clear hk); (try clear hi); (try clear ho0); obtain ⟨Ao48, co48, eo48⟩ := Kd.R_slice HO111.out; subst eo48) | ((with_reducible refine gate_callee (f := 16) rfl ?_); refine goesL_ (some 19) rfl rfl Tryd.func16 (by kernel_rfl) rfl #[.slice Ao48 t108.length co48] rfl y3_ ?_; (with_reducible refine (xor_Get.calls _ _ t108 t112 t113 _ ?side1 ?side2 ?side3 A3.out).mono ?_); (case side1 => exact ⟨Tab_below hT.out y1_⟩); (case side2 => repeat (first | exact (Kd.R_reads' HO111.out).2.2 | (with_reducible refine Kd.C_alloc ?_ _) | (with_reducible refine Kd.C_drewN ?_ _) | (with_reducible refine Kd.C_drew ?_))); (case side3 => exact (Kd.R_reads' HO111.out).2.1); rintro e w49 ⟨v114, rfl, ho0, hb⟩; refine ⟨_, rfl, ?_⟩; have n0_ := Aside0.mk (Kd.R_below y2_ hb); have n1_ := Aside0.mk (Kd.R_elder' y4_ (Kd.R_base ho0) hb); have n2_ := Aside0.mk (Kd.R_below y5_ hb); have n3_ := Aside0.mk (Kd.R_lower (Kd.R_new' ho0 (Kd.R_lt y4_)) (below_size y1_)); have n4_ := Aside0.mk (below_step y1_ hb); clear HO104; clear HO107; clear HO111; clear HB; have HO104 := n0_; have HO107 := n1_; have HO111 := n2_; have HO115 := n3_; have HB := n4_; clear n0_ n1_ n2_ n3_ n4_; (try clear hb); (try clear hb2); (try clear hk); (try clear hi); (try clear ho0)) | ((with_reducible refine gate_dst (N := 26) rfl ?_); (try (refine gate_guard (by rfl) ?_; dsimp only)); refine Kd.R_lit (Kd.int .u8) _ 5 ?hg (N := 26) ?hd (xs := ([0, 0] : List Int)) (inner := [.int .u8 0, .int .u8 0]) (ok := fun _ => True) (okp := fun _ => True) ?hr ?hp (fun _ hk => hk) trivial (Below.refl _ _) (Nat.le_refl _) (by simp) ?_; (case hd => rfl); (case hg => rfl); (case hr => first | (go_simp; done) | (go_simp; rfl)); (case hp => exact (Reps.one (show Kd.M (Kd.int .u8) _ _ _ 0 [.int .u8 0] from rfl) (Reps.one (show Kd.M (Kd.int .u8) _ _ _ 0 [.int .u8 0] from rfl) (Reps.none _ _)))); intro v117 w50 ho51 hb hg_ hnew_; clear hg_ hnew_; (first | rw [← Ny116.out] at ho51 | (simp only [Int.reduceToNat] at ho51; rw [← Ny116.out] at ho51)); have n0_ := Aside0.mk (Kd.R_elder' y2_ (Kd.R_base ho51) hb); have n1_ := Aside0.mk (Kd.R_below y4_ hb); have n2_ := Aside0.mk (Kd.R_elder' y5_ (Kd.R_base ho51) hb); have n3_ := Aside0.mk (Kd.R_below y8_ hb); have n4_ := Aside0.mk (Kd.R_lower (Kd.R_new' (Kd.R_new' ho51 (Kd.R_lt y2_)) (Kd.R_lt y5_)) (below_size y1_)); have n5_ := Aside0.mk (below_step y1_ hb); clear HO104; clear HO107; clear HO111; clear HO115; clear HB; have HO104 := n0_; have HO107 := n1_; have HO111 := n2_; have HO115 := n3_; have HO118 := n4_; have HB := n5_; clear n0_ n1_ n2_ n3_ n4_ n5_; clear hb ho51; obtain ⟨Ao52, co52, eo52⟩ := Kd.R_slice HO104.out; subst eo52; obtain ⟨Ao53, co53, eo53⟩ := Kd.R_slice HO118.out; subst eo53) | (go_at_call 14; (with_reducible refine (manometerref01_Equal.calls _ _ t101 _ _ y116 true _ ?side1 ?side2 ?side3 ?side4 A5.out).mono ?_); (case side1 => repeat (first | exact (Kd.R_reads' HO104.out).2.2 | (with_reducible refine Kd.C_alloc ?_ _) | (with_reducible refine Kd.C_drewN ?_ _) | (with_reducible refine Kd.C_drew ?_))); (case side2 => exact (Kd.R_reads' HO104.out).2.1); (case side3 => repeat (first | exact (Kd.R_reads' HO118.out).2.2 | (with_reducible refine Kd.C_alloc ?_ _) | (with_reducible refine Kd.C_drewN ?_ _) | (with_reducible refine Kd.C_drew ?_))); (case side4 => exact (Kd.R_reads' HO118.out).2.1); rintro e w' ⟨rfl, ⟨nd, rfl⟩⟩) | ((with_reducible refine gate_dst (N := 35) rfl ?_); (try (refine gate_guard (by rfl) ?_; dsimp only)); refine Kd.R_lit (Kd.int .u8) _ 5 ?hg (N := 35) ?hd (xs := ([0, 1, 0, 63, 240, 0, 0, 0, 0, 0, 0] : List Int)) (inner := [.int .u8 0, .int .u8 1, .int .u8 0, .int .u8 63, .int .u8 240, .int .u8 0, .int .u8 0, .int .u8 0, .int .u8 0, .int .u8 0, .int .u8 0]) (ok := fun _ => True) (okp := fun _ => True) ?hr ?hp (fun _ hk => hk) trivial (Below.refl _ _) (Nat.le_refl _) (by simp) ?_; (case hd => rfl); (case hg => rfl); (case hr => first | (go_simp; done) | (go_simp; rfl)); (case hp => exact (Reps.one (show Kd.M (Kd.int .u8) _ _ _ 0 [.int .u8 0] from rfl) (Reps.one (show Kd.M (Kd.int .u8) _ _ _ 1 [.int .u8 1] from rfl) (Reps.one (show Kd.M (Kd.int .u8) _ _ _ 0 [.int .u8 0] from rfl) (Reps.one (show Kd.M (Kd.int .u8) _ _ _ 63 [.int .u8 63] from rfl) (Reps.one (show Kd.M (Kd.int .u8) _ _ _ 240 [.int .u8 240] from rfl) (Reps.one (show Kd.M (Kd.int .u8) _ _ _ 0 [.int .u8 0] from rfl) (Reps.one (show Kd.M (Kd.int .u8) _ _ _ 0 [.int .u8 0] from rfl) (Reps.one (show Kd.M (Kd.int .u8) _ _ _ 0 [.int .u8 0] from rfl) (Reps.one (show Kd.M (Kd.int .u8) _ _ _ 0 [.int .u8 0] from rfl) (Reps.one (show Kd.M (Kd.int .u8) _ _ _ 0 [.int .u8 0] from rfl) (Reps.one (show Kd.M (Kd.int .u8) _ _ _ 0 [.int .u8 0] from rfl) (Reps.none _ _))))))))))))); intro v121 w54 ho55 hb hg_ hnew_; clear hg_ hnew_; (first | rw [← Ny120.out] at ho55 | (simp only [Int.reduceToNat] at ho55; rw [← Ny120.out] at ho55)); have n0_ := Aside0.mk (Kd.R_elder' y2_ (Kd.R_base ho55) hb); have n1_ := Aside0.mk (Kd.R_below y4_ hb); have n2_ := Aside0.mk (Kd.R_elder' y5_ (Kd.R_base ho55) hb); have n3_ := Aside0.mk (Kd.R_below y8_ hb); have n4_ := Aside0.mk (Kd.R_elder' y9_ (Kd.R_base ho55) hb); have n5_ := Aside0.mk (Kd.R_lower (Kd.R_new' (Kd.R_new' (Kd.R_new' ho55 (Kd.R_lt y2_)) (Kd.R_lt y5_)) (Kd.R_lt y9_)) (below_size y1_)); have n6_ := Aside0.mk (below_step y1_ hb); clear HO104; clear HO107; clear HO111; clear HO115; clear HO118; clear HB; have HO104 := n0_; have HO107 := n1_; have HO111 := n2_; have HO115 := n3_; have HO118 := n4_; have HO122 := n5_; have HB := n6_; clear n0_ n1_ n2_ n3_ n4_ n5_ n6_; clear hb ho55; obtain ⟨Ao56, co56, eo56⟩ := Kd.R_slice HO122.out; subst eo56) | (go_at_call 14; (with_reducible refine (manometerref01_Equal.calls _ _ t108 _ _ y120 true _ ?side1 ?side2 ?side3 ?side4 A8.out).mono ?_); (case side1 => repeat (first | exact (Kd.R_reads' HO111.out).2.2 | (with_reducible refine Kd.C_alloc ?_ _) | (with_reducible refine Kd.C_drewN ?_ _) | (with_reducible refine Kd.C_drew ?_))); (case side2 => exact (Kd.R_reads' HO111.out).2.1); (case side3 => repeat (first | exact (Kd.R_reads' HO122.out).2.2 | (with_reducible refine Kd.C_alloc ?_ _) | (with_reducible refine Kd.C_drewN ?_ _) | (with_reducible refine Kd.C_drew ?_))); (case side4 => exact (Kd.R_reads' HO122.out).2.1); rintro e w' ⟨rfl, ⟨nd, rfl⟩⟩))
      go_ret
      exact ⟨y6_, y1_⟩
    ·replace c9 := Bool.eq_false_iff.mpr c9
     subst c9
     have H1 : (some false) = some r := by rw [if_neg (show ¬ (false = true) by decide)] at H; exact H
     clear H
     have H := H1
     clear H1
     obtain rfl := Option.some.inj H
     go_enter Tryd.func11, Tryd.ntmps11
     go_wp2_with (first | ((with_reducible refine gate_callee (f := 12) rfl ?_); refine goesL_ (some 8) rfl rfl Tryd.func12 (by kernel_rfl) rfl #[.slice none 0 0] rfl y3_ ?_; (refine (xor_Put.calls _ _ ([] : List (S39)) t101 t102 _ ?side1 ?side2 ?side3 A1.out).mono ?_); (case side1 => exact ⟨Tab_below hT.out y1_⟩); (case side2 => exact Kd.C_nil _ _); (case side3 => exact Nat.le_refl _); rintro e w57 ⟨v103, rfl, ho0, hb⟩; refine ⟨_, rfl, ?_⟩; have n0_ := Aside0.mk (Kd.R_lower ho0 (below_size y1_)); have n1_ := Aside0.mk (below_step y1_ hb); clear HB; have HO104 := n0_; have HB := n1_; clear n0_ n1_; (try clear hb); (try clear hb2); (try clear hk); (try clear hi); (try clear ho0)) | ((with_reducible refine gate_dst (N := 13) rfl ?_); (try (refine gate_guard (by rfl) ?_; dsimp only)); refine Kd.R_lit k39 _ 39 ?hg (N := 13) ?hd (xs := ([(⟨0, 4607182418800017408⟩ : S39)] : List (S39))) (inner := [.int .i64 0, .int .u64 4607182418800017408]) (ok := fun _ => True) (okp := fun _ => True) ?hr ?hp (fun _ hk => hk) trivial (Below.refl _ _) (Nat.le_refl _) (by simp) ?_; (case hd => rfl); (case hg => rfl); (case hr => first | (go_simp; done) | (go_simp; rfl)); (case hp => exact (Reps.c2 (show Kd.M k39 _ _ _ (⟨0, 4607182418800017408⟩ : S39) [.int .i64 0, .int .u64 4607182418800017408] from (k39_mkM _ _ _ (⟨0, 4607182418800017408⟩ : S39) )) (Reps.none _ _))); intro v106 w58 ho59 hb hg_ hnew_; clear hg_ hnew_; (first | rw [← Ny105.out] at ho59 | (simp only [Int.reduceToNat] at ho59; rw [← Ny105.out] at ho59)); have n0_ := Aside0.mk (Kd.R_below y2_ hb); have n1_ := Aside0.mk (Kd.R_lower ho59 (below_size y1_)); have n2_ := Aside0.mk (below_step y1_ hb); clear HO104; clear HB; have HO104 := n0_; have HO107 := n1_; have HB := n2_; clear n0_ n1_ n2_; clear hb ho59; obtain ⟨Ao60, co60, eo60⟩ := Kd.R_slice HO107.out; subst eo60) | ((with_reducible refine gate_callee (f := 12) rfl ?_); refine goesL_ (some 14) rfl rfl Tryd.func12 (by kernel_rfl) rfl #[.slice Ao60 y105.length co60] rfl y3_ ?_; (with_reducible refine (xor_Put.calls _ _ y105 t108 t109 _ ?side1 ?side2 ?side3 A2.out).mono ?_); (case side1 => exact ⟨Tab_below hT.out y1_⟩); (case side2 => repeat (first | exact (Kd.R_reads' HO107.out).2.2 | (with_reducible refine Kd.C_alloc ?_ _) | (with_reducible refine Kd.C_drewN ?_ _) | (with_reducible refine Kd.C_drew ?_))); (case side3 => exact (Kd.R_reads' HO107.out).2.1); rintro e w61 ⟨v110, rfl, ho0, hb⟩; refine ⟨_, rfl, ?_⟩; have n0_ := Aside0.mk (Kd.R_elder' y2_ (Kd.R_base ho0) hb); have n1_ := Aside0.mk (Kd.R_below y4_ hb); have n2_ := Aside0.mk (Kd.R_lower (Kd.R_new' ho0 (Kd.R_lt y2_)) (below_size y1_)); have n3_ := Aside0.mk (below_step y1_ hb); clear HO104; clear HO107; clear HB; have HO104 := n0_; have HO107 := n1_; have HO111 := n2_; have HB := n3_; clear n0_ n1_ n2_ n3_; (try clear hb); (try clear hb2); (try clear hk); (try clear hi); (try clear ho0); obtain ⟨Ao62, co62, eo62⟩ := Kd.R_slice HO111.out; subst eo62) | ((with_reducible refine gate_callee (f := 16) rfl ?_); refine goesL_ (some 19) rfl rfl Tryd.func16 (by kernel_rfl) rfl #[.slice Ao62 t108.length co62] rfl y3_ ?_; (with_reducible refine (xor_Get.calls _ _ t108 t112 t113 _ ?side1 ?side2 ?side3 A3.out).mono ?_); (case side1 => exact ⟨Tab_below hT.out y1_⟩); (case side2 => repeat (first | exact (Kd.R_reads' HO111.out).2.2 | (with_reducible refine Kd.C_alloc ?_ _) | (with_reducible refine Kd.C_drewN ?_ _) | (with_reducible refine Kd.C_drew ?_))); (case side3 => exact (Kd.R_reads' HO111.out).2.1); rintro e w63 ⟨v114, rfl, ho0, hb⟩; refine ⟨_, rfl, ?_⟩; have n0_ := Aside0.mk (Kd.R_below y2_ hb); have n1_ := Aside0.mk (Kd.R_elder' y4_ (Kd.R_base ho0) hb); have n2_ := Aside0.mk (Kd.R_below y5_ hb); have n3_ := Aside0.mk (Kd.R_lower (Kd.R_new' ho0 (Kd.R_lt y4_)) (below_size y1_)); have n4_ := Aside0.mk (below_step y1_ hb); clear HO104; clear HO107; clear HO111; clear HB; have HO104 := n0_; have HO107 := n1_; have HO111 := n2_; have HO115 := n3_; have HB := n4_; clear n0_ n1_ n2_ n3_ n4_; (try clear hb); (try clear hb2); (try clear hk); (try clear hi); (try clear ho0)) | ((with_reducible refine gate_dst (N := 26) rfl ?_); (try (refine gate_guard (by rfl) ?_; dsimp only)); refine Kd.R_lit (Kd.int .u8) _ 5 ?hg (N := 26) ?hd (xs := ([0, 0] : List Int)) (inner := [.int .u8 0, .int .u8 0]) (ok := fun _ => True) (okp := fun _ => True) ?hr ?hp (fun _ hk => hk) trivial (Below.refl _ _) (Nat.le_refl _) (by simp) ?_; (case hd => rfl); (case hg => rfl); (case hr => first | (go_simp; done) | (go_simp; rfl)); (case hp => exact (Reps.one (show Kd.M (Kd.int .u8) _ _ _ 0 [.int .u8 0] from rfl) (Reps.one (show Kd.M (Kd.int .u8) _ _ _ 0 [.int .u8 0] from rfl) (Reps.none _ _)))); intro v117 w64 ho65 hb hg_ hnew_; clear hg_ hnew_; (first | rw [← Ny116.out] at ho65 | (simp only [Int.reduceToNat] at ho65; rw [← Ny116.out] at ho65)); have n0_ := Aside0.mk (Kd.R_elder' y2_ (Kd.R_base ho65) hb); have n1_ := Aside0.mk (Kd.R_below y4_ hb); have n2_ := Aside0.mk (Kd.R_elder' y5_ (Kd.R_base ho65) hb); have n3_ := Aside0.mk (Kd.R_below y8_ hb); have n4_ := Aside0.mk (Kd.R_lower (Kd.R_new' (Kd.R_new' ho65 (Kd.R_lt y2_)) (Kd.R_lt y5_)) (below_size y1_)); have n5_ := Aside0.mk (below_step y1_ hb); clear HO104; clear HO107; clear HO111; clear HO115; clear HB; have HO104 := n0_; have HO107 := n1_; have HO111 := n2_; have HO115 := n3_; have HO118 := n4_; have HB := n5_; clear n0_ n1_ n2_ n3_ n4_ n5_; clear hb ho65; obtain ⟨Ao66, co66, eo66⟩ := Kd.R_slice HO104.out; subst eo66; obtain ⟨Ao67, co67, eo67⟩ := Kd.R_slice HO118.out; subst eo67) | (go_at_call 14; (with_reducible refine (manometerref01_Equal.calls _ _ t101 _ _ y116 true _ ?side1 ?side2 ?side3 ?side4 A5.out).mono ?_); (case side1 => repeat (first | exact (Kd.R_reads' HO104.out).2.2 | (with_reducible refine Kd.C_alloc ?_ _) | (with_reducible refine Kd.C_drewN ?_ _) | (with_reducible refine Kd.C_drew ?_))); (case side2 => exact (Kd.R_reads' HO104.out).2.1); (case side3 => repeat (first | exact (Kd.R_reads' HO118.out).2.2 | (with_reducible refine Kd.C_alloc ?_ _) | (with_reducible refine Kd.C_drewN ?_ _) | (with_reducible refine Kd.C_drew ?_))); (case side4 => exact (Kd.R_reads' HO118.out).2.1); rintro e w' ⟨rfl, ⟨nd, rfl⟩⟩) | ((with_reducible refine gate_dst (N := 35) rfl ?_); (try (refine gate_guard (by rfl) ?_; dsimp only)); refine Kd.R_lit (Kd.int .u8) _ 5 ?hg (N := 35) ?hd (xs := ([0, 1, 0, 63, 240, 0, 0, 0, 0, 0, 0] : List Int)) (inner := [.int .u8 0, .int .u8 1, .int .u8 0, .int .u8 63, .int .u8 240, .int .u8 0, .int .u8 0, .int .u8 0, .int .u8 0, .int .u8 0, .int .u8 0]) (ok := fun _ => True) (okp := fun _ => True) ?hr ?hp (fun _ hk => hk) trivial (Below.refl _ _) (Nat.le_refl _) (by simp) ?_; (case hd => rfl); (case hg => rfl); (case hr => first | (go_simp; done) | (go_simp; rfl)); (case hp => exact (Reps.one (show Kd.M (Kd.int .u8) _ _ _ 0 [.int .u8 0] from rfl) (Reps.one (show Kd.M (Kd.int .u8) _ _ _ 1 [.int .u8 1] from rfl) (Reps.one (show Kd.M (Kd.int .u8) _ _ _ 0 [.int .u8 0] from rfl) (Reps.one (show Kd.M (Kd.int .u8) _ _ _ 63 [.int .u8 63] from rfl) (Reps.one (show Kd.M (Kd.int .u8) _ _ _ 240 [.int .u8 240] from rfl) (Reps.one (show Kd.M (Kd.int .u8) _ _ _ 0 [.int .u8 0] from rfl) (Reps.one (show Kd.M (Kd.int .u8) _ _ _ 0 [.int .u8 0] from rfl) (Reps.one (show Kd.M (Kd.int .u8) _ _ _ 0 [.int .u8 0] from rfl) (Reps.one (show Kd.M (Kd.int .u8) _ _ _ 0 [.int .u8 0] from rfl) (Reps.one (show Kd.M (Kd.int .u8) _ _ _ 0 [.int .u8 0] from rfl) (Reps.one (show Kd.M (Kd.int .u8) _ _ _ 0 [.int .u8 0] from rfl) (Reps.none _ _))))))))))))); intro v121 w68 ho69 hb hg_ hnew_; clear hg_ hnew_; (first | rw [← Ny120.out] at ho69 | (simp only [Int.reduceToNat] at ho69; rw [← Ny120.out] at ho69)); have n0_ := Aside0.mk (Kd.R_elder' y2_ (Kd.R_base ho69) hb); have n1_ := Aside0.mk (Kd.R_below y4_ hb); have n2_ := Aside0.mk (Kd.R_elder' y5_ (Kd.R_base ho69) hb); have n3_ := Aside0.mk (Kd.R_below y8_ hb); have n4_ := Aside0.mk (Kd.R_elder' y9_ (Kd.R_base ho69) hb); have n5_ := Aside0.mk (Kd.R_lower (Kd.R_new' (Kd.R_new' (Kd.R_new' ho69 (Kd.R_lt y2_)) (Kd.R_lt y5_)) (Kd.R_lt y9_)) (below_size y1_)); have n6_ := Aside0.mk (below_step y1_ hb); clear HO104; clear HO107; clear HO111; clear HO115; clear HO118; clear HB; have HO104 := n0_; have HO107 := n1_; have HO111 := n2_; have HO115 := n3_; have HO118 := n4_; have HO122 := n5_; have HB := n6_; clear n0_ n1_ n2_ n3_ n4_ n5_ n6_; clear hb ho69; obtain ⟨Ao70, co70, eo70⟩ := Kd.R_slice HO122.out; subst eo70) | (go_at_call 14; (with_reducible refine (manometerref01_Equal.calls _ _ t108 _ _ y120 false _ ?side1 ?side2 ?side3 ?side4 A8.out).mono ?_); (case side1 => repeat (first | exact (Kd.R_reads' HO111.out).2.2 | (with_reducible refine Kd.C_alloc ?_ _) | (with_reducible refine Kd.C_drewN ?_ _) | (with_reducible refine Kd.C_drew ?_))); (case side2 => exact (Kd.R_reads' HO111.out).2.1); (case side3 => repeat (first | exact (Kd.R_reads' HO122.out).2.2 | (with_reducible refine Kd.C_alloc ?_ _) | (with_reducible refine Kd.C_drewN ?_ _) | (with_reducible refine Kd.C_drew ?_))); (case side4 => exact (Kd.R_reads' HO122.out).2.1); rintro e w' ⟨rfl, ⟨nd, rfl⟩⟩))
     go_ret
     exact ⟨y6_, y1_⟩
   ·rw [if_neg c7] at H
    have c7b0 : (t109 == 0) = false := beq_eq_false_iff_ne.mpr c7
    have c7b1 : (t109 != 0) = true := bne_iff_ne.mpr c7
    obtain rfl := Option.some.inj H
    go_enter Tryd.func11, Tryd.ntmps11
    go_wp2_with (first | ((with_reducible refine gate_callee (f := 12) rfl ?_); refine goesL_ (some 8) rfl rfl Tryd.func12 (by kernel_rfl) rfl #[.slice none 0 0] rfl y3_ ?_; (refine (xor_Put.calls _ _ ([] : List (S39)) t101 t102 _ ?side1 ?side2 ?side3 A1.out).mono ?_); (case side1 => exact ⟨Tab_below hT.out y1_⟩); (case side2 => exact Kd.C_nil _ _); (case side3 => exact Nat.le_refl _); rintro e w71 ⟨v103, rfl, ho0, hb⟩; refine ⟨_, rfl, ?_⟩; have n0_ := Aside0.mk (Kd.R_lower ho0 (below_size y1_)); have n1_ := Aside0.mk (below_step y1_ hb); clear HB; have HO104 := n0_; have HB := n1_; clear n0_ n1_; (try clear hb); (try clear hb2); (try clear hk); (try clear hi); (try clear ho0)) | ((with_reducible refine gate_dst (N := 13) rfl ?_); (try (refine gate_guard (by rfl) ?_; dsimp only)); refine Kd.R_lit k39 _ 39 ?hg (N := 13) ?hd (xs := ([(⟨0, 4607182418800017408⟩ : S39)] : List (S39))) (inner := [.int .i64 0, .int .u64 4607182418800017408]) (ok := fun _ => True) (okp := fun _ => True) ?hr ?hp (fun _ hk => hk) trivial (Below.refl _ _) (Nat.le_refl _) (by simp) ?_; (case hd => rfl); (case hg => rfl); (case hr => first | (go_simp; done) | (go_simp; rfl)); (case hp => exact (Reps.c2 (show Kd.M k39 _ _ _ (⟨0, 4607182418800017408⟩ : S39) [.int .i64 0, .int .u64 4607182418800017408] from (k39_mkM _ _ _ (⟨0, 4607182418800017408⟩ : S39) )) (Reps.none _ _))); intro v106 w72 ho73 hb hg_ hnew_; clear hg_ hnew_; (first | rw [← Ny105.out] at ho73 | (simp only [Int.reduceToNat] at ho73; rw [← Ny105.out] at ho73)); have n0_ := Aside0.mk (Kd.R_below y2_ hb); have n1_ := Aside0.mk (Kd.R_lower ho73 (below_size y1_)); have n2_ := Aside0.mk (below_step y1_ hb); clear HO104; clear HB; have HO104 := n0_; have HO107 := n1_; have HB := n2_; clear n0_ n1_ n2_; clear hb ho73; obtain ⟨Ao74, co74, eo74⟩ := Kd.R_slice HO107.out; subst eo74) | ((with_reducible refine gate_callee (f := 12) rfl ?_); refine goesL_ (some 14) rfl rfl Tryd.func12 (by kernel_rfl) rfl #[.slice Ao74 y105.length co74] rfl y3_ ?_; (with_reducible refine (xor_Put.calls _ _ y105 t108 t109 _ ?side1 ?side2 ?side3 A2.out).mono ?_); (case side1 => exact ⟨Tab_below hT.out y1_⟩); (case side2 => repeat (first | exact (Kd.R_reads' HO107.out).2.2 | (with_reducible refine Kd.C_alloc ?_ _) | (with_reducible refine Kd.C_drewN ?_ _) | (with_reducible refine Kd.C_drew ?_))); (case side3 => exact (Kd.R_reads' HO107.out).2.1); rintro e w75 ⟨v110, rfl, ho0, hb⟩; refine ⟨_, rfl, ?_⟩; have n0_ := Aside0.mk (Kd.R_elder' y2_ (Kd.R_base ho0) hb); have n1_ := Aside0.mk (Kd.R_below y4_ hb); have n2_ := Aside0.mk (Kd.R_lower (Kd.R_new' ho0 (Kd.R_lt y2_)) (below_size y1_)); have n3_ := Aside0.mk (below_step y1_ hb); clear HO104; clear HO107; clear HB; have HO104 := n0_; have HO107 := n1_; have HO111 := n2_; have HB := n3_; clear n0_ n1_ n2_ n3_; (try clear hb); (try clear hb2); (try clear hk); (try clear hi); (try clear ho0); obtain ⟨Ao76, co76, eo76⟩ := Kd.R_slice HO111.out; subst eo76) | ((with_reducible refine gate_callee (f := 16) rfl ?_); refine goesL_ (some 19) rfl rfl Tryd.func16 (by kernel_rfl) rfl #[.slice Ao76 t108.length co76] rfl y3_ ?_; (with_reducible refine (xor_Get.calls _ _ t108 t112 t113 _ ?side1 ?side2 ?side3 A3.out).mono ?_); (case side1 => exact ⟨Tab_below hT.out y1_⟩); (case side2 => repeat (first | exact (Kd.R_reads' HO111.out).2.2 | (with_reducible refine Kd.C_alloc ?_ _) | (with_reducible refine Kd.C_drewN ?_ _) | (with_reducible refine Kd.C_drew ?_))); (case side3 => exact (Kd.R_reads' HO111.out).2.1); rintro e w77 ⟨v114, rfl, ho0, hb⟩; refine ⟨_, rfl, ?_⟩; have n0_ := Aside0.mk (Kd.R_below y2_ hb); have n1_ := Aside0.mk (Kd.R_elder' y4_ (Kd.R_base ho0) hb); have n2_ := Aside0.mk (Kd.R_below y5_ hb); have n3_ := Aside0.mk (Kd.R_lower (Kd.R_new' ho0 (Kd.R_lt y4_)) (below_size y1_)); have n4_ := Aside0.mk (below_step y1_ hb); clear HO104; clear HO107; clear HO111; clear HB; have HO104 := n0_; have HO107 := n1_; have HO111 := n2_; have HO115 := n3_; have HB := n4_; clear n0_ n1_ n2_ n3_ n4_; (try clear hb); (try clear hb2); (try clear hk); (try clear hi); (try clear ho0)) | ((with_reducible refine gate_dst (N := 26) rfl ?_); (try (refine gate_guard (by rfl) ?_; dsimp only)); refine Kd.R_lit (Kd.int .u8) _ 5 ?hg (N := 26) ?hd (xs := ([0, 0] : List Int)) (inner := [.int .u8 0, .int .u8 0]) (ok := fun _ => True) (okp := fun _ => True) ?hr ?hp (fun _ hk => hk) trivial (Below.refl _ _) (Nat.le_refl _) (by simp) ?_; (case hd => rfl); (case hg => rfl); (case hr => first | (go_simp; done) | (go_simp; rfl)); (case hp => exact (Reps.one (show Kd.M (Kd.int .u8) _ _ _ 0 [.int .u8 0] from rfl) (Reps.one (show Kd.M (Kd.int .u8) _ _ _ 0 [.int .u8 0] from rfl) (Reps.none _ _)))); intro v117 w78 ho79 hb hg_ hnew_; clear hg_ hnew_; (first | rw [← Ny116.out] at ho79 | (simp only [Int.reduceToNat] at ho79; rw [← Ny116.out] at ho79)); have n0_ := Aside0.mk (Kd.R_elder' y2_ (Kd.R_base ho79) hb); have n1_ := Aside0.mk (Kd.R_below y4_ hb); have n2_ := Aside0.mk (Kd.R_elder' y5_ (Kd.R_base ho79) hb); have n3_ := Aside0.mk (Kd.R_below y8_ hb); have n4_ := Aside0.mk (Kd.R_lower (Kd.R_new' (Kd.R_new' ho79 (Kd.R_lt y2_)) (Kd.R_lt y5_)) (below_size y1_)); have n5_ := Aside0.mk (below_step y1_ hb); clear HO104; clear HO107; clear HO111; clear HO115; clear HB; have HO104 := n0_; have HO107 := n1_; have HO111 := n2_; have HO115 := n3_; have HO118 := n4_; have HB := n5_; clear n0_ n1_ n2_ n3_ n4_ n5_; clear hb ho79; obtain ⟨Ao80, co80, eo80⟩ := Kd.R_slice HO104.out; subst eo80; obtain ⟨Ao81, co81, eo81⟩ := Kd.R_slice HO118.out; subst eo81) | (go_at_call 14; (with_reducible refine (manometerref01_Equal.calls _ _ t101 _ _ y116 true _ ?side1 ?side2 ?side3 ?side4 A5.out).mono ?_); (case side1 => repeat (first | exact (Kd.R_reads' HO104.out).2.2 | (with_reducible refine Kd.C_alloc ?_ _) | (with_reducible refine Kd.C_drewN ?_ _) | (with_reducible refine Kd.C_drew ?_))); (case side2 => exact (Kd.R_reads' HO104.out).2.1); (case side3 => repeat (first | exact (Kd.R_reads' HO118.out).2.2 | (with_reducible refine Kd.C_alloc ?_ _) | (with_reducible refine Kd.C_drewN ?_ _) | (with_reducible refine Kd.C_drew ?_))); (case side4 => exact (Kd.R_reads' HO118.out).2.1); rintro e w' ⟨rfl, ⟨nd, rfl⟩⟩))
    go_ret
    exact ⟨y6_, y1_⟩
  ·replace c6 := Bool.eq_false_iff.mpr c6
   subst c6
   have H1 : (some false) = some r := by rw [if_neg (show ¬ (false = true) by decide)] at H; exact H
   clear H
   have H := H1
   clear H1
   obtain rfl := Option.some.inj H
   go_enter Tryd.func11, Tryd.ntmps11
   go_wp2_with (first | ((with_reducible refine gate_callee (f := 12) rfl ?_); refine goesL_ (some 8) rfl rfl Tryd.func12 (by kernel_rfl) rfl #[.slice none 0 0] rfl y3_ ?_; (refine (xor_Put.calls _ _ ([] : List (S39)) t101 t102 _ ?side1 ?side2 ?side3 A1.out).mono ?_); (case side1 => exact ⟨Tab_below hT.out y1_⟩); (case side2 => exact Kd.C_nil _ _); (case side3 => exact Nat.le_refl _); rintro e w82 ⟨v103, rfl, ho0, hb⟩; refine ⟨_, rfl, ?_⟩; have n0_ := Aside0.mk (Kd.R_lower ho0 (below_size y1_)); have n1_ := Aside0.mk (below_step y1_ hb); clear HB; have HO104 := n0_; have HB := n1_; clear n0_ n1_; (try clear hb); (try clear hb2); (try clear hk); (try clear hi); (try clear ho0)) | ((with_reducible refine gate_dst (N := 13) rfl ?_); (try (refine gate_guard (by rfl) ?_; dsimp only)); refine Kd.R_lit k39 _ 39 ?hg (N := 13) ?hd (xs := ([(⟨0, 4607182418800017408⟩ : S39)] : List (S39))) (inner := [.int .i64 0, .int .u64 4607182418800017408]) (ok := fun _ => True) (okp := fun _ => True) ?hr ?hp (fun _ hk => hk) trivial (Below.refl _ _) (Nat.le_refl _) (by simp) ?_; (case hd => rfl); (case hg => rfl); (case hr => first | (go_simp; done) | (go_simp; rfl)); (case hp => exact (Reps.c2 (show Kd.M k39 _ _ _ (⟨0, 4607182418800017408⟩ : S39) [.int .i64 0, .int .u64 4607182418800017408] from (k39_mkM _ _ _ (⟨0, 4607182418800017408⟩ : S39) )) (Reps.none _ _))); intro v106 w83 ho84 hb hg_ hnew_; clear hg_ hnew_; (first | rw [← Ny105.out] at ho84 | (simp only [Int.reduceToNat] at ho84; rw [← Ny105.out] at ho84)); have n0_ := Aside0.mk (Kd.R_below y2_ hb); have n1_ := Aside0.mk (Kd.R_lower ho84 (below_size y1_)); have n2_ := Aside0.mk (below_step y1_ hb); clear HO104; clear HB; have HO104 := n0_; have HO107 := n1_; have HB := n2_; clear n0_ n1_ n2_; clear hb ho84; obtain ⟨Ao85, co85, eo85⟩ := Kd.R_slice HO107.out; subst eo85) | ((with_reducible refine gate_callee (f := 12) rfl ?_); refine goesL_ (some 14) rfl rfl Tryd.func12 (by kernel_rfl) rfl #[.slice Ao85 y105.length co85] rfl y3_ ?_; (with_reducible refine (xor_Put.calls _ _ y105 t108 t109 _ ?side1 ?side2 ?side3 A2.out).mono ?_); (case side1 => exact ⟨Tab_below hT.out y1_⟩); (case side2 => repeat (first | exact (Kd.R_reads' HO107.out).2.2 | (with_reducible refine Kd.C_alloc ?_ _) | (with_reducible refine Kd.C_drewN ?_ _) | (with_reducible refine Kd.C_drew ?_))); (case side3 => exact (Kd.R_reads' HO107.out).2.1); rintro e w86 ⟨v110, rfl, ho0, hb⟩; refine ⟨_, rfl, ?_⟩; have n0_ := Aside0.mk (Kd.R_elder' y2_ (Kd.R_base ho0) hb); have n1_ := Aside0.mk (Kd.R_below y4_ hb); have n2_ := Aside0.mk (Kd.R_lower (Kd.R_new' ho0 (Kd.R_lt y2_)) (below_size y1_)); have n3_ := Aside0.mk (below_step y1_ hb); clear HO104; clear HO107; clear HB; have HO104 := n0_; have HO107 := n1_; have HO111 := n2_; have HB := n3_; clear n0_ n1_ n2_ n3_; (try clear hb); (try clear hb2); (try clear hk); (try clear hi); (try clear ho0); obtain ⟨Ao87, co87, eo87⟩ := Kd.R_slice HO111.out; subst eo87) | ((with_reducible refine gate_callee (f := 16) rfl ?_); refine goesL_ (some 19) rfl rfl Tryd.func16 (by kernel_rfl) rfl #[.slice Ao87 t108.length co87] rfl y3_ ?_; (with_reducible refine (xor_Get.calls _ _ t108 t112 t113 _ ?side1 ?side2 ?side3 A3.out).mono ?_); (case side1 => exact ⟨Tab_below hT.out y1_⟩); (case side2 => repeat (first | exact (Kd.R_reads' HO111.out).2.2 | (with_reducible refine Kd.C_alloc ?_ _) | (with_reducible refine Kd.C_drewN ?_ _) | (with_reducible refine Kd.C_drew ?_))); (case side3 => exact (Kd.R_reads' HO111.out).2.1); rintro e w88 ⟨v114, rfl, ho0, hb⟩; refine ⟨_, rfl, ?_⟩; have n0_ := Aside0.mk (Kd.R_below y2_ hb); have n1_ := Aside0.mk (Kd.R_elder' y4_ (Kd.R_base ho0) hb); have n2_ := Aside0.mk (Kd.R_below y5_ hb); have n3_ := Aside0.mk (Kd.R_lower (Kd.R_new' ho0 (Kd.R_lt y4_)) (below_size y1_)); have n4_ := Aside0.mk (below_step y1_ hb); clear HO104; clear HO107; clear HO111; clear HB; have HO104 := n0_; have HO107 := n1_; have HO111 := n2_; have HO115 := n3_; have HB := n4_; clear n0_ n1_ n2_ n3_ n4_; (try clear hb); (try clear hb2); (try clear hk); (try clear hi); (try clear ho0)) | ((with_reducible refine gate_dst (N := 26) rfl ?_); (try (refine gate_guard (by rfl) ?_; dsimp only)); refine Kd.R_lit (Kd.int .u8) _ 5 ?hg (N := 26) ?hd (xs := ([0, 0] : List Int)) (inner := [.int .u8 0, .int .u8 0]) (ok := fun _ => True) (okp := fun _ => True) ?hr ?hp (fun _ hk => hk) trivial (Below.refl _ _) (Nat.le_refl _) (by simp) ?_; (case hd => rfl); (case hg => rfl); (case hr => first | (go_simp; done) | (go_simp; rfl)); (case hp => exact (Reps.one (show Kd.M (Kd.int .u8) _ _ _ 0 [.int .u8 0] from rfl) (Reps.one (show Kd.M (Kd.int .u8) _ _ _ 0 [.int .u8 0] from rfl) (Reps.none _ _)))); intro v117 w89 ho90 hb hg_ hnew_; clear hg_ hnew_; (first | rw [← Ny116.out] at ho90 | (simp only [Int.reduceToNat] at ho90; rw [← Ny116.out] at ho90)); have n0_ := Aside0.mk (Kd.R_elder' y2_ (Kd.R_base ho90) hb); have n1_ := Aside0.mk (Kd.R_below y4_ hb); have n2_ := Aside0.mk (Kd.R_elder' y5_ (Kd.R_base ho90) hb); have n3_ := Aside0.mk (Kd.R_below y8_ hb); have n4_ := Aside0.mk (Kd.R_lower (Kd.R_new' (Kd.R_new' ho90 (Kd.R_lt y2_)) (Kd.R_lt y5_)) (below_size y1_)); have n5_ := Aside0.mk (below_step y1_ hb); clear HO104; clear HO107; clear HO111; clear HO115; clear HB; have HO104 := n0_; have HO107 := n1_; have HO111 := n2_; have HO115 := n3_; have HO118 := n4_; have HB := n5_; clear n0_ n1_ n2_ n3_ n4_ n5_; clear hb ho90; obtain ⟨Ao91, co91, eo91⟩ := Kd.R_slice HO104.out; subst eo91; obtain ⟨Ao92, co92, eo92⟩ := Kd.R_slice HO118.out; subst eo92) | (go_at_call 14; (with_reducible refine (manometerref01_Equal.calls _ _ t101 _ _ y116 false _ ?side1 ?side2 ?side3 ?side4 A5.out).mono ?_); (case side1 => repeat (first | exact (Kd.R_reads' HO104.out).2.2 | (with_reducible refine Kd.C_alloc ?_ _) | (with_reducible refine Kd.C_drewN ?_ _) | (with_reducible refine Kd.C_drew ?_))); (case side2 => exact (Kd.R_reads' HO104.out).2.1); (case side3 => repeat (first | exact (Kd.R_reads' HO118.out).2.2 | (with_reducible refine Kd.C_alloc ?_ _) | (with_reducible refine Kd.C_drewN ?_ _) | (with_reducible refine Kd.C_drew ?_))); (case side4 => exact (Kd.R_reads' HO118.out).2.1); rintro e w' ⟨rfl, ⟨nd, rfl⟩⟩))
   go_ret
   exact ⟨y6_, y1_⟩
 ·rw [if_neg c4] at H
  have c4b0 : (t102 == 0) = false := beq_eq_false_iff_ne.mpr c4
  have c4b1 : (t102 != 0) = true := bne_iff_ne.mpr c4
  obtain rfl := Option.some.inj H
  go_enter Tryd.func11, Tryd.ntmps11
  go_wp2_with (first | ((with_reducible refine gate_callee (f := 12) rfl ?_); refine goesL_ (some 8) rfl rfl Tryd.func12 (by kernel_rfl) rfl #[.slice none 0 0] rfl y3_ ?_; (refine (xor_Put.calls _ _ ([] : List (S39)) t101 t102 _ ?side1 ?side2 ?side3 A1.out).mono ?_); (case side1 => exact ⟨Tab_below hT.out y1_⟩); (case side2 => exact Kd.C_nil _ _); (case side3 => exact Nat.le_refl _); rintro e w93 ⟨v103, rfl, ho0, hb⟩; refine ⟨_, rfl, ?_⟩; have n0_ := Aside0.mk (Kd.R_lower ho0 (below_size y1_)); have n1_ := Aside0.mk (below_step y1_ hb); clear HB; have HO104 := n0_; have HB := n1_; clear n0_ n1_; (try clear hb); (try clear hb2); (try clear hk); (try clear hi); (try clear ho0)) | ((with_reducible refine gate_dst (N := 13) rfl ?_); (try (refine gate_guard (by rfl) ?_; dsimp only)); refine Kd.R_lit k39 _ 39 ?hg (N := 13) ?hd (xs := ([(⟨0, 4607182418800017408⟩ : S39)] : List (S39))) (inner := [.int .i64 0, .int .u64 4607182418800017408]) (ok := fun _ => True) (okp := fun _ => True) ?hr ?hp (fun _ hk => hk) trivial (Below.refl _ _) (Nat.le_refl _) (by simp) ?_; (case hd => rfl); (case hg => rfl); (case hr => first | (go_simp; done) | (go_simp; rfl)); (case hp => exact (Reps.c2 (show Kd.M k39 _ _ _ (⟨0, 4607182418800017408⟩ : S39) [.int .i64 0, .int .u64 4607182418800017408] from (k39_mkM _ _ _ (⟨0, 4607182418800017408⟩ : S39) )) (Reps.none _ _))); intro v106 w94 ho95 hb hg_ hnew_; clear hg_ hnew_; (first | rw [← Ny105.out] at ho95 | (simp only [Int.reduceToNat] at ho95; rw [← Ny105.out] at ho95)); have n0_ := Aside0.mk (Kd.R_below y2_ hb); have n1_ := Aside0.mk (Kd.R_lower ho95 (below_size y1_)); have n2_ := Aside0.mk (below_step y1_ hb); clear HO104; clear HB; have HO104 := n0_; have HO107 := n1_; have HB := n2_; clear n0_ n1_ n2_; clear hb ho95; obtain ⟨Ao96, co96, eo96⟩ := Kd.R_slice HO107.out; subst eo96) | ((with_reducible refine gate_callee (f := 12) rfl ?_); refine goesL_ (some 14) rfl rfl Tryd.func12 (by kernel_rfl) rfl #[.slice Ao96 y105.length co96] rfl y3_ ?_; (with_reducible refine (xor_Put.calls _ _ y105 t108 t109 _ ?side1 ?side2 ?side3 A2.out).mono ?_); (case side1 => exact ⟨Tab_below hT.out y1_⟩); (case side2 => repeat (first | exact (Kd.R_reads' HO107.out).2.2 | (with_reducible refine Kd.C_alloc ?_ _) | (with_reducible refine Kd.C_drewN ?_ _) | (with_reducible refine Kd.C_drew ?_))); (case side3 => exact (Kd.R_reads' HO107.out).2.1); rintro e w97 ⟨v110, rfl, ho0, hb⟩; refine ⟨_, rfl, ?_⟩; have n0_ := Aside0.mk (Kd.R_elder' y2_ (Kd.R_base ho0) hb); have n1_ := Aside0.mk (Kd.R_below y4_ hb); have n2_ := Aside0.mk (Kd.R_lower (Kd.R_new' ho0 (Kd.R_lt y2_)) (below_size y1_)); have n3_ := Aside0.mk (below_step y1_ hb); clear HO104; clear HO107; clear HB; have HO104 := n0_; have HO107 := n1_; have HO111 := n2_; have HB := n3_; clear n0_ n1_ n2_ n3_; (try clear hb); (try clear hb2); (try clear hk); (try clear hi); (try clear ho0); obtain ⟨Ao98, co98, eo98⟩ := Kd.R_slice HO111.out; subst eo98) | ((with_reducible refine gate_callee (f := 16) rfl ?_); refine goesL_ (some 19) rfl rfl Tryd.func16 (by kernel_rfl) rfl #[.slice Ao98 t108.length co98] rfl y3_ ?_; (with_reducible refine (xor_Get.calls _ _ t108 t112 t113 _ ?side1 ?side2 ?side3 A3.out).mono ?_); (case side1 => exact ⟨Tab_below hT.out y1_⟩); (case side2 => repeat (first | exact (Kd.R_reads' HO111.out).2.2 | (with_reducible refine Kd.C_alloc ?_ _) | (with_reducible refine Kd.C_drewN ?_ _) | (with_reducible refine Kd.C_drew ?_))); (case side3 => exact (Kd.R_reads' HO111.out).2.1); rintro e w99 ⟨v114, rfl, ho0, hb⟩; refine ⟨_, rfl, ?_⟩; have n0_ := Aside0.mk (Kd.R_below y2_ hb); have n1_ := Aside0.mk (Kd.R_elder' y4_ (Kd.R_base ho0) hb); have n2_ := Aside0.mk (Kd.R_below y5_ hb); have n3_ := Aside0.mk (Kd.R_lower (Kd.R_new' ho0 (Kd.R_lt y4_)) (below_size y1_)); have n4_ := Aside0.mk (below_step y1_ hb); clear HO104; clear HO107; clear HO111; clear HB; have HO104 := n0_; have HO107 := n1_; have HO111 := n2_; have HO115 := n3_; have HB := n4_; clear n0_ n1_ n2_ n3_ n4_; (try clear hb); (try clear hb2); (try clear hk); (try clear hi); (try clear ho0)))
  go_ret
  exact ⟨y6_, y1_⟩
def manometerlaw08_same.l0 : Nat → List (S39) → List (S39) → Int → Int → Option (Bool)
 | 0, _, _, _, _ => none
 | k + 1, x0, x1, x12, x13 => if x13 < x12 then (if 0 ≤ x13 then (if x13 < (x0.length : Int) then (if x13 < (x1.length : Int) then (if (!(((rd_T39 x0 x13).f0) == ((rd_T39 x1 x13).f0)) || (!(((rd_T39 x0 x13).f1) == ((rd_T39 x1 x13).f1)))) = true then (some false) else (manometerlaw08_same.l0 k x0 x1 x12 (wrap64 (x13 + 1)))) else (none)) else (none)) else (none)) else (some true)
def manometerlaw08_same.f (k : Nat) (l0 : List (S39)) (l1 : List (S39)) : Option (Bool) := if (l0.length : Int) = (l1.length : Int) then (manometerlaw08_same.l0 k l0 l1 (l0.length : Int) 0) else (some false)
set_option maxHeartbeats 8000000 in
set_option maxRecDepth 100000 in
theorem manometerlaw08_same.calls (k : Nat) (A0 : Option Addr) (c0 : Nat) (l0 : List (S39)) (A1 : Option Addr) (c1 : Nat) (l1 : List (S39)) (r : Bool) (w : World) (hr0 : Kd.C k39 w A0 l0.length l0) (hc0 : l0.length ≤ c0) (hr1 : Kd.C k39 w A1 l1.length l1) (hc1 : l1.length ≤ c1) (h : manometerlaw08_same.f k l0 l1 = some r) :
  Calls Tryd.prog 18 #[.slice A0 l0.length c0, .slice A1 l1.length c1] w fun e w' => e = .returned (.bool r) ∧ Drawn0 w w' := by
 have hu39 := Tryd.underlying39
 have HR0 := Aside0.mk hr0
 have HC0 := Aside0.mk hc0
 clear hr0 hc0
 have HR1 := Aside0.mk hr1
 have HC1 := Aside0.mk hc1
 clear hr1 hc1
 have H : (if (l0.length : Int) = (l1.length : Int) then (manometerlaw08_same.l0 k l0 l1 (l0.length : Int) 0) else (some false)) = some r := h
 clear h
 by_cases c3 : (l0.length : Int) = (l1.length : Int)
 ·rw [if_pos c3] at H
  have c3b0 : ((l0.length : Int) == (l1.length : Int)) = true := beq_iff_eq.mpr c3
  have c3b1 : ((l0.length : Int) != (l1.length : Int)) = false := bne_eq_false_iff_eq.mpr c3
  have c3b2 : (l0.length == l1.length) = true := by first | simpa using c3 | (simp at c3 ⊢; omega)
  clear c3
  have H' := Aside0.mk H
  clear H
  go_enter Tryd.func18, Tryd.ntmps18
  go_wp2
  repeat (go_quiet (fail); try go_wp2)
  go_loopg [13] k (fun kq v13 w' => ∃ (x13_1 : Int), v13 = .int .i64 x13_1 ∧ Aside0 (manometerlaw08_same.l0 kq l0 l1 (l0.length : Int) x13_1 = some r) ∧ Aside0 (kq ≤ k) ∧ Drawn0 w w')
  case atStart => exact ⟨(0), y7_, H', ⟨Nat.le_refl _⟩, y11_⟩
  case round =>
   clear H'
   try clear c1
   try clear p2
   try clear c3
   try clear c3b0
   try clear c3b1
   try clear c3b2
   obtain ⟨x13_1, rfl, HA, HK1, ⟨m1, rfl⟩⟩ := hrel
   cases gk with
   | zero => exact absurd HA.out (by simp [manometerlaw08_same.l0])
   | succ k1 =>
    have H := HA.out
    clear HA
    simp only [manometerlaw08_same.l0] at H
    by_cases c4 : x13_1 < (l0.length : Int)
    ·rw [if_pos c4] at H
     have c4b0 : decide (x13_1 < (l0.length : Int)) = true := decide_eq_true c4
     clear c4
     by_cases c5 : 0 ≤ x13_1
     ·rw [if_pos c5] at H
      have c5b0 : decide (0 ≤ x13_1) = true := decide_eq_true c5
      clear c5
      by_cases c6 : x13_1 < (l0.length : Int)
      ·rw [if_pos c6] at H
       have c6b0 : decide (x13_1 < (l0.length : Int)) = true := decide_eq_true c6
       clear c6
       by_cases c7 : x13_1 < (l1.length : Int)
       ·rw [if_pos c7] at H
        have c7b0 : decide (x13_1 < (l1.length : Int)) = true := decide_eq_true c7
        clear c7
        by_cases c8 : (!(((rd_T39 l0 x13_1).f0) == ((rd_T39 l1 x13_1).f0)) || (!(((rd_T39 l0 x13_1).f1) == ((rd_T39 l1 x13_1).f1)))) = true
        ·rw [if_pos c8] at H
         have c8b0 : (!(((rd_T39 l0 x13_1).f0) == ((rd_T39 l1 x13_1).f0)) || (!(((rd_T39 l0 x13_1).f1) == ((rd_T39 l1 x13_1).f1)))) = true := c8
         clear c8
         obtain rfl := Option.some.inj H
         have p136 : 0 ≤ (x13_1 : Int) := of_decide_eq_true y10_
         have q136 : x13_1 < (l0.length : Int) := of_decide_eq_true y10_
         obtain ⟨ad136, e136, hx136_0, hx136_1⟩ := at_T39 HR0.out x13_1 p136 q136
         cases e136
         replace p136 := eq_true p136
         replace q136 := eq_true q136
         have p137 : 0 ≤ (x13_1 : Int) := of_decide_eq_true y10_
         have q137 : x13_1 < (l1.length : Int) := of_decide_eq_true y10_
         obtain ⟨ad137, e137, hx137_0, hx137_1⟩ := at_T39 HR1.out x13_1 p137 q137
         cases e137
         replace p137 := eq_true p137
         replace q137 := eq_true q137
         go_wp2
         repeat (go_quiet (fail); try go_wp2)
         go_ret
         exact ⟨by first | rfl | (simp; done) | (simp [*]; done), y11_⟩
        ·rw [if_neg c8] at H
         have c8b0 : (!(((rd_T39 l0 x13_1).f0) == ((rd_T39 l1 x13_1).f0)) || (!(((rd_T39 l0 x13_1).f1) == ((rd_T39 l1 x13_1).f1)))) = false := by simpa using c8
         clear c8
         have H' := Aside0.mk H
         clear H
         have p136 : 0 ≤ (x13_1 : Int) := of_decide_eq_true y10_
         have q136 : x13_1 < (l0.length : Int) := of_decide_eq_true y10_
         obtain ⟨ad136, e136, hx136_0, hx136_1⟩ := at_T39 HR0.out x13_1 p136 q136
         cases e136
         replace p136 := eq_true p136
         replace q136 := eq_true q136
         have p137 : 0 ≤ (x13_1 : Int) := of_decide_eq_true y10_
         have q137 : x13_1 < (l1.length : Int) := of_decide_eq_true y10_
         obtain ⟨ad137, e137, hx137_0, hx137_1⟩ := at_T39 HR1.out x13_1 p137 q137
         cases e137
         replace p137 := eq_true p137
         replace q137 := eq_true q137
         go_wp2
         repeat (go_quiet (fail); try go_wp2)
         go_roundg k1
         case measure => have := HK1.out; omega
         case rel => exact ⟨(wrap64 (x13_1 + 1)), y7_, H', ⟨by have := HK1.out; omega⟩, y11_⟩
       ·rw [if_neg c7] at H
        exact absurd H (by simp)
      ·rw [if_neg c6] at H
       exact absurd H (by simp)
     ·rw [if_neg c5] at H
      exact absurd H (by simp)
    ·rw [if_neg c4] at H
     have c4b0 : decide (x13_1 < (l0.length : Int)) = false := decide_eq_false c4
     clear c4
     obtain rfl := Option.some.inj H
     go_wp2
     repeat (go_quiet (fail); try go_wp2)
     go_ret
     exact ⟨by first | rfl | (simp; done) | (simp [*]; done), y11_⟩
 ·rw [if_neg c3] at H
  have c3b0 : ((l0.length : Int) == (l1.length : Int)) = false := beq_eq_false_iff_ne.mpr c3
  have c3b1 : ((l0.length : Int) != (l1.length : Int)) = true := bne_iff_ne.mpr c3
  have c3b2 : (l0.length == l1.length) = false := by first | simpa using c3 | (simp at c3 ⊢; omega)
  obtain rfl := Option.some.inj H
  go_enter Tryd.func18, Tryd.ntmps18
  go_wp2
  repeat (go_quiet (fail); try go_wp2)
  go_ret
  exact ⟨by first | rfl | (simp; done) | (simp [*]; done), y11_⟩
mutual
def manometerlaw08_XorBack.j0 : Nat → List (S39) → List Int → Bool → Option (Bool)
 | 0, _, _, _ => none
 | k + 1, x0, x1, x24 => if x24 = true then ((manometerlaw08_live.f).bind fun t139 => (some t139)) else ((xor_Put.f x0).bind fun bt140 => ((xor_Get.f bt140.1).bind fun bt144 => (if bt140.2 = 0 then (if bt144.2 = 0 then ((manometerlaw08_same.f k bt144.1 x0).bind fun t148 => (manometerlaw08_XorBack.j1 k x1 (!t148))) else (manometerlaw08_XorBack.j1 k x1 true)) else (manometerlaw08_XorBack.j1 k x1 true))))
def manometerlaw08_XorBack.j1 : Nat → List Int → Bool → Option (Bool)
 | 0, _, _ => none
 | k + 1, x1, x47 => if x47 = true then (some false) else ((xor_Get.f x1).bind fun bt149 => (if bt149.2 = 0 then ((xor_Put.f bt149.1).bind fun bt153 => (if bt153.2 = 0 then ((manometerref01_Equal.f bt153.1 x1).bind fun t157 => (some t157)) else (some false))) else (some ((bt149.1.length : Int) == 0))))
end
def manometerlaw08_XorBack.f (k : Nat) (l0 : List (S39)) (l1 : List Int) : Option (Bool) := (manometerlaw08_live.f).bind fun t138 => (if t138 = true then (if (l0.length : Int) > 200 then (manometerlaw08_XorBack.j0 k l0 l1 true) else (manometerlaw08_XorBack.j0 k l0 l1 (decide ((l1.length : Int) > 3000)))) else (manometerlaw08_XorBack.j0 k l0 l1 true))
set_option maxHeartbeats 8000000 in
set_option maxRecDepth 100000 in
theorem manometerlaw08_XorBack.calls (k : Nat) (A0 : Option Addr) (c0 : Nat) (l0 : List (S39)) (A1 : Option Addr) (c1 : Nat) (l1 : List Int) (r : Bool) (w : World) (hT : Aside0 (Tab w)) (hr0 : Kd.C k39 w A0 l0.length l0) (hc0 : l0.length ≤ c0) (hr1 : Kd.C (Kd.int .u8) w A1 l1.length l1) (hc1 : l1.length ≤ c1) (h : manometerlaw08_XorBack.f k l0 l1 = some r) :
  Calls Tryd.prog 5 #[.slice A0 l0.length c0, .slice A1 l1.length c1] w fun e w' => e = .returned (.bool r) ∧ Below w.heap.size w w' := by
 have HR0 := Aside0.mk hr0
 have HC0 := Aside0.mk hc0
 clear hr0 hc0
 have HR1 := Aside0.mk hr1
 have HC1 := Aside0.mk hc1
 clear hr1 hc1
 have HB := Aside0.mk (Below.refl w.heap.size w)
 have H : ((manometerlaw08_live.f).bind fun t138 => (if t138 = true then (if (l0.length : Int) > 200 then (manometerlaw08_XorBack.j0 k l0 l1 true) else (manometerlaw08_XorBack.j0 k l0 l1 (decide ((l1.length : Int) > 3000)))) else (manometerlaw08_XorBack.j0 k l0 l1 true))) = some r := h
 clear h
 have HC3 := Aside0.mk H
 clear H
 go_enter Tryd.func5, Tryd.ntmps5
 go_upto_region 1 with (fail)
 go_cut [24] (fun v24 wc => ∃ (kq : Nat) (x24_2 : Bool), v24 = .bool x24_2 ∧ Aside0 (manometerlaw08_XorBack.j0 kq l0 l1 x24_2 = some r) ∧ Aside0 (kq ≤ k) ∧ Aside0 (Below w.heap.size w wc))
 case first =>
  have H := HC3.out
  clear HC3
  replace H := Option.bind_eq_some_iff.mp H
  obtain ⟨t138, A40, H⟩ := H
  replace H : (if t138 = true then (if (l0.length : Int) > 200 then (manometerlaw08_XorBack.j0 k l0 l1 true) else (manometerlaw08_XorBack.j0 k l0 l1 (decide ((l1.length : Int) > 3000)))) else (manometerlaw08_XorBack.j0 k l0 l1 true)) = some r := H
  have A4 := Aside0.mk A40
  clear A40
  by_cases c5 : t138 = true
  ·subst c5
   have H1 : (if (l0.length : Int) > 200 then (manometerlaw08_XorBack.j0 k l0 l1 true) else (manometerlaw08_XorBack.j0 k l0 l1 (decide ((l1.length : Int) > 3000)))) = some r := by rw [if_pos rfl] at H; exact H
   clear H
   have H := H1
   clear H1
   by_cases c6 : (l0.length : Int) > 200
   ·rw [if_pos c6] at H
    have c6b0 : decide (200 < (l0.length : Int)) = true := decide_eq_true c6
    have c6b1 : decide (200 < l0.length) = true := decide_eq_true (by omega)
    clear c6
    (first | rw [c6b0] | (simp only [i64_w, i32_w]; rw [c6b0]) | skip)
    have H' := Aside0.mk H
    clear H
    go_wp2_with (first | ((with_reducible refine gate_callee (f := 11) rfl ?_); refine goesL_ (some 13) rfl rfl Tryd.func11 (by kernel_rfl) rfl #[] rfl y3_ ?_; (with_reducible refine (manometerlaw08_live.calls  true _ ?side1 A4.out).mono ?_); (case side1 => exact ⟨Tab_below hT.out y1_⟩); rintro e w7 ⟨rfl, hb⟩; refine ⟨_, rfl, ?_⟩; have n0_ := Aside0.mk (below_step y1_ hb); clear HB; have HB := n0_; clear n0_; (try clear hb); (try clear hb2); (try clear hk); (try clear hi)))
    go_meet
    case rel => exact ⟨_, (true), y7_, H', ⟨by first | omega | exact Nat.le_refl _⟩, ⟨y1_⟩⟩
   ·rw [if_neg c6] at H
    have c6b0 : decide (200 < (l0.length : Int)) = false := decide_eq_false c6
    have c6b1 : decide (200 < l0.length) = false := decide_eq_false (by omega)
    clear c6
    (first | rw [c6b0] | (simp only [i64_w, i32_w]; rw [c6b0]) | skip)
    have H' := Aside0.mk H
    clear H
    go_wp2_with (first | ((with_reducible refine gate_callee (f := 11) rfl ?_); refine goesL_ (some 13) rfl rfl Tryd.func11 (by kernel_rfl) rfl #[] rfl y3_ ?_; (with_reducible refine (manometerlaw08_live.calls  true _ ?side1 A4.out).mono ?_); (case side1 => exact ⟨Tab_below hT.out y1_⟩); rintro e w8 ⟨rfl, hb⟩; refine ⟨_, rfl, ?_⟩; have n0_ := Aside0.mk (below_step y1_ hb); clear HB; have HB := n0_; clear n0_; (try clear hb); (try clear hb2); (try clear hk); (try clear hi)))
    go_meet
    case rel => exact ⟨_, (decide ((l1.length : Int) > 3000)), y7_, H', ⟨by first | omega | exact Nat.le_refl _⟩, ⟨y1_⟩⟩
  ·replace c5 := Bool.eq_false_iff.mpr c5
   subst c5
   have H1 : (manometerlaw08_XorBack.j0 k l0 l1 true) = some r := by rw [if_neg (show ¬ (false = true) by decide)] at H; exact H
   clear H
   have H := H1
   clear H1
   have H' := Aside0.mk H
   clear H
   go_wp2_with (first | ((with_reducible refine gate_callee (f := 11) rfl ?_); refine goesL_ (some 13) rfl rfl Tryd.func11 (by kernel_rfl) rfl #[] rfl y3_ ?_; (with_reducible refine (manometerlaw08_live.calls  false _ ?side1 A4.out).mono ?_); (case side1 => exact ⟨Tab_below hT.out y1_⟩); rintro e w9 ⟨rfl, hb⟩; refine ⟨_, rfl, ?_⟩; have n0_ := Aside0.mk (below_step y1_ hb); clear HB; have HB := n0_; clear n0_; (try clear hb); (try clear hb2); (try clear hk); (try clear hi)))
   go_meet
   case rel => exact ⟨_, (true), y7_, H', ⟨by first | omega | exact Nat.le_refl _⟩, ⟨y1_⟩⟩
 case rest =>
  clear HC3
  try clear c1
  try clear p2
  try clear c5
  try clear c6
  try clear c6b0
  try clear c6b1
  obtain ⟨kq, x24_2, rfl, HA, HJ2, HB⟩ := hcut
  cases kq with
  | zero => exact absurd HA.out (by simp [manometerlaw08_XorBack.j0])
  | succ kj2 =>
   have H := HA.out
   clear HA
   simp only [manometerlaw08_XorBack.j0] at H
   by_cases c10 : x24_2 = true
   ·subst c10
    have H1 : ((manometerlaw08_live.f).bind fun t139 => (some t139)) = some r := by rw [if_pos rfl] at H; exact H
    clear H
    have H := H1
    clear H1
    replace H := Option.bind_eq_some_iff.mp H
    obtain ⟨t139, A110, H⟩ := H
    replace H : (some t139) = some r := H
    have A11 := Aside0.mk A110
    clear A110
    obtain rfl := Option.some.inj H
    go_wp2_with (first | ((with_reducible refine gate_callee (f := 11) rfl ?_); refine goesL_ (some 25) rfl rfl Tryd.func11 (by kernel_rfl) rfl #[] rfl y3_ ?_; (with_reducible refine (manometerlaw08_live.calls  t139 _ ?side1 A11.out).mono ?_); (case side1 => exact ⟨Tab_below hT.out y1_⟩); rintro e w12 ⟨rfl, hb⟩; refine ⟨_, rfl, ?_⟩; have n0_ := Aside0.mk (below_step y1_ hb); clear HB; have HB := n0_; clear n0_; (try clear hb); (try clear hb2); (try clear hk); (try clear hi)))
    go_ret
    exact ⟨y6_, y1_⟩
   ·replace c10 := Bool.eq_false_iff.mpr c10
    subst c10
    have H1 : ((xor_Put.f l0).bind fun bt140 => ((xor_Get.f bt140.1).bind fun bt144 => (if bt140.2 = 0 then (if bt144.2 = 0 then ((manometerlaw08_same.f kj2 bt144.1 l0).bind fun t148 => (manometerlaw08_XorBack.j1 kj2 l1 (!t148))) else (manometerlaw08_XorBack.j1 kj2 l1 true)) else (manometerlaw08_XorBack.j1 kj2 l1 true)))) = some r := by rw [if_neg (show ¬ (false = true) by decide)] at H; exact H
    clear H
    have H := H1
    clear H1
    replace H := Option.bind_eq_some_iff.mp H
    obtain ⟨⟨t140, t141⟩, A130, H⟩ := H
    replace H : ((xor_Get.f t140).bind fun bt144 => (if t141 = 0 then (if bt144.2 = 0 then ((manometerlaw08_same.f kj2 bt144.1 l0).bind fun t148 => (manometerlaw08_XorBack.j1 kj2 l1 (!t148))) else (manometerlaw08_XorBack.j1 kj2 l1 true)) else (manometerlaw08_XorBack.j1 kj2 l1 true))) = some r := H
    have A13 := Aside0.mk A130
    clear A130
    replace H := Option.bind_eq_some_iff.mp H
    obtain ⟨⟨t144, t145⟩, A140, H⟩ := H
    replace H : (if t141 = 0 then (if t145 = 0 then ((manometerlaw08_same.f kj2 t144 l0).bind fun t148 => (manometerlaw08_XorBack.j1 kj2 l1 (!t148))) else (manometerlaw08_XorBack.j1 kj2 l1 true)) else (manometerlaw08_XorBack.j1 kj2 l1 true)) = some r := H
    have A14 := Aside0.mk A140
    clear A140
    have HC15 := Aside0.mk H
    clear H
    go_upto_region 5 with (first | ((with_reducible refine gate_callee (f := 12) rfl ?_); refine goesL_ (some 28) rfl rfl Tryd.func12 (by kernel_rfl) rfl #[.slice A0 l0.length c0] rfl y3_ ?_; (with_reducible refine (xor_Put.calls _ _ l0 t140 t141 _ ?side1 ?side2 ?side3 A13.out).mono ?_); (case side1 => exact ⟨Tab_below hT.out y1_⟩); (case side2 => repeat (first | exact (Kd.C_below HR0.out HB.out) | (with_reducible refine Kd.C_alloc ?_ _) | (with_reducible refine Kd.C_drewN ?_ _) | (with_reducible refine Kd.C_drew ?_))); (case side3 => exact HC0.out); rintro e w16 ⟨v142, rfl, ho0, hb⟩; refine ⟨_, rfl, ?_⟩; have n0_ := Aside0.mk (Kd.R_lower ho0 (below_size y1_)); have n1_ := Aside0.mk (below_step y1_ hb); clear HB; have HO143 := n0_; have HB := n1_; clear n0_ n1_; (try clear hb); (try clear hb2); (try clear hk); (try clear hi); (try clear ho0); obtain ⟨Ao17, co17, eo17⟩ := Kd.R_slice HO143.out; subst eo17) | ((with_reducible refine gate_callee (f := 16) rfl ?_); refine goesL_ (some 33) rfl rfl Tryd.func16 (by kernel_rfl) rfl #[.slice Ao17 t140.length co17] rfl y3_ ?_; (with_reducible refine (xor_Get.calls _ _ t140 t144 t145 _ ?side1 ?side2 ?side3 A14.out).mono ?_); (case side1 => exact ⟨Tab_below hT.out y1_⟩); (case side2 => repeat (first | exact (Kd.R_reads' HO143.out).2.2 | (with_reducible refine Kd.C_alloc ?_ _) | (with_reducible refine Kd.C_drewN ?_ _) | (with_reducible refine Kd.C_drew ?_))); (case side3 => exact (Kd.R_reads' HO143.out).2.1); rintro e w18 ⟨v146, rfl, ho0, hb⟩; refine ⟨_, rfl, ?_⟩; have n0_ := Aside0.mk (Kd.R_below (by (with_reducible repeat (first | apply Kd.R_alloc | apply Kd.R_drewN | apply Kd.R_drew)); exact HO143.out) hb); have n1_ := Aside0.mk (Kd.R_lower ho0 (below_size y1_)); have n2_ := Aside0.mk (below_step y1_ hb); clear HO143; clear HB; have HO143 := n0_; have HO147 := n1_; have HB := n2_; clear n0_ n1_ n2_; (try clear hb); (try clear hb2); (try clear hk); (try clear hi); (try clear ho0)))
    (try simp only [Act.put, List.setIfInBounds_toArray, List.set_cons_zero, List.set_cons_succ])
    go_cut [47] (fun v47 wc => ∃ (kq : Nat) (x47_14 : Bool), v47 = .bool x47_14 ∧ Aside0 (manometerlaw08_XorBack.j1 kq l1 x47_14 = some r) ∧ Aside0 (kq ≤ kj2) ∧ Aside0 (Below w.heap.size w wc))
    case first =>
     have H := HC15.out
     clear HC15
     by_cases c19 : t141 = 0
     ·rw [if_pos c19] at H
      have c19b0 : (t141 == 0) = true := beq_iff_eq.mpr c19
      have c19b1 : (t141 != 0) = false := bne_eq_false_iff_eq.mpr c19
      clear c19
      (first | rw [c19b0] | (simp only [i64_w, i32_w]; rw [c19b0]) | skip)
      by_cases c20 : t145 = 0
      ·rw [if_pos c20] at H
       have c20b0 : (t145 == 0) = true := beq_iff_eq.mpr c20
       have c20b1 : (t145 != 0) = false := bne_eq_false_iff_eq.mpr c20
       clear c20
       replace H := Option.bind_eq_some_iff.mp H
       obtain ⟨t148, A210, H⟩ := H
       replace H : (manometerlaw08_XorBack.j1 kj2 l1 (!t148)) = some r := H
       have A21 := Aside0.mk A210
       clear A210
       have H' := Aside0.mk H
       clear H
       obtain ⟨Ao22, co22, eo22⟩ := Kd.R_slice HO147.out
       subst eo22
       go_wp2_with (first | (go_at_call 18; (with_reducible refine (manometerlaw08_same.calls kj2 _ _ t144 _ _ l0 t148 _ ?side1 ?side2 ?side3 ?side4 A21.out).mono ?_); (case side1 => repeat (first | exact (Kd.R_reads' HO147.out).2.2 | (with_reducible refine Kd.C_alloc ?_ _) | (with_reducible refine Kd.C_drewN ?_ _) | (with_reducible refine Kd.C_drew ?_))); (case side2 => exact (Kd.R_reads' HO147.out).2.1); (case side3 => repeat (first | exact (Kd.C_below HR0.out HB.out) | (with_reducible refine Kd.C_alloc ?_ _) | (with_reducible refine Kd.C_drewN ?_ _) | (with_reducible refine Kd.C_drew ?_))); (case side4 => exact HC0.out); rintro e w' ⟨rfl, ⟨nd, rfl⟩⟩))
       go_meet
       case rel => exact ⟨_, (!t148), y7_, H', ⟨by have := HJ2.out; first | omega | exact Nat.le_refl _⟩, ⟨y1_⟩⟩
      ·rw [if_neg c20] at H
       have c20b0 : (t145 == 0) = false := beq_eq_false_iff_ne.mpr c20
       have c20b1 : (t145 != 0) = true := bne_iff_ne.mpr c20
       have H' := Aside0.mk H
       clear H
       go_wp2
       go_meet
       case rel => exact ⟨_, (true), y7_, H', ⟨by have := HJ2.out; first | omega | exact Nat.le_refl _⟩, ⟨y1_⟩⟩
     ·rw [if_neg c19] at H
      have c19b0 : (t141 == 0) = false := beq_eq_false_iff_ne.mpr c19
      have c19b1 : (t141 != 0) = true := bne_iff_ne.mpr c19
      (first | rw [c19b0] | (simp only [i64_w, i32_w]; rw [c19b0]) | skip)
      have H' := Aside0.mk H
      clear H
      go_wp2
      go_meet
      case rel => exact ⟨_, (true), y7_, H', ⟨by have := HJ2.out; first | omega | exact Nat.le_refl _⟩, ⟨y1_⟩⟩
    case rest =>
     clear HC15
     try clear c1
     try clear c2
     try clear p2
     try clear c5
     try clear c6
     try clear c6b0
     try clear c6b1
     try clear c10
     try clear c11
     try clear c12
     try clear c16
     try clear c19
     try clear c19b0
     try clear c19b1
     try clear c20
     try clear c20b0
     try clear c20b1
     try clear p2
     obtain ⟨kq, x47_14, rfl, HA, HJ14, HB⟩ := hcut
     cases kq with
     | zero => exact absurd HA.out (by simp [manometerlaw08_XorBack.j1])
     | succ kj14 =>
      have H := HA.out
      clear HA
      simp only [manometerlaw08_XorBack.j1] at H
      by_cases c23 : x47_14 = true
      ·subst c23
       have H1 : (some false) = some r := by rw [if_pos rfl] at H; exact H
       clear H
       have H := H1
       clear H1
       obtain rfl := Option.some.inj H
       go_wp2
       go_ret
       exact ⟨y6_, y1_⟩
      ·replace c23 := Bool.eq_false_iff.mpr c23
       subst c23
       have H1 : ((xor_Get.f l1).bind fun bt149 => (if bt149.2 = 0 then ((xor_Put.f bt149.1).bind fun bt153 => (if bt153.2 = 0 then ((manometerref01_Equal.f bt153.1 l1).bind fun t157 => (some t157)) else (some false))) else (some ((bt149.1.length : Int) == 0)))) = some r := by rw [if_neg (show ¬ (false = true) by decide)] at H; exact H
       clear H
       have H := H1
       clear H1
       replace H := Option.bind_eq_some_iff.mp H
       obtain ⟨⟨t149, t150⟩, A240, H⟩ := H
       replace H : (if t150 = 0 then ((xor_Put.f t149).bind fun bt153 => (if bt153.2 = 0 then ((manometerref01_Equal.f bt153.1 l1).bind fun t157 => (some t157)) else (some false))) else (some ((t149.length : Int) == 0))) = some r := H
       have A24 := Aside0.mk A240
       clear A240
       by_cases c25 : t150 = 0
       ·rw [if_pos c25] at H
        have c25b0 : (t150 == 0) = true := beq_iff_eq.mpr c25
        have c25b1 : (t150 != 0) = false := bne_eq_false_iff_eq.mpr c25
        clear c25
        replace H := Option.bind_eq_some_iff.mp H
        obtain ⟨⟨t153, t154⟩, A260, H⟩ := H
        replace H : (if t154 = 0 then ((manometerref01_Equal.f t153 l1).bind fun t157 => (some t157)) else (some false)) = some r := H
        have A26 := Aside0.mk A260
        clear A260
        by_cases c27 : t154 = 0
        ·rw [if_pos c27] at H
         have c27b0 : (t154 == 0) = true := beq_iff_eq.mpr c27
         have c27b1 : (t154 != 0) = false := bne_eq_false_iff_eq.mpr c27
         clear c27
         replace H := Option.bind_eq_some_iff.mp H
         obtain ⟨t157, A280, H⟩ := H
         replace H : (some t157) = some r := H
         have A28 := Aside0.mk A280
         clear A280
         obtain rfl := Option.some.inj H
         go_wp2_with (first | ((with_reducible refine gate_callee (f := 16) rfl ?_); refine goesL_ (some 50) rfl rfl Tryd.func16 (by kernel_rfl) rfl #[.slice A1 l1.length c1] rfl y3_ ?_; (with_reducible refine (xor_Get.calls _ _ l1 t149 t150 _ ?side1 ?side2 ?side3 A24.out).mono ?_); (case side1 => exact ⟨Tab_below hT.out y1_⟩); (case side2 => repeat (first | exact (Kd.C_below HR1.out HB.out) | (with_reducible refine Kd.C_alloc ?_ _) | (with_reducible refine Kd.C_drewN ?_ _) | (with_reducible refine Kd.C_drew ?_))); (case side3 => exact HC1.out); rintro e w29 ⟨v151, rfl, ho0, hb⟩; refine ⟨_, rfl, ?_⟩; have n0_ := Aside0.mk (Kd.R_lower ho0 (below_size y1_)); have n1_ := Aside0.mk (below_step y1_ hb); clear HB; have HO152 := n0_; have HB := n1_; clear n0_ n1_; (try clear hb); (try clear hb2); (try clear hk); (try clear hi); (try clear ho0); obtain ⟨Ao30, co30, eo30⟩ := Kd.R_slice HO152.out; subst eo30) | ((with_reducible refine gate_callee (f := 12) rfl ?_); refine goesL_ (some 60) rfl rfl Tryd.func12 (by kernel_rfl) rfl #[.slice Ao30 t149.length co30] rfl y3_ ?_; (with_reducible refine (xor_Put.calls _ _ t149 t153 t154 _ ?side1 ?side2 ?side3 A26.out).mono ?_); (case side1 => exact ⟨Tab_below hT.out y1_⟩); (case side2 => repeat (first | exact (Kd.R_reads' HO152.out).2.2 | (with_reducible refine Kd.C_alloc ?_ _) | (with_reducible refine Kd.C_drewN ?_ _) | (with_reducible refine Kd.C_drew ?_))); (case side3 => exact (Kd.R_reads' HO152.out).2.1); rintro e w31 ⟨v155, rfl, ho0, hb⟩; refine ⟨_, rfl, ?_⟩; have n0_ := Aside0.mk (Kd.R_below (by (with_reducible repeat (first | apply Kd.R_alloc | apply Kd.R_drewN | apply Kd.R_drew)); exact HO152.out) hb); have n1_ := Aside0.mk (Kd.R_lower ho0 (below_size y1_)); have n2_ := Aside0.mk (below_step y1_ hb); clear HO152; clear HB; have HO152 := n0_; have HO156 := n1_; have HB := n2_; clear n0_ n1_ n2_; (try clear hb); (try clear hb2); (try clear hk); (try clear hi); (try clear ho0); obtain ⟨Ao32, co32, eo32⟩ := Kd.R_slice HO156.out; subst eo32) | (go_at_call 14; (with_reducible refine (manometerref01_Equal.calls _ _ t153 _ _ l1 t157 _ ?side1 ?side2 ?side3 ?side4 A28.out).mono ?_); (case side1 => repeat (first | exact (Kd.R_reads' HO156.out).2.2 | (with_reducible refine Kd.C_alloc ?_ _) | (with_reducible refine Kd.C_drewN ?_ _) | (with_reducible refine Kd.C_drew ?_))); (case side2 => exact (Kd.R_reads' HO156.out).2.1); (case side3 => repeat (first | exact (Kd.C_below HR1.out HB.out) | (with_reducible refine Kd.C_alloc ?_ _) | (with_reducible refine Kd.C_drewN ?_ _) | (with_reducible refine Kd.C_drew ?_))); (case side4 => exact HC1.out); rintro e w' ⟨rfl, ⟨nd, rfl⟩⟩))
         go_ret
         exact ⟨y6_, y1_⟩
        ·rw [if_neg c27] at H
         have c27b0 : (t154 == 0) = false := beq_eq_false_iff_ne.mpr c27
         have c27b1 : (t154 != 0) = true := bne_iff_ne.mpr c27
         obtain rfl := Option.some.inj H
         go_wp2_with (first | ((with_reducible refine gate_callee (f := 16) rfl ?_); refine goesL_ (some 50) rfl rfl Tryd.func16 (by kernel_rfl) rfl #[.slice A1 l1.length c1] rfl y3_ ?_; (with_reducible refine (xor_Get.calls _ _ l1 t149 t150 _ ?side1 ?side2 ?side3 A24.out).mono ?_); (case side1 => exact ⟨Tab_below hT.out y1_⟩); (case side2 => repeat (first | exact (Kd.C_below HR1.out HB.out) | (with_reducible refine Kd.C_alloc ?_ _) | (with_reducible refine Kd.C_drewN ?_ _) | (with_reducible refine Kd.C_drew ?_))); (case side3 => exact HC1.out); rintro e w33 ⟨v151, rfl, ho0, hb⟩; refine ⟨_, rfl, ?_⟩; have n0_ := Aside0.mk (Kd.R_lower ho0 (below_size y1_)); have n1_ := Aside0.mk (below_step y1_ hb); clear HB; have HO152 := n0_; have HB := n1_; clear n0_ n1_; (try clear hb); (try clear hb2); (try clear hk); (try clear hi); (try clear ho0); obtain ⟨Ao34, co34, eo34⟩ := Kd.R_slice HO152.out; subst eo34) | ((with_reducible refine gate_callee (f := 12) rfl ?_); refine goesL_ (some 60) rfl rfl Tryd.func12 (by kernel_rfl) rfl #[.slice Ao34 t149.length co34] rfl y3_ ?_; (with_reducible refine (xor_Put.calls _ _ t149 t153 t154 _ ?side1 ?side2 ?side3 A26.out).mono ?_); (case side1 => exact ⟨Tab_below hT.out y1_⟩); (case side2 => repeat (first | exact (Kd.R_reads' HO152.out).2.2 | (with_reducible refine Kd.C_alloc ?_ _) | (with_reducible refine Kd.C_drewN ?_ _) | (with_reducible refine Kd.C_drew ?_))); (case side3 => exact (Kd.R_reads' HO152.out).2.1); rintro e w35 ⟨v155, rfl, ho0, hb⟩; refine ⟨_, rfl, ?_⟩; have n0_ := Aside0.mk (Kd.R_below (by (with_reducible repeat (first | apply Kd.R_alloc | apply Kd.R_drewN | apply Kd.R_drew)); exact HO152.out) hb); have n1_ := Aside0.mk (Kd.R_lower ho0 (below_size y1_)); have n2_ := Aside0.mk (below_step y1_ hb); clear HO152; clear HB; have HO152 := n0_; have HO156 := n1_; have HB := n2_; clear n0_ n1_ n2_; (try clear hb); (try clear hb2); (try clear hk); (try clear hi); (try clear ho0)))
         go_ret
         exact ⟨y6_, y1_⟩
       ·rw [if_neg c25] at H
        have c25b0 : (t150 == 0) = false := beq_eq_false_iff_ne.mpr c25
        have c25b1 : (t150 != 0) = true := bne_iff_ne.mpr c25
        obtain rfl := Option.some.inj H
        go_wp2_with (first | ((with_reducible refine gate_callee (f := 16) rfl ?_); refine goesL_ (some 50) rfl rfl Tryd.func16 (by kernel_rfl) rfl #[.slice A1 l1.length c1] rfl y3_ ?_; (with_reducible refine (xor_Get.calls _ _ l1 t149 t150 _ ?side1 ?side2 ?side3 A24.out).mono ?_); (case side1 => exact ⟨Tab_below hT.out y1_⟩); (case side2 => repeat (first | exact (Kd.C_below HR1.out HB.out) | (with_reducible refine Kd.C_alloc ?_ _) | (with_reducible refine Kd.C_drewN ?_ _) | (with_reducible refine Kd.C_drew ?_))); (case side3 => exact HC1.out); rintro e w36 ⟨v151, rfl, ho0, hb⟩; refine ⟨_, rfl, ?_⟩; have n0_ := Aside0.mk (Kd.R_lower ho0 (below_size y1_)); have n1_ := Aside0.mk (below_step y1_ hb); clear HB; have HO152 := n0_; have HB := n1_; clear n0_ n1_; (try clear hb); (try clear hb2); (try clear hk); (try clear hi); (try clear ho0); obtain ⟨Ao37, co37, eo37⟩ := Kd.R_slice HO152.out; subst eo37))
        go_ret
        exact ⟨y6_, y1_⟩
end Go.Proofs.YtmllgglcdlcdhaaDoor.PXL
