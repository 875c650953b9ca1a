import Derived.Test.YtmllgglcdlcdhaaDoorCXorFewYA
import Derived.Test.YtmllgglcdlcdhaaDoorCXorFewPXLx2
import Derived.Test.YtmllgglcdlcdhaaDoorCXorFewY4
import Derived.Test.YtmllgglcdlcdhaaDoorCXorFewPXLx1
import Derived.Test.YtmllgglcdlcdhaaDoorCXorFewHC
import Derived.Lib.LaidU8
import Derived.LaidMore
import Derived.Deep.Slices
import Derived.Test.YtmllgglcdlcdhaaDoorRows
namespace Go.Proofs.YtmllgglcdlcdhaaDoor.Bq
end Go.Proofs.YtmllgglcdlcdhaaDoor.Bq
section
namespace Go.Proofs.YtmllgglcdlcdhaaDoor.PXL
open Go.RowKit Go.Proofs.YtmllgglcdlcdhaaDoorW.PrintWords Go.Proofs.YtmllgglcdlcdhaaDoorW.PrintLast Go.Proofs.YtmllgglcdlcdhaaDoorW.PrintMore
attribute [local go_sem] max2_int min2_int max_two min_two max_three min_three max_four min_four
set_option linter.unusedVariables false
set_option linter.unusedSimpArgs false
def manometerref01_PutVarint.f (a0 : Int) : Option (List Int) := if -9223372036854775808 ≤ a0 then (if a0 ≤ 9223372036854775807 then some (Bq.ints (Bq.uv (Bq.zigI a0).toNat)) else none) else none
theorem manometerref01_PutVarint.calls (a0 : Int) (r : List Int) (w : World) (h : manometerref01_PutVarint.f a0 = some r) :
  Calls Tryd.prog 19 #[.int .i64 a0] w fun e w' => ∃ v0_ : Value, e = .returned (v0_) ∧ Kd.R (Kd.int .u8) 5 w' w.heap.size (fun _ => True) v0_ r ∧ Below w.heap.size w w' := by
 unfold manometerref01_PutVarint.f at h
 split at h
 ·rename_i h1
  split at h
  ·rename_i h2
   obtain rfl := Option.some.inj h
   refine (rputVarint_calls w a0 h1 h2).mono ?_
   rintro e w' ⟨v, rfl, hR, hB⟩
   exact ⟨v, rfl, hR, hB⟩
  ·cases h
 ·cases h
def manometerref01_PutUvarint.f (a0 : Int) : Option (List Int) := if 0 ≤ a0 then (if a0 < 18446744073709551616 then some (Bq.ints (Bq.uv a0.toNat)) else none) else none
theorem manometerref01_PutUvarint.calls (a0 : Int) (r : List Int) (w : World) (h : manometerref01_PutUvarint.f a0 = some r) :
  Calls Tryd.prog 20 #[.int .u64 a0] w fun e w' => ∃ v0_ : Value, e = .returned (v0_) ∧ Kd.R (Kd.int .u8) 5 w' w.heap.size (fun _ => True) v0_ r ∧ Below w.heap.size w w' := by
 unfold manometerref01_PutUvarint.f at h
 split at h
 ·rename_i h1
  split at h
  ·rename_i h2
   obtain rfl := Option.some.inj h
   obtain ⟨n, rfl⟩ := Int.eq_ofNat_of_zero_le h1
   refine (rputUvarint_calls w n (by omega)).mono ?_
   rintro e w' ⟨v, rfl, hR, hB⟩
   exact ⟨v, rfl, hR, hB⟩
  ·cases h
 ·cases h
mutual
def manometerlaw08_XorFew.j0 : Nat → Int → Int → Int → Int → Bool → Option (Bool)
 | 0, _, _, _, _, _ => none
 | k + 1, x0, x1, x2, x3, x18 => if x18 = true then ((manometerlaw08_live.f).bind fun t201 => (some t201)) else (manometerlaw08_XorFew.l0 k x0 x1 x2 x3 ([] : List (S39)) x3 0)
def manometerlaw08_XorFew.l0 : Nat → Int → Int → Int → Int → List (S39) → Int → Int → Option (Bool)
 | 0, _, _, _, _, _, _, _ => none
 | k + 1, x0, x1, x2, x3, x9, x20, x21 => if x21 < x20 then (if x9.length < 8796093022208 then (manometerlaw08_XorFew.l0 k (wrap64 (x0 + x1)) x1 x2 x3 (x9 ++ [(⟨x0, x2⟩ : S39)]) x20 ((x21 + 1) % 256)) else (none)) else ((xor_Put.f x9).bind fun bt205 => (if 0 < (x9.length : Int) then ((manometerref01_PutVarint.f ((rd_T39 x9 0).f0)).bind fun t210 => ((manometerref01_PutUvarint.f (IntKind.u64.wrap (x1))).bind fun t213 => (if bt205.2 = 0 then (some ((bt205.1.length : Int) == (wrap64 (Int.tdiv (wrap64 ((wrap64 ((wrap64 ((wrap64 ((wrap64 ((wrap64 (16 + (wrap64 (8 * (t210.length : Int))))) + 64)) + (wrap64 (8 * (t213.length : Int))))) + 1)) + (wrap64 (2 * (wrap64 ((wrap64 (x3)) - 2)))))) + 7)) 8)))) else (some false)))) else (none)))
end
def manometerlaw08_XorFew.f (k : Nat) (a0 : Int) (a1 : Int) (a2 : Int) (a3 : Int) : Option (Bool) := (manometerlaw08_live.f).bind fun t200 => (if t200 = true then (manometerlaw08_XorFew.j0 k a0 a1 a2 a3 (decide (a3 < 2))) else (manometerlaw08_XorFew.j0 k a0 a1 a2 a3 true))
set_option maxHeartbeats 8000000 in
set_option maxRecDepth 100000 in
theorem manometerlaw08_XorFew.calls (k : Nat) (a0 : Int) (a1 : Int) (a2 : Int) (a3 : Int) (r : Bool) (w : World) (hT : Aside0 (Tab w)) (h : manometerlaw08_XorFew.f k a0 a1 a2 a3 = some r) :
  Calls Tryd.prog 7 #[.int .i64 a0, .int .i64 a1, .int .u64 a2, .int .u8 a3] w fun e w' => e = .returned (.bool r) ∧ Below w.heap.size w w' := by
 have hu39 := Tryd.underlying39
 have HB := Aside0.mk (Below.refl w.heap.size w)
 have H : ((manometerlaw08_live.f).bind fun t200 => (if t200 = true then (manometerlaw08_XorFew.j0 k a0 a1 a2 a3 (decide (a3 < 2))) else (manometerlaw08_XorFew.j0 k a0 a1 a2 a3 true))) = some r := h
 clear h
 have HC5 := Aside0.mk H
 clear H
 go_enter Tryd.func7, Tryd.ntmps7
 go_upto_region 1 with (fail)
 go_cut [18] (fun v18 wc => ∃ (kq : Nat) (x18_4 : Bool), v18 = .bool x18_4 ∧ Aside0 (manometerlaw08_XorFew.j0 kq a0 a1 a2 a3 x18_4 = some r) ∧ Aside0 (kq ≤ k) ∧ Aside0 (Below w.heap.size w wc))
 case first =>
  have H := HC5.out
  clear HC5
  replace H := Option.bind_eq_some_iff.mp H
  obtain ⟨t200, A60, H⟩ := H
  replace H : (if t200 = true then (manometerlaw08_XorFew.j0 k a0 a1 a2 a3 (decide (a3 < 2))) else (manometerlaw08_XorFew.j0 k a0 a1 a2 a3 true)) = some r := H
  have A6 := Aside0.mk A60
  clear A60
  by_cases c7 : t200 = true
  ·subst c7
   have H1 : (manometerlaw08_XorFew.j0 k a0 a1 a2 a3 (decide (a3 < 2))) = some r := by rw [if_pos rfl] at H; exact H
   clear H
   have H := H1
   clear H1
   have H' := Aside0.mk H
   clear H
   go_wp2_with (first | ((with_reducible refine gate_callee (f := 11) rfl ?_); refine goesL_ (some 13) rfl rfl Tryd.func11 (by kernel_rfl) rfl #[] rfl y3_ ?_; (with_reducible refine (manometerlaw08_live.calls  true _ ?side1 A6.out).mono ?_); (case side1 => exact ⟨Tab_below hT.out y1_⟩); rintro e w8 ⟨rfl, hb⟩; refine ⟨_, rfl, ?_⟩; have n0_ := Aside0.mk (below_step y1_ hb); clear HB; have HB := n0_; clear n0_; (try clear hb); (try clear hb2); (try clear hk); (try clear hi)))
   go_meet
   case rel => exact ⟨_, (decide (a3 < 2)), y10_, H', ⟨by first | omega | exact Nat.le_refl _⟩, ⟨y1_⟩⟩
  ·replace c7 := Bool.eq_false_iff.mpr c7
   subst c7
   have H1 : (manometerlaw08_XorFew.j0 k a0 a1 a2 a3 true) = some r := by rw [if_neg (show ¬ (false = true) by decide)] at H; exact H
   clear H
   have H := H1
   clear H1
   have H' := Aside0.mk H
   clear H
   go_wp2_with (first | ((with_reducible refine gate_callee (f := 11) rfl ?_); refine goesL_ (some 13) rfl rfl Tryd.func11 (by kernel_rfl) rfl #[] rfl y3_ ?_; (with_reducible refine (manometerlaw08_live.calls  false _ ?side1 A6.out).mono ?_); (case side1 => exact ⟨Tab_below hT.out y1_⟩); rintro e w9 ⟨rfl, hb⟩; refine ⟨_, rfl, ?_⟩; have n0_ := Aside0.mk (below_step y1_ hb); clear HB; have HB := n0_; clear n0_; (try clear hb); (try clear hb2); (try clear hk); (try clear hi)))
   go_meet
   case rel => exact ⟨_, (true), y10_, H', ⟨by first | omega | exact Nat.le_refl _⟩, ⟨y1_⟩⟩
 case rest =>
  clear HC5
  try clear c1
  try clear p2
  try clear c7
  obtain ⟨kq, x18_4, rfl, HA, HJ4, HB⟩ := hcut
  cases kq with
  | zero => exact absurd HA.out (by simp [manometerlaw08_XorFew.j0])
  | succ kj4 =>
   have H := HA.out
   clear HA
   simp only [manometerlaw08_XorFew.j0] at H
   by_cases c10 : x18_4 = true
   ·subst c10
    have H1 : ((manometerlaw08_live.f).bind fun t201 => (some t201)) = some r := by rw [if_pos rfl] at H; exact H
    clear H
    have H := H1
    clear H1
    replace H := Option.bind_eq_some_iff.mp H
    obtain ⟨t201, A110, H⟩ := H
    replace H : (some t201) = some r := H
    have A11 := Aside0.mk A110
    clear A110
    obtain rfl := Option.some.inj H
    go_wp2_with (first | ((with_reducible refine gate_callee (f := 11) rfl ?_); refine goesL_ (some 19) rfl rfl Tryd.func11 (by kernel_rfl) rfl #[] rfl y3_ ?_; (with_reducible refine (manometerlaw08_live.calls  t201 _ ?side1 A11.out).mono ?_); (case side1 => exact ⟨Tab_below hT.out y1_⟩); rintro e w12 ⟨rfl, hb⟩; refine ⟨_, rfl, ?_⟩; have n0_ := Aside0.mk (below_step y1_ hb); clear HB; have HB := n0_; clear n0_; (try clear hb); (try clear hb2); (try clear hk); (try clear hi)))
    go_ret
    exact ⟨y7_, y1_⟩
   ·replace c10 := Bool.eq_false_iff.mpr c10
    subst c10
    have H1 : (manometerlaw08_XorFew.l0 kj4 a0 a1 a2 a3 ([] : List (S39)) a3 0) = some r := by rw [if_neg (show ¬ (false = true) by decide)] at H; exact H
    clear H
    have H := H1
    clear H1
    have H' := Aside0.mk H
    clear H
    go_wp2
    go_loopg [0, 9, 21] kj4 (fun kq v0 v9 v21 w' => ∃ (x0_2 : Int) (x9_2 : List (S39)) (x21_2 : Int), v0 = .int .i64 x0_2 ∧ v21 = .int .u8 x21_2 ∧ Aside0 (manometerlaw08_XorFew.l0 kq x0_2 a1 a2 a3 x9_2 a3 x21_2 = some r) ∧ Aside0 (kq ≤ kj4) ∧ Aside0 (Kd.R k39 39 w' w.heap.size (fun _ => True) v9 x9_2) ∧ Aside0 (Below w.heap.size w w'))
    case atStart => exact ⟨(a0), (([] : List (S39))), (0), y10_, y10_, H', ⟨Nat.le_refl _⟩, ⟨by first | exact Kd.R_nil _ _ _ _ _ | exact Kd.N_nil _ _ _ _ _ | exact Kd.V_nil _ _ _ _ _ | exact Kd.Q_nil _ _ _ _ _ | exact Kd.S_nil _ _ _ _ _⟩, ⟨y1_⟩⟩
    case round =>
     clear H'
     try clear c1
     try clear p2
     try clear c7
     try clear c10
     try clear c11
     try clear p2
     obtain ⟨x0_2, x9_2, x21_2, rfl, rfl, HA, HK2, HO_9, HB⟩ := hrel
     cases gk with
     | zero => exact absurd HA.out (by simp [manometerlaw08_XorFew.l0])
     | succ k2 =>
      have H := HA.out
      clear HA
      simp only [manometerlaw08_XorFew.l0] at H
      by_cases c13 : x21_2 < a3
      ·rw [if_pos c13] at H
       have c13b0 : decide (x21_2 < a3) = true := decide_eq_true c13
       clear c13
       by_cases c14 : x9_2.length < 8796093022208
       ·rw [if_pos c14] at H
        have LMc14 := Aside0.mk c14
        clear c14
        obtain ⟨y202, hy202⟩ : ∃ y_ : List (S39), y_ = (x9_2 ++ [(⟨x0_2, a2⟩ : S39)]) := ⟨_, rfl⟩
        replace H : (manometerlaw08_XorFew.l0 k2 (wrap64 (x0_2 + a1)) a1 a2 a3 y202 a3 ((x21_2 + 1) % 256)) = some r := by first | (rw [hy202]; with_reducible exact H) | (have H2_ := (Option.bind_some _ _).symm.trans H; rw [hy202]; with_reducible exact H2_) | (have H2_ := (Option.bind_some _ _).symm.trans H; with_reducible exact H2_) | with_reducible exact H | (rw [hy202]; exact H) | exact H
        have Ny202 := Aside0.mk hy202
        clear hy202
        have H' := Aside0.mk H
        clear H
        go_wp2_with (first | ((with_reducible refine gate_builtin (b := .append) (xs := #[.tmp 23, .tmp 27]) rfl ?_); (try (refine gate_guard (by rfl) ?_; dsimp only)); at_builtin; refine Kd.R_append k39 (w0 := w) w.heap.size rfl (.tmp 23) (.tmp 27) 22 39 (.agg #[(.int .i64 0), (.int .u64 0)]) 16 rfl Tryd.underlying22 info39 rfl (by decide) (by omega) u9 x9_2 (⟨x0_2, a2⟩ : S39) [.int .i64 x0_2, .int .u64 a2] (fun _ => True) (fun _ => False) rfl rfl ?aP (fun _ hk => hk.elim) ?aF ?aO ?aB ?aS ?aL ?_; (case aP => exact k39_mkM _ _ _ (⟨x0_2, a2⟩ : S39)); (case aB => exact y1_); (case aF => exact (fun _ _ => trivial)); (case aO => exact y11_); (case aS => exact (below_size y1_)); (case aL => have := LMc14.out; omega); intro v203 w15 ho hb hg hat; rw [← Ny202.out] at ho; have n0_ := Aside0.mk (hb); have n1_ := Aside0.mk (ho); clear HB; clear HO_9; have HB := n0_; have HO204 := n1_; clear n0_ n1_; clear ho hb hg hat))
        go_roundg k2
        case measure => have := HJ4.out; have := HK2.out; omega
        case rel => exact ⟨(wrap64 (x0_2 + a1)), (y202), ((x21_2 + 1) % 256), y10_, y10_, H', ⟨by have := HJ4.out; have := HK2.out; omega⟩, ⟨by (with_reducible repeat (first | apply Kd.R_alloc | apply Kd.R_drewN | apply Kd.R_drew)); exact HO204.out⟩, ⟨y1_⟩⟩
       ·rw [if_neg c14] at H
        exact absurd H (by simp)
      ·rw [if_neg c13] at H
       have c13b0 : decide (x21_2 < a3) = false := decide_eq_false c13
       clear c13
       replace H := Option.bind_eq_some_iff.mp H
       obtain ⟨⟨t205, t206⟩, A160, H⟩ := H
       replace H : (if 0 < (x9_2.length : Int) then ((manometerref01_PutVarint.f ((rd_T39 x9_2 0).f0)).bind fun t210 => ((manometerref01_PutUvarint.f (IntKind.u64.wrap (a1))).bind fun t213 => (if t206 = 0 then (some ((t205.length : Int) == (wrap64 (Int.tdiv (wrap64 ((wrap64 ((wrap64 ((wrap64 ((wrap64 ((wrap64 (16 + (wrap64 (8 * (t210.length : Int))))) + 64)) + (wrap64 (8 * (t213.length : Int))))) + 1)) + (wrap64 (2 * (wrap64 ((wrap64 (a3)) - 2)))))) + 7)) 8)))) else (some false)))) else (none)) = some r := H
       have A16 := Aside0.mk A160
       clear A160
       by_cases c17 : 0 < (x9_2.length : Int)
       ·rw [if_pos c17] at H
        have c17b0 : decide (0 < (x9_2.length : Int)) = true := decide_eq_true c17
        have c17b1 : decide (0 < x9_2.length) = true := decide_eq_true (by omega)
        clear c17
        replace H := Option.bind_eq_some_iff.mp H
        obtain ⟨t210, A180, H⟩ := H
        replace H : ((manometerref01_PutUvarint.f (IntKind.u64.wrap (a1))).bind fun t213 => (if t206 = 0 then (some ((t205.length : Int) == (wrap64 (Int.tdiv (wrap64 ((wrap64 ((wrap64 ((wrap64 ((wrap64 ((wrap64 (16 + (wrap64 (8 * (t210.length : Int))))) + 64)) + (wrap64 (8 * (t213.length : Int))))) + 1)) + (wrap64 (2 * (wrap64 ((wrap64 (a3)) - 2)))))) + 7)) 8)))) else (some false))) = some r := H
        have A18 := Aside0.mk A180
        clear A180
        replace H := Option.bind_eq_some_iff.mp H
        obtain ⟨t213, A190, H⟩ := H
        replace H : (if t206 = 0 then (some ((t205.length : Int) == (wrap64 (Int.tdiv (wrap64 ((wrap64 ((wrap64 ((wrap64 ((wrap64 ((wrap64 (16 + (wrap64 (8 * (t210.length : Int))))) + 64)) + (wrap64 (8 * (t213.length : Int))))) + 1)) + (wrap64 (2 * (wrap64 ((wrap64 (a3)) - 2)))))) + 7)) 8)))) else (some false)) = some r := H
        have A19 := Aside0.mk A190
        clear A190
        by_cases c20 : t206 = 0
        ·rw [if_pos c20] at H
         have c20b0 : (t206 == 0) = true := beq_iff_eq.mpr c20
         have c20b1 : (t206 != 0) = false := bne_eq_false_iff_eq.mpr c20
         clear c20
         obtain rfl := Option.some.inj H
         obtain ⟨Ao21, co21, eo21⟩ := Kd.R_slice HO_9.out
         subst eo21
         go_wp2_with (first | ((with_reducible refine gate_callee (f := 12) rfl ?_); refine goesL_ (some 35) rfl rfl Tryd.func12 (by kernel_rfl) rfl #[.slice Ao21 x9_2.length co21] rfl y3_ ?_; (with_reducible refine (xor_Put.calls _ _ x9_2 t205 t206 _ ?side1 ?side2 ?side3 A16.out).mono ?_); (case side1 => exact ⟨Tab_below hT.out y1_⟩); (case side2 => repeat (first | exact (Kd.R_reads' HO_9.out).2.2 | (with_reducible refine Kd.C_alloc ?_ _) | (with_reducible refine Kd.C_drewN ?_ _) | (with_reducible refine Kd.C_drew ?_))); (case side3 => exact (Kd.R_reads' HO_9.out).2.1); rintro e w22 ⟨v207, rfl, ho0, hb⟩; refine ⟨_, rfl, ?_⟩; have n0_ := Aside0.mk (Kd.R_below y11_ hb); have n1_ := Aside0.mk (Kd.R_lower ho0 (below_size y1_)); have n2_ := Aside0.mk (below_step y1_ hb); clear HO_9; clear HB; have HO_9 := n0_; have HO208 := n1_; have HB := n2_; clear n0_ n1_ n2_; (try clear hb); (try clear hb2); (try clear hk); (try clear hi); (try clear ho0); have p209 : 0 ≤ (0 : Int) := (by omega); have q209 : 0 < (x9_2.length : Int) := of_decide_eq_true (by first | (with_reducible assumption) | assumption); obtain ⟨ad209, e209, hx209_0, hx209_1⟩ := at_T39 (Kd.R_reads' HO_9.out).2.2 0 p209 q209; cases e209; have qi209 : (0 < x9_2.length) = True := eq_true (by omega); (try rw [show ((0 : Int)).toNat = 0 from rfl] at hx209_0); (try rw [show 0 * 2 = 0 from rfl] at hx209_0); (try rw [Addr.add_zero'] at hx209_0); (try rw [show ((0 : Int)).toNat = 0 from rfl] at hx209_1); (try rw [show 0 * 2 = 0 from rfl] at hx209_1); (try rw [Addr.add_zero'] at hx209_1); replace p209 := eq_true p209; replace q209 := eq_true q209) | ((with_reducible refine gate_callee (f := 19) rfl ?_); refine goesL_ (some 42) rfl rfl Tryd.func19 (by kernel_rfl) rfl #[.int .i64 ((rd_T39 x9_2 0).f0)] rfl y3_ ?_; (with_reducible refine (manometerref01_PutVarint.calls ((rd_T39 x9_2 0).f0) t210 _ A18.out).mono ?_); rintro e w23 ⟨v211, rfl, ho0, hb⟩; refine ⟨_, rfl, ?_⟩; have n0_ := Aside0.mk (Kd.R_below y11_ hb); have n1_ := Aside0.mk (Kd.R_elder' y8_ (Kd.R_base ho0) hb); have n2_ := Aside0.mk (Kd.R_lower (Kd.R_new' ho0 (Kd.R_lt y8_)) (below_size y1_)); have n3_ := Aside0.mk (below_step y1_ hb); clear HO_9; clear HO208; clear HB; have HO_9 := n0_; have HO208 := n1_; have HO212 := n2_; have HB := n3_; clear n0_ n1_ n2_ n3_; (try clear hb); (try clear hb2); (try clear hk); (try clear hi); (try clear ho0); obtain ⟨Ao24, co24, eo24⟩ := Kd.R_slice HO212.out; subst eo24) | ((with_reducible refine gate_callee (f := 20) rfl ?_); refine goesL_ (some 49) rfl rfl Tryd.func20 (by kernel_rfl) rfl #[.int .u64 (IntKind.u64.wrap (a1))] rfl y3_ ?_; (with_reducible refine (manometerref01_PutUvarint.calls (IntKind.u64.wrap (a1)) t213 _ A19.out).mono ?_); rintro e w25 ⟨v214, rfl, ho0, hb⟩; refine ⟨_, rfl, ?_⟩; have n0_ := Aside0.mk (Kd.R_below y11_ hb); have n1_ := Aside0.mk (Kd.R_elder' y8_ (Kd.R_base ho0) hb); have n2_ := Aside0.mk (Kd.R_elder' y12_ (Kd.R_base ho0) hb); have n3_ := Aside0.mk (Kd.R_lower (Kd.R_new' (Kd.R_new' ho0 (Kd.R_lt y8_)) (Kd.R_lt y12_)) (below_size y1_)); have n4_ := Aside0.mk (below_step y1_ hb); clear HO_9; clear HO208; clear HO212; clear HB; have HO_9 := n0_; have HO208 := n1_; have HO212 := n2_; have HO215 := n3_; have HB := n4_; clear n0_ n1_ n2_ n3_ n4_; (try clear hb); (try clear hb2); (try clear hk); (try clear hi); (try clear ho0); obtain ⟨Ao26, co26, eo26⟩ := Kd.R_slice HO215.out; subst eo26; obtain ⟨Ao27, co27, eo27⟩ := Kd.R_slice HO208.out; subst eo27))
         go_ret
         exact ⟨y7_, y1_⟩
        ·rw [if_neg c20] at H
         have c20b0 : (t206 == 0) = false := beq_eq_false_iff_ne.mpr c20
         have c20b1 : (t206 != 0) = true := bne_iff_ne.mpr c20
         obtain rfl := Option.some.inj H
         obtain ⟨Ao28, co28, eo28⟩ := Kd.R_slice HO_9.out
         subst eo28
         go_wp2_with (first | ((with_reducible refine gate_callee (f := 12) rfl ?_); refine goesL_ (some 35) rfl rfl Tryd.func12 (by kernel_rfl) rfl #[.slice Ao28 x9_2.length co28] rfl y3_ ?_; (with_reducible refine (xor_Put.calls _ _ x9_2 t205 t206 _ ?side1 ?side2 ?side3 A16.out).mono ?_); (case side1 => exact ⟨Tab_below hT.out y1_⟩); (case side2 => repeat (first | exact (Kd.R_reads' HO_9.out).2.2 | (with_reducible refine Kd.C_alloc ?_ _) | (with_reducible refine Kd.C_drewN ?_ _) | (with_reducible refine Kd.C_drew ?_))); (case side3 => exact (Kd.R_reads' HO_9.out).2.1); rintro e w29 ⟨v207, rfl, ho0, hb⟩; refine ⟨_, rfl, ?_⟩; have n0_ := Aside0.mk (Kd.R_below y11_ hb); have n1_ := Aside0.mk (Kd.R_lower ho0 (below_size y1_)); have n2_ := Aside0.mk (below_step y1_ hb); clear HO_9; clear HB; have HO_9 := n0_; have HO208 := n1_; have HB := n2_; clear n0_ n1_ n2_; (try clear hb); (try clear hb2); (try clear hk); (try clear hi); (try clear ho0); have p209 : 0 ≤ (0 : Int) := (by omega); have q209 : 0 < (x9_2.length : Int) := of_decide_eq_true (by first | (with_reducible assumption) | assumption); obtain ⟨ad209, e209, hx209_0, hx209_1⟩ := at_T39 (Kd.R_reads' HO_9.out).2.2 0 p209 q209; cases e209; have qi209 : (0 < x9_2.length) = True := eq_true (by omega); (try rw [show ((0 : Int)).toNat = 0 from rfl] at hx209_0); (try rw [show 0 * 2 = 0 from rfl] at hx209_0); (try rw [Addr.add_zero'] at hx209_0); (try rw [show ((0 : Int)).toNat = 0 from rfl] at hx209_1); (try rw [show 0 * 2 = 0 from rfl] at hx209_1); (try rw [Addr.add_zero'] at hx209_1); replace p209 := eq_true p209; replace q209 := eq_true q209) | ((with_reducible refine gate_callee (f := 19) rfl ?_); refine goesL_ (some 42) rfl rfl Tryd.func19 (by kernel_rfl) rfl #[.int .i64 ((rd_T39 x9_2 0).f0)] rfl y3_ ?_; (with_reducible refine (manometerref01_PutVarint.calls ((rd_T39 x9_2 0).f0) t210 _ A18.out).mono ?_); rintro e w30 ⟨v211, rfl, ho0, hb⟩; refine ⟨_, rfl, ?_⟩; have n0_ := Aside0.mk (Kd.R_below y11_ hb); have n1_ := Aside0.mk (Kd.R_elder' y8_ (Kd.R_base ho0) hb); have n2_ := Aside0.mk (Kd.R_lower (Kd.R_new' ho0 (Kd.R_lt y8_)) (below_size y1_)); have n3_ := Aside0.mk (below_step y1_ hb); clear HO_9; clear HO208; clear HB; have HO_9 := n0_; have HO208 := n1_; have HO212 := n2_; have HB := n3_; clear n0_ n1_ n2_ n3_; (try clear hb); (try clear hb2); (try clear hk); (try clear hi); (try clear ho0); obtain ⟨Ao31, co31, eo31⟩ := Kd.R_slice HO212.out; subst eo31) | ((with_reducible refine gate_callee (f := 20) rfl ?_); refine goesL_ (some 49) rfl rfl Tryd.func20 (by kernel_rfl) rfl #[.int .u64 (IntKind.u64.wrap (a1))] rfl y3_ ?_; (with_reducible refine (manometerref01_PutUvarint.calls (IntKind.u64.wrap (a1)) t213 _ A19.out).mono ?_); rintro e w32 ⟨v214, rfl, ho0, hb⟩; refine ⟨_, rfl, ?_⟩; have n0_ := Aside0.mk (Kd.R_below y11_ hb); have n1_ := Aside0.mk (Kd.R_elder' y8_ (Kd.R_base ho0) hb); have n2_ := Aside0.mk (Kd.R_elder' y12_ (Kd.R_base ho0) hb); have n3_ := Aside0.mk (Kd.R_lower (Kd.R_new' (Kd.R_new' ho0 (Kd.R_lt y8_)) (Kd.R_lt y12_)) (below_size y1_)); have n4_ := Aside0.mk (below_step y1_ hb); clear HO_9; clear HO208; clear HO212; clear HB; have HO_9 := n0_; have HO208 := n1_; have HO212 := n2_; have HO215 := n3_; have HB := n4_; clear n0_ n1_ n2_ n3_ n4_; (try clear hb); (try clear hb2); (try clear hk); (try clear hi); (try clear ho0); obtain ⟨Ao33, co33, eo33⟩ := Kd.R_slice HO215.out; subst eo33))
         go_ret
         exact ⟨y7_, y1_⟩
       ·rw [if_neg c17] at H
        exact absurd H (by simp)
end Go.Proofs.YtmllgglcdlcdhaaDoor.PXL
end
section
namespace Go.Proofs.YtmllgglcdlcdhaaDoor.Pu
open Go Go.RowKit Go.Proofs.YtmllgglcdlcdhaaDoor Go.Proofs.YtmllgglcdlcdhaaDoor.PXL Go.Proofs.YtmllgglcdlcdhaaDoorW.PrintWords Go.Proofs.YtmllgglcdlcdhaaDoorW.PrintLast Go.Proofs.YtmllgglcdlcdhaaDoorW.PrintMore Bq Xs
set_option linter.unusedVariables false
set_option linter.unusedSimpArgs false
theorem put_ok (l : List S39) (h : l.all smpOkB = true) (hl : l.length ≤ 50000) : xor_Put.f l = some (packL (smps l), 0) := by
  unfold xor_Put.f
  rw [if_neg (by omega), if_pos hl, if_pos h]
theorem bytB (b : List Int) (hb : Byts b) : b.all (fun x => decide (0 ≤ x ∧ x < 256)) = true := List.all_eq_true.2 fun x hx => decide_eq_true (hb x hx)
theorem get_ok (b : List Int) (hb : Byts b) (hl : b.length ≤ 10000) : xor_Get.f b = some (getS b) := by
  unfold xor_Get.f
  rw [if_pos hl, if_pos (bytB b hb)]
theorem eq_ok (a b : List Int) (ha : a.length ≤ 1000000000) (hb : b.length ≤ 1000000000) : manometerref01_Equal.f a b = some (decide (a = b)) := by
  unfold manometerref01_Equal.f
  rw [if_pos (by omega), if_pos (by omega)]
theorem byts_pack (L : List (Int × Nat)) : Byts (packL L) := byts_packI _
theorem pack_nb16 : pack (nb 0 16) = [0, 0] := by
  rw [show nb 0 16 = nb 0 8 ++ nb 0 8 from rfl, pack_append 1 _ _ (by rw [nb_length]), pack_short (nb 0 8) (by decide) (by decide)]
  rfl
theorem pack_two : packL [] = [0, 0] := by
  have h : packB [] = nb 0 16 := by unfold packB allB; rw [List.append_nil]; rfl
  unfold packL packI
  rw [h, pack_nb16]
  rfl
theorem uv0 : uv 0 = [0] := uv_small 0 (by decide)
theorem pack_one : packL [(0, 4607182418800017408)] = [0, 1, 0, 63, 240, 0, 0, 0, 0, 0, 0] := by
  have h : packB [(0, 4607182418800017408)] = nb 0 8 ++ (nb 1 8 ++ (nb 0 8 ++ (nb 63 8 ++ (nb 240 8 ++ (nb 0 8 ++ (nb 0 8 ++ (nb 0 8 ++ (nb 0 8 ++ (nb 0 8 ++ nb 0 8))))))))) := by
    have h1 : addB st0 0 4607182418800017408 = (bytesB (ints (uv (zigI 0).toNat)) ++ nb 4607182418800017408 64, ⟨1, 0, 4607182418800017408, 0, st0.w⟩) := rfl
    unfold packB allB
    simp only [h1]
    rw [show (zigI 0).toNat = 0 from rfl, uv0]
    show nb 1 16 ++ ((nb 0 8 ++ [] ++ nb 4607182418800017408 64) ++ []) = _
    decide +kernel
  unfold packL packI
  rw [h]
  have e : ∀ (n : Nat) (t : List Bool), pack (nb n 8 ++ t) = byte8 (nb n 8) :: pack t := fun n t => by
    rw [pack_append 1 _ _ (by rw [nb_length]), pack_short (nb n 8) (fun h => by have := congrArg List.length h; rw [nb_length] at this; cases this) (by rw [nb_length]; decide)]
    rfl
  have e0 : pack (nb 0 8) = [byte8 (nb 0 8)] := pack_short (nb 0 8) (by decide) (by decide)
  rw [e, e, e, e, e, e, e, e, e, e, e0]
  decide +kernel
theorem live08 : manometerlaw08_live.f = some true := by
  have o1 : ([⟨0, 4607182418800017408⟩] : List S39).all smpOkB = true := by decide
  have hs : smps [(⟨0, 4607182418800017408⟩ : S39)] = [(0, 4607182418800017408)] := rfl
  have hok : ∀ x ∈ [((0 : Int), (4607182418800017408 : Nat))], SmpOk x := fun x hx => by rw [List.mem_singleton.1 hx]; exact ⟨by decide, by decide⟩
  have hg : getL (packL [(0, 4607182418800017408)]) = .ok [(0, 4607182418800017408)] := get_back _ (by decide) hok
  have hgs : getS (packL [(0, 4607182418800017408)]) = (smpB [(0, 4607182418800017408)], 0) := by unfold getS; rw [hg]
  unfold manometerlaw08_live.f
  rw [put_ok [] rfl (by decide), put_ok _ o1 (by decide), hs]
  simp only [Option.bind_some]
  rw [get_ok _ (byts_pack _) (by rw [pack_one]; decide), hgs, show smps [] = [] from rfl, pack_two, pack_one, eq_ok _ _ (by decide) (by decide), eq_ok _ _ (by decide) (by decide)]
  rfl
end Go.Proofs.YtmllgglcdlcdhaaDoor.Pu
end
section
namespace Go.Proofs.YtmllgglcdlcdhaaDoor.Pu
open Go Go.RowKit Go.Proofs.YtmllgglcdlcdhaaDoor Go.Proofs.YtmllgglcdlcdhaaDoor.PXL Go.Proofs.YtmllgglcdlcdhaaDoorW.PrintWords Go.Proofs.YtmllgglcdlcdhaaDoorW.PrintLast Go.Proofs.YtmllgglcdlcdhaaDoorW.PrintMore Bq Xs
set_option linter.unusedVariables false
set_option linter.unusedSimpArgs false
theorem evens_ok (step : Int) (v : Nat) (hv : v < 2 ^ 64) : ∀ (n : Nat) (t : Int), (-9223372036854775808 ≤ t ∧ t ≤ 9223372036854775807) → ∀ x ∈ evens step v t n, SmpOk x
  | 0, t, ht, x, hx => by cases hx
  | n + 1, t, ht, x, hx => by
    unfold evens at hx
    rcases List.mem_cons.1 hx with rfl | hx
    · exact ⟨ht, hv⟩
    · exact evens_ok step v hv n _ (wrap64_bd _) x hx
theorem evens_snoc (step : Int) (v : Nat) : ∀ (n : Nat) (t : Int) (pre : List (Int × Nat)), pre ++ evens step v t (n + 1) = (pre ++ [(t, v)]) ++ evens step v (wrap64 (t + step)) n := by
  intro n t pre
  show pre ++ (t, v) :: evens step v (wrap64 (t + step)) n = _
  rw [List.append_assoc]
  rfl
theorem few_fin (t step : Int) (v N : Nat) (ht : -9223372036854775808 ≤ t ∧ t ≤ 9223372036854775807) (hs : -9223372036854775808 ≤ step ∧ step ≤ 9223372036854775807) (hv : v < 2 ^ 64) (h2 : 2 ≤ N) (hN : N < 256) (acc : List S39) (hacc : acc = smpB (evens step v t N)) :
    ((xor_Put.f acc).bind fun bt205 => (if 0 < (acc.length : Int) then ((manometerref01_PutVarint.f ((rd_T39 acc 0).f0)).bind fun t210 => ((manometerref01_PutUvarint.f (IntKind.u64.wrap (step))).bind fun t213 => (if bt205.2 = 0 then (some ((bt205.1.length : Int) == (wrap64 (Int.tdiv (wrap64 ((wrap64 ((wrap64 ((wrap64 ((wrap64 ((wrap64 (16 + (wrap64 (8 * (t210.length : Int))))) + 64)) + (wrap64 (8 * (t213.length : Int))))) + 1)) + (wrap64 (2 * (wrap64 ((wrap64 ((N : Nat) : Int)) - 2)))))) + 7)) 8)))) else (some false)))) else (none))) = some true := by
  have hok := evens_ok step v hv N t ht
  have hl : acc.length = N := by rw [hacc, smpB_length, evens_length]
  have hall : acc.all smpOkB = true := by rw [hacc]; exact smpB_ok _ hok
  have hsm : smps acc = evens step v t N := by rw [hacc, smps_smpB]
  have hf0 : (rd_T39 acc 0).f0 = t := by
    obtain ⟨m, rfl⟩ : ∃ m, N = m + 1 := ⟨N - 1, by omega⟩
    rw [hacc]
    rfl
  have hfb := few_bits t step v N ht hs h2
  have hpl : (packL (evens step v t N)).length = ((packB (evens step v t N)).length + 7) / 8 := by unfold packL packI; rw [ints_length, pack_length]
  have hz := zig_lt t ht
  have ha10 := uv_len10 _ hz.1
  have hb10 := uv_len10 _ (u64_lt step)
  have hw : IntKind.u64.wrap step = ((Xs.u64 step : Nat) : Int) := wrapu step
  have hus := u64_lt step
  have hpv : manometerref01_PutVarint.f t = some (ints (uv (zigI t).toNat)) := by unfold manometerref01_PutVarint.f; rw [if_pos ht.1, if_pos ht.2]
  have hpu : manometerref01_PutUvarint.f (IntKind.u64.wrap step) = some (ints (uv (Xs.u64 step))) := by unfold manometerref01_PutUvarint.f; rw [hw, if_pos (by omega), if_pos (by omega), Int.toNat_natCast]
  rw [put_ok acc hall (by omega), hsm]
  simp only [Option.bind_some]
  rw [if_pos (by omega), hf0, hpv, hpu]
  simp only [Option.bind_some]
  rw [if_pos trivial, ints_length, ints_length]
  generalize (uv (zigI t).toNat).length = a at *
  generalize (uv (Xs.u64 step)).length = b at *
  generalize (packL (evens step v t N)).length = p at *
  generalize (packB (evens step v t N)).length = m at *
  clear hw hpv hpu hz hus hacc hall hsm hok hf0
  rw [w64 (x := 8 * (a : Int)) (by omega) (by omega),
    w64 (x := 16 + 8 * (a : Int)) (by omega) (by omega),
    w64 (x := 16 + 8 * (a : Int) + 64) (by omega) (by omega),
    w64 (x := 8 * (b : Int)) (by omega) (by omega),
    w64 (x := 16 + 8 * (a : Int) + 64 + 8 * (b : Int)) (by omega) (by omega),
    w64 (x := 16 + 8 * (a : Int) + 64 + 8 * (b : Int) + 1) (by omega) (by omega),
    w64 (x := ((N : Nat) : Int)) (by omega) (by omega),
    w64 (x := (N : Int) - 2) (by omega) (by omega),
    w64 (x := 2 * ((N : Int) - 2)) (by omega) (by omega),
    w64 (x := 16 + 8 * (a : Int) + 64 + 8 * (b : Int) + 1 + 2 * ((N : Int) - 2)) (by omega) (by omega),
    w64 (x := 16 + 8 * (a : Int) + 64 + 8 * (b : Int) + 1 + 2 * ((N : Int) - 2) + 7) (by omega) (by omega),
    show Int.tdiv (16 + 8 * (a : Int) + 64 + 8 * (b : Int) + 1 + 2 * ((N : Int) - 2) + 7) 8 = (p : Int) from by rw [Int.tdiv_eq_ediv_of_nonneg (by omega)]; omega, w64 (x := (p : Int)) (by omega) (by omega)]
  simp
theorem few_l0 (t0 step : Int) (v N : Nat) (ht0 : -9223372036854775808 ≤ t0 ∧ t0 ≤ 9223372036854775807) (hs : -9223372036854775808 ≤ step ∧ step ≤ 9223372036854775807) (hv : v < 2 ^ 64) (h2 : 2 ≤ N) (hN : N < 256) :
    ∀ (d i : Nat) (t : Int) (pre : List (Int × Nat)), i + d = N → pre.length = i → pre ++ evens step v t d = evens step v t0 N → Ev (fun k => manometerlaw08_XorFew.l0 k t step (v : Int) (N : Int) (smpB pre) (N : Int) (i : Int)) true
  | 0, i, t, pre, hi, hpl, he => by
    refine Ev.step (f := _) (fun k => by simp only [manometerlaw08_XorFew.l0]; rfl) ?_
    simp only [if_neg (show ¬ (i : Int) < (N : Int) by omega)]
    have hpe : pre = evens step v t0 N := by rw [← he]; show pre = pre ++ []; rw [List.append_nil]
    have h := few_fin t0 step v N ht0 hs hv h2 hN (smpB pre) (by rw [hpe])
    rw [h]
    exact Ev.now _
  | d + 1, i, t, pre, hi, hpl, he => by
    rw [evens_snoc] at he
    have ih := few_l0 t0 step v N ht0 hs hv h2 hN d (i + 1) (wrap64 (t + step)) (pre ++ [(t, v)]) (by omega) (by rw [List.length_append, hpl]; rfl) he
    refine Ev.step (f := _) (fun k => by simp only [manometerlaw08_XorFew.l0]; rfl) ?_
    have e1 : (smpB pre).length < 8796093022208 := by rw [smpB_length]; omega
    have e2 : ((i : Int) + 1) % 256 = ((i + 1 : Nat) : Int) := by omega
    have e3 : smpB pre ++ [(⟨t, (v : Int)⟩ : S39)] = smpB (pre ++ [(t, v)]) := by unfold smpB; rw [List.map_append]; rfl
    simp only [if_pos (show (i : Int) < (N : Int) by omega), if_pos e1, e2, e3]
    exact ih
theorem xorFew (t step v n : Int) (ht : -9223372036854775808 ≤ t ∧ t ≤ 9223372036854775807) (hs : -9223372036854775808 ≤ step ∧ step ≤ 9223372036854775807) (hv : 0 ≤ v ∧ v < 18446744073709551616) (hn : 0 ≤ n ∧ n < 256) : ∃ k, manometerlaw08_XorFew.f k t step v n = some true := by
  by_cases h2 : n < 2
  · refine ⟨1, ?_⟩
    unfold manometerlaw08_XorFew.f
    rw [live08]
    simp only [Option.bind_some, if_true]
    rw [decide_eq_true h2]
    rw [manometerlaw08_XorFew.j0]
    rw [if_pos rfl, live08]
    rfl
  · obtain ⟨N, rfl⟩ := Int.eq_ofNat_of_zero_le hn.1
    obtain ⟨V, rfl⟩ := Int.eq_ofNat_of_zero_le hv.1
    obtain ⟨K, hK⟩ := few_l0 t step V N ht hs (by omega) (by omega) (by omega) N 0 t [] (by omega) rfl rfl
    refine ⟨K + 1, ?_⟩
    unfold manometerlaw08_XorFew.f
    rw [live08]
    simp only [Option.bind_some, if_true]
    rw [decide_eq_false h2]
    rw [manometerlaw08_XorFew.j0]
    rw [if_neg (by decide)]
    exact hK K (by omega)
end Go.Proofs.YtmllgglcdlcdhaaDoor.Pu
end
section
namespace Go.Proofs.YtmllgglcdlcdhaaDoor
open Go.RowKit
set_option linter.unusedVariables false
theorem table_reads {P : Program} {w : World} {name : String} {g n : Nat} {t e : TypeId} {k : IntKind} {zs : List Int} (h : Lib.VarReads P w name (.agg (zs.map fun z => .lit (.int k z)))) (hg : P.globalNamed name = some g) (ht : (P.globals[g]?).map (·.type) = some t)
    (ha : P.underlying t = some (.array n e)) (he : P.underlying e = some (.int k)) (hc : P.cellsOf e = 1) : ∀ i, i < n → w.cell? ⟨g, i, none⟩ = some (.int k (zs.getD i 0)) := by
  obtain ⟨g', t', cs, fuel, p, h1, h2, h3, h4⟩ := h
  obtain rfl := Option.some.inj (hg.symm.trans h1)
  obtain rfl := Option.some.inj (ht.symm.trans h2)
  intro i hi
  obtain ⟨f2, d, q, hd, htr⟩ := Lib.array_elem ha h4 i hi
  obtain ⟨z, hz, hx, _⟩ := DataW.trod_int he htr
  rw [List.getElem?_map] at hd
  obtain ⟨z', hz', hzd⟩ := Option.map_eq_some_iff.1 hd
  have hzz : z' = z := by
    have h5 : d = .lit (.int k z) := congrArg Prod.fst hx
    rw [h5] at hzd
    injection hzd with h6
    injection h6
  subst hzz
  rw [hc, Nat.mul_one] at hz
  have h7 : cs.toList[i]? = some (.int k z') := by
    have := congrArg (·[0]?) hz
    simpa [List.getElem?_take, List.getElem?_drop] using this
  have h8 := World.var?_cell h1 h3 i
  rw [h8, List.getD_eq_getElem?_getD, hz']
  simpa using h7
theorem laid_plain {P : Program} {w : World} {l : List (String × DataW Unit)} (h : laidMetH P l w) (hf : (l.filter fun x => x.2.handleName?.isSome).isEmpty = true) : laidMet P l w := by
  unfold laidMetH at h
  split at h
  · exact h
  · rename_i h2
    rw [h2] at hf
    cases hf
end Go.Proofs.YtmllgglcdlcdhaaDoor
end
section
namespace Go.Proofs.YtmllgglcdlcdhaaDoor
open Go Go.RowKit
set_option linter.unusedVariables false
set_option maxRecDepth 100000
theorem tab_of {w : World} (h : laidMetH Tryd.prog [("math/bits.deBruijn64tab", Rows.laid_math_bits_deBruijn64tab)] w) : Tab w := by
  intro j hj
  have hr := Lib.laidMet.reads (laid_plain h (by kernel_rfl)) (List.Mem.head _)
  have h := table_reads (zs := Lib.deBruijn64tab.map Int.ofNat) (show Lib.VarReads _ w _ (.agg ((Lib.deBruijn64tab.map Int.ofNat).map fun z => .lit (.int .u8 z))) from hr) (g := 0) (by kernel_rfl) (by kernel_rfl) Tryd.underlying113 Tryd.underlying5 (by kernel_rfl) j hj
  rw [h, List.getD_eq_getElem?_getD, List.getD_eq_getElem?_getD, List.getElem?_map, List.getElem?_eq_getElem hj]
  rfl
end Go.Proofs.YtmllgglcdlcdhaaDoor
end
