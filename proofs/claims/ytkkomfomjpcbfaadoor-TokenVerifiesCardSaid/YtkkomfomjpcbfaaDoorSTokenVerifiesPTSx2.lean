import Derived.Test.YtkkomfomjpcbfaaDoorSTokenVerifiesH14
import Derived.Laws.RangeAny
import Derived.Lib.OthersKept
import Derived.Test.YtkkomfomjpcbfaaDoorSTokenVerifiesE1
import Derived.Test.YtkkomfomjpcbfaaDoorSTokenVerifiesWGuard
import Derived.Test.YtkkomfomjpcbfaaDoorSTokenVerifiesTM
import Derived.Test.YtkkomfomjpcbfaaDoorSTokenVerifiesTT
import Derived.Test.YtkkomfomjpcbfaaDoorSTokenVerifiesY
namespace Go.Proofs.YtkkomfomjpcbfaaDoor.Bq
end Go.Proofs.YtkkomfomjpcbfaaDoor.Bq
set_option linter.unusedVariables false
set_option linter.unusedSimpArgs false
namespace Go.Proofs.YtkkomfomjpcbfaaDoor.PTS
open Go.RowKit Go.Proofs.YtkkomfomjpcbfaaDoorW.PrintWords Go.Proofs.YtkkomfomjpcbfaaDoorW.PrintLast Go.Proofs.YtkkomfomjpcbfaaDoorW.PrintMore
attribute [local go_sem] kQ kO kW kV kG kF kP kN
def labels_Named.f (a0 : ByteArray) : Option (Bool) := if a0.size ≤ 9223372036854775807 then some (namedB a0.data.toList) else none
theorem labels_Named.calls (a0 : ByteArray) (r : Bool) (w : World) (h : labels_Named.f a0 = some r) :
  Calls Tryd.prog 31 #[.string a0] w fun e w' => e = .returned (.bool r) ∧ Below w.heap.size w w' := by
 unfold labels_Named.f at h
 split at h
 ·rename_i hs
  obtain rfl := Option.some.inj h
  exact named_calls a0 w hs
 ·cases h
def token_Tenant.f (a0 : ByteArray) : Option (Bool) := if (a0.size : Int) ≤ 32 then ((labels_Named.f a0).bind fun t101 => (some t101)) else (some false)
set_option maxHeartbeats 8000000 in
set_option maxRecDepth 100000 in
theorem token_Tenant.calls (a0 : ByteArray) (r : Bool) (w : World) (h : token_Tenant.f a0 = some r) :
  Calls Tryd.prog 14 #[.string a0] w fun e w' => e = .returned (.bool r) ∧ Below w.heap.size w w' := by
 have HB := am_ (Below.refl w.heap.size w); have H : (if (a0.size : Int) ≤ 32 then ((labels_Named.f a0).bind fun t101 => (some t101)) else (some false)) = some r := h; clear h
 by_cases c2 : (a0.size : Int) ≤ 32
 ·rw [if_pos c2] at H; have c2b0 : decide ((a0.size : Int) ≤ 32) = true := decide_eq_true c2; have c2b1 : decide (a0.size ≤ 32) = true := decide_eq_true (by omega); clear c2; replace H := Option.bind_eq_some_iff.mp H; obtain ⟨t101, A30, H⟩ := H; have A3 := Aside0.mk A30; clear A30; obtain rfl := Option.some.inj H; go_enter Tryd.func14, Tryd.ntmps14
  go_wp2_with (first | (go_at_call 31; (with_reducible refine (labels_Named.calls a0 t101 _ A3.out).mono ?_); rintro e w4 ⟨rfl, hb⟩; replace HB := am_ (ke y1_ hb); (try clear hb); (try clear hb2); (try clear hk); (try clear hi)))
  go_ret
  exact ⟨y5_, y1_⟩
 ·rw [if_neg c2] at H; have c2b0 : decide ((a0.size : Int) ≤ 32) = false := decide_eq_false c2; have c2b1 : decide (a0.size ≤ 32) = false := decide_eq_false (by omega); clear c2; obtain rfl := Option.some.inj H; go_enter Tryd.func14, Tryd.ntmps14
  go_wp2
  go_ret
  exact ⟨y5_, y1_⟩
def token_Check.j0 : Nat → Bool → ByteArray → Int → Int → Int → Int → Option (Int)
 | 0, _, _, _, _, _, _ => none
 | k + 1, x8, x103000, x103001, x103002, x103003, x103004 => if x8 = true then (some 181) else (if x103003 < 1 then (some 1) else (if x103003 > 7 then (some 1) else (some 0)))
def token_Check.f (k : Nat) (a0_0 : ByteArray) (a0_1 : Int) (a0_2 : Int) (a0_3 : Int) (a0_4 : Int) : Option (Int) := (token_Tenant.f a0_0).bind fun t103 => (if t103 = true then (if a0_1 < 1 then (token_Check.j0 k true a0_0 a0_1 a0_2 a0_3 a0_4) else (token_Check.j0 k (decide (a0_1 > 99)) a0_0 a0_1 a0_2 a0_3 a0_4)) else (some 180))
theorem token_Check.mono_l : ∀ k, (∀ y0 y1 y2 y3 y4 y5, LeO (token_Check.j0 k y0 y1 y2 y3 y4 y5) (token_Check.j0 (k + 1) y0 y1 y2 y3 y4 y5))
 | 0 => fun _ _ _ _ _ _ r h => by simp [token_Check.j0] at h
 | k + 1 => by
  have ih0 := token_Check.mono_l k
  ·intro y0 y1 y2 y3 y4 y5
   unfold token_Check.j0
   repeat' first
   | (with_reducible exact ih0 _ _ _ _ _ _)
   | (with_reducible exact LeO.refl _)
   | (with_reducible exact LeO.none _)
   | (with_reducible refine LeO.ite ?_ ?_)
   | (with_reducible refine LeO.bind ?_ (fun _ => ?_))
   | exact ih0 _ _ _ _ _ _
   | exact LeO.none _
   | refine LeO.ite ?_ ?_
   | refine LeO.bind ?_ (fun _ => ?_)
theorem token_Check.mono : ∀ a0 a1 a2 a3 a4 k, LeO (token_Check.f k a0 a1 a2 a3 a4) (token_Check.f (k + 1) a0 a1 a2 a3 a4) := by
 intro a0 a1 a2 a3 a4 k; have ih0 := token_Check.mono_l k
 unfold token_Check.f
 repeat' first
   | (with_reducible exact ih0 _ _ _ _ _ _)
   | (with_reducible exact LeO.refl _)
   | (with_reducible exact LeO.none _)
   | (with_reducible refine LeO.ite ?_ ?_)
   | (with_reducible refine LeO.bind ?_ (fun _ => ?_))
   | exact ih0 _ _ _ _ _ _
   | exact LeO.none _
   | refine LeO.ite ?_ ?_
   | refine LeO.bind ?_ (fun _ => ?_)
set_option maxHeartbeats 8000000 in
set_option maxRecDepth 100000 in
theorem token_Check.calls (k : Nat) (a0_0 : ByteArray) (a0_1 : Int) (a0_2 : Int) (a0_3 : Int) (a0_4 : Int) (r : Int) (w : World) (h : token_Check.f k a0_0 a0_1 a0_2 a0_3 a0_4 = some r) :
  Calls Tryd.prog 12 #[.agg #[.string a0_0, .int .i64 a0_1, .int .i64 a0_2, .int .u8 a0_3, .int .u64 a0_4]] w fun e w' => e = .returned (.int .i64 r) ∧ Below w.heap.size w w' := by
 have hu26 := Tryd.underlying26; have HB := am_ (Below.refl w.heap.size w); have H : ((token_Tenant.f a0_0).bind fun t103 => (if t103 = true then (if a0_1 < 1 then (token_Check.j0 k true a0_0 a0_1 a0_2 a0_3 a0_4) else (token_Check.j0 k (decide (a0_1 > 99)) a0_0 a0_1 a0_2 a0_3 a0_4)) else (some 180))) = some r := h; clear h; replace H := Option.bind_eq_some_iff.mp H; obtain ⟨t103, A20, H⟩ := H; have A2 := Aside0.mk A20; clear A20
 by_cases c3 : t103 = true
 ·subst c3; rw [if_pos rfl] at H; have HC4 := Aside0.mk H; clear H; go_enter Tryd.func12, Tryd.ntmps12
  go_upto_region 3 with (first | ((with_reducible refine ko (N := 1) rfl ?_); refine kn ?hg (N := 1) ?hd (cs := #[.string a0_0, .int .i64 a0_1, .int .i64 a0_2, .int .u8 a0_3, .int .u64 a0_4]) (t := 26) ?hr ?_; (case hd => rfl); (case hg => rfl); (case hr => first | (go_simp; done) | (go_simp; rfl)); intro gb102 hg w5 hbox hb; have BK102 := am_ (hbox); have GW102 := am_ ((y31_ : w.heap.size ≤ gb102)); have GE102 := am_ ((y31_ : w.heap.size ≤ gb102)); replace HB := am_ (ke y1_ hb); clear hb hbox hg; obtain ⟨hcz6_0, hcz6_1, hcz6_2, hcz6_3, hcz6_4, hfz6_0, hfz6_1, hfz6_2, hfz6_3, hfz6_4⟩ := pd5_ BK102.out) | ((with_reducible refine kj (f := 14) rfl ?_); refine kw (some 6) rfl rfl Tryd.func14 (by kernel_rfl) rfl #[.string a0_0] rfl y2_ ?_; (with_reducible refine (token_Tenant.calls a0_0 true _ A2.out).mono ?_); rintro e w7 ⟨rfl, hb⟩; refine ⟨_, rfl, ?_⟩; replace BK102 := am_ (ki (g := gb102) (o := .cells #[.string a0_0, .int .i64 a0_1, .int .i64 a0_2, .int .u8 a0_3, .int .u64 a0_4] 26 (0, 0)) y100_ hb); replace HB := am_ (ke y43_ hb); (try clear hb); (try clear hb2); (try clear hk); (try clear hi)))
  (try simp only [Act.put, List.setIfInBounds_toArray, List.set_cons_zero, List.set_cons_succ]); go_cut [8] (fun v8 wc => ∃ (kq : Nat) (x8_3 : Bool), v8 = .bool x8_3 ∧ Aside0 (token_Check.j0 kq x8_3 a0_0 a0_1 a0_2 a0_3 a0_4 = some r) ∧ Aside0 (kq ≤ k) ∧ Aside0 (wc.heap[gb102]? = some (.cells #[.string a0_0, .int .i64 a0_1, .int .i64 a0_2, .int .u8 a0_3, .int .u64 a0_4] 26 (0, 0))) ∧ Aside0 (Below w.heap.size w wc))
  case first =>
   have H := HC4.out; clear HC4
   by_cases c8 : a0_1 < 1
   ·rw [if_pos c8] at H; have c8b0 : decide (a0_1 < 1) = true := decide_eq_true c8; clear c8; (first | rw [c8b0] | (simp only [kT, i32_w]; rw [c8b0]) | skip); have H' := Aside0.mk H; clear H; obtain ⟨hcz9_0, hcz9_1, hcz9_2, hcz9_3, hcz9_4, hfz9_0, hfz9_1, hfz9_2, hfz9_3, hfz9_4⟩ := pd5_ BK102.out
    go_wp2
    go_meet
    case rel => exact ⟨_, (true), y3_, H', ⟨y89_⟩, ⟨y100_⟩, ⟨y43_⟩⟩
   ·rw [if_neg c8] at H; have c8b0 : decide (a0_1 < 1) = false := decide_eq_false c8; clear c8; (first | rw [c8b0] | (simp only [kT, i32_w]; rw [c8b0]) | skip); have H' := Aside0.mk H; clear H; obtain ⟨hcz10_0, hcz10_1, hcz10_2, hcz10_3, hcz10_4, hfz10_0, hfz10_1, hfz10_2, hfz10_3, hfz10_4⟩ := pd5_ BK102.out
    go_wp2
    go_meet
    case rel => exact ⟨_, (decide (a0_1 > 99)), y3_, H', ⟨y89_⟩, ⟨y100_⟩, ⟨y43_⟩⟩
  case rest =>
   clear HC4
   try clear c1
   try clear p2
   try clear c3
   try clear c8
   try clear c8b0
   try clear hcz10_0
   try clear hcz10_1
   try clear hcz10_2
   try clear hcz10_3
   try clear hcz10_4
   try clear hcz6_0
   try clear hcz6_1
   try clear hcz6_2
   try clear hcz6_3
   try clear hcz6_4
   try clear hcz9_0
   try clear hcz9_1
   try clear hcz9_2
   try clear hcz9_3
   try clear hcz9_4
   try clear hfz10_0
   try clear hfz10_1
   try clear hfz10_2
   try clear hfz10_3
   try clear hfz10_4
   try clear hfz6_0
   try clear hfz6_1
   try clear hfz6_2
   try clear hfz6_3
   try clear hfz6_4
   try clear hfz9_0
   try clear hfz9_1
   try clear hfz9_2
   try clear hfz9_3
   try clear hfz9_4
   obtain ⟨kq, x8_3, rfl, HA, HJ3, BK102, HB⟩ := hcut
   cases kq with
   | zero => exact absurd HA.out (by simp [token_Check.j0])
   | succ kj3 =>
    have H := HA.out; clear HA; simp only [token_Check.j0] at H
    by_cases c11 : x8_3 = true
    ·subst c11; rw [if_pos rfl] at H; obtain rfl := Option.some.inj H
     go_wp2
     go_ret
     exact ⟨y5_, y43_⟩
    ·replace c11 := Bool.eq_false_iff.mpr c11; subst c11; rw [if_neg (show ¬ (false = true) by decide)] at H
     by_cases c12 : a0_3 < 1
     ·rw [if_pos c12] at H; have c12b0 : decide (a0_3 < 1) = true := decide_eq_true c12; clear c12; obtain rfl := Option.some.inj H; obtain ⟨hcz13_0, hcz13_1, hcz13_2, hcz13_3, hcz13_4, hfz13_0, hfz13_1, hfz13_2, hfz13_3, hfz13_4⟩ := pd5_ BK102.out
      go_wp2
      go_ret
      exact ⟨y5_, y43_⟩
     ·rw [if_neg c12] at H; have c12b0 : decide (a0_3 < 1) = false := decide_eq_false c12; clear c12
      by_cases c14 : a0_3 > 7
      ·rw [if_pos c14] at H; have c14b0 : decide (7 < a0_3) = true := decide_eq_true c14; clear c14; obtain rfl := Option.some.inj H; obtain ⟨hcz15_0, hcz15_1, hcz15_2, hcz15_3, hcz15_4, hfz15_0, hfz15_1, hfz15_2, hfz15_3, hfz15_4⟩ := pd5_ BK102.out
       go_wp2
       go_ret
       exact ⟨y5_, y43_⟩
      ·rw [if_neg c14] at H; have c14b0 : decide (7 < a0_3) = false := decide_eq_false c14; clear c14; obtain rfl := Option.some.inj H; obtain ⟨hcz16_0, hcz16_1, hcz16_2, hcz16_3, hcz16_4, hfz16_0, hfz16_1, hfz16_2, hfz16_3, hfz16_4⟩ := pd5_ BK102.out
       go_wp2
       go_ret
       exact ⟨y5_, y43_⟩
 ·replace c3 := Bool.eq_false_iff.mpr c3; subst c3; rw [if_neg (show ¬ (false = true) by decide)] at H; obtain rfl := Option.some.inj H; go_enter Tryd.func12, Tryd.ntmps12
  go_wp2_with (first | ((with_reducible refine ko (N := 1) rfl ?_); refine kn ?hg (N := 1) ?hd (cs := #[.string a0_0, .int .i64 a0_1, .int .i64 a0_2, .int .u8 a0_3, .int .u64 a0_4]) (t := 26) ?hr ?_; (case hd => rfl); (case hg => rfl); (case hr => first | (go_simp; done) | (go_simp; rfl)); intro gb102 hg w17 hbox hb; have BK102 := am_ (hbox); have GW102 := am_ ((y31_ : w.heap.size ≤ gb102)); have GE102 := am_ ((y31_ : w.heap.size ≤ gb102)); replace HB := am_ (ke y1_ hb); clear hb hbox hg; obtain ⟨hcz18_0, hcz18_1, hcz18_2, hcz18_3, hcz18_4, hfz18_0, hfz18_1, hfz18_2, hfz18_3, hfz18_4⟩ := pd5_ BK102.out) | ((with_reducible refine kj (f := 14) rfl ?_); refine kw (some 6) rfl rfl Tryd.func14 (by kernel_rfl) rfl #[.string a0_0] rfl y2_ ?_; (with_reducible refine (token_Tenant.calls a0_0 false _ A2.out).mono ?_); rintro e w19 ⟨rfl, hb⟩; refine ⟨_, rfl, ?_⟩; replace BK102 := am_ (ki (g := gb102) (o := .cells #[.string a0_0, .int .i64 a0_1, .int .i64 a0_2, .int .u8 a0_3, .int .u64 a0_4] 26 (0, 0)) y100_ hb); replace HB := am_ (ke y43_ hb); (try clear hb); (try clear hb2); (try clear hk); (try clear hi)))
  go_ret
  exact ⟨y5_, y43_⟩
def token_Keyed.f (a0_0 : Int) (a0_1 : ByteArray) : Option (Bool) := if a0_0 ≥ 1 then (if a0_0 ≤ 99 then (if (a0_1.size : Int) ≥ 16 then (some (decide ((a0_1.size : Int) ≤ 64))) else (some false)) else (some false)) else (some false)
set_option maxHeartbeats 8000000 in
set_option maxRecDepth 100000 in
theorem token_Keyed.calls (a0_0 : Int) (a0_1 : ByteArray) (r : Bool) (w : World) (h : token_Keyed.f a0_0 a0_1 = some r) :
  Calls Tryd.prog 16 #[.agg #[.int .i64 a0_0, .string a0_1]] w fun e w' => e = .returned (.bool r) ∧ Below w.heap.size w w' := by
 have hu23 := Tryd.underlying23; have HB := am_ (Below.refl w.heap.size w); have H : (if a0_0 ≥ 1 then (if a0_0 ≤ 99 then (if (a0_1.size : Int) ≥ 16 then (some (decide ((a0_1.size : Int) ≤ 64))) else (some false)) else (some false)) else (some false)) = some r := h; clear h
 by_cases c2 : a0_0 ≥ 1
 ·rw [if_pos c2] at H; have c2b0 : decide (1 ≤ a0_0) = true := decide_eq_true c2; clear c2
  by_cases c3 : a0_0 ≤ 99
  ·rw [if_pos c3] at H; have c3b0 : decide (a0_0 ≤ 99) = true := decide_eq_true c3; clear c3
   by_cases c4 : (a0_1.size : Int) ≥ 16
   ·rw [if_pos c4] at H; have c4b0 : decide (16 ≤ (a0_1.size : Int)) = true := decide_eq_true c4; have c4b1 : decide (16 ≤ a0_1.size) = true := decide_eq_true (by omega); clear c4; obtain rfl := Option.some.inj H; go_enter Tryd.func16, Tryd.ntmps16
    go_wp2_with (first | ((with_reducible refine ko (N := 1) rfl ?_); (try (refine kx (by rfl) ?_; dsimp only)); refine kn ?hg (N := 1) ?hd (cs := #[.int .i64 a0_0, .string a0_1]) (t := 23) ?hr ?_; (case hd => rfl); (case hg => rfl); (case hr => first | (go_simp; done) | (go_simp; rfl)); intro gb104 hg w5 hbox hb; have BK104 := am_ (hbox); have GW104 := am_ ((y31_ : w.heap.size ≤ gb104)); have GE104 := am_ ((y31_ : w.heap.size ≤ gb104)); replace HB := am_ (ke y1_ hb); clear hb hbox hg; obtain ⟨hcz6_0, hcz6_1, hfz6_0, hfz6_1⟩ := pd2_ BK104.out))
    go_ret
    exact ⟨y5_, y91_⟩
   ·rw [if_neg c4] at H; have c4b0 : decide (16 ≤ (a0_1.size : Int)) = false := decide_eq_false c4; have c4b1 : decide (16 ≤ a0_1.size) = false := decide_eq_false (by omega); clear c4; obtain rfl := Option.some.inj H; go_enter Tryd.func16, Tryd.ntmps16
    go_wp2_with (first | ((with_reducible refine ko (N := 1) rfl ?_); (try (refine kx (by rfl) ?_; dsimp only)); refine kn ?hg (N := 1) ?hd (cs := #[.int .i64 a0_0, .string a0_1]) (t := 23) ?hr ?_; (case hd => rfl); (case hg => rfl); (case hr => first | (go_simp; done) | (go_simp; rfl)); intro gb104 hg w7 hbox hb; have BK104 := am_ (hbox); have GW104 := am_ ((y31_ : w.heap.size ≤ gb104)); have GE104 := am_ ((y31_ : w.heap.size ≤ gb104)); replace HB := am_ (ke y1_ hb); clear hb hbox hg; obtain ⟨hcz8_0, hcz8_1, hfz8_0, hfz8_1⟩ := pd2_ BK104.out))
    go_ret
    exact ⟨y5_, y91_⟩
  ·rw [if_neg c3] at H; have c3b0 : decide (a0_0 ≤ 99) = false := decide_eq_false c3; clear c3; obtain rfl := Option.some.inj H; go_enter Tryd.func16, Tryd.ntmps16
   go_wp2_with (first | ((with_reducible refine ko (N := 1) rfl ?_); (try (refine kx (by rfl) ?_; dsimp only)); refine kn ?hg (N := 1) ?hd (cs := #[.int .i64 a0_0, .string a0_1]) (t := 23) ?hr ?_; (case hd => rfl); (case hg => rfl); (case hr => first | (go_simp; done) | (go_simp; rfl)); intro gb104 hg w9 hbox hb; have BK104 := am_ (hbox); have GW104 := am_ ((y31_ : w.heap.size ≤ gb104)); have GE104 := am_ ((y31_ : w.heap.size ≤ gb104)); replace HB := am_ (ke y1_ hb); clear hb hbox hg; obtain ⟨hcz10_0, hcz10_1, hfz10_0, hfz10_1⟩ := pd2_ BK104.out))
   go_ret
   exact ⟨y5_, y91_⟩
 ·rw [if_neg c2] at H; have c2b0 : decide (1 ≤ a0_0) = false := decide_eq_false c2; clear c2; obtain rfl := Option.some.inj H; go_enter Tryd.func16, Tryd.ntmps16
  go_wp2_with (first | ((with_reducible refine ko (N := 1) rfl ?_); (try (refine kx (by rfl) ?_; dsimp only)); refine kn ?hg (N := 1) ?hd (cs := #[.int .i64 a0_0, .string a0_1]) (t := 23) ?hr ?_; (case hd => rfl); (case hg => rfl); (case hr => first | (go_simp; done) | (go_simp; rfl)); intro gb104 hg w11 hbox hb; have BK104 := am_ (hbox); have GW104 := am_ ((y31_ : w.heap.size ≤ gb104)); have GE104 := am_ ((y31_ : w.heap.size ≤ gb104)); replace HB := am_ (ke y1_ hb); clear hb hbox hg; obtain ⟨hcz12_0, hcz12_1, hfz12_0, hfz12_1⟩ := pd2_ BK104.out))
  go_ret
  exact ⟨y5_, y91_⟩
def bits_PutUvarint.l0 : Nat → Int → List Int → Option (List Int)
 | 0, _, _ => none
 | k + 1, x0, x3 => if x0 > 127 then (if x3.length < 140737488355328 then (bits_PutUvarint.l0 k (x0 / 128) (x3 ++ [Go.bits .or .u8 ((x0) % 256) 128])) else (none)) else (if x3.length < 140737488355328 then (some (x3 ++ [(x0) % 256])) else (none))
def bits_PutUvarint.f (k : Nat) (a0 : Int) : Option (List Int) := if 10 ≤ 281474976710656 then (bits_PutUvarint.l0 k a0 (List.replicate 0 0)) else (none)
theorem bits_PutUvarint.mono_l : ∀ k, (∀ y0 y1, LeO (bits_PutUvarint.l0 k y0 y1) (bits_PutUvarint.l0 (k + 1) y0 y1))
 | 0 => fun _ _ r h => by simp [bits_PutUvarint.l0] at h
 | k + 1 => by
  have ih0 := bits_PutUvarint.mono_l k
  ·intro y0 y1
   unfold bits_PutUvarint.l0
   repeat' first
   | (with_reducible exact ih0 _ _)
   | (with_reducible exact LeO.refl _)
   | (with_reducible exact LeO.none _)
   | (with_reducible refine LeO.ite ?_ ?_)
   | (with_reducible refine LeO.bind ?_ (fun _ => ?_))
   | exact ih0 _ _
   | exact LeO.none _
   | refine LeO.ite ?_ ?_
   | refine LeO.bind ?_ (fun _ => ?_)
theorem bits_PutUvarint.mono : ∀ a0 k, LeO (bits_PutUvarint.f k a0) (bits_PutUvarint.f (k + 1) a0) := by
 intro a0 k; have ih0 := bits_PutUvarint.mono_l k
 unfold bits_PutUvarint.f
 repeat' first
   | (with_reducible exact ih0 _ _)
   | (with_reducible exact LeO.refl _)
   | (with_reducible exact LeO.none _)
   | (with_reducible refine LeO.ite ?_ ?_)
   | (with_reducible refine LeO.bind ?_ (fun _ => ?_))
   | exact ih0 _ _
   | exact LeO.none _
   | refine LeO.ite ?_ ?_
   | refine LeO.bind ?_ (fun _ => ?_)
set_option maxHeartbeats 8000000 in
set_option maxRecDepth 100000 in
theorem bits_PutUvarint.calls (k : Nat) (a0 : Int) (r : List Int) (w : World) (h : bits_PutUvarint.f k a0 = some r) :
  Calls Tryd.prog 40 #[.int .u64 a0] w fun e w' => ∃ v0_ : Value, e = .returned (v0_) ∧ Kd.R (Kd.int .u8) 5 w' w.heap.size (fun _ => True) v0_ r ∧ Below w.heap.size w w' := by
 have HB := am_ (Below.refl w.heap.size w); have H : (if 10 ≤ 281474976710656 then (bits_PutUvarint.l0 k a0 (List.replicate 0 0)) else (none)) = some r := h; clear h
 by_cases c2 : 10 ≤ 281474976710656
 ·rw [if_pos c2] at H; have c2b0 := eq_true c2; have c2b1 : decide (10 ≤ 281474976710656) = true := decide_eq_true c2; clear c2; obtain ⟨y105, hy105⟩ : ∃ y_ : List Int, y_ = (List.replicate 0 0) := ⟨_, rfl⟩
  replace H : (bits_PutUvarint.l0 k a0 y105) = some r := by first | (rw [hy105]; with_reducible exact H) | (have H2_ := (Option.bind_some _ _).symm.trans H; rw [hy105]; with_reducible exact H2_) | (have H2_ := (Option.bind_some _ _).symm.trans H; with_reducible exact H2_) | with_reducible exact H | (rw [hy105]; exact H) | exact H
  have Ny105 := Aside0.mk hy105; clear hy105; have H' := Aside0.mk H; clear H; go_enter Tryd.func40, Tryd.ntmps40
  go_wp2_with (first | ((with_reducible refine ko (N := 4) rfl ?_); refine Kd.R_make0 (Kd.int .u8) _ 5 rfl (N := 4) rfl 45 _ _ rfl 10 rfl rfl Tryd.underlying45 (.int .u8 0) 1 info5 rfl (by decide) (by omega) 0 (ok := fun _ => True) (okp := fun _ => True) rfl (fun _ hk => hk) trivial (by omega) (by omega) (Below.refl _ _) (Nat.le_refl _) ?_; intro v106 w3 ho4 hb hg_ hnew_; clear hg_ hnew_; (first | rw [← Ny105.out] at ho4 | (simp only [Int.reduceToNat] at ho4; rw [← Ny105.out] at ho4)); have HO107 := am_ (Kd.R_lower ho4 (km y1_)); replace HB := am_ (ke y1_ hb); clear hb ho4))
  go_loopg [0, 3] k (fun kq v0 v3 w' => ∃ (x0_1 : Int) (x3_1 : List Int), v0 = .int .u64 x0_1 ∧ Aside0 (bits_PutUvarint.l0 kq x0_1 x3_1 = some r) ∧ Aside0 (kq ≤ k) ∧ Aside0 (Kd.R (Kd.int .u8) 5 w' w.heap.size (fun _ => True) v3 x3_1) ∧ Aside0 (Below w.heap.size w w'))
  case atStart => exact ⟨(a0), (y105), y3_, H', ⟨Nat.le_refl _⟩, ⟨by (with_reducible repeat (first | apply Kd.R_alloc | apply Kd.R_drewN | apply Kd.R_drew)); exact HO107.out⟩, ⟨y1_⟩⟩
  case round =>
   clear H'
   try clear c2
   try clear c2b0
   try clear c2b1
   try clear p2
   try clear c4
   obtain ⟨x0_1, x3_1, rfl, HA, HK1, HO_3, HB⟩ := hrel
   cases gk with
   | zero => exact absurd HA.out (by simp [bits_PutUvarint.l0])
   | succ k1 =>
    have H := HA.out; clear HA; simp only [bits_PutUvarint.l0] at H
    by_cases c5 : x0_1 > 127
    ·rw [if_pos c5] at H; have c5b0 : decide (127 < x0_1) = true := decide_eq_true c5; clear c5
     by_cases c6 : x3_1.length < 140737488355328
     ·rw [if_pos c6] at H; have LMc6 := Aside0.mk c6; clear c6; obtain ⟨y108, hy108⟩ : ∃ y_ : List Int, y_ = (x3_1 ++ [Go.bits .or .u8 ((x0_1) % 256) 128]) := ⟨_, rfl⟩
      replace H : (bits_PutUvarint.l0 k1 (x0_1 / 128) y108) = some r := by first | (rw [hy108]; with_reducible exact H) | (have H2_ := (Option.bind_some _ _).symm.trans H; rw [hy108]; with_reducible exact H2_) | (have H2_ := (Option.bind_some _ _).symm.trans H; with_reducible exact H2_) | with_reducible exact H | (rw [hy108]; exact H) | exact H
      have Ny108 := Aside0.mk hy108; clear hy108; have H' := Aside0.mk H; clear H
      go_wp2_with (first | ((with_reducible refine kS (b := .append) (xs := #[.tmp 7, .tmp 11]) rfl ?_); at_builtin; refine Kd.R_append (Kd.int .u8) (w0 := w) w.heap.size rfl (.tmp 7) (.tmp 11) 45 5 (.int .u8 0) 1 rfl Tryd.underlying45 info5 rfl (by decide) (by omega) u3 x3_1 (Go.bits .or .u8 ((x0_1) % 256) 128) [.int .u8 (Go.bits .or .u8 ((x0_1) % 256) 128)] (fun _ => True) (fun _ => False) rfl rfl ?aP (fun _ hk => hk.elim) ?aF ?aO ?aB ?aS ?aL ?_; (case aP => exact rfl); (case aB => exact y1_); (case aF => exact (fun _ _ => trivial)); (case aO => exact y88_); (case aS => exact (km y1_)); (case aL => have := LMc6.out; omega); intro v109 w7 ho hb hg hat; rw [← Ny108.out] at ho; have n0_ := am_ (hb); have n1_ := am_ (ho); clear HB; clear HO_3; have HB := n0_; have HO110 := n1_; clear n0_ n1_; clear ho hb hg hat))
      go_roundg k1
      case measure => have := HK1.out; omega
      case rel => exact ⟨(x0_1 / 128), (y108), y3_, H', ⟨y124_⟩, ⟨by (with_reducible repeat (first | apply Kd.R_alloc | apply Kd.R_drewN | apply Kd.R_drew)); exact HO110.out⟩, ⟨y1_⟩⟩
     ·rw [if_neg c6] at H
      exact absurd H (by simp)
    ·rw [if_neg c5] at H; have c5b0 : decide (127 < x0_1) = false := decide_eq_false c5; clear c5
     by_cases c8 : x3_1.length < 140737488355328
     ·rw [if_pos c8] at H; have LMc8 := Aside0.mk c8; clear c8; obtain ⟨y111, hy111⟩ : ∃ y_ : List Int, y_ = (x3_1 ++ [(x0_1) % 256]) := ⟨_, rfl⟩
      replace H : (some y111) = some r := by first | (rw [hy111]; with_reducible exact H) | (have H2_ := (Option.bind_some _ _).symm.trans H; rw [hy111]; with_reducible exact H2_) | (have H2_ := (Option.bind_some _ _).symm.trans H; with_reducible exact H2_) | with_reducible exact H | (rw [hy111]; exact H) | exact H
      have Ny111 := Aside0.mk hy111; clear hy111; obtain rfl := Option.some.inj H
      go_wp2_with (first | ((with_reducible refine kS (b := .append) (xs := #[.tmp 15, .tmp 18]) rfl ?_); at_builtin; refine Kd.R_append (Kd.int .u8) (w0 := w) w.heap.size rfl (.tmp 15) (.tmp 18) 45 5 (.int .u8 0) 1 rfl Tryd.underlying45 info5 rfl (by decide) (by omega) u3 x3_1 ((x0_1) % 256) [.int .u8 ((x0_1) % 256)] (fun _ => True) (fun _ => False) rfl rfl ?aP (fun _ hk => hk.elim) ?aF ?aO ?aB ?aS ?aL ?_; (case aP => exact rfl); (case aB => exact y1_); (case aF => exact (fun _ _ => trivial)); (case aO => exact y88_); (case aS => exact (km y1_)); (case aL => have := LMc8.out; omega); intro v112 w9 ho hb hg hat; rw [← Ny111.out] at ho; have n0_ := am_ (hb); have n1_ := am_ (ho); clear HB; clear HO_3; have HB := n0_; have HO113 := n1_; clear n0_ n1_; clear ho hb hg hat))
      go_ret
      exact ⟨_, y5_, by (with_reducible repeat (first | apply Kd.R_alloc | apply Kd.R_drewN | apply Kd.R_drew)); exact HO113.out, y1_⟩
     ·rw [if_neg c8] at H
      exact absurd H (by simp)
 ·rw [if_neg c2] at H
  exact absurd H (by simp)
def bits_Zig.f (a0 : Int) : Option (Int) := some (Go.bits .xor .u64 (IntKind.u64.wrap (wrap64 (a0 * 2))) (IntKind.u64.wrap (a0 / 9223372036854775808)))
set_option maxHeartbeats 8000000 in
set_option maxRecDepth 100000 in
theorem bits_Zig.calls (a0 : Int) (r : Int) (w : World) (h : bits_Zig.f a0 = some r) :
  Calls Tryd.prog 64 #[.int .i64 a0] w fun e w' => e = .returned (.int .u64 r) ∧ Drawn0 w w' := by
 have H : (some (Go.bits .xor .u64 (IntKind.u64.wrap (wrap64 (a0 * 2))) (IntKind.u64.wrap (a0 / 9223372036854775808)))) = some r := h; clear h; obtain rfl := Option.some.inj H; go_enter Tryd.func64, Tryd.ntmps64
 go_wp2
 go_ret
 exact ⟨y24_, y6_⟩
def bits_PutVarint.f (k : Nat) (a0 : Int) : Option (List Int) := (bits_Zig.f a0).bind fun t114 => ((bits_PutUvarint.f k t114).bind fun t115 => (some t115))
theorem bits_PutVarint.mono : ∀ a0 k, LeO (bits_PutVarint.f k a0) (bits_PutVarint.f (k + 1) a0) := by
 intro a0 k
 unfold bits_PutVarint.f
 repeat' first
   | (with_reducible exact bits_PutUvarint.mono _ _)
   | (with_reducible exact LeO.refl _)
   | (with_reducible exact LeO.none _)
   | (with_reducible refine LeO.ite ?_ ?_)
   | (with_reducible refine LeO.bind ?_ (fun _ => ?_))
   | exact bits_PutUvarint.mono _ _
   | exact LeO.none _
   | refine LeO.ite ?_ ?_
   | refine LeO.bind ?_ (fun _ => ?_)
set_option maxHeartbeats 8000000 in
set_option maxRecDepth 100000 in
theorem bits_PutVarint.calls (k : Nat) (a0 : Int) (r : List Int) (w : World) (h : bits_PutVarint.f k a0 = some r) :
  Calls Tryd.prog 41 #[.int .i64 a0] w fun e w' => ∃ v0_ : Value, e = .returned (v0_) ∧ Kd.R (Kd.int .u8) 5 w' w.heap.size (fun _ => True) v0_ r ∧ Below w.heap.size w w' := by
 have HB := am_ (Below.refl w.heap.size w); have H : ((bits_Zig.f a0).bind fun t114 => ((bits_PutUvarint.f k t114).bind fun t115 => (some t115))) = some r := h; clear h; replace H := Option.bind_eq_some_iff.mp H; obtain ⟨t114, A20, H⟩ := H; have A2 := Aside0.mk A20; clear A20; replace H := Option.bind_eq_some_iff.mp H; obtain ⟨t115, A30, H⟩ := H; have A3 := Aside0.mk A30; clear A30; obtain rfl := Option.some.inj H; go_enter Tryd.func41, Tryd.ntmps41
 go_wp2_with (first | ((with_reducible refine kj (f := 64) rfl ?_); refine kw (some 4) rfl rfl Tryd.func64 (by kernel_rfl) rfl #[.int .i64 a0] rfl y2_ ?_; (with_reducible refine (bits_Zig.calls a0 t114 _ A2.out).mono ?_); rintro e w' ⟨rfl, ⟨nd, rfl⟩⟩; refine ⟨_, rfl, ?_⟩) | ((with_reducible refine kj (f := 40) rfl ?_); refine kw (some 5) rfl rfl Tryd.func40 (by kernel_rfl) rfl #[.int .u64 t114] rfl y2_ ?_; (with_reducible refine (bits_PutUvarint.calls k t114 t115 _ A3.out).mono ?_); rintro e w4 ⟨v116, rfl, ho0, hb⟩; refine ⟨_, rfl, ?_⟩; have HO117 := am_ (Kd.R_lower ho0 (km y1_)); replace HB := am_ (ke y1_ hb); (try clear hb); (try clear hb2); (try clear hk); (try clear hi); (try clear ho0)))
 go_ret
 exact ⟨_, y5_, by (with_reducible repeat (first | apply Kd.R_alloc | apply Kd.R_drewN | apply Kd.R_drew)); exact HO117.out, y1_⟩
def token_body.f (k : Nat) (a0_0 : ByteArray) (a0_1 : Int) (a0_2 : Int) (a0_3 : Int) (a0_4 : Int) : Option (List Int) := (bits_PutUvarint.f k (IntKind.u64.wrap ((a0_0.size : Int)))).bind fun t119 => (if t119.length + a0_0.size < 140737488355328 then ((some (t119 ++ bytesOf a0_0 : List Int)).bind fun y122 => ((bits_PutUvarint.f k (IntKind.u64.wrap (a0_1))).bind fun t125 => (if y122.length + t125.length < 140737488355328 then ((some (y122 ++ t125 : List Int)).bind fun y128 => ((bits_PutVarint.f k a0_2).bind fun t131 => (if y128.length + t131.length < 140737488355328 then ((some (y128 ++ t131 : List Int)).bind fun y134 => (if y134.length < 140737488355328 then ((some (y134 ++ [a0_3] : List Int)).bind fun y137 => ((bits_PutUvarint.f k a0_4).bind fun t140 => (if y137.length + t140.length < 140737488355328 then (some (y137 ++ t140)) else (none)))) else (none))) else (none)))) else (none)))) else (none))
theorem token_body.mono : ∀ a0 a1 a2 a3 a4 k, LeO (token_body.f k a0 a1 a2 a3 a4) (token_body.f (k + 1) a0 a1 a2 a3 a4) := by
 intro a0 a1 a2 a3 a4 k
 unfold token_body.f
 repeat' first
   | (with_reducible exact bits_PutUvarint.mono _ _)
   | (with_reducible exact bits_PutVarint.mono _ _)
   | (with_reducible exact LeO.refl _)
   | (with_reducible exact LeO.none _)
   | (with_reducible refine LeO.ite ?_ ?_)
   | (with_reducible refine LeO.bind ?_ (fun _ => ?_))
   | exact bits_PutUvarint.mono _ _
   | exact bits_PutVarint.mono _ _
   | exact LeO.none _
   | refine LeO.ite ?_ ?_
   | refine LeO.bind ?_ (fun _ => ?_)
set_option maxHeartbeats 8000000 in
set_option maxRecDepth 100000 in
theorem token_body.calls (k : Nat) (a0_0 : ByteArray) (a0_1 : Int) (a0_2 : Int) (a0_3 : Int) (a0_4 : Int) (r : List Int) (w : World) (h : token_body.f k a0_0 a0_1 a0_2 a0_3 a0_4 = some r) :
  Calls Tryd.prog 26 #[.agg #[.string a0_0, .int .i64 a0_1, .int .i64 a0_2, .int .u8 a0_3, .int .u64 a0_4]] w fun e w' => ∃ v0_ : Value, e = .returned (v0_) ∧ Kd.R (Kd.int .u8) 5 w' w.heap.size (fun _ => True) v0_ r ∧ Below w.heap.size w w' := by
 have hu26 := Tryd.underlying26; have HB := am_ (Below.refl w.heap.size w); have H : ((bits_PutUvarint.f k (IntKind.u64.wrap ((a0_0.size : Int)))).bind fun t119 => (if t119.length + a0_0.size < 140737488355328 then ((some (t119 ++ bytesOf a0_0 : List Int)).bind fun y122 => ((bits_PutUvarint.f k (IntKind.u64.wrap (a0_1))).bind fun t125 => (if y122.length + t125.length < 140737488355328 then ((some (y122 ++ t125 : List Int)).bind fun y128 => ((bits_PutVarint.f k a0_2).bind fun t131 => (if y128.length + t131.length < 140737488355328 then ((some (y128 ++ t131 : List Int)).bind fun y134 => (if y134.length < 140737488355328 then ((some (y134 ++ [a0_3] : List Int)).bind fun y137 => ((bits_PutUvarint.f k a0_4).bind fun t140 => (if y137.length + t140.length < 140737488355328 then (some (y137 ++ t140)) else (none)))) else (none))) else (none)))) else (none)))) else (none))) = some r := h; clear h; replace H := Option.bind_eq_some_iff.mp H; obtain ⟨t119, A20, H⟩ := H; have A2 := Aside0.mk A20; clear A20
 by_cases c3 : t119.length + a0_0.size < 140737488355328
 ·rw [if_pos c3] at H; have LMc3 := Aside0.mk c3; clear c3; obtain ⟨y122, hy122⟩ : ∃ y_ : List Int, y_ = (t119 ++ bytesOf a0_0) := ⟨_, rfl⟩
  replace H : ((bits_PutUvarint.f k (IntKind.u64.wrap (a0_1))).bind fun t125 => (if y122.length + t125.length < 140737488355328 then ((some (y122 ++ t125 : List Int)).bind fun y128 => ((bits_PutVarint.f k a0_2).bind fun t131 => (if y128.length + t131.length < 140737488355328 then ((some (y128 ++ t131 : List Int)).bind fun y134 => (if y134.length < 140737488355328 then ((some (y134 ++ [a0_3] : List Int)).bind fun y137 => ((bits_PutUvarint.f k a0_4).bind fun t140 => (if y137.length + t140.length < 140737488355328 then (some (y137 ++ t140)) else (none)))) else (none))) else (none)))) else (none))) = some r := by first | (rw [hy122]; with_reducible exact H) | (have H2_ := (Option.bind_some _ _).symm.trans H; rw [hy122]; with_reducible exact H2_) | (have H2_ := (Option.bind_some _ _).symm.trans H; with_reducible exact H2_) | with_reducible exact H | (rw [hy122]; exact H) | exact H
  have Ny122 := Aside0.mk hy122; clear hy122; replace H := Option.bind_eq_some_iff.mp H; obtain ⟨t125, A40, H⟩ := H; have A4 := Aside0.mk A40; clear A40
  by_cases c5 : y122.length + t125.length < 140737488355328
  ·rw [if_pos c5] at H; have LMc5 := Aside0.mk c5; clear c5; obtain ⟨y128, hy128⟩ : ∃ y_ : List Int, y_ = (y122 ++ t125) := ⟨_, rfl⟩
   replace H : ((bits_PutVarint.f k a0_2).bind fun t131 => (if y128.length + t131.length < 140737488355328 then ((some (y128 ++ t131 : List Int)).bind fun y134 => (if y134.length < 140737488355328 then ((some (y134 ++ [a0_3] : List Int)).bind fun y137 => ((bits_PutUvarint.f k a0_4).bind fun t140 => (if y137.length + t140.length < 140737488355328 then (some (y137 ++ t140)) else (none)))) else (none))) else (none))) = some r := by first | (rw [hy128]; with_reducible exact H) | (have H2_ := (Option.bind_some _ _).symm.trans H; rw [hy128]; with_reducible exact H2_) | (have H2_ := (Option.bind_some _ _).symm.trans H; with_reducible exact H2_) | with_reducible exact H | (rw [hy128]; exact H) | exact H
   have Ny128 := Aside0.mk hy128; clear hy128; replace H := Option.bind_eq_some_iff.mp H; obtain ⟨t131, A60, H⟩ := H; have A6 := Aside0.mk A60; clear A60
   by_cases c7 : y128.length + t131.length < 140737488355328
   ·rw [if_pos c7] at H; have LMc7 := Aside0.mk c7; clear c7; obtain ⟨y134, hy134⟩ : ∃ y_ : List Int, y_ = (y128 ++ t131) := ⟨_, rfl⟩
    replace H : (if y134.length < 140737488355328 then ((some (y134 ++ [a0_3] : List Int)).bind fun y137 => ((bits_PutUvarint.f k a0_4).bind fun t140 => (if y137.length + t140.length < 140737488355328 then (some (y137 ++ t140)) else (none)))) else (none)) = some r := by first | (rw [hy134]; with_reducible exact H) | (have H2_ := (Option.bind_some _ _).symm.trans H; rw [hy134]; with_reducible exact H2_) | (have H2_ := (Option.bind_some _ _).symm.trans H; with_reducible exact H2_) | with_reducible exact H | (rw [hy134]; exact H) | exact H
    have Ny134 := Aside0.mk hy134; clear hy134
    by_cases c8 : y134.length < 140737488355328
    ·rw [if_pos c8] at H; have LMc8 := Aside0.mk c8; clear c8; obtain ⟨y137, hy137⟩ : ∃ y_ : List Int, y_ = (y134 ++ [a0_3]) := ⟨_, rfl⟩
     replace H : ((bits_PutUvarint.f k a0_4).bind fun t140 => (if y137.length + t140.length < 140737488355328 then (some (y137 ++ t140)) else (none))) = some r := by first | (rw [hy137]; with_reducible exact H) | (have H2_ := (Option.bind_some _ _).symm.trans H; rw [hy137]; with_reducible exact H2_) | (have H2_ := (Option.bind_some _ _).symm.trans H; with_reducible exact H2_) | with_reducible exact H | (rw [hy137]; exact H) | exact H
     have Ny137 := Aside0.mk hy137; clear hy137; replace H := Option.bind_eq_some_iff.mp H; obtain ⟨t140, A90, H⟩ := H; have A9 := Aside0.mk A90; clear A90
     by_cases c10 : y137.length + t140.length < 140737488355328
     ·rw [if_pos c10] at H; have LMc10 := Aside0.mk c10; clear c10; obtain ⟨y143, hy143⟩ : ∃ y_ : List Int, y_ = (y137 ++ t140) := ⟨_, rfl⟩
      replace H : (some y143) = some r := by first | (rw [hy143]; with_reducible exact H) | (have H2_ := (Option.bind_some _ _).symm.trans H; rw [hy143]; with_reducible exact H2_) | (have H2_ := (Option.bind_some _ _).symm.trans H; with_reducible exact H2_) | with_reducible exact H | (rw [hy143]; exact H) | exact H
      have Ny143 := Aside0.mk hy143; clear hy143; obtain rfl := Option.some.inj H; go_enter Tryd.func26, Tryd.ntmps26
      go_wp2_with (first | ((with_reducible refine ko (N := 1) rfl ?_); refine kn ?hg (N := 1) ?hd (cs := #[.string a0_0, .int .i64 a0_1, .int .i64 a0_2, .int .u8 a0_3, .int .u64 a0_4]) (t := 26) ?hr ?_; (case hd => rfl); (case hg => rfl); (case hr => first | (go_simp; done) | (go_simp; rfl)); intro gb118 hg w11 hbox hb; have BK118 := am_ (hbox); have GW118 := am_ ((y31_ : w.heap.size ≤ gb118)); have GE118 := am_ ((y31_ : w.heap.size ≤ gb118)); replace HB := am_ (ke y1_ hb); clear hb hbox hg; obtain ⟨hcz12_0, hcz12_1, hcz12_2, hcz12_3, hcz12_4, hfz12_0, hfz12_1, hfz12_2, hfz12_3, hfz12_4⟩ := pd5_ BK118.out) | ((with_reducible refine kj (f := 40) rfl ?_); refine kw (some 8) rfl rfl Tryd.func40 (by kernel_rfl) rfl #[.int .u64 (IntKind.u64.wrap ((a0_0.size : Int)))] rfl y2_ ?_; (with_reducible refine (bits_PutUvarint.calls k (IntKind.u64.wrap ((a0_0.size : Int))) t119 _ A2.out).mono ?_); rintro e w13 ⟨v120, rfl, ho0, hb⟩; refine ⟨_, rfl, ?_⟩; have HO121 := am_ (Kd.R_lower ho0 (km y18_)); replace BK118 := am_ (ki (g := gb118) (o := .cells #[.string a0_0, .int .i64 a0_1, .int .i64 a0_2, .int .u8 a0_3, .int .u64 a0_4] 26 (0, 0)) y64_ hb); replace HB := am_ (ke y18_ hb); (try clear hb); (try clear hb2); (try clear hk); (try clear hi); (try clear ho0); obtain ⟨hcz14_0, hcz14_1, hcz14_2, hcz14_3, hcz14_4, hfz14_0, hfz14_1, hfz14_2, hfz14_3, hfz14_4⟩ := pd5_ BK118.out) | (at_builtin; refine print_append_str (w0 := w) w.heap.size rfl (.tmp 9) _ 45 9 5 rfl Tryd.underlying45 Tryd.underlying9 info5 v120 t119 a0_0 rfl rfl ?aO ?aB ?aS ?aL ?_; (case aB => exact y18_); (case aO => exact (Kd.own_of_R (by (with_reducible repeat (first | apply Kd.R_alloc | apply Kd.R_drewN | apply Kd.R_drew)); exact HO121.out))); (case aS => exact (km y18_)); (case aL => have := LMc3.out; omega); intro v123 w15 ho0 hb hg; have ho := Kd.R_of_own (h1 := fun _ => rfl) (ok := fun _ => True) ho0 (fun _ _ => trivial); clear ho0; have hat := True.intro; rw [← Ny122.out] at ho; change Kd.R (Kd.int .u8) 5 w15 w.heap.size (fun _ => True) v123 y122 at ho; have n0_ := am_ (blk_grown (g := gb118) (o := .cells #[.string a0_0, .int .i64 a0_1, .int .i64 a0_2, .int .u8 a0_3, .int .u64 a0_4] 26 (0, 0)) y64_ hg (Kd.R_ne HO121.out BK118.out (by decide))); have n1_ := am_ (hb); have n2_ := am_ (ho); clear BK118; clear HB; clear HO121; have BK118 := n0_; have HB := n1_; have HO124 := n2_; clear n0_ n1_ n2_; clear ho hb hg hat; obtain ⟨hcz16_0, hcz16_1, hcz16_2, hcz16_3, hcz16_4, hfz16_0, hfz16_1, hfz16_2, hfz16_3, hfz16_4⟩ := pd5_ BK118.out) | ((with_reducible refine kj (f := 40) rfl ?_); refine kw (some 17) rfl rfl Tryd.func40 (by kernel_rfl) rfl #[.int .u64 (IntKind.u64.wrap (a0_1))] rfl y2_ ?_; (with_reducible refine (bits_PutUvarint.calls k (IntKind.u64.wrap (a0_1)) t125 _ A4.out).mono ?_); rintro e w17 ⟨v126, rfl, ho0, hb⟩; refine ⟨_, rfl, ?_⟩; have HO127 := am_ (Kd.R_lower (Kd.R_new' ho0 (Kd.R_lt (by (with_reducible repeat (first | apply Kd.R_alloc | apply Kd.R_drewN | apply Kd.R_drew)); exact HO124.out))) (km y18_)); replace HO124 := am_ (Kd.R_elder' (by (with_reducible repeat (first | apply Kd.R_alloc | apply Kd.R_drewN | apply Kd.R_drew)); exact HO124.out) (Kd.R_base ho0) hb); replace BK118 := am_ (ki (g := gb118) (o := .cells #[.string a0_0, .int .i64 a0_1, .int .i64 a0_2, .int .u8 a0_3, .int .u64 a0_4] 26 (0, 0)) y64_ hb); replace HB := am_ (ke y18_ hb); (try clear hb); (try clear hb2); (try clear hk); (try clear hi); (try clear ho0); obtain ⟨Ao19, co19, eo19⟩ := Kd.R_slice HO127.out; subst eo19) | ((with_reducible refine kS (b := .append) (xs := #[.tmp 13, .tmp 17]) rfl ?_); at_builtin; refine Kd.R_append_rows (Kd.int .u8) (w0 := w) w.heap.size rfl (.tmp 13) (.tmp 17) 45 5 (.int .u8 0) 1 rfl Tryd.underlying45 info5 rfl (by decide) (by omega) v123 y122 t125 _ _ _ (fun k_ => some k_ ≠ (.slice Ao19 t125.length co19 : Value).ownBlock) (fun _ => False) rfl rfl ?aO ?aR (fun _ _ h => h) (fun _ h => h.elim) ?aF ?aB ?aS ?aL ?_; (case aR => repeat (first | exact (Kd.R_reads' HO127.out).2.2 | (with_reducible refine Kd.C_alloc ?_ _) | (with_reducible refine Kd.C_drewN ?_ _) | (with_reducible refine Kd.C_drew ?_))); (case aB => exact y18_); (case aF => exact (fun k_ hk => Kd.fresh' (Kd.R_lt y65_) k_ hk)); (case aO => exact (by (with_reducible repeat (first | apply Kd.R_alloc | apply Kd.R_drewN | apply Kd.R_drew)); exact Kd.R_mono HO124.out (fun _ hk => hk.2))); (case aS => exact (km y18_)); (case aL => have := LMc5.out; omega); intro v129 w18 ho hb hg hat; rw [← Ny128.out] at ho; have n0_ := am_ (blk_grown (g := gb118) (o := .cells #[.string a0_0, .int .i64 a0_1, .int .i64 a0_2, .int .u8 a0_3, .int .u64 a0_4] 26 (0, 0)) y64_ hg (Kd.R_ne HO124.out BK118.out (by decide))); have n1_ := am_ (Kd.R_after (ok := (fun _ => True)) y65_ hg hat); have n2_ := am_ (hb); have n3_ := am_ (ho); clear BK118; clear HO127; clear HB; clear HO124; have BK118 := n0_; have HO127 := n1_; have HB := n2_; have HO130 := n3_; clear n0_ n1_ n2_ n3_; clear ho hb hg hat; obtain ⟨hcz20_0, hcz20_1, hcz20_2, hcz20_3, hcz20_4, hfz20_0, hfz20_1, hfz20_2, hfz20_3, hfz20_4⟩ := pd5_ BK118.out) | ((with_reducible refine kj (f := 41) rfl ?_); refine kw (some 22) rfl rfl Tryd.func41 (by kernel_rfl) rfl #[.int .i64 a0_2] rfl y2_ ?_; (with_reducible refine (bits_PutVarint.calls k a0_2 t131 _ A6.out).mono ?_); rintro e w21 ⟨v132, rfl, ho0, hb⟩; refine ⟨_, rfl, ?_⟩; have HO133 := am_ (Kd.R_lower (Kd.R_new' (Kd.R_new' ho0 (Kd.R_lt y65_)) (Kd.R_lt y131_)) (km y18_)); replace HO127 := am_ (Kd.R_elder' y65_ (Kd.R_base ho0) hb); replace HO130 := am_ (Kd.R_elder' y131_ (Kd.R_base ho0) hb); replace BK118 := am_ (ki (g := gb118) (o := .cells #[.string a0_0, .int .i64 a0_1, .int .i64 a0_2, .int .u8 a0_3, .int .u64 a0_4] 26 (0, 0)) y64_ hb); replace HB := am_ (ke y18_ hb); (try clear hb); (try clear hb2); (try clear hk); (try clear hi); (try clear ho0); obtain ⟨Ao23, co23, eo23⟩ := Kd.R_slice HO133.out; subst eo23) | ((with_reducible refine kS (b := .append) (xs := #[.tmp 19, .tmp 22]) rfl ?_); at_builtin; refine Kd.R_append_rows (Kd.int .u8) (w0 := w) w.heap.size rfl (.tmp 19) (.tmp 22) 45 5 (.int .u8 0) 1 rfl Tryd.underlying45 info5 rfl (by decide) (by omega) v129 y128 t131 _ _ _ (fun k_ => some k_ ≠ (.slice Ao19 t125.length co19 : Value).ownBlock ∧ some k_ ≠ (.slice Ao23 t131.length co23 : Value).ownBlock) (fun _ => False) rfl rfl ?aO ?aR (fun _ _ h => h) (fun _ h => h.elim) ?aF ?aB ?aS ?aL ?_; (case aR => repeat (first | exact (Kd.R_reads' HO133.out).2.2 | (with_reducible refine Kd.C_alloc ?_ _) | (with_reducible refine Kd.C_drewN ?_ _) | (with_reducible refine Kd.C_drew ?_))); (case aB => exact y18_); (case aF => exact (fun k_ hk => ⟨Kd.fresh' (Kd.R_lt y65_) k_ hk, Kd.fresh' (Kd.R_lt y87_) k_ hk⟩)); (case aO => exact y131_); (case aS => exact (km y18_)); (case aL => have := LMc7.out; omega); intro v135 w22 ho hb hg hat; rw [← Ny134.out] at ho; have n0_ := am_ (blk_grown (g := gb118) (o := .cells #[.string a0_0, .int .i64 a0_1, .int .i64 a0_2, .int .u8 a0_3, .int .u64 a0_4] 26 (0, 0)) y64_ hg (Kd.R_ne HO130.out BK118.out (by decide))); have n1_ := am_ (Kd.R_after (ok := (fun k_ => some k_ ≠ (.slice Ao23 t131.length co23 : Value).ownBlock)) (by (with_reducible repeat (first | apply Kd.R_alloc | apply Kd.R_drewN | apply Kd.R_drew)); exact Kd.R_mono HO127.out (fun _ hk => ⟨hk.2, hk.1.2⟩)) hg hat); have n2_ := am_ (Kd.R_after (ok := (fun k_ => some k_ ≠ (.slice Ao19 t125.length co19 : Value).ownBlock)) (by (with_reducible repeat (first | apply Kd.R_alloc | apply Kd.R_drewN | apply Kd.R_drew)); exact Kd.R_mono HO133.out (fun _ hk => ⟨hk.1.2, hk.2⟩)) hg hat); have n3_ := am_ (hb); have n4_ := am_ (ho); clear BK118; clear HO127; clear HO133; clear HB; clear HO130; have BK118 := n0_; have HO127 := n1_; have HO133 := n2_; have HB := n3_; have HO136 := n4_; clear n0_ n1_ n2_ n3_ n4_; clear ho hb hg hat; obtain ⟨hcz24_0, hcz24_1, hcz24_2, hcz24_3, hcz24_4, hfz24_0, hfz24_1, hfz24_2, hfz24_3, hfz24_4⟩ := pd5_ BK118.out) | ((with_reducible refine kS (b := .append) (xs := #[.tmp 24, .tmp 27]) rfl ?_); at_builtin; refine Kd.R_append (Kd.int .u8) (w0 := w) w.heap.size rfl (.tmp 24) (.tmp 27) 45 5 (.int .u8 0) 1 rfl Tryd.underlying45 info5 rfl (by decide) (by omega) v135 y134 a0_3 [.int .u8 a0_3] (fun k_ => some k_ ≠ (.slice Ao19 t125.length co19 : Value).ownBlock ∧ some k_ ≠ (.slice Ao23 t131.length co23 : Value).ownBlock) (fun _ => False) rfl rfl ?aP (fun _ hk => hk.elim) ?aF ?aO ?aB ?aS ?aL ?_; (case aP => exact rfl); (case aB => exact y18_); (case aF => exact (fun k_ hk => ⟨Kd.fresh' (Kd.R_lt y65_) k_ hk, Kd.fresh' (Kd.R_lt y87_) k_ hk⟩)); (case aO => exact (by (with_reducible repeat (first | apply Kd.R_alloc | apply Kd.R_drewN | apply Kd.R_drew)); exact HO136.out)); (case aS => exact (km y18_)); (case aL => have := LMc8.out; omega); intro v138 w25 ho hb hg hat; rw [← Ny137.out] at ho; have n0_ := am_ (blk_grown (g := gb118) (o := .cells #[.string a0_0, .int .i64 a0_1, .int .i64 a0_2, .int .u8 a0_3, .int .u64 a0_4] 26 (0, 0)) y64_ hg (Kd.R_ne HO136.out BK118.out (by decide))); have n1_ := am_ (Kd.R_after (ok := (fun k_ => some k_ ≠ (.slice Ao23 t131.length co23 : Value).ownBlock)) y65_ hg hat); have n2_ := am_ (Kd.R_after (ok := (fun k_ => some k_ ≠ (.slice Ao19 t125.length co19 : Value).ownBlock)) y87_ hg hat); have n3_ := am_ (hb); have n4_ := am_ (ho); clear BK118; clear HO127; clear HO133; clear HB; clear HO136; have BK118 := n0_; have HO127 := n1_; have HO133 := n2_; have HB := n3_; have HO139 := n4_; clear n0_ n1_ n2_ n3_ n4_; clear ho hb hg hat; obtain ⟨hcz26_0, hcz26_1, hcz26_2, hcz26_3, hcz26_4, hfz26_0, hfz26_1, hfz26_2, hfz26_3, hfz26_4⟩ := pd5_ BK118.out) | ((with_reducible refine kj (f := 40) rfl ?_); refine kw (some 32) rfl rfl Tryd.func40 (by kernel_rfl) rfl #[.int .u64 a0_4] rfl y2_ ?_; (with_reducible refine (bits_PutUvarint.calls k a0_4 t140 _ A9.out).mono ?_); rintro e w27 ⟨v141, rfl, ho0, hb⟩; refine ⟨_, rfl, ?_⟩; have HO142 := am_ (Kd.R_lower (Kd.R_new' (Kd.R_new' (Kd.R_new' ho0 (Kd.R_lt y65_)) (Kd.R_lt y87_)) (Kd.R_lt (by (with_reducible repeat (first | apply Kd.R_alloc | apply Kd.R_drewN | apply Kd.R_drew)); exact HO139.out))) (km y18_)); replace HO127 := am_ (Kd.R_elder' y65_ (Kd.R_base ho0) hb); replace HO133 := am_ (Kd.R_elder' y87_ (Kd.R_base ho0) hb); replace HO139 := am_ (Kd.R_elder' (by (with_reducible repeat (first | apply Kd.R_alloc | apply Kd.R_drewN | apply Kd.R_drew)); exact HO139.out) (Kd.R_base ho0) hb); replace BK118 := am_ (ki (g := gb118) (o := .cells #[.string a0_0, .int .i64 a0_1, .int .i64 a0_2, .int .u8 a0_3, .int .u64 a0_4] 26 (0, 0)) y64_ hb); replace HB := am_ (ke y18_ hb); (try clear hb); (try clear hb2); (try clear hk); (try clear hi); (try clear ho0); obtain ⟨Ao29, co29, eo29⟩ := Kd.R_slice HO142.out; subst eo29) | ((with_reducible refine kS (b := .append) (xs := #[.tmp 29, .tmp 32]) rfl ?_); at_builtin; refine Kd.R_append_rows (Kd.int .u8) (w0 := w) w.heap.size rfl (.tmp 29) (.tmp 32) 45 5 (.int .u8 0) 1 rfl Tryd.underlying45 info5 rfl (by decide) (by omega) v138 y137 t140 _ _ _ (fun k_ => some k_ ≠ (.slice Ao19 t125.length co19 : Value).ownBlock ∧ some k_ ≠ (.slice Ao23 t131.length co23 : Value).ownBlock ∧ some k_ ≠ (.slice Ao29 t140.length co29 : Value).ownBlock) (fun _ => False) rfl rfl ?aO ?aR (fun _ _ h => h) (fun _ h => h.elim) ?aF ?aB ?aS ?aL ?_; (case aR => repeat (first | exact (Kd.R_reads' HO142.out).2.2 | (with_reducible refine Kd.C_alloc ?_ _) | (with_reducible refine Kd.C_drewN ?_ _) | (with_reducible refine Kd.C_drew ?_))); (case aB => exact y18_); (case aF => exact (fun k_ hk => ⟨Kd.fresh' (Kd.R_lt y65_) k_ hk, Kd.fresh' (Kd.R_lt y87_) k_ hk, Kd.fresh' (Kd.R_lt (by (with_reducible repeat (first | apply Kd.R_alloc | apply Kd.R_drewN | apply Kd.R_drew)); exact HO142.out)) k_ hk⟩)); (case aO => exact (by (with_reducible repeat (first | apply Kd.R_alloc | apply Kd.R_drewN | apply Kd.R_drew)); exact Kd.R_mono HO139.out (fun _ hk => ⟨hk.1.1, ⟨hk.1.2, hk.2⟩⟩))); (case aS => exact (km y18_)); (case aL => have := LMc10.out; omega); intro v144 w28 ho hb hg hat; rw [← Ny143.out] at ho; have n0_ := am_ (blk_grown (g := gb118) (o := .cells #[.string a0_0, .int .i64 a0_1, .int .i64 a0_2, .int .u8 a0_3, .int .u64 a0_4] 26 (0, 0)) y64_ hg (Kd.R_ne HO139.out BK118.out (by decide))); have n1_ := am_ (Kd.R_after (ok := (fun k_ => some k_ ≠ (.slice Ao23 t131.length co23 : Value).ownBlock ∧ some k_ ≠ (.slice Ao29 t140.length co29 : Value).ownBlock)) (by (with_reducible repeat (first | apply Kd.R_alloc | apply Kd.R_drewN | apply Kd.R_drew)); exact Kd.R_mono HO127.out (fun _ hk => ⟨⟨hk.1.1, hk.2⟩, hk.1.2⟩)) hg hat); have n2_ := am_ (Kd.R_after (ok := (fun k_ => some k_ ≠ (.slice Ao19 t125.length co19 : Value).ownBlock ∧ some k_ ≠ (.slice Ao29 t140.length co29 : Value).ownBlock)) (by (with_reducible repeat (first | apply Kd.R_alloc | apply Kd.R_drewN | apply Kd.R_drew)); exact Kd.R_mono HO133.out (fun _ hk => ⟨⟨hk.1.1, hk.2⟩, hk.1.2⟩)) hg hat); have n3_ := am_ (Kd.R_after (ok := (fun k_ => some k_ ≠ (.slice Ao19 t125.length co19 : Value).ownBlock ∧ some k_ ≠ (.slice Ao23 t131.length co23 : Value).ownBlock)) (by (with_reducible repeat (first | apply Kd.R_alloc | apply Kd.R_drewN | apply Kd.R_drew)); exact Kd.R_mono HO142.out (fun _ hk => ⟨⟨hk.1.1.2, hk.1.2⟩, hk.2⟩)) hg hat); have n4_ := am_ (hb); have n5_ := am_ (ho); clear BK118; clear HO127; clear HO133; clear HO142; clear HB; clear HO139; have BK118 := n0_; have HO127 := n1_; have HO133 := n2_; have HO142 := n3_; have HB := n4_; have HO145 := n5_; clear n0_ n1_ n2_ n3_ n4_ n5_; clear ho hb hg hat))
      go_ret
      exact ⟨_, y5_, by (with_reducible repeat (first | apply Kd.R_alloc | apply Kd.R_drewN | apply Kd.R_drew)); exact Kd.R_mono HO145.out (fun _ hk => trivial), y18_⟩
     ·rw [if_neg c10] at H
      exact absurd H (by simp)
    ·rw [if_neg c8] at H
     exact absurd H (by simp)
   ·rw [if_neg c7] at H
    exact absurd H (by simp)
  ·rw [if_neg c5] at H
   exact absurd H (by simp)
 ·rw [if_neg c3] at H
  exact absurd H (by simp)
section
open Go Go.RowKit Go.Proofs.YtkkomfomjpcbfaaDoor Go.Proofs.YtkkomfomjpcbfaaDoorW.PrintWords Go.Proofs.YtkkomfomjpcbfaaDoorW.PrintLast Go.Proofs.YtkkomfomjpcbfaaDoorW.PrintMore Bq
attribute [local go_sem ↓] Go.wp_at_zero Go.wp_at_succ
def tokHead (B : List Int) : ByteArray := (⟨#[109, 116, 49, 46]⟩ : ByteArray) ++ strOfNums (armor B)
def tokSum (sec : ByteArray) (B : List Int) : List Int := Sha.mac (bytesOf sec) (bytesOf (tokHead B))
def tokText (sec : ByteArray) (B : List Int) : ByteArray := tokHead B ++ (⟨#[46]⟩ : ByteArray) ++ strOfNums (armor (tokSum sec B))
def tokMint (k : Nat) (a0_0 : Int) (a0_1 : ByteArray) (a1_0 : ByteArray) (a1_1 a1_2 a1_3 a1_4 : Int) : Option (ByteArray × Int) :=
 (token_Keyed.f a0_0 a0_1).bind fun b => if b = true then (token_Check.f k a1_0 a1_1 a1_2 a1_3 a1_4).bind fun e => if e = 0 then (if a1_1 = a0_0 then (token_body.f k a1_0 a1_1 a1_2 a1_3 a1_4).bind fun B =>
   if B.length ≤ 100000 then (if B.all (fun x => decide (0 ≤ x ∧ x < 256)) = true then some (tokText a0_1 B, 0) else none) else none
  else some ((⟨#[]⟩ : ByteArray), 181)) else some ((⟨#[]⟩ : ByteArray), e) else some ((⟨#[]⟩ : ByteArray), 181)
theorem tokMint.mono : ∀ a0 a1 a2 a3 a4 a5 a6 k, LeO (tokMint k a0 a1 a2 a3 a4 a5 a6) (tokMint (k + 1) a0 a1 a2 a3 a4 a5 a6) := by
 intro a0 a1 a2 a3 a4 a5 a6 k
 unfold tokMint
 refine LeO.bind (LeO.refl _) (fun b => ?_)
 split
 ·refine LeO.bind (token_Check.mono _ _ _ _ _ _) (fun e => ?_)
  split
  ·split
   ·exact LeO.bind (token_body.mono _ _ _ _ _ _) (fun B => LeO.refl _)
   ·exact LeO.refl _
  ·exact LeO.refl _
 ·exact LeO.refl _
structure MSt (w W : World) (g1 g2 : Nat) (a0_0 : Int) (a0_1 a1_0 : ByteArray) (a1_1 a1_2 a1_3 a1_4 : Int) : Prop where
 B : Below w.heap.size w W
 K : W.heap[g1]? = some (.cells #[.int .i64 a0_0, .string a0_1] 23 (0, 0))
 C : W.heap[g2]? = some (.cells #[.string a1_0, .int .i64 a1_1, .int .i64 a1_2, .int .u8 a1_3, .int .u64 a1_4] 26 (0, 0))
theorem MSt.below {w W W' : World} {g1 g2 : Nat} {a0_0 : Int} {a0_1 a1_0 : ByteArray} {a1_1 a1_2 a1_3 a1_4 : Int} (h : MSt w W g1 g2 a0_0 a0_1 a1_0 a1_1 a1_2 a1_3 a1_4) (hb : Below W.heap.size W W') : MSt w W' g1 g2 a0_0 a0_1 a1_0 a1_1 a1_2 a1_3 a1_4 :=
 ⟨h.B.trans (ks hb h.B.size), (hb.block g1 (ky h.K)).trans h.K, (hb.block g2 (ky h.C)).trans h.C⟩
set_option maxRecDepth 20000 in
set_option maxHeartbeats 8000000 in
theorem tokMint_calls (k : Nat) (a0_0 : Int) (a0_1 : ByteArray) (a1_0 : ByteArray) (a1_1 : Int) (a1_2 : Int) (a1_3 : Int) (a1_4 : Int) (r1 : ByteArray) (r2 : Int) (w : World) (hT : Aside0 (Tab w)) (h : tokMint k a0_0 a0_1 a1_0 a1_1 a1_2 a1_3 a1_4 = some (r1, r2)) :
  Calls Tryd.prog 10 #[.agg #[.int .i64 a0_0, .string a0_1], .agg #[.string a1_0, .int .i64 a1_1, .int .i64 a1_2, .int .u8 a1_3, .int .u64 a1_4]] w fun e w' => e = .returned (.tuple #[.string r1, .int .i64 r2]) ∧ Below w.heap.size w w' := by
 have hu23 := Tryd.underlying23; have hu26 := Tryd.underlying26
 unfold tokMint at h
 obtain ⟨b, hb, hh⟩ := Option.bind_eq_some_iff.1 h; have HK0 := Lib.hid hb; have HH := Lib.hid hh; clear hb hh h; go_enter Tryd.func10, Tryd.ntmps10
 go_upto_region 1 with fail
 obtain ⟨W1, hW1⟩ : ∃ W1, W1 = ((w.alloc (.cells #[.int .i64 a0_0, .string a0_1] 23)).alloc (.cells #[.string a1_0, .int .i64 a1_1, .int .i64 a1_2, .int .u8 a1_3, .int .u64 a1_4] 26)) := ⟨_, rfl⟩
 have m1 : MSt w W1 w.heap.size (w.heap.size + 1) a0_0 a0_1 a1_0 a1_1 a1_2 a1_3 a1_4 := by
  rw [hW1]; refine ⟨((Below.refl _ w).alloc (Nat.le_refl _) _).alloc (by simp) _, kd (kC w _) _, ?_⟩; have h := kC (w.alloc (.cells #[.int .i64 a0_0, .string a0_1] 23)) (.cells #[.string a1_0, .int .i64 a1_1, .int .i64 a1_2, .int .u8 a1_3, .int .u64 a1_4] 26); rw [World.size_alloc] at h
  exact h
 change Code.wp _ _ _ _ ((w.alloc (.cells #[.int .i64 a0_0, .string a0_1] 23)).alloc (.cells #[.string a1_0, .int .i64 a1_1, .int .i64 a1_2, .int .u8 a1_3, .int .u64 a1_4] 26))
 rw [← hW1]; clear hW1; obtain ⟨g2, hg2⟩ : ∃ g, g = w.heap.size + 1 := ⟨_, rfl⟩
 try simp only [World.size_alloc]
 obtain ⟨g1, hg1⟩ : ∃ g, g = w.heap.size := ⟨_, rfl⟩; rw [← hg2, ← hg1] at m1; rw [← hg2, ← hg1]; clear hg1 hg2; have M1 := Lib.hid m1; clear m1; have W1k0 : W1.cell? ⟨g1, 0, none⟩ = some (.int .i64 a0_0) := (ka M1.out.K 0).trans rfl; have W1fk0 := kc M1.out.K 0; have W1k1 : W1.cell? ⟨g1, 1, none⟩ = some (.string a0_1) := (ka M1.out.K 1).trans rfl; have W1fk1 := kc M1.out.K 1
 cases b with
 | false =>
  obtain ⟨rfl, rfl⟩ : (⟨#[]⟩ : ByteArray) = r1 ∧ 181 = r2 := by
   have h := HH.out; rw [if_neg (by decide)] at h
   simpa using h
  go_wp2_with (go_at_call 16; refine (token_Keyed.calls _ _ _ _ HK0.out).mono ?_; rintro e w2 ⟨rfl, hb⟩; have M2 := Lib.hid (M1.out.below hb); clear hb; have w2k0 : w2.cell? ⟨g1, 0, none⟩ = some (.int .i64 a0_0) := (ka M2.out.K 0).trans rfl; have w2fk0 := kc M2.out.K 0; have w2k1 : w2.cell? ⟨g1, 1, none⟩ = some (.string a0_1) := (ka M2.out.K 1).trans rfl; have w2fk1 := kc M2.out.K 1; have w2c0 : w2.cell? ⟨g2, 0, none⟩ = some (.string a1_0) := (ka M2.out.C 0).trans rfl; have w2fc0 := kc M2.out.C 0; have w2c1 : w2.cell? ⟨g2, 1, none⟩ = some (.int .i64 a1_1) := (ka M2.out.C 1).trans rfl; have w2fc1 := kc M2.out.C 1; have w2c2 : w2.cell? ⟨g2, 2, none⟩ = some (.int .i64 a1_2) := (ka M2.out.C 2).trans rfl; have w2fc2 := kc M2.out.C 2; have w2c3 : w2.cell? ⟨g2, 3, none⟩ = some (.int .u8 a1_3) := (ka M2.out.C 3).trans rfl; have w2fc3 := kc M2.out.C 3; have w2c4 : w2.cell? ⟨g2, 4, none⟩ = some (.int .u64 a1_4) := (ka M2.out.C 4).trans rfl; have w2fc4 := kc M2.out.C 4)
  go_ret2
  exact ⟨rfl, M2.out.B⟩
 | true =>
  have hx := HH.out; rw [if_pos rfl] at hx; clear HH; obtain ⟨e0, he0, h⟩ := Option.bind_eq_some_iff.1 hx; clear hx; have HE0 := Lib.hid he0; clear he0
  by_cases hz : e0 = 0
  ·subst hz; rw [if_pos rfl] at h
   by_cases hk : a1_1 = a0_0
   ·rw [if_pos hk] at h
    have hne : (a1_1 != a0_0) = false := by simp [hk]
    clear hk; obtain ⟨BL, hB, hy⟩ := Option.bind_eq_some_iff.1 h; clear h; have HB0 := Lib.hid hB; clear hB
    by_cases hbl : BL.length ≤ 100000
    ·rw [if_pos hbl] at hy
     by_cases hby : BL.all (fun x => decide (0 ≤ x ∧ x < 256)) = true
     ·rw [if_pos hby] at hy
      obtain ⟨rfl, rfl⟩ : tokText a0_1 BL = r1 ∧ 0 = r2 := by simpa using hy
      clear hy; have HBY := Lib.hid (show Byts BL from fun x hx => of_decide_eq_true (List.all_eq_true.1 hby x hx)); have HLB := Lib.hid (show BL.length ≤ 1000000 by omega)
      clear hby
      have HBL := Lib.hid hbl; clear hbl; obtain ⟨P, hP⟩ : ∃ P, P = strOfNums (armor BL) := ⟨_, rfl⟩
      have hPs : P.size ≤ 200000 := by rw [hP, strOfNums_size, armor, arm_length, kE]; have := HBL.out; omega
      have HPS := Lib.hid hPs; have HARM : Hid (∀ W A c, (Kd.int .u8).C W A BL.length BL → Calls Tryd.prog 25 #[.slice A BL.length c] W fun e w' => e = .returned (.string P) ∧ Below W.heap.size W w') := Lib.hid (fun W A c hC => by rw [hP]; exact armor_calls W A c BL hC HBY.out HLB.out)
      have q1 : ¬ ((9223372036854775807 : Int) < 4 + (P.size : Int)) := by omega
      have q2 : ¬ (9223372036854775807 < 4 + P.size) := by omega
      clear hPs; have HP := Lib.hid hP; clear hP
      go_upto_region 9 with (first | (go_at_call 16; refine (token_Keyed.calls _ _ _ _ HK0.out).mono ?_; rintro e w2 ⟨rfl, hb⟩; have M2 := Lib.hid (M1.out.below hb); clear hb; have w2k0 : w2.cell? ⟨g1, 0, none⟩ = some (.int .i64 a0_0) := (ka M2.out.K 0).trans rfl; have w2fk0 := kc M2.out.K 0; have w2k1 : w2.cell? ⟨g1, 1, none⟩ = some (.string a0_1) := (ka M2.out.K 1).trans rfl; have w2fk1 := kc M2.out.K 1; have w2c0 : w2.cell? ⟨g2, 0, none⟩ = some (.string a1_0) := (ka M2.out.C 0).trans rfl; have w2fc0 := kc M2.out.C 0; have w2c1 : w2.cell? ⟨g2, 1, none⟩ = some (.int .i64 a1_1) := (ka M2.out.C 1).trans rfl; have w2fc1 := kc M2.out.C 1; have w2c2 : w2.cell? ⟨g2, 2, none⟩ = some (.int .i64 a1_2) := (ka M2.out.C 2).trans rfl; have w2fc2 := kc M2.out.C 2; have w2c3 : w2.cell? ⟨g2, 3, none⟩ = some (.int .u8 a1_3) := (ka M2.out.C 3).trans rfl; have w2fc3 := kc M2.out.C 3; have w2c4 : w2.cell? ⟨g2, 4, none⟩ = some (.int .u64 a1_4) := (ka M2.out.C 4).trans rfl; have w2fc4 := kc M2.out.C 4) | (go_at_call 12; refine (token_Check.calls _ _ _ _ _ _ _ _ HE0.out).mono ?_; rintro e w3 ⟨rfl, hb⟩; have M3 := Lib.hid (M2.out.below hb); clear hb; have w3k0 : w3.cell? ⟨g1, 0, none⟩ = some (.int .i64 a0_0) := (ka M3.out.K 0).trans rfl; have w3fk0 := kc M3.out.K 0; have w3k1 : w3.cell? ⟨g1, 1, none⟩ = some (.string a0_1) := (ka M3.out.K 1).trans rfl; have w3fk1 := kc M3.out.K 1; have w3c0 : w3.cell? ⟨g2, 0, none⟩ = some (.string a1_0) := (ka M3.out.C 0).trans rfl; have w3fc0 := kc M3.out.C 0; have w3c1 : w3.cell? ⟨g2, 1, none⟩ = some (.int .i64 a1_1) := (ka M3.out.C 1).trans rfl; have w3fc1 := kc M3.out.C 1; have w3c2 : w3.cell? ⟨g2, 2, none⟩ = some (.int .i64 a1_2) := (ka M3.out.C 2).trans rfl; have w3fc2 := kc M3.out.C 2; have w3c3 : w3.cell? ⟨g2, 3, none⟩ = some (.int .u8 a1_3) := (ka M3.out.C 3).trans rfl; have w3fc3 := kc M3.out.C 3; have w3c4 : w3.cell? ⟨g2, 4, none⟩ = some (.int .u64 a1_4) := (ka M3.out.C 4).trans rfl; have w3fc4 := kc M3.out.C 4) | (go_at_call 26; refine (token_body.calls _ _ _ _ _ _ _ _ HB0.out).mono ?_; rintro e w4 ⟨v4, rfl, hR, hb⟩; obtain ⟨A4, c4, rfl, hc4, hC4⟩ := Kd.R_reads hR; have M4 := Lib.hid (M3.out.below hb); have HC4 := Lib.hid hC4; clear hb hR hC4; have w4k0 : w4.cell? ⟨g1, 0, none⟩ = some (.int .i64 a0_0) := (ka M4.out.K 0).trans rfl; have w4fk0 := kc M4.out.K 0; have w4k1 : w4.cell? ⟨g1, 1, none⟩ = some (.string a0_1) := (ka M4.out.K 1).trans rfl; have w4fk1 := kc M4.out.K 1; have w4c0 : w4.cell? ⟨g2, 0, none⟩ = some (.string a1_0) := (ka M4.out.C 0).trans rfl; have w4fc0 := kc M4.out.C 0; have w4c1 : w4.cell? ⟨g2, 1, none⟩ = some (.int .i64 a1_1) := (ka M4.out.C 1).trans rfl; have w4fc1 := kc M4.out.C 1; have w4c2 : w4.cell? ⟨g2, 2, none⟩ = some (.int .i64 a1_2) := (ka M4.out.C 2).trans rfl; have w4fc2 := kc M4.out.C 2; have w4c3 : w4.cell? ⟨g2, 3, none⟩ = some (.int .u8 a1_3) := (ka M4.out.C 3).trans rfl; have w4fc3 := kc M4.out.C 3; have w4c4 : w4.cell? ⟨g2, 4, none⟩ = some (.int .u64 a1_4) := (ka M4.out.C 4).trans rfl; have w4fc4 := kc M4.out.C 4) | (go_at_call 25; refine (HARM.out _ _ _ HC4.out).mono ?_; rintro e w5 ⟨rfl, hb⟩; have M5 := Lib.hid (M4.out.below hb); clear hb; have w5k0 : w5.cell? ⟨g1, 0, none⟩ = some (.int .i64 a0_0) := (ka M5.out.K 0).trans rfl; have w5fk0 := kc M5.out.K 0; have w5k1 : w5.cell? ⟨g1, 1, none⟩ = some (.string a0_1) := (ka M5.out.K 1).trans rfl; have w5fk1 := kc M5.out.K 1; have w5c0 : w5.cell? ⟨g2, 0, none⟩ = some (.string a1_0) := (ka M5.out.C 0).trans rfl; have w5fc0 := kc M5.out.C 0; have w5c1 : w5.cell? ⟨g2, 1, none⟩ = some (.int .i64 a1_1) := (ka M5.out.C 1).trans rfl; have w5fc1 := kc M5.out.C 1; have w5c2 : w5.cell? ⟨g2, 2, none⟩ = some (.int .i64 a1_2) := (ka M5.out.C 2).trans rfl; have w5fc2 := kc M5.out.C 2; have w5c3 : w5.cell? ⟨g2, 3, none⟩ = some (.int .u8 a1_3) := (ka M5.out.C 3).trans rfl; have w5fc3 := kc M5.out.C 3; have w5c4 : w5.cell? ⟨g2, 4, none⟩ = some (.int .u64 a1_4) := (ka M5.out.C 4).trans rfl; have w5fc4 := kc M5.out.C 4))
      obtain ⟨S, hS⟩ : ∃ S, S = (⟨#[109, 116, 49, 46]⟩ : ByteArray) ++ P := ⟨_, rfl⟩; rw [← hS]
      have hSs : S.size ≤ 200004 := by rw [hS, ByteArray.size_append]; have := HPS.out; have : (⟨#[109, 116, 49, 46]⟩ : ByteArray).size = 4 := rfl; omega
      obtain ⟨X1, hX1⟩ : ∃ X1, X1 = bytesOf a0_1 := ⟨_, rfl⟩; obtain ⟨X2, hX2⟩ : ∃ X2, X2 = bytesOf S := ⟨_, rfl⟩; obtain ⟨D, hD⟩ : ∃ D, D = Sha.mac X1 X2 := ⟨_, rfl⟩
      have hDl : D.length = 32 := by rw [hD]; exact Sha.sum_length _
      have h64 : a0_1.size ≤ 64 := by
       have h := HK0.out
       unfold token_Keyed.f at h
       repeat' split at h
       all_goals first | (simp only [Option.some.injEq, decide_eq_true_eq] at h; omega) | (cases h)
      have HSZ1 := Lib.hid (show a0_1.size ≤ 9223372036854775807 by omega); have HSZ2 := Lib.hid (show S.size ≤ 9223372036854775807 by omega); have HX1 := Lib.hid hX1; have HX2 := Lib.hid hX2; have HSS := Lib.hid hSs
      have hx1l : X1.length ≤ 64 := by rw [hX1, bytesOf_length]; exact h64
      have hx2l : X2.length ≤ 200004 := by rw [hX2, bytesOf_length]; exact hSs
      have hbo : ∀ s : ByteArray, Byts (bytesOf s) := fun s x hx => by
       unfold bytesOf at hx
       obtain ⟨b, _, rfl⟩ := List.mem_map.1 hx
       have := b.toNat_lt
       omega
      have MAC : Hid (∀ (W : World) (A6 : Option Addr) (c6 : Nat) (A7 : Option Addr) (c7 : Nat), Below w.heap.size w W → (Kd.int .u8).C W A6 X1.length X1 → (Kd.int .u8).C W A7 X2.length X2 → X2.length ≤ c7 → Calls Tryd.prog 27 #[.slice A6 X1.length c6, .slice (some ⟨W.heap.size, 0, none⟩) 1 1] (W.alloc (.cells #[.slice A7 X2.length c7] 45)) fun e w' => e = .returned (.agg (nums .u8 D).toArray) ∧ Below (W.alloc (.cells #[.slice A7 X2.length c7] 45)).heap.size (W.alloc (.cells #[.slice A7 X2.length c7] 45)) w') := Lib.hid (fun W A6 c6 A7 c7 hW h6 h7 hc7 => by
       have ha := kt (Below.refl W.heap.size W) (.cells #[.slice A7 X2.length c7] 45); have hT7 : ∀ i, i < 64 → (W.alloc (.cells #[.slice A7 X2.length c7] 45)).cell? ⟨0, i, none⟩ = some (.int .u32 (Sha.K.getD i 0)) := kU hT.out (hW.trans (ks ha hW.size)); have h := mac_calls (W.alloc (.cells #[.slice A7 X2.length c7] 45)) A6 c6 X1 (some ⟨W.heap.size, 0, none⟩) 1 [X2] (Kd.C_below h6 ha) (by rw [hX1]; exact hbo _) (by omega) (Parts.of (t := 0) (lit1_C W 45 A7 c7 X2 h7 hc7)) (fun xs hx => by rw [List.mem_singleton.1 hx, hX2]; exact hbo _) (by simp; omega) (by simp) hT7
       have e : [X2].flatten = X2 := by simp
       rw [e, ← hD] at h
       exact h)
      obtain ⟨Q, hQ⟩ : ∃ Q, Q = strOfNums (armor D) := ⟨_, rfl⟩
      have hQs : Q.size = 43 := by rw [hQ, strOfNums_size, armor, arm_length, kE, hDl]
      have hbd : Byts D := by rw [hD]; exact Sha.byts_sum _
      have HARM2 : Hid (∀ W A c, (Kd.int .u8).C W A 32 D → Calls Tryd.prog 25 #[.slice A 32 c] W fun e w' => e = .returned (.string Q) ∧ Below W.heap.size W w') := Lib.hid (fun W A c hC => by
       rw [hQ]; have h := armor_calls W A c D (by rw [hDl]; exact hC) hbd (by omega); rw [hDl] at h
       exact h)
      have HTH := Lib.hid (sum32 D hDl).1; have HSZ := Lib.hid (sum32 D hDl).2; have HDL := Lib.hid hDl
      have hend : tokText a0_1 BL = S ++ (⟨#[46]⟩ : ByteArray) ++ Q := by
       unfold tokText tokSum tokHead
       rw [← HP.out, ← hS, ← hX1, ← hX2, ← hD, ← hQ]
      have HEND := Lib.hid hend
      have q3 : ¬ ((9223372036854775807 : Int) < (S.size : Int) + 1) := by omega
      have q4 : ¬ (9223372036854775807 < S.size + 1) := by omega
      have q5 : ¬ ((9223372036854775807 : Int) < (S.size : Int) + 1 + (Q.size : Int)) := by omega
      have q6 : ¬ (9223372036854775807 < S.size + 1 + Q.size) := by omega
      clear hS hSs hX1 hX2 hD hDl h64 hx1l hx2l hbo hQ hQs hbd hend q1 q2
      go_upto_region 10 with (first | ((with_reducible refine ko (N := 28) rfl ?_); refine Kd.V_convF _ 5 rfl (N' := 28) rfl 9 45 _ rfl a0_1 rfl Tryd.underlying9 Tryd.underlying45 Tryd.underlying5 HSZ1.out (Below.refl _ _) (Nat.le_refl _) ?_; intro v6 w6 ho hb hg hn; clear hg hn; rw [← HX1.out] at ho; obtain ⟨A6, c6, rfl⟩ := Kd.V_slice ho; have HO6 := Lib.hid ho; have M6 := Lib.hid (M5.out.below hb); clear hb ho) | ((with_reducible refine ko (N := 30) rfl ?_); refine Kd.V_convF _ 5 rfl (N' := 30) rfl 9 45 _ rfl S rfl Tryd.underlying9 Tryd.underlying45 Tryd.underlying5 HSZ2.out (Below.refl _ _) (Nat.le_refl _) ?_; intro v7 w7 ho hb hg hn; clear hg hn; rw [← HX2.out] at ho; obtain ⟨A7, c7, rfl⟩ := Kd.V_slice ho; have HO7 := Lib.hid ho; have HO67 := Lib.hid (Kd.V_below HO6.out hb); have M7 := Lib.hid (M6.out.below hb); have HCALL := Lib.hid (MAC.out w7 A6 c6 A7 c7 M7.out.B (Kd.V_reads' HO67.out).2.2 (Kd.V_reads' HO7.out).2.2 (Kd.V_reads' HO7.out).2.1); clear hb ho) | (go_at_call 27; refine HCALL.out.mono ?_; rintro e w8 ⟨rfl, hb⟩; have M8 := Lib.hid (M7.out.below ((kt (Below.refl _ _) _).trans (ks hb (kt (Below.refl _ _) _).size))); clear hb; apply_assumption; refine wl_alloc32 rfl rfl ?_; refine wpList_store_mid rfl _ _ _ rfl w8.heap.size 0 (nums .u8 D).toArray rfl rfl (HTH.out w8) HSZ.out (all_oneCell_toArray (nums_one .u8 D)) ?_; rw [List.toList_toArray]; change wpList _ _ _ _ _ (putA (w8.alloc (.cells (nums .u8 (List.replicate 32 0)).toArray 50)) w8.heap.size .u8 D)))
      have h9 := sum32_new w8 w D HDL.out M8.out.B; obtain ⟨sb, hsb⟩ : ∃ sb, sb = w8.heap.size := ⟨_, rfl⟩; obtain ⟨w9, hw9⟩ : ∃ w9, w9 = putA (w8.alloc (.cells (nums .u8 (List.replicate 32 0)).toArray 50)) w8.heap.size .u8 D := ⟨_, rfl⟩; rw [← hw9, ← hsb] at h9; rw [← hw9, ← hsb]; clear hw9 hsb; have A9 := Lib.hid h9.1; have B9 := Lib.hid h9.2
      have C9 : Hid ((Kd.int .u8).C w9 (some ⟨sb, 0, none⟩) 32 D) := Lib.hid (by
       have h := A9.out.C (by have := HDL.out; omega); rw [HDL.out] at h
       exact h)
      clear h9
      go_wp2_with (first | (go_at_call 25; refine (HARM2.out _ _ _ C9.out).mono ?_; rintro e w10 ⟨rfl, hb⟩; have HB10 := Lib.hid (B9.out.trans (ks hb B9.out.size)); clear hb))
      go_ret2
      rw [HEND.out]
      exact ⟨rfl, HB10.out⟩
     ·rw [if_neg hby] at hy
      cases hy
    ·rw [if_neg hbl] at hy
     cases hy
   ·rw [if_neg hk] at h
    obtain ⟨rfl, rfl⟩ : (⟨#[]⟩ : ByteArray) = r1 ∧ 181 = r2 := by simpa using h
    have hne : (a1_1 != a0_0) = true := by simp [hk]
    clear hk h
    go_wp2_with (first | (go_at_call 16; refine (token_Keyed.calls _ _ _ _ HK0.out).mono ?_; rintro e w2 ⟨rfl, hb⟩; have M2 := Lib.hid (M1.out.below hb); clear hb; have w2k0 : w2.cell? ⟨g1, 0, none⟩ = some (.int .i64 a0_0) := (ka M2.out.K 0).trans rfl; have w2fk0 := kc M2.out.K 0; have w2k1 : w2.cell? ⟨g1, 1, none⟩ = some (.string a0_1) := (ka M2.out.K 1).trans rfl; have w2fk1 := kc M2.out.K 1; have w2c0 : w2.cell? ⟨g2, 0, none⟩ = some (.string a1_0) := (ka M2.out.C 0).trans rfl; have w2fc0 := kc M2.out.C 0; have w2c1 : w2.cell? ⟨g2, 1, none⟩ = some (.int .i64 a1_1) := (ka M2.out.C 1).trans rfl; have w2fc1 := kc M2.out.C 1; have w2c2 : w2.cell? ⟨g2, 2, none⟩ = some (.int .i64 a1_2) := (ka M2.out.C 2).trans rfl; have w2fc2 := kc M2.out.C 2; have w2c3 : w2.cell? ⟨g2, 3, none⟩ = some (.int .u8 a1_3) := (ka M2.out.C 3).trans rfl; have w2fc3 := kc M2.out.C 3; have w2c4 : w2.cell? ⟨g2, 4, none⟩ = some (.int .u64 a1_4) := (ka M2.out.C 4).trans rfl; have w2fc4 := kc M2.out.C 4) | (go_at_call 12; refine (token_Check.calls _ _ _ _ _ _ _ _ HE0.out).mono ?_; rintro e w3 ⟨rfl, hb⟩; have M3 := Lib.hid (M2.out.below hb); clear hb; have w3k0 : w3.cell? ⟨g1, 0, none⟩ = some (.int .i64 a0_0) := (ka M3.out.K 0).trans rfl; have w3fk0 := kc M3.out.K 0; have w3k1 : w3.cell? ⟨g1, 1, none⟩ = some (.string a0_1) := (ka M3.out.K 1).trans rfl; have w3fk1 := kc M3.out.K 1; have w3c0 : w3.cell? ⟨g2, 0, none⟩ = some (.string a1_0) := (ka M3.out.C 0).trans rfl; have w3fc0 := kc M3.out.C 0; have w3c1 : w3.cell? ⟨g2, 1, none⟩ = some (.int .i64 a1_1) := (ka M3.out.C 1).trans rfl; have w3fc1 := kc M3.out.C 1; have w3c2 : w3.cell? ⟨g2, 2, none⟩ = some (.int .i64 a1_2) := (ka M3.out.C 2).trans rfl; have w3fc2 := kc M3.out.C 2; have w3c3 : w3.cell? ⟨g2, 3, none⟩ = some (.int .u8 a1_3) := (ka M3.out.C 3).trans rfl; have w3fc3 := kc M3.out.C 3; have w3c4 : w3.cell? ⟨g2, 4, none⟩ = some (.int .u64 a1_4) := (ka M3.out.C 4).trans rfl; have w3fc4 := kc M3.out.C 4))
    go_ret2
    exact ⟨rfl, M3.out.B⟩
  ·rw [if_neg hz] at h
   obtain ⟨rfl, rfl⟩ : (⟨#[]⟩ : ByteArray) = r1 ∧ e0 = r2 := by simpa using h
   have hne : (e0 != 0) = true := by simp [hz]
   clear hz h
   go_wp2_with (first | (go_at_call 16; refine (token_Keyed.calls _ _ _ _ HK0.out).mono ?_; rintro e w2 ⟨rfl, hb⟩; have M2 := Lib.hid (M1.out.below hb); clear hb; have w2k0 : w2.cell? ⟨g1, 0, none⟩ = some (.int .i64 a0_0) := (ka M2.out.K 0).trans rfl; have w2fk0 := kc M2.out.K 0; have w2k1 : w2.cell? ⟨g1, 1, none⟩ = some (.string a0_1) := (ka M2.out.K 1).trans rfl; have w2fk1 := kc M2.out.K 1; have w2c0 : w2.cell? ⟨g2, 0, none⟩ = some (.string a1_0) := (ka M2.out.C 0).trans rfl; have w2fc0 := kc M2.out.C 0; have w2c1 : w2.cell? ⟨g2, 1, none⟩ = some (.int .i64 a1_1) := (ka M2.out.C 1).trans rfl; have w2fc1 := kc M2.out.C 1; have w2c2 : w2.cell? ⟨g2, 2, none⟩ = some (.int .i64 a1_2) := (ka M2.out.C 2).trans rfl; have w2fc2 := kc M2.out.C 2; have w2c3 : w2.cell? ⟨g2, 3, none⟩ = some (.int .u8 a1_3) := (ka M2.out.C 3).trans rfl; have w2fc3 := kc M2.out.C 3; have w2c4 : w2.cell? ⟨g2, 4, none⟩ = some (.int .u64 a1_4) := (ka M2.out.C 4).trans rfl; have w2fc4 := kc M2.out.C 4) | (go_at_call 12; refine (token_Check.calls _ _ _ _ _ _ _ _ HE0.out).mono ?_; rintro e w3 ⟨rfl, hb⟩; have M3 := Lib.hid (M2.out.below hb); clear hb; have w3k0 : w3.cell? ⟨g1, 0, none⟩ = some (.int .i64 a0_0) := (ka M3.out.K 0).trans rfl; have w3fk0 := kc M3.out.K 0; have w3k1 : w3.cell? ⟨g1, 1, none⟩ = some (.string a0_1) := (ka M3.out.K 1).trans rfl; have w3fk1 := kc M3.out.K 1; have w3c0 : w3.cell? ⟨g2, 0, none⟩ = some (.string a1_0) := (ka M3.out.C 0).trans rfl; have w3fc0 := kc M3.out.C 0; have w3c1 : w3.cell? ⟨g2, 1, none⟩ = some (.int .i64 a1_1) := (ka M3.out.C 1).trans rfl; have w3fc1 := kc M3.out.C 1; have w3c2 : w3.cell? ⟨g2, 2, none⟩ = some (.int .i64 a1_2) := (ka M3.out.C 2).trans rfl; have w3fc2 := kc M3.out.C 2; have w3c3 : w3.cell? ⟨g2, 3, none⟩ = some (.int .u8 a1_3) := (ka M3.out.C 3).trans rfl; have w3fc3 := kc M3.out.C 3; have w3c4 : w3.cell? ⟨g2, 4, none⟩ = some (.int .u64 a1_4) := (ka M3.out.C 4).trans rfl; have w3fc4 := kc M3.out.C 4))
   go_ret2
   exact ⟨rfl, M3.out.B⟩
end
def token_Mint.f (k : Nat) (a0_0 : Int) (a0_1 : ByteArray) (a1_0 : ByteArray) (a1_1 : Int) (a1_2 : Int) (a1_3 : Int) (a1_4 : Int) : Option (ByteArray × Int) := tokMint k a0_0 a0_1 a1_0 a1_1 a1_2 a1_3 a1_4
theorem token_Mint.mono : ∀ a0 a1 a2 a3 a4 a5 a6 k, LeO (token_Mint.f k a0 a1 a2 a3 a4 a5 a6) (token_Mint.f (k + 1) a0 a1 a2 a3 a4 a5 a6) := tokMint.mono
theorem token_Mint.calls (k : Nat) (a0_0 : Int) (a0_1 : ByteArray) (a1_0 : ByteArray) (a1_1 : Int) (a1_2 : Int) (a1_3 : Int) (a1_4 : Int) (r1 : ByteArray) (r2 : Int) (w : World) (hT : Aside0 (Tab w)) (h : token_Mint.f k a0_0 a0_1 a1_0 a1_1 a1_2 a1_3 a1_4 = some (r1, r2)) :
  Calls Tryd.prog 10 #[.agg #[.int .i64 a0_0, .string a0_1], .agg #[.string a1_0, .int .i64 a1_1, .int .i64 a1_2, .int .u8 a1_3, .int .u64 a1_4]] w fun e w' => e = .returned (.tuple #[.string r1, .int .i64 r2]) ∧ Below w.heap.size w w' := tokMint_calls k a0_0 a0_1 a1_0 a1_1 a1_2 a1_3 a1_4 r1 r2 w hT h
end Go.Proofs.YtkkomfomjpcbfaaDoor.PTS
