import Derived.Test.YtkkomfomjpcbfaaDoorCTokenMintsE2
import Derived.Test.YtkkomfomjpcbfaaDoorCTokenMintsPTSx8
import Derived.Test.YtkkomfomjpcbfaaDoorCTokenMintsPTSx9
import Derived.Laws.RangeAny
import Derived.Lib.OthersKept
import Derived.Test.YtkkomfomjpcbfaaDoorCTokenMintsE1
import Derived.Test.YtkkomfomjpcbfaaDoorCTokenMintsWGuard
import Derived.Test.YtkkomfomjpcbfaaDoorCTokenMintsTM
import Derived.Test.YtkkomfomjpcbfaaDoorCTokenMintsTT
namespace Go.Proofs.YtkkomfomjpcbfaaDoor.PTS
open Go.RowKit Go.Proofs.YtkkomfomjpcbfaaDoorW.PrintWords Go.Proofs.YtkkomfomjpcbfaaDoorW.PrintLast Go.Proofs.YtkkomfomjpcbfaaDoorW.PrintMore
attribute [local go_sem] max2_int min2_int max_two min_two max_three min_three max_four min_four
set_option linter.unusedVariables false
set_option linter.unusedSimpArgs false
def manometerref17_head.f (k : Nat) (a0_0 : ByteArray) (a0_1 : Int) (a0_2 : Int) (a0_3 : Int) (a0_4 : Int) : Option (ByteArray) := (manometerref01_PutUvarint.f k (IntKind.u64.wrap ((a0_0.size : Int)))).bind fun t252 => (if a0_0.size ≤ 9223372036854775807 then ((manometerref01_PutUvarint.f k (IntKind.u64.wrap (a0_1))).bind fun t258 => ((manometerref01_PutVarint.f k a0_2).bind fun t261 => ((manometerref01_PutUvarint.f k a0_4).bind fun t267 => ((manometerref01_Join.f k (([t252, (bytesOf a0_0), t258, t261, (([a0_3] : List Int)), t267] : List (List Int)))).bind fun t273 => ((manometerref03_Armor.f k t273).bind fun t276 => (if 4 + t276.size ≤ 9223372036854775807 then (some ((⟨#[109, 116, 49, 46]⟩ : ByteArray) ++ t276)) else (none))))))) else (none))
def manometerref17_head.T1 : Bool × List (List Nat × List Nat) := (true, [([], []), ([0], [0]), ([1], [1]), ([2], [2]), ([3], [3]), ([], []), ([5], [5]), ([6], [6]), ([], []), ([8], [8]), ([9], [9]), ([10, 4], [10]), ([], []), ([12], [12]), ([13, 11], [13]), ([], []), ([15], [15]), ([16], [16]), ([], []), ([18], [18]), ([19, 14], [19]), ([4, 7, 11, 14, 17, 20], [4, 7, 11, 14, 17, 20]), ([21, 20], [21]), ([22, 22, 0, 1, 2, 3, 4, 5, 6, 7, 8, 9, 10, 11, 12, 13, 14, 15, 16, 17, 18, 19, 20, 21, 22], [22])])
def manometerref17_head.B1 : List Nat := [0, 1, 3, 7, 15, 0, 32, 96, 0, 256, 768, 1823, 0, 4096, 16159, 0, 32768, 98304, 0, 262144, 818975, 2097151, 4194303, 8388607]
theorem manometerref17_head.tab1 : rtab .any (opsOf Tryd.f28 1) = manometerref17_head.T1 := by kernel_rfl
theorem manometerref17_head.bits1 : waitsOk manometerref17_head.T1.2 manometerref17_head.B1 = true := by kernel_rfl
set_option maxHeartbeats 8000000 in
set_option maxRecDepth 100000 in
theorem manometerref17_head.calls (k : Nat) (a0_0 : ByteArray) (a0_1 : Int) (a0_2 : Int) (a0_3 : Int) (a0_4 : Int) (r : ByteArray) (w : World) (h : manometerref17_head.f k a0_0 a0_1 a0_2 a0_3 a0_4 = some r) :
  Calls Tryd.prog 28 #[.agg #[.string a0_0, .int .i64 a0_1, .int .i64 a0_2, .int .u8 a0_3, .int .u64 a0_4]] w fun e w' => e = .returned (.string r) ∧ Below w.heap.size w w' := by
 have hu26 := Tryd.underlying26
 have HB := Aside0.mk (Below.refl w.heap.size w)
 have H : ((manometerref01_PutUvarint.f k (IntKind.u64.wrap ((a0_0.size : Int)))).bind fun t252 => (if a0_0.size ≤ 9223372036854775807 then ((manometerref01_PutUvarint.f k (IntKind.u64.wrap (a0_1))).bind fun t258 => ((manometerref01_PutVarint.f k a0_2).bind fun t261 => ((manometerref01_PutUvarint.f k a0_4).bind fun t267 => ((manometerref01_Join.f k (([t252, (bytesOf a0_0), t258, t261, (([a0_3] : List Int)), t267] : List (List Int)))).bind fun t273 => ((manometerref03_Armor.f k t273).bind fun t276 => (if 4 + t276.size ≤ 9223372036854775807 then (some ((⟨#[109, 116, 49, 46]⟩ : ByteArray) ++ t276)) else (none))))))) else (none))) = some r := h
 clear h
 replace H := Option.bind_eq_some_iff.mp H
 obtain ⟨t252, A20, H⟩ := H
 replace H : (if a0_0.size ≤ 9223372036854775807 then ((manometerref01_PutUvarint.f k (IntKind.u64.wrap (a0_1))).bind fun t258 => ((manometerref01_PutVarint.f k a0_2).bind fun t261 => ((manometerref01_PutUvarint.f k a0_4).bind fun t267 => ((manometerref01_Join.f k (([t252, (bytesOf a0_0), t258, t261, (([a0_3] : List Int)), t267] : List (List Int)))).bind fun t273 => ((manometerref03_Armor.f k t273).bind fun t276 => (if 4 + t276.size ≤ 9223372036854775807 then (some ((⟨#[109, 116, 49, 46]⟩ : ByteArray) ++ t276)) else (none))))))) else (none)) = some r := H
 have A2 := Aside0.mk A20
 clear A20
 by_cases c3 : a0_0.size ≤ 9223372036854775807
 ·rw [if_pos c3] at H
  have c3b0 := eq_true c3
  have c3b1 : decide (a0_0.size ≤ 9223372036854775807) = true := decide_eq_true c3
  try have c3b2 : (9223372036854775807 < a0_0.size) = False := eq_false (Nat.not_lt.2 c3)
  clear c3
  obtain ⟨y255, hy255⟩ : ∃ y_ : List Int, y_ = (bytesOf a0_0) := ⟨_, rfl⟩
  replace H : ((manometerref01_PutUvarint.f k (IntKind.u64.wrap (a0_1))).bind fun t258 => ((manometerref01_PutVarint.f k a0_2).bind fun t261 => ((manometerref01_PutUvarint.f k a0_4).bind fun t267 => ((manometerref01_Join.f k (([t252, y255, t258, t261, (([a0_3] : List Int)), t267] : List (List Int)))).bind fun t273 => ((manometerref03_Armor.f k t273).bind fun t276 => (if 4 + t276.size ≤ 9223372036854775807 then (some ((⟨#[109, 116, 49, 46]⟩ : ByteArray) ++ t276)) else (none))))))) = some r := by first | (rw [hy255]; with_reducible exact H) | (have H2_ := (Option.bind_some _ _).symm.trans H; rw [hy255]; with_reducible exact H2_) | (have H2_ := (Option.bind_some _ _).symm.trans H; with_reducible exact H2_) | with_reducible exact H | (rw [hy255]; exact H) | exact H
  have Ny255 := Aside0.mk hy255
  clear hy255
  replace H := Option.bind_eq_some_iff.mp H
  obtain ⟨t258, A40, H⟩ := H
  replace H : ((manometerref01_PutVarint.f k a0_2).bind fun t261 => ((manometerref01_PutUvarint.f k a0_4).bind fun t267 => ((manometerref01_Join.f k (([t252, y255, t258, t261, (([a0_3] : List Int)), t267] : List (List Int)))).bind fun t273 => ((manometerref03_Armor.f k t273).bind fun t276 => (if 4 + t276.size ≤ 9223372036854775807 then (some ((⟨#[109, 116, 49, 46]⟩ : ByteArray) ++ t276)) else (none)))))) = some r := H
  have A4 := Aside0.mk A40
  clear A40
  replace H := Option.bind_eq_some_iff.mp H
  obtain ⟨t261, A50, H⟩ := H
  replace H : ((manometerref01_PutUvarint.f k a0_4).bind fun t267 => ((manometerref01_Join.f k (([t252, y255, t258, t261, (([a0_3] : List Int)), t267] : List (List Int)))).bind fun t273 => ((manometerref03_Armor.f k t273).bind fun t276 => (if 4 + t276.size ≤ 9223372036854775807 then (some ((⟨#[109, 116, 49, 46]⟩ : ByteArray) ++ t276)) else (none))))) = some r := H
  have A5 := Aside0.mk A50
  clear A50
  obtain ⟨y264, hy264⟩ : ∃ y_ : List Int, y_ = (([a0_3] : List Int)) := ⟨_, rfl⟩
  replace H : ((manometerref01_PutUvarint.f k a0_4).bind fun t267 => ((manometerref01_Join.f k (([t252, y255, t258, t261, y264, t267] : List (List Int)))).bind fun t273 => ((manometerref03_Armor.f k t273).bind fun t276 => (if 4 + t276.size ≤ 9223372036854775807 then (some ((⟨#[109, 116, 49, 46]⟩ : ByteArray) ++ t276)) else (none))))) = some r := by first | (rw [hy264]; with_reducible exact H) | (have H2_ := (Option.bind_some _ _).symm.trans H; rw [hy264]; with_reducible exact H2_) | (have H2_ := (Option.bind_some _ _).symm.trans H; with_reducible exact H2_) | with_reducible exact H | (rw [hy264]; exact H) | exact H
  have Ny264 := Aside0.mk hy264
  clear hy264
  replace H := Option.bind_eq_some_iff.mp H
  obtain ⟨t267, A60, H⟩ := H
  replace H : ((manometerref01_Join.f k (([t252, y255, t258, t261, y264, t267] : List (List Int)))).bind fun t273 => ((manometerref03_Armor.f k t273).bind fun t276 => (if 4 + t276.size ≤ 9223372036854775807 then (some ((⟨#[109, 116, 49, 46]⟩ : ByteArray) ++ t276)) else (none)))) = some r := H
  have A6 := Aside0.mk A60
  clear A60
  obtain ⟨y270, hy270⟩ : ∃ y_ : List (List Int), y_ = (([t252, y255, t258, t261, y264, t267] : List (List Int))) := ⟨_, rfl⟩
  replace H : ((manometerref01_Join.f k y270).bind fun t273 => ((manometerref03_Armor.f k t273).bind fun t276 => (if 4 + t276.size ≤ 9223372036854775807 then (some ((⟨#[109, 116, 49, 46]⟩ : ByteArray) ++ t276)) else (none)))) = some r := by first | (rw [hy270]; with_reducible exact H) | (have H2_ := (Option.bind_some _ _).symm.trans H; rw [hy270]; with_reducible exact H2_) | (have H2_ := (Option.bind_some _ _).symm.trans H; with_reducible exact H2_) | with_reducible exact H | (rw [hy270]; exact H) | exact H
  have Ny270 := Aside0.mk hy270
  clear hy270
  replace H := Option.bind_eq_some_iff.mp H
  obtain ⟨t273, A70, H⟩ := H
  replace H : ((manometerref03_Armor.f k t273).bind fun t276 => (if 4 + t276.size ≤ 9223372036854775807 then (some ((⟨#[109, 116, 49, 46]⟩ : ByteArray) ++ t276)) else (none))) = some r := H
  have A7 := Aside0.mk A70
  clear A70
  replace H := Option.bind_eq_some_iff.mp H
  obtain ⟨t276, A80, H⟩ := H
  replace H : (if 4 + t276.size ≤ 9223372036854775807 then (some ((⟨#[109, 116, 49, 46]⟩ : ByteArray) ++ t276)) else (none)) = some r := H
  have A8 := Aside0.mk A80
  clear A80
  by_cases c9 : 4 + t276.size ≤ 9223372036854775807
  ·rw [if_pos c9] at H
   have c9b0 := eq_true c9
   try (have c9z := c9; simp [ByteArray.size_append, Kd.size_mk_] at c9z; replace c9z := eq_false (Nat.not_lt.2 c9z))
   have c9b1 : decide (4 + t276.size ≤ 9223372036854775807) = true := decide_eq_true c9
   try have c9b2 : (9223372036854775807 < 4 + t276.size) = False := eq_false (Nat.not_lt.2 c9)
   obtain rfl := Option.some.inj H
   go_enter Tryd.func28, Tryd.ntmps28
   try go_wp2_with (first | ((with_reducible refine gate_dst (N := 1) rfl ?_); refine box_event ?hg (N := 1) ?hd (cs := #[.string a0_0, .int .i64 a0_1, .int .i64 a0_2, .int .u8 a0_3, .int .u64 a0_4]) (t := 26) ?hr ?_; (case hd => rfl); (case hg => rfl); (case hr => first | (go_simp; done) | (go_simp; rfl)); intro gb251 hg w10 hbox hb; have n0_ := Aside0.mk (below_step y1_ hb); have n1_ := Aside0.mk (hbox); have n2_ := Aside0.mk ((y29_ : w.heap.size ≤ gb251)); have n3_ := Aside0.mk ((y29_ : w.heap.size ≤ gb251)); clear HB; have HB := n0_; have BK251 := n1_; have GW251 := n2_; have GE251 := n3_; clear n0_ n1_ n2_ n3_; clear hb hbox hg))
   have n0_ := Aside0.mk (blk_drew BK251.out)
   have n1_ := Aside0.mk (below_drew1 HB.out)
   clear BK251
   clear HB
   have BK251 := n0_
   have HB := n1_
   clear n0_ n1_
   refine start_ (n := 24) (S := fun w' => True) (ds := []) #[false, false, false, false, false, false, false, false, false, false, false, false, false, false, false, false, false, false, false, false, false, false, false, false] (by kernel_rfl) rfl rfl trivial (fun hHeld => ?_); refine with_tabW manometerref17_head.tab1 manometerref17_head.bits1 (fun HT_ HW_ => ?_)
   generalize w10.drew = w11 at BK251 HB hHeld ⊢
   refine pure_ (i := 0) (N := some 4) (v := ?_) (a' := ?_) #[true, false, false, false, false, false, false, false, false, false, false, false, false, false, false, false, false, false, false, false, false, false, false, false] rfl rfl (any_of HT_.out (by kernel_rfl)) (fun _ _ _ h => h) (Or.inl ⟨by rfl, ?_⟩) ?_ ?_
   rotate_left
   ·intro w'
    go_simp
    with_reducible rfl
   rotate_left
   ·simp only [Act.put, List.setIfInBounds_toArray, List.set_cons_zero, List.set_cons_succ, i64_w, i32_w]
    rfl
   refine pure_ (i := 5) (N := some 9) (v := ?_) (a' := ?_) #[true, false, false, false, false, true, false, false, false, false, false, false, false, false, false, false, false, false, false, false, false, false, false, false] rfl rfl (any_of HT_.out (by kernel_rfl)) (fun _ _ _ h => h) (Or.inl ⟨by rfl, ?_⟩) ?_ ?_
   rotate_left
   ·intro w'
    go_simp
    with_reducible rfl
   rotate_left
   ·simp only [Act.put, List.setIfInBounds_toArray, List.set_cons_zero, List.set_cons_succ, i64_w, i32_w]
    rfl
   refine pure_ (i := 8) (N := some 12) (v := ?_) (a' := ?_) #[true, false, false, false, false, true, false, false, true, false, false, false, false, false, false, false, false, false, false, false, false, false, false, false] rfl rfl (any_of HT_.out (by kernel_rfl)) (fun _ _ _ h => h) (Or.inl ⟨by rfl, ?_⟩) ?_ ?_
   rotate_left
   ·intro w'
    go_simp
    with_reducible rfl
   rotate_left
   ·simp only [Act.put, List.setIfInBounds_toArray, List.set_cons_zero, List.set_cons_succ, i64_w, i32_w]
    rfl
   refine pure_ (i := 12) (N := some 16) (v := ?_) (a' := ?_) #[true, false, false, false, false, true, false, false, true, false, false, false, true, false, false, false, false, false, false, false, false, false, false, false] rfl rfl (any_of HT_.out (by kernel_rfl)) (fun _ _ _ h => h) (Or.inl ⟨by rfl, ?_⟩) ?_ ?_
   rotate_left
   ·intro w'
    go_simp
    with_reducible rfl
   rotate_left
   ·simp only [Act.put, List.setIfInBounds_toArray, List.set_cons_zero, List.set_cons_succ, i64_w, i32_w]
    rfl
   refine pure_ (i := 15) (N := some 19) (v := ?_) (a' := ?_) #[true, false, false, false, false, true, false, false, true, false, false, false, true, false, false, true, false, false, false, false, false, false, false, false] rfl rfl (any_of HT_.out (by kernel_rfl)) (fun _ _ _ h => h) (Or.inl ⟨by rfl, ?_⟩) ?_ ?_
   rotate_left
   ·intro w'
    go_simp
    with_reducible rfl
   rotate_left
   ·simp only [Act.put, List.setIfInBounds_toArray, List.set_cons_zero, List.set_cons_succ, i64_w, i32_w]
    rfl
   refine pure_ (i := 18) (N := some 22) (v := ?_) (a' := ?_) #[true, false, false, false, false, true, false, false, true, false, false, false, true, false, false, true, false, false, true, false, false, false, false, false] rfl rfl (any_of HT_.out (by kernel_rfl)) (fun _ _ _ h => h) (Or.inl ⟨by rfl, ?_⟩) ?_ ?_
   rotate_left
   ·intro w'
    go_simp
    with_reducible rfl
   rotate_left
   ·simp only [Act.put, List.setIfInBounds_toArray, List.set_cons_zero, List.set_cons_succ, i64_w, i32_w]
    rfl
   refine inv_at [1, 2, 3, 4, 6, 7, 9, 10, 11, 13, 14, 16, 17, 19, 20, 21, 22, 23] (fun a0_ b a w' => ∃ (v253 : Value) (v256 : Value) (v259 : Value) (v262 : Value) (v265 : Value) (v268 : Value) (v271 : Value) (v274 : Value) (m23_ : Value), a = putSel a0_ b [(1, 5, .string a0_0), (2, 6, .int .i64 (a0_0.size : Int)), (3, 7, .int .u64 (IntKind.u64.wrap ((a0_0.size : Int)))), (4, 8, v253), (6, 10, .string a0_0), (7, 11, v256), (9, 13, .int .i64 a0_1), (10, 14, .int .u64 (IntKind.u64.wrap (a0_1))), (11, 15, v259), (13, 17, .int .i64 a0_2), (14, 18, v262), (16, 20, .int .u8 a0_3), (17, 21, v265), (19, 23, .int .u64 a0_4), (20, 24, v268), (21, 25, v271), (22, 26, v274), (23, 3, m23_)] ∧ (w'.heap[gb251]? = some (.cells #[.string a0_0, .int .i64 a0_1, .int .i64 a0_2, .int .u8 a0_3, .int .u64 a0_4] 26 (0, 0))) ∧ (Below w.heap.size w w') ∧ (b 4 = true → b 21 = false → Kd.R (Kd.int .u8) 5 w' w.heap.size (fun _ => True) v253 t252) ∧ (b 7 = true → Kd.V (Kd.int .u8) 5 w' w.heap.size (fun k_ => k_ ≠ gb251) v256 y255) ∧ (b 11 = true → b 21 = false → Kd.R (Kd.int .u8) 5 w' w.heap.size (fun _ => True) v259 t258) ∧ (b 14 = true → b 21 = false → Kd.R (Kd.int .u8) 5 w' w.heap.size (fun _ => True) v262 t261) ∧ (b 17 = true → b 21 = false → Kd.R (Kd.int .u8) 5 w' w.heap.size (fun _ => True) v265 y264) ∧ (b 20 = true → b 21 = false → Kd.R (Kd.int .u8) 5 w' w.heap.size (fun _ => True) v268 t267) ∧ (b 21 = true → Kd.N (Kd.slice 5 (Kd.int .u8)) 45 w' w.heap.size (fun k_ => k_ ≠ gb251) v271 y270) ∧ (b 22 = true → Kd.R (Kd.int .u8) 5 w' w.heap.size (fun _ => True) v274 t273) ∧ (b 23 = true → (m23_ : Value) = v274)) HT_.out HW_.out (by kernel_rfl) (by kernel_rfl) ?_ ?_ ?_
   ·exact ⟨.bool false, .bool false, .bool false, .bool false, .bool false, .bool false, .bool false, .bool false, .bool false, by simp only [putSel, Bool.false_eq_true, if_false], BK251.out, HB.out, fun h_ => absurd h_ (by decide), fun h_ => absurd h_ (by decide), fun h_ => absurd h_ (by decide), fun h_ => absurd h_ (by decide), fun h_ => absurd h_ (by decide), fun h_ => absurd h_ (by decide), fun h_ => absurd h_ (by decide), fun h_ => absurd h_ (by decide), fun h_ => absurd h_ (by decide)⟩
   ·skip
    clear BK251 HB
    refine steps_cons ?_ ?_
    ·rintro b a w' ⟨v253, v256, v259, v262, v265, v268, v271, v274, m23_, ha, Q_BK251, Q_HB, Q_HO254, Q_HO257, Q_HO260, Q_HO263, Q_HO266, Q_HO269, Q_HO272, Q_HO275, Q_X23_⟩ hb_ hon hoff
     refine ⟨_, rfl, fun K hK => ?_⟩
     have e4 : a.tmps[4]? = some (.pointer (some ⟨gb251, 0, none⟩)) := by rw [ha]; exact (putSel_off rfl).trans rfl
     replace ha := Aside0.mk ha
     have BK251 := Aside0.mk Q_BK251
     have HB := Aside0.mk Q_HB
     have hc0_ : w'.cell? ⟨gb251, 0, none⟩ = some (.string a0_0) := (blk_cell BK251.out 0).trans rfl
     have hc1_ : w'.cell? ⟨gb251, 1, none⟩ = some (.int .i64 a0_1) := (blk_cell BK251.out 1).trans rfl
     have hc2_ : w'.cell? ⟨gb251, 2, none⟩ = some (.int .i64 a0_2) := (blk_cell BK251.out 2).trans rfl
     have hc3_ : w'.cell? ⟨gb251, 3, none⟩ = some (.int .u8 a0_3) := (blk_cell BK251.out 3).trans rfl
     have hc4_ : w'.cell? ⟨gb251, 4, none⟩ = some (.int .u64 a0_4) := (blk_cell BK251.out 4).trans rfl
     refine value_ (w1 := w') (v := .string a0_0) (by rfl) rfl ?_ ?_
     ·go_simp
      (try simp only [i64_w])
      try rfl
     refine hK.out _ _ ⟨v253, v256, v259, v262, v265, v268, v271, v274, m23_, (by rw [ha.out]; exact putSel_upk 0 hb_ rfl rfl rfl), Q_BK251, Q_HB, fun h0_ _ => absurd ((hoff 4 (by kernel_rfl)).symm.trans h0_) (by decide), Q_HO257, fun h0_ _ => absurd ((hoff 11 (by kernel_rfl)).symm.trans h0_) (by decide), fun h0_ _ => absurd ((hoff 14 (by kernel_rfl)).symm.trans h0_) (by decide), Q_HO266, fun h0_ _ => absurd ((hoff 20 (by kernel_rfl)).symm.trans h0_) (by decide), fun h0_ => absurd ((hoff 21 (by kernel_rfl)).symm.trans h0_) (by decide), fun h0_ => absurd ((hoff 22 (by kernel_rfl)).symm.trans h0_) (by decide), fun h0_ => absurd ((hoff 23 (by kernel_rfl)).symm.trans h0_) (by decide)⟩
    refine steps_cons ?_ ?_
    ·rintro b a w' ⟨v253, v256, v259, v262, v265, v268, v271, v274, m23_, ha, Q_BK251, Q_HB, Q_HO254, Q_HO257, Q_HO260, Q_HO263, Q_HO266, Q_HO269, Q_HO272, Q_HO275, Q_X23_⟩ hb_ hon hoff
     refine ⟨_, rfl, fun K hK => ?_⟩
     have e5 : a.tmps[5]? = some (.string a0_0) := by rw [ha]; exact putSel_on (e := (1, 5, .string a0_0)) 0 rfl rfl (hon 1 (by kernel_rfl)) rfl
     replace ha := Aside0.mk ha
     have BK251 := Aside0.mk Q_BK251
     have HB := Aside0.mk Q_HB
     refine value_ (w1 := w') (v := .int .i64 (a0_0.size : Int)) (by rfl) rfl ?_ ?_
     ·go_simp
      (try simp only [i64_w])
      try rfl
     refine hK.out _ _ ⟨v253, v256, v259, v262, v265, v268, v271, v274, m23_, (by rw [ha.out]; exact putSel_upk 1 hb_ rfl rfl rfl), Q_BK251, Q_HB, fun h0_ _ => absurd ((hoff 4 (by kernel_rfl)).symm.trans h0_) (by decide), Q_HO257, fun h0_ _ => absurd ((hoff 11 (by kernel_rfl)).symm.trans h0_) (by decide), fun h0_ _ => absurd ((hoff 14 (by kernel_rfl)).symm.trans h0_) (by decide), Q_HO266, fun h0_ _ => absurd ((hoff 20 (by kernel_rfl)).symm.trans h0_) (by decide), fun h0_ => absurd ((hoff 21 (by kernel_rfl)).symm.trans h0_) (by decide), fun h0_ => absurd ((hoff 22 (by kernel_rfl)).symm.trans h0_) (by decide), fun h0_ => absurd ((hoff 23 (by kernel_rfl)).symm.trans h0_) (by decide)⟩
    refine steps_cons ?_ ?_
    ·rintro b a w' ⟨v253, v256, v259, v262, v265, v268, v271, v274, m23_, ha, Q_BK251, Q_HB, Q_HO254, Q_HO257, Q_HO260, Q_HO263, Q_HO266, Q_HO269, Q_HO272, Q_HO275, Q_X23_⟩ hb_ hon hoff
     refine ⟨_, rfl, fun K hK => ?_⟩
     have e6 : a.tmps[6]? = some (.int .i64 (a0_0.size : Int)) := by rw [ha]; exact putSel_on (e := (2, 6, .int .i64 (a0_0.size : Int))) 1 rfl rfl (hon 2 (by kernel_rfl)) rfl
     replace ha := Aside0.mk ha
     have BK251 := Aside0.mk Q_BK251
     have HB := Aside0.mk Q_HB
     refine value_ (w1 := w') (v := .int .u64 (IntKind.u64.wrap ((a0_0.size : Int)))) (by rfl) rfl ?_ ?_
     ·go_simp
      (try simp only [i64_w])
      try rfl
     refine hK.out _ _ ⟨v253, v256, v259, v262, v265, v268, v271, v274, m23_, (by rw [ha.out]; exact putSel_upk 2 hb_ rfl rfl rfl), Q_BK251, Q_HB, fun h0_ _ => absurd ((hoff 4 (by kernel_rfl)).symm.trans h0_) (by decide), Q_HO257, fun h0_ _ => absurd ((hoff 11 (by kernel_rfl)).symm.trans h0_) (by decide), fun h0_ _ => absurd ((hoff 14 (by kernel_rfl)).symm.trans h0_) (by decide), Q_HO266, fun h0_ _ => absurd ((hoff 20 (by kernel_rfl)).symm.trans h0_) (by decide), fun h0_ => absurd ((hoff 21 (by kernel_rfl)).symm.trans h0_) (by decide), fun h0_ => absurd ((hoff 22 (by kernel_rfl)).symm.trans h0_) (by decide), fun h0_ => absurd ((hoff 23 (by kernel_rfl)).symm.trans h0_) (by decide)⟩
    refine steps_cons ?_ ?_
    ·rintro b a w' ⟨v253, v256, v259, v262, v265, v268, v271, v274, m23_, ha, Q_BK251, Q_HB, Q_HO254, Q_HO257, Q_HO260, Q_HO263, Q_HO266, Q_HO269, Q_HO272, Q_HO275, Q_X23_⟩ hb_ hon hoff
     refine ⟨_, rfl, fun K hK => ?_⟩
     have e7 : a.tmps[7]? = some (.int .u64 (IntKind.u64.wrap ((a0_0.size : Int)))) := by rw [ha]; exact putSel_on (e := (3, 7, .int .u64 (IntKind.u64.wrap ((a0_0.size : Int))))) 2 rfl rfl (hon 3 (by kernel_rfl)) rfl
     replace ha := Aside0.mk ha
     have BK251 := Aside0.mk Q_BK251
     have HB := Aside0.mk Q_HB
     refine goes_ Tryd.func48 (by kernel_rfl) rfl #[.int .u64 (IntKind.u64.wrap ((a0_0.size : Int)))] (by rfl) rfl rfl (by first | (simp only [List.map_toArray, List.map_cons, List.map_nil, Act.eval, Array.getD_eq_getD_getElem?, Option.getD_some, e7]; done) | (simp only [List.map_toArray, List.map_cons, List.map_nil, Act.eval, Array.getD_eq_getD_getElem?, Option.getD_some, e7]; rfl)) ?_
     with_reducible refine (manometerref01_PutUvarint.calls k (IntKind.u64.wrap ((a0_0.size : Int))) t252 _ A2.out).mono ?_
     rintro e w12 ⟨v253, rfl, ho0, hb⟩
     refine ⟨_, rfl, ?_⟩
     have n0_ := Aside0.mk (Kd.R_lower ho0 (below_size y7_))
     have n1_ := Aside0.mk (blk_below (g := gb251) (o := .cells #[.string a0_0, .int .i64 a0_1, .int .i64 a0_2, .int .u8 a0_3, .int .u64 a0_4] 26 (0, 0)) y20_ hb)
     have n2_ := Aside0.mk (below_step y7_ hb)
     have z_HO257 := fun (h0_ : b 7 = true) => (show Kd.V (Kd.int .u8) 5 w12 w.heap.size (fun k_ => k_ ≠ gb251) v256 y255 from by first | exact (Kd.V_elder' y40_ (Kd.R_base ho0) hb) | exact Kd.V_mono (Kd.V_elder' y40_ (Kd.R_base ho0) hb) (fun _ h_ => by first | trivial | exact h_ | exact h_.1))
     have z_HO266 := fun (h0_ : b 17 = true) (h1_ : b 21 = false) => (show Kd.R (Kd.int .u8) 5 w12 w.heap.size (fun _ => True) v265 y264 from by first | exact (Kd.R_elder' y37_ (Kd.R_base ho0) hb) | exact Kd.R_mono (Kd.R_elder' y37_ (Kd.R_base ho0) hb) (fun _ h_ => by first | trivial | exact h_ | exact h_.1))
     clear BK251
     clear HB
     have HO254 := n0_
     have BK251 := n1_
     have HB := n2_
     clear n0_ n1_ n2_
     (try clear hb)
     (try clear hb2)
     (try clear hk)
     (try clear hi)
     (try clear ho0)
     refine hK.out _ _ ⟨v253, v256, v259, v262, v265, v268, v271, v274, m23_, (by rw [ha.out]; exact putSel_upk 3 hb_ rfl rfl rfl), y20_, y7_, fun _ _ => (by (with_reducible repeat (first | apply Kd.R_alloc | apply Kd.R_drewN | apply Kd.R_drew)); first | exact HO254.out | exact Kd.R_mono HO254.out (fun _ _ => trivial)), z_HO257, fun h0_ _ => absurd ((hoff 11 (by kernel_rfl)).symm.trans h0_) (by decide), fun h0_ _ => absurd ((hoff 14 (by kernel_rfl)).symm.trans h0_) (by decide), z_HO266, fun h0_ _ => absurd ((hoff 20 (by kernel_rfl)).symm.trans h0_) (by decide), fun h0_ => absurd ((hoff 21 (by kernel_rfl)).symm.trans h0_) (by decide), fun h0_ => absurd ((hoff 22 (by kernel_rfl)).symm.trans h0_) (by decide), fun h0_ => absurd ((hoff 23 (by kernel_rfl)).symm.trans h0_) (by decide)⟩
    refine steps_cons ?_ ?_
    ·rintro b a w' ⟨v253, v256, v259, v262, v265, v268, v271, v274, m23_, ha, Q_BK251, Q_HB, Q_HO254, Q_HO257, Q_HO260, Q_HO263, Q_HO266, Q_HO269, Q_HO272, Q_HO275, Q_X23_⟩ hb_ hon hoff
     refine ⟨_, rfl, fun K hK => ?_⟩
     have e9 : a.tmps[9]? = some (.pointer (some ⟨gb251, 0, none⟩)) := by rw [ha]; exact (putSel_off rfl).trans rfl
     replace ha := Aside0.mk ha
     have BK251 := Aside0.mk Q_BK251
     have HB := Aside0.mk Q_HB
     have hc0_ : w'.cell? ⟨gb251, 0, none⟩ = some (.string a0_0) := (blk_cell BK251.out 0).trans rfl
     have hc1_ : w'.cell? ⟨gb251, 1, none⟩ = some (.int .i64 a0_1) := (blk_cell BK251.out 1).trans rfl
     have hc2_ : w'.cell? ⟨gb251, 2, none⟩ = some (.int .i64 a0_2) := (blk_cell BK251.out 2).trans rfl
     have hc3_ : w'.cell? ⟨gb251, 3, none⟩ = some (.int .u8 a0_3) := (blk_cell BK251.out 3).trans rfl
     have hc4_ : w'.cell? ⟨gb251, 4, none⟩ = some (.int .u64 a0_4) := (blk_cell BK251.out 4).trans rfl
     refine value_ (w1 := w') (v := .string a0_0) (by rfl) rfl ?_ ?_
     ·go_simp
      (try simp only [i64_w])
      try rfl
     refine hK.out _ _ ⟨v253, v256, v259, v262, v265, v268, v271, v274, m23_, (by rw [ha.out]; exact putSel_upk 4 hb_ rfl rfl rfl), Q_BK251, Q_HB, Q_HO254, fun h0_ => absurd ((hoff 7 (by kernel_rfl)).symm.trans h0_) (by decide), Q_HO260, Q_HO263, Q_HO266, Q_HO269, fun h0_ => absurd ((hoff 21 (by kernel_rfl)).symm.trans h0_) (by decide), fun h0_ => absurd ((hoff 22 (by kernel_rfl)).symm.trans h0_) (by decide), fun h0_ => absurd ((hoff 23 (by kernel_rfl)).symm.trans h0_) (by decide)⟩
    refine steps_cons ?_ ?_
    ·rintro b a w' ⟨v253, v256, v259, v262, v265, v268, v271, v274, m23_, ha, Q_BK251, Q_HB, Q_HO254, Q_HO257, Q_HO260, Q_HO263, Q_HO266, Q_HO269, Q_HO272, Q_HO275, Q_X23_⟩ hb_ hon hoff
     refine ⟨_, rfl, fun K hK => ?_⟩
     have e10 : a.tmps[10]? = some (.string a0_0) := by rw [ha]; exact putSel_on (e := (6, 10, .string a0_0)) 4 rfl rfl (hon 6 (by kernel_rfl)) rfl
     replace ha := Aside0.mk ha
     have BK251 := Aside0.mk Q_BK251
     have HB := Aside0.mk Q_HB
     refine Kd.V_convF_step _ 5 (by rfl) (N' := 11) rfl 9 45 _ rfl a0_0 (by simp [Act.eval, e10]) Tryd.underlying9 Tryd.underlying45 Tryd.underlying5 (of_decide_eq_true y16_) (Below.refl _ _) (Nat.le_refl _) ?_
     intro v256 w12 ho13 hb hg_ hnew_
     clear hg_ hnew_
     (first | rw [← Ny255.out] at ho13 | (simp only [Int.reduceToNat] at ho13; rw [← Ny255.out] at ho13))
     have n0_ := Aside0.mk (Kd.V_lower (Kd.V_mono (ok' := fun k_ => k_ ≠ gb251) ho13 (fun k_ hk_ => (Kd.freshB (g := gb251) (o := .cells #[.string a0_0, .int .i64 a0_1, .int .i64 a0_2, .int .u8 a0_3, .int .u64 a0_4] 26 (0, 0)) y20_ k_ hk_))) (below_size y7_))
     have n1_ := Aside0.mk (blk_below (g := gb251) (o := .cells #[.string a0_0, .int .i64 a0_1, .int .i64 a0_2, .int .u8 a0_3, .int .u64 a0_4] 26 (0, 0)) y20_ hb)
     have n2_ := Aside0.mk (below_step y7_ hb)
     have z_HO254 := fun (h0_ : b 4 = true) (h1_ : b 21 = false) => (show Kd.R (Kd.int .u8) 5 w12 w.heap.size (fun _ => True) v253 t252 from by first | exact (Kd.R_below y70_ hb) | exact Kd.R_mono (Kd.R_below y70_ hb) (fun _ h_ => by first | trivial | exact h_ | exact h_.1))
     have z_HO260 := fun (h0_ : b 11 = true) (h1_ : b 21 = false) => (show Kd.R (Kd.int .u8) 5 w12 w.heap.size (fun _ => True) v259 t258 from by first | exact (Kd.R_below y69_ hb) | exact Kd.R_mono (Kd.R_below y69_ hb) (fun _ h_ => by first | trivial | exact h_ | exact h_.1))
     have z_HO263 := fun (h0_ : b 14 = true) (h1_ : b 21 = false) => (show Kd.R (Kd.int .u8) 5 w12 w.heap.size (fun _ => True) v262 t261 from by first | exact (Kd.R_below y68_ hb) | exact Kd.R_mono (Kd.R_below y68_ hb) (fun _ h_ => by first | trivial | exact h_ | exact h_.1))
     have z_HO266 := fun (h0_ : b 17 = true) (h1_ : b 21 = false) => (show Kd.R (Kd.int .u8) 5 w12 w.heap.size (fun _ => True) v265 y264 from by first | exact (Kd.R_below y37_ hb) | exact Kd.R_mono (Kd.R_below y37_ hb) (fun _ h_ => by first | trivial | exact h_ | exact h_.1))
     have z_HO269 := fun (h0_ : b 20 = true) (h1_ : b 21 = false) => (show Kd.R (Kd.int .u8) 5 w12 w.heap.size (fun _ => True) v268 t267 from by first | exact (Kd.R_below y67_ hb) | exact Kd.R_mono (Kd.R_below y67_ hb) (fun _ h_ => by first | trivial | exact h_ | exact h_.1))
     clear BK251
     clear HB
     have HO257 := n0_
     have BK251 := n1_
     have HB := n2_
     clear n0_ n1_ n2_
     clear hb ho13
     refine hK.out _ _ ⟨v253, v256, v259, v262, v265, v268, v271, v274, m23_, (by rw [ha.out]; exact putSel_upk 5 hb_ rfl rfl rfl), y20_, y7_, z_HO254, fun _ => (by (with_reducible repeat (first | apply Kd.V_alloc | apply Kd.V_drewN | apply Kd.V_drew)); first | exact HO257.out | exact Kd.R_mono HO257.out (fun _ _ => trivial)), z_HO260, z_HO263, z_HO266, z_HO269, fun h0_ => absurd ((hoff 21 (by kernel_rfl)).symm.trans h0_) (by decide), fun h0_ => absurd ((hoff 22 (by kernel_rfl)).symm.trans h0_) (by decide), fun h0_ => absurd ((hoff 23 (by kernel_rfl)).symm.trans h0_) (by decide)⟩
    refine steps_cons ?_ ?_
    ·rintro b a w' ⟨v253, v256, v259, v262, v265, v268, v271, v274, m23_, ha, Q_BK251, Q_HB, Q_HO254, Q_HO257, Q_HO260, Q_HO263, Q_HO266, Q_HO269, Q_HO272, Q_HO275, Q_X23_⟩ hb_ hon hoff
     refine ⟨_, rfl, fun K hK => ?_⟩
     have e12 : a.tmps[12]? = some (.pointer (some ⟨gb251, 1, none⟩)) := by rw [ha]; exact (putSel_off rfl).trans rfl
     replace ha := Aside0.mk ha
     have BK251 := Aside0.mk Q_BK251
     have HB := Aside0.mk Q_HB
     have hc0_ : w'.cell? ⟨gb251, 0, none⟩ = some (.string a0_0) := (blk_cell BK251.out 0).trans rfl
     have hc1_ : w'.cell? ⟨gb251, 1, none⟩ = some (.int .i64 a0_1) := (blk_cell BK251.out 1).trans rfl
     have hc2_ : w'.cell? ⟨gb251, 2, none⟩ = some (.int .i64 a0_2) := (blk_cell BK251.out 2).trans rfl
     have hc3_ : w'.cell? ⟨gb251, 3, none⟩ = some (.int .u8 a0_3) := (blk_cell BK251.out 3).trans rfl
     have hc4_ : w'.cell? ⟨gb251, 4, none⟩ = some (.int .u64 a0_4) := (blk_cell BK251.out 4).trans rfl
     refine value_ (w1 := w') (v := .int .i64 a0_1) (by rfl) rfl ?_ ?_
     ·go_simp
      (try simp only [i64_w])
      try rfl
     refine hK.out _ _ ⟨v253, v256, v259, v262, v265, v268, v271, v274, m23_, (by rw [ha.out]; exact putSel_upk 6 hb_ rfl rfl rfl), Q_BK251, Q_HB, Q_HO254, Q_HO257, fun h0_ _ => absurd ((hoff 11 (by kernel_rfl)).symm.trans h0_) (by decide), fun h0_ _ => absurd ((hoff 14 (by kernel_rfl)).symm.trans h0_) (by decide), Q_HO266, fun h0_ _ => absurd ((hoff 20 (by kernel_rfl)).symm.trans h0_) (by decide), fun h0_ => absurd ((hoff 21 (by kernel_rfl)).symm.trans h0_) (by decide), fun h0_ => absurd ((hoff 22 (by kernel_rfl)).symm.trans h0_) (by decide), fun h0_ => absurd ((hoff 23 (by kernel_rfl)).symm.trans h0_) (by decide)⟩
    refine steps_cons ?_ ?_
    ·rintro b a w' ⟨v253, v256, v259, v262, v265, v268, v271, v274, m23_, ha, Q_BK251, Q_HB, Q_HO254, Q_HO257, Q_HO260, Q_HO263, Q_HO266, Q_HO269, Q_HO272, Q_HO275, Q_X23_⟩ hb_ hon hoff
     refine ⟨_, rfl, fun K hK => ?_⟩
     have e13 : a.tmps[13]? = some (.int .i64 a0_1) := by rw [ha]; exact putSel_on (e := (9, 13, .int .i64 a0_1)) 6 rfl rfl (hon 9 (by kernel_rfl)) rfl
     replace ha := Aside0.mk ha
     have BK251 := Aside0.mk Q_BK251
     have HB := Aside0.mk Q_HB
     refine value_ (w1 := w') (v := .int .u64 (IntKind.u64.wrap (a0_1))) (by rfl) rfl ?_ ?_
     ·go_simp
      (try simp only [i64_w])
      try rfl
     refine hK.out _ _ ⟨v253, v256, v259, v262, v265, v268, v271, v274, m23_, (by rw [ha.out]; exact putSel_upk 7 hb_ rfl rfl rfl), Q_BK251, Q_HB, Q_HO254, Q_HO257, fun h0_ _ => absurd ((hoff 11 (by kernel_rfl)).symm.trans h0_) (by decide), fun h0_ _ => absurd ((hoff 14 (by kernel_rfl)).symm.trans h0_) (by decide), Q_HO266, fun h0_ _ => absurd ((hoff 20 (by kernel_rfl)).symm.trans h0_) (by decide), fun h0_ => absurd ((hoff 21 (by kernel_rfl)).symm.trans h0_) (by decide), fun h0_ => absurd ((hoff 22 (by kernel_rfl)).symm.trans h0_) (by decide), fun h0_ => absurd ((hoff 23 (by kernel_rfl)).symm.trans h0_) (by decide)⟩
    refine steps_cons ?_ ?_
    ·rintro b a w' ⟨v253, v256, v259, v262, v265, v268, v271, v274, m23_, ha, Q_BK251, Q_HB, Q_HO254, Q_HO257, Q_HO260, Q_HO263, Q_HO266, Q_HO269, Q_HO272, Q_HO275, Q_X23_⟩ hb_ hon hoff
     refine ⟨_, rfl, fun K hK => ?_⟩
     have e14 : a.tmps[14]? = some (.int .u64 (IntKind.u64.wrap (a0_1))) := by rw [ha]; exact putSel_on (e := (10, 14, .int .u64 (IntKind.u64.wrap (a0_1)))) 7 rfl rfl (hon 10 (by kernel_rfl)) rfl
     replace ha := Aside0.mk ha
     have BK251 := Aside0.mk Q_BK251
     have HB := Aside0.mk Q_HB
     have HO254 := Aside0.mk (Q_HO254 (hon 4 (by kernel_rfl)) (hoff 21 (by kernel_rfl)))
     refine goes_ Tryd.func48 (by kernel_rfl) rfl #[.int .u64 (IntKind.u64.wrap (a0_1))] (by rfl) rfl rfl (by first | (simp only [List.map_toArray, List.map_cons, List.map_nil, Act.eval, Array.getD_eq_getD_getElem?, Option.getD_some, e14]; done) | (simp only [List.map_toArray, List.map_cons, List.map_nil, Act.eval, Array.getD_eq_getD_getElem?, Option.getD_some, e14]; rfl)) ?_
     with_reducible refine (manometerref01_PutUvarint.calls k (IntKind.u64.wrap (a0_1)) t258 _ A4.out).mono ?_
     rintro e w14 ⟨v259, rfl, ho0, hb⟩
     refine ⟨_, rfl, ?_⟩
     have n0_ := Aside0.mk (Kd.R_elder' y54_ (Kd.R_base ho0) hb)
     have n1_ := Aside0.mk (Kd.R_lower (Kd.R_new' ho0 (Kd.R_lt y54_)) (below_size y7_))
     have n2_ := Aside0.mk (blk_below (g := gb251) (o := .cells #[.string a0_0, .int .i64 a0_1, .int .i64 a0_2, .int .u8 a0_3, .int .u64 a0_4] 26 (0, 0)) y20_ hb)
     have n3_ := Aside0.mk (below_step y7_ hb)
     have z_HO257 := fun (h0_ : b 7 = true) => (show Kd.V (Kd.int .u8) 5 w14 w.heap.size (fun k_ => k_ ≠ gb251) v256 y255 from by first | exact (Kd.V_elder' y40_ (Kd.R_base ho0) hb) | exact Kd.V_mono (Kd.V_elder' y40_ (Kd.R_base ho0) hb) (fun _ h_ => by first | trivial | exact h_ | exact h_.1))
     have z_HO266 := fun (h0_ : b 17 = true) (h1_ : b 21 = false) => (show Kd.R (Kd.int .u8) 5 w14 w.heap.size (fun _ => True) v265 y264 from by first | exact (Kd.R_elder' y37_ (Kd.R_base ho0) hb) | exact Kd.R_mono (Kd.R_elder' y37_ (Kd.R_base ho0) hb) (fun _ h_ => by first | trivial | exact h_ | exact h_.1))
     clear HO254
     clear BK251
     clear HB
     have HO254 := n0_
     have HO260 := n1_
     have BK251 := n2_
     have HB := n3_
     clear n0_ n1_ n2_ n3_
     (try clear hb)
     (try clear hb2)
     (try clear hk)
     (try clear hi)
     (try clear ho0)
     refine hK.out _ _ ⟨v253, v256, v259, v262, v265, v268, v271, v274, m23_, (by rw [ha.out]; exact putSel_upk 8 hb_ rfl rfl rfl), y20_, y7_, fun _ _ => (by (with_reducible repeat (first | apply Kd.R_alloc | apply Kd.R_drewN | apply Kd.R_drew)); exact Kd.R_mono HO254.out (fun _ hk => by first | exact hk.2 | exact hk | exact hk.1 | exact hk.2 | trivial)), z_HO257, fun _ _ => (by (with_reducible repeat (first | apply Kd.R_alloc | apply Kd.R_drewN | apply Kd.R_drew)); exact Kd.R_mono HO260.out (fun _ hk => by first | exact hk.2 | exact hk | exact hk.1 | exact hk.2 | trivial)), fun h0_ _ => absurd ((hoff 14 (by kernel_rfl)).symm.trans h0_) (by decide), z_HO266, fun h0_ _ => absurd ((hoff 20 (by kernel_rfl)).symm.trans h0_) (by decide), fun h0_ => absurd ((hoff 21 (by kernel_rfl)).symm.trans h0_) (by decide), fun h0_ => absurd ((hoff 22 (by kernel_rfl)).symm.trans h0_) (by decide), fun h0_ => absurd ((hoff 23 (by kernel_rfl)).symm.trans h0_) (by decide)⟩
    refine steps_cons ?_ ?_
    ·rintro b a w' ⟨v253, v256, v259, v262, v265, v268, v271, v274, m23_, ha, Q_BK251, Q_HB, Q_HO254, Q_HO257, Q_HO260, Q_HO263, Q_HO266, Q_HO269, Q_HO272, Q_HO275, Q_X23_⟩ hb_ hon hoff
     refine ⟨_, rfl, fun K hK => ?_⟩
     have e16 : a.tmps[16]? = some (.pointer (some ⟨gb251, 2, none⟩)) := by rw [ha]; exact (putSel_off rfl).trans rfl
     replace ha := Aside0.mk ha
     have BK251 := Aside0.mk Q_BK251
     have HB := Aside0.mk Q_HB
     have hc0_ : w'.cell? ⟨gb251, 0, none⟩ = some (.string a0_0) := (blk_cell BK251.out 0).trans rfl
     have hc1_ : w'.cell? ⟨gb251, 1, none⟩ = some (.int .i64 a0_1) := (blk_cell BK251.out 1).trans rfl
     have hc2_ : w'.cell? ⟨gb251, 2, none⟩ = some (.int .i64 a0_2) := (blk_cell BK251.out 2).trans rfl
     have hc3_ : w'.cell? ⟨gb251, 3, none⟩ = some (.int .u8 a0_3) := (blk_cell BK251.out 3).trans rfl
     have hc4_ : w'.cell? ⟨gb251, 4, none⟩ = some (.int .u64 a0_4) := (blk_cell BK251.out 4).trans rfl
     refine value_ (w1 := w') (v := .int .i64 a0_2) (by rfl) rfl ?_ ?_
     ·go_simp
      (try simp only [i64_w])
      try rfl
     refine hK.out _ _ ⟨v253, v256, v259, v262, v265, v268, v271, v274, m23_, (by rw [ha.out]; exact putSel_upk 9 hb_ rfl rfl rfl), Q_BK251, Q_HB, Q_HO254, Q_HO257, Q_HO260, fun h0_ _ => absurd ((hoff 14 (by kernel_rfl)).symm.trans h0_) (by decide), Q_HO266, fun h0_ _ => absurd ((hoff 20 (by kernel_rfl)).symm.trans h0_) (by decide), fun h0_ => absurd ((hoff 21 (by kernel_rfl)).symm.trans h0_) (by decide), fun h0_ => absurd ((hoff 22 (by kernel_rfl)).symm.trans h0_) (by decide), fun h0_ => absurd ((hoff 23 (by kernel_rfl)).symm.trans h0_) (by decide)⟩
    refine steps_cons ?_ ?_
    ·rintro b a w' ⟨v253, v256, v259, v262, v265, v268, v271, v274, m23_, ha, Q_BK251, Q_HB, Q_HO254, Q_HO257, Q_HO260, Q_HO263, Q_HO266, Q_HO269, Q_HO272, Q_HO275, Q_X23_⟩ hb_ hon hoff
     refine ⟨_, rfl, fun K hK => ?_⟩
     have e17 : a.tmps[17]? = some (.int .i64 a0_2) := by rw [ha]; exact putSel_on (e := (13, 17, .int .i64 a0_2)) 9 rfl rfl (hon 13 (by kernel_rfl)) rfl
     replace ha := Aside0.mk ha
     have BK251 := Aside0.mk Q_BK251
     have HB := Aside0.mk Q_HB
     have HO254 := Aside0.mk (Q_HO254 (hon 4 (by kernel_rfl)) (hoff 21 (by kernel_rfl)))
     have HO260 := Aside0.mk (Q_HO260 (hon 11 (by kernel_rfl)) (hoff 21 (by kernel_rfl)))
     refine goes_ Tryd.func49 (by kernel_rfl) rfl #[.int .i64 a0_2] (by rfl) rfl rfl (by first | (simp only [List.map_toArray, List.map_cons, List.map_nil, Act.eval, Array.getD_eq_getD_getElem?, Option.getD_some, e17]; done) | (simp only [List.map_toArray, List.map_cons, List.map_nil, Act.eval, Array.getD_eq_getD_getElem?, Option.getD_some, e17]; rfl)) ?_
     with_reducible refine (manometerref01_PutVarint.calls k a0_2 t261 _ A5.out).mono ?_
     rintro e w15 ⟨v262, rfl, ho0, hb⟩
     refine ⟨_, rfl, ?_⟩
     have n0_ := Aside0.mk (Kd.R_elder' y54_ (Kd.R_base ho0) hb)
     have n1_ := Aside0.mk (Kd.R_elder' y78_ (Kd.R_base ho0) hb)
     have n2_ := Aside0.mk (Kd.R_lower (Kd.R_new' (Kd.R_new' ho0 (Kd.R_lt y54_)) (Kd.R_lt y78_)) (below_size y7_))
     have n3_ := Aside0.mk (blk_below (g := gb251) (o := .cells #[.string a0_0, .int .i64 a0_1, .int .i64 a0_2, .int .u8 a0_3, .int .u64 a0_4] 26 (0, 0)) y20_ hb)
     have n4_ := Aside0.mk (below_step y7_ hb)
     have z_HO257 := fun (h0_ : b 7 = true) => (show Kd.V (Kd.int .u8) 5 w15 w.heap.size (fun k_ => k_ ≠ gb251) v256 y255 from by first | exact (Kd.V_elder' y40_ (Kd.R_base ho0) hb) | exact Kd.V_mono (Kd.V_elder' y40_ (Kd.R_base ho0) hb) (fun _ h_ => by first | trivial | exact h_ | exact h_.1))
     have z_HO266 := fun (h0_ : b 17 = true) (h1_ : b 21 = false) => (show Kd.R (Kd.int .u8) 5 w15 w.heap.size (fun _ => True) v265 y264 from by first | exact (Kd.R_elder' y37_ (Kd.R_base ho0) hb) | exact Kd.R_mono (Kd.R_elder' y37_ (Kd.R_base ho0) hb) (fun _ h_ => by first | trivial | exact h_ | exact h_.1))
     clear HO254
     clear HO260
     clear BK251
     clear HB
     have HO254 := n0_
     have HO260 := n1_
     have HO263 := n2_
     have BK251 := n3_
     have HB := n4_
     clear n0_ n1_ n2_ n3_ n4_
     (try clear hb)
     (try clear hb2)
     (try clear hk)
     (try clear hi)
     (try clear ho0)
     refine hK.out _ _ ⟨v253, v256, v259, v262, v265, v268, v271, v274, m23_, (by rw [ha.out]; exact putSel_upk 10 hb_ rfl rfl rfl), y20_, y7_, fun _ _ => (by (with_reducible repeat (first | apply Kd.R_alloc | apply Kd.R_drewN | apply Kd.R_drew)); first | exact HO254.out | exact Kd.R_mono HO254.out (fun _ _ => trivial)), z_HO257, fun _ _ => (by (with_reducible repeat (first | apply Kd.R_alloc | apply Kd.R_drewN | apply Kd.R_drew)); first | exact HO260.out | exact Kd.R_mono HO260.out (fun _ _ => trivial)), fun _ _ => (by (with_reducible repeat (first | apply Kd.R_alloc | apply Kd.R_drewN | apply Kd.R_drew)); exact Kd.R_mono HO263.out (fun _ hk => by first | exact ⟨hk.1.2, hk.2⟩ | exact hk | exact hk.1 | exact hk.2 | trivial)), z_HO266, fun h0_ _ => absurd ((hoff 20 (by kernel_rfl)).symm.trans h0_) (by decide), fun h0_ => absurd ((hoff 21 (by kernel_rfl)).symm.trans h0_) (by decide), fun h0_ => absurd ((hoff 22 (by kernel_rfl)).symm.trans h0_) (by decide), fun h0_ => absurd ((hoff 23 (by kernel_rfl)).symm.trans h0_) (by decide)⟩
    refine steps_cons ?_ ?_
    ·rintro b a w' ⟨v253, v256, v259, v262, v265, v268, v271, v274, m23_, ha, Q_BK251, Q_HB, Q_HO254, Q_HO257, Q_HO260, Q_HO263, Q_HO266, Q_HO269, Q_HO272, Q_HO275, Q_X23_⟩ hb_ hon hoff
     refine ⟨_, rfl, fun K hK => ?_⟩
     have e19 : a.tmps[19]? = some (.pointer (some ⟨gb251, 3, none⟩)) := by rw [ha]; exact (putSel_off rfl).trans rfl
     replace ha := Aside0.mk ha
     have BK251 := Aside0.mk Q_BK251
     have HB := Aside0.mk Q_HB
     have hc0_ : w'.cell? ⟨gb251, 0, none⟩ = some (.string a0_0) := (blk_cell BK251.out 0).trans rfl
     have hc1_ : w'.cell? ⟨gb251, 1, none⟩ = some (.int .i64 a0_1) := (blk_cell BK251.out 1).trans rfl
     have hc2_ : w'.cell? ⟨gb251, 2, none⟩ = some (.int .i64 a0_2) := (blk_cell BK251.out 2).trans rfl
     have hc3_ : w'.cell? ⟨gb251, 3, none⟩ = some (.int .u8 a0_3) := (blk_cell BK251.out 3).trans rfl
     have hc4_ : w'.cell? ⟨gb251, 4, none⟩ = some (.int .u64 a0_4) := (blk_cell BK251.out 4).trans rfl
     refine value_ (w1 := w') (v := .int .u8 a0_3) (by rfl) rfl ?_ ?_
     ·go_simp
      (try simp only [i64_w])
      try rfl
     refine hK.out _ _ ⟨v253, v256, v259, v262, v265, v268, v271, v274, m23_, (by rw [ha.out]; exact putSel_upk 11 hb_ rfl rfl rfl), Q_BK251, Q_HB, Q_HO254, Q_HO257, Q_HO260, Q_HO263, fun h0_ _ => absurd ((hoff 17 (by kernel_rfl)).symm.trans h0_) (by decide), Q_HO269, fun h0_ => absurd ((hoff 21 (by kernel_rfl)).symm.trans h0_) (by decide), fun h0_ => absurd ((hoff 22 (by kernel_rfl)).symm.trans h0_) (by decide), fun h0_ => absurd ((hoff 23 (by kernel_rfl)).symm.trans h0_) (by decide)⟩
    refine steps_cons ?_ ?_
    ·rintro b a w' ⟨v253, v256, v259, v262, v265, v268, v271, v274, m23_, ha, Q_BK251, Q_HB, Q_HO254, Q_HO257, Q_HO260, Q_HO263, Q_HO266, Q_HO269, Q_HO272, Q_HO275, Q_X23_⟩ hb_ hon hoff
     refine ⟨_, rfl, fun K hK => ?_⟩
     have e20 : a.tmps[20]? = some (.int .u8 a0_3) := by rw [ha]; exact putSel_on (e := (16, 20, .int .u8 a0_3)) 11 rfl rfl (hon 16 (by kernel_rfl)) rfl
     replace ha := Aside0.mk ha
     have BK251 := Aside0.mk Q_BK251
     have HB := Aside0.mk Q_HB
     refine Kd.R_lit_step (Kd.int .u8) _ 5 ?hg (N := 21) ?hd (xs := ([a0_3] : List Int)) (inner := [.int .u8 a0_3]) (ok := fun _ => True) (okp := fun _ => True) ?hr ?hp (fun _ hk => hk) trivial (Below.refl _ _) (Nat.le_refl _) (by simp) ?_; (case hd => rfl); (case hg => rfl); (case hr => first | (go_simp; done) | (go_simp; rfl)); (case hp => exact (Reps.one (show Kd.M (Kd.int .u8) _ _ _ a0_3 [.int .u8 a0_3] from rfl) (Reps.none _ _)))
     intro v265 w12 ho13 hb hg_ hnew_
     clear hg_ hnew_
     (first | rw [← Ny264.out] at ho13 | (simp only [Int.reduceToNat] at ho13; rw [← Ny264.out] at ho13))
     have n0_ := Aside0.mk (Kd.R_lower ho13 (below_size y7_))
     have n1_ := Aside0.mk (blk_below (g := gb251) (o := .cells #[.string a0_0, .int .i64 a0_1, .int .i64 a0_2, .int .u8 a0_3, .int .u64 a0_4] 26 (0, 0)) y20_ hb)
     have n2_ := Aside0.mk (below_step y7_ hb)
     have z_HO254 := fun (h0_ : b 4 = true) (h1_ : b 21 = false) => (show Kd.R (Kd.int .u8) 5 w12 w.heap.size (fun _ => True) v253 t252 from by first | exact (Kd.R_elder' y70_ (Kd.R_base ho13) hb) | exact Kd.R_mono (Kd.R_elder' y70_ (Kd.R_base ho13) hb) (fun _ h_ => by first | trivial | exact h_ | exact h_.1))
     have z_HO257 := fun (h0_ : b 7 = true) => (show Kd.V (Kd.int .u8) 5 w12 w.heap.size (fun k_ => k_ ≠ gb251) v256 y255 from by first | exact (Kd.V_elder' y40_ (Kd.R_base ho13) hb) | exact Kd.V_mono (Kd.V_elder' y40_ (Kd.R_base ho13) hb) (fun _ h_ => by first | trivial | exact h_ | exact h_.1))
     have z_HO260 := fun (h0_ : b 11 = true) (h1_ : b 21 = false) => (show Kd.R (Kd.int .u8) 5 w12 w.heap.size (fun _ => True) v259 t258 from by first | exact (Kd.R_elder' y69_ (Kd.R_base ho13) hb) | exact Kd.R_mono (Kd.R_elder' y69_ (Kd.R_base ho13) hb) (fun _ h_ => by first | trivial | exact h_ | exact h_.1))
     have z_HO263 := fun (h0_ : b 14 = true) (h1_ : b 21 = false) => (show Kd.R (Kd.int .u8) 5 w12 w.heap.size (fun _ => True) v262 t261 from by first | exact (Kd.R_elder' y68_ (Kd.R_base ho13) hb) | exact Kd.R_mono (Kd.R_elder' y68_ (Kd.R_base ho13) hb) (fun _ h_ => by first | trivial | exact h_ | exact h_.1))
     have z_HO269 := fun (h0_ : b 20 = true) (h1_ : b 21 = false) => (show Kd.R (Kd.int .u8) 5 w12 w.heap.size (fun _ => True) v268 t267 from by first | exact (Kd.R_elder' y67_ (Kd.R_base ho13) hb) | exact Kd.R_mono (Kd.R_elder' y67_ (Kd.R_base ho13) hb) (fun _ h_ => by first | trivial | exact h_ | exact h_.1))
     clear BK251
     clear HB
     have HO266 := n0_
     have BK251 := n1_
     have HB := n2_
     clear n0_ n1_ n2_
     clear hb ho13
     refine hK.out _ _ ⟨v253, v256, v259, v262, v265, v268, v271, v274, m23_, (by rw [ha.out]; exact putSel_upk 12 hb_ rfl rfl rfl), y20_, y7_, z_HO254, z_HO257, z_HO260, z_HO263, fun _ _ => (by (with_reducible repeat (first | apply Kd.R_alloc | apply Kd.R_drewN | apply Kd.R_drew)); first | exact HO266.out | exact Kd.R_mono HO266.out (fun _ _ => trivial)), z_HO269, fun h0_ => absurd ((hoff 21 (by kernel_rfl)).symm.trans h0_) (by decide), fun h0_ => absurd ((hoff 22 (by kernel_rfl)).symm.trans h0_) (by decide), fun h0_ => absurd ((hoff 23 (by kernel_rfl)).symm.trans h0_) (by decide)⟩
    refine steps_cons ?_ ?_
    ·rintro b a w' ⟨v253, v256, v259, v262, v265, v268, v271, v274, m23_, ha, Q_BK251, Q_HB, Q_HO254, Q_HO257, Q_HO260, Q_HO263, Q_HO266, Q_HO269, Q_HO272, Q_HO275, Q_X23_⟩ hb_ hon hoff
     refine ⟨_, rfl, fun K hK => ?_⟩
     have e22 : a.tmps[22]? = some (.pointer (some ⟨gb251, 4, none⟩)) := by rw [ha]; exact (putSel_off rfl).trans rfl
     replace ha := Aside0.mk ha
     have BK251 := Aside0.mk Q_BK251
     have HB := Aside0.mk Q_HB
     have hc0_ : w'.cell? ⟨gb251, 0, none⟩ = some (.string a0_0) := (blk_cell BK251.out 0).trans rfl
     have hc1_ : w'.cell? ⟨gb251, 1, none⟩ = some (.int .i64 a0_1) := (blk_cell BK251.out 1).trans rfl
     have hc2_ : w'.cell? ⟨gb251, 2, none⟩ = some (.int .i64 a0_2) := (blk_cell BK251.out 2).trans rfl
     have hc3_ : w'.cell? ⟨gb251, 3, none⟩ = some (.int .u8 a0_3) := (blk_cell BK251.out 3).trans rfl
     have hc4_ : w'.cell? ⟨gb251, 4, none⟩ = some (.int .u64 a0_4) := (blk_cell BK251.out 4).trans rfl
     refine value_ (w1 := w') (v := .int .u64 a0_4) (by rfl) rfl ?_ ?_
     ·go_simp
      (try simp only [i64_w])
      try rfl
     refine hK.out _ _ ⟨v253, v256, v259, v262, v265, v268, v271, v274, m23_, (by rw [ha.out]; exact putSel_upk 13 hb_ rfl rfl rfl), Q_BK251, Q_HB, Q_HO254, Q_HO257, Q_HO260, Q_HO263, Q_HO266, fun h0_ _ => absurd ((hoff 20 (by kernel_rfl)).symm.trans h0_) (by decide), fun h0_ => absurd ((hoff 21 (by kernel_rfl)).symm.trans h0_) (by decide), fun h0_ => absurd ((hoff 22 (by kernel_rfl)).symm.trans h0_) (by decide), fun h0_ => absurd ((hoff 23 (by kernel_rfl)).symm.trans h0_) (by decide)⟩
    refine steps_cons ?_ ?_
    ·rintro b a w' ⟨v253, v256, v259, v262, v265, v268, v271, v274, m23_, ha, Q_BK251, Q_HB, Q_HO254, Q_HO257, Q_HO260, Q_HO263, Q_HO266, Q_HO269, Q_HO272, Q_HO275, Q_X23_⟩ hb_ hon hoff
     refine ⟨_, rfl, fun K hK => ?_⟩
     have e23 : a.tmps[23]? = some (.int .u64 a0_4) := by rw [ha]; exact putSel_on (e := (19, 23, .int .u64 a0_4)) 13 rfl rfl (hon 19 (by kernel_rfl)) rfl
     replace ha := Aside0.mk ha
     have BK251 := Aside0.mk Q_BK251
     have HB := Aside0.mk Q_HB
     have HO254 := Aside0.mk (Q_HO254 (hon 4 (by kernel_rfl)) (hoff 21 (by kernel_rfl)))
     have HO260 := Aside0.mk (Q_HO260 (hon 11 (by kernel_rfl)) (hoff 21 (by kernel_rfl)))
     have HO263 := Aside0.mk (Q_HO263 (hon 14 (by kernel_rfl)) (hoff 21 (by kernel_rfl)))
     refine goes_ Tryd.func48 (by kernel_rfl) rfl #[.int .u64 a0_4] (by rfl) rfl rfl (by first | (simp only [List.map_toArray, List.map_cons, List.map_nil, Act.eval, Array.getD_eq_getD_getElem?, Option.getD_some, e23]; done) | (simp only [List.map_toArray, List.map_cons, List.map_nil, Act.eval, Array.getD_eq_getD_getElem?, Option.getD_some, e23]; rfl)) ?_
     with_reducible refine (manometerref01_PutUvarint.calls k a0_4 t267 _ A6.out).mono ?_
     rintro e w16 ⟨v268, rfl, ho0, hb⟩
     refine ⟨_, rfl, ?_⟩
     have n0_ := Aside0.mk (Kd.R_elder' y54_ (Kd.R_base ho0) hb)
     have n1_ := Aside0.mk (Kd.R_elder' y78_ (Kd.R_base ho0) hb)
     have n2_ := Aside0.mk (Kd.R_elder' (by (with_reducible repeat (first | apply Kd.R_alloc | apply Kd.R_drewN | apply Kd.R_drew)); exact HO263.out) (Kd.R_base ho0) hb)
     have n3_ := Aside0.mk (Kd.R_lower (Kd.R_new' (Kd.R_new' (Kd.R_new' ho0 (Kd.R_lt y54_)) (Kd.R_lt y78_)) (Kd.R_lt (by (with_reducible repeat (first | apply Kd.R_alloc | apply Kd.R_drewN | apply Kd.R_drew)); exact HO263.out))) (below_size y7_))
     have n4_ := Aside0.mk (blk_below (g := gb251) (o := .cells #[.string a0_0, .int .i64 a0_1, .int .i64 a0_2, .int .u8 a0_3, .int .u64 a0_4] 26 (0, 0)) y20_ hb)
     have n5_ := Aside0.mk (below_step y7_ hb)
     have z_HO257 := fun (h0_ : b 7 = true) => (show Kd.V (Kd.int .u8) 5 w16 w.heap.size (fun k_ => k_ ≠ gb251) v256 y255 from by first | exact (Kd.V_elder' y40_ (Kd.R_base ho0) hb) | exact Kd.V_mono (Kd.V_elder' y40_ (Kd.R_base ho0) hb) (fun _ h_ => by first | trivial | exact h_ | exact h_.1))
     have z_HO266 := fun (h0_ : b 17 = true) (h1_ : b 21 = false) => (show Kd.R (Kd.int .u8) 5 w16 w.heap.size (fun _ => True) v265 y264 from by first | exact (Kd.R_elder' y37_ (Kd.R_base ho0) hb) | exact Kd.R_mono (Kd.R_elder' y37_ (Kd.R_base ho0) hb) (fun _ h_ => by first | trivial | exact h_ | exact h_.1))
     clear HO254
     clear HO260
     clear HO263
     clear BK251
     clear HB
     have HO254 := n0_
     have HO260 := n1_
     have HO263 := n2_
     have HO269 := n3_
     have BK251 := n4_
     have HB := n5_
     clear n0_ n1_ n2_ n3_ n4_ n5_
     (try clear hb)
     (try clear hb2)
     (try clear hk)
     (try clear hi)
     (try clear ho0)
     refine hK.out _ _ ⟨v253, v256, v259, v262, v265, v268, v271, v274, m23_, (by rw [ha.out]; exact putSel_upk 14 hb_ rfl rfl rfl), y20_, y7_, fun _ _ => (by (with_reducible repeat (first | apply Kd.R_alloc | apply Kd.R_drewN | apply Kd.R_drew)); exact Kd.R_mono HO254.out (fun _ hk => by first | exact ⟨hk.1.1, ⟨hk.1.2, hk.2⟩⟩ | exact hk | exact hk.1 | exact hk.2 | trivial)), z_HO257, fun _ _ => (by (with_reducible repeat (first | apply Kd.R_alloc | apply Kd.R_drewN | apply Kd.R_drew)); exact Kd.R_mono HO260.out (fun _ hk => by first | exact ⟨hk.1.1, ⟨hk.1.2, hk.2⟩⟩ | exact hk | exact hk.1 | exact hk.2 | trivial)), fun _ _ => (by (with_reducible repeat (first | apply Kd.R_alloc | apply Kd.R_drewN | apply Kd.R_drew)); exact Kd.R_mono HO263.out (fun _ hk => by first | exact ⟨hk.1.1, ⟨hk.1.2, hk.2⟩⟩ | exact hk | exact hk.1 | exact hk.2 | trivial)), z_HO266, fun _ _ => (by (with_reducible repeat (first | apply Kd.R_alloc | apply Kd.R_drewN | apply Kd.R_drew)); exact Kd.R_mono HO269.out (fun _ hk => by first | exact ⟨hk.1.1.2, ⟨hk.1.2, hk.2⟩⟩ | exact hk | exact hk.1 | exact hk.2 | trivial)), fun h0_ => absurd ((hoff 21 (by kernel_rfl)).symm.trans h0_) (by decide), fun h0_ => absurd ((hoff 22 (by kernel_rfl)).symm.trans h0_) (by decide), fun h0_ => absurd ((hoff 23 (by kernel_rfl)).symm.trans h0_) (by decide)⟩
    refine steps_cons ?_ ?_
    ·rintro b a w' ⟨v253, v256, v259, v262, v265, v268, v271, v274, m23_, ha, Q_BK251, Q_HB, Q_HO254, Q_HO257, Q_HO260, Q_HO263, Q_HO266, Q_HO269, Q_HO272, Q_HO275, Q_X23_⟩ hb_ hon hoff
     refine ⟨_, rfl, fun K hK => ?_⟩
     have e8 : a.tmps[8]? = some (v253) := by rw [ha]; exact putSel_on (e := (4, 8, v253)) 3 rfl rfl (hon 4 (by kernel_rfl)) rfl
     have e11 : a.tmps[11]? = some (v256) := by rw [ha]; exact putSel_on (e := (7, 11, v256)) 5 rfl rfl (hon 7 (by kernel_rfl)) rfl
     have e15 : a.tmps[15]? = some (v259) := by rw [ha]; exact putSel_on (e := (11, 15, v259)) 8 rfl rfl (hon 11 (by kernel_rfl)) rfl
     have e18 : a.tmps[18]? = some (v262) := by rw [ha]; exact putSel_on (e := (14, 18, v262)) 10 rfl rfl (hon 14 (by kernel_rfl)) rfl
     have e21 : a.tmps[21]? = some (v265) := by rw [ha]; exact putSel_on (e := (17, 21, v265)) 12 rfl rfl (hon 17 (by kernel_rfl)) rfl
     have e24 : a.tmps[24]? = some (v268) := by rw [ha]; exact putSel_on (e := (20, 24, v268)) 14 rfl rfl (hon 20 (by kernel_rfl)) rfl
     replace ha := Aside0.mk ha
     have BK251 := Aside0.mk Q_BK251
     have HB := Aside0.mk Q_HB
     have HO254 := Aside0.mk (Q_HO254 (hon 4 (by kernel_rfl)) hb_)
     have HO257 := Aside0.mk (Q_HO257 (hon 7 (by kernel_rfl)))
     have HO260 := Aside0.mk (Q_HO260 (hon 11 (by kernel_rfl)) hb_)
     have HO263 := Aside0.mk (Q_HO263 (hon 14 (by kernel_rfl)) hb_)
     have HO266 := Aside0.mk (Q_HO266 (hon 17 (by kernel_rfl)) hb_)
     have HO269 := Aside0.mk (Q_HO269 (hon 20 (by kernel_rfl)) hb_)
     obtain ⟨Ao21, co21, eo21⟩ := Kd.R_slice HO254.out
     (first | subst eo21 | (injection eo21 with f1_ f2_ f3_; have f4_ := f1_.symm; have f5_ := f3_.symm; clear f1_ f2_ f3_; subst f4_; subst f5_))
     obtain ⟨Ao22, co22, eo22⟩ := Kd.V_slice HO257.out
     (first | subst eo22 | (injection eo22 with f1_ f2_ f3_; have f4_ := f1_.symm; have f5_ := f3_.symm; clear f1_ f2_ f3_; subst f4_; subst f5_))
     obtain ⟨Ao23, co23, eo23⟩ := Kd.R_slice HO260.out
     (first | subst eo23 | (injection eo23 with f1_ f2_ f3_; have f4_ := f1_.symm; have f5_ := f3_.symm; clear f1_ f2_ f3_; subst f4_; subst f5_))
     obtain ⟨Ao24, co24, eo24⟩ := Kd.R_slice HO263.out
     (first | subst eo24 | (injection eo24 with f1_ f2_ f3_; have f4_ := f1_.symm; have f5_ := f3_.symm; clear f1_ f2_ f3_; subst f4_; subst f5_))
     obtain ⟨Ao25, co25, eo25⟩ := Kd.R_slice HO266.out
     (first | subst eo25 | (injection eo25 with f1_ f2_ f3_; have f4_ := f1_.symm; have f5_ := f3_.symm; clear f1_ f2_ f3_; subst f4_; subst f5_))
     obtain ⟨Ao26, co26, eo26⟩ := Kd.R_slice HO269.out
     (first | subst eo26 | (injection eo26 with f1_ f2_ f3_; have f4_ := f1_.symm; have f5_ := f3_.symm; clear f1_ f2_ f3_; subst f4_; subst f5_))
     refine Kd.N_lit_step (Kd.slice 5 (Kd.int .u8)) _ 45 ?hg (N' := 25) ?hd (xs := ([t252, y255, t258, t261, y264, t267] : List (List Int))) (inner := [.slice Ao21 t252.length co21, .slice Ao22 y255.length co22, .slice Ao23 t258.length co23, .slice Ao24 t261.length co24, .slice Ao25 y264.length co25, .slice Ao26 t267.length co26]) (ok := (fun k_ => k_ ≠ gb251)) (okp := (fun k_ => k_ ≠ gb251)) ?hr ?hp (fun _ hk => hk) ((show ∀ k_, w'.heap.size ≤ k_ → (fun k_ => k_ ≠ gb251) k_ from fun k_ hk => Kd.freshB (g := gb251) (o := .cells #[.string a0_0, .int .i64 a0_1, .int .i64 a0_2, .int .u8 a0_3, .int .u64 a0_4] 26 (0, 0)) y20_ k_ hk) _ (Nat.le_refl _)) (Below.refl _ _) (Nat.le_refl _) (by simp) ?_; (case hd => rfl); (case hg => rfl); (case hr => first | (go_simp; done) | (go_simp; rfl)); (case hp => exact (Reps.one (show Kd.FK (Kd.slice 5 (Kd.int .u8)) _ _ t252 [.slice Ao21 t252.length co21] from (Kd.FK_slice_mk (Kd.R_reads' (Kd.R_mono (ok' := (fun k_ => k_ ≠ gb251)) (Kd.R_types (HO254.out) BK251.out (by decide)) (fun k_ hk => by first | exact hk.2 | exact hk | exact hk.1 | exact hk.2 | trivial))).2.1 (Kd.R_F (Kd.R_mono (ok' := (fun k_ => k_ ≠ gb251)) (Kd.R_types (HO254.out) BK251.out (by decide)) (fun k_ hk => by first | exact hk.2 | exact hk | exact hk.1 | exact hk.2 | trivial))))) (Reps.one (show Kd.FK (Kd.slice 5 (Kd.int .u8)) _ _ y255 [.slice Ao22 y255.length co22] from (Kd.FK_slice_mk (Kd.V_reads' (Kd.V_mono (ok' := (fun k_ => k_ ≠ gb251)) (HO257.out) (fun k_ hk => by first | exact hk.2.2.2.2.2 | exact hk | exact hk.1 | exact hk.2 | trivial))).2.1 (Kd.V_F (Kd.V_mono (ok' := (fun k_ => k_ ≠ gb251)) (HO257.out) (fun k_ hk => by first | exact hk.2.2.2.2.2 | exact hk | exact hk.1 | exact hk.2 | trivial))))) (Reps.one (show Kd.FK (Kd.slice 5 (Kd.int .u8)) _ _ t258 [.slice Ao23 t258.length co23] from (Kd.FK_slice_mk (Kd.R_reads' (Kd.R_mono (ok' := (fun k_ => k_ ≠ gb251)) (Kd.R_types (HO260.out) BK251.out (by decide)) (fun k_ hk => by first | exact hk.2 | exact hk | exact hk.1 | exact hk.2 | trivial))).2.1 (Kd.R_F (Kd.R_mono (ok' := (fun k_ => k_ ≠ gb251)) (Kd.R_types (HO260.out) BK251.out (by decide)) (fun k_ hk => by first | exact hk.2 | exact hk | exact hk.1 | exact hk.2 | trivial))))) (Reps.one (show Kd.FK (Kd.slice 5 (Kd.int .u8)) _ _ t261 [.slice Ao24 t261.length co24] from (Kd.FK_slice_mk (Kd.R_reads' (Kd.R_mono (ok' := (fun k_ => k_ ≠ gb251)) (Kd.R_types (HO263.out) BK251.out (by decide)) (fun k_ hk => by first | exact hk.2 | exact hk | exact hk.1 | exact hk.2 | trivial))).2.1 (Kd.R_F (Kd.R_mono (ok' := (fun k_ => k_ ≠ gb251)) (Kd.R_types (HO263.out) BK251.out (by decide)) (fun k_ hk => by first | exact hk.2 | exact hk | exact hk.1 | exact hk.2 | trivial))))) (Reps.one (show Kd.FK (Kd.slice 5 (Kd.int .u8)) _ _ y264 [.slice Ao25 y264.length co25] from (Kd.FK_slice_mk (Kd.R_reads' (Kd.R_mono (ok' := (fun k_ => k_ ≠ gb251)) (Kd.R_types (HO266.out) BK251.out (by decide)) (fun k_ hk => by first | exact hk.2 | exact hk | exact hk.1 | exact hk.2 | trivial))).2.1 (Kd.R_F (Kd.R_mono (ok' := (fun k_ => k_ ≠ gb251)) (Kd.R_types (HO266.out) BK251.out (by decide)) (fun k_ hk => by first | exact hk.2 | exact hk | exact hk.1 | exact hk.2 | trivial))))) (Reps.one (show Kd.FK (Kd.slice 5 (Kd.int .u8)) _ _ t267 [.slice Ao26 t267.length co26] from (Kd.FK_slice_mk (Kd.R_reads' (Kd.R_mono (ok' := (fun k_ => k_ ≠ gb251)) (Kd.R_types (HO269.out) BK251.out (by decide)) (fun k_ hk => by first | exact hk.2 | exact hk | exact hk.1 | exact hk.2 | trivial))).2.1 (Kd.R_F (Kd.R_mono (ok' := (fun k_ => k_ ≠ gb251)) (Kd.R_types (HO269.out) BK251.out (by decide)) (fun k_ hk => by first | exact hk.2 | exact hk | exact hk.1 | exact hk.2 | trivial))))) (Reps.none _ _))))))))
     intro v271 w27 ho28 hb hg_ hnew_
     clear hg_ hnew_
     (first | rw [← Ny270.out] at ho28 | (simp only [Int.reduceToNat] at ho28; rw [← Ny270.out] at ho28))
     have n0_ := Aside0.mk (Kd.V_elder' y83_ (Kd.N_base ho28) hb)
     have n1_ := Aside0.mk (Kd.N_lower ho28 (below_size y7_))
     have n2_ := Aside0.mk (blk_below (g := gb251) (o := .cells #[.string a0_0, .int .i64 a0_1, .int .i64 a0_2, .int .u8 a0_3, .int .u64 a0_4] 26 (0, 0)) y20_ hb)
     have n3_ := Aside0.mk (below_step y7_ hb)
     clear HO257
     clear BK251
     clear HB
     clear HO254
     clear HO260
     clear HO263
     clear HO266
     clear HO269
     have HO257 := n0_
     have HO272 := n1_
     have BK251 := n2_
     have HB := n3_
     clear n0_ n1_ n2_ n3_
     clear hb ho28
     refine hK.out _ _ ⟨.slice Ao21 t252.length co21, .slice Ao22 y255.length co22, .slice Ao23 t258.length co23, .slice Ao24 t261.length co24, .slice Ao25 y264.length co25, .slice Ao26 t267.length co26, v271, v274, m23_, (by rw [ha.out]; exact putSel_upk 15 hb_ rfl rfl rfl), y20_, y7_, fun _ h1_ => absurd ((up_self b 21).symm.trans h1_) (by decide), fun _ => (by (with_reducible repeat (first | apply Kd.V_alloc | apply Kd.V_drewN | apply Kd.V_drew)); exact Kd.V_mono HO257.out (fun _ hk => by first | exact ⟨hk.2, hk.1.2.2.2.2.2⟩ | exact hk | exact hk.1 | exact hk.2 | trivial)), fun _ h1_ => absurd ((up_self b 21).symm.trans h1_) (by decide), fun _ h1_ => absurd ((up_self b 21).symm.trans h1_) (by decide), fun _ h1_ => absurd ((up_self b 21).symm.trans h1_) (by decide), fun _ h1_ => absurd ((up_self b 21).symm.trans h1_) (by decide), fun _ => (by (with_reducible repeat (first | apply Kd.N_alloc | apply Kd.N_drewN | apply Kd.N_drew)); first | exact HO272.out | exact Kd.R_mono HO272.out (fun _ _ => trivial)), fun h0_ => absurd ((hoff 22 (by kernel_rfl)).symm.trans h0_) (by decide), fun h0_ => absurd ((hoff 23 (by kernel_rfl)).symm.trans h0_) (by decide)⟩
    refine steps_cons ?_ ?_
    ·rintro b a w' ⟨v253, v256, v259, v262, v265, v268, v271, v274, m23_, ha, Q_BK251, Q_HB, Q_HO254, Q_HO257, Q_HO260, Q_HO263, Q_HO266, Q_HO269, Q_HO272, Q_HO275, Q_X23_⟩ hb_ hon hoff
     refine ⟨_, rfl, fun K hK => ?_⟩
     have e25 : a.tmps[25]? = some (v271) := by rw [ha]; exact putSel_on (e := (21, 25, v271)) 15 rfl rfl (hon 21 (by kernel_rfl)) rfl
     replace ha := Aside0.mk ha
     have BK251 := Aside0.mk Q_BK251
     have HB := Aside0.mk Q_HB
     have HO257 := Aside0.mk (Q_HO257 (hon 7 (by kernel_rfl)))
     have HO272 := Aside0.mk (Q_HO272 (hon 21 (by kernel_rfl)))
     obtain ⟨Ao29, co29, eo29⟩ := Kd.N_slice HO272.out
     (first | subst eo29 | (injection eo29 with f1_ f2_ f3_; have f4_ := f1_.symm; have f5_ := f3_.symm; clear f1_ f2_ f3_; subst f4_; subst f5_))
     refine goes_ Tryd.func47 (by kernel_rfl) rfl #[.slice Ao29 y270.length co29] (by rfl) rfl rfl (by first | (simp only [List.map_toArray, List.map_cons, List.map_nil, Act.eval, Array.getD_eq_getD_getElem?, Option.getD_some, e25]; done) | (simp only [List.map_toArray, List.map_cons, List.map_nil, Act.eval, Array.getD_eq_getD_getElem?, Option.getD_some, e25]; rfl)) ?_
     with_reducible refine (manometerref01_Join.calls k _ _ y270 t273 _ ?side1 ?side2 A7.out).mono ?_
     (case side1 => repeat (first | exact (Kd.N_reads' HO272.out).2.2 | (with_reducible refine Kd.C_alloc ?_ _) | (with_reducible refine Kd.C_drewN ?_ _) | (with_reducible refine Kd.C_drew ?_)))
     (case side2 => exact (Kd.N_reads' HO272.out).2.1)
     rintro e w30 ⟨v274, rfl, ho0, hb⟩
     refine ⟨_, rfl, ?_⟩
     have n0_ := Aside0.mk (Kd.V_elder' y83_ (Kd.R_base ho0) hb)
     have n1_ := Aside0.mk (Kd.N_elder' (by (with_reducible repeat (first | apply Kd.N_alloc | apply Kd.N_drewN | apply Kd.N_drew)); exact HO272.out) (Kd.R_base ho0) hb)
     have n2_ := Aside0.mk (Kd.R_lower ho0 (below_size y7_))
     have n3_ := Aside0.mk (blk_below (g := gb251) (o := .cells #[.string a0_0, .int .i64 a0_1, .int .i64 a0_2, .int .u8 a0_3, .int .u64 a0_4] 26 (0, 0)) y20_ hb)
     have n4_ := Aside0.mk (below_step y7_ hb)
     clear HO257
     clear HO272
     clear BK251
     clear HB
     have HO257 := n0_
     have HO272 := n1_
     have HO275 := n2_
     have BK251 := n3_
     have HB := n4_
     clear n0_ n1_ n2_ n3_ n4_
     (try clear hb)
     (try clear hb2)
     (try clear hk)
     (try clear hi)
     (try clear ho0)
     refine hK.out _ _ ⟨v253, v256, v259, v262, v265, v268, .slice Ao29 y270.length co29, v274, m23_, (by rw [ha.out]; exact putSel_upk 16 hb_ rfl rfl rfl), y20_, y7_, fun _ h1_ => absurd ((hon 21 (by kernel_rfl)).symm.trans h1_) (by decide), fun _ => (by (with_reducible repeat (first | apply Kd.V_alloc | apply Kd.V_drewN | apply Kd.V_drew)); exact Kd.V_mono HO257.out (fun _ hk => by first | exact ⟨hk.1.1, ⟨hk.2, hk.1.2⟩⟩ | exact hk | exact hk.1 | exact hk.2 | trivial)), fun _ h1_ => absurd ((hon 21 (by kernel_rfl)).symm.trans h1_) (by decide), fun _ h1_ => absurd ((hon 21 (by kernel_rfl)).symm.trans h1_) (by decide), fun _ h1_ => absurd ((hon 21 (by kernel_rfl)).symm.trans h1_) (by decide), fun _ h1_ => absurd ((hon 21 (by kernel_rfl)).symm.trans h1_) (by decide), fun _ => (by (with_reducible repeat (first | apply Kd.N_alloc | apply Kd.N_drewN | apply Kd.N_drew)); exact Kd.N_mono HO272.out (fun _ hk => by first | exact ⟨hk.2, hk.1⟩ | exact hk | exact hk.1 | exact hk.2 | trivial)), fun _ => (by (with_reducible repeat (first | apply Kd.R_alloc | apply Kd.R_drewN | apply Kd.R_drew)); first | exact HO275.out | exact Kd.R_mono HO275.out (fun _ _ => trivial)), fun h0_ => absurd ((hoff 23 (by kernel_rfl)).symm.trans h0_) (by decide)⟩
    refine steps_cons ?_ ?_
    ·rintro b a w' ⟨v253, v256, v259, v262, v265, v268, v271, v274, m23_, ha, Q_BK251, Q_HB, Q_HO254, Q_HO257, Q_HO260, Q_HO263, Q_HO266, Q_HO269, Q_HO272, Q_HO275, Q_X23_⟩ hb_ hon hoff
     refine ⟨_, rfl, fun K hK => ?_⟩
     have e26 : a.tmps[26]? = some (v274) := by rw [ha]; exact putSel_on (e := (22, 26, v274)) 16 rfl rfl (hon 22 (by kernel_rfl)) rfl
     replace ha := Aside0.mk ha
     have BK251 := Aside0.mk Q_BK251
     have HB := Aside0.mk Q_HB
     have HO257 := Aside0.mk (Q_HO257 (hon 7 (by kernel_rfl)))
     have HO272 := Aside0.mk (Q_HO272 (hon 21 (by kernel_rfl)))
     have HO275 := Aside0.mk (Q_HO275 (hon 22 (by kernel_rfl)))
     refine value_ (w1 := w') (v := v274) (by rfl) rfl ?_ ?_
     ·go_simp
      (try simp only [i64_w])
      try rfl
     refine hK.out _ _ ⟨v253, v256, v259, v262, v265, v268, v271, v274, (v274), (by rw [ha.out]; exact putSel_upk 17 hb_ rfl rfl rfl), Q_BK251, Q_HB, fun _ h1_ => absurd ((hon 21 (by kernel_rfl)).symm.trans h1_) (by decide), Q_HO257, fun _ h1_ => absurd ((hon 21 (by kernel_rfl)).symm.trans h1_) (by decide), fun _ h1_ => absurd ((hon 21 (by kernel_rfl)).symm.trans h1_) (by decide), fun _ h1_ => absurd ((hon 21 (by kernel_rfl)).symm.trans h1_) (by decide), fun _ h1_ => absurd ((hon 21 (by kernel_rfl)).symm.trans h1_) (by decide), Q_HO272, Q_HO275, fun _ => rfl⟩
    exact steps_nil
   rintro b a w30 hall ⟨v253, v256, v259, v262, v265, v268, v271, v274, m23_, ha, Q_BK251, Q_HB, Q_HO254, Q_HO257, Q_HO260, Q_HO263, Q_HO266, Q_HO269, Q_HO272, Q_HO275, Q_X23_⟩
   clear BK251 HB
   have hb1_ := hall 1 (by kernel_rfl)
   have hb2_ := hall 2 (by kernel_rfl)
   have hb3_ := hall 3 (by kernel_rfl)
   have hb4_ := hall 4 (by kernel_rfl)
   have hb6_ := hall 6 (by kernel_rfl)
   have hb7_ := hall 7 (by kernel_rfl)
   have hb9_ := hall 9 (by kernel_rfl)
   have hb10_ := hall 10 (by kernel_rfl)
   have hb11_ := hall 11 (by kernel_rfl)
   have hb13_ := hall 13 (by kernel_rfl)
   have hb14_ := hall 14 (by kernel_rfl)
   have hb16_ := hall 16 (by kernel_rfl)
   have hb17_ := hall 17 (by kernel_rfl)
   have hb19_ := hall 19 (by kernel_rfl)
   have hb20_ := hall 20 (by kernel_rfl)
   have hb21_ := hall 21 (by kernel_rfl)
   have hb22_ := hall 22 (by kernel_rfl)
   have hb23_ := hall 23 (by kernel_rfl)
   subst ha
   obtain rfl := Q_X23_ hb23_
   simp only [putSel, hb1_, hb2_, hb3_, hb4_, hb6_, hb7_, hb9_, hb10_, hb11_, hb13_, hb14_, hb16_, hb17_, hb19_, hb20_, hb21_, hb22_, hb23_, if_true, Act.put, List.setIfInBounds_toArray, List.set_cons_zero, List.set_cons_succ]
   have BK251 := Aside0.mk Q_BK251
   clear Q_BK251
   have HB := Aside0.mk Q_HB
   clear Q_HB
   clear Q_HO254
   have HO257 := Aside0.mk (Q_HO257 hb7_)
   clear Q_HO257
   clear Q_HO260
   clear Q_HO263
   clear Q_HO266
   clear Q_HO269
   have HO272 := Aside0.mk (Q_HO272 hb21_)
   clear Q_HO272
   have HO275 := Aside0.mk (Q_HO275 hb22_)
   clear Q_HO275
   clear hall hb1_ hb2_ hb3_ hb4_ hb6_ hb7_ hb9_ hb10_ hb11_ hb13_ hb14_ hb16_ hb17_ hb19_ hb20_ hb21_ hb22_ hb23_
   obtain ⟨Ao31, co31, eo31⟩ := Kd.R_slice HO275.out
   subst eo31
   try go_wp2_with (first | ((with_reducible refine gate_callee (f := 29) rfl ?_); refine goesL_ (some 28) rfl rfl Tryd.func29 (by kernel_rfl) rfl #[.slice Ao31 t273.length co31] rfl y2_ ?_; (with_reducible refine (manometerref03_Armor.calls k _ _ t273 t276 _ ?side1 ?side2 A8.out).mono ?_); (case side1 => repeat (first | exact (Kd.R_reads' HO275.out).2.2 | (with_reducible refine Kd.C_alloc ?_ _) | (with_reducible refine Kd.C_drewN ?_ _) | (with_reducible refine Kd.C_drew ?_))); (case side2 => exact (Kd.R_reads' HO275.out).2.1); rintro e w32 ⟨rfl, hb⟩; refine ⟨_, rfl, ?_⟩; have n0_ := Aside0.mk (Kd.V_below y83_ hb); have n1_ := Aside0.mk (Kd.N_below (by (with_reducible repeat (first | apply Kd.N_alloc | apply Kd.N_drewN | apply Kd.N_drew)); exact HO272.out) hb); have n2_ := Aside0.mk (Kd.R_below (by (with_reducible repeat (first | apply Kd.R_alloc | apply Kd.R_drewN | apply Kd.R_drew)); exact HO275.out) hb); have n3_ := Aside0.mk (blk_below (g := gb251) (o := .cells #[.string a0_0, .int .i64 a0_1, .int .i64 a0_2, .int .u8 a0_3, .int .u64 a0_4] 26 (0, 0)) y20_ hb); have n4_ := Aside0.mk (below_step y7_ hb); clear HO257; clear HO272; clear HO275; clear BK251; clear HB; have HO257 := n0_; have HO272 := n1_; have HO275 := n2_; have BK251 := n3_; have HB := n4_; clear n0_ n1_ n2_ n3_ n4_; (try clear hb); (try clear hb2); (try clear hk); (try clear hi)))
   go_ret
   exact ⟨y6_, y7_⟩
  ·rw [if_neg c9] at H
   exact absurd H (by simp)
 ·rw [if_neg c3] at H
  exact absurd H (by simp)
def manometerref03_Mac.f (l0 : List Int) (l1 : List Int) : Option (List Int) := if l0.length ≤ 1000000 then (if l1.length ≤ 1000000 then (if l0.all (fun x => decide (0 ≤ x ∧ x < 256)) = true then (if l1.all (fun x => decide (0 ≤ x ∧ x < 256)) = true then some (Sha.mac l0 l1) else none) else none) else none) else none
theorem manometerref03_Mac.calls (A0 : Option Addr) (c0 : Nat) (l0 : List Int) (A1 : Option Addr) (c1 : Nat) (l1 : List Int) (r : List Int) (w : World) (hr0 : Kd.C (Kd.int .u8) w A0 l0.length l0) (hc0 : l0.length ≤ c0) (hr1 : Kd.C (Kd.int .u8) w A1 l1.length l1) (hc1 : l1.length ≤ c1) (h : manometerref03_Mac.f l0 l1 = some r) :
  Calls Tryd.prog 30 #[.slice A0 l0.length c0, .slice A1 l1.length c1] w fun e w' => ∃ v0_ : Value, e = .returned (v0_) ∧ Kd.R (Kd.int .u8) 5 w' w.heap.size (fun _ => True) v0_ r ∧ Below w.heap.size w w' := by
 unfold manometerref03_Mac.f at h
 split at h
 ·rename_i h1
  split at h
  ·rename_i h2
   split at h
   ·rename_i h3
    split at h
    ·rename_i h4
     obtain rfl := Option.some.inj h
     refine (rmacR_calls w A0 c0 l0 A1 c1 l1 hr0 hc0 (fun x hx => of_decide_eq_true (List.all_eq_true.1 h3 x hx)) (by omega) hr1 hc1 (fun x hx => of_decide_eq_true (List.all_eq_true.1 h4 x hx)) (by omega)).mono ?_
     rintro e w' ⟨v, rfl, hR, hB⟩
     exact ⟨v, rfl, hR, hB⟩
    ·cases h
   ·cases h
  ·cases h
 ·cases h
def manometerref17_Mint.f (k : Nat) (a0_0 : Int) (a0_1 : ByteArray) (a1_0 : ByteArray) (a1_1 : Int) (a1_2 : Int) (a1_3 : Int) (a1_4 : Int) : Option (ByteArray × Int) := (manometerref17_Keyed.f a0_0 a0_1).bind fun t279 => (if t279 = true then ((manometerref17_Check.f k a1_0 a1_1 a1_2 a1_3 a1_4).bind fun t280 => (if t280 = 0 then (if a1_1 = a0_0 then ((manometerref17_head.f k a1_0 a1_1 a1_2 a1_3 a1_4).bind fun t281 => (if t281.size + 1 ≤ 9223372036854775807 then (if a0_1.size ≤ 9223372036854775807 then (if t281.size ≤ 9223372036854775807 then ((manometerref03_Mac.f (bytesOf a0_1) (bytesOf t281)).bind fun t288 => ((manometerref03_Armor.f k t288).bind fun t291 => (if (t281 ++ (⟨#[46]⟩ : ByteArray)).size + t291.size ≤ 9223372036854775807 then (some ((t281 ++ (⟨#[46]⟩ : ByteArray)) ++ t291, 0)) else (none)))) else (none)) else (none)) else (none))) else (some ((⟨#[]⟩ : ByteArray), 181))) else (some ((⟨#[]⟩ : ByteArray), t280)))) else (some ((⟨#[]⟩ : ByteArray), 181)))
set_option maxHeartbeats 8000000 in
set_option maxRecDepth 100000 in
theorem manometerref17_Mint.calls (k : Nat) (a0_0 : Int) (a0_1 : ByteArray) (a1_0 : ByteArray) (a1_1 : Int) (a1_2 : Int) (a1_3 : Int) (a1_4 : Int) (r1 : ByteArray) (r2 : Int) (w : World) (h : manometerref17_Mint.f k a0_0 a0_1 a1_0 a1_1 a1_2 a1_3 a1_4 = some (r1, r2)) :
  Calls Tryd.prog 11 #[.agg #[.int .i64 a0_0, .string a0_1], .agg #[.string a1_0, .int .i64 a1_1, .int .i64 a1_2, .int .u8 a1_3, .int .u64 a1_4]] w fun e w' => e = .returned (.tuple #[.string r1, .int .i64 r2]) ∧ Below w.heap.size w w' := by
 have hu23 := Tryd.underlying23
 have hu26 := Tryd.underlying26
 have HB := Aside0.mk (Below.refl w.heap.size w)
 have H : ((manometerref17_Keyed.f a0_0 a0_1).bind fun t279 => (if t279 = true then ((manometerref17_Check.f k a1_0 a1_1 a1_2 a1_3 a1_4).bind fun t280 => (if t280 = 0 then (if a1_1 = a0_0 then ((manometerref17_head.f k a1_0 a1_1 a1_2 a1_3 a1_4).bind fun t281 => (if t281.size + 1 ≤ 9223372036854775807 then (if a0_1.size ≤ 9223372036854775807 then (if t281.size ≤ 9223372036854775807 then ((manometerref03_Mac.f (bytesOf a0_1) (bytesOf t281)).bind fun t288 => ((manometerref03_Armor.f k t288).bind fun t291 => (if (t281 ++ (⟨#[46]⟩ : ByteArray)).size + t291.size ≤ 9223372036854775807 then (some ((t281 ++ (⟨#[46]⟩ : ByteArray)) ++ t291, 0)) else (none)))) else (none)) else (none)) else (none))) else (some ((⟨#[]⟩ : ByteArray), 181))) else (some ((⟨#[]⟩ : ByteArray), t280)))) else (some ((⟨#[]⟩ : ByteArray), 181)))) = some (r1, r2) := h
 clear h
 replace H := Option.bind_eq_some_iff.mp H
 obtain ⟨t279, A30, H⟩ := H
 replace H : (if t279 = true then ((manometerref17_Check.f k a1_0 a1_1 a1_2 a1_3 a1_4).bind fun t280 => (if t280 = 0 then (if a1_1 = a0_0 then ((manometerref17_head.f k a1_0 a1_1 a1_2 a1_3 a1_4).bind fun t281 => (if t281.size + 1 ≤ 9223372036854775807 then (if a0_1.size ≤ 9223372036854775807 then (if t281.size ≤ 9223372036854775807 then ((manometerref03_Mac.f (bytesOf a0_1) (bytesOf t281)).bind fun t288 => ((manometerref03_Armor.f k t288).bind fun t291 => (if (t281 ++ (⟨#[46]⟩ : ByteArray)).size + t291.size ≤ 9223372036854775807 then (some ((t281 ++ (⟨#[46]⟩ : ByteArray)) ++ t291, 0)) else (none)))) else (none)) else (none)) else (none))) else (some ((⟨#[]⟩ : ByteArray), 181))) else (some ((⟨#[]⟩ : ByteArray), t280)))) else (some ((⟨#[]⟩ : ByteArray), 181))) = some (r1, r2) := H
 have A3 := Aside0.mk A30
 clear A30
 by_cases c4 : t279 = true
 ·subst c4
  have H1 : ((manometerref17_Check.f k a1_0 a1_1 a1_2 a1_3 a1_4).bind fun t280 => (if t280 = 0 then (if a1_1 = a0_0 then ((manometerref17_head.f k a1_0 a1_1 a1_2 a1_3 a1_4).bind fun t281 => (if t281.size + 1 ≤ 9223372036854775807 then (if a0_1.size ≤ 9223372036854775807 then (if t281.size ≤ 9223372036854775807 then ((manometerref03_Mac.f (bytesOf a0_1) (bytesOf t281)).bind fun t288 => ((manometerref03_Armor.f k t288).bind fun t291 => (if (t281 ++ (⟨#[46]⟩ : ByteArray)).size + t291.size ≤ 9223372036854775807 then (some ((t281 ++ (⟨#[46]⟩ : ByteArray)) ++ t291, 0)) else (none)))) else (none)) else (none)) else (none))) else (some ((⟨#[]⟩ : ByteArray), 181))) else (some ((⟨#[]⟩ : ByteArray), t280)))) = some (r1, r2) := by rw [if_pos rfl] at H; exact H
  clear H
  have H := H1
  clear H1
  replace H := Option.bind_eq_some_iff.mp H
  obtain ⟨t280, A50, H⟩ := H
  replace H : (if t280 = 0 then (if a1_1 = a0_0 then ((manometerref17_head.f k a1_0 a1_1 a1_2 a1_3 a1_4).bind fun t281 => (if t281.size + 1 ≤ 9223372036854775807 then (if a0_1.size ≤ 9223372036854775807 then (if t281.size ≤ 9223372036854775807 then ((manometerref03_Mac.f (bytesOf a0_1) (bytesOf t281)).bind fun t288 => ((manometerref03_Armor.f k t288).bind fun t291 => (if (t281 ++ (⟨#[46]⟩ : ByteArray)).size + t291.size ≤ 9223372036854775807 then (some ((t281 ++ (⟨#[46]⟩ : ByteArray)) ++ t291, 0)) else (none)))) else (none)) else (none)) else (none))) else (some ((⟨#[]⟩ : ByteArray), 181))) else (some ((⟨#[]⟩ : ByteArray), t280))) = some (r1, r2) := H
  have A5 := Aside0.mk A50
  clear A50
  by_cases c6 : t280 = 0
  ·rw [if_pos c6] at H
   have c6b0 : (t280 == 0) = true := beq_iff_eq.mpr c6
   have c6b1 : (t280 != 0) = false := bne_eq_false_iff_eq.mpr c6
   clear c6
   by_cases c7 : a1_1 = a0_0
   ·rw [if_pos c7] at H
    have c7b0 : (a1_1 == a0_0) = true := beq_iff_eq.mpr c7
    have c7b1 : (a1_1 != a0_0) = false := bne_eq_false_iff_eq.mpr c7
    clear c7
    replace H := Option.bind_eq_some_iff.mp H
    obtain ⟨t281, A80, H⟩ := H
    replace H : (if t281.size + 1 ≤ 9223372036854775807 then (if a0_1.size ≤ 9223372036854775807 then (if t281.size ≤ 9223372036854775807 then ((manometerref03_Mac.f (bytesOf a0_1) (bytesOf t281)).bind fun t288 => ((manometerref03_Armor.f k t288).bind fun t291 => (if (t281 ++ (⟨#[46]⟩ : ByteArray)).size + t291.size ≤ 9223372036854775807 then (some ((t281 ++ (⟨#[46]⟩ : ByteArray)) ++ t291, 0)) else (none)))) else (none)) else (none)) else (none)) = some (r1, r2) := H
    have A8 := Aside0.mk A80
    clear A80
    by_cases c9 : t281.size + 1 ≤ 9223372036854775807
    ·rw [if_pos c9] at H
     have c9b0 := eq_true c9
     try (have c9z := c9; simp [ByteArray.size_append, Kd.size_mk_] at c9z; replace c9z := eq_false (Nat.not_lt.2 c9z))
     have c9b1 : decide (t281.size + 1 ≤ 9223372036854775807) = true := decide_eq_true c9
     try have c9b2 : (9223372036854775807 < t281.size + 1) = False := eq_false (Nat.not_lt.2 c9)
     by_cases c10 : a0_1.size ≤ 9223372036854775807
     ·rw [if_pos c10] at H
      have c10b0 := eq_true c10
      have c10b1 : decide (a0_1.size ≤ 9223372036854775807) = true := decide_eq_true c10
      try have c10b2 : (9223372036854775807 < a0_1.size) = False := eq_false (Nat.not_lt.2 c10)
      clear c10
      obtain ⟨y282, hy282⟩ : ∃ y_ : List Int, y_ = (bytesOf a0_1) := ⟨_, rfl⟩
      replace H : (if t281.size ≤ 9223372036854775807 then ((manometerref03_Mac.f y282 (bytesOf t281)).bind fun t288 => ((manometerref03_Armor.f k t288).bind fun t291 => (if (t281 ++ (⟨#[46]⟩ : ByteArray)).size + t291.size ≤ 9223372036854775807 then (some ((t281 ++ (⟨#[46]⟩ : ByteArray)) ++ t291, 0)) else (none)))) else (none)) = some (r1, r2) := by first | (rw [hy282]; with_reducible exact H) | (have H2_ := (Option.bind_some _ _).symm.trans H; rw [hy282]; with_reducible exact H2_) | (have H2_ := (Option.bind_some _ _).symm.trans H; with_reducible exact H2_) | with_reducible exact H | (rw [hy282]; exact H) | exact H
      have Ny282 := Aside0.mk hy282
      clear hy282
      by_cases c11 : t281.size ≤ 9223372036854775807
      ·rw [if_pos c11] at H
       have c11b0 := eq_true c11
       have c11b1 : decide (t281.size ≤ 9223372036854775807) = true := decide_eq_true c11
       try have c11b2 : (9223372036854775807 < t281.size) = False := eq_false (Nat.not_lt.2 c11)
       clear c11
       obtain ⟨y285, hy285⟩ : ∃ y_ : List Int, y_ = (bytesOf t281) := ⟨_, rfl⟩
       replace H : ((manometerref03_Mac.f y282 y285).bind fun t288 => ((manometerref03_Armor.f k t288).bind fun t291 => (if (t281 ++ (⟨#[46]⟩ : ByteArray)).size + t291.size ≤ 9223372036854775807 then (some ((t281 ++ (⟨#[46]⟩ : ByteArray)) ++ t291, 0)) else (none)))) = some (r1, r2) := by first | (rw [hy285]; with_reducible exact H) | (have H2_ := (Option.bind_some _ _).symm.trans H; rw [hy285]; with_reducible exact H2_) | (have H2_ := (Option.bind_some _ _).symm.trans H; with_reducible exact H2_) | with_reducible exact H | (rw [hy285]; exact H) | exact H
       have Ny285 := Aside0.mk hy285
       clear hy285
       replace H := Option.bind_eq_some_iff.mp H
       obtain ⟨t288, A120, H⟩ := H
       replace H : ((manometerref03_Armor.f k t288).bind fun t291 => (if (t281 ++ (⟨#[46]⟩ : ByteArray)).size + t291.size ≤ 9223372036854775807 then (some ((t281 ++ (⟨#[46]⟩ : ByteArray)) ++ t291, 0)) else (none))) = some (r1, r2) := H
       have A12 := Aside0.mk A120
       clear A120
       replace H := Option.bind_eq_some_iff.mp H
       obtain ⟨t291, A130, H⟩ := H
       replace H : (if (t281 ++ (⟨#[46]⟩ : ByteArray)).size + t291.size ≤ 9223372036854775807 then (some ((t281 ++ (⟨#[46]⟩ : ByteArray)) ++ t291, 0)) else (none)) = some (r1, r2) := H
       have A13 := Aside0.mk A130
       clear A130
       by_cases c14 : (t281 ++ (⟨#[46]⟩ : ByteArray)).size + t291.size ≤ 9223372036854775807
       ·rw [if_pos c14] at H
        have c14b0 := eq_true c14
        try (have c14z := c14; simp [ByteArray.size_append, Kd.size_mk_] at c14z; replace c14z := eq_false (Nat.not_lt.2 c14z))
        have c14b1 : decide ((t281 ++ (⟨#[46]⟩ : ByteArray)).size + t291.size ≤ 9223372036854775807) = true := decide_eq_true c14
        try have c14b2 : (9223372036854775807 < (t281 ++ (⟨#[46]⟩ : ByteArray)).size + t291.size) = False := eq_false (Nat.not_lt.2 c14)
        simp only [Option.some.injEq, Prod.mk.injEq] at H
        obtain ⟨rfl, rfl⟩ := H
        go_enter Tryd.func11, Tryd.ntmps11
        go_wp2_with (first | ((with_reducible refine gate_dst (N := 2) rfl ?_); refine box_event ?hg (N := 2) ?hd (cs := #[.int .i64 a0_0, .string a0_1]) (t := 23) ?hr ?_; (case hd => rfl); (case hg => rfl); (case hr => first | (go_simp; done) | (go_simp; rfl)); intro gb277 hg w15 hbox hb; have n0_ := Aside0.mk (below_step y1_ hb); have n1_ := Aside0.mk (hbox); have n2_ := Aside0.mk ((y29_ : w.heap.size ≤ gb277)); have n3_ := Aside0.mk ((y29_ : w.heap.size ≤ gb277)); clear HB; have HB := n0_; have BK277 := n1_; have GW277 := n2_; have GE277 := n3_; clear n0_ n1_ n2_ n3_; clear hb hbox hg) | ((with_reducible refine gate_dst (N := 3) rfl ?_); refine box_event ?hg (N := 3) ?hd (cs := #[.string a1_0, .int .i64 a1_1, .int .i64 a1_2, .int .u8 a1_3, .int .u64 a1_4]) (t := 26) ?hr ?_; (case hd => rfl); (case hg => rfl); (case hr => first | (go_simp; done) | (go_simp; rfl)); intro gb278 hg w16 hbox hb; have n0_ := Aside0.mk (blk_below (g := gb277) (o := .cells #[.int .i64 a0_0, .string a0_1] 23 (0, 0)) y17_ hb); have n1_ := Aside0.mk (below_step y22_ hb); have n2_ := Aside0.mk (hbox); have n3_ := Aside0.mk ((y81_ : w.heap.size ≤ gb278)); have n4_ := Aside0.mk ((y81_ : w.heap.size ≤ gb278)); have n5_ := Aside0.mk ((y71_ : gb277 ≠ gb278)); have n6_ := Aside0.mk ((y73_ : gb278 ≠ gb277)); clear BK277; clear HB; have BK277 := n0_; have HB := n1_; have BK278 := n2_; have GW278 := n3_; have GE278 := n4_; have NB277_278 := n5_; have NB278_277 := n6_; clear n0_ n1_ n2_ n3_ n4_ n5_ n6_; clear hb hbox hg; have hnb17 := NB277_278.out; have hnc17 := NB278_277.out; have hcz18_0 : w16.cell? ⟨gb277, 0, none⟩ = some (.int .i64 a0_0) := (blk_cell BK277.out 0).trans rfl; have hcz18_1 : w16.cell? ⟨gb277, 1, none⟩ = some (.string a0_1) := (blk_cell BK277.out 1).trans rfl; have hfz18_0 := blk_frozen BK277.out 0; have hfz18_1 := blk_frozen BK277.out 1) | ((with_reducible refine gate_callee (f := 17) rfl ?_); refine goesL_ (some 9) rfl rfl Tryd.func17 (by kernel_rfl) rfl #[.agg #[.int .i64 a0_0, .string a0_1]] rfl y2_ ?_; (with_reducible refine (manometerref17_Keyed.calls a0_0 a0_1 true _ A3.out).mono ?_); rintro e w19 ⟨rfl, hb⟩; refine ⟨_, rfl, ?_⟩; have n0_ := Aside0.mk (blk_below (g := gb277) (o := .cells #[.int .i64 a0_0, .string a0_1] 23 (0, 0)) y17_ hb); have n1_ := Aside0.mk (blk_below (g := gb278) (o := .cells #[.string a1_0, .int .i64 a1_1, .int .i64 a1_2, .int .u8 a1_3, .int .u64 a1_4] 26 (0, 0)) y26_ hb); have n2_ := Aside0.mk (below_step y11_ hb); clear BK277; clear BK278; clear HB; have BK277 := n0_; have BK278 := n1_; have HB := n2_; clear n0_ n1_ n2_; (try clear hb); (try clear hb2); (try clear hk); (try clear hi); have hcz20_0 : w19.cell? ⟨gb278, 0, none⟩ = some (.string a1_0) := (blk_cell BK278.out 0).trans rfl; have hcz20_1 : w19.cell? ⟨gb278, 1, none⟩ = some (.int .i64 a1_1) := (blk_cell BK278.out 1).trans rfl; have hcz20_2 : w19.cell? ⟨gb278, 2, none⟩ = some (.int .i64 a1_2) := (blk_cell BK278.out 2).trans rfl; have hcz20_3 : w19.cell? ⟨gb278, 3, none⟩ = some (.int .u8 a1_3) := (blk_cell BK278.out 3).trans rfl; have hcz20_4 : w19.cell? ⟨gb278, 4, none⟩ = some (.int .u64 a1_4) := (blk_cell BK278.out 4).trans rfl; have hfz20_0 := blk_frozen BK278.out 0; have hfz20_1 := blk_frozen BK278.out 1; have hfz20_2 := blk_frozen BK278.out 2; have hfz20_3 := blk_frozen BK278.out 3; have hfz20_4 := blk_frozen BK278.out 4) | ((with_reducible refine gate_callee (f := 13) rfl ?_); refine goesL_ (some 12) rfl rfl Tryd.func13 (by kernel_rfl) rfl #[.agg #[.string a1_0, .int .i64 a1_1, .int .i64 a1_2, .int .u8 a1_3, .int .u64 a1_4]] rfl y2_ ?_; (with_reducible refine (manometerref17_Check.calls k a1_0 a1_1 a1_2 a1_3 a1_4 t280 _ A5.out).mono ?_); rintro e w21 ⟨rfl, hb⟩; refine ⟨_, rfl, ?_⟩; have n0_ := Aside0.mk (blk_below (g := gb277) (o := .cells #[.int .i64 a0_0, .string a0_1] 23 (0, 0)) y17_ hb); have n1_ := Aside0.mk (blk_below (g := gb278) (o := .cells #[.string a1_0, .int .i64 a1_1, .int .i64 a1_2, .int .u8 a1_3, .int .u64 a1_4] 26 (0, 0)) y26_ hb); have n2_ := Aside0.mk (below_step y11_ hb); clear BK277; clear BK278; clear HB; have BK277 := n0_; have BK278 := n1_; have HB := n2_; clear n0_ n1_ n2_; (try clear hb); (try clear hb2); (try clear hk); (try clear hi); have hcz22_0 : w21.cell? ⟨gb278, 0, none⟩ = some (.string a1_0) := (blk_cell BK278.out 0).trans rfl; have hcz22_1 : w21.cell? ⟨gb278, 1, none⟩ = some (.int .i64 a1_1) := (blk_cell BK278.out 1).trans rfl; have hcz22_2 : w21.cell? ⟨gb278, 2, none⟩ = some (.int .i64 a1_2) := (blk_cell BK278.out 2).trans rfl; have hcz22_3 : w21.cell? ⟨gb278, 3, none⟩ = some (.int .u8 a1_3) := (blk_cell BK278.out 3).trans rfl; have hcz22_4 : w21.cell? ⟨gb278, 4, none⟩ = some (.int .u64 a1_4) := (blk_cell BK278.out 4).trans rfl; have hfz22_0 := blk_frozen BK278.out 0; have hfz22_1 := blk_frozen BK278.out 1; have hfz22_2 := blk_frozen BK278.out 2; have hfz22_3 := blk_frozen BK278.out 3; have hfz22_4 := blk_frozen BK278.out 4; have hcz23_0 : w21.cell? ⟨gb277, 0, none⟩ = some (.int .i64 a0_0) := (blk_cell BK277.out 0).trans rfl; have hcz23_1 : w21.cell? ⟨gb277, 1, none⟩ = some (.string a0_1) := (blk_cell BK277.out 1).trans rfl; have hfz23_0 := blk_frozen BK277.out 0; have hfz23_1 := blk_frozen BK277.out 1) | ((with_reducible refine gate_callee (f := 28) rfl ?_); refine goesL_ (some 22) rfl rfl Tryd.func28 (by kernel_rfl) rfl #[.agg #[.string a1_0, .int .i64 a1_1, .int .i64 a1_2, .int .u8 a1_3, .int .u64 a1_4]] rfl y2_ ?_; (with_reducible refine (manometerref17_head.calls k a1_0 a1_1 a1_2 a1_3 a1_4 t281 _ A8.out).mono ?_); rintro e w24 ⟨rfl, hb⟩; refine ⟨_, rfl, ?_⟩; have n0_ := Aside0.mk (blk_below (g := gb277) (o := .cells #[.int .i64 a0_0, .string a0_1] 23 (0, 0)) y17_ hb); have n1_ := Aside0.mk (blk_below (g := gb278) (o := .cells #[.string a1_0, .int .i64 a1_1, .int .i64 a1_2, .int .u8 a1_3, .int .u64 a1_4] 26 (0, 0)) y26_ hb); have n2_ := Aside0.mk (below_step y11_ hb); clear BK277; clear BK278; clear HB; have BK277 := n0_; have BK278 := n1_; have HB := n2_; clear n0_ n1_ n2_; (try clear hb); (try clear hb2); (try clear hk); (try clear hi); have hcz25_0 : w24.cell? ⟨gb277, 0, none⟩ = some (.int .i64 a0_0) := (blk_cell BK277.out 0).trans rfl; have hcz25_1 : w24.cell? ⟨gb277, 1, none⟩ = some (.string a0_1) := (blk_cell BK277.out 1).trans rfl; have hfz25_0 := blk_frozen BK277.out 0; have hfz25_1 := blk_frozen BK277.out 1) | ((with_reducible refine gate_dst (N := 27) rfl ?_); refine Kd.V_convF _ 5 rfl (N' := 27) rfl 9 45 _ rfl a0_1 rfl Tryd.underlying9 Tryd.underlying45 Tryd.underlying5 (of_decide_eq_true y16_) (Below.refl _ _) (Nat.le_refl _) ?_; intro v283 w26 ho27 hb hg_ hnew_; clear hg_ hnew_; (first | rw [← Ny282.out] at ho27 | (simp only [Int.reduceToNat] at ho27; rw [← Ny282.out] at ho27)); have n0_ := Aside0.mk (Kd.V_lower (Kd.V_mono (ok' := fun k_ => k_ ≠ gb277 ∧ k_ ≠ gb278) ho27 (fun k_ hk_ => ⟨(Kd.freshB (g := gb277) (o := .cells #[.int .i64 a0_0, .string a0_1] 23 (0, 0)) y17_ k_ hk_), (Kd.freshB (g := gb278) (o := .cells #[.string a1_0, .int .i64 a1_1, .int .i64 a1_2, .int .u8 a1_3, .int .u64 a1_4] 26 (0, 0)) y26_ k_ hk_)⟩)) (below_size y11_)); have n1_ := Aside0.mk (blk_below (g := gb277) (o := .cells #[.int .i64 a0_0, .string a0_1] 23 (0, 0)) y17_ hb); have n2_ := Aside0.mk (blk_below (g := gb278) (o := .cells #[.string a1_0, .int .i64 a1_1, .int .i64 a1_2, .int .u8 a1_3, .int .u64 a1_4] 26 (0, 0)) y26_ hb); have n3_ := Aside0.mk (below_step y11_ hb); clear BK277; clear BK278; clear HB; have HO284 := n0_; have BK277 := n1_; have BK278 := n2_; have HB := n3_; clear n0_ n1_ n2_ n3_; clear hb ho27) | ((with_reducible refine gate_dst (N := 29) rfl ?_); refine Kd.V_convF _ 5 rfl (N' := 29) rfl 9 45 _ rfl t281 rfl Tryd.underlying9 Tryd.underlying45 Tryd.underlying5 (of_decide_eq_true y16_) (Below.refl _ _) (Nat.le_refl _) ?_; intro v286 w28 ho29 hb hg_ hnew_; clear hg_ hnew_; (first | rw [← Ny285.out] at ho29 | (simp only [Int.reduceToNat] at ho29; rw [← Ny285.out] at ho29)); have n0_ := Aside0.mk (Kd.V_below y82_ hb); have n1_ := Aside0.mk (Kd.V_lower (Kd.V_mono (ok' := fun k_ => k_ ≠ gb277 ∧ k_ ≠ gb278) ho29 (fun k_ hk_ => ⟨(Kd.freshB (g := gb277) (o := .cells #[.int .i64 a0_0, .string a0_1] 23 (0, 0)) y17_ k_ hk_), (Kd.freshB (g := gb278) (o := .cells #[.string a1_0, .int .i64 a1_1, .int .i64 a1_2, .int .u8 a1_3, .int .u64 a1_4] 26 (0, 0)) y26_ k_ hk_)⟩)) (below_size y11_)); have n2_ := Aside0.mk (blk_below (g := gb277) (o := .cells #[.int .i64 a0_0, .string a0_1] 23 (0, 0)) y17_ hb); have n3_ := Aside0.mk (blk_below (g := gb278) (o := .cells #[.string a1_0, .int .i64 a1_1, .int .i64 a1_2, .int .u8 a1_3, .int .u64 a1_4] 26 (0, 0)) y26_ hb); have n4_ := Aside0.mk (below_step y11_ hb); clear HO284; clear BK277; clear BK278; clear HB; have HO284 := n0_; have HO287 := n1_; have BK277 := n2_; have BK278 := n3_; have HB := n4_; clear n0_ n1_ n2_ n3_ n4_; clear hb ho29; obtain ⟨Ao30, co30, eo30⟩ := Kd.V_slice HO284.out; subst eo30; obtain ⟨Ao31, co31, eo31⟩ := Kd.V_slice HO287.out; subst eo31) | ((with_reducible refine gate_callee (f := 30) rfl ?_); refine goesL_ (some 30) rfl rfl Tryd.func30 (by kernel_rfl) rfl #[.slice Ao30 y282.length co30, .slice Ao31 y285.length co31] rfl y2_ ?_; (with_reducible refine (manometerref03_Mac.calls _ _ y282 _ _ y285 t288 _ ?side1 ?side2 ?side3 ?side4 A12.out).mono ?_); (case side1 => repeat (first | exact (Kd.V_reads' HO284.out).2.2 | (with_reducible refine Kd.C_alloc ?_ _) | (with_reducible refine Kd.C_drewN ?_ _) | (with_reducible refine Kd.C_drew ?_))); (case side2 => exact (Kd.V_reads' HO284.out).2.1); (case side3 => repeat (first | exact (Kd.V_reads' HO287.out).2.2 | (with_reducible refine Kd.C_alloc ?_ _) | (with_reducible refine Kd.C_drewN ?_ _) | (with_reducible refine Kd.C_drew ?_))); (case side4 => exact (Kd.V_reads' HO287.out).2.1); rintro e w32 ⟨v289, rfl, ho0, hb⟩; refine ⟨_, rfl, ?_⟩; have n0_ := Aside0.mk (Kd.V_elder' y82_ (Kd.R_base ho0) hb); have n1_ := Aside0.mk (Kd.V_elder' (by (with_reducible repeat (first | apply Kd.V_alloc | apply Kd.V_drewN | apply Kd.V_drew)); exact HO287.out) (Kd.R_base ho0) hb); have n2_ := Aside0.mk (Kd.R_lower ho0 (below_size y11_)); have n3_ := Aside0.mk (blk_below (g := gb277) (o := .cells #[.int .i64 a0_0, .string a0_1] 23 (0, 0)) y17_ hb); have n4_ := Aside0.mk (blk_below (g := gb278) (o := .cells #[.string a1_0, .int .i64 a1_1, .int .i64 a1_2, .int .u8 a1_3, .int .u64 a1_4] 26 (0, 0)) y26_ hb); have n5_ := Aside0.mk (below_step y11_ hb); clear HO284; clear HO287; clear BK277; clear BK278; clear HB; have HO284 := n0_; have HO287 := n1_; have HO290 := n2_; have BK277 := n3_; have BK278 := n4_; have HB := n5_; clear n0_ n1_ n2_ n3_ n4_ n5_; (try clear hb); (try clear hb2); (try clear hk); (try clear hi); (try clear ho0); obtain ⟨Ao33, co33, eo33⟩ := Kd.R_slice HO290.out; subst eo33) | ((with_reducible refine gate_callee (f := 29) rfl ?_); refine goesL_ (some 31) rfl rfl Tryd.func29 (by kernel_rfl) rfl #[.slice Ao33 t288.length co33] rfl y2_ ?_; (with_reducible refine (manometerref03_Armor.calls k _ _ t288 t291 _ ?side1 ?side2 A13.out).mono ?_); (case side1 => repeat (first | exact (Kd.R_reads' HO290.out).2.2 | (with_reducible refine Kd.C_alloc ?_ _) | (with_reducible refine Kd.C_drewN ?_ _) | (with_reducible refine Kd.C_drew ?_))); (case side2 => exact (Kd.R_reads' HO290.out).2.1); rintro e w34 ⟨rfl, hb⟩; refine ⟨_, rfl, ?_⟩; have n0_ := Aside0.mk (Kd.V_below y82_ hb); have n1_ := Aside0.mk (Kd.V_below (by (with_reducible repeat (first | apply Kd.V_alloc | apply Kd.V_drewN | apply Kd.V_drew)); exact HO287.out) hb); have n2_ := Aside0.mk (Kd.R_below (by (with_reducible repeat (first | apply Kd.R_alloc | apply Kd.R_drewN | apply Kd.R_drew)); exact HO290.out) hb); have n3_ := Aside0.mk (blk_below (g := gb277) (o := .cells #[.int .i64 a0_0, .string a0_1] 23 (0, 0)) y17_ hb); have n4_ := Aside0.mk (blk_below (g := gb278) (o := .cells #[.string a1_0, .int .i64 a1_1, .int .i64 a1_2, .int .u8 a1_3, .int .u64 a1_4] 26 (0, 0)) y26_ hb); have n5_ := Aside0.mk (below_step y11_ hb); clear HO284; clear HO287; clear HO290; clear BK277; clear BK278; clear HB; have HO284 := n0_; have HO287 := n1_; have HO290 := n2_; have BK277 := n3_; have BK278 := n4_; have HB := n5_; clear n0_ n1_ n2_ n3_ n4_ n5_; (try clear hb); (try clear hb2); (try clear hk); (try clear hi)))
        go_ret2
        exact ⟨y6_, y11_⟩
       ·rw [if_neg c14] at H
        exact absurd H (by simp)
      ·rw [if_neg c11] at H
       exact absurd H (by simp)
     ·rw [if_neg c10] at H
      exact absurd H (by simp)
    ·rw [if_neg c9] at H
     exact absurd H (by simp)
   ·rw [if_neg c7] at H
    have c7b0 : (a1_1 == a0_0) = false := beq_eq_false_iff_ne.mpr c7
    have c7b1 : (a1_1 != a0_0) = true := bne_iff_ne.mpr c7
    simp only [Option.some.injEq, Prod.mk.injEq] at H
    obtain ⟨rfl, rfl⟩ := H
    go_enter Tryd.func11, Tryd.ntmps11
    go_wp2_with (first | ((with_reducible refine gate_dst (N := 2) rfl ?_); refine box_event ?hg (N := 2) ?hd (cs := #[.int .i64 a0_0, .string a0_1]) (t := 23) ?hr ?_; (case hd => rfl); (case hg => rfl); (case hr => first | (go_simp; done) | (go_simp; rfl)); intro gb277 hg w35 hbox hb; have n0_ := Aside0.mk (below_step y1_ hb); have n1_ := Aside0.mk (hbox); have n2_ := Aside0.mk ((y29_ : w.heap.size ≤ gb277)); have n3_ := Aside0.mk ((y29_ : w.heap.size ≤ gb277)); clear HB; have HB := n0_; have BK277 := n1_; have GW277 := n2_; have GE277 := n3_; clear n0_ n1_ n2_ n3_; clear hb hbox hg) | ((with_reducible refine gate_dst (N := 3) rfl ?_); refine box_event ?hg (N := 3) ?hd (cs := #[.string a1_0, .int .i64 a1_1, .int .i64 a1_2, .int .u8 a1_3, .int .u64 a1_4]) (t := 26) ?hr ?_; (case hd => rfl); (case hg => rfl); (case hr => first | (go_simp; done) | (go_simp; rfl)); intro gb278 hg w36 hbox hb; have n0_ := Aside0.mk (blk_below (g := gb277) (o := .cells #[.int .i64 a0_0, .string a0_1] 23 (0, 0)) y17_ hb); have n1_ := Aside0.mk (below_step y22_ hb); have n2_ := Aside0.mk (hbox); have n3_ := Aside0.mk ((y81_ : w.heap.size ≤ gb278)); have n4_ := Aside0.mk ((y81_ : w.heap.size ≤ gb278)); have n5_ := Aside0.mk ((y71_ : gb277 ≠ gb278)); have n6_ := Aside0.mk ((y73_ : gb278 ≠ gb277)); clear BK277; clear HB; have BK277 := n0_; have HB := n1_; have BK278 := n2_; have GW278 := n3_; have GE278 := n4_; have NB277_278 := n5_; have NB278_277 := n6_; clear n0_ n1_ n2_ n3_ n4_ n5_ n6_; clear hb hbox hg; have hnb37 := NB277_278.out; have hnc37 := NB278_277.out; have hcz38_0 : w36.cell? ⟨gb277, 0, none⟩ = some (.int .i64 a0_0) := (blk_cell BK277.out 0).trans rfl; have hcz38_1 : w36.cell? ⟨gb277, 1, none⟩ = some (.string a0_1) := (blk_cell BK277.out 1).trans rfl; have hfz38_0 := blk_frozen BK277.out 0; have hfz38_1 := blk_frozen BK277.out 1) | ((with_reducible refine gate_callee (f := 17) rfl ?_); refine goesL_ (some 9) rfl rfl Tryd.func17 (by kernel_rfl) rfl #[.agg #[.int .i64 a0_0, .string a0_1]] rfl y2_ ?_; (with_reducible refine (manometerref17_Keyed.calls a0_0 a0_1 true _ A3.out).mono ?_); rintro e w39 ⟨rfl, hb⟩; refine ⟨_, rfl, ?_⟩; have n0_ := Aside0.mk (blk_below (g := gb277) (o := .cells #[.int .i64 a0_0, .string a0_1] 23 (0, 0)) y17_ hb); have n1_ := Aside0.mk (blk_below (g := gb278) (o := .cells #[.string a1_0, .int .i64 a1_1, .int .i64 a1_2, .int .u8 a1_3, .int .u64 a1_4] 26 (0, 0)) y26_ hb); have n2_ := Aside0.mk (below_step y11_ hb); clear BK277; clear BK278; clear HB; have BK277 := n0_; have BK278 := n1_; have HB := n2_; clear n0_ n1_ n2_; (try clear hb); (try clear hb2); (try clear hk); (try clear hi); have hcz40_0 : w39.cell? ⟨gb278, 0, none⟩ = some (.string a1_0) := (blk_cell BK278.out 0).trans rfl; have hcz40_1 : w39.cell? ⟨gb278, 1, none⟩ = some (.int .i64 a1_1) := (blk_cell BK278.out 1).trans rfl; have hcz40_2 : w39.cell? ⟨gb278, 2, none⟩ = some (.int .i64 a1_2) := (blk_cell BK278.out 2).trans rfl; have hcz40_3 : w39.cell? ⟨gb278, 3, none⟩ = some (.int .u8 a1_3) := (blk_cell BK278.out 3).trans rfl; have hcz40_4 : w39.cell? ⟨gb278, 4, none⟩ = some (.int .u64 a1_4) := (blk_cell BK278.out 4).trans rfl; have hfz40_0 := blk_frozen BK278.out 0; have hfz40_1 := blk_frozen BK278.out 1; have hfz40_2 := blk_frozen BK278.out 2; have hfz40_3 := blk_frozen BK278.out 3; have hfz40_4 := blk_frozen BK278.out 4) | ((with_reducible refine gate_callee (f := 13) rfl ?_); refine goesL_ (some 12) rfl rfl Tryd.func13 (by kernel_rfl) rfl #[.agg #[.string a1_0, .int .i64 a1_1, .int .i64 a1_2, .int .u8 a1_3, .int .u64 a1_4]] rfl y2_ ?_; (with_reducible refine (manometerref17_Check.calls k a1_0 a1_1 a1_2 a1_3 a1_4 t280 _ A5.out).mono ?_); rintro e w41 ⟨rfl, hb⟩; refine ⟨_, rfl, ?_⟩; have n0_ := Aside0.mk (blk_below (g := gb277) (o := .cells #[.int .i64 a0_0, .string a0_1] 23 (0, 0)) y17_ hb); have n1_ := Aside0.mk (blk_below (g := gb278) (o := .cells #[.string a1_0, .int .i64 a1_1, .int .i64 a1_2, .int .u8 a1_3, .int .u64 a1_4] 26 (0, 0)) y26_ hb); have n2_ := Aside0.mk (below_step y11_ hb); clear BK277; clear BK278; clear HB; have BK277 := n0_; have BK278 := n1_; have HB := n2_; clear n0_ n1_ n2_; (try clear hb); (try clear hb2); (try clear hk); (try clear hi); have hcz42_0 : w41.cell? ⟨gb278, 0, none⟩ = some (.string a1_0) := (blk_cell BK278.out 0).trans rfl; have hcz42_1 : w41.cell? ⟨gb278, 1, none⟩ = some (.int .i64 a1_1) := (blk_cell BK278.out 1).trans rfl; have hcz42_2 : w41.cell? ⟨gb278, 2, none⟩ = some (.int .i64 a1_2) := (blk_cell BK278.out 2).trans rfl; have hcz42_3 : w41.cell? ⟨gb278, 3, none⟩ = some (.int .u8 a1_3) := (blk_cell BK278.out 3).trans rfl; have hcz42_4 : w41.cell? ⟨gb278, 4, none⟩ = some (.int .u64 a1_4) := (blk_cell BK278.out 4).trans rfl; have hfz42_0 := blk_frozen BK278.out 0; have hfz42_1 := blk_frozen BK278.out 1; have hfz42_2 := blk_frozen BK278.out 2; have hfz42_3 := blk_frozen BK278.out 3; have hfz42_4 := blk_frozen BK278.out 4; have hcz43_0 : w41.cell? ⟨gb277, 0, none⟩ = some (.int .i64 a0_0) := (blk_cell BK277.out 0).trans rfl; have hcz43_1 : w41.cell? ⟨gb277, 1, none⟩ = some (.string a0_1) := (blk_cell BK277.out 1).trans rfl; have hfz43_0 := blk_frozen BK277.out 0; have hfz43_1 := blk_frozen BK277.out 1))
    go_ret2
    exact ⟨y6_, y11_⟩
  ·rw [if_neg c6] at H
   have c6b0 : (t280 == 0) = false := beq_eq_false_iff_ne.mpr c6
   have c6b1 : (t280 != 0) = true := bne_iff_ne.mpr c6
   simp only [Option.some.injEq, Prod.mk.injEq] at H
   obtain ⟨rfl, rfl⟩ := H
   go_enter Tryd.func11, Tryd.ntmps11
   go_wp2_with (first | ((with_reducible refine gate_dst (N := 2) rfl ?_); refine box_event ?hg (N := 2) ?hd (cs := #[.int .i64 a0_0, .string a0_1]) (t := 23) ?hr ?_; (case hd => rfl); (case hg => rfl); (case hr => first | (go_simp; done) | (go_simp; rfl)); intro gb277 hg w44 hbox hb; have n0_ := Aside0.mk (below_step y1_ hb); have n1_ := Aside0.mk (hbox); have n2_ := Aside0.mk ((y29_ : w.heap.size ≤ gb277)); have n3_ := Aside0.mk ((y29_ : w.heap.size ≤ gb277)); clear HB; have HB := n0_; have BK277 := n1_; have GW277 := n2_; have GE277 := n3_; clear n0_ n1_ n2_ n3_; clear hb hbox hg) | ((with_reducible refine gate_dst (N := 3) rfl ?_); refine box_event ?hg (N := 3) ?hd (cs := #[.string a1_0, .int .i64 a1_1, .int .i64 a1_2, .int .u8 a1_3, .int .u64 a1_4]) (t := 26) ?hr ?_; (case hd => rfl); (case hg => rfl); (case hr => first | (go_simp; done) | (go_simp; rfl)); intro gb278 hg w45 hbox hb; have n0_ := Aside0.mk (blk_below (g := gb277) (o := .cells #[.int .i64 a0_0, .string a0_1] 23 (0, 0)) y17_ hb); have n1_ := Aside0.mk (below_step y22_ hb); have n2_ := Aside0.mk (hbox); have n3_ := Aside0.mk ((y81_ : w.heap.size ≤ gb278)); have n4_ := Aside0.mk ((y81_ : w.heap.size ≤ gb278)); have n5_ := Aside0.mk ((y71_ : gb277 ≠ gb278)); have n6_ := Aside0.mk ((y73_ : gb278 ≠ gb277)); clear BK277; clear HB; have BK277 := n0_; have HB := n1_; have BK278 := n2_; have GW278 := n3_; have GE278 := n4_; have NB277_278 := n5_; have NB278_277 := n6_; clear n0_ n1_ n2_ n3_ n4_ n5_ n6_; clear hb hbox hg; have hnb46 := NB277_278.out; have hnc46 := NB278_277.out; have hcz47_0 : w45.cell? ⟨gb277, 0, none⟩ = some (.int .i64 a0_0) := (blk_cell BK277.out 0).trans rfl; have hcz47_1 : w45.cell? ⟨gb277, 1, none⟩ = some (.string a0_1) := (blk_cell BK277.out 1).trans rfl; have hfz47_0 := blk_frozen BK277.out 0; have hfz47_1 := blk_frozen BK277.out 1) | ((with_reducible refine gate_callee (f := 17) rfl ?_); refine goesL_ (some 9) rfl rfl Tryd.func17 (by kernel_rfl) rfl #[.agg #[.int .i64 a0_0, .string a0_1]] rfl y2_ ?_; (with_reducible refine (manometerref17_Keyed.calls a0_0 a0_1 true _ A3.out).mono ?_); rintro e w48 ⟨rfl, hb⟩; refine ⟨_, rfl, ?_⟩; have n0_ := Aside0.mk (blk_below (g := gb277) (o := .cells #[.int .i64 a0_0, .string a0_1] 23 (0, 0)) y17_ hb); have n1_ := Aside0.mk (blk_below (g := gb278) (o := .cells #[.string a1_0, .int .i64 a1_1, .int .i64 a1_2, .int .u8 a1_3, .int .u64 a1_4] 26 (0, 0)) y26_ hb); have n2_ := Aside0.mk (below_step y11_ hb); clear BK277; clear BK278; clear HB; have BK277 := n0_; have BK278 := n1_; have HB := n2_; clear n0_ n1_ n2_; (try clear hb); (try clear hb2); (try clear hk); (try clear hi); have hcz49_0 : w48.cell? ⟨gb278, 0, none⟩ = some (.string a1_0) := (blk_cell BK278.out 0).trans rfl; have hcz49_1 : w48.cell? ⟨gb278, 1, none⟩ = some (.int .i64 a1_1) := (blk_cell BK278.out 1).trans rfl; have hcz49_2 : w48.cell? ⟨gb278, 2, none⟩ = some (.int .i64 a1_2) := (blk_cell BK278.out 2).trans rfl; have hcz49_3 : w48.cell? ⟨gb278, 3, none⟩ = some (.int .u8 a1_3) := (blk_cell BK278.out 3).trans rfl; have hcz49_4 : w48.cell? ⟨gb278, 4, none⟩ = some (.int .u64 a1_4) := (blk_cell BK278.out 4).trans rfl; have hfz49_0 := blk_frozen BK278.out 0; have hfz49_1 := blk_frozen BK278.out 1; have hfz49_2 := blk_frozen BK278.out 2; have hfz49_3 := blk_frozen BK278.out 3; have hfz49_4 := blk_frozen BK278.out 4) | ((with_reducible refine gate_callee (f := 13) rfl ?_); refine goesL_ (some 12) rfl rfl Tryd.func13 (by kernel_rfl) rfl #[.agg #[.string a1_0, .int .i64 a1_1, .int .i64 a1_2, .int .u8 a1_3, .int .u64 a1_4]] rfl y2_ ?_; (with_reducible refine (manometerref17_Check.calls k a1_0 a1_1 a1_2 a1_3 a1_4 t280 _ A5.out).mono ?_); rintro e w50 ⟨rfl, hb⟩; refine ⟨_, rfl, ?_⟩; have n0_ := Aside0.mk (blk_below (g := gb277) (o := .cells #[.int .i64 a0_0, .string a0_1] 23 (0, 0)) y17_ hb); have n1_ := Aside0.mk (blk_below (g := gb278) (o := .cells #[.string a1_0, .int .i64 a1_1, .int .i64 a1_2, .int .u8 a1_3, .int .u64 a1_4] 26 (0, 0)) y26_ hb); have n2_ := Aside0.mk (below_step y11_ hb); clear BK277; clear BK278; clear HB; have BK277 := n0_; have BK278 := n1_; have HB := n2_; clear n0_ n1_ n2_; (try clear hb); (try clear hb2); (try clear hk); (try clear hi)))
   go_ret2
   exact ⟨y6_, y11_⟩
 ·replace c4 := Bool.eq_false_iff.mpr c4
  subst c4
  have H1 : (some ((⟨#[]⟩ : ByteArray), 181)) = some (r1, r2) := by rw [if_neg (show ¬ (false = true) by decide)] at H; exact H
  clear H
  have H := H1
  clear H1
  simp only [Option.some.injEq, Prod.mk.injEq] at H
  obtain ⟨rfl, rfl⟩ := H
  go_enter Tryd.func11, Tryd.ntmps11
  go_wp2_with (first | ((with_reducible refine gate_dst (N := 2) rfl ?_); refine box_event ?hg (N := 2) ?hd (cs := #[.int .i64 a0_0, .string a0_1]) (t := 23) ?hr ?_; (case hd => rfl); (case hg => rfl); (case hr => first | (go_simp; done) | (go_simp; rfl)); intro gb277 hg w51 hbox hb; have n0_ := Aside0.mk (below_step y1_ hb); have n1_ := Aside0.mk (hbox); have n2_ := Aside0.mk ((y29_ : w.heap.size ≤ gb277)); have n3_ := Aside0.mk ((y29_ : w.heap.size ≤ gb277)); clear HB; have HB := n0_; have BK277 := n1_; have GW277 := n2_; have GE277 := n3_; clear n0_ n1_ n2_ n3_; clear hb hbox hg) | ((with_reducible refine gate_dst (N := 3) rfl ?_); refine box_event ?hg (N := 3) ?hd (cs := #[.string a1_0, .int .i64 a1_1, .int .i64 a1_2, .int .u8 a1_3, .int .u64 a1_4]) (t := 26) ?hr ?_; (case hd => rfl); (case hg => rfl); (case hr => first | (go_simp; done) | (go_simp; rfl)); intro gb278 hg w52 hbox hb; have n0_ := Aside0.mk (blk_below (g := gb277) (o := .cells #[.int .i64 a0_0, .string a0_1] 23 (0, 0)) y17_ hb); have n1_ := Aside0.mk (below_step y22_ hb); have n2_ := Aside0.mk (hbox); have n3_ := Aside0.mk ((y81_ : w.heap.size ≤ gb278)); have n4_ := Aside0.mk ((y81_ : w.heap.size ≤ gb278)); have n5_ := Aside0.mk ((y71_ : gb277 ≠ gb278)); have n6_ := Aside0.mk ((y73_ : gb278 ≠ gb277)); clear BK277; clear HB; have BK277 := n0_; have HB := n1_; have BK278 := n2_; have GW278 := n3_; have GE278 := n4_; have NB277_278 := n5_; have NB278_277 := n6_; clear n0_ n1_ n2_ n3_ n4_ n5_ n6_; clear hb hbox hg; have hnb53 := NB277_278.out; have hnc53 := NB278_277.out; have hcz54_0 : w52.cell? ⟨gb277, 0, none⟩ = some (.int .i64 a0_0) := (blk_cell BK277.out 0).trans rfl; have hcz54_1 : w52.cell? ⟨gb277, 1, none⟩ = some (.string a0_1) := (blk_cell BK277.out 1).trans rfl; have hfz54_0 := blk_frozen BK277.out 0; have hfz54_1 := blk_frozen BK277.out 1) | ((with_reducible refine gate_callee (f := 17) rfl ?_); refine goesL_ (some 9) rfl rfl Tryd.func17 (by kernel_rfl) rfl #[.agg #[.int .i64 a0_0, .string a0_1]] rfl y2_ ?_; (with_reducible refine (manometerref17_Keyed.calls a0_0 a0_1 false _ A3.out).mono ?_); rintro e w55 ⟨rfl, hb⟩; refine ⟨_, rfl, ?_⟩; have n0_ := Aside0.mk (blk_below (g := gb277) (o := .cells #[.int .i64 a0_0, .string a0_1] 23 (0, 0)) y17_ hb); have n1_ := Aside0.mk (blk_below (g := gb278) (o := .cells #[.string a1_0, .int .i64 a1_1, .int .i64 a1_2, .int .u8 a1_3, .int .u64 a1_4] 26 (0, 0)) y26_ hb); have n2_ := Aside0.mk (below_step y11_ hb); clear BK277; clear BK278; clear HB; have BK277 := n0_; have BK278 := n1_; have HB := n2_; clear n0_ n1_ n2_; (try clear hb); (try clear hb2); (try clear hk); (try clear hi)))
  go_ret2
  exact ⟨y6_, y11_⟩
end Go.Proofs.YtkkomfomjpcbfaaDoor.PTS
