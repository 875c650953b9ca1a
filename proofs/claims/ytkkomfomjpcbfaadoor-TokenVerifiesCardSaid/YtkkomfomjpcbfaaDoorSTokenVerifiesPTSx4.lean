import Derived.Test.YtkkomfomjpcbfaaDoorSTokenVerifiesH14
import Derived.Test.YtkkomfomjpcbfaaDoorSTokenVerifiesPTSx2
import Derived.Test.YtkkomfomjpcbfaaDoorSTokenVerifiesPTSx1
import Derived.Laws.RangeAny
import Derived.Lib.OthersKept
import Derived.Test.YtkkomfomjpcbfaaDoorSTokenVerifiesE1
import Derived.Test.YtkkomfomjpcbfaaDoorSTokenVerifiesWGuard
import Derived.Test.YtkkomfomjpcbfaaDoorSTokenVerifiesTM
import Derived.Test.YtkkomfomjpcbfaaDoorSTokenVerifiesTT
import Derived.Test.YtkkomfomjpcbfaaDoorSTokenVerifiesY
set_option linter.unusedVariables false
set_option linter.unusedSimpArgs false
namespace Go.Proofs.YtkkomfomjpcbfaaDoor.PTS
open Go.RowKit Go.Proofs.YtkkomfomjpcbfaaDoorW.PrintWords Go.Proofs.YtkkomfomjpcbfaaDoorW.PrintLast Go.Proofs.YtkkomfomjpcbfaaDoorW.PrintMore
attribute [local go_sem] kQ kO kW kV kG kF kP kN
mutual
def token_parse.j0 : Nat → List Int → Int → Int → Bool → ByteArray → Int → Int → Int → Int → Option (ByteArray × Int × Int × Int × Int × Bool)
 | 0, _, _, _, _, _, _, _, _, _ => none
 | k + 1, x0, x5, x6, x28, x156000, x156001, x156002, x156003, x156004 => if x28 = true then (some (x156000, x156001, x156002, x156003, x156004, false)) else (if 0 ≤ x6 then (if x6 ≤ (wrap64 (x6 + (wrap64 (x5)))) then (if (wrap64 (x6 + (wrap64 (x5)))) ≤ (x0.length : Int) then (if 0 ≤ (wrap64 (x6 + (wrap64 (x5)))) then ((bits_Uvarint.f k (x0.drop ((wrap64 (x6 + (wrap64 (x5)))) : Int).toNat)).bind fun bt161 => (if bt161.2.2 = 0 then (token_parse.j1 k (x0.drop ((wrap64 (x6 + (wrap64 (x5)))) : Int).toNat) bt161.1 bt161.2.1 (decide (bt161.1 > 99)) (strOfNums ((x0.take ((wrap64 (x6 + (wrap64 (x5)))) : Int).toNat).drop (x6 : Int).toNat)) x156001 x156002 x156003 x156004) else (token_parse.j1 k (x0.drop ((wrap64 (x6 + (wrap64 (x5)))) : Int).toNat) bt161.1 bt161.2.1 true (strOfNums ((x0.take ((wrap64 (x6 + (wrap64 (x5)))) : Int).toNat).drop (x6 : Int).toNat)) x156001 x156002 x156003 x156004))) else (none)) else (none)) else (none)) else (none))
def token_parse.j1 : Nat → List Int → Int → Int → Bool → ByteArray → Int → Int → Int → Int → Option (ByteArray × Int × Int × Int × Int × Bool)
 | 0, _, _, _, _, _, _, _, _, _ => none
 | k + 1, x0, x9, x10, x54, x156000, x156001, x156002, x156003, x156004 => if x54 = true then (some (x156000, x156001, x156002, x156003, x156004, false)) else (if 0 ≤ x10 then (if x10 ≤ (x0.length : Int) then ((bits_Varint.f k (x0.drop (x10 : Int).toNat)).bind fun bt165 => (if bt165.2.2 = 0 then (token_parse.j2 k (x0.drop (x10 : Int).toNat) bt165.2.1 (((x0.drop (x10 : Int).toNat).length : Int) == bt165.2.1) x156000 (wrap64 (x9)) bt165.1 x156003 x156004) else (token_parse.j2 k (x0.drop (x10 : Int).toNat) bt165.2.1 true x156000 (wrap64 (x9)) bt165.1 x156003 x156004))) else (none)) else (none))
def token_parse.j2 : Nat → List Int → Int → Bool → ByteArray → Int → Int → Int → Int → Option (ByteArray × Int × Int × Int × Int × Bool)
 | 0, _, _, _, _, _, _, _, _ => none
 | k + 1, x0, x10, x76, x156000, x156001, x156002, x156003, x156004 => if x76 = true then (some (x156000, x156001, x156002, x156003, x156004, false)) else (if 0 ≤ x10 then (if x10 < (x0.length : Int) then (if 0 ≤ (wrap64 (x10 + 1)) then (if (wrap64 (x10 + 1)) ≤ (x0.length : Int) then ((bits_Uvarint.f k (x0.drop ((wrap64 (x10 + 1)) : Int).toNat)).bind fun bt170 => (if bt170.2.2 = 0 then (if bt170.2.1 = ((x0.drop ((wrap64 (x10 + 1)) : Int).toNat).length : Int) then ((token_Check.f k x156000 x156001 x156002 (rd x0 x10) bt170.1).bind fun t173 => (some (x156000, x156001, x156002, rd x0 x10, bt170.1, (t173 == 0)))) else (some (x156000, x156001, x156002, rd x0 x10, bt170.1, false))) else (some (x156000, x156001, x156002, rd x0 x10, bt170.1, false)))) else (none)) else (none)) else (none)) else (none))
end
def token_parse.f (k : Nat) (l0 : List Int) : Option (ByteArray × Int × Int × Int × Int × Bool) := (bits_Uvarint.f k l0).bind fun bt156 => (if bt156.2.2 = 0 then (token_parse.j0 k l0 bt156.1 bt156.2.1 (decide (bt156.1 > (IntKind.u64.wrap (wrap64 ((l0.length : Int) - bt156.2.1))))) (⟨#[]⟩ : ByteArray) 0 0 0 0) else (token_parse.j0 k l0 bt156.1 bt156.2.1 true (⟨#[]⟩ : ByteArray) 0 0 0 0))
theorem token_parse.mono_l : ∀ k, (∀ y0 y1 y2 y3 y4 y5 y6 y7 y8, LeO (token_parse.j0 k y0 y1 y2 y3 y4 y5 y6 y7 y8) (token_parse.j0 (k + 1) y0 y1 y2 y3 y4 y5 y6 y7 y8)) ∧ (∀ y0 y1 y2 y3 y4 y5 y6 y7 y8, LeO (token_parse.j1 k y0 y1 y2 y3 y4 y5 y6 y7 y8) (token_parse.j1 (k + 1) y0 y1 y2 y3 y4 y5 y6 y7 y8)) ∧ (∀ y0 y1 y2 y3 y4 y5 y6 y7, LeO (token_parse.j2 k y0 y1 y2 y3 y4 y5 y6 y7) (token_parse.j2 (k + 1) y0 y1 y2 y3 y4 y5 y6 y7))
 | 0 => ⟨fun _ _ _ _ _ _ _ _ _ r h => by simp [token_parse.j0] at h, fun _ _ _ _ _ _ _ _ _ r h => by simp [token_parse.j1] at h, fun _ _ _ _ _ _ _ _ r h => by simp [token_parse.j2] at h⟩
 | k + 1 => by
  obtain ⟨ih0, ih1, ih2⟩ := token_parse.mono_l k; refine ⟨?_, ?_, ?_⟩
  ·intro y0 y1 y2 y3 y4 y5 y6 y7 y8
   unfold token_parse.j0
   repeat' first
   | (with_reducible exact ih0 _ _ _ _ _ _ _ _ _)
   | (with_reducible exact ih1 _ _ _ _ _ _ _ _ _)
   | (with_reducible exact ih2 _ _ _ _ _ _ _ _)
   | (with_reducible exact bits_Uvarint.mono _ _)
   | (with_reducible exact bits_Varint.mono _ _)
   | (with_reducible exact token_Check.mono _ _ _ _ _ _)
   | (with_reducible exact LeO.refl _)
   | (with_reducible exact LeO.none _)
   | (with_reducible refine LeO.ite ?_ ?_)
   | (with_reducible refine LeO.bind ?_ (fun _ => ?_))
   | exact ih0 _ _ _ _ _ _ _ _ _
   | exact ih1 _ _ _ _ _ _ _ _ _
   | exact ih2 _ _ _ _ _ _ _ _
   | exact bits_Uvarint.mono _ _
   | exact bits_Varint.mono _ _
   | exact token_Check.mono _ _ _ _ _ _
   | exact LeO.none _
   | refine LeO.ite ?_ ?_
   | refine LeO.bind ?_ (fun _ => ?_)
  ·intro y0 y1 y2 y3 y4 y5 y6 y7 y8
   unfold token_parse.j1
   repeat' first
   | (with_reducible exact ih0 _ _ _ _ _ _ _ _ _)
   | (with_reducible exact ih1 _ _ _ _ _ _ _ _ _)
   | (with_reducible exact ih2 _ _ _ _ _ _ _ _)
   | (with_reducible exact bits_Uvarint.mono _ _)
   | (with_reducible exact bits_Varint.mono _ _)
   | (with_reducible exact token_Check.mono _ _ _ _ _ _)
   | (with_reducible exact LeO.refl _)
   | (with_reducible exact LeO.none _)
   | (with_reducible refine LeO.ite ?_ ?_)
   | (with_reducible refine LeO.bind ?_ (fun _ => ?_))
   | exact ih0 _ _ _ _ _ _ _ _ _
   | exact ih1 _ _ _ _ _ _ _ _ _
   | exact ih2 _ _ _ _ _ _ _ _
   | exact bits_Uvarint.mono _ _
   | exact bits_Varint.mono _ _
   | exact token_Check.mono _ _ _ _ _ _
   | exact LeO.none _
   | refine LeO.ite ?_ ?_
   | refine LeO.bind ?_ (fun _ => ?_)
  ·intro y0 y1 y2 y3 y4 y5 y6 y7
   unfold token_parse.j2
   repeat' first
   | (with_reducible exact ih0 _ _ _ _ _ _ _ _ _)
   | (with_reducible exact ih1 _ _ _ _ _ _ _ _ _)
   | (with_reducible exact ih2 _ _ _ _ _ _ _ _)
   | (with_reducible exact bits_Uvarint.mono _ _)
   | (with_reducible exact bits_Varint.mono _ _)
   | (with_reducible exact token_Check.mono _ _ _ _ _ _)
   | (with_reducible exact LeO.refl _)
   | (with_reducible exact LeO.none _)
   | (with_reducible refine LeO.ite ?_ ?_)
   | (with_reducible refine LeO.bind ?_ (fun _ => ?_))
   | exact ih0 _ _ _ _ _ _ _ _ _
   | exact ih1 _ _ _ _ _ _ _ _ _
   | exact ih2 _ _ _ _ _ _ _ _
   | exact bits_Uvarint.mono _ _
   | exact bits_Varint.mono _ _
   | exact token_Check.mono _ _ _ _ _ _
   | exact LeO.none _
   | refine LeO.ite ?_ ?_
   | refine LeO.bind ?_ (fun _ => ?_)
theorem token_parse.mono : ∀ a0 k, LeO (token_parse.f k a0) (token_parse.f (k + 1) a0) := by
 intro a0 k; obtain ⟨ih0, ih1, ih2⟩ := token_parse.mono_l k
 unfold token_parse.f
 repeat' first
   | (with_reducible exact ih0 _ _ _ _ _ _ _ _ _)
   | (with_reducible exact ih1 _ _ _ _ _ _ _ _ _)
   | (with_reducible exact ih2 _ _ _ _ _ _ _ _)
   | (with_reducible exact bits_Uvarint.mono _ _)
   | (with_reducible exact bits_Varint.mono _ _)
   | (with_reducible exact token_Check.mono _ _ _ _ _ _)
   | (with_reducible exact LeO.refl _)
   | (with_reducible exact LeO.none _)
   | (with_reducible refine LeO.ite ?_ ?_)
   | (with_reducible refine LeO.bind ?_ (fun _ => ?_))
   | exact ih0 _ _ _ _ _ _ _ _ _
   | exact ih1 _ _ _ _ _ _ _ _ _
   | exact ih2 _ _ _ _ _ _ _ _
   | exact bits_Uvarint.mono _ _
   | exact bits_Varint.mono _ _
   | exact token_Check.mono _ _ _ _ _ _
   | exact LeO.none _
   | refine LeO.ite ?_ ?_
   | refine LeO.bind ?_ (fun _ => ?_)
def token_parse.T19 : Bool × List (List Nat × List Nat) := (true, [([], []), ([], []), ([1], [1]), ([2], [2]), ([3], [3]), ([3], [3]), ([5, 3], [3, 5]), ([4, 6, 3], [3, 4, 6]), ([3, 7], [3, 7]), ([8, 3], [8]), ([9], [9]), ([10, 9, 9], [9, 10]), ([11, 9], [9, 11]), ([9, 12], [9, 12]), ([0, 11, 0], [0]), ([13, 14, 0, 1, 2, 3, 4, 5, 6, 7, 8, 9, 10, 11, 12, 13, 14], [13])])
def token_parse.B19 : List Nat := [0, 0, 2, 6, 14, 14, 46, 126, 254, 510, 1022, 2046, 4094, 8190, 4095, 32767]
theorem token_parse.tab19 : rtab .any (opsOf Tryd.f34 19) = token_parse.T19 := by kernel_rfl
theorem token_parse.bits19 : waitsOk token_parse.T19.2 token_parse.B19 = true := by kernel_rfl
set_option maxHeartbeats 8000000 in
set_option maxRecDepth 100000 in
theorem token_parse.calls (k : Nat) (A0 : Option Addr) (c0 : Nat) (l0 : List Int) (r1 : ByteArray) (r2 : Int) (r3 : Int) (r4 : Int) (r5 : Int) (r6 : Bool) (w : World) (hr0 : Kd.C (Kd.int .u8) w A0 l0.length l0) (hc0 : l0.length ≤ c0) (h : token_parse.f k l0 = some (r1, r2, r3, r4, r5, r6)) :
  Calls Tryd.prog 34 #[.slice A0 l0.length c0] w fun e w' => e = .returned (.tuple #[.agg #[.string r1, .int .i64 r2, .int .i64 r3, .int .u8 r4, .int .u64 r5], .bool r6]) ∧ Below w.heap.size w w' := by
 have hu26 := Tryd.underlying26; have HR0 := Aside0.mk hr0; have HC0 := Aside0.mk hc0; clear hr0 hc0; have HB := am_ (Below.refl w.heap.size w); have H : ((bits_Uvarint.f k l0).bind fun bt156 => (if bt156.2.2 = 0 then (token_parse.j0 k l0 bt156.1 bt156.2.1 (decide (bt156.1 > (IntKind.u64.wrap (wrap64 ((l0.length : Int) - bt156.2.1))))) (⟨#[]⟩ : ByteArray) 0 0 0 0) else (token_parse.j0 k l0 bt156.1 bt156.2.1 true (⟨#[]⟩ : ByteArray) 0 0 0 0))) = some (r1, r2, r3, r4, r5, r6) := h; clear h; replace H := Option.bind_eq_some_iff.mp H; obtain ⟨⟨t156, t157, t158⟩, A20, H⟩ := H; replace H : (if t158 = 0 then (token_parse.j0 k l0 t156 t157 (decide (t156 > (IntKind.u64.wrap (wrap64 ((l0.length : Int) - t157))))) (⟨#[]⟩ : ByteArray) 0 0 0 0) else (token_parse.j0 k l0 t156 t157 true (⟨#[]⟩ : ByteArray) 0 0 0 0)) = some (r1, r2, r3, r4, r5, r6) := H; have A2 := Aside0.mk A20; clear A20; have HC3 := Aside0.mk H; clear H; go_enter Tryd.func34, Tryd.ntmps34
 go_upto_region 3 with (first | ((with_reducible refine ko (N := 2) rfl ?_); (try (refine kx (by rfl) ?_; dsimp only)); refine kn ?hg (N := 2) ?hd (cs := #[.string (⟨#[]⟩ : ByteArray), .int .i64 0, .int .i64 0, .int .u8 0, .int .u64 0]) (t := 26) ?hr ?_; (case hd => rfl); (case hg => rfl); (case hr => first | (go_simp; done) | (go_simp; rfl)); intro gb154 hg w4 hbox hb; have BK154 := am_ (hbox); have GW154 := am_ ((y31_ : w.heap.size ≤ gb154)); have GE154 := am_ ((y31_ : w.heap.size ≤ gb154)); replace HB := am_ (ke y1_ hb); clear hb hbox hg) | ((with_reducible refine ko (N := 4) rfl ?_); (try (refine kx (by rfl) ?_; dsimp only)); refine kn ?hg (N := 4) ?hd (cs := #[.string (⟨#[]⟩ : ByteArray), .int .i64 0, .int .i64 0, .int .u8 0, .int .u64 0]) (t := 26) ?hr ?_; (case hd => rfl); (case hg => rfl); (case hr => first | (go_simp; done) | (go_simp; rfl)); intro gb155 hg w5 hbox hb; have BK155 := am_ (hbox); have GW155 := am_ ((by rw [hg]; exact (km y116_) : w.heap.size ≤ gb155)); have GE155 := am_ ((by rw [hg]; exact (km y116_) : w.heap.size ≤ gb155)); replace HB := am_ (ke y116_ hb); have NB154_155 := am_ ((by rw [hg]; exact Nat.ne_of_lt (ky (g := gb154) (o := .cells #[.string (⟨#[]⟩ : ByteArray), .int .i64 0, .int .i64 0, .int .u8 0, .int .u64 0] 26 (0, 0)) y76_) : gb154 ≠ gb155)); have NB155_154 := am_ ((by rw [hg]; exact Nat.ne_of_gt (ky (g := gb154) (o := .cells #[.string (⟨#[]⟩ : ByteArray), .int .i64 0, .int .i64 0, .int .u8 0, .int .u64 0] 26 (0, 0)) y76_) : gb155 ≠ gb154)); replace BK154 := am_ (ki (g := gb154) (o := .cells #[.string (⟨#[]⟩ : ByteArray), .int .i64 0, .int .i64 0, .int .u8 0, .int .u64 0] 26 (0, 0)) y76_ hb); clear hb hbox hg; have hnb6 := NB155_154.out; have hnc6 := NB154_155.out; obtain ⟨hcz7_0, hcz7_1, hcz7_2, hcz7_3, hcz7_4, hfz7_0, hfz7_1, hfz7_2, hfz7_3, hfz7_4⟩ := pd5_ BK155.out) | ((with_reducible refine kj (f := 57) rfl ?_); refine kw (some 14) rfl rfl Tryd.func57 (by kernel_rfl) rfl #[.slice A0 l0.length c0] rfl y2_ ?_; (with_reducible refine (bits_Uvarint.calls k _ _ l0 t156 t157 t158 _ ?side1 ?side2 A2.out).mono ?_); (case side1 => exact Kd.C_below HR0.out y7_); (case side2 => exact HC0.out); rintro e w' ⟨rfl, ⟨nd, rfl⟩⟩; refine ⟨_, rfl, ?_⟩))
 (try simp only [Act.put, List.setIfInBounds_toArray, List.set_cons_zero, List.set_cons_succ]); go_cut [28] (fun v28 wc => ∃ (kq : Nat) (x28_2 : Bool), v28 = .bool x28_2 ∧ Aside0 (token_parse.j0 kq l0 t156 t157 x28_2 (⟨#[]⟩ : ByteArray) 0 0 0 0 = some (r1, r2, r3, r4, r5, r6)) ∧ Aside0 (kq ≤ k) ∧ Aside0 (wc.heap[gb154]? = some (.cells #[.string (⟨#[]⟩ : ByteArray), .int .i64 0, .int .i64 0, .int .u8 0, .int .u64 0] 26 (0, 0))) ∧ Aside0 (wc.heap[gb155]? = some (.cells #[.string (⟨#[]⟩ : ByteArray), .int .i64 0, .int .i64 0, .int .u8 0, .int .u64 0] 26 (0, 0))) ∧ Aside0 (Below w.heap.size w wc))
 case first =>
  have H := HC3.out; clear HC3
  by_cases c8 : t158 = 0
  ·rw [if_pos c8] at H; have c8b0 : (t158 == 0) = true := beq_iff_eq.mpr c8; have c8b1 : (t158 != 0) = false := bne_eq_false_iff_eq.mpr c8; clear c8; (first | rw [c8b0] | (simp only [kT, i32_w]; rw [c8b0]) | skip); have H' := Aside0.mk H; clear H
   go_wp2
   go_meet
   case rel => exact ⟨_, (decide (t156 > (IntKind.u64.wrap (wrap64 ((l0.length : Int) - t157))))), y3_, H', ⟨y89_⟩, ⟨y70_⟩, ⟨y47_⟩, ⟨y7_⟩⟩
  ·rw [if_neg c8] at H; have c8b0 : (t158 == 0) = false := beq_eq_false_iff_ne.mpr c8; have c8b1 : (t158 != 0) = true := bne_iff_ne.mpr c8; (first | rw [c8b0] | (simp only [kT, i32_w]; rw [c8b0]) | skip); have H' := Aside0.mk H; clear H
   go_wp2
   go_meet
   case rel => exact ⟨_, (true), y3_, H', ⟨y89_⟩, ⟨y70_⟩, ⟨y47_⟩, ⟨y7_⟩⟩
 case rest =>
  clear HC3
  try clear p2
  try clear c3
  try clear c5
  try clear c6
  try clear p6
  try clear c8
  try clear c8b0
  try clear c8b1
  try clear hcz7_0
  try clear hcz7_1
  try clear hcz7_2
  try clear hcz7_3
  try clear hcz7_4
  try clear hfz7_0
  try clear hfz7_1
  try clear hfz7_2
  try clear hfz7_3
  try clear hfz7_4
  obtain ⟨kq, x28_2, rfl, HA, HJ2, BK154, BK155, HB⟩ := hcut
  cases kq with
  | zero => exact absurd HA.out (by simp [token_parse.j0])
  | succ kj2 =>
   have H := HA.out; clear HA; simp only [token_parse.j0] at H
   by_cases c9 : x28_2 = true
   ·subst c9; rw [if_pos rfl] at H; simp only [Option.some.injEq, Prod.mk.injEq] at H; obtain ⟨rfl, rfl, rfl, rfl, rfl, rfl⟩ := H; have hnb10 := NB155_154.out; have hnc10 := NB154_155.out; obtain ⟨hcz11_0, hcz11_1, hcz11_2, hcz11_3, hcz11_4, hfz11_0, hfz11_1, hfz11_2, hfz11_3, hfz11_4⟩ := pd5_ BK155.out; obtain ⟨hcz12_0, hcz12_1, hcz12_2, hcz12_3, hcz12_4, hfz12_0, hfz12_1, hfz12_2, hfz12_3, hfz12_4⟩ := pd5_ BK154.out
    go_wp2
    refine bodyPost_ret (ku rfl _ _ gb154 26 #[.string (⟨#[]⟩ : ByteArray), .int .i64 0, .int .i64 0, .int .u8 0, .int .u64 0] (0, 0) _ rfl (by (with_reducible repeat (first | refine kf ?_ _ | refine kg ?_ | refine kd ?_ _)); refine kp (cs := #[.string (⟨#[]⟩ : ByteArray), .int .i64 0, .int .i64 0, .int .u8 0, .int .u64 0]) ?_ 4 _ rfl; (with_reducible repeat (first | refine kf ?_ _ | refine kg ?_ | refine kd ?_ _)); refine kp (cs := #[.string (⟨#[]⟩ : ByteArray), .int .i64 0, .int .i64 0, .int .u8 0, .int .u64 0]) ?_ 3 _ rfl; (with_reducible repeat (first | refine kf ?_ _ | refine kg ?_ | refine kd ?_ _)); refine kp (cs := #[.string (⟨#[]⟩ : ByteArray), .int .i64 0, .int .i64 0, .int .u8 0, .int .u64 0]) ?_ 2 _ rfl; (with_reducible repeat (first | refine kf ?_ _ | refine kg ?_ | refine kd ?_ _)); refine kp (cs := #[.string (⟨#[]⟩ : ByteArray), .int .i64 0, .int .i64 0, .int .u8 0, .int .u64 0]) ?_ 1 _ rfl; (with_reducible repeat (first | refine kf ?_ _ | refine kg ?_ | refine kd ?_ _)); refine kp (cs := #[.string (⟨#[]⟩ : ByteArray), .int .i64 0, .int .i64 0, .int .u8 0, .int .u64 0]) ?_ 0 _ rfl; (with_reducible repeat (first | refine kf ?_ _ | refine kg ?_ | refine kd ?_ _)); exact BK154.out) Tryd.underlying26 rfl (by kernel_rfl)) rfl ?_
    exact ⟨y5_, y7_⟩
   ·replace c9 := Bool.eq_false_iff.mpr c9; subst c9; rw [if_neg (show ¬ (false = true) by decide)] at H
    by_cases c13 : 0 ≤ t157
    ·rw [if_pos c13] at H; have c13b0 := eq_true c13; have c13b1 : decide (0 ≤ t157) = true := decide_eq_true c13; clear c13
     by_cases c14 : t157 ≤ (wrap64 (t157 + (wrap64 (t156))))
     ·rw [if_pos c14] at H; have c14b0 := eq_true c14; have c14b1 : decide (t157 ≤ (wrap64 (t157 + (wrap64 (t156))))) = true := decide_eq_true c14
      by_cases c15 : (wrap64 (t157 + (wrap64 (t156)))) ≤ (l0.length : Int)
      ·rw [if_pos c15] at H; have c15b0 := eq_true c15; have c15b1 : decide ((wrap64 (t157 + (wrap64 (t156)))) ≤ (l0.length : Int)) = true := decide_eq_true c15; obtain ⟨ji16, hji16⟩ : ∃ j_ : Int, (wrap64 (t157 + (wrap64 (t156)))) = j_ := ⟨_, rfl⟩
       replace H : (if 0 ≤ (ji16) then ((bits_Uvarint.f kj2 (l0.drop ((ji16) : Int).toNat)).bind fun bt161 => (if bt161.2.2 = 0 then (token_parse.j1 kj2 (l0.drop ((ji16) : Int).toNat) bt161.1 bt161.2.1 (decide (bt161.1 > 99)) (strOfNums ((l0.take ((ji16) : Int).toNat).drop (t157 : Int).toNat)) 0 0 0 0) else (token_parse.j1 kj2 (l0.drop ((ji16) : Int).toNat) bt161.1 bt161.2.1 true (strOfNums ((l0.take ((ji16) : Int).toNat).drop (t157 : Int).toNat)) 0 0 0 0))) else (none)) = some (r1, r2, r3, r4, r5, r6) := by first | (rw [hji16] at H; exact H) | (simp only [hji16] at H ⊢; exact H)
       (try rw [hji16] at c14b0); (try rw [hji16] at c14b1); (try rw [hji16] at c14); (try rw [hji16] at c15b0); (try rw [hji16] at c15b1); (try rw [hji16] at c15); have hji16w : (IntKind.i64.wrap (t157 + (wrap64 (t156)))) = ji16 := (kT _).trans hji16
       by_cases c17 : 0 ≤ (ji16)
       ·rw [if_pos c17] at H; have c17b0 := eq_true c17; have c17b1 : decide (0 ≤ (ji16)) = true := decide_eq_true c17; clear c17; have c18b0 := eq_true (of_decide_eq_true y4_ : (ji16) ≤ (l0.length : Int)); replace H := Option.bind_eq_some_iff.mp H; obtain ⟨⟨t161, t162, t163⟩, A190, H⟩ := H; replace H : (if t163 = 0 then (token_parse.j1 kj2 (l0.drop ((ji16) : Int).toNat) t161 t162 (decide (t161 > 99)) (strOfNums ((l0.take ((ji16) : Int).toNat).drop (t157 : Int).toNat)) 0 0 0 0) else (token_parse.j1 kj2 (l0.drop ((ji16) : Int).toNat) t161 t162 true (strOfNums ((l0.take ((ji16) : Int).toNat).drop (t157 : Int).toNat)) 0 0 0 0)) = some (r1, r2, r3, r4, r5, r6) := H; have A19 := Aside0.mk A190; clear A190; have HC20 := Aside0.mk H; clear H; obtain ⟨i021, hi021, _, hsz21, _⟩ := info_parts info5; obtain ⟨A21, hcut21, hA21, hC21⟩ := print_mid_of (P := Tryd.prog) (Value.int .u8) 0 45 5 .i64 .i64 Tryd.underlying45 hi021 hsz21 A0 c0 l0 t157 (ji16) (of_decide_eq_true y4_) (by first | omega | exact of_decide_eq_true y4_) (of_decide_eq_true y4_) HC0.out; have HR159 := am_ (Kd.C_of_reads (h1 := fun _ => rfl) (hA21 _ (Kd.reads_of_C HR0.out))); have HC159 := Aside0.mk hC21; clear hA21 hC21 hi021 hsz21
        have hcv22 := Kd.C_string (P := Tryd.prog) (A := A21) (c := (c0 - t157.toNat)) Tryd.underlying45 Tryd.underlying5 Tryd.underlying9 (Kd.C_below HR159.out HB.out); have hcv22n := fun m_ : Nat => Kd.C_string (P := Tryd.prog) (A := A21) (c := (c0 - t157.toNat)) Tryd.underlying45 Tryd.underlying5 Tryd.underlying9 (Kd.C_drewN ((Kd.C_below HR159.out HB.out)) m_); (try simp only [List.length_drop, List.length_take] at hcv22n); (try rw [Nat.min_eq_left (by omega)] at hcv22n); have hcv22s := hcv22; (try simp only [List.length_drop, List.length_take] at hcv22s); (try rw [Nat.min_eq_left (by omega)] at hcv22s)
        have hnb23 := NB155_154.out; have hnc23 := NB154_155.out; obtain ⟨hcz24_0, hcz24_1, hcz24_2, hcz24_3, hcz24_4, hfz24_0, hfz24_1, hfz24_2, hfz24_3, hfz24_4⟩ := pd5_ BK155.out; obtain ⟨i025, hi025, _, hsz25, _⟩ := info_parts info5; obtain ⟨A25, hcut25, hA25, hC25⟩ := kL (P := Tryd.prog) (Value.int .u8) 0 45 5 .i64 Tryd.underlying45 hi025 hsz25 A0 c0 l0 (ji16) (of_decide_eq_true y4_) (of_decide_eq_true y4_) HC0.out; obtain ⟨L25_, hL25_⟩ : ∃ L_, L_ = l0.drop ((ji16) : Int).toNat := ⟨_, rfl⟩; rw [← hL25_] at hcut25 hA25 hC25; (try rw [← hL25_] at HR0); (try rw [← hL25_] at HC0); (try rw [← hL25_] at HB); (try rw [← hL25_] at A2); (try rw [← hL25_] at HC3); (try rw [← hL25_] at n0_); (try rw [← hL25_] at n1_); (try rw [← hL25_] at n2_); (try rw [← hL25_] at n3_); (try rw [← hL25_] at n4_); (try rw [← hL25_] at n5_); (try rw [← hL25_] at n6_); (try rw [← hL25_] at c8); (try rw [← hL25_] at c8b0); (try rw [← hL25_] at c8b1); (try rw [← hL25_] at c9); (try rw [← hL25_] at c13); (try rw [← hL25_] at c13b0); (try rw [← hL25_] at c13b1); (try rw [← hL25_] at c14); (try rw [← hL25_] at c14b0); (try rw [← hL25_] at c14b1); (try rw [← hL25_] at c15); (try rw [← hL25_] at c15b0); (try rw [← hL25_] at c15b1); (try rw [← hL25_] at c17); (try rw [← hL25_] at c17b0); (try rw [← hL25_] at c17b1); (try rw [← hL25_] at c18b0); (try rw [← hL25_] at A19); (try rw [← hL25_] at HC20); (try rw [← hL25_] at HR159); (try rw [← hL25_] at HC159); clear hL25_; have HR160 := am_ (Kd.C_of_reads (h1 := fun _ => rfl) (hA25 _ (Kd.reads_of_C HR0.out))); have HC160 := Aside0.mk hC25; clear hA25 hC25 hi025 hsz25
        go_upto_region 9 with (first | ((with_reducible refine kj (f := 57) rfl ?_); refine kw (some 45) rfl rfl Tryd.func57 (by kernel_rfl) rfl #[.slice A25 L25_.length (c0 - (ji16).toNat)] rfl (by (try simp only [List.map_toArray, List.map_cons, List.map_nil]); first | done | (rw [show L25_.length = (l0.length - (ji16).toNat) from List.length_drop] <;> rfl) | (simp only [hji16]; rfl) | rfl | (simp only [List.length_drop, List.length_take]; rfl)) ?_; (with_reducible refine (bits_Uvarint.calls kj2 _ _ L25_ t161 t162 t163 _ ?side1 ?side2 A19.out).mono ?_); (case side1 => exact Kd.C_below HR160.out y7_); (case side2 => exact HC160.out); rintro e w' ⟨rfl, ⟨nd, rfl⟩⟩; refine ⟨_, rfl, ?_⟩))
        (try simp only [Act.put, List.setIfInBounds_toArray, List.set_cons_zero, List.set_cons_succ]); go_cut [54] (fun v54 wc => ∃ (kq : Nat) (x54_19 : Bool), v54 = .bool x54_19 ∧ Aside0 (token_parse.j1 kq L25_ t161 t162 x54_19 (strOfNums ((l0.take ((ji16) : Int).toNat).drop (t157 : Int).toNat)) 0 0 0 0 = some (r1, r2, r3, r4, r5, r6)) ∧ Aside0 (kq ≤ kj2) ∧ Aside0 (wc.heap[gb154]? = some (.cells #[.string (⟨#[]⟩ : ByteArray), .int .i64 0, .int .i64 0, .int .u8 0, .int .u64 0] 26 (0, 0))) ∧ Aside0 (wc.heap[gb155]? = some (.cells #[.string (strOfNums ((l0.take ((ji16) : Int).toNat).drop (t157 : Int).toNat)), .int .i64 0, .int .i64 0, .int .u8 0, .int .u64 0] 26 (0, 0))) ∧ Aside0 (Below w.heap.size w wc))
        case first =>
         have H := HC20.out; clear HC20
         by_cases c26 : t163 = 0
         ·rw [if_pos c26] at H; have c26b0 : (t163 == 0) = true := beq_iff_eq.mpr c26; have c26b1 : (t163 != 0) = false := bne_eq_false_iff_eq.mpr c26; clear c26; (first | rw [c26b0] | (simp only [kT, i32_w]; rw [c26b0]) | skip); have H' := Aside0.mk H; clear H
          go_wp2
          go_meet
          case rel => exact ⟨_, (decide (t161 > 99)), y3_, H', ⟨by have := HJ2.out; first | omega | exact Nat.le_refl _⟩, ⟨y122_⟩, ⟨y103_⟩, ⟨y7_⟩⟩
         ·rw [if_neg c26] at H; have c26b0 : (t163 == 0) = false := beq_eq_false_iff_ne.mpr c26; have c26b1 : (t163 != 0) = true := bne_iff_ne.mpr c26; (first | rw [c26b0] | (simp only [kT, i32_w]; rw [c26b0]) | skip); have H' := Aside0.mk H; clear H
          go_wp2
          go_meet
          case rel => exact ⟨_, (true), y3_, H', ⟨by have := HJ2.out; first | omega | exact Nat.le_refl _⟩, ⟨y122_⟩, ⟨y103_⟩, ⟨y7_⟩⟩
        case rest =>
         clear HC20
         try clear c1
         try clear c2
         try clear p2
         try clear hcv2
         try clear c3
         try clear c5
         try clear c6
         try clear p6
         try clear c8
         try clear c8b0
         try clear c8b1
         try clear c9
         try clear c10
         try clear c13
         try clear c13b0
         try clear c13b1
         try clear c14
         try clear c14b0
         try clear c14b1
         try clear c15
         try clear c15b0
         try clear c15b1
         try clear c17
         try clear c17b0
         try clear c17b1
         try clear c18
         try clear c18b0
         try clear hcv22
         try clear c23
         try clear c26
         try clear c26b0
         try clear c26b1
         try clear hcz11_0
         try clear hcz11_1
         try clear hcz11_2
         try clear hcz11_3
         try clear hcz11_4
         try clear hcz12_0
         try clear hcz12_1
         try clear hcz12_2
         try clear hcz12_3
         try clear hcz12_4
         try clear hcz24_0
         try clear hcz24_1
         try clear hcz24_2
         try clear hcz24_3
         try clear hcz24_4
         try clear hcz7_0
         try clear hcz7_1
         try clear hcz7_2
         try clear hcz7_3
         try clear hcz7_4
         try clear hfz11_0
         try clear hfz11_1
         try clear hfz11_2
         try clear hfz11_3
         try clear hfz11_4
         try clear hfz12_0
         try clear hfz12_1
         try clear hfz12_2
         try clear hfz12_3
         try clear hfz12_4
         try clear hfz24_0
         try clear hfz24_1
         try clear hfz24_2
         try clear hfz24_3
         try clear hfz24_4
         try clear hfz7_0
         try clear hfz7_1
         try clear hfz7_2
         try clear hfz7_3
         try clear hfz7_4
         try clear p2
         try clear p6
         obtain ⟨kq, x54_19, rfl, HA, HJ19, BK154, BK155, HB⟩ := hcut
         cases kq with
         | zero => exact absurd HA.out (by simp [token_parse.j1])
         | succ kj19 =>
          have H := HA.out; clear HA; simp only [token_parse.j1] at H
          by_cases c27 : x54_19 = true
          ·subst c27; rw [if_pos rfl] at H; simp only [Option.some.injEq, Prod.mk.injEq] at H; obtain ⟨rfl, rfl, rfl, rfl, rfl, rfl⟩ := H; have hnb28 := NB155_154.out; have hnc28 := NB154_155.out; obtain ⟨hcz29_0, hcz29_1, hcz29_2, hcz29_3, hcz29_4, hfz29_0, hfz29_1, hfz29_2, hfz29_3, hfz29_4⟩ := pd5_ BK155.out; obtain ⟨hcz30_0, hcz30_1, hcz30_2, hcz30_3, hcz30_4, hfz30_0, hfz30_1, hfz30_2, hfz30_3, hfz30_4⟩ := pd5_ BK154.out
           go_wp2
           refine bodyPost_ret (ku rfl _ _ gb154 26 #[.string (strOfNums ((l0.take ((ji16) : Int).toNat).drop (t157 : Int).toNat)), .int .i64 0, .int .i64 0, .int .u8 0, .int .u64 0] (0, 0) _ rfl (by (with_reducible repeat (first | refine kf ?_ _ | refine kg ?_ | refine kd ?_ _)); refine kp (cs := #[.string (strOfNums ((l0.take ((ji16) : Int).toNat).drop (t157 : Int).toNat)), .int .i64 0, .int .i64 0, .int .u8 0, .int .u64 0]) ?_ 4 _ rfl; (with_reducible repeat (first | refine kf ?_ _ | refine kg ?_ | refine kd ?_ _)); refine kp (cs := #[.string (strOfNums ((l0.take ((ji16) : Int).toNat).drop (t157 : Int).toNat)), .int .i64 0, .int .i64 0, .int .u8 0, .int .u64 0]) ?_ 3 _ rfl; (with_reducible repeat (first | refine kf ?_ _ | refine kg ?_ | refine kd ?_ _)); refine kp (cs := #[.string (strOfNums ((l0.take ((ji16) : Int).toNat).drop (t157 : Int).toNat)), .int .i64 0, .int .i64 0, .int .u8 0, .int .u64 0]) ?_ 2 _ rfl; (with_reducible repeat (first | refine kf ?_ _ | refine kg ?_ | refine kd ?_ _)); refine kp (cs := #[.string (strOfNums ((l0.take ((ji16) : Int).toNat).drop (t157 : Int).toNat)), .int .i64 0, .int .i64 0, .int .u8 0, .int .u64 0]) ?_ 1 _ rfl; (with_reducible repeat (first | refine kf ?_ _ | refine kg ?_ | refine kd ?_ _)); refine kp (cs := #[.string (⟨#[]⟩ : ByteArray), .int .i64 0, .int .i64 0, .int .u8 0, .int .u64 0]) ?_ 0 _ rfl; (with_reducible repeat (first | refine kf ?_ _ | refine kg ?_ | refine kd ?_ _)); exact BK154.out) Tryd.underlying26 rfl (by kernel_rfl)) rfl ?_
           exact ⟨by first | rfl | (simp [errW_none, errW_some] <;> rfl) | (simp only [← hji16]; first | rfl | (simp [errW_none, errW_some] <;> rfl)) | (simp [*, errW_none, errW_some] <;> rfl), y7_⟩
          ·replace c27 := Bool.eq_false_iff.mpr c27; subst c27; rw [if_neg (show ¬ (false = true) by decide)] at H
           by_cases c31 : 0 ≤ t162
           ·rw [if_pos c31] at H; have c31b0 := eq_true c31; have c31b1 : decide (0 ≤ t162) = true := decide_eq_true c31; clear c31
            by_cases c32 : t162 ≤ (L25_.length : Int)
            ·rw [if_pos c32] at H; have c32b0 := eq_true c32; have c32b1 : decide (t162 ≤ (L25_.length : Int)) = true := decide_eq_true c32; clear c32; replace H := Option.bind_eq_some_iff.mp H; obtain ⟨⟨t165, t166, t167⟩, A330, H⟩ := H; replace H : (if t167 = 0 then (token_parse.j2 kj19 (L25_.drop (t162 : Int).toNat) t166 (((L25_.drop (t162 : Int).toNat).length : Int) == t166) (strOfNums ((l0.take ((ji16) : Int).toNat).drop (t157 : Int).toNat)) (wrap64 (t161)) t165 0 0) else (token_parse.j2 kj19 (L25_.drop (t162 : Int).toNat) t166 true (strOfNums ((l0.take ((ji16) : Int).toNat).drop (t157 : Int).toNat)) (wrap64 (t161)) t165 0 0)) = some (r1, r2, r3, r4, r5, r6) := H; have A33 := Aside0.mk A330; clear A330; have HC34 := Aside0.mk H; clear H; have hnb35 := NB155_154.out; have hnc35 := NB154_155.out; obtain ⟨hcz36_0, hcz36_1, hcz36_2, hcz36_3, hcz36_4, hfz36_0, hfz36_1, hfz36_2, hfz36_3, hfz36_4⟩ := pd5_ BK155.out; obtain ⟨i037, hi037, _, hsz37, _⟩ := info_parts info5; obtain ⟨A37, hcut37, hA37, hC37⟩ := kL (P := Tryd.prog) (Value.int .u8) 0 45 5 .i64 Tryd.underlying45 hi037 hsz37 A25 (c0 - (ji16).toNat) L25_ t162 (of_decide_eq_true y4_) (of_decide_eq_true y4_) HC160.out; obtain ⟨L37_, hL37_⟩ : ∃ L_, L_ = L25_.drop (t162 : Int).toNat := ⟨_, rfl⟩; rw [← hL37_] at hcut37 hA37 hC37; (try rw [← hL37_] at HR0); (try rw [← hL37_] at HC0); (try rw [← hL37_] at HB); (try rw [← hL37_] at A2); (try rw [← hL37_] at HC3); (try rw [← hL37_] at n0_); (try rw [← hL37_] at n1_); (try rw [← hL37_] at n2_); (try rw [← hL37_] at n3_); (try rw [← hL37_] at n4_); (try rw [← hL37_] at n5_); (try rw [← hL37_] at n6_); (try rw [← hL37_] at c8); (try rw [← hL37_] at c8b0); (try rw [← hL37_] at c8b1); (try rw [← hL37_] at c9); (try rw [← hL37_] at c13); (try rw [← hL37_] at c13b0); (try rw [← hL37_] at c13b1); (try rw [← hL37_] at c14); (try rw [← hL37_] at c14b0); (try rw [← hL37_] at c14b1); (try rw [← hL37_] at c15); (try rw [← hL37_] at c15b0); (try rw [← hL37_] at c15b1); (try rw [← hL37_] at c17); (try rw [← hL37_] at c17b0); (try rw [← hL37_] at c17b1); (try rw [← hL37_] at c18b0); (try rw [← hL37_] at A19); (try rw [← hL37_] at HC20); (try rw [← hL37_] at HR159); (try rw [← hL37_] at HC159); (try rw [← hL37_] at HR160); (try rw [← hL37_] at HC160); (try rw [← hL37_] at c26); (try rw [← hL37_] at c26b0); (try rw [← hL37_] at c26b1); (try rw [← hL37_] at c27); (try rw [← hL37_] at c31); (try rw [← hL37_] at c31b0); (try rw [← hL37_] at c31b1); (try rw [← hL37_] at c32); (try rw [← hL37_] at c32b0); (try rw [← hL37_] at c32b1); (try rw [← hL37_] at A33); (try rw [← hL37_] at HC34); clear hL37_; have HR164 := am_ (Kd.C_of_reads (h1 := fun _ => rfl) (hA37 _ (Kd.reads_of_C HR160.out))); have HC164 := Aside0.mk hC37; clear hA37 hC37 hi037 hsz37
             go_upto_region 14 with (first | ((with_reducible refine kj (f := 58) rfl ?_); refine kw (some 64) rfl rfl Tryd.func58 (by kernel_rfl) rfl #[.slice A37 L37_.length ((c0 - (ji16).toNat) - t162.toNat)] rfl (by (try simp only [List.map_toArray, List.map_cons, List.map_nil]); first | done | (rw [show L37_.length = (L25_.length - t162.toNat) from List.length_drop] <;> rfl) | (simp only [hji16]; rfl) | rfl | (simp only [List.length_drop, List.length_take]; rfl)) ?_; (with_reducible refine (bits_Varint.calls kj19 _ _ L37_ t165 t166 t167 _ ?side1 ?side2 A33.out).mono ?_); (case side1 => exact Kd.C_below HR164.out y7_); (case side2 => exact HC164.out); rintro e w' ⟨rfl, ⟨nd, rfl⟩⟩; refine ⟨_, rfl, ?_⟩))
             (try simp only [Act.put, List.setIfInBounds_toArray, List.set_cons_zero, List.set_cons_succ]); go_cut [76] (fun v76 wc => ∃ (kq : Nat) (x76_33 : Bool), v76 = .bool x76_33 ∧ Aside0 (token_parse.j2 kq L37_ t166 x76_33 (strOfNums ((l0.take ((ji16) : Int).toNat).drop (t157 : Int).toNat)) (wrap64 (t161)) t165 0 0 = some (r1, r2, r3, r4, r5, r6)) ∧ Aside0 (kq ≤ kj19) ∧ Aside0 (wc.heap[gb154]? = some (.cells #[.string (⟨#[]⟩ : ByteArray), .int .i64 0, .int .i64 0, .int .u8 0, .int .u64 0] 26 (0, 0))) ∧ Aside0 (wc.heap[gb155]? = some (.cells #[.string (strOfNums ((l0.take ((ji16) : Int).toNat).drop (t157 : Int).toNat)), .int .i64 (wrap64 (t161)), .int .i64 t165, .int .u8 0, .int .u64 0] 26 (0, 0))) ∧ Aside0 (Below w.heap.size w wc))
             case first =>
              have H := HC34.out; clear HC34
              by_cases c38 : t167 = 0
              ·rw [if_pos c38] at H; have c38b0 : (t167 == 0) = true := beq_iff_eq.mpr c38; have c38b1 : (t167 != 0) = false := bne_eq_false_iff_eq.mpr c38; clear c38; (first | rw [c38b0] | (simp only [kT, i32_w]; rw [c38b0]) | skip); have H' := Aside0.mk H; clear H
               go_wp2
               go_meet
               case rel => exact ⟨_, (((L37_.length : Int) == t166)), (by first | rfl | (simp only [List.length_drop, List.length_take]; done) | (simp; done) | ((simp only [← hji16] <;> (first | rfl | simp)); done) | (congr 1; first | assumption | (symm; assumption)) | (simp [*]; done)), H', ⟨by have := HJ2.out; have := HJ19.out; first | omega | exact Nat.le_refl _⟩, ⟨y37_⟩, ⟨y77_⟩, ⟨y7_⟩⟩
              ·rw [if_neg c38] at H; have c38b0 : (t167 == 0) = false := beq_eq_false_iff_ne.mpr c38; have c38b1 : (t167 != 0) = true := bne_iff_ne.mpr c38; (first | rw [c38b0] | (simp only [kT, i32_w]; rw [c38b0]) | skip); have H' := Aside0.mk H; clear H
               go_wp2
               go_meet
               case rel => exact ⟨_, (true), y3_, H', ⟨by have := HJ2.out; have := HJ19.out; first | omega | exact Nat.le_refl _⟩, ⟨y37_⟩, ⟨y77_⟩, ⟨y7_⟩⟩
             case rest =>
              clear HC34
              try clear c1
              try clear c2
              try clear p2
              try clear hcv2
              try clear c3
              try clear c5
              try clear c6
              try clear p6
              try clear c8
              try clear c8b0
              try clear c8b1
              try clear c9
              try clear c10
              try clear c13
              try clear c13b0
              try clear c13b1
              try clear c14
              try clear c14b0
              try clear c14b1
              try clear c15
              try clear c15b0
              try clear c15b1
              try clear c17
              try clear c17b0
              try clear c17b1
              try clear c18
              try clear c18b0
              try clear hcv22
              try clear c23
              try clear c26
              try clear c26b0
              try clear c26b1
              try clear c27
              try clear c28
              try clear c31
              try clear c31b0
              try clear c31b1
              try clear c32
              try clear c32b0
              try clear c32b1
              try clear c34
              try clear c35
              try clear c38
              try clear c38b0
              try clear c38b1
              try clear hcz11_0
              try clear hcz11_1
              try clear hcz11_2
              try clear hcz11_3
              try clear hcz11_4
              try clear hcz12_0
              try clear hcz12_1
              try clear hcz12_2
              try clear hcz12_3
              try clear hcz12_4
              try clear hcz24_0
              try clear hcz24_1
              try clear hcz24_2
              try clear hcz24_3
              try clear hcz24_4
              try clear hcz29_0
              try clear hcz29_1
              try clear hcz29_2
              try clear hcz29_3
              try clear hcz29_4
              try clear hcz30_0
              try clear hcz30_1
              try clear hcz30_2
              try clear hcz30_3
              try clear hcz30_4
              try clear hcz36_0
              try clear hcz36_1
              try clear hcz36_2
              try clear hcz36_3
              try clear hcz36_4
              try clear hcz7_0
              try clear hcz7_1
              try clear hcz7_2
              try clear hcz7_3
              try clear hcz7_4
              try clear hfz11_0
              try clear hfz11_1
              try clear hfz11_2
              try clear hfz11_3
              try clear hfz11_4
              try clear hfz12_0
              try clear hfz12_1
              try clear hfz12_2
              try clear hfz12_3
              try clear hfz12_4
              try clear hfz24_0
              try clear hfz24_1
              try clear hfz24_2
              try clear hfz24_3
              try clear hfz24_4
              try clear hfz29_0
              try clear hfz29_1
              try clear hfz29_2
              try clear hfz29_3
              try clear hfz29_4
              try clear hfz30_0
              try clear hfz30_1
              try clear hfz30_2
              try clear hfz30_3
              try clear hfz30_4
              try clear hfz36_0
              try clear hfz36_1
              try clear hfz36_2
              try clear hfz36_3
              try clear hfz36_4
              try clear hfz7_0
              try clear hfz7_1
              try clear hfz7_2
              try clear hfz7_3
              try clear hfz7_4
              try clear p2
              try clear p6
              obtain ⟨kq, x76_33, rfl, HA, HJ33, BK154, BK155, HB⟩ := hcut
              cases kq with
              | zero => exact absurd HA.out (by simp [token_parse.j2])
              | succ kj33 =>
               have H := HA.out; clear HA; simp only [token_parse.j2] at H
               by_cases c39 : x76_33 = true
               ·subst c39; rw [if_pos rfl] at H; simp only [Option.some.injEq, Prod.mk.injEq] at H; obtain ⟨rfl, rfl, rfl, rfl, rfl, rfl⟩ := H; have hnb40 := NB155_154.out; have hnc40 := NB154_155.out; obtain ⟨hcz41_0, hcz41_1, hcz41_2, hcz41_3, hcz41_4, hfz41_0, hfz41_1, hfz41_2, hfz41_3, hfz41_4⟩ := pd5_ BK155.out; obtain ⟨hcz42_0, hcz42_1, hcz42_2, hcz42_3, hcz42_4, hfz42_0, hfz42_1, hfz42_2, hfz42_3, hfz42_4⟩ := pd5_ BK154.out
                go_wp2
                refine bodyPost_ret (ku rfl _ _ gb154 26 #[.string (strOfNums ((l0.take ((ji16) : Int).toNat).drop (t157 : Int).toNat)), .int .i64 (wrap64 (t161)), .int .i64 t165, .int .u8 0, .int .u64 0] (0, 0) _ rfl (by (with_reducible repeat (first | refine kf ?_ _ | refine kg ?_ | refine kd ?_ _)); refine kp (cs := #[.string (strOfNums ((l0.take ((ji16) : Int).toNat).drop (t157 : Int).toNat)), .int .i64 (wrap64 (t161)), .int .i64 t165, .int .u8 0, .int .u64 0]) ?_ 4 _ rfl; (with_reducible repeat (first | refine kf ?_ _ | refine kg ?_ | refine kd ?_ _)); refine kp (cs := #[.string (strOfNums ((l0.take ((ji16) : Int).toNat).drop (t157 : Int).toNat)), .int .i64 (wrap64 (t161)), .int .i64 t165, .int .u8 0, .int .u64 0]) ?_ 3 _ rfl; (with_reducible repeat (first | refine kf ?_ _ | refine kg ?_ | refine kd ?_ _)); refine kp (cs := #[.string (strOfNums ((l0.take ((ji16) : Int).toNat).drop (t157 : Int).toNat)), .int .i64 (wrap64 (t161)), .int .i64 0, .int .u8 0, .int .u64 0]) ?_ 2 _ rfl; (with_reducible repeat (first | refine kf ?_ _ | refine kg ?_ | refine kd ?_ _)); refine kp (cs := #[.string (strOfNums ((l0.take ((ji16) : Int).toNat).drop (t157 : Int).toNat)), .int .i64 0, .int .i64 0, .int .u8 0, .int .u64 0]) ?_ 1 _ rfl; (with_reducible repeat (first | refine kf ?_ _ | refine kg ?_ | refine kd ?_ _)); refine kp (cs := #[.string (⟨#[]⟩ : ByteArray), .int .i64 0, .int .i64 0, .int .u8 0, .int .u64 0]) ?_ 0 _ rfl; (with_reducible repeat (first | refine kf ?_ _ | refine kg ?_ | refine kd ?_ _)); exact BK154.out) Tryd.underlying26 rfl (by kernel_rfl)) rfl ?_
                exact ⟨by first | rfl | (simp [errW_none, errW_some] <;> rfl) | (simp only [← hji16]; first | rfl | (simp [errW_none, errW_some] <;> rfl)) | (simp [*, errW_none, errW_some] <;> rfl), y7_⟩
               ·replace c39 := Bool.eq_false_iff.mpr c39; subst c39; rw [if_neg (show ¬ (false = true) by decide)] at H
                by_cases c43 : 0 ≤ t166
                ·rw [if_pos c43] at H; have c43b0 : decide (0 ≤ t166) = true := decide_eq_true c43; clear c43
                 by_cases c44 : t166 < (L37_.length : Int)
                 ·rw [if_pos c44] at H; have c44b0 : decide (t166 < (L37_.length : Int)) = true := decide_eq_true c44; clear c44; obtain ⟨ji45, hji45⟩ : ∃ j_ : Int, (wrap64 (t166 + 1)) = j_ := ⟨_, rfl⟩
                  replace H : (if 0 ≤ (ji45) then (if (ji45) ≤ (L37_.length : Int) then ((bits_Uvarint.f kj33 (L37_.drop ((ji45) : Int).toNat)).bind fun bt170 => (if bt170.2.2 = 0 then (if bt170.2.1 = ((L37_.drop ((ji45) : Int).toNat).length : Int) then ((token_Check.f kj33 (strOfNums ((l0.take ((ji16) : Int).toNat).drop (t157 : Int).toNat)) (wrap64 (t161)) t165 (rd L37_ t166) bt170.1).bind fun t173 => (some ((strOfNums ((l0.take ((ji16) : Int).toNat).drop (t157 : Int).toNat)), (wrap64 (t161)), t165, rd L37_ t166, bt170.1, (t173 == 0)))) else (some ((strOfNums ((l0.take ((ji16) : Int).toNat).drop (t157 : Int).toNat)), (wrap64 (t161)), t165, rd L37_ t166, bt170.1, false))) else (some ((strOfNums ((l0.take ((ji16) : Int).toNat).drop (t157 : Int).toNat)), (wrap64 (t161)), t165, rd L37_ t166, bt170.1, false)))) else (none)) else (none)) = some (r1, r2, r3, r4, r5, r6) := by first | (rw [hji45] at H; exact H) | (simp only [hji45] at H ⊢; exact H)
                  have hji45w : (IntKind.i64.wrap (t166 + 1)) = ji45 := (kT _).trans hji45
                  by_cases c46 : 0 ≤ (ji45)
                  ·rw [if_pos c46] at H; have c46b0 := eq_true c46; have c46b1 : decide (0 ≤ (ji45)) = true := decide_eq_true c46; clear c46
                   by_cases c47 : (ji45) ≤ (L37_.length : Int)
                   ·rw [if_pos c47] at H; have c47b0 := eq_true c47; have c47b1 : decide ((ji45) ≤ (L37_.length : Int)) = true := decide_eq_true c47; clear c47; replace H := Option.bind_eq_some_iff.mp H; obtain ⟨⟨t170, t171, t172⟩, A480, H⟩ := H; replace H : (if t172 = 0 then (if t171 = ((L37_.drop ((ji45) : Int).toNat).length : Int) then ((token_Check.f kj33 (strOfNums ((l0.take ((ji16) : Int).toNat).drop (t157 : Int).toNat)) (wrap64 (t161)) t165 (rd L37_ t166) t170).bind fun t173 => (some ((strOfNums ((l0.take ((ji16) : Int).toNat).drop (t157 : Int).toNat)), (wrap64 (t161)), t165, rd L37_ t166, t170, (t173 == 0)))) else (some ((strOfNums ((l0.take ((ji16) : Int).toNat).drop (t157 : Int).toNat)), (wrap64 (t161)), t165, rd L37_ t166, t170, false))) else (some ((strOfNums ((l0.take ((ji16) : Int).toNat).drop (t157 : Int).toNat)), (wrap64 (t161)), t165, rd L37_ t166, t170, false))) = some (r1, r2, r3, r4, r5, r6) := H; have A48 := Aside0.mk A480; clear A480
                    by_cases c49 : t172 = 0
                    ·rw [if_pos c49] at H; have c49b0 : (t172 == 0) = true := beq_iff_eq.mpr c49; have c49b1 : (t172 != 0) = false := bne_eq_false_iff_eq.mpr c49; clear c49
                     by_cases c50 : t171 = ((L37_.drop ((ji45) : Int).toNat).length : Int)
                     ·rw [if_pos c50] at H; have c50b0 : (t171 == ((L37_.drop ((ji45) : Int).toNat).length : Int)) = true := beq_iff_eq.mpr c50; have c50b1 : (t171 != ((L37_.drop ((ji45) : Int).toNat).length : Int)) = false := bne_eq_false_iff_eq.mpr c50; clear c50; replace H := Option.bind_eq_some_iff.mp H; obtain ⟨t173, A510, H⟩ := H; have A51 := Aside0.mk A510; clear A510; simp only [Option.some.injEq, Prod.mk.injEq] at H; obtain ⟨rfl, rfl, rfl, rfl, rfl, rfl⟩ := H; have p168 : 0 ≤ (t166 : Int) := of_decide_eq_true y4_; have q168 : t166 < (L37_.length : Int) := of_decide_eq_true y4_; obtain ⟨ad168, e168, hx168_0⟩ := Kd.at_int HR164.out t166 p168 q168
                      cases e168
                      replace hx168_0 := (HB.out.cell (World.block_lt_of_cell? w _ hx168_0)).trans hx168_0; replace p168 := eq_true p168; replace q168 := eq_true q168; have hnb52 := NB155_154.out; have hnc52 := NB154_155.out; obtain ⟨hcz53_0, hcz53_1, hcz53_2, hcz53_3, hcz53_4, hfz53_0, hfz53_1, hfz53_2, hfz53_3, hfz53_4⟩ := pd5_ BK155.out; obtain ⟨i054, hi054, _, hsz54, _⟩ := info_parts info5; obtain ⟨A54, hcut54, hA54, hC54⟩ := kL (P := Tryd.prog) (Value.int .u8) 0 45 5 .i64 Tryd.underlying45 hi054 hsz54 (some ad168) ((c0 - (ji16).toNat) - t162.toNat) L37_ (ji45) (of_decide_eq_true y4_) (of_decide_eq_true y4_) HC164.out; obtain ⟨L54_, hL54_⟩ : ∃ L_, L_ = L37_.drop ((ji45) : Int).toNat := ⟨_, rfl⟩; rw [← hL54_] at hcut54 hA54 hC54; (try rw [← hL54_] at HR0); (try rw [← hL54_] at HC0); (try rw [← hL54_] at HB); (try rw [← hL54_] at A2); (try rw [← hL54_] at HC3); (try rw [← hL54_] at n0_); (try rw [← hL54_] at n1_); (try rw [← hL54_] at n2_); (try rw [← hL54_] at n3_); (try rw [← hL54_] at n4_); (try rw [← hL54_] at n5_); (try rw [← hL54_] at n6_); (try rw [← hL54_] at c8); (try rw [← hL54_] at c8b0); (try rw [← hL54_] at c8b1); (try rw [← hL54_] at c9); (try rw [← hL54_] at c13); (try rw [← hL54_] at c13b0); (try rw [← hL54_] at c13b1); (try rw [← hL54_] at c14); (try rw [← hL54_] at c14b0); (try rw [← hL54_] at c14b1); (try rw [← hL54_] at c15); (try rw [← hL54_] at c15b0); (try rw [← hL54_] at c15b1); (try rw [← hL54_] at c17); (try rw [← hL54_] at c17b0); (try rw [← hL54_] at c17b1); (try rw [← hL54_] at c18b0); (try rw [← hL54_] at A19); (try rw [← hL54_] at HC20); (try rw [← hL54_] at HR159); (try rw [← hL54_] at HC159); (try rw [← hL54_] at HR160); (try rw [← hL54_] at HC160); (try rw [← hL54_] at c26); (try rw [← hL54_] at c26b0); (try rw [← hL54_] at c26b1); (try rw [← hL54_] at c27); (try rw [← hL54_] at c31); (try rw [← hL54_] at c31b0); (try rw [← hL54_] at c31b1); (try rw [← hL54_] at c32); (try rw [← hL54_] at c32b0); (try rw [← hL54_] at c32b1); (try rw [← hL54_] at A33); (try rw [← hL54_] at HC34); (try rw [← hL54_] at HR164); (try rw [← hL54_] at HC164); (try rw [← hL54_] at c38); (try rw [← hL54_] at c38b0); (try rw [← hL54_] at c38b1); (try rw [← hL54_] at c39); (try rw [← hL54_] at c43); (try rw [← hL54_] at c43b0); (try rw [← hL54_] at c44); (try rw [← hL54_] at c44b0); (try rw [← hL54_] at c46); (try rw [← hL54_] at c46b0); (try rw [← hL54_] at c46b1); (try rw [← hL54_] at c47); (try rw [← hL54_] at c47b0); (try rw [← hL54_] at c47b1); (try rw [← hL54_] at A48); (try rw [← hL54_] at c49); (try rw [← hL54_] at c49b0); (try rw [← hL54_] at c49b1); (try rw [← hL54_] at c50); (try rw [← hL54_] at c50b0); (try rw [← hL54_] at c50b1); (try rw [← hL54_] at A51); clear hL54_; have HR169 := am_ (Kd.C_of_reads (h1 := fun _ => rfl) (hA54 _ (Kd.reads_of_C HR164.out))); have HC169 := Aside0.mk hC54; clear hA54 hC54 hi054 hsz54
                      try go_wp2_with (first | ((with_reducible refine kj (f := 57) rfl ?_); refine kw (some 89) rfl rfl Tryd.func57 (by kernel_rfl) rfl #[.slice A54 L54_.length (((c0 - (ji16).toNat) - t162.toNat) - (ji45).toNat)] rfl (by (try simp only [List.map_toArray, List.map_cons, List.map_nil]); first | done | (rw [show L54_.length = (L37_.length - (ji45).toNat) from List.length_drop] <;> rfl) | (simp only [hji16, hji45]; rfl) | rfl | (simp only [List.length_drop, List.length_take]; rfl)) ?_; (with_reducible refine (bits_Uvarint.calls kj33 _ _ L54_ t170 t171 t172 _ ?side1 ?side2 A48.out).mono ?_); (case side1 => exact Kd.C_below HR169.out y7_); (case side2 => exact HC169.out); rintro e w' ⟨rfl, ⟨nd, rfl⟩⟩; refine ⟨_, rfl, ?_⟩))
                      have n0_ : Aside0 ((((wc.setCell ⟨gb155, 3, none⟩ (.int .u8 (rd L37_ t166))).drewN nd).setCell ⟨gb155, 4, none⟩ (.int .u64 t170)).heap[gb154]? = some (.cells #[.string (⟨#[]⟩ : ByteArray), .int .i64 0, .int .i64 0, .int .u8 0, .int .u64 0] 26 (0, 0))) := ⟨y37_⟩; have n1_ : Aside0 ((((wc.setCell ⟨gb155, 3, none⟩ (.int .u8 (rd L37_ t166))).drewN nd).setCell ⟨gb155, 4, none⟩ (.int .u64 t170)).heap[gb155]? = some (.cells #[.string (strOfNums ((l0.take ((ji16) : Int).toNat).drop (t157 : Int).toNat)), .int .i64 (wrap64 (t161)), .int .i64 t165, .int .u8 (rd L37_ t166), .int .u64 t170] 26 (0, 0))) := ⟨y41_⟩; have n2_ : Aside0 (Below w.heap.size w (((wc.setCell ⟨gb155, 3, none⟩ (.int .u8 (rd L37_ t166))).drewN nd).setCell ⟨gb155, 4, none⟩ (.int .u64 t170))) := ⟨y7_⟩; (try clear BK154); (try clear BK155); (try clear HB); generalize (((wc.setCell ⟨gb155, 3, none⟩ (.int .u8 (rd L37_ t166))).drewN nd).setCell ⟨gb155, 4, none⟩ (.int .u64 t170)) = w55 at n0_ n1_ n2_ ⊢; have BK154 := n0_; have BK155 := n1_; have HB := n2_; clear n0_ n1_ n2_; (try (rw [drewN_self w55]; generalize hq_ : World.drewN w55 _ = w55; have n0_ : Aside0 (w55.heap[gb154]? = some (.cells #[.string (⟨#[]⟩ : ByteArray), .int .i64 0, .int .i64 0, .int .u8 0, .int .u64 0] 26 (0, 0))) := ⟨by rw [← hq_]; exact y76_⟩; have n1_ : Aside0 (w55.heap[gb155]? = some (.cells #[.string (strOfNums ((l0.take ((ji16) : Int).toNat).drop (t157 : Int).toNat)), .int .i64 (wrap64 (t161)), .int .i64 t165, .int .u8 (rd L37_ t166), .int .u64 t170] 26 (0, 0))) := ⟨by rw [← hq_]; exact y99_⟩; have n2_ : Aside0 (Below w.heap.size w w55) := ⟨by rw [← hq_]; exact y7_⟩; clear BK154 BK155 HB hq_; have BK154 := n0_; have BK155 := n1_; have HB := n2_; clear n0_ n1_ n2_)); replace BK154 := am_ (kg BK154.out); replace BK155 := am_ (kg BK155.out); replace HB := am_ (kK HB.out); refine start_ (n := 16) (S := fun w' => w'.cell? ⟨gb155, 0, none⟩ = some (.string (strOfNums ((l0.take ((ji16) : Int).toNat).drop (t157 : Int).toNat))) ∧ w'.cell? ⟨gb155, 1, none⟩ = some (.int .i64 (wrap64 (t161))) ∧ w'.cell? ⟨gb155, 2, none⟩ = some (.int .i64 t165) ∧ w'.cell? ⟨gb155, 3, none⟩ = some (.int .u8 (rd L37_ t166)) ∧ w'.cell? ⟨gb155, 4, none⟩ = some (.int .u64 t170)) (ds := []) #[false, false, false, false, false, false, false, false, false, false, false, false, false, false, false, false] (by kernel_rfl) rfl rfl ⟨(ka BK155.out 0).trans rfl, (ka BK155.out 1).trans rfl, (ka BK155.out 2).trans rfl, (ka BK155.out 3).trans rfl, (ka BK155.out 4).trans rfl⟩ (fun hHeld => ?_); refine with_tabW token_parse.tab19 token_parse.bits19 (fun HT_ HW_ => ?_); generalize w55.drew = w56 at BK154 BK155 HB hHeld ⊢; refine kz (i := 1) (N := some 95) (v := ?_) (a' := ?_) #[false, true, false, false, false, false, false, false, false, false, false, false, false, false, false, false] rfl rfl (kr HT_.out (by kernel_rfl)) (fun _ _ _ h => h) (Or.inl ⟨by rfl, ?_⟩) ?_ ?_
                      rotate_left; ·intro w'; go_simp; with_reducible rfl
                      rotate_left; ·exact u2_
                      refine kz (i := 2) (N := some 96) (v := ?_) (a' := ?_) #[false, true, true, false, false, false, false, false, false, false, false, false, false, false, false, false] rfl rfl (kr HT_.out (by kernel_rfl)) (fun _ _ _ h => h) (Or.inl ⟨by rfl, ?_⟩) ?_ ?_
                      rotate_left; ·intro w'; go_simp; with_reducible rfl
                      rotate_left; ·exact u2_
                      refine kz (i := 3) (N := some 97) (v := ?_) (a' := ?_) #[false, true, true, true, false, false, false, false, false, false, false, false, false, false, false, false] rfl rfl (kr HT_.out (by kernel_rfl)) (fun _ _ _ h => h) (Or.inl ⟨by rfl, ?_⟩) ?_ ?_
                      rotate_left; ·intro w'; go_simp; with_reducible rfl
                      rotate_left; ·exact u2_
                      refine kz (i := 4) (N := some 98) (v := ?_) (a' := ?_) #[false, true, true, true, true, false, false, false, false, false, false, false, false, false, false, false] rfl rfl (kr HT_.out (by kernel_rfl)) (fun _ _ _ h => h) (Or.inl ⟨by rfl, ?_⟩) ?_ ?_
                      rotate_left; ·intro w'; go_simp; with_reducible rfl
                      rotate_left; ·exact u2_
                      refine kz (i := 5) (N := some 99) (v := ?_) (a' := ?_) #[false, true, true, true, true, true, false, false, false, false, false, false, false, false, false, false] rfl rfl (kr HT_.out (by kernel_rfl)) (fun _ _ _ h => h) (Or.inl ⟨by rfl, ?_⟩) ?_ ?_
                      rotate_left; ·intro w'; go_simp; with_reducible rfl
                      rotate_left; ·exact u2_
                      refine kz (i := 6) (N := some 100) (v := ?_) (a' := ?_) #[false, true, true, true, true, true, true, false, false, false, false, false, false, false, false, false] rfl rfl (kr HT_.out (by kernel_rfl)) (fun _ _ _ h => h) (Or.inl ⟨by rfl, ?_⟩) ?_ ?_
                      rotate_left; ·intro w'; go_simp; with_reducible rfl
                      rotate_left; ·exact u2_
                      refine kz (i := 7) (N := some 101) (v := ?_) (a' := ?_) #[false, true, true, true, true, true, true, true, false, false, false, false, false, false, false, false] rfl rfl (kr HT_.out (by kernel_rfl)) (fun _ _ _ h => h) (Or.inl ⟨by rfl, ?_⟩) ?_ ?_
                      rotate_left; ·intro w'; go_simp; with_reducible rfl
                      rotate_left; ·exact u2_
                      refine kz (i := 8) (N := some 102) (v := ?_) (a' := ?_) #[false, true, true, true, true, true, true, true, true, false, false, false, false, false, false, false] rfl rfl (kr HT_.out (by kernel_rfl)) (fun _ _ _ h => h) (Or.inl ⟨by rfl, ?_⟩) ?_ ?_
                      rotate_left; ·intro w'; go_simp; with_reducible rfl
                      rotate_left; ·exact u2_
                      refine kz (i := 9) (N := some 103) (v := ?_) (a' := ?_) #[false, true, true, true, true, true, true, true, true, true, false, false, false, false, false, false] rfl rfl (kr HT_.out (by kernel_rfl)) (fun _ _ _ h => h) (Or.inl ⟨by rfl, ?_⟩) ?_ ?_
                      rotate_left; ·intro w'; go_simp; with_reducible rfl
                      rotate_left; ·exact u2_
                      refine take_ (i := 0) (N := some 94) (v := ?_) (a' := ?_) #[true, true, true, true, true, true, true, true, true, true, false, false, false, false, false, false] rfl rfl (take_ofW HT_.out HW_.out (by kernel_rfl)) (fun _ _ _ h => h) (Or.inl ⟨by rfl, ?_⟩) hHeld ?_ ?_
                      rotate_left
                      ·rintro w' ⟨s0, s1, s2, s3, s4⟩
                       go_simp
                       with_reducible rfl
                      rotate_left; ·exact u2_
                      refine take_ (i := 10) (N := some 104) (v := ?_) (a' := ?_) #[true, true, true, true, true, true, true, true, true, true, true, false, false, false, false, false] rfl rfl (take_ofW HT_.out HW_.out (by kernel_rfl)) (fun _ _ _ h => h) (Or.inl ⟨by rfl, ?_⟩) hHeld ?_ ?_
                      rotate_left
                      ·rintro w' ⟨s0, s1, s2, s3, s4⟩
                       go_simp
                       with_reducible rfl
                      rotate_left; ·exact u2_
                      refine one_ (i := 11) (N := some 105) #[true, true, true, true, true, true, true, true, true, true, true, true, false, false, false, false] rfl rfl (one_of HT_.out (by kernel_rfl)) (by decide) (fun K hK => ?_); refine goes_ Tryd.func12 (by kernel_rfl) rfl #[.agg #[.string (strOfNums ((l0.take ((ji16) : Int).toNat).drop (t157 : Int).toNat)), .int .i64 (wrap64 (t161)), .int .i64 t165, .int .u8 (rd L37_ t166), .int .u64 t170]] (by rfl) rfl rfl (by (try simp only [List.map_toArray, List.map_cons, List.map_nil]); first | done | (simp only [hji16]; rfl) | rfl | (simp only [List.length_drop, List.length_take]; rfl)) ?_; with_reducible refine (token_Check.calls kj33 (strOfNums ((l0.take ((ji16) : Int).toNat).drop (t157 : Int).toNat)) (wrap64 (t161)) t165 (rd L37_ t166) t170 t173 _ A51.out).mono ?_; rintro e w57 ⟨rfl, hb⟩; refine ⟨_, rfl, ?_⟩; replace BK154 := am_ (ki (g := gb154) (o := .cells #[.string (⟨#[]⟩ : ByteArray), .int .i64 0, .int .i64 0, .int .u8 0, .int .u64 0] 26 (0, 0)) y76_ hb); replace BK155 := am_ (ki (g := gb155) (o := .cells #[.string (strOfNums ((l0.take ((ji16) : Int).toNat).drop (t157 : Int).toNat)), .int .i64 (wrap64 (t161)), .int .i64 t165, .int .u8 (rd L37_ t166), .int .u64 t170] 26 (0, 0)) y99_ hb); replace HB := am_ (ke y7_ hb); (try clear hb); (try clear hb2); (try clear hk); (try clear hi); refine hK.out _ _ ⟨(ka BK155.out 0).trans rfl, (ka BK155.out 1).trans rfl, (ka BK155.out 2).trans rfl, (ka BK155.out 3).trans rfl, (ka BK155.out 4).trans rfl⟩ (fun hHeld => ?_); clear hK K; refine norm_ (a' := ?_) ?_ ?_
                      rotate_left
                      ·show Act.put _ (some 105) _ = _
                       simp only [Act.put, List.setIfInBounds_toArray, List.set_cons_zero, List.set_cons_succ, kT, i32_w]
                       rfl
                      refine kz (i := 12) (N := some 106) (v := ?_) (a' := ?_) #[true, true, true, true, true, true, true, true, true, true, true, true, true, false, false, false] rfl rfl (kr HT_.out (by kernel_rfl)) (fun _ _ _ h => h) (Or.inl ⟨by rfl, ?_⟩) ?_ ?_
                      rotate_left; ·intro w'; go_simp; with_reducible rfl
                      rotate_left; ·exact u2_
                      refine kz (i := 13) (N := some 107) (v := ?_) (a' := ?_) #[true, true, true, true, true, true, true, true, true, true, true, true, true, true, false, false] rfl rfl (kr HT_.out (by kernel_rfl)) (fun _ _ _ h => h) (Or.inl ⟨by rfl, ?_⟩) ?_ ?_
                      rotate_left; ·intro w'; go_simp; with_reducible rfl
                      rotate_left; ·exact u2_
                      refine one_ (i := 14) (N := none) #[true, true, true, true, true, true, true, true, true, true, true, true, true, true, true, false] rfl rfl (one_of HT_.out (by kernel_rfl)) (by decide) (fun K hK => ?_); have hs58 : w57.cell? ⟨gb154, 0, none⟩ = some (.string (⟨#[]⟩ : ByteArray)) := (ka BK154.out 0).trans rfl; have hfs58 := kc BK154.out 0; have hns58_1 := NB155_154.out; have hms58_1 := NB154_155.out; have hs59 : w57.cell? ⟨gb154, 1, none⟩ = some (.int .i64 0) := (ka BK154.out 1).trans rfl; have hfs59 := kc BK154.out 1; have hns59_1 := NB155_154.out; have hms59_1 := NB154_155.out; have hs60 : w57.cell? ⟨gb154, 2, none⟩ = some (.int .i64 0) := (ka BK154.out 2).trans rfl; have hfs60 := kc BK154.out 2; have hns60_1 := NB155_154.out; have hms60_1 := NB154_155.out; have hs61 : w57.cell? ⟨gb154, 3, none⟩ = some (.int .u8 0) := (ka BK154.out 3).trans rfl; have hfs61 := kc BK154.out 3; have hns61_1 := NB155_154.out; have hms61_1 := NB154_155.out; have hs62 : w57.cell? ⟨gb154, 4, none⟩ = some (.int .u64 0) := (ka BK154.out 4).trans rfl; have hfs62 := kc BK154.out 4; have hns62_1 := NB155_154.out; have hms62_1 := NB154_155.out; refine skip_ (w1 := ?_) (by rfl) rfl ?_ ?_
                      rotate_left
                      ·go_simp
                       rfl
                      refine hK.out _ _ ⟨((cell_far (p := ⟨gb154, _, none⟩) NB155_154.out _).trans (((cell_far (p := ⟨gb154, _, none⟩) NB155_154.out _).trans (((cell_far (p := ⟨gb154, _, none⟩) NB155_154.out _).trans (((cell_far (p := ⟨gb154, _, none⟩) NB155_154.out _).trans (((cell_far (p := ⟨gb154, _, none⟩) NB155_154.out _).trans (hHeld.1)))))))))), ((cell_far (p := ⟨gb154, _, none⟩) NB155_154.out _).trans (((cell_far (p := ⟨gb154, _, none⟩) NB155_154.out _).trans (((cell_far (p := ⟨gb154, _, none⟩) NB155_154.out _).trans (((cell_far (p := ⟨gb154, _, none⟩) NB155_154.out _).trans (((cell_far (p := ⟨gb154, _, none⟩) NB155_154.out _).trans (hHeld.2.1)))))))))), ((cell_far (p := ⟨gb154, _, none⟩) NB155_154.out _).trans (((cell_far (p := ⟨gb154, _, none⟩) NB155_154.out _).trans (((cell_far (p := ⟨gb154, _, none⟩) NB155_154.out _).trans (((cell_far (p := ⟨gb154, _, none⟩) NB155_154.out _).trans (((cell_far (p := ⟨gb154, _, none⟩) NB155_154.out _).trans (hHeld.2.2.1)))))))))), ((cell_far (p := ⟨gb154, _, none⟩) NB155_154.out _).trans (((cell_far (p := ⟨gb154, _, none⟩) NB155_154.out _).trans (((cell_far (p := ⟨gb154, _, none⟩) NB155_154.out _).trans (((cell_far (p := ⟨gb154, _, none⟩) NB155_154.out _).trans (((cell_far (p := ⟨gb154, _, none⟩) NB155_154.out _).trans (hHeld.2.2.2.1)))))))))), ((cell_far (p := ⟨gb154, _, none⟩) NB155_154.out _).trans (((cell_far (p := ⟨gb154, _, none⟩) NB155_154.out _).trans (((cell_far (p := ⟨gb154, _, none⟩) NB155_154.out _).trans (((cell_far (p := ⟨gb154, _, none⟩) NB155_154.out _).trans (((cell_far (p := ⟨gb154, _, none⟩) NB155_154.out _).trans (hHeld.2.2.2.2))))))))))⟩ (fun hHeld => ?_); clear hK K; refine kz (i := 15) (N := some 3) (v := ?_) (a' := ?_) #[true, true, true, true, true, true, true, true, true, true, true, true, true, true, true, true] rfl rfl (kr HT_.out (by kernel_rfl)) (fun _ _ _ h => h) (Or.inl ⟨by rfl, ?_⟩) ?_ ?_
                      rotate_left; ·intro w'; go_simp; with_reducible rfl
                      rotate_left; ·exact u2_
                      refine done_ (done_of HT_.out (by kernel_rfl)) ?_
                      try go_wp2
                      refine bodyPost_ret (ku rfl _ _ gb154 26 #[.string (strOfNums ((l0.take ((ji16) : Int).toNat).drop (t157 : Int).toNat)), .int .i64 (wrap64 (t161)), .int .i64 t165, .int .u8 (rd L37_ t166), .int .u64 t170] (0, 0) _ rfl y17_ Tryd.underlying26 rfl (by kernel_rfl)) rfl ?_
                      exact ⟨y95_, y7_⟩
                     ·rw [if_neg c50] at H; have c50b0 : (t171 == ((L37_.drop ((ji45) : Int).toNat).length : Int)) = false := beq_eq_false_iff_ne.mpr c50; have c50b1 : (t171 != ((L37_.drop ((ji45) : Int).toNat).length : Int)) = true := bne_iff_ne.mpr c50; simp only [Option.some.injEq, Prod.mk.injEq] at H; obtain ⟨rfl, rfl, rfl, rfl, rfl, rfl⟩ := H; have p168 : 0 ≤ (t166 : Int) := of_decide_eq_true y4_; have q168 : t166 < (L37_.length : Int) := of_decide_eq_true y4_; obtain ⟨ad168, e168, hx168_0⟩ := Kd.at_int HR164.out t166 p168 q168
                      cases e168
                      replace hx168_0 := (HB.out.cell (World.block_lt_of_cell? w _ hx168_0)).trans hx168_0; replace p168 := eq_true p168; replace q168 := eq_true q168; have hnb63 := NB155_154.out; have hnc63 := NB154_155.out; obtain ⟨hcz64_0, hcz64_1, hcz64_2, hcz64_3, hcz64_4, hfz64_0, hfz64_1, hfz64_2, hfz64_3, hfz64_4⟩ := pd5_ BK155.out; obtain ⟨i065, hi065, _, hsz65, _⟩ := info_parts info5; obtain ⟨A65, hcut65, hA65, hC65⟩ := kL (P := Tryd.prog) (Value.int .u8) 0 45 5 .i64 Tryd.underlying45 hi065 hsz65 (some ad168) ((c0 - (ji16).toNat) - t162.toNat) L37_ (ji45) (of_decide_eq_true y4_) (of_decide_eq_true y4_) HC164.out; obtain ⟨L65_, hL65_⟩ : ∃ L_, L_ = L37_.drop ((ji45) : Int).toNat := ⟨_, rfl⟩; rw [← hL65_] at hcut65 hA65 hC65; (try rw [← hL65_] at HR0); (try rw [← hL65_] at HC0); (try rw [← hL65_] at HB); (try rw [← hL65_] at A2); (try rw [← hL65_] at HC3); (try rw [← hL65_] at n0_); (try rw [← hL65_] at n1_); (try rw [← hL65_] at n2_); (try rw [← hL65_] at n3_); (try rw [← hL65_] at n4_); (try rw [← hL65_] at n5_); (try rw [← hL65_] at n6_); (try rw [← hL65_] at c8); (try rw [← hL65_] at c8b0); (try rw [← hL65_] at c8b1); (try rw [← hL65_] at c9); (try rw [← hL65_] at c13); (try rw [← hL65_] at c13b0); (try rw [← hL65_] at c13b1); (try rw [← hL65_] at c14); (try rw [← hL65_] at c14b0); (try rw [← hL65_] at c14b1); (try rw [← hL65_] at c15); (try rw [← hL65_] at c15b0); (try rw [← hL65_] at c15b1); (try rw [← hL65_] at c17); (try rw [← hL65_] at c17b0); (try rw [← hL65_] at c17b1); (try rw [← hL65_] at c18b0); (try rw [← hL65_] at A19); (try rw [← hL65_] at HC20); (try rw [← hL65_] at HR159); (try rw [← hL65_] at HC159); (try rw [← hL65_] at HR160); (try rw [← hL65_] at HC160); (try rw [← hL65_] at c26); (try rw [← hL65_] at c26b0); (try rw [← hL65_] at c26b1); (try rw [← hL65_] at c27); (try rw [← hL65_] at c31); (try rw [← hL65_] at c31b0); (try rw [← hL65_] at c31b1); (try rw [← hL65_] at c32); (try rw [← hL65_] at c32b0); (try rw [← hL65_] at c32b1); (try rw [← hL65_] at A33); (try rw [← hL65_] at HC34); (try rw [← hL65_] at HR164); (try rw [← hL65_] at HC164); (try rw [← hL65_] at c38); (try rw [← hL65_] at c38b0); (try rw [← hL65_] at c38b1); (try rw [← hL65_] at c39); (try rw [← hL65_] at c43); (try rw [← hL65_] at c43b0); (try rw [← hL65_] at c44); (try rw [← hL65_] at c44b0); (try rw [← hL65_] at c46); (try rw [← hL65_] at c46b0); (try rw [← hL65_] at c46b1); (try rw [← hL65_] at c47); (try rw [← hL65_] at c47b0); (try rw [← hL65_] at c47b1); (try rw [← hL65_] at A48); (try rw [← hL65_] at c49); (try rw [← hL65_] at c49b0); (try rw [← hL65_] at c49b1); (try rw [← hL65_] at c50); (try rw [← hL65_] at c50b0); (try rw [← hL65_] at c50b1); (try rw [← hL65_] at A51); (try rw [← hL65_] at HR169); (try rw [← hL65_] at HC169); clear hL65_; have HR169 := am_ (Kd.C_of_reads (h1 := fun _ => rfl) (hA65 _ (Kd.reads_of_C HR164.out))); have HC169 := Aside0.mk hC65; clear hA65 hC65 hi065 hsz65
                      try go_wp2_with (first | ((with_reducible refine kj (f := 57) rfl ?_); refine kw (some 89) rfl rfl Tryd.func57 (by kernel_rfl) rfl #[.slice A65 L65_.length (((c0 - (ji16).toNat) - t162.toNat) - (ji45).toNat)] rfl (by (try simp only [List.map_toArray, List.map_cons, List.map_nil]); first | done | (rw [show L65_.length = (L37_.length - (ji45).toNat) from List.length_drop] <;> rfl) | (simp only [hji16, hji45]; rfl) | rfl | (simp only [List.length_drop, List.length_take]; rfl)) ?_; (with_reducible refine (bits_Uvarint.calls kj33 _ _ L65_ t170 t171 t172 _ ?side1 ?side2 A48.out).mono ?_); (case side1 => exact Kd.C_below HR169.out y7_); (case side2 => exact HC169.out); rintro e w' ⟨rfl, ⟨nd, rfl⟩⟩; refine ⟨_, rfl, ?_⟩))
                      have n0_ : Aside0 ((((wc.setCell ⟨gb155, 3, none⟩ (.int .u8 (rd L37_ t166))).drewN nd).setCell ⟨gb155, 4, none⟩ (.int .u64 t170)).heap[gb154]? = some (.cells #[.string (⟨#[]⟩ : ByteArray), .int .i64 0, .int .i64 0, .int .u8 0, .int .u64 0] 26 (0, 0))) := ⟨y37_⟩; have n1_ : Aside0 ((((wc.setCell ⟨gb155, 3, none⟩ (.int .u8 (rd L37_ t166))).drewN nd).setCell ⟨gb155, 4, none⟩ (.int .u64 t170)).heap[gb155]? = some (.cells #[.string (strOfNums ((l0.take ((ji16) : Int).toNat).drop (t157 : Int).toNat)), .int .i64 (wrap64 (t161)), .int .i64 t165, .int .u8 (rd L37_ t166), .int .u64 t170] 26 (0, 0))) := ⟨y41_⟩; have n2_ : Aside0 (Below w.heap.size w (((wc.setCell ⟨gb155, 3, none⟩ (.int .u8 (rd L37_ t166))).drewN nd).setCell ⟨gb155, 4, none⟩ (.int .u64 t170))) := ⟨y7_⟩; (try clear BK154); (try clear BK155); (try clear HB); generalize (((wc.setCell ⟨gb155, 3, none⟩ (.int .u8 (rd L37_ t166))).drewN nd).setCell ⟨gb155, 4, none⟩ (.int .u64 t170)) = w66 at n0_ n1_ n2_ ⊢; have BK154 := n0_; have BK155 := n1_; have HB := n2_; clear n0_ n1_ n2_; (try (rw [drewN_self w66]; generalize hq_ : World.drewN w66 _ = w66; have n0_ : Aside0 (w66.heap[gb154]? = some (.cells #[.string (⟨#[]⟩ : ByteArray), .int .i64 0, .int .i64 0, .int .u8 0, .int .u64 0] 26 (0, 0))) := ⟨by rw [← hq_]; exact y76_⟩; have n1_ : Aside0 (w66.heap[gb155]? = some (.cells #[.string (strOfNums ((l0.take ((ji16) : Int).toNat).drop (t157 : Int).toNat)), .int .i64 (wrap64 (t161)), .int .i64 t165, .int .u8 (rd L37_ t166), .int .u64 t170] 26 (0, 0))) := ⟨by rw [← hq_]; exact y99_⟩; have n2_ : Aside0 (Below w.heap.size w w66) := ⟨by rw [← hq_]; exact y7_⟩; clear BK154 BK155 HB hq_; have BK154 := n0_; have BK155 := n1_; have HB := n2_; clear n0_ n1_ n2_)); replace BK154 := am_ (kg BK154.out); replace BK155 := am_ (kg BK155.out); replace HB := am_ (kK HB.out); refine start_ (n := 16) (S := fun w' => w'.cell? ⟨gb155, 0, none⟩ = some (.string (strOfNums ((l0.take ((ji16) : Int).toNat).drop (t157 : Int).toNat))) ∧ w'.cell? ⟨gb155, 1, none⟩ = some (.int .i64 (wrap64 (t161))) ∧ w'.cell? ⟨gb155, 2, none⟩ = some (.int .i64 t165) ∧ w'.cell? ⟨gb155, 3, none⟩ = some (.int .u8 (rd L37_ t166)) ∧ w'.cell? ⟨gb155, 4, none⟩ = some (.int .u64 t170)) (ds := []) #[false, false, false, false, false, false, false, false, false, false, false, false, false, false, false, false] (by kernel_rfl) rfl rfl ⟨(ka BK155.out 0).trans rfl, (ka BK155.out 1).trans rfl, (ka BK155.out 2).trans rfl, (ka BK155.out 3).trans rfl, (ka BK155.out 4).trans rfl⟩ (fun hHeld => ?_); refine with_tabW token_parse.tab19 token_parse.bits19 (fun HT_ HW_ => ?_); generalize w66.drew = w67 at BK154 BK155 HB hHeld ⊢; refine kz (i := 1) (N := some 95) (v := ?_) (a' := ?_) #[false, true, false, false, false, false, false, false, false, false, false, false, false, false, false, false] rfl rfl (kr HT_.out (by kernel_rfl)) (fun _ _ _ h => h) (Or.inl ⟨by rfl, ?_⟩) ?_ ?_
                      rotate_left; ·intro w'; go_simp; with_reducible rfl
                      rotate_left; ·exact u2_
                      refine kz (i := 2) (N := some 96) (v := ?_) (a' := ?_) #[false, true, true, false, false, false, false, false, false, false, false, false, false, false, false, false] rfl rfl (kr HT_.out (by kernel_rfl)) (fun _ _ _ h => h) (Or.inl ⟨by rfl, ?_⟩) ?_ ?_
                      rotate_left; ·intro w'; go_simp; with_reducible rfl
                      rotate_left; ·exact u2_
                      refine kz (i := 3) (N := some 97) (v := ?_) (a' := ?_) #[false, true, true, true, false, false, false, false, false, false, false, false, false, false, false, false] rfl rfl (kr HT_.out (by kernel_rfl)) (fun _ _ _ h => h) (Or.inl ⟨by rfl, ?_⟩) ?_ ?_
                      rotate_left; ·intro w'; go_simp; with_reducible rfl
                      rotate_left; ·exact u2_
                      refine kz (i := 4) (N := some 98) (v := ?_) (a' := ?_) #[false, true, true, true, true, false, false, false, false, false, false, false, false, false, false, false] rfl rfl (kr HT_.out (by kernel_rfl)) (fun _ _ _ h => h) (Or.inl ⟨by rfl, ?_⟩) ?_ ?_
                      rotate_left; ·intro w'; go_simp; with_reducible rfl
                      rotate_left; ·exact u2_
                      refine kz (i := 5) (N := some 99) (v := ?_) (a' := ?_) #[false, true, true, true, true, true, false, false, false, false, false, false, false, false, false, false] rfl rfl (kr HT_.out (by kernel_rfl)) (fun _ _ _ h => h) (Or.inl ⟨by rfl, ?_⟩) ?_ ?_
                      rotate_left; ·intro w'; go_simp; with_reducible rfl
                      rotate_left; ·exact u2_
                      refine kz (i := 6) (N := some 100) (v := ?_) (a' := ?_) #[false, true, true, true, true, true, true, false, false, false, false, false, false, false, false, false] rfl rfl (kr HT_.out (by kernel_rfl)) (fun _ _ _ h => h) (Or.inl ⟨by rfl, ?_⟩) ?_ ?_
                      rotate_left; ·intro w'; go_simp; with_reducible rfl
                      rotate_left; ·exact u2_
                      refine kz (i := 7) (N := some 101) (v := ?_) (a' := ?_) #[false, true, true, true, true, true, true, true, false, false, false, false, false, false, false, false] rfl rfl (kr HT_.out (by kernel_rfl)) (fun _ _ _ h => h) (Or.inl ⟨by rfl, ?_⟩) ?_ ?_
                      rotate_left; ·intro w'; go_simp; with_reducible rfl
                      rotate_left; ·exact u2_
                      refine kz (i := 8) (N := some 102) (v := ?_) (a' := ?_) #[false, true, true, true, true, true, true, true, true, false, false, false, false, false, false, false] rfl rfl (kr HT_.out (by kernel_rfl)) (fun _ _ _ h => h) (Or.inl ⟨by rfl, ?_⟩) ?_ ?_
                      rotate_left; ·intro w'; go_simp; with_reducible rfl
                      rotate_left; ·exact u2_
                      refine kz (i := 9) (N := some 103) (v := ?_) (a' := ?_) #[false, true, true, true, true, true, true, true, true, true, false, false, false, false, false, false] rfl rfl (kr HT_.out (by kernel_rfl)) (fun _ _ _ h => h) (Or.inl ⟨by rfl, ?_⟩) ?_ ?_
                      rotate_left; ·intro w'; go_simp; with_reducible rfl
                      rotate_left; ·exact u2_
                      refine kz (i := 10) (N := some 104) (v := undef) (a' := ?_) #[false, true, true, true, true, true, true, true, true, true, true, false, false, false, false, false] rfl rfl (kr HT_.out (by kernel_rfl)) (fun _ _ _ h => h) (Or.inr ⟨by rfl, rfl⟩) ?_ ?_
                      rotate_left; ·exact u2_
                      refine kz (i := 11) (N := some 105) (v := undef) (a' := ?_) #[false, true, true, true, true, true, true, true, true, true, true, true, false, false, false, false] rfl rfl (kr HT_.out (by kernel_rfl)) (fun _ _ _ h => h) (Or.inr ⟨by rfl, rfl⟩) ?_ ?_
                      rotate_left; ·exact u2_
                      refine kz (i := 12) (N := some 106) (v := undef) (a' := ?_) #[false, true, true, true, true, true, true, true, true, true, true, true, true, false, false, false] rfl rfl (kr HT_.out (by kernel_rfl)) (fun _ _ _ h => h) (Or.inr ⟨by rfl, rfl⟩) ?_ ?_
                      rotate_left; ·exact u2_
                      refine kz (i := 13) (N := some 107) (v := ?_) (a' := ?_) #[false, true, true, true, true, true, true, true, true, true, true, true, true, true, false, false] rfl rfl (kr HT_.out (by kernel_rfl)) (fun _ _ _ h => h) (Or.inl ⟨by rfl, ?_⟩) ?_ ?_
                      rotate_left; ·intro w'; go_simp; with_reducible rfl
                      rotate_left; ·exact u2_
                      refine take_ (i := 0) (N := some 94) (v := ?_) (a' := ?_) #[true, true, true, true, true, true, true, true, true, true, true, true, true, true, false, false] rfl rfl (take_ofW HT_.out HW_.out (by kernel_rfl)) (fun _ _ _ h => h) (Or.inl ⟨by rfl, ?_⟩) hHeld ?_ ?_
                      rotate_left
                      ·rintro w' ⟨s0, s1, s2, s3, s4⟩
                       go_simp
                       with_reducible rfl
                      rotate_left; ·exact u2_
                      refine one_ (i := 14) (N := none) #[true, true, true, true, true, true, true, true, true, true, true, true, true, true, true, false] rfl rfl (one_of HT_.out (by kernel_rfl)) (by decide) (fun K hK => ?_); have hs68 : w67.cell? ⟨gb154, 0, none⟩ = some (.string (⟨#[]⟩ : ByteArray)) := (ka BK154.out 0).trans rfl; have hfs68 := kc BK154.out 0; have hns68_1 := NB155_154.out; have hms68_1 := NB154_155.out; have hs69 : w67.cell? ⟨gb154, 1, none⟩ = some (.int .i64 0) := (ka BK154.out 1).trans rfl; have hfs69 := kc BK154.out 1; have hns69_1 := NB155_154.out; have hms69_1 := NB154_155.out; have hs70 : w67.cell? ⟨gb154, 2, none⟩ = some (.int .i64 0) := (ka BK154.out 2).trans rfl; have hfs70 := kc BK154.out 2; have hns70_1 := NB155_154.out; have hms70_1 := NB154_155.out; have hs71 : w67.cell? ⟨gb154, 3, none⟩ = some (.int .u8 0) := (ka BK154.out 3).trans rfl; have hfs71 := kc BK154.out 3; have hns71_1 := NB155_154.out; have hms71_1 := NB154_155.out; have hs72 : w67.cell? ⟨gb154, 4, none⟩ = some (.int .u64 0) := (ka BK154.out 4).trans rfl; have hfs72 := kc BK154.out 4; have hns72_1 := NB155_154.out; have hms72_1 := NB154_155.out; refine skip_ (w1 := ?_) (by rfl) rfl ?_ ?_
                      rotate_left
                      ·go_simp
                       rfl
                      refine hK.out _ _ ⟨((cell_far (p := ⟨gb154, _, none⟩) NB155_154.out _).trans (((cell_far (p := ⟨gb154, _, none⟩) NB155_154.out _).trans (((cell_far (p := ⟨gb154, _, none⟩) NB155_154.out _).trans (((cell_far (p := ⟨gb154, _, none⟩) NB155_154.out _).trans (((cell_far (p := ⟨gb154, _, none⟩) NB155_154.out _).trans (hHeld.1)))))))))), ((cell_far (p := ⟨gb154, _, none⟩) NB155_154.out _).trans (((cell_far (p := ⟨gb154, _, none⟩) NB155_154.out _).trans (((cell_far (p := ⟨gb154, _, none⟩) NB155_154.out _).trans (((cell_far (p := ⟨gb154, _, none⟩) NB155_154.out _).trans (((cell_far (p := ⟨gb154, _, none⟩) NB155_154.out _).trans (hHeld.2.1)))))))))), ((cell_far (p := ⟨gb154, _, none⟩) NB155_154.out _).trans (((cell_far (p := ⟨gb154, _, none⟩) NB155_154.out _).trans (((cell_far (p := ⟨gb154, _, none⟩) NB155_154.out _).trans (((cell_far (p := ⟨gb154, _, none⟩) NB155_154.out _).trans (((cell_far (p := ⟨gb154, _, none⟩) NB155_154.out _).trans (hHeld.2.2.1)))))))))), ((cell_far (p := ⟨gb154, _, none⟩) NB155_154.out _).trans (((cell_far (p := ⟨gb154, _, none⟩) NB155_154.out _).trans (((cell_far (p := ⟨gb154, _, none⟩) NB155_154.out _).trans (((cell_far (p := ⟨gb154, _, none⟩) NB155_154.out _).trans (((cell_far (p := ⟨gb154, _, none⟩) NB155_154.out _).trans (hHeld.2.2.2.1)))))))))), ((cell_far (p := ⟨gb154, _, none⟩) NB155_154.out _).trans (((cell_far (p := ⟨gb154, _, none⟩) NB155_154.out _).trans (((cell_far (p := ⟨gb154, _, none⟩) NB155_154.out _).trans (((cell_far (p := ⟨gb154, _, none⟩) NB155_154.out _).trans (((cell_far (p := ⟨gb154, _, none⟩) NB155_154.out _).trans (hHeld.2.2.2.2))))))))))⟩ (fun hHeld => ?_); clear hK K; refine kz (i := 15) (N := some 3) (v := ?_) (a' := ?_) #[true, true, true, true, true, true, true, true, true, true, true, true, true, true, true, true] rfl rfl (kr HT_.out (by kernel_rfl)) (fun _ _ _ h => h) (Or.inl ⟨by rfl, ?_⟩) ?_ ?_
                      rotate_left; ·intro w'; go_simp; with_reducible rfl
                      rotate_left; ·exact u2_
                      refine done_ (done_of HT_.out (by kernel_rfl)) ?_
                      try go_wp2
                      refine bodyPost_ret (ku rfl _ _ gb154 26 #[.string (strOfNums ((l0.take ((ji16) : Int).toNat).drop (t157 : Int).toNat)), .int .i64 (wrap64 (t161)), .int .i64 t165, .int .u8 (rd L37_ t166), .int .u64 t170] (0, 0) _ rfl y17_ Tryd.underlying26 rfl (by kernel_rfl)) rfl ?_
                      exact ⟨y95_, y7_⟩
                    ·rw [if_neg c49] at H; have c49b0 : (t172 == 0) = false := beq_eq_false_iff_ne.mpr c49; have c49b1 : (t172 != 0) = true := bne_iff_ne.mpr c49; simp only [Option.some.injEq, Prod.mk.injEq] at H; obtain ⟨rfl, rfl, rfl, rfl, rfl, rfl⟩ := H; have p168 : 0 ≤ (t166 : Int) := of_decide_eq_true y4_; have q168 : t166 < (L37_.length : Int) := of_decide_eq_true y4_; obtain ⟨ad168, e168, hx168_0⟩ := Kd.at_int HR164.out t166 p168 q168
                     cases e168
                     replace hx168_0 := (HB.out.cell (World.block_lt_of_cell? w _ hx168_0)).trans hx168_0; replace p168 := eq_true p168; replace q168 := eq_true q168; have hnb73 := NB155_154.out; have hnc73 := NB154_155.out; obtain ⟨hcz74_0, hcz74_1, hcz74_2, hcz74_3, hcz74_4, hfz74_0, hfz74_1, hfz74_2, hfz74_3, hfz74_4⟩ := pd5_ BK155.out; obtain ⟨i075, hi075, _, hsz75, _⟩ := info_parts info5; obtain ⟨A75, hcut75, hA75, hC75⟩ := kL (P := Tryd.prog) (Value.int .u8) 0 45 5 .i64 Tryd.underlying45 hi075 hsz75 (some ad168) ((c0 - (ji16).toNat) - t162.toNat) L37_ (ji45) (of_decide_eq_true y4_) (of_decide_eq_true y4_) HC164.out; obtain ⟨L75_, hL75_⟩ : ∃ L_, L_ = L37_.drop ((ji45) : Int).toNat := ⟨_, rfl⟩; rw [← hL75_] at hcut75 hA75 hC75; (try rw [← hL75_] at c18b0); (try rw [← hL75_] at A19); (try rw [← hL75_] at HC20); (try rw [← hL75_] at HR159); (try rw [← hL75_] at HC159); (try rw [← hL75_] at HR160); (try rw [← hL75_] at HC160); (try rw [← hL75_] at c26); (try rw [← hL75_] at c26b0); (try rw [← hL75_] at c26b1); (try rw [← hL75_] at c27); (try rw [← hL75_] at c31); (try rw [← hL75_] at c31b0); (try rw [← hL75_] at c31b1); (try rw [← hL75_] at c32); (try rw [← hL75_] at c32b0); (try rw [← hL75_] at c32b1); (try rw [← hL75_] at A33); (try rw [← hL75_] at HC34); (try rw [← hL75_] at HR164); (try rw [← hL75_] at HC164); (try rw [← hL75_] at c38); (try rw [← hL75_] at c38b0); (try rw [← hL75_] at c38b1); (try rw [← hL75_] at c39); (try rw [← hL75_] at c43); (try rw [← hL75_] at c43b0); (try rw [← hL75_] at c44); (try rw [← hL75_] at c44b0); (try rw [← hL75_] at c46); (try rw [← hL75_] at c46b0); (try rw [← hL75_] at c46b1); (try rw [← hL75_] at c47); (try rw [← hL75_] at c47b0); (try rw [← hL75_] at c47b1); (try rw [← hL75_] at A48); (try rw [← hL75_] at c49); (try rw [← hL75_] at c49b0); (try rw [← hL75_] at c49b1); (try rw [← hL75_] at c50); (try rw [← hL75_] at c50b0); (try rw [← hL75_] at c50b1); (try rw [← hL75_] at A51); (try rw [← hL75_] at HR169); (try rw [← hL75_] at HC169); (try rw [← hL75_] at n0_); (try rw [← hL75_] at n1_); (try rw [← hL75_] at n2_); clear hL75_; have HR169 := am_ (Kd.C_of_reads (h1 := fun _ => rfl) (hA75 _ (Kd.reads_of_C HR164.out))); have HC169 := Aside0.mk hC75; clear hA75 hC75 hi075 hsz75
                     try go_wp2_with (first | ((with_reducible refine kj (f := 57) rfl ?_); refine kw (some 89) rfl rfl Tryd.func57 (by kernel_rfl) rfl #[.slice A75 L75_.length (((c0 - (ji16).toNat) - t162.toNat) - (ji45).toNat)] rfl (by (try simp only [List.map_toArray, List.map_cons, List.map_nil]); first | done | (rw [show L75_.length = (L37_.length - (ji45).toNat) from List.length_drop] <;> rfl) | (simp only [hji16, hji45]; rfl) | rfl | (simp only [List.length_drop, List.length_take]; rfl)) ?_; (with_reducible refine (bits_Uvarint.calls kj33 _ _ L75_ t170 t171 t172 _ ?side1 ?side2 A48.out).mono ?_); (case side1 => exact Kd.C_below HR169.out y7_); (case side2 => exact HC169.out); rintro e w' ⟨rfl, ⟨nd, rfl⟩⟩; refine ⟨_, rfl, ?_⟩))
                     have n0_ : Aside0 ((((wc.setCell ⟨gb155, 3, none⟩ (.int .u8 (rd L37_ t166))).drewN nd).setCell ⟨gb155, 4, none⟩ (.int .u64 t170)).heap[gb154]? = some (.cells #[.string (⟨#[]⟩ : ByteArray), .int .i64 0, .int .i64 0, .int .u8 0, .int .u64 0] 26 (0, 0))) := ⟨y37_⟩; have n1_ : Aside0 ((((wc.setCell ⟨gb155, 3, none⟩ (.int .u8 (rd L37_ t166))).drewN nd).setCell ⟨gb155, 4, none⟩ (.int .u64 t170)).heap[gb155]? = some (.cells #[.string (strOfNums ((l0.take ((ji16) : Int).toNat).drop (t157 : Int).toNat)), .int .i64 (wrap64 (t161)), .int .i64 t165, .int .u8 (rd L37_ t166), .int .u64 t170] 26 (0, 0))) := ⟨y41_⟩; have n2_ : Aside0 (Below w.heap.size w (((wc.setCell ⟨gb155, 3, none⟩ (.int .u8 (rd L37_ t166))).drewN nd).setCell ⟨gb155, 4, none⟩ (.int .u64 t170))) := ⟨y7_⟩; (try clear BK154); (try clear BK155); (try clear HB); generalize (((wc.setCell ⟨gb155, 3, none⟩ (.int .u8 (rd L37_ t166))).drewN nd).setCell ⟨gb155, 4, none⟩ (.int .u64 t170)) = w76 at n0_ n1_ n2_ ⊢; have BK154 := n0_; have BK155 := n1_; have HB := n2_; clear n0_ n1_ n2_; (try (rw [drewN_self w76]; generalize hq_ : World.drewN w76 _ = w76; have n0_ : Aside0 (w76.heap[gb154]? = some (.cells #[.string (⟨#[]⟩ : ByteArray), .int .i64 0, .int .i64 0, .int .u8 0, .int .u64 0] 26 (0, 0))) := ⟨by rw [← hq_]; exact y76_⟩; have n1_ : Aside0 (w76.heap[gb155]? = some (.cells #[.string (strOfNums ((l0.take ((ji16) : Int).toNat).drop (t157 : Int).toNat)), .int .i64 (wrap64 (t161)), .int .i64 t165, .int .u8 (rd L37_ t166), .int .u64 t170] 26 (0, 0))) := ⟨by rw [← hq_]; exact y99_⟩; have n2_ : Aside0 (Below w.heap.size w w76) := ⟨by rw [← hq_]; exact y7_⟩; clear BK154 BK155 HB hq_; have BK154 := n0_; have BK155 := n1_; have HB := n2_; clear n0_ n1_ n2_)); replace BK154 := am_ (kg BK154.out); replace BK155 := am_ (kg BK155.out); replace HB := am_ (kK HB.out); refine start_ (n := 16) (S := fun w' => w'.cell? ⟨gb155, 0, none⟩ = some (.string (strOfNums ((l0.take ((ji16) : Int).toNat).drop (t157 : Int).toNat))) ∧ w'.cell? ⟨gb155, 1, none⟩ = some (.int .i64 (wrap64 (t161))) ∧ w'.cell? ⟨gb155, 2, none⟩ = some (.int .i64 t165) ∧ w'.cell? ⟨gb155, 3, none⟩ = some (.int .u8 (rd L37_ t166)) ∧ w'.cell? ⟨gb155, 4, none⟩ = some (.int .u64 t170)) (ds := []) #[false, false, false, false, false, false, false, false, false, false, false, false, false, false, false, false] (by kernel_rfl) rfl rfl ⟨(ka BK155.out 0).trans rfl, (ka BK155.out 1).trans rfl, (ka BK155.out 2).trans rfl, (ka BK155.out 3).trans rfl, (ka BK155.out 4).trans rfl⟩ (fun hHeld => ?_); refine with_tabW token_parse.tab19 token_parse.bits19 (fun HT_ HW_ => ?_); generalize w76.drew = w77 at BK154 BK155 HB hHeld ⊢; refine kz (i := 1) (N := some 95) (v := ?_) (a' := ?_) #[false, true, false, false, false, false, false, false, false, false, false, false, false, false, false, false] rfl rfl (kr HT_.out (by kernel_rfl)) (fun _ _ _ h => h) (Or.inl ⟨by rfl, ?_⟩) ?_ ?_
                     rotate_left; ·intro w'; go_simp; with_reducible rfl
                     rotate_left; ·exact u2_
                     refine kz (i := 2) (N := some 96) (v := ?_) (a' := ?_) #[false, true, true, false, false, false, false, false, false, false, false, false, false, false, false, false] rfl rfl (kr HT_.out (by kernel_rfl)) (fun _ _ _ h => h) (Or.inl ⟨by rfl, ?_⟩) ?_ ?_
                     rotate_left; ·intro w'; go_simp; with_reducible rfl
                     rotate_left; ·exact u2_
                     refine kz (i := 3) (N := some 97) (v := ?_) (a' := ?_) #[false, true, true, true, false, false, false, false, false, false, false, false, false, false, false, false] rfl rfl (kr HT_.out (by kernel_rfl)) (fun _ _ _ h => h) (Or.inl ⟨by rfl, ?_⟩) ?_ ?_
                     rotate_left; ·intro w'; go_simp; with_reducible rfl
                     rotate_left; ·exact u2_
                     refine kz (i := 4) (N := some 98) (v := undef) (a' := ?_) #[false, true, true, true, true, false, false, false, false, false, false, false, false, false, false, false] rfl rfl (kr HT_.out (by kernel_rfl)) (fun _ _ _ h => h) (Or.inr ⟨by rfl, rfl⟩) ?_ ?_
                     rotate_left; ·exact u2_
                     refine kz (i := 5) (N := some 99) (v := undef) (a' := ?_) #[false, true, true, true, true, true, false, false, false, false, false, false, false, false, false, false] rfl rfl (kr HT_.out (by kernel_rfl)) (fun _ _ _ h => h) (Or.inr ⟨by rfl, rfl⟩) ?_ ?_
                     rotate_left; ·exact u2_
                     refine kz (i := 6) (N := some 100) (v := undef) (a' := ?_) #[false, true, true, true, true, true, true, false, false, false, false, false, false, false, false, false] rfl rfl (kr HT_.out (by kernel_rfl)) (fun _ _ _ h => h) (Or.inr ⟨by rfl, rfl⟩) ?_ ?_
                     rotate_left; ·exact u2_
                     refine kz (i := 7) (N := some 101) (v := undef) (a' := ?_) #[false, true, true, true, true, true, true, true, false, false, false, false, false, false, false, false] rfl rfl (kr HT_.out (by kernel_rfl)) (fun _ _ _ h => h) (Or.inr ⟨by rfl, rfl⟩) ?_ ?_
                     rotate_left; ·exact u2_
                     refine kz (i := 8) (N := some 102) (v := ?_) (a' := ?_) #[false, true, true, true, true, true, true, true, true, false, false, false, false, false, false, false] rfl rfl (kr HT_.out (by kernel_rfl)) (fun _ _ _ h => h) (Or.inl ⟨by rfl, ?_⟩) ?_ ?_
                     rotate_left; ·intro w'; go_simp; with_reducible rfl
                     rotate_left; ·exact u2_
                     refine kz (i := 9) (N := some 103) (v := ?_) (a' := ?_) #[false, true, true, true, true, true, true, true, true, true, false, false, false, false, false, false] rfl rfl (kr HT_.out (by kernel_rfl)) (fun _ _ _ h => h) (Or.inl ⟨by rfl, ?_⟩) ?_ ?_
                     rotate_left; ·intro w'; go_simp; with_reducible rfl
                     rotate_left; ·exact u2_
                     refine kz (i := 10) (N := some 104) (v := undef) (a' := ?_) #[false, true, true, true, true, true, true, true, true, true, true, false, false, false, false, false] rfl rfl (kr HT_.out (by kernel_rfl)) (fun _ _ _ h => h) (Or.inr ⟨by rfl, rfl⟩) ?_ ?_
                     rotate_left; ·exact u2_
                     refine kz (i := 11) (N := some 105) (v := undef) (a' := ?_) #[false, true, true, true, true, true, true, true, true, true, true, true, false, false, false, false] rfl rfl (kr HT_.out (by kernel_rfl)) (fun _ _ _ h => h) (Or.inr ⟨by rfl, rfl⟩) ?_ ?_
                     rotate_left; ·exact u2_
                     refine kz (i := 12) (N := some 106) (v := undef) (a' := ?_) #[false, true, true, true, true, true, true, true, true, true, true, true, true, false, false, false] rfl rfl (kr HT_.out (by kernel_rfl)) (fun _ _ _ h => h) (Or.inr ⟨by rfl, rfl⟩) ?_ ?_
                     rotate_left; ·exact u2_
                     refine kz (i := 13) (N := some 107) (v := ?_) (a' := ?_) #[false, true, true, true, true, true, true, true, true, true, true, true, true, true, false, false] rfl rfl (kr HT_.out (by kernel_rfl)) (fun _ _ _ h => h) (Or.inl ⟨by rfl, ?_⟩) ?_ ?_
                     rotate_left; ·intro w'; go_simp; with_reducible rfl
                     rotate_left; ·exact u2_
                     refine take_ (i := 0) (N := some 94) (v := ?_) (a' := ?_) #[true, true, true, true, true, true, true, true, true, true, true, true, true, true, false, false] rfl rfl (take_ofW HT_.out HW_.out (by kernel_rfl)) (fun _ _ _ h => h) (Or.inl ⟨by rfl, ?_⟩) hHeld ?_ ?_
                     rotate_left
                     ·rintro w' ⟨s0, s1, s2, s3, s4⟩
                      go_simp
                      with_reducible rfl
                     rotate_left; ·exact u2_
                     refine one_ (i := 14) (N := none) #[true, true, true, true, true, true, true, true, true, true, true, true, true, true, true, false] rfl rfl (one_of HT_.out (by kernel_rfl)) (by decide) (fun K hK => ?_); have hs78 : w77.cell? ⟨gb154, 0, none⟩ = some (.string (⟨#[]⟩ : ByteArray)) := (ka BK154.out 0).trans rfl; have hfs78 := kc BK154.out 0; have hns78_1 := NB155_154.out; have hms78_1 := NB154_155.out; have hs79 : w77.cell? ⟨gb154, 1, none⟩ = some (.int .i64 0) := (ka BK154.out 1).trans rfl; have hfs79 := kc BK154.out 1; have hns79_1 := NB155_154.out; have hms79_1 := NB154_155.out; have hs80 : w77.cell? ⟨gb154, 2, none⟩ = some (.int .i64 0) := (ka BK154.out 2).trans rfl; have hfs80 := kc BK154.out 2; have hns80_1 := NB155_154.out; have hms80_1 := NB154_155.out; have hs81 : w77.cell? ⟨gb154, 3, none⟩ = some (.int .u8 0) := (ka BK154.out 3).trans rfl; have hfs81 := kc BK154.out 3; have hns81_1 := NB155_154.out; have hms81_1 := NB154_155.out; have hs82 : w77.cell? ⟨gb154, 4, none⟩ = some (.int .u64 0) := (ka BK154.out 4).trans rfl; have hfs82 := kc BK154.out 4; have hns82_1 := NB155_154.out; have hms82_1 := NB154_155.out; refine skip_ (w1 := ?_) (by rfl) rfl ?_ ?_
                     rotate_left
                     ·go_simp
                      rfl
                     refine hK.out _ _ ⟨((cell_far (p := ⟨gb154, _, none⟩) NB155_154.out _).trans (((cell_far (p := ⟨gb154, _, none⟩) NB155_154.out _).trans (((cell_far (p := ⟨gb154, _, none⟩) NB155_154.out _).trans (((cell_far (p := ⟨gb154, _, none⟩) NB155_154.out _).trans (((cell_far (p := ⟨gb154, _, none⟩) NB155_154.out _).trans (hHeld.1)))))))))), ((cell_far (p := ⟨gb154, _, none⟩) NB155_154.out _).trans (((cell_far (p := ⟨gb154, _, none⟩) NB155_154.out _).trans (((cell_far (p := ⟨gb154, _, none⟩) NB155_154.out _).trans (((cell_far (p := ⟨gb154, _, none⟩) NB155_154.out _).trans (((cell_far (p := ⟨gb154, _, none⟩) NB155_154.out _).trans (hHeld.2.1)))))))))), ((cell_far (p := ⟨gb154, _, none⟩) NB155_154.out _).trans (((cell_far (p := ⟨gb154, _, none⟩) NB155_154.out _).trans (((cell_far (p := ⟨gb154, _, none⟩) NB155_154.out _).trans (((cell_far (p := ⟨gb154, _, none⟩) NB155_154.out _).trans (((cell_far (p := ⟨gb154, _, none⟩) NB155_154.out _).trans (hHeld.2.2.1)))))))))), ((cell_far (p := ⟨gb154, _, none⟩) NB155_154.out _).trans (((cell_far (p := ⟨gb154, _, none⟩) NB155_154.out _).trans (((cell_far (p := ⟨gb154, _, none⟩) NB155_154.out _).trans (((cell_far (p := ⟨gb154, _, none⟩) NB155_154.out _).trans (((cell_far (p := ⟨gb154, _, none⟩) NB155_154.out _).trans (hHeld.2.2.2.1)))))))))), ((cell_far (p := ⟨gb154, _, none⟩) NB155_154.out _).trans (((cell_far (p := ⟨gb154, _, none⟩) NB155_154.out _).trans (((cell_far (p := ⟨gb154, _, none⟩) NB155_154.out _).trans (((cell_far (p := ⟨gb154, _, none⟩) NB155_154.out _).trans (((cell_far (p := ⟨gb154, _, none⟩) NB155_154.out _).trans (hHeld.2.2.2.2))))))))))⟩ (fun hHeld => ?_); clear hK K; refine kz (i := 15) (N := some 3) (v := ?_) (a' := ?_) #[true, true, true, true, true, true, true, true, true, true, true, true, true, true, true, true] rfl rfl (kr HT_.out (by kernel_rfl)) (fun _ _ _ h => h) (Or.inl ⟨by rfl, ?_⟩) ?_ ?_
                     rotate_left; ·intro w'; go_simp; with_reducible rfl
                     rotate_left; ·exact u2_
                     refine done_ (done_of HT_.out (by kernel_rfl)) ?_
                     try go_wp2
                     refine bodyPost_ret (ku rfl _ _ gb154 26 #[.string (strOfNums ((l0.take ((ji16) : Int).toNat).drop (t157 : Int).toNat)), .int .i64 (wrap64 (t161)), .int .i64 t165, .int .u8 (rd L37_ t166), .int .u64 t170] (0, 0) _ rfl y17_ Tryd.underlying26 rfl (by kernel_rfl)) rfl ?_
                     exact ⟨y95_, y7_⟩
                   ·rw [if_neg c47] at H
                    exact absurd H (by simp)
                  ·rw [if_neg c46] at H
                   exact absurd H (by simp)
                 ·rw [if_neg c44] at H
                  exact absurd H (by simp)
                ·rw [if_neg c43] at H
                 exact absurd H (by simp)
            ·rw [if_neg c32] at H
             exact absurd H (by simp)
           ·rw [if_neg c31] at H
            exact absurd H (by simp)
       ·rw [if_neg c17] at H
        exact absurd H (by simp)
      ·rw [if_neg c15] at H
       exact absurd H (by simp)
     ·rw [if_neg c14] at H
      exact absurd H (by simp)
    ·rw [if_neg c13] at H
     exact absurd H (by simp)
end Go.Proofs.YtkkomfomjpcbfaaDoor.PTS
