import Derived.Test.YtkkomfomjpcbfaaDoorCTokenMintsE2
import Derived.Test.YtkkomfomjpcbfaaDoorCTokenMintsPTSx5
import Derived.Test.YtkkomfomjpcbfaaDoorCTokenMintsPTSx6
import Derived.Laws.RangeAny
import Derived.Lib.OthersKept
import Derived.Test.YtkkomfomjpcbfaaDoorCTokenMintsE1
import Derived.Test.YtkkomfomjpcbfaaDoorCTokenMintsWGuard
import Derived.Test.YtkkomfomjpcbfaaDoorCTokenMintsTM
import Derived.Test.YtkkomfomjpcbfaaDoorCTokenMintsTT
namespace Go.Proofs.YtkkomfomjpcbfaaDoor.PTS
open Go.RowKit Go.Proofs.YtkkomfomjpcbfaaDoorW.PrintWords Go.Proofs.YtkkomfomjpcbfaaDoorW.PrintLast Go.Proofs.YtkkomfomjpcbfaaDoorW.PrintMore
attribute [local go_sem] max2_int min2_int max_two min_two max_three min_three max_four min_four
set_option linter.unusedVariables false
set_option linter.unusedSimpArgs false
mutual
def token_Verify.l0 : Nat → ByteArray → Int → Int → Int → List (S43) → Int → Int → ByteArray → Int → Int → Int → Int → Int → ByteArray → Option (ByteArray × Int × Int × Int × Int × Int)
 | 0, _, _, _, _, _, _, _, _, _, _, _, _, _, _ => none
 | k + 1, x0, x2, x3, x11, x24, x25, x26, x184000, x184001, x184002, x184003, x184004, x185000, x185001 => if x26 < x25 then (if 0 ≤ x26 then (if x26 < (x24.length : Int) then (if ((rd_T43 x24 x26).f0).toList = x184000.toList then (token_Verify.j1 k x0 x2 x3 x11 x24 x25 x26 (x11 == 0) x184000 x184001 x184002 x184003 x184004 x185000 x185001 ((rd_T43 x24 x26).f0) ((rd_T43 x24 x26).f1.f0) ((rd_T43 x24 x26).f1.f1)) else (token_Verify.j1 k x0 x2 x3 x11 x24 x25 x26 true x184000 x184001 x184002 x184003 x184004 x185000 x185001 ((rd_T43 x24 x26).f0) ((rd_T43 x24 x26).f1.f0) ((rd_T43 x24 x26).f1.f1))) else (none)) else (none)) else (if x11 = 0 then ((token_Signed.f k x0 x185000 x185001).bind fun t187 => (if t187 = true then (if x2 ≥ x184002 then (some ((⟨#[]⟩ : ByteArray), 0, 0, 0, 0, 171)) else (if (Go.bits .andNot .u8 (Go.bits .and .u8 x3 7) x184003) = 0 then (some (x184000, x184001, x184002, x184003, x184004, 0)) else (some ((⟨#[]⟩ : ByteArray), 0, 0, 0, 0, 172)))) else (some ((⟨#[]⟩ : ByteArray), 0, 0, 0, 0, 170)))) else (some ((⟨#[]⟩ : ByteArray), 0, 0, 0, 0, x11)))
def token_Verify.j1 : Nat → ByteArray → Int → Int → Int → List (S43) → Int → Int → Bool → ByteArray → Int → Int → Int → Int → Int → ByteArray → ByteArray → Int → ByteArray → Option (ByteArray × Int × Int × Int × Int × Int)
 | 0, _, _, _, _, _, _, _, _, _, _, _, _, _, _, _, _, _, _ => none
 | k + 1, x0, x2, x3, x11, x24, x25, x26, x38, x184000, x184001, x184002, x184003, x184004, x185000, x185001, x187000, x187001, x187002 => if x38 = true then (token_Verify.l0 k x0 x2 x3 x11 x24 x25 (wrap64 (x26 + 1)) x184000 x184001 x184002 x184003 x184004 x185000 x185001) else (if x187001 = x184001 then (token_Verify.l0 k x0 x2 x3 0 x24 x25 (wrap64 (x26 + 1)) x184000 x184001 x184002 x184003 x184004 x187001 x187002) else (token_Verify.l0 k x0 x2 x3 181 x24 x25 (wrap64 (x26 + 1)) x184000 x184001 x184002 x184003 x184004 x185000 x185001))
end
def token_Verify.f (k : Nat) (a0 : ByteArray) (l1 : List (S43)) (a2 : Int) (a3 : Int) : Option (ByteArray × Int × Int × Int × Int × Int) := (token_Read.f k a0).bind fun bt177 => (if bt177.2.2.2.2.2 = 0 then (token_Verify.l0 k a0 a2 a3 180 l1 (l1.length : Int) 0 bt177.1 bt177.2.1 bt177.2.2.1 bt177.2.2.2.1 bt177.2.2.2.2.1 0 (⟨#[]⟩ : ByteArray)) else (some ((⟨#[]⟩ : ByteArray), 0, 0, 0, 0, bt177.2.2.2.2.2)))
theorem token_Verify.mono_l : ∀ k, (∀ y0 y1 y2 y3 y4 y5 y6 y7 y8 y9 y10 y11 y12 y13, LeO (token_Verify.l0 k y0 y1 y2 y3 y4 y5 y6 y7 y8 y9 y10 y11 y12 y13) (token_Verify.l0 (k + 1) y0 y1 y2 y3 y4 y5 y6 y7 y8 y9 y10 y11 y12 y13)) ∧ (∀ y0 y1 y2 y3 y4 y5 y6 y7 y8 y9 y10 y11 y12 y13 y14 y15 y16 y17, LeO (token_Verify.j1 k y0 y1 y2 y3 y4 y5 y6 y7 y8 y9 y10 y11 y12 y13 y14 y15 y16 y17) (token_Verify.j1 (k + 1) y0 y1 y2 y3 y4 y5 y6 y7 y8 y9 y10 y11 y12 y13 y14 y15 y16 y17))
 | 0 => ⟨fun _ _ _ _ _ _ _ _ _ _ _ _ _ _ r h => by simp [token_Verify.l0] at h, fun _ _ _ _ _ _ _ _ _ _ _ _ _ _ _ _ _ _ r h => by simp [token_Verify.j1] at h⟩
 | k + 1 => by
  obtain ⟨ih0, ih1⟩ := token_Verify.mono_l k
  refine ⟨?_, ?_⟩
  ·intro y0 y1 y2 y3 y4 y5 y6 y7 y8 y9 y10 y11 y12 y13
   unfold token_Verify.l0
   repeat' first
   | (with_reducible exact ih0 _ _ _ _ _ _ _ _ _ _ _ _ _ _)
   | (with_reducible exact ih1 _ _ _ _ _ _ _ _ _ _ _ _ _ _ _ _ _ _)
   | (with_reducible exact token_Read.mono _ _)
   | (with_reducible exact token_Signed.mono _ _ _ _)
   | (with_reducible exact LeO.refl _)
   | (with_reducible exact LeO.none _)
   | (with_reducible refine LeO.ite ?_ ?_)
   | (with_reducible refine LeO.bind ?_ (fun _ => ?_))
   | exact ih0 _ _ _ _ _ _ _ _ _ _ _ _ _ _
   | exact ih1 _ _ _ _ _ _ _ _ _ _ _ _ _ _ _ _ _ _
   | exact token_Read.mono _ _
   | exact token_Signed.mono _ _ _ _
   | exact LeO.none _
   | refine LeO.ite ?_ ?_
   | refine LeO.bind ?_ (fun _ => ?_)
  ·intro y0 y1 y2 y3 y4 y5 y6 y7 y8 y9 y10 y11 y12 y13 y14 y15 y16 y17
   unfold token_Verify.j1
   repeat' first
   | (with_reducible exact ih0 _ _ _ _ _ _ _ _ _ _ _ _ _ _)
   | (with_reducible exact ih1 _ _ _ _ _ _ _ _ _ _ _ _ _ _ _ _ _ _)
   | (with_reducible exact token_Read.mono _ _)
   | (with_reducible exact token_Signed.mono _ _ _ _)
   | (with_reducible exact LeO.refl _)
   | (with_reducible exact LeO.none _)
   | (with_reducible refine LeO.ite ?_ ?_)
   | (with_reducible refine LeO.bind ?_ (fun _ => ?_))
   | exact ih0 _ _ _ _ _ _ _ _ _ _ _ _ _ _
   | exact ih1 _ _ _ _ _ _ _ _ _ _ _ _ _ _ _ _ _ _
   | exact token_Read.mono _ _
   | exact token_Signed.mono _ _ _ _
   | exact LeO.none _
   | refine LeO.ite ?_ ?_
   | refine LeO.bind ?_ (fun _ => ?_)
theorem token_Verify.mono : ∀ a0 a1 a2 a3 k, LeO (token_Verify.f k a0 a1 a2 a3) (token_Verify.f (k + 1) a0 a1 a2 a3) := by
 intro a0 a1 a2 a3 k
 obtain ⟨ih0, ih1⟩ := token_Verify.mono_l k
 unfold token_Verify.f
 repeat' first
   | (with_reducible exact ih0 _ _ _ _ _ _ _ _ _ _ _ _ _ _)
   | (with_reducible exact ih1 _ _ _ _ _ _ _ _ _ _ _ _ _ _ _ _ _ _)
   | (with_reducible exact token_Read.mono _ _)
   | (with_reducible exact token_Signed.mono _ _ _ _)
   | (with_reducible exact LeO.refl _)
   | (with_reducible exact LeO.none _)
   | (with_reducible refine LeO.ite ?_ ?_)
   | (with_reducible refine LeO.bind ?_ (fun _ => ?_))
   | exact ih0 _ _ _ _ _ _ _ _ _ _ _ _ _ _
   | exact ih1 _ _ _ _ _ _ _ _ _ _ _ _ _ _ _ _ _ _
   | exact token_Read.mono _ _
   | exact token_Signed.mono _ _ _ _
   | exact LeO.none _
   | refine LeO.ite ?_ ?_
   | refine LeO.bind ?_ (fun _ => ?_)
set_option maxHeartbeats 8000000 in
set_option maxRecDepth 100000 in
theorem token_Verify.calls (k : Nat) (a0 : ByteArray) (A1 : Option Addr) (c1 : Nat) (l1 : List (S43)) (a2 : Int) (a3 : Int) (r1 : ByteArray) (r2 : Int) (r3 : Int) (r4 : Int) (r5 : Int) (r6 : Int) (w : World) (hT : Aside0 (Tab w)) (hr1 : Kd.C k43 w A1 l1.length l1) (hc1 : l1.length ≤ c1) (h : token_Verify.f k a0 l1 a2 a3 = some (r1, r2, r3, r4, r5, r6)) :
  Calls Tryd.prog 23 #[.string a0, .slice A1 l1.length c1, .int .i64 a2, .int .u8 a3] w fun e w' => e = .returned (.tuple #[.agg #[.string r1, .int .i64 r2, .int .i64 r3, .int .u8 r4, .int .u64 r5], .int .i64 r6]) ∧ Below w.heap.size w w' := by
 have hu26 := Tryd.underlying26
 have hu23 := Tryd.underlying23
 have hu43 := Tryd.underlying43
 have HR1 := Aside0.mk hr1
 have HC1 := Aside0.mk hc1
 clear hr1 hc1
 have HB := Aside0.mk (Below.refl w.heap.size w)
 have H : ((token_Read.f k a0).bind fun bt177 => (if bt177.2.2.2.2.2 = 0 then (token_Verify.l0 k a0 a2 a3 180 l1 (l1.length : Int) 0 bt177.1 bt177.2.1 bt177.2.2.1 bt177.2.2.2.1 bt177.2.2.2.2.1 0 (⟨#[]⟩ : ByteArray)) else (some ((⟨#[]⟩ : ByteArray), 0, 0, 0, 0, bt177.2.2.2.2.2)))) = some (r1, r2, r3, r4, r5, r6) := h
 clear h
 replace H := Option.bind_eq_some_iff.mp H
 obtain ⟨⟨t177, t178, t179, t180, t181, t182⟩, A50, H⟩ := H
 replace H : (if t182 = 0 then (token_Verify.l0 k a0 a2 a3 180 l1 (l1.length : Int) 0 t177 t178 t179 t180 t181 0 (⟨#[]⟩ : ByteArray)) else (some ((⟨#[]⟩ : ByteArray), 0, 0, 0, 0, t182))) = some (r1, r2, r3, r4, r5, r6) := H
 have A5 := Aside0.mk A50
 clear A50
 by_cases c6 : t182 = 0
 ·rw [if_pos c6] at H
  have c6b0 : (t182 == 0) = true := beq_iff_eq.mpr c6
  have c6b1 : (t182 != 0) = false := bne_eq_false_iff_eq.mpr c6
  clear c6
  have H' := Aside0.mk H
  clear H
  go_enter Tryd.func23, Tryd.ntmps23
  go_wp2_with (first | ((with_reducible refine gate_dst (N := 8) rfl ?_); refine box_event ?hg (N := 8) ?hd (cs := #[.string (⟨#[]⟩ : ByteArray), .int .i64 0, .int .i64 0, .int .u8 0, .int .u64 0]) (t := 26) ?hr ?_; (case hd => rfl); (case hg => rfl); (case hr => first | (go_simp; done) | (go_simp; rfl)); intro gb176 hg w7 hbox hb; have n0_ := Aside0.mk (below_step y1_ hb); have n1_ := Aside0.mk (hbox); have n2_ := Aside0.mk ((y29_ : w.heap.size ≤ gb176)); have n3_ := Aside0.mk ((y29_ : w.heap.size ≤ gb176)); clear HB; have HB := n0_; have BK176 := n1_; have GW176 := n2_; have GE176 := n3_; clear n0_ n1_ n2_ n3_; clear hb hbox hg) | ((with_reducible refine gate_callee (f := 18) rfl ?_); refine goesL_ (some 17) rfl rfl Tryd.func18 (by kernel_rfl) rfl #[.string a0] rfl y2_ ?_; (with_reducible refine (token_Read.calls k a0 t177 t178 t179 t180 t181 t182 _ A5.out).mono ?_); rintro e w8 ⟨rfl, hb⟩; refine ⟨_, rfl, ?_⟩; have n0_ := Aside0.mk (blk_below (g := gb176) (o := .cells #[.string (⟨#[]⟩ : ByteArray), .int .i64 0, .int .i64 0, .int .u8 0, .int .u64 0] 26 (0, 0)) y21_ hb); have n1_ := Aside0.mk (below_step y33_ hb); clear BK176; clear HB; have BK176 := n0_; have HB := n1_; clear n0_ n1_; (try clear hb); (try clear hb2); (try clear hk); (try clear hi)) | ((with_reducible refine gate_dst (N := 10) rfl ?_); refine box_event ?hg (N := 10) ?hd (cs := #[.string (⟨#[]⟩ : ByteArray), .int .i64 0, .int .i64 0, .int .u8 0, .int .u64 0]) (t := 26) ?hr ?_; (case hd => rfl); (case hg => rfl); (case hr => first | (go_simp; done) | (go_simp; rfl)); intro gb183 hg w9 hbox hb; have n0_ := Aside0.mk (blk_below (g := gb176) (o := .cells #[.string (⟨#[]⟩ : ByteArray), .int .i64 0, .int .i64 0, .int .u8 0, .int .u64 0] 26 (0, 0)) y21_ hb); have n1_ := Aside0.mk (below_step y33_ hb); have n2_ := Aside0.mk (hbox); have n3_ := Aside0.mk ((by rw [hg]; exact (below_size y33_) : w.heap.size ≤ gb183)); have n4_ := Aside0.mk ((by rw [hg]; exact (below_size y33_) : w.heap.size ≤ gb183)); have n5_ := Aside0.mk ((y72_ : gb176 ≠ gb183)); have n6_ := Aside0.mk ((y74_ : gb183 ≠ gb176)); clear BK176; clear HB; have BK176 := n0_; have HB := n1_; have BK183 := n2_; have GW183 := n3_; have GE183 := n4_; have NB176_183 := n5_; have NB183_176 := n6_; clear n0_ n1_ n2_ n3_ n4_ n5_ n6_; clear hb hbox hg; have hnb10 := NB183_176.out; have hnc10 := NB176_183.out; have hcz11_0 : w9.cell? ⟨gb183, 0, none⟩ = some (.string (⟨#[]⟩ : ByteArray)) := (blk_cell BK183.out 0).trans rfl; have hcz11_1 : w9.cell? ⟨gb183, 1, none⟩ = some (.int .i64 0) := (blk_cell BK183.out 1).trans rfl; have hcz11_2 : w9.cell? ⟨gb183, 2, none⟩ = some (.int .i64 0) := (blk_cell BK183.out 2).trans rfl; have hcz11_3 : w9.cell? ⟨gb183, 3, none⟩ = some (.int .u8 0) := (blk_cell BK183.out 3).trans rfl; have hcz11_4 : w9.cell? ⟨gb183, 4, none⟩ = some (.int .u64 0) := (blk_cell BK183.out 4).trans rfl; have hfz11_0 := blk_frozen BK183.out 0; have hfz11_1 := blk_frozen BK183.out 1; have hfz11_2 := blk_frozen BK183.out 2; have hfz11_3 := blk_frozen BK183.out 3; have hfz11_4 := blk_frozen BK183.out 4) | ((with_reducible refine gate_dst (N := 12) rfl ?_); refine box_event ?hg (N := 12) ?hd (cs := #[.int .i64 0, .string (⟨#[]⟩ : ByteArray)]) (t := 23) ?hr ?_; (case hd => rfl); (case hg => rfl); (case hr => first | (go_simp; done) | (go_simp; rfl)); intro gb184 hg w12 hbox hb; have n0_ := Aside0.mk (blk_below (g := gb176) (o := .cells #[.string (⟨#[]⟩ : ByteArray), .int .i64 0, .int .i64 0, .int .u8 0, .int .u64 0] 26 (0, 0)) y23_ hb); have n1_ := Aside0.mk (blk_below (g := gb183) (o := .cells #[.string t177, .int .i64 t178, .int .i64 t179, .int .u8 t180, .int .u64 t181] 26 (0, 0)) y18_ hb); have n2_ := Aside0.mk (below_step y49_ hb); have n3_ := Aside0.mk (hbox); have n4_ := Aside0.mk ((by rw [hg]; exact (below_size y49_) : w.heap.size ≤ gb184)); have n5_ := Aside0.mk ((by rw [hg]; exact (below_size y49_) : w.heap.size ≤ gb184)); have n6_ := Aside0.mk ((by rw [hg]; exact Nat.ne_of_lt (blk_lt (g := gb176) (o := .cells #[.string (⟨#[]⟩ : ByteArray), .int .i64 0, .int .i64 0, .int .u8 0, .int .u64 0] 26 (0, 0)) y23_) : gb176 ≠ gb184)); have n7_ := Aside0.mk ((by rw [hg]; exact Nat.ne_of_gt (blk_lt (g := gb176) (o := .cells #[.string (⟨#[]⟩ : ByteArray), .int .i64 0, .int .i64 0, .int .u8 0, .int .u64 0] 26 (0, 0)) y23_) : gb184 ≠ gb176)); have n8_ := Aside0.mk ((by rw [hg]; exact Nat.ne_of_lt (blk_lt (g := gb183) (o := .cells #[.string t177, .int .i64 t178, .int .i64 t179, .int .u8 t180, .int .u64 t181] 26 (0, 0)) y18_) : gb183 ≠ gb184)); have n9_ := Aside0.mk ((by rw [hg]; exact Nat.ne_of_gt (blk_lt (g := gb183) (o := .cells #[.string t177, .int .i64 t178, .int .i64 t179, .int .u8 t180, .int .u64 t181] 26 (0, 0)) y18_) : gb184 ≠ gb183)); clear BK176; clear BK183; clear HB; have BK176 := n0_; have BK183 := n1_; have HB := n2_; have BK184 := n3_; have GW184 := n4_; have GE184 := n5_; have NB176_184 := n6_; have NB184_176 := n7_; have NB183_184 := n8_; have NB184_183 := n9_; clear n0_ n1_ n2_ n3_ n4_ n5_ n6_ n7_ n8_ n9_; clear hb hbox hg))
  go_loopg [11, 26] k (fun kq v11 v26 w' => ∃ (x11_1 : Int) (x26_1 : Int) (x185000_1 : Int) (x185001_1 : ByteArray), v11 = .int .i64 x11_1 ∧ v26 = .int .i64 x26_1 ∧ Aside0 (token_Verify.l0 kq a0 a2 a3 x11_1 l1 (l1.length : Int) x26_1 t177 t178 t179 t180 t181 x185000_1 x185001_1 = some (r1, r2, r3, r4, r5, r6)) ∧ Aside0 (kq ≤ k) ∧ Aside0 (w'.heap[gb176]? = some (.cells #[.string (⟨#[]⟩ : ByteArray), .int .i64 0, .int .i64 0, .int .u8 0, .int .u64 0] 26 (0, 0))) ∧ Aside0 (w'.heap[gb183]? = some (.cells #[.string t177, .int .i64 t178, .int .i64 t179, .int .u8 t180, .int .u64 t181] 26 (0, 0))) ∧ Aside0 (w'.heap[gb184]? = some (.cells #[.int .i64 x185000_1, .string x185001_1] 23 (0, 0))) ∧ Aside0 (Below w.heap.size w w'))
  case atStart => exact ⟨(180), (0), (0), ((⟨#[]⟩ : ByteArray)), y4_, y4_, H', ⟨Nat.le_refl _⟩, ⟨y21_⟩, ⟨y35_⟩, ⟨y34_⟩, ⟨y9_⟩⟩
  case round =>
   clear H'
   try clear c1
   try clear c2
   try clear p2
   try clear c6
   try clear c6b0
   try clear c6b1
   try clear c10
   try clear hcz11_0
   try clear hcz11_1
   try clear hcz11_2
   try clear hcz11_3
   try clear hcz11_4
   try clear hfz11_0
   try clear hfz11_1
   try clear hfz11_2
   try clear hfz11_3
   try clear hfz11_4
   obtain ⟨x11_1, x26_1, x185000_1, x185001_1, rfl, rfl, HA, HK1, BK176, BK183, BK184, HB⟩ := hrel
   cases gk with
   | zero => exact absurd HA.out (by simp [token_Verify.l0])
   | succ k1 =>
    have H := HA.out
    clear HA
    simp only [token_Verify.l0] at H
    by_cases c13 : x26_1 < (l1.length : Int)
    ·rw [if_pos c13] at H
     have c13b0 : decide (x26_1 < (l1.length : Int)) = true := decide_eq_true c13
     clear c13
     by_cases c14 : 0 ≤ x26_1
     ·rw [if_pos c14] at H
      have c14b0 : decide (0 ≤ x26_1) = true := decide_eq_true c14
      clear c14
      by_cases c15 : x26_1 < (l1.length : Int)
      ·rw [if_pos c15] at H
       have c15b0 : decide (x26_1 < (l1.length : Int)) = true := decide_eq_true c15
       clear c15
       have HC16 := Aside0.mk H
       clear H
       have p185 : 0 ≤ (x26_1 : Int) := of_decide_eq_true y16_
       have q185 : x26_1 < (l1.length : Int) := of_decide_eq_true y16_
       obtain ⟨ad185, e185, hx185_0, hx185_1, hx185_2⟩ := at_T43 HR1.out x26_1 p185 q185
       cases e185
       replace hx185_0 := (HB.out.cell (World.block_lt_of_cell? w _ hx185_0)).trans hx185_0
       replace hx185_1 := (HB.out.cell (World.block_lt_of_cell? w _ hx185_1)).trans hx185_1
       replace hx185_2 := (HB.out.cell (World.block_lt_of_cell? w _ hx185_2)).trans hx185_2
       replace p185 := eq_true p185
       replace q185 := eq_true q185
       go_upto_region 9 with (first | ((with_reducible refine gate_dst (N := 14) rfl ?_); refine box_event ?hg (N := 14) ?hd (cs := #[.string (⟨#[]⟩ : ByteArray), .int .i64 0, .string (⟨#[]⟩ : ByteArray)]) (t := 43) ?hr ?_; (case hd => rfl); (case hg => rfl); (case hr => first | (go_simp; done) | (go_simp; rfl)); intro gb186 hg w17 hbox hb; have n0_ := Aside0.mk (blk_below (g := gb176) (o := .cells #[.string (⟨#[]⟩ : ByteArray), .int .i64 0, .int .i64 0, .int .u8 0, .int .u64 0] 26 (0, 0)) y21_ hb); have n1_ := Aside0.mk (blk_below (g := gb183) (o := .cells #[.string t177, .int .i64 t178, .int .i64 t179, .int .u8 t180, .int .u64 t181] 26 (0, 0)) y35_ hb); have n2_ := Aside0.mk (blk_below (g := gb184) (o := .cells #[.int .i64 x185000_1, .string x185001_1] 23 (0, 0)) y34_ hb); have n3_ := Aside0.mk (below_step y9_ hb); have n4_ := Aside0.mk (hbox); have n5_ := Aside0.mk ((by rw [hg]; exact (below_size y9_) : w.heap.size ≤ gb186)); have n6_ := Aside0.mk ((by rw [hg]; exact (below_size y9_) : w.heap.size ≤ gb186)); have n7_ := Aside0.mk ((y72_ : gb176 ≠ gb186)); have n8_ := Aside0.mk ((y74_ : gb186 ≠ gb176)); have n9_ := Aside0.mk ((by rw [hg]; exact Nat.ne_of_lt (blk_lt (g := gb183) (o := .cells #[.string t177, .int .i64 t178, .int .i64 t179, .int .u8 t180, .int .u64 t181] 26 (0, 0)) y35_) : gb183 ≠ gb186)); have n10_ := Aside0.mk ((by rw [hg]; exact Nat.ne_of_gt (blk_lt (g := gb183) (o := .cells #[.string t177, .int .i64 t178, .int .i64 t179, .int .u8 t180, .int .u64 t181] 26 (0, 0)) y35_) : gb186 ≠ gb183)); have n11_ := Aside0.mk ((by rw [hg]; exact Nat.ne_of_lt (blk_lt (g := gb184) (o := .cells #[.int .i64 x185000_1, .string x185001_1] 23 (0, 0)) y34_) : gb184 ≠ gb186)); have n12_ := Aside0.mk ((by rw [hg]; exact Nat.ne_of_gt (blk_lt (g := gb184) (o := .cells #[.int .i64 x185000_1, .string x185001_1] 23 (0, 0)) y34_) : gb186 ≠ gb184)); clear BK176; clear BK183; clear BK184; clear HB; have BK176 := n0_; have BK183 := n1_; have BK184 := n2_; have HB := n3_; have BK186 := n4_; have GW186 := n5_; have GE186 := n6_; have NB176_186 := n7_; have NB186_176 := n8_; have NB183_186 := n9_; have NB186_183 := n10_; have NB184_186 := n11_; have NB186_184 := n12_; clear n0_ n1_ n2_ n3_ n4_ n5_ n6_ n7_ n8_ n9_ n10_ n11_ n12_; clear hb hbox hg; have hnb18 := NB186_176.out; have hnc18 := NB176_186.out; have hnb19 := NB186_183.out; have hnc19 := NB183_186.out; have hnb20 := NB186_184.out; have hnc20 := NB184_186.out; have hcz21_0 : w17.cell? ⟨gb186, 0, none⟩ = some (.string (⟨#[]⟩ : ByteArray)) := (blk_cell BK186.out 0).trans rfl; have hcz21_1 : w17.cell? ⟨gb186, 1, none⟩ = some (.int .i64 0) := (blk_cell BK186.out 1).trans rfl; have hcz21_2 : w17.cell? ⟨gb186, 2, none⟩ = some (.string (⟨#[]⟩ : ByteArray)) := (blk_cell BK186.out 2).trans rfl; have hfz21_0 := blk_frozen BK186.out 0; have hfz21_1 := blk_frozen BK186.out 1; have hfz21_2 := blk_frozen BK186.out 2))
       (try simp only [Act.put, List.setIfInBounds_toArray, List.set_cons_zero, List.set_cons_succ])
       go_cut [38] (fun v38 wc => ∃ (kq : Nat) (x38_15 : Bool), v38 = .bool x38_15 ∧ Aside0 (token_Verify.j1 kq a0 a2 a3 x11_1 l1 (l1.length : Int) x26_1 x38_15 t177 t178 t179 t180 t181 x185000_1 x185001_1 ((rd_T43 l1 x26_1).f0) ((rd_T43 l1 x26_1).f1.f0) ((rd_T43 l1 x26_1).f1.f1) = some (r1, r2, r3, r4, r5, r6)) ∧ Aside0 (kq ≤ k1) ∧ Aside0 (wc.heap[gb176]? = some (.cells #[.string (⟨#[]⟩ : ByteArray), .int .i64 0, .int .i64 0, .int .u8 0, .int .u64 0] 26 (0, 0))) ∧ Aside0 (wc.heap[gb183]? = some (.cells #[.string t177, .int .i64 t178, .int .i64 t179, .int .u8 t180, .int .u64 t181] 26 (0, 0))) ∧ Aside0 (wc.heap[gb184]? = some (.cells #[.int .i64 x185000_1, .string x185001_1] 23 (0, 0))) ∧ Aside0 (wc.heap[gb186]? = some (.cells #[.string ((rd_T43 l1 x26_1).f0), .int .i64 ((rd_T43 l1 x26_1).f1.f0), .string ((rd_T43 l1 x26_1).f1.f1)] 43 (0, 0))) ∧ Aside0 (Below w.heap.size w wc))
       case first =>
        have H := HC16.out
        clear HC16
        by_cases c22 : ((rd_T43 l1 x26_1).f0).toList = t177.toList
        ·rw [if_pos c22] at H
         have c22b0 : (((rd_T43 l1 x26_1).f0).toList == t177.toList) = true := beq_iff_eq.mpr c22
         have c22b1 : (((rd_T43 l1 x26_1).f0).toList != t177.toList) = false := bne_eq_false_iff_eq.mpr c22
         clear c22
         (first | rw [c22b0] | (simp only [i64_w, i32_w]; rw [c22b0]) | skip)
         have H' := Aside0.mk H
         clear H
         have hnb23 := NB186_176.out
         have hnc23 := NB176_186.out
         have hnb24 := NB186_183.out
         have hnc24 := NB183_186.out
         have hnb25 := NB186_184.out
         have hnc25 := NB184_186.out
         have hcz26_0 : w17.cell? ⟨gb186, 0, none⟩ = some (.string (⟨#[]⟩ : ByteArray)) := (blk_cell BK186.out 0).trans rfl
         have hcz26_1 : w17.cell? ⟨gb186, 1, none⟩ = some (.int .i64 0) := (blk_cell BK186.out 1).trans rfl
         have hcz26_2 : w17.cell? ⟨gb186, 2, none⟩ = some (.string (⟨#[]⟩ : ByteArray)) := (blk_cell BK186.out 2).trans rfl
         have hfz26_0 := blk_frozen BK186.out 0
         have hfz26_1 := blk_frozen BK186.out 1
         have hfz26_2 := blk_frozen BK186.out 2
         have hnb27 := NB183_176.out
         have hnc27 := NB176_183.out
         have hnb28 := NB183_184.out
         have hnc28 := NB184_183.out
         have hcz29_0 : w17.cell? ⟨gb183, 0, none⟩ = some (.string t177) := (blk_cell BK183.out 0).trans rfl
         have hcz29_1 : w17.cell? ⟨gb183, 1, none⟩ = some (.int .i64 t178) := (blk_cell BK183.out 1).trans rfl
         have hcz29_2 : w17.cell? ⟨gb183, 2, none⟩ = some (.int .i64 t179) := (blk_cell BK183.out 2).trans rfl
         have hcz29_3 : w17.cell? ⟨gb183, 3, none⟩ = some (.int .u8 t180) := (blk_cell BK183.out 3).trans rfl
         have hcz29_4 : w17.cell? ⟨gb183, 4, none⟩ = some (.int .u64 t181) := (blk_cell BK183.out 4).trans rfl
         have hfz29_0 := blk_frozen BK183.out 0
         have hfz29_1 := blk_frozen BK183.out 1
         have hfz29_2 := blk_frozen BK183.out 2
         have hfz29_3 := blk_frozen BK183.out 3
         have hfz29_4 := blk_frozen BK183.out 4
         go_wp2
         go_meet
         case rel => exact ⟨_, ((x11_1 == 0)), y4_, H', ⟨by have := HK1.out; first | omega | exact Nat.le_refl _⟩, ⟨y53_⟩, ⟨y52_⟩, ⟨y51_⟩, ⟨y46_⟩, ⟨y36_⟩⟩
        ·rw [if_neg c22] at H
         have c22b0 : (((rd_T43 l1 x26_1).f0).toList == t177.toList) = false := beq_eq_false_iff_ne.mpr c22
         have c22b1 : (((rd_T43 l1 x26_1).f0).toList != t177.toList) = true := bne_iff_ne.mpr c22
         (first | rw [c22b0] | (simp only [i64_w, i32_w]; rw [c22b0]) | skip)
         have H' := Aside0.mk H
         clear H
         have hnb30 := NB186_176.out
         have hnc30 := NB176_186.out
         have hnb31 := NB186_183.out
         have hnc31 := NB183_186.out
         have hnb32 := NB186_184.out
         have hnc32 := NB184_186.out
         have hcz33_0 : w17.cell? ⟨gb186, 0, none⟩ = some (.string (⟨#[]⟩ : ByteArray)) := (blk_cell BK186.out 0).trans rfl
         have hcz33_1 : w17.cell? ⟨gb186, 1, none⟩ = some (.int .i64 0) := (blk_cell BK186.out 1).trans rfl
         have hcz33_2 : w17.cell? ⟨gb186, 2, none⟩ = some (.string (⟨#[]⟩ : ByteArray)) := (blk_cell BK186.out 2).trans rfl
         have hfz33_0 := blk_frozen BK186.out 0
         have hfz33_1 := blk_frozen BK186.out 1
         have hfz33_2 := blk_frozen BK186.out 2
         have hnb34 := NB183_176.out
         have hnc34 := NB176_183.out
         have hnb35 := NB183_184.out
         have hnc35 := NB184_183.out
         have hcz36_0 : w17.cell? ⟨gb183, 0, none⟩ = some (.string t177) := (blk_cell BK183.out 0).trans rfl
         have hcz36_1 : w17.cell? ⟨gb183, 1, none⟩ = some (.int .i64 t178) := (blk_cell BK183.out 1).trans rfl
         have hcz36_2 : w17.cell? ⟨gb183, 2, none⟩ = some (.int .i64 t179) := (blk_cell BK183.out 2).trans rfl
         have hcz36_3 : w17.cell? ⟨gb183, 3, none⟩ = some (.int .u8 t180) := (blk_cell BK183.out 3).trans rfl
         have hcz36_4 : w17.cell? ⟨gb183, 4, none⟩ = some (.int .u64 t181) := (blk_cell BK183.out 4).trans rfl
         have hfz36_0 := blk_frozen BK183.out 0
         have hfz36_1 := blk_frozen BK183.out 1
         have hfz36_2 := blk_frozen BK183.out 2
         have hfz36_3 := blk_frozen BK183.out 3
         have hfz36_4 := blk_frozen BK183.out 4
         go_wp2
         go_meet
         case rel => exact ⟨_, (true), y4_, H', ⟨by have := HK1.out; first | omega | exact Nat.le_refl _⟩, ⟨y53_⟩, ⟨y52_⟩, ⟨y51_⟩, ⟨y46_⟩, ⟨y36_⟩⟩
       case rest =>
        clear HC16
        try clear c1
        try clear p1
        try clear q1
        try clear hx1
        try clear c2
        try clear p2
        try clear c3
        try clear c6
        try clear c6b0
        try clear c6b1
        try clear c10
        try clear c13
        try clear c13b0
        try clear c14
        try clear c14b0
        try clear c15
        try clear c15b0
        try clear c18
        try clear p18
        try clear q18
        try clear hx18
        try clear c19
        try clear c20
        try clear c22
        try clear c22b0
        try clear c22b1
        try clear c23
        try clear c24
        try clear c25
        try clear c27
        try clear c28
        try clear c30
        try clear c31
        try clear c32
        try clear c34
        try clear c35
        try clear hcz11_0
        try clear hcz11_1
        try clear hcz11_2
        try clear hcz11_3
        try clear hcz11_4
        try clear hcz21_0
        try clear hcz21_1
        try clear hcz21_2
        try clear hcz26_0
        try clear hcz26_1
        try clear hcz26_2
        try clear hcz29_0
        try clear hcz29_1
        try clear hcz29_2
        try clear hcz29_3
        try clear hcz29_4
        try clear hcz33_0
        try clear hcz33_1
        try clear hcz33_2
        try clear hcz36_0
        try clear hcz36_1
        try clear hcz36_2
        try clear hcz36_3
        try clear hcz36_4
        try clear hfz11_0
        try clear hfz11_1
        try clear hfz11_2
        try clear hfz11_3
        try clear hfz11_4
        try clear hfz21_0
        try clear hfz21_1
        try clear hfz21_2
        try clear hfz26_0
        try clear hfz26_1
        try clear hfz26_2
        try clear hfz29_0
        try clear hfz29_1
        try clear hfz29_2
        try clear hfz29_3
        try clear hfz29_4
        try clear hfz33_0
        try clear hfz33_1
        try clear hfz33_2
        try clear hfz36_0
        try clear hfz36_1
        try clear hfz36_2
        try clear hfz36_3
        try clear hfz36_4
        try clear hx185_0
        try clear hx185_1
        try clear hx185_2
        try clear p185
        try clear p2
        try clear q185
        obtain ⟨kq, x38_15, rfl, HA, HJ15, BK176, BK183, BK184, BK186, HB⟩ := hcut
        cases kq with
        | zero => exact absurd HA.out (by simp [token_Verify.j1])
        | succ kj15 =>
         have H := HA.out
         clear HA
         simp only [token_Verify.j1] at H
         by_cases c37 : x38_15 = true
         ·subst c37
          have H1 : (token_Verify.l0 kj15 a0 a2 a3 x11_1 l1 (l1.length : Int) (wrap64 (x26_1 + 1)) t177 t178 t179 t180 t181 x185000_1 x185001_1) = some (r1, r2, r3, r4, r5, r6) := by rw [if_pos rfl] at H; exact H
          clear H
          have H := H1
          clear H1
          have H' := Aside0.mk H
          clear H
          go_wp2
          go_roundg kj15
          case measure => have := HK1.out; have := HJ15.out; omega
          case rel => exact ⟨(x11_1), (wrap64 (x26_1 + 1)), (x185000_1), (x185001_1), y4_, y4_, H', ⟨by have := HK1.out; have := HJ15.out; omega⟩, ⟨y21_⟩, ⟨y35_⟩, ⟨y34_⟩, ⟨y36_⟩⟩
         ·replace c37 := Bool.eq_false_iff.mpr c37
          subst c37
          have H1 : (if ((rd_T43 l1 x26_1).f1.f0) = t178 then (token_Verify.l0 kj15 a0 a2 a3 0 l1 (l1.length : Int) (wrap64 (x26_1 + 1)) t177 t178 t179 t180 t181 ((rd_T43 l1 x26_1).f1.f0) ((rd_T43 l1 x26_1).f1.f1)) else (token_Verify.l0 kj15 a0 a2 a3 181 l1 (l1.length : Int) (wrap64 (x26_1 + 1)) t177 t178 t179 t180 t181 x185000_1 x185001_1)) = some (r1, r2, r3, r4, r5, r6) := by rw [if_neg (show ¬ (false = true) by decide)] at H; exact H
          clear H
          have H := H1
          clear H1
          by_cases c38 : ((rd_T43 l1 x26_1).f1.f0) = t178
          ·rw [if_pos c38] at H
           have c38b0 : (((rd_T43 l1 x26_1).f1.f0) == t178) = true := beq_iff_eq.mpr c38
           have c38b1 : (((rd_T43 l1 x26_1).f1.f0) != t178) = false := bne_eq_false_iff_eq.mpr c38
           clear c38
           have H' := Aside0.mk H
           clear H
           have hnb39 := NB186_176.out
           have hnc39 := NB176_186.out
           have hnb40 := NB186_183.out
           have hnc40 := NB183_186.out
           have hnb41 := NB186_184.out
           have hnc41 := NB184_186.out
           have hcz42_0 : wc.cell? ⟨gb186, 0, none⟩ = some (.string ((rd_T43 l1 x26_1).f0)) := (blk_cell BK186.out 0).trans rfl
           have hcz42_1 : wc.cell? ⟨gb186, 1, none⟩ = some (.int .i64 ((rd_T43 l1 x26_1).f1.f0)) := (blk_cell BK186.out 1).trans rfl
           have hcz42_2 : wc.cell? ⟨gb186, 2, none⟩ = some (.string ((rd_T43 l1 x26_1).f1.f1)) := (blk_cell BK186.out 2).trans rfl
           have hfz42_0 := blk_frozen BK186.out 0
           have hfz42_1 := blk_frozen BK186.out 1
           have hfz42_2 := blk_frozen BK186.out 2
           have hnb43 := NB183_176.out
           have hnc43 := NB176_183.out
           have hnb44 := NB183_184.out
           have hnc44 := NB184_183.out
           have hcz45_0 : wc.cell? ⟨gb183, 0, none⟩ = some (.string t177) := (blk_cell BK183.out 0).trans rfl
           have hcz45_1 : wc.cell? ⟨gb183, 1, none⟩ = some (.int .i64 t178) := (blk_cell BK183.out 1).trans rfl
           have hcz45_2 : wc.cell? ⟨gb183, 2, none⟩ = some (.int .i64 t179) := (blk_cell BK183.out 2).trans rfl
           have hcz45_3 : wc.cell? ⟨gb183, 3, none⟩ = some (.int .u8 t180) := (blk_cell BK183.out 3).trans rfl
           have hcz45_4 : wc.cell? ⟨gb183, 4, none⟩ = some (.int .u64 t181) := (blk_cell BK183.out 4).trans rfl
           have hfz45_0 := blk_frozen BK183.out 0
           have hfz45_1 := blk_frozen BK183.out 1
           have hfz45_2 := blk_frozen BK183.out 2
           have hfz45_3 := blk_frozen BK183.out 3
           have hfz45_4 := blk_frozen BK183.out 4
           have hnb46 := NB184_176.out
           have hnc46 := NB176_184.out
           have hcz47_0 : wc.cell? ⟨gb184, 0, none⟩ = some (.int .i64 x185000_1) := (blk_cell BK184.out 0).trans rfl
           have hcz47_1 : wc.cell? ⟨gb184, 1, none⟩ = some (.string x185001_1) := (blk_cell BK184.out 1).trans rfl
           have hfz47_0 := blk_frozen BK184.out 0
           have hfz47_1 := blk_frozen BK184.out 1
           go_wp2
           go_roundg kj15
           case measure => have := HK1.out; have := HJ15.out; omega
           case rel => exact ⟨(0), (wrap64 (x26_1 + 1)), (((rd_T43 l1 x26_1).f1.f0)), (((rd_T43 l1 x26_1).f1.f1)), y4_, y4_, H', ⟨by have := HK1.out; have := HJ15.out; omega⟩, ⟨by (with_reducible repeat (first | refine blk_drewN ?_ _ | refine blk_drew ?_ | refine blk_alloc ?_ _)); refine blk_far ?_ NB176_184.out _; (with_reducible repeat (first | refine blk_drewN ?_ _ | refine blk_drew ?_ | refine blk_alloc ?_ _)); refine blk_far ?_ NB176_184.out _; (with_reducible repeat (first | refine blk_drewN ?_ _ | refine blk_drew ?_ | refine blk_alloc ?_ _)); exact BK176.out⟩, ⟨by (with_reducible repeat (first | refine blk_drewN ?_ _ | refine blk_drew ?_ | refine blk_alloc ?_ _)); refine blk_far ?_ NB183_184.out _; (with_reducible repeat (first | refine blk_drewN ?_ _ | refine blk_drew ?_ | refine blk_alloc ?_ _)); refine blk_far ?_ NB183_184.out _; (with_reducible repeat (first | refine blk_drewN ?_ _ | refine blk_drew ?_ | refine blk_alloc ?_ _)); exact BK183.out⟩, ⟨by (with_reducible repeat (first | refine blk_drewN ?_ _ | refine blk_drew ?_ | refine blk_alloc ?_ _)); refine blk_put (cs := #[.int .i64 ((rd_T43 l1 x26_1).f1.f0), .string x185001_1]) ?_ 1 _ rfl; (with_reducible repeat (first | refine blk_drewN ?_ _ | refine blk_drew ?_ | refine blk_alloc ?_ _)); refine blk_put (cs := #[.int .i64 x185000_1, .string x185001_1]) ?_ 0 _ rfl; (with_reducible repeat (first | refine blk_drewN ?_ _ | refine blk_drew ?_ | refine blk_alloc ?_ _)); exact BK184.out⟩, ⟨y36_⟩⟩
          ·rw [if_neg c38] at H
           have c38b0 : (((rd_T43 l1 x26_1).f1.f0) == t178) = false := beq_eq_false_iff_ne.mpr c38
           have c38b1 : (((rd_T43 l1 x26_1).f1.f0) != t178) = true := bne_iff_ne.mpr c38
           have H' := Aside0.mk H
           clear H
           have hnb48 := NB186_176.out
           have hnc48 := NB176_186.out
           have hnb49 := NB186_183.out
           have hnc49 := NB183_186.out
           have hnb50 := NB186_184.out
           have hnc50 := NB184_186.out
           have hcz51_0 : wc.cell? ⟨gb186, 0, none⟩ = some (.string ((rd_T43 l1 x26_1).f0)) := (blk_cell BK186.out 0).trans rfl
           have hcz51_1 : wc.cell? ⟨gb186, 1, none⟩ = some (.int .i64 ((rd_T43 l1 x26_1).f1.f0)) := (blk_cell BK186.out 1).trans rfl
           have hcz51_2 : wc.cell? ⟨gb186, 2, none⟩ = some (.string ((rd_T43 l1 x26_1).f1.f1)) := (blk_cell BK186.out 2).trans rfl
           have hfz51_0 := blk_frozen BK186.out 0
           have hfz51_1 := blk_frozen BK186.out 1
           have hfz51_2 := blk_frozen BK186.out 2
           have hnb52 := NB183_176.out
           have hnc52 := NB176_183.out
           have hnb53 := NB183_184.out
           have hnc53 := NB184_183.out
           have hcz54_0 : wc.cell? ⟨gb183, 0, none⟩ = some (.string t177) := (blk_cell BK183.out 0).trans rfl
           have hcz54_1 : wc.cell? ⟨gb183, 1, none⟩ = some (.int .i64 t178) := (blk_cell BK183.out 1).trans rfl
           have hcz54_2 : wc.cell? ⟨gb183, 2, none⟩ = some (.int .i64 t179) := (blk_cell BK183.out 2).trans rfl
           have hcz54_3 : wc.cell? ⟨gb183, 3, none⟩ = some (.int .u8 t180) := (blk_cell BK183.out 3).trans rfl
           have hcz54_4 : wc.cell? ⟨gb183, 4, none⟩ = some (.int .u64 t181) := (blk_cell BK183.out 4).trans rfl
           have hfz54_0 := blk_frozen BK183.out 0
           have hfz54_1 := blk_frozen BK183.out 1
           have hfz54_2 := blk_frozen BK183.out 2
           have hfz54_3 := blk_frozen BK183.out 3
           have hfz54_4 := blk_frozen BK183.out 4
           go_wp2
           go_roundg kj15
           case measure => have := HK1.out; have := HJ15.out; omega
           case rel => exact ⟨(181), (wrap64 (x26_1 + 1)), (x185000_1), (x185001_1), y4_, y4_, H', ⟨by have := HK1.out; have := HJ15.out; omega⟩, ⟨y21_⟩, ⟨y35_⟩, ⟨y34_⟩, ⟨y36_⟩⟩
      ·rw [if_neg c15] at H
       exact absurd H (by simp)
     ·rw [if_neg c14] at H
      exact absurd H (by simp)
    ·rw [if_neg c13] at H
     have c13b0 : decide (x26_1 < (l1.length : Int)) = false := decide_eq_false c13
     clear c13
     by_cases c55 : x11_1 = 0
     ·rw [if_pos c55] at H
      have c55b0 : (x11_1 == 0) = true := beq_iff_eq.mpr c55
      have c55b1 : (x11_1 != 0) = false := bne_eq_false_iff_eq.mpr c55
      clear c55
      replace H := Option.bind_eq_some_iff.mp H
      obtain ⟨t187, A560, H⟩ := H
      replace H : (if t187 = true then (if a2 ≥ t179 then (some ((⟨#[]⟩ : ByteArray), 0, 0, 0, 0, 171)) else (if (Go.bits .andNot .u8 (Go.bits .and .u8 a3 7) t180) = 0 then (some (t177, t178, t179, t180, t181, 0)) else (some ((⟨#[]⟩ : ByteArray), 0, 0, 0, 0, 172)))) else (some ((⟨#[]⟩ : ByteArray), 0, 0, 0, 0, 170))) = some (r1, r2, r3, r4, r5, r6) := H
      have A56 := Aside0.mk A560
      clear A560
      by_cases c57 : t187 = true
      ·subst c57
       have H1 : (if a2 ≥ t179 then (some ((⟨#[]⟩ : ByteArray), 0, 0, 0, 0, 171)) else (if (Go.bits .andNot .u8 (Go.bits .and .u8 a3 7) t180) = 0 then (some (t177, t178, t179, t180, t181, 0)) else (some ((⟨#[]⟩ : ByteArray), 0, 0, 0, 0, 172)))) = some (r1, r2, r3, r4, r5, r6) := by rw [if_pos rfl] at H; exact H
       clear H
       have H := H1
       clear H1
       by_cases c58 : a2 ≥ t179
       ·rw [if_pos c58] at H
        have c58b0 : decide (t179 ≤ a2) = true := decide_eq_true c58
        clear c58
        simp only [Option.some.injEq, Prod.mk.injEq] at H
        obtain ⟨rfl, rfl, rfl, rfl, rfl, rfl⟩ := H
        have hnb59 := NB184_176.out
        have hnc59 := NB176_184.out
        have hnb60 := NB184_183.out
        have hnc60 := NB183_184.out
        have hcz61_0 : wr.cell? ⟨gb184, 0, none⟩ = some (.int .i64 x185000_1) := (blk_cell BK184.out 0).trans rfl
        have hcz61_1 : wr.cell? ⟨gb184, 1, none⟩ = some (.string x185001_1) := (blk_cell BK184.out 1).trans rfl
        have hfz61_0 := blk_frozen BK184.out 0
        have hfz61_1 := blk_frozen BK184.out 1
        go_wp2_with (first | ((with_reducible refine gate_callee (f := 20) rfl ?_); refine goesL_ (some 56) rfl rfl Tryd.func20 (by kernel_rfl) rfl #[.string a0, .agg #[.int .i64 x185000_1, .string x185001_1]] rfl y2_ ?_; (with_reducible refine (token_Signed.calls k1 a0 x185000_1 x185001_1 true _ ?side1 A56.out).mono ?_); (case side1 => exact ⟨Tab_below hT.out y9_⟩); rintro e w62 ⟨rfl, hb⟩; refine ⟨_, rfl, ?_⟩; have n0_ := Aside0.mk (blk_below (g := gb176) (o := .cells #[.string (⟨#[]⟩ : ByteArray), .int .i64 0, .int .i64 0, .int .u8 0, .int .u64 0] 26 (0, 0)) y21_ hb); have n1_ := Aside0.mk (blk_below (g := gb183) (o := .cells #[.string t177, .int .i64 t178, .int .i64 t179, .int .u8 t180, .int .u64 t181] 26 (0, 0)) y35_ hb); have n2_ := Aside0.mk (blk_below (g := gb184) (o := .cells #[.int .i64 x185000_1, .string x185001_1] 23 (0, 0)) y34_ hb); have n3_ := Aside0.mk (below_step y9_ hb); clear BK176; clear BK183; clear BK184; clear HB; have BK176 := n0_; have BK183 := n1_; have BK184 := n2_; have HB := n3_; clear n0_ n1_ n2_ n3_; (try clear hb); (try clear hb2); (try clear hk); (try clear hi); have hnb63 := NB183_176.out; have hnc63 := NB176_183.out; have hcz64_0 : w62.cell? ⟨gb183, 0, none⟩ = some (.string t177) := (blk_cell BK183.out 0).trans rfl; have hcz64_1 : w62.cell? ⟨gb183, 1, none⟩ = some (.int .i64 t178) := (blk_cell BK183.out 1).trans rfl; have hcz64_2 : w62.cell? ⟨gb183, 2, none⟩ = some (.int .i64 t179) := (blk_cell BK183.out 2).trans rfl; have hcz64_3 : w62.cell? ⟨gb183, 3, none⟩ = some (.int .u8 t180) := (blk_cell BK183.out 3).trans rfl; have hcz64_4 : w62.cell? ⟨gb183, 4, none⟩ = some (.int .u64 t181) := (blk_cell BK183.out 4).trans rfl; have hfz64_0 := blk_frozen BK183.out 0; have hfz64_1 := blk_frozen BK183.out 1; have hfz64_2 := blk_frozen BK183.out 2; have hfz64_3 := blk_frozen BK183.out 3; have hfz64_4 := blk_frozen BK183.out 4; have hcz65_0 : w62.cell? ⟨gb176, 0, none⟩ = some (.string (⟨#[]⟩ : ByteArray)) := (blk_cell BK176.out 0).trans rfl; have hcz65_1 : w62.cell? ⟨gb176, 1, none⟩ = some (.int .i64 0) := (blk_cell BK176.out 1).trans rfl; have hcz65_2 : w62.cell? ⟨gb176, 2, none⟩ = some (.int .i64 0) := (blk_cell BK176.out 2).trans rfl; have hcz65_3 : w62.cell? ⟨gb176, 3, none⟩ = some (.int .u8 0) := (blk_cell BK176.out 3).trans rfl; have hcz65_4 : w62.cell? ⟨gb176, 4, none⟩ = some (.int .u64 0) := (blk_cell BK176.out 4).trans rfl; have hfz65_0 := blk_frozen BK176.out 0; have hfz65_1 := blk_frozen BK176.out 1; have hfz65_2 := blk_frozen BK176.out 2; have hfz65_3 := blk_frozen BK176.out 3; have hfz65_4 := blk_frozen BK176.out 4))
        refine bodyPost_ret (results_ct rfl _ _ gb176 26 #[.string (⟨#[]⟩ : ByteArray), .int .i64 0, .int .i64 0, .int .u8 0, .int .u64 0] (0, 0) _ rfl y8_ Tryd.underlying26 rfl (by kernel_rfl)) rfl ?_
        exact ⟨y6_, y9_⟩
       ·rw [if_neg c58] at H
        have c58b0 : decide (t179 ≤ a2) = false := decide_eq_false c58
        clear c58
        by_cases c66 : (Go.bits .andNot .u8 (Go.bits .and .u8 a3 7) t180) = 0
        ·rw [if_pos c66] at H
         have c66b0 : ((Go.bits .andNot .u8 (Go.bits .and .u8 a3 7) t180) == 0) = true := beq_iff_eq.mpr c66
         have c66b1 : ((Go.bits .andNot .u8 (Go.bits .and .u8 a3 7) t180) != 0) = false := bne_eq_false_iff_eq.mpr c66
         clear c66
         simp only [Option.some.injEq, Prod.mk.injEq] at H
         obtain ⟨rfl, rfl, rfl, rfl, rfl, rfl⟩ := H
         have hnb67 := NB184_176.out
         have hnc67 := NB176_184.out
         have hnb68 := NB184_183.out
         have hnc68 := NB183_184.out
         have hcz69_0 : wr.cell? ⟨gb184, 0, none⟩ = some (.int .i64 x185000_1) := (blk_cell BK184.out 0).trans rfl
         have hcz69_1 : wr.cell? ⟨gb184, 1, none⟩ = some (.string x185001_1) := (blk_cell BK184.out 1).trans rfl
         have hfz69_0 := blk_frozen BK184.out 0
         have hfz69_1 := blk_frozen BK184.out 1
         go_wp2_with (first | ((with_reducible refine gate_callee (f := 20) rfl ?_); refine goesL_ (some 56) rfl rfl Tryd.func20 (by kernel_rfl) rfl #[.string a0, .agg #[.int .i64 x185000_1, .string x185001_1]] rfl y2_ ?_; (with_reducible refine (token_Signed.calls k1 a0 x185000_1 x185001_1 true _ ?side1 A56.out).mono ?_); (case side1 => exact ⟨Tab_below hT.out y9_⟩); rintro e w70 ⟨rfl, hb⟩; refine ⟨_, rfl, ?_⟩; have n0_ := Aside0.mk (blk_below (g := gb176) (o := .cells #[.string (⟨#[]⟩ : ByteArray), .int .i64 0, .int .i64 0, .int .u8 0, .int .u64 0] 26 (0, 0)) y21_ hb); have n1_ := Aside0.mk (blk_below (g := gb183) (o := .cells #[.string t177, .int .i64 t178, .int .i64 t179, .int .u8 t180, .int .u64 t181] 26 (0, 0)) y35_ hb); have n2_ := Aside0.mk (blk_below (g := gb184) (o := .cells #[.int .i64 x185000_1, .string x185001_1] 23 (0, 0)) y34_ hb); have n3_ := Aside0.mk (below_step y9_ hb); clear BK176; clear BK183; clear BK184; clear HB; have BK176 := n0_; have BK183 := n1_; have BK184 := n2_; have HB := n3_; clear n0_ n1_ n2_ n3_; (try clear hb); (try clear hb2); (try clear hk); (try clear hi); have hnb71 := NB183_176.out; have hnc71 := NB176_183.out; have hcz72_0 : w70.cell? ⟨gb183, 0, none⟩ = some (.string t177) := (blk_cell BK183.out 0).trans rfl; have hcz72_1 : w70.cell? ⟨gb183, 1, none⟩ = some (.int .i64 t178) := (blk_cell BK183.out 1).trans rfl; have hcz72_2 : w70.cell? ⟨gb183, 2, none⟩ = some (.int .i64 t179) := (blk_cell BK183.out 2).trans rfl; have hcz72_3 : w70.cell? ⟨gb183, 3, none⟩ = some (.int .u8 t180) := (blk_cell BK183.out 3).trans rfl; have hcz72_4 : w70.cell? ⟨gb183, 4, none⟩ = some (.int .u64 t181) := (blk_cell BK183.out 4).trans rfl; have hfz72_0 := blk_frozen BK183.out 0; have hfz72_1 := blk_frozen BK183.out 1; have hfz72_2 := blk_frozen BK183.out 2; have hfz72_3 := blk_frozen BK183.out 3; have hfz72_4 := blk_frozen BK183.out 4; have hcz73_0 : w70.cell? ⟨gb176, 0, none⟩ = some (.string (⟨#[]⟩ : ByteArray)) := (blk_cell BK176.out 0).trans rfl; have hcz73_1 : w70.cell? ⟨gb176, 1, none⟩ = some (.int .i64 0) := (blk_cell BK176.out 1).trans rfl; have hcz73_2 : w70.cell? ⟨gb176, 2, none⟩ = some (.int .i64 0) := (blk_cell BK176.out 2).trans rfl; have hcz73_3 : w70.cell? ⟨gb176, 3, none⟩ = some (.int .u8 0) := (blk_cell BK176.out 3).trans rfl; have hcz73_4 : w70.cell? ⟨gb176, 4, none⟩ = some (.int .u64 0) := (blk_cell BK176.out 4).trans rfl; have hfz73_0 := blk_frozen BK176.out 0; have hfz73_1 := blk_frozen BK176.out 1; have hfz73_2 := blk_frozen BK176.out 2; have hfz73_3 := blk_frozen BK176.out 3; have hfz73_4 := blk_frozen BK176.out 4))
         refine bodyPost_ret (results_ct rfl _ _ gb176 26 #[.string t177, .int .i64 t178, .int .i64 t179, .int .u8 t180, .int .u64 t181] (0, 0) _ rfl (by (with_reducible repeat (first | refine blk_drewN ?_ _ | refine blk_drew ?_ | refine blk_alloc ?_ _)); refine blk_put (cs := #[.string t177, .int .i64 t178, .int .i64 t179, .int .u8 t180, .int .u64 0]) ?_ 4 _ rfl; (with_reducible repeat (first | refine blk_drewN ?_ _ | refine blk_drew ?_ | refine blk_alloc ?_ _)); refine blk_put (cs := #[.string t177, .int .i64 t178, .int .i64 t179, .int .u8 0, .int .u64 0]) ?_ 3 _ rfl; (with_reducible repeat (first | refine blk_drewN ?_ _ | refine blk_drew ?_ | refine blk_alloc ?_ _)); refine blk_put (cs := #[.string t177, .int .i64 t178, .int .i64 0, .int .u8 0, .int .u64 0]) ?_ 2 _ rfl; (with_reducible repeat (first | refine blk_drewN ?_ _ | refine blk_drew ?_ | refine blk_alloc ?_ _)); refine blk_put (cs := #[.string t177, .int .i64 0, .int .i64 0, .int .u8 0, .int .u64 0]) ?_ 1 _ rfl; (with_reducible repeat (first | refine blk_drewN ?_ _ | refine blk_drew ?_ | refine blk_alloc ?_ _)); refine blk_put (cs := #[.string (⟨#[]⟩ : ByteArray), .int .i64 0, .int .i64 0, .int .u8 0, .int .u64 0]) ?_ 0 _ rfl; (with_reducible repeat (first | refine blk_drewN ?_ _ | refine blk_drew ?_ | refine blk_alloc ?_ _)); exact BK176.out) Tryd.underlying26 rfl (by kernel_rfl)) rfl ?_
         exact ⟨y6_, y9_⟩
        ·rw [if_neg c66] at H
         have c66b0 : ((Go.bits .andNot .u8 (Go.bits .and .u8 a3 7) t180) == 0) = false := beq_eq_false_iff_ne.mpr c66
         have c66b1 : ((Go.bits .andNot .u8 (Go.bits .and .u8 a3 7) t180) != 0) = true := bne_iff_ne.mpr c66
         simp only [Option.some.injEq, Prod.mk.injEq] at H
         obtain ⟨rfl, rfl, rfl, rfl, rfl, rfl⟩ := H
         have hnb74 := NB184_176.out
         have hnc74 := NB176_184.out
         have hnb75 := NB184_183.out
         have hnc75 := NB183_184.out
         have hcz76_0 : wr.cell? ⟨gb184, 0, none⟩ = some (.int .i64 x185000_1) := (blk_cell BK184.out 0).trans rfl
         have hcz76_1 : wr.cell? ⟨gb184, 1, none⟩ = some (.string x185001_1) := (blk_cell BK184.out 1).trans rfl
         have hfz76_0 := blk_frozen BK184.out 0
         have hfz76_1 := blk_frozen BK184.out 1
         go_wp2_with (first | ((with_reducible refine gate_callee (f := 20) rfl ?_); refine goesL_ (some 56) rfl rfl Tryd.func20 (by kernel_rfl) rfl #[.string a0, .agg #[.int .i64 x185000_1, .string x185001_1]] rfl y2_ ?_; (with_reducible refine (token_Signed.calls k1 a0 x185000_1 x185001_1 true _ ?side1 A56.out).mono ?_); (case side1 => exact ⟨Tab_below hT.out y9_⟩); rintro e w77 ⟨rfl, hb⟩; refine ⟨_, rfl, ?_⟩; have n0_ := Aside0.mk (blk_below (g := gb176) (o := .cells #[.string (⟨#[]⟩ : ByteArray), .int .i64 0, .int .i64 0, .int .u8 0, .int .u64 0] 26 (0, 0)) y21_ hb); have n1_ := Aside0.mk (blk_below (g := gb183) (o := .cells #[.string t177, .int .i64 t178, .int .i64 t179, .int .u8 t180, .int .u64 t181] 26 (0, 0)) y35_ hb); have n2_ := Aside0.mk (blk_below (g := gb184) (o := .cells #[.int .i64 x185000_1, .string x185001_1] 23 (0, 0)) y34_ hb); have n3_ := Aside0.mk (below_step y9_ hb); clear BK176; clear BK183; clear BK184; clear HB; have BK176 := n0_; have BK183 := n1_; have BK184 := n2_; have HB := n3_; clear n0_ n1_ n2_ n3_; (try clear hb); (try clear hb2); (try clear hk); (try clear hi); have hnb78 := NB183_176.out; have hnc78 := NB176_183.out; have hcz79_0 : w77.cell? ⟨gb183, 0, none⟩ = some (.string t177) := (blk_cell BK183.out 0).trans rfl; have hcz79_1 : w77.cell? ⟨gb183, 1, none⟩ = some (.int .i64 t178) := (blk_cell BK183.out 1).trans rfl; have hcz79_2 : w77.cell? ⟨gb183, 2, none⟩ = some (.int .i64 t179) := (blk_cell BK183.out 2).trans rfl; have hcz79_3 : w77.cell? ⟨gb183, 3, none⟩ = some (.int .u8 t180) := (blk_cell BK183.out 3).trans rfl; have hcz79_4 : w77.cell? ⟨gb183, 4, none⟩ = some (.int .u64 t181) := (blk_cell BK183.out 4).trans rfl; have hfz79_0 := blk_frozen BK183.out 0; have hfz79_1 := blk_frozen BK183.out 1; have hfz79_2 := blk_frozen BK183.out 2; have hfz79_3 := blk_frozen BK183.out 3; have hfz79_4 := blk_frozen BK183.out 4; have hcz80_0 : w77.cell? ⟨gb176, 0, none⟩ = some (.string (⟨#[]⟩ : ByteArray)) := (blk_cell BK176.out 0).trans rfl; have hcz80_1 : w77.cell? ⟨gb176, 1, none⟩ = some (.int .i64 0) := (blk_cell BK176.out 1).trans rfl; have hcz80_2 : w77.cell? ⟨gb176, 2, none⟩ = some (.int .i64 0) := (blk_cell BK176.out 2).trans rfl; have hcz80_3 : w77.cell? ⟨gb176, 3, none⟩ = some (.int .u8 0) := (blk_cell BK176.out 3).trans rfl; have hcz80_4 : w77.cell? ⟨gb176, 4, none⟩ = some (.int .u64 0) := (blk_cell BK176.out 4).trans rfl; have hfz80_0 := blk_frozen BK176.out 0; have hfz80_1 := blk_frozen BK176.out 1; have hfz80_2 := blk_frozen BK176.out 2; have hfz80_3 := blk_frozen BK176.out 3; have hfz80_4 := blk_frozen BK176.out 4))
         refine bodyPost_ret (results_ct rfl _ _ gb176 26 #[.string (⟨#[]⟩ : ByteArray), .int .i64 0, .int .i64 0, .int .u8 0, .int .u64 0] (0, 0) _ rfl y8_ Tryd.underlying26 rfl (by kernel_rfl)) rfl ?_
         exact ⟨y6_, y9_⟩
      ·replace c57 := Bool.eq_false_iff.mpr c57
       subst c57
       have H1 : (some ((⟨#[]⟩ : ByteArray), 0, 0, 0, 0, 170)) = some (r1, r2, r3, r4, r5, r6) := by rw [if_neg (show ¬ (false = true) by decide)] at H; exact H
       clear H
       have H := H1
       clear H1
       simp only [Option.some.injEq, Prod.mk.injEq] at H
       obtain ⟨rfl, rfl, rfl, rfl, rfl, rfl⟩ := H
       have hnb81 := NB184_176.out
       have hnc81 := NB176_184.out
       have hnb82 := NB184_183.out
       have hnc82 := NB183_184.out
       have hcz83_0 : wr.cell? ⟨gb184, 0, none⟩ = some (.int .i64 x185000_1) := (blk_cell BK184.out 0).trans rfl
       have hcz83_1 : wr.cell? ⟨gb184, 1, none⟩ = some (.string x185001_1) := (blk_cell BK184.out 1).trans rfl
       have hfz83_0 := blk_frozen BK184.out 0
       have hfz83_1 := blk_frozen BK184.out 1
       go_wp2_with (first | ((with_reducible refine gate_callee (f := 20) rfl ?_); refine goesL_ (some 56) rfl rfl Tryd.func20 (by kernel_rfl) rfl #[.string a0, .agg #[.int .i64 x185000_1, .string x185001_1]] rfl y2_ ?_; (with_reducible refine (token_Signed.calls k1 a0 x185000_1 x185001_1 false _ ?side1 A56.out).mono ?_); (case side1 => exact ⟨Tab_below hT.out y9_⟩); rintro e w84 ⟨rfl, hb⟩; refine ⟨_, rfl, ?_⟩; have n0_ := Aside0.mk (blk_below (g := gb176) (o := .cells #[.string (⟨#[]⟩ : ByteArray), .int .i64 0, .int .i64 0, .int .u8 0, .int .u64 0] 26 (0, 0)) y21_ hb); have n1_ := Aside0.mk (blk_below (g := gb183) (o := .cells #[.string t177, .int .i64 t178, .int .i64 t179, .int .u8 t180, .int .u64 t181] 26 (0, 0)) y35_ hb); have n2_ := Aside0.mk (blk_below (g := gb184) (o := .cells #[.int .i64 x185000_1, .string x185001_1] 23 (0, 0)) y34_ hb); have n3_ := Aside0.mk (below_step y9_ hb); clear BK176; clear BK183; clear BK184; clear HB; have BK176 := n0_; have BK183 := n1_; have BK184 := n2_; have HB := n3_; clear n0_ n1_ n2_ n3_; (try clear hb); (try clear hb2); (try clear hk); (try clear hi); have hnb85 := NB176_183.out; have hnc85 := NB183_176.out; have hcz86_0 : w84.cell? ⟨gb176, 0, none⟩ = some (.string (⟨#[]⟩ : ByteArray)) := (blk_cell BK176.out 0).trans rfl; have hcz86_1 : w84.cell? ⟨gb176, 1, none⟩ = some (.int .i64 0) := (blk_cell BK176.out 1).trans rfl; have hcz86_2 : w84.cell? ⟨gb176, 2, none⟩ = some (.int .i64 0) := (blk_cell BK176.out 2).trans rfl; have hcz86_3 : w84.cell? ⟨gb176, 3, none⟩ = some (.int .u8 0) := (blk_cell BK176.out 3).trans rfl; have hcz86_4 : w84.cell? ⟨gb176, 4, none⟩ = some (.int .u64 0) := (blk_cell BK176.out 4).trans rfl; have hfz86_0 := blk_frozen BK176.out 0; have hfz86_1 := blk_frozen BK176.out 1; have hfz86_2 := blk_frozen BK176.out 2; have hfz86_3 := blk_frozen BK176.out 3; have hfz86_4 := blk_frozen BK176.out 4))
       refine bodyPost_ret (results_ct rfl _ _ gb176 26 #[.string (⟨#[]⟩ : ByteArray), .int .i64 0, .int .i64 0, .int .u8 0, .int .u64 0] (0, 0) _ rfl y8_ Tryd.underlying26 rfl (by kernel_rfl)) rfl ?_
       exact ⟨y6_, y9_⟩
     ·rw [if_neg c55] at H
      have c55b0 : (x11_1 == 0) = false := beq_eq_false_iff_ne.mpr c55
      have c55b1 : (x11_1 != 0) = true := bne_iff_ne.mpr c55
      simp only [Option.some.injEq, Prod.mk.injEq] at H
      obtain ⟨rfl, rfl, rfl, rfl, rfl, rfl⟩ := H
      have hnb87 := NB176_183.out
      have hnc87 := NB183_176.out
      have hnb88 := NB176_184.out
      have hnc88 := NB184_176.out
      have hcz89_0 : wr.cell? ⟨gb176, 0, none⟩ = some (.string (⟨#[]⟩ : ByteArray)) := (blk_cell BK176.out 0).trans rfl
      have hcz89_1 : wr.cell? ⟨gb176, 1, none⟩ = some (.int .i64 0) := (blk_cell BK176.out 1).trans rfl
      have hcz89_2 : wr.cell? ⟨gb176, 2, none⟩ = some (.int .i64 0) := (blk_cell BK176.out 2).trans rfl
      have hcz89_3 : wr.cell? ⟨gb176, 3, none⟩ = some (.int .u8 0) := (blk_cell BK176.out 3).trans rfl
      have hcz89_4 : wr.cell? ⟨gb176, 4, none⟩ = some (.int .u64 0) := (blk_cell BK176.out 4).trans rfl
      have hfz89_0 := blk_frozen BK176.out 0
      have hfz89_1 := blk_frozen BK176.out 1
      have hfz89_2 := blk_frozen BK176.out 2
      have hfz89_3 := blk_frozen BK176.out 3
      have hfz89_4 := blk_frozen BK176.out 4
      go_wp2
      refine bodyPost_ret (results_ct rfl _ _ gb176 26 #[.string (⟨#[]⟩ : ByteArray), .int .i64 0, .int .i64 0, .int .u8 0, .int .u64 0] (0, 0) _ rfl y8_ Tryd.underlying26 rfl (by kernel_rfl)) rfl ?_
      exact ⟨y6_, y9_⟩
 ·rw [if_neg c6] at H
  have c6b0 : (t182 == 0) = false := beq_eq_false_iff_ne.mpr c6
  have c6b1 : (t182 != 0) = true := bne_iff_ne.mpr c6
  simp only [Option.some.injEq, Prod.mk.injEq] at H
  obtain ⟨rfl, rfl, rfl, rfl, rfl, rfl⟩ := H
  go_enter Tryd.func23, Tryd.ntmps23
  go_wp2_with (first | ((with_reducible refine gate_dst (N := 8) rfl ?_); refine box_event ?hg (N := 8) ?hd (cs := #[.string (⟨#[]⟩ : ByteArray), .int .i64 0, .int .i64 0, .int .u8 0, .int .u64 0]) (t := 26) ?hr ?_; (case hd => rfl); (case hg => rfl); (case hr => first | (go_simp; done) | (go_simp; rfl)); intro gb176 hg w90 hbox hb; have n0_ := Aside0.mk (below_step y1_ hb); have n1_ := Aside0.mk (hbox); have n2_ := Aside0.mk ((y29_ : w.heap.size ≤ gb176)); have n3_ := Aside0.mk ((y29_ : w.heap.size ≤ gb176)); clear HB; have HB := n0_; have BK176 := n1_; have GW176 := n2_; have GE176 := n3_; clear n0_ n1_ n2_ n3_; clear hb hbox hg) | ((with_reducible refine gate_callee (f := 18) rfl ?_); refine goesL_ (some 17) rfl rfl Tryd.func18 (by kernel_rfl) rfl #[.string a0] rfl y2_ ?_; (with_reducible refine (token_Read.calls k a0 t177 t178 t179 t180 t181 t182 _ A5.out).mono ?_); rintro e w91 ⟨rfl, hb⟩; refine ⟨_, rfl, ?_⟩; have n0_ := Aside0.mk (blk_below (g := gb176) (o := .cells #[.string (⟨#[]⟩ : ByteArray), .int .i64 0, .int .i64 0, .int .u8 0, .int .u64 0] 26 (0, 0)) y21_ hb); have n1_ := Aside0.mk (below_step y33_ hb); clear BK176; clear HB; have BK176 := n0_; have HB := n1_; clear n0_ n1_; (try clear hb); (try clear hb2); (try clear hk); (try clear hi)) | ((with_reducible refine gate_dst (N := 10) rfl ?_); refine box_event ?hg (N := 10) ?hd (cs := #[.string (⟨#[]⟩ : ByteArray), .int .i64 0, .int .i64 0, .int .u8 0, .int .u64 0]) (t := 26) ?hr ?_; (case hd => rfl); (case hg => rfl); (case hr => first | (go_simp; done) | (go_simp; rfl)); intro gb183 hg w92 hbox hb; have n0_ := Aside0.mk (blk_below (g := gb176) (o := .cells #[.string (⟨#[]⟩ : ByteArray), .int .i64 0, .int .i64 0, .int .u8 0, .int .u64 0] 26 (0, 0)) y21_ hb); have n1_ := Aside0.mk (below_step y33_ hb); have n2_ := Aside0.mk (hbox); have n3_ := Aside0.mk ((by rw [hg]; exact (below_size y33_) : w.heap.size ≤ gb183)); have n4_ := Aside0.mk ((by rw [hg]; exact (below_size y33_) : w.heap.size ≤ gb183)); have n5_ := Aside0.mk ((y72_ : gb176 ≠ gb183)); have n6_ := Aside0.mk ((y74_ : gb183 ≠ gb176)); clear BK176; clear HB; have BK176 := n0_; have HB := n1_; have BK183 := n2_; have GW183 := n3_; have GE183 := n4_; have NB176_183 := n5_; have NB183_176 := n6_; clear n0_ n1_ n2_ n3_ n4_ n5_ n6_; clear hb hbox hg; have hnb93 := NB183_176.out; have hnc93 := NB176_183.out; have hcz94_0 : w92.cell? ⟨gb183, 0, none⟩ = some (.string (⟨#[]⟩ : ByteArray)) := (blk_cell BK183.out 0).trans rfl; have hcz94_1 : w92.cell? ⟨gb183, 1, none⟩ = some (.int .i64 0) := (blk_cell BK183.out 1).trans rfl; have hcz94_2 : w92.cell? ⟨gb183, 2, none⟩ = some (.int .i64 0) := (blk_cell BK183.out 2).trans rfl; have hcz94_3 : w92.cell? ⟨gb183, 3, none⟩ = some (.int .u8 0) := (blk_cell BK183.out 3).trans rfl; have hcz94_4 : w92.cell? ⟨gb183, 4, none⟩ = some (.int .u64 0) := (blk_cell BK183.out 4).trans rfl; have hfz94_0 := blk_frozen BK183.out 0; have hfz94_1 := blk_frozen BK183.out 1; have hfz94_2 := blk_frozen BK183.out 2; have hfz94_3 := blk_frozen BK183.out 3; have hfz94_4 := blk_frozen BK183.out 4; have hcz95_0 : w92.cell? ⟨gb176, 0, none⟩ = some (.string (⟨#[]⟩ : ByteArray)) := (blk_cell BK176.out 0).trans rfl; have hcz95_1 : w92.cell? ⟨gb176, 1, none⟩ = some (.int .i64 0) := (blk_cell BK176.out 1).trans rfl; have hcz95_2 : w92.cell? ⟨gb176, 2, none⟩ = some (.int .i64 0) := (blk_cell BK176.out 2).trans rfl; have hcz95_3 : w92.cell? ⟨gb176, 3, none⟩ = some (.int .u8 0) := (blk_cell BK176.out 3).trans rfl; have hcz95_4 : w92.cell? ⟨gb176, 4, none⟩ = some (.int .u64 0) := (blk_cell BK176.out 4).trans rfl; have hfz95_0 := blk_frozen BK176.out 0; have hfz95_1 := blk_frozen BK176.out 1; have hfz95_2 := blk_frozen BK176.out 2; have hfz95_3 := blk_frozen BK176.out 3; have hfz95_4 := blk_frozen BK176.out 4))
  refine bodyPost_ret (results_ct rfl _ _ gb176 26 #[.string (⟨#[]⟩ : ByteArray), .int .i64 0, .int .i64 0, .int .u8 0, .int .u64 0] (0, 0) _ rfl (by (with_reducible repeat (first | refine blk_drewN ?_ _ | refine blk_drew ?_ | refine blk_alloc ?_ _)); refine blk_put (cs := #[.string (⟨#[]⟩ : ByteArray), .int .i64 0, .int .i64 0, .int .u8 0, .int .u64 0]) ?_ 4 _ rfl; (with_reducible repeat (first | refine blk_drewN ?_ _ | refine blk_drew ?_ | refine blk_alloc ?_ _)); refine blk_put (cs := #[.string (⟨#[]⟩ : ByteArray), .int .i64 0, .int .i64 0, .int .u8 0, .int .u64 0]) ?_ 3 _ rfl; (with_reducible repeat (first | refine blk_drewN ?_ _ | refine blk_drew ?_ | refine blk_alloc ?_ _)); refine blk_put (cs := #[.string (⟨#[]⟩ : ByteArray), .int .i64 0, .int .i64 0, .int .u8 0, .int .u64 0]) ?_ 2 _ rfl; (with_reducible repeat (first | refine blk_drewN ?_ _ | refine blk_drew ?_ | refine blk_alloc ?_ _)); refine blk_put (cs := #[.string (⟨#[]⟩ : ByteArray), .int .i64 0, .int .i64 0, .int .u8 0, .int .u64 0]) ?_ 1 _ rfl; (with_reducible repeat (first | refine blk_drewN ?_ _ | refine blk_drew ?_ | refine blk_alloc ?_ _)); refine blk_put (cs := #[.string (⟨#[]⟩ : ByteArray), .int .i64 0, .int .i64 0, .int .u8 0, .int .u64 0]) ?_ 0 _ rfl; (with_reducible repeat (first | refine blk_drewN ?_ _ | refine blk_drew ?_ | refine blk_alloc ?_ _)); refine blk_far ?_ NB176_183.out _; (with_reducible repeat (first | refine blk_drewN ?_ _ | refine blk_drew ?_ | refine blk_alloc ?_ _)); refine blk_far ?_ NB176_183.out _; (with_reducible repeat (first | refine blk_drewN ?_ _ | refine blk_drew ?_ | refine blk_alloc ?_ _)); refine blk_far ?_ NB176_183.out _; (with_reducible repeat (first | refine blk_drewN ?_ _ | refine blk_drew ?_ | refine blk_alloc ?_ _)); refine blk_far ?_ NB176_183.out _; (with_reducible repeat (first | refine blk_drewN ?_ _ | refine blk_drew ?_ | refine blk_alloc ?_ _)); refine blk_far ?_ NB176_183.out _; (with_reducible repeat (first | refine blk_drewN ?_ _ | refine blk_drew ?_ | refine blk_alloc ?_ _)); exact BK176.out) Tryd.underlying26 rfl (by kernel_rfl)) rfl ?_
  exact ⟨y6_, y49_⟩
end Go.Proofs.YtkkomfomjpcbfaaDoor.PTS
