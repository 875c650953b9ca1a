import Derived.Test.YtkkomfomjpcbfaaDoorSTokenVerifiesH14
import Derived.Test.YtkkomfomjpcbfaaDoorSTokenVerifiesPTSx6
import Derived.Laws.RangeAny
import Derived.Lib.OthersKept
import Derived.Test.YtkkomfomjpcbfaaDoorSTokenVerifiesE1
import Derived.Test.YtkkomfomjpcbfaaDoorSTokenVerifiesWGuard
import Derived.Test.YtkkomfomjpcbfaaDoorSTokenVerifiesTM
import Derived.Test.YtkkomfomjpcbfaaDoorSTokenVerifiesTT
import Derived.Test.YtkkomfomjpcbfaaDoorSTokenVerifiesY
set_option linter.unusedVariables false
set_option linter.unusedSimpArgs false
namespace Go.Proofs.YtkkomfomjpcbfaaDoor.PTS
open Go.RowKit Go.Proofs.YtkkomfomjpcbfaaDoorW.PrintWords Go.Proofs.YtkkomfomjpcbfaaDoorW.PrintLast Go.Proofs.YtkkomfomjpcbfaaDoorW.PrintMore
attribute [local go_sem] kQ kO kW kV kG kF kP kN
mutual
def token_Verify.l0 : Nat → ByteArray → Int → Int → Int → List (S43) → Int → Int → ByteArray → Int → Int → Int → Int → Int → ByteArray → Option (ByteArray × Int × Int × Int × Int × Int)
 | 0, _, _, _, _, _, _, _, _, _, _, _, _, _, _ => none
 | k + 1, x0, x2, x3, x11, x24, x25, x26, x184000, x184001, x184002, x184003, x184004, x185000, x185001 => if x26 < x25 then (if 0 ≤ x26 then (if x26 < (x24.length : Int) then (if ((rd_T43 x24 x26).f0).toList = x184000.toList then (token_Verify.j1 k x0 x2 x3 x11 x24 x25 x26 (x11 == 0) x184000 x184001 x184002 x184003 x184004 x185000 x185001 ((rd_T43 x24 x26).f0) ((rd_T43 x24 x26).f1.f0) ((rd_T43 x24 x26).f1.f1)) else (token_Verify.j1 k x0 x2 x3 x11 x24 x25 x26 true x184000 x184001 x184002 x184003 x184004 x185000 x185001 ((rd_T43 x24 x26).f0) ((rd_T43 x24 x26).f1.f0) ((rd_T43 x24 x26).f1.f1))) else (none)) else (none)) else (if x11 = 0 then ((token_Signed.f k x0 x185000 x185001).bind fun t187 => (if t187 = true then (if x2 ≥ x184002 then (some ((⟨#[]⟩ : ByteArray), 0, 0, 0, 0, 171)) else (if (Go.bits .andNot .u8 (Go.bits .and .u8 x3 7) x184003) = 0 then (some (x184000, x184001, x184002, x184003, x184004, 0)) else (some ((⟨#[]⟩ : ByteArray), 0, 0, 0, 0, 172)))) else (some ((⟨#[]⟩ : ByteArray), 0, 0, 0, 0, 170)))) else (some ((⟨#[]⟩ : ByteArray), 0, 0, 0, 0, x11)))
def token_Verify.j1 : Nat → ByteArray → Int → Int → Int → List (S43) → Int → Int → Bool → ByteArray → Int → Int → Int → Int → Int → ByteArray → ByteArray → Int → ByteArray → Option (ByteArray × Int × Int × Int × Int × Int)
 | 0, _, _, _, _, _, _, _, _, _, _, _, _, _, _, _, _, _, _ => none
 | k + 1, x0, x2, x3, x11, x24, x25, x26, x38, x184000, x184001, x184002, x184003, x184004, x185000, x185001, x187000, x187001, x187002 => if x38 = true then (token_Verify.l0 k x0 x2 x3 x11 x24 x25 (wrap64 (x26 + 1)) x184000 x184001 x184002 x184003 x184004 x185000 x185001) else (if x187001 = x184001 then (token_Verify.l0 k x0 x2 x3 0 x24 x25 (wrap64 (x26 + 1)) x184000 x184001 x184002 x184003 x184004 x187001 x187002) else (token_Verify.l0 k x0 x2 x3 181 x24 x25 (wrap64 (x26 + 1)) x184000 x184001 x184002 x184003 x184004 x185000 x185001))
end
def token_Verify.f (k : Nat) (a0 : ByteArray) (l1 : List (S43)) (a2 : Int) (a3 : Int) : Option (ByteArray × Int × Int × Int × Int × Int) := (token_Read.f k a0).bind fun bt177 => (if bt177.2.2.2.2.2 = 0 then (token_Verify.l0 k a0 a2 a3 180 l1 (l1.length : Int) 0 bt177.1 bt177.2.1 bt177.2.2.1 bt177.2.2.2.1 bt177.2.2.2.2.1 0 (⟨#[]⟩ : ByteArray)) else (some ((⟨#[]⟩ : ByteArray), 0, 0, 0, 0, bt177.2.2.2.2.2)))
theorem token_Verify.mono_l : ∀ k, (∀ y0 y1 y2 y3 y4 y5 y6 y7 y8 y9 y10 y11 y12 y13, LeO (token_Verify.l0 k y0 y1 y2 y3 y4 y5 y6 y7 y8 y9 y10 y11 y12 y13) (token_Verify.l0 (k + 1) y0 y1 y2 y3 y4 y5 y6 y7 y8 y9 y10 y11 y12 y13)) ∧ (∀ y0 y1 y2 y3 y4 y5 y6 y7 y8 y9 y10 y11 y12 y13 y14 y15 y16 y17, LeO (token_Verify.j1 k y0 y1 y2 y3 y4 y5 y6 y7 y8 y9 y10 y11 y12 y13 y14 y15 y16 y17) (token_Verify.j1 (k + 1) y0 y1 y2 y3 y4 y5 y6 y7 y8 y9 y10 y11 y12 y13 y14 y15 y16 y17))
 | 0 => ⟨fun _ _ _ _ _ _ _ _ _ _ _ _ _ _ r h => by simp [token_Verify.l0] at h, fun _ _ _ _ _ _ _ _ _ _ _ _ _ _ _ _ _ _ r h => by simp [token_Verify.j1] at h⟩
 | k + 1 => by
  obtain ⟨ih0, ih1⟩ := token_Verify.mono_l k; refine ⟨?_, ?_⟩
  ·intro y0 y1 y2 y3 y4 y5 y6 y7 y8 y9 y10 y11 y12 y13
   unfold token_Verify.l0
   repeat' first
   | (with_reducible exact ih0 _ _ _ _ _ _ _ _ _ _ _ _ _ _)
   | (with_reducible exact ih1 _ _ _ _ _ _ _ _ _ _ _ _ _ _ _ _ _ _)
   | (with_reducible exact token_Read.mono _ _)
   | (with_reducible exact token_Signed.mono _ _ _ _)
   | (with_reducible exact LeO.refl _)
   | (with_reducible exact LeO.none _)
   | (with_reducible refine LeO.ite ?_ ?_)
   | (with_reducible refine LeO.bind ?_ (fun _ => ?_))
   | exact ih0 _ _ _ _ _ _ _ _ _ _ _ _ _ _
   | exact ih1 _ _ _ _ _ _ _ _ _ _ _ _ _ _ _ _ _ _
   | exact token_Read.mono _ _
   | exact token_Signed.mono _ _ _ _
   | exact LeO.none _
   | refine LeO.ite ?_ ?_
   | refine LeO.bind ?_ (fun _ => ?_)
  ·intro y0 y1 y2 y3 y4 y5 y6 y7 y8 y9 y10 y11 y12 y13 y14 y15 y16 y17
   unfold token_Verify.j1
   repeat' first
   | (with_reducible exact ih0 _ _ _ _ _ _ _ _ _ _ _ _ _ _)
   | (with_reducible exact ih1 _ _ _ _ _ _ _ _ _ _ _ _ _ _ _ _ _ _)
   | (with_reducible exact token_Read.mono _ _)
   | (with_reducible exact token_Signed.mono _ _ _ _)
   | (with_reducible exact LeO.refl _)
   | (with_reducible exact LeO.none _)
   | (with_reducible refine LeO.ite ?_ ?_)
   | (with_reducible refine LeO.bind ?_ (fun _ => ?_))
   | exact ih0 _ _ _ _ _ _ _ _ _ _ _ _ _ _
   | exact ih1 _ _ _ _ _ _ _ _ _ _ _ _ _ _ _ _ _ _
   | exact token_Read.mono _ _
   | exact token_Signed.mono _ _ _ _
   | exact LeO.none _
   | refine LeO.ite ?_ ?_
   | refine LeO.bind ?_ (fun _ => ?_)
theorem token_Verify.mono : ∀ a0 a1 a2 a3 k, LeO (token_Verify.f k a0 a1 a2 a3) (token_Verify.f (k + 1) a0 a1 a2 a3) := by
 intro a0 a1 a2 a3 k; obtain ⟨ih0, ih1⟩ := token_Verify.mono_l k
 unfold token_Verify.f
 repeat' first
   | (with_reducible exact ih0 _ _ _ _ _ _ _ _ _ _ _ _ _ _)
   | (with_reducible exact ih1 _ _ _ _ _ _ _ _ _ _ _ _ _ _ _ _ _ _)
   | (with_reducible exact token_Read.mono _ _)
   | (with_reducible exact token_Signed.mono _ _ _ _)
   | (with_reducible exact LeO.refl _)
   | (with_reducible exact LeO.none _)
   | (with_reducible refine LeO.ite ?_ ?_)
   | (with_reducible refine LeO.bind ?_ (fun _ => ?_))
   | exact ih0 _ _ _ _ _ _ _ _ _ _ _ _ _ _
   | exact ih1 _ _ _ _ _ _ _ _ _ _ _ _ _ _ _ _ _ _
   | exact token_Read.mono _ _
   | exact token_Signed.mono _ _ _ _
   | exact LeO.none _
   | refine LeO.ite ?_ ?_
   | refine LeO.bind ?_ (fun _ => ?_)
set_option maxHeartbeats 8000000 in
set_option maxRecDepth 100000 in
theorem token_Verify.calls (k : Nat) (a0 : ByteArray) (A1 : Option Addr) (c1 : Nat) (l1 : List (S43)) (a2 : Int) (a3 : Int) (r1 : ByteArray) (r2 : Int) (r3 : Int) (r4 : Int) (r5 : Int) (r6 : Int) (w : World) (hT : Aside0 (Tab w)) (hr1 : Kd.C k43 w A1 l1.length l1) (hc1 : l1.length ≤ c1) (h : token_Verify.f k a0 l1 a2 a3 = some (r1, r2, r3, r4, r5, r6)) :
  Calls Tryd.prog 23 #[.string a0, .slice A1 l1.length c1, .int .i64 a2, .int .u8 a3] w fun e w' => e = .returned (.tuple #[.agg #[.string r1, .int .i64 r2, .int .i64 r3, .int .u8 r4, .int .u64 r5], .int .i64 r6]) ∧ Below w.heap.size w w' := by
 have hu26 := Tryd.underlying26; have hu23 := Tryd.underlying23; have hu43 := Tryd.underlying43; have HR1 := Aside0.mk hr1; have HC1 := Aside0.mk hc1; clear hr1 hc1; have HB := am_ (Below.refl w.heap.size w); have H : ((token_Read.f k a0).bind fun bt177 => (if bt177.2.2.2.2.2 = 0 then (token_Verify.l0 k a0 a2 a3 180 l1 (l1.length : Int) 0 bt177.1 bt177.2.1 bt177.2.2.1 bt177.2.2.2.1 bt177.2.2.2.2.1 0 (⟨#[]⟩ : ByteArray)) else (some ((⟨#[]⟩ : ByteArray), 0, 0, 0, 0, bt177.2.2.2.2.2)))) = some (r1, r2, r3, r4, r5, r6) := h; clear h; replace H := Option.bind_eq_some_iff.mp H; obtain ⟨⟨t177, t178, t179, t180, t181, t182⟩, A50, H⟩ := H; replace H : (if t182 = 0 then (token_Verify.l0 k a0 a2 a3 180 l1 (l1.length : Int) 0 t177 t178 t179 t180 t181 0 (⟨#[]⟩ : ByteArray)) else (some ((⟨#[]⟩ : ByteArray), 0, 0, 0, 0, t182))) = some (r1, r2, r3, r4, r5, r6) := H; have A5 := Aside0.mk A50; clear A50
 by_cases c6 : t182 = 0
 ·rw [if_pos c6] at H; have c6b0 : (t182 == 0) = true := beq_iff_eq.mpr c6; have c6b1 : (t182 != 0) = false := bne_eq_false_iff_eq.mpr c6; clear c6; have H' := Aside0.mk H; clear H; go_enter Tryd.func23, Tryd.ntmps23
  go_wp2_with (first | ((with_reducible refine ko (N := 8) rfl ?_); refine kn ?hg (N := 8) ?hd (cs := #[.string (⟨#[]⟩ : ByteArray), .int .i64 0, .int .i64 0, .int .u8 0, .int .u64 0]) (t := 26) ?hr ?_; (case hd => rfl); (case hg => rfl); (case hr => first | (go_simp; done) | (go_simp; rfl)); intro gb176 hg w7 hbox hb; have BK176 := am_ (hbox); have GW176 := am_ ((y31_ : w.heap.size ≤ gb176)); have GE176 := am_ ((y31_ : w.heap.size ≤ gb176)); replace HB := am_ (ke y1_ hb); clear hb hbox hg) | ((with_reducible refine kj (f := 18) rfl ?_); refine kw (some 17) rfl rfl Tryd.func18 (by kernel_rfl) rfl #[.string a0] rfl y2_ ?_; (with_reducible refine (token_Read.calls k a0 t177 t178 t179 t180 t181 t182 _ A5.out).mono ?_); rintro e w8 ⟨rfl, hb⟩; refine ⟨_, rfl, ?_⟩; replace BK176 := am_ (ki (g := gb176) (o := .cells #[.string (⟨#[]⟩ : ByteArray), .int .i64 0, .int .i64 0, .int .u8 0, .int .u64 0] 26 (0, 0)) y30_ hb); replace HB := am_ (ke y51_ hb); (try clear hb); (try clear hb2); (try clear hk); (try clear hi)) | ((with_reducible refine ko (N := 10) rfl ?_); refine kn ?hg (N := 10) ?hd (cs := #[.string (⟨#[]⟩ : ByteArray), .int .i64 0, .int .i64 0, .int .u8 0, .int .u64 0]) (t := 26) ?hr ?_; (case hd => rfl); (case hg => rfl); (case hr => first | (go_simp; done) | (go_simp; rfl)); intro gb183 hg w9 hbox hb; have BK183 := am_ (hbox); have GW183 := am_ ((by rw [hg]; exact (km y51_) : w.heap.size ≤ gb183)); have GE183 := am_ ((by rw [hg]; exact (km y51_) : w.heap.size ≤ gb183)); replace HB := am_ (ke y51_ hb); have NB176_183 := am_ ((y110_ : gb176 ≠ gb183)); have NB183_176 := am_ ((y112_ : gb183 ≠ gb176)); replace BK176 := am_ (ki (g := gb176) (o := .cells #[.string (⟨#[]⟩ : ByteArray), .int .i64 0, .int .i64 0, .int .u8 0, .int .u64 0] 26 (0, 0)) y30_ hb); clear hb hbox hg; have hnb10 := NB183_176.out; have hnc10 := NB176_183.out; obtain ⟨hcz11_0, hcz11_1, hcz11_2, hcz11_3, hcz11_4, hfz11_0, hfz11_1, hfz11_2, hfz11_3, hfz11_4⟩ := pd5_ BK183.out) | ((with_reducible refine ko (N := 12) rfl ?_); refine kn ?hg (N := 12) ?hd (cs := #[.int .i64 0, .string (⟨#[]⟩ : ByteArray)]) (t := 23) ?hr ?_; (case hd => rfl); (case hg => rfl); (case hr => first | (go_simp; done) | (go_simp; rfl)); intro gb184 hg w12 hbox hb; have BK184 := am_ (hbox); have GW184 := am_ ((by rw [hg]; exact (km y78_) : w.heap.size ≤ gb184)); have GE184 := am_ ((by rw [hg]; exact (km y78_) : w.heap.size ≤ gb184)); replace HB := am_ (ke y78_ hb); have NB176_184 := am_ ((by rw [hg]; exact Nat.ne_of_lt (ky (g := gb176) (o := .cells #[.string (⟨#[]⟩ : ByteArray), .int .i64 0, .int .i64 0, .int .u8 0, .int .u64 0] 26 (0, 0)) y36_) : gb176 ≠ gb184)); have NB184_176 := am_ ((by rw [hg]; exact Nat.ne_of_gt (ky (g := gb176) (o := .cells #[.string (⟨#[]⟩ : ByteArray), .int .i64 0, .int .i64 0, .int .u8 0, .int .u64 0] 26 (0, 0)) y36_) : gb184 ≠ gb176)); replace BK176 := am_ (ki (g := gb176) (o := .cells #[.string (⟨#[]⟩ : ByteArray), .int .i64 0, .int .i64 0, .int .u8 0, .int .u64 0] 26 (0, 0)) y36_ hb); have NB183_184 := am_ ((by rw [hg]; exact Nat.ne_of_lt (ky (g := gb183) (o := .cells #[.string t177, .int .i64 t178, .int .i64 t179, .int .u8 t180, .int .u64 t181] 26 (0, 0)) y26_) : gb183 ≠ gb184)); have NB184_183 := am_ ((by rw [hg]; exact Nat.ne_of_gt (ky (g := gb183) (o := .cells #[.string t177, .int .i64 t178, .int .i64 t179, .int .u8 t180, .int .u64 t181] 26 (0, 0)) y26_) : gb184 ≠ gb183)); replace BK183 := am_ (ki (g := gb183) (o := .cells #[.string t177, .int .i64 t178, .int .i64 t179, .int .u8 t180, .int .u64 t181] 26 (0, 0)) y26_ hb); clear hb hbox hg))
  go_loopg [11, 26] k (fun kq v11 v26 w' => ∃ (x11_1 : Int) (x26_1 : Int) (x185000_1 : Int) (x185001_1 : ByteArray), v11 = .int .i64 x11_1 ∧ v26 = .int .i64 x26_1 ∧ Aside0 (token_Verify.l0 kq a0 a2 a3 x11_1 l1 (l1.length : Int) x26_1 t177 t178 t179 t180 t181 x185000_1 x185001_1 = some (r1, r2, r3, r4, r5, r6)) ∧ Aside0 (kq ≤ k) ∧ Aside0 (w'.heap[gb176]? = some (.cells #[.string (⟨#[]⟩ : ByteArray), .int .i64 0, .int .i64 0, .int .u8 0, .int .u64 0] 26 (0, 0))) ∧ Aside0 (w'.heap[gb183]? = some (.cells #[.string t177, .int .i64 t178, .int .i64 t179, .int .u8 t180, .int .u64 t181] 26 (0, 0))) ∧ Aside0 (w'.heap[gb184]? = some (.cells #[.int .i64 x185000_1, .string x185001_1] 23 (0, 0))) ∧ Aside0 (Below w.heap.size w w'))
  case atStart => exact ⟨(180), (0), (0), ((⟨#[]⟩ : ByteArray)), y3_, y3_, H', ⟨Nat.le_refl _⟩, ⟨y30_⟩, ⟨y54_⟩, ⟨y53_⟩, ⟨y13_⟩⟩
  case round =>
   clear H'
   try clear c1
   try clear c2
   try clear p2
   try clear c6
   try clear c6b0
   try clear c6b1
   try clear c10
   try clear hcz11_0
   try clear hcz11_1
   try clear hcz11_2
   try clear hcz11_3
   try clear hcz11_4
   try clear hfz11_0
   try clear hfz11_1
   try clear hfz11_2
   try clear hfz11_3
   try clear hfz11_4
   obtain ⟨x11_1, x26_1, x185000_1, x185001_1, rfl, rfl, HA, HK1, BK176, BK183, BK184, HB⟩ := hrel
   cases gk with
   | zero => exact absurd HA.out (by simp [token_Verify.l0])
   | succ k1 =>
    have H := HA.out; clear HA; simp only [token_Verify.l0] at H
    by_cases c13 : x26_1 < (l1.length : Int)
    ·rw [if_pos c13] at H; have c13b0 : decide (x26_1 < (l1.length : Int)) = true := decide_eq_true c13; clear c13
     by_cases c14 : 0 ≤ x26_1
     ·rw [if_pos c14] at H; have c14b0 : decide (0 ≤ x26_1) = true := decide_eq_true c14; clear c14
      by_cases c15 : x26_1 < (l1.length : Int)
      ·rw [if_pos c15] at H; have c15b0 : decide (x26_1 < (l1.length : Int)) = true := decide_eq_true c15; clear c15; have HC16 := Aside0.mk H; clear H; have p185 : 0 ≤ (x26_1 : Int) := of_decide_eq_true y4_; have q185 : x26_1 < (l1.length : Int) := of_decide_eq_true y4_; obtain ⟨ad185, e185, hx185_0, hx185_1, hx185_2⟩ := at_T43 HR1.out x26_1 p185 q185
       cases e185
       replace hx185_0 := (HB.out.cell (World.block_lt_of_cell? w _ hx185_0)).trans hx185_0; replace hx185_1 := (HB.out.cell (World.block_lt_of_cell? w _ hx185_1)).trans hx185_1; replace hx185_2 := (HB.out.cell (World.block_lt_of_cell? w _ hx185_2)).trans hx185_2; replace p185 := eq_true p185; replace q185 := eq_true q185
       go_upto_region 9 with (first | ((with_reducible refine ko (N := 14) rfl ?_); refine kn ?hg (N := 14) ?hd (cs := #[.string (⟨#[]⟩ : ByteArray), .int .i64 0, .string (⟨#[]⟩ : ByteArray)]) (t := 43) ?hr ?_; (case hd => rfl); (case hg => rfl); (case hr => first | (go_simp; done) | (go_simp; rfl)); intro gb186 hg w17 hbox hb; have BK186 := am_ (hbox); have GW186 := am_ ((by rw [hg]; exact (km y13_) : w.heap.size ≤ gb186)); have GE186 := am_ ((by rw [hg]; exact (km y13_) : w.heap.size ≤ gb186)); replace HB := am_ (ke y13_ hb); have NB176_186 := am_ ((y110_ : gb176 ≠ gb186)); have NB186_176 := am_ ((y112_ : gb186 ≠ gb176)); replace BK176 := am_ (ki (g := gb176) (o := .cells #[.string (⟨#[]⟩ : ByteArray), .int .i64 0, .int .i64 0, .int .u8 0, .int .u64 0] 26 (0, 0)) y30_ hb); have NB183_186 := am_ ((by rw [hg]; exact Nat.ne_of_lt (ky (g := gb183) (o := .cells #[.string t177, .int .i64 t178, .int .i64 t179, .int .u8 t180, .int .u64 t181] 26 (0, 0)) y54_) : gb183 ≠ gb186)); have NB186_183 := am_ ((by rw [hg]; exact Nat.ne_of_gt (ky (g := gb183) (o := .cells #[.string t177, .int .i64 t178, .int .i64 t179, .int .u8 t180, .int .u64 t181] 26 (0, 0)) y54_) : gb186 ≠ gb183)); replace BK183 := am_ (ki (g := gb183) (o := .cells #[.string t177, .int .i64 t178, .int .i64 t179, .int .u8 t180, .int .u64 t181] 26 (0, 0)) y54_ hb); have NB184_186 := am_ ((by rw [hg]; exact Nat.ne_of_lt (ky (g := gb184) (o := .cells #[.int .i64 x185000_1, .string x185001_1] 23 (0, 0)) y53_) : gb184 ≠ gb186)); have NB186_184 := am_ ((by rw [hg]; exact Nat.ne_of_gt (ky (g := gb184) (o := .cells #[.int .i64 x185000_1, .string x185001_1] 23 (0, 0)) y53_) : gb186 ≠ gb184)); replace BK184 := am_ (ki (g := gb184) (o := .cells #[.int .i64 x185000_1, .string x185001_1] 23 (0, 0)) y53_ hb); clear hb hbox hg; have hnb18 := NB186_176.out; have hnc18 := NB176_186.out; have hnb19 := NB186_183.out; have hnc19 := NB183_186.out; have hnb20 := NB186_184.out; have hnc20 := NB184_186.out; obtain ⟨hcz21_0, hcz21_1, hcz21_2, hfz21_0, hfz21_1, hfz21_2⟩ := pd3_ BK186.out))
       (try simp only [Act.put, List.setIfInBounds_toArray, List.set_cons_zero, List.set_cons_succ]); go_cut [38] (fun v38 wc => ∃ (kq : Nat) (x38_15 : Bool), v38 = .bool x38_15 ∧ Aside0 (token_Verify.j1 kq a0 a2 a3 x11_1 l1 (l1.length : Int) x26_1 x38_15 t177 t178 t179 t180 t181 x185000_1 x185001_1 ((rd_T43 l1 x26_1).f0) ((rd_T43 l1 x26_1).f1.f0) ((rd_T43 l1 x26_1).f1.f1) = some (r1, r2, r3, r4, r5, r6)) ∧ Aside0 (kq ≤ k1) ∧ Aside0 (wc.heap[gb176]? = some (.cells #[.string (⟨#[]⟩ : ByteArray), .int .i64 0, .int .i64 0, .int .u8 0, .int .u64 0] 26 (0, 0))) ∧ Aside0 (wc.heap[gb183]? = some (.cells #[.string t177, .int .i64 t178, .int .i64 t179, .int .u8 t180, .int .u64 t181] 26 (0, 0))) ∧ Aside0 (wc.heap[gb184]? = some (.cells #[.int .i64 x185000_1, .string x185001_1] 23 (0, 0))) ∧ Aside0 (wc.heap[gb186]? = some (.cells #[.string ((rd_T43 l1 x26_1).f0), .int .i64 ((rd_T43 l1 x26_1).f1.f0), .string ((rd_T43 l1 x26_1).f1.f1)] 43 (0, 0))) ∧ Aside0 (Below w.heap.size w wc))
       case first =>
        have H := HC16.out; clear HC16
        by_cases c22 : ((rd_T43 l1 x26_1).f0).toList = t177.toList
        ·rw [if_pos c22] at H; have c22b0 : (((rd_T43 l1 x26_1).f0).toList == t177.toList) = true := beq_iff_eq.mpr c22; have c22b1 : (((rd_T43 l1 x26_1).f0).toList != t177.toList) = false := bne_eq_false_iff_eq.mpr c22; clear c22; (first | rw [c22b0] | (simp only [kT, i32_w]; rw [c22b0]) | skip); have H' := Aside0.mk H; clear H; have hnb23 := NB186_176.out; have hnc23 := NB176_186.out; have hnb24 := NB186_183.out; have hnc24 := NB183_186.out; have hnb25 := NB186_184.out; have hnc25 := NB184_186.out; obtain ⟨hcz26_0, hcz26_1, hcz26_2, hfz26_0, hfz26_1, hfz26_2⟩ := pd3_ BK186.out; have hnb27 := NB183_176.out; have hnc27 := NB176_183.out; have hnb28 := NB183_184.out; have hnc28 := NB184_183.out; obtain ⟨hcz29_0, hcz29_1, hcz29_2, hcz29_3, hcz29_4, hfz29_0, hfz29_1, hfz29_2, hfz29_3, hfz29_4⟩ := pd5_ BK183.out
         go_wp2
         go_meet
         case rel => exact ⟨_, ((x11_1 == 0)), y3_, H', ⟨y123_⟩, ⟨y84_⟩, ⟨y83_⟩, ⟨y82_⟩, ⟨y71_⟩, ⟨y55_⟩⟩
        ·rw [if_neg c22] at H; have c22b0 : (((rd_T43 l1 x26_1).f0).toList == t177.toList) = false := beq_eq_false_iff_ne.mpr c22; have c22b1 : (((rd_T43 l1 x26_1).f0).toList != t177.toList) = true := bne_iff_ne.mpr c22; (first | rw [c22b0] | (simp only [kT, i32_w]; rw [c22b0]) | skip); have H' := Aside0.mk H; clear H; have hnb30 := NB186_176.out; have hnc30 := NB176_186.out; have hnb31 := NB186_183.out; have hnc31 := NB183_186.out; have hnb32 := NB186_184.out; have hnc32 := NB184_186.out; obtain ⟨hcz33_0, hcz33_1, hcz33_2, hfz33_0, hfz33_1, hfz33_2⟩ := pd3_ BK186.out; have hnb34 := NB183_176.out; have hnc34 := NB176_183.out; have hnb35 := NB183_184.out; have hnc35 := NB184_183.out; obtain ⟨hcz36_0, hcz36_1, hcz36_2, hcz36_3, hcz36_4, hfz36_0, hfz36_1, hfz36_2, hfz36_3, hfz36_4⟩ := pd5_ BK183.out
         go_wp2
         go_meet
         case rel => exact ⟨_, (true), y3_, H', ⟨y123_⟩, ⟨y84_⟩, ⟨y83_⟩, ⟨y82_⟩, ⟨y71_⟩, ⟨y55_⟩⟩
       case rest =>
        clear HC16
        try clear c1
        try clear p1
        try clear q1
        try clear hx1
        try clear c2
        try clear p2
        try clear c3
        try clear c6
        try clear c6b0
        try clear c6b1
        try clear c10
        try clear c13
        try clear c13b0
        try clear c14
        try clear c14b0
        try clear c15
        try clear c15b0
        try clear c18
        try clear p18
        try clear q18
        try clear hx18
        try clear c19
        try clear c20
        try clear c22
        try clear c22b0
        try clear c22b1
        try clear c23
        try clear c24
        try clear c25
        try clear c27
        try clear c28
        try clear c30
        try clear c31
        try clear c32
        try clear c34
        try clear c35
        try clear hcz11_0
        try clear hcz11_1
        try clear hcz11_2
        try clear hcz11_3
        try clear hcz11_4
        try clear hcz21_0
        try clear hcz21_1
        try clear hcz21_2
        try clear hcz26_0
        try clear hcz26_1
        try clear hcz26_2
        try clear hcz29_0
        try clear hcz29_1
        try clear hcz29_2
        try clear hcz29_3
        try clear hcz29_4
        try clear hcz33_0
        try clear hcz33_1
        try clear hcz33_2
        try clear hcz36_0
        try clear hcz36_1
        try clear hcz36_2
        try clear hcz36_3
        try clear hcz36_4
        try clear hfz11_0
        try clear hfz11_1
        try clear hfz11_2
        try clear hfz11_3
        try clear hfz11_4
        try clear hfz21_0
        try clear hfz21_1
        try clear hfz21_2
        try clear hfz26_0
        try clear hfz26_1
        try clear hfz26_2
        try clear hfz29_0
        try clear hfz29_1
        try clear hfz29_2
        try clear hfz29_3
        try clear hfz29_4
        try clear hfz33_0
        try clear hfz33_1
        try clear hfz33_2
        try clear hfz36_0
        try clear hfz36_1
        try clear hfz36_2
        try clear hfz36_3
        try clear hfz36_4
        try clear hx185_0
        try clear hx185_1
        try clear hx185_2
        try clear p185
        try clear p2
        try clear q185
        obtain ⟨kq, x38_15, rfl, HA, HJ15, BK176, BK183, BK184, BK186, HB⟩ := hcut
        cases kq with
        | zero => exact absurd HA.out (by simp [token_Verify.j1])
        | succ kj15 =>
         have H := HA.out; clear HA; simp only [token_Verify.j1] at H
         by_cases c37 : x38_15 = true
         ·subst c37; rw [if_pos rfl] at H; have H' := Aside0.mk H; clear H
          go_wp2
          go_roundg kj15
          case measure => have := HK1.out; have := HJ15.out; omega
          case rel => exact ⟨(x11_1), (wrap64 (x26_1 + 1)), (x185000_1), (x185001_1), y3_, y3_, H', ⟨by have := HK1.out; have := HJ15.out; omega⟩, ⟨y30_⟩, ⟨y54_⟩, ⟨y53_⟩, ⟨y55_⟩⟩
         ·replace c37 := Bool.eq_false_iff.mpr c37; subst c37; rw [if_neg (show ¬ (false = true) by decide)] at H
          by_cases c38 : ((rd_T43 l1 x26_1).f1.f0) = t178
          ·rw [if_pos c38] at H; have c38b0 : (((rd_T43 l1 x26_1).f1.f0) == t178) = true := beq_iff_eq.mpr c38; have c38b1 : (((rd_T43 l1 x26_1).f1.f0) != t178) = false := bne_eq_false_iff_eq.mpr c38; clear c38; have H' := Aside0.mk H; clear H; have hnb39 := NB186_176.out; have hnc39 := NB176_186.out; have hnb40 := NB186_183.out; have hnc40 := NB183_186.out; have hnb41 := NB186_184.out; have hnc41 := NB184_186.out; obtain ⟨hcz42_0, hcz42_1, hcz42_2, hfz42_0, hfz42_1, hfz42_2⟩ := pd3_ BK186.out; have hnb43 := NB183_176.out; have hnc43 := NB176_183.out; have hnb44 := NB183_184.out; have hnc44 := NB184_183.out; obtain ⟨hcz45_0, hcz45_1, hcz45_2, hcz45_3, hcz45_4, hfz45_0, hfz45_1, hfz45_2, hfz45_3, hfz45_4⟩ := pd5_ BK183.out; have hnb46 := NB184_176.out; have hnc46 := NB176_184.out; obtain ⟨hcz47_0, hcz47_1, hfz47_0, hfz47_1⟩ := pd2_ BK184.out
           go_wp2
           go_roundg kj15
           case measure => have := HK1.out; have := HJ15.out; omega
           case rel => exact ⟨(0), (wrap64 (x26_1 + 1)), (((rd_T43 l1 x26_1).f1.f0)), (((rd_T43 l1 x26_1).f1.f1)), y3_, y3_, H', ⟨by have := HK1.out; have := HJ15.out; omega⟩, ⟨by (with_reducible repeat (first | refine kf ?_ _ | refine kg ?_ | refine kd ?_ _)); refine kB ?_ NB176_184.out _; (with_reducible repeat (first | refine kf ?_ _ | refine kg ?_ | refine kd ?_ _)); refine kB ?_ NB176_184.out _; (with_reducible repeat (first | refine kf ?_ _ | refine kg ?_ | refine kd ?_ _)); exact BK176.out⟩, ⟨by (with_reducible repeat (first | refine kf ?_ _ | refine kg ?_ | refine kd ?_ _)); refine kB ?_ NB183_184.out _; (with_reducible repeat (first | refine kf ?_ _ | refine kg ?_ | refine kd ?_ _)); refine kB ?_ NB183_184.out _; (with_reducible repeat (first | refine kf ?_ _ | refine kg ?_ | refine kd ?_ _)); exact BK183.out⟩, ⟨by (with_reducible repeat (first | refine kf ?_ _ | refine kg ?_ | refine kd ?_ _)); refine kp (cs := #[.int .i64 ((rd_T43 l1 x26_1).f1.f0), .string x185001_1]) ?_ 1 _ rfl; (with_reducible repeat (first | refine kf ?_ _ | refine kg ?_ | refine kd ?_ _)); refine kp (cs := #[.int .i64 x185000_1, .string x185001_1]) ?_ 0 _ rfl; (with_reducible repeat (first | refine kf ?_ _ | refine kg ?_ | refine kd ?_ _)); exact BK184.out⟩, ⟨y55_⟩⟩
          ·rw [if_neg c38] at H; have c38b0 : (((rd_T43 l1 x26_1).f1.f0) == t178) = false := beq_eq_false_iff_ne.mpr c38; have c38b1 : (((rd_T43 l1 x26_1).f1.f0) != t178) = true := bne_iff_ne.mpr c38; have H' := Aside0.mk H; clear H; have hnb48 := NB186_176.out; have hnc48 := NB176_186.out; have hnb49 := NB186_183.out; have hnc49 := NB183_186.out; have hnb50 := NB186_184.out; have hnc50 := NB184_186.out; obtain ⟨hcz51_0, hcz51_1, hcz51_2, hfz51_0, hfz51_1, hfz51_2⟩ := pd3_ BK186.out; have hnb52 := NB183_176.out; have hnc52 := NB176_183.out; have hnb53 := NB183_184.out; have hnc53 := NB184_183.out; obtain ⟨hcz54_0, hcz54_1, hcz54_2, hcz54_3, hcz54_4, hfz54_0, hfz54_1, hfz54_2, hfz54_3, hfz54_4⟩ := pd5_ BK183.out
           go_wp2
           go_roundg kj15
           case measure => have := HK1.out; have := HJ15.out; omega
           case rel => exact ⟨(181), (wrap64 (x26_1 + 1)), (x185000_1), (x185001_1), y3_, y3_, H', ⟨by have := HK1.out; have := HJ15.out; omega⟩, ⟨y30_⟩, ⟨y54_⟩, ⟨y53_⟩, ⟨y55_⟩⟩
      ·rw [if_neg c15] at H
       exact absurd H (by simp)
     ·rw [if_neg c14] at H
      exact absurd H (by simp)
    ·rw [if_neg c13] at H; have c13b0 : decide (x26_1 < (l1.length : Int)) = false := decide_eq_false c13; clear c13
     by_cases c55 : x11_1 = 0
     ·rw [if_pos c55] at H; have c55b0 : (x11_1 == 0) = true := beq_iff_eq.mpr c55; have c55b1 : (x11_1 != 0) = false := bne_eq_false_iff_eq.mpr c55; clear c55; replace H := Option.bind_eq_some_iff.mp H; obtain ⟨t187, A560, H⟩ := H; have A56 := Aside0.mk A560; clear A560
      by_cases c57 : t187 = true
      ·subst c57; rw [if_pos rfl] at H
       by_cases c58 : a2 ≥ t179
       ·rw [if_pos c58] at H; have c58b0 : decide (t179 ≤ a2) = true := decide_eq_true c58; clear c58; simp only [Option.some.injEq, Prod.mk.injEq] at H; obtain ⟨rfl, rfl, rfl, rfl, rfl, rfl⟩ := H; have hnb59 := NB184_176.out; have hnc59 := NB176_184.out; have hnb60 := NB184_183.out; have hnc60 := NB183_184.out; obtain ⟨hcz61_0, hcz61_1, hfz61_0, hfz61_1⟩ := pd2_ BK184.out
        go_wp2_with (first | ((with_reducible refine kj (f := 20) rfl ?_); refine kw (some 56) rfl rfl Tryd.func20 (by kernel_rfl) rfl #[.string a0, .agg #[.int .i64 x185000_1, .string x185001_1]] rfl y2_ ?_; (with_reducible refine (token_Signed.calls k1 a0 x185000_1 x185001_1 true _ ?side1 A56.out).mono ?_); (case side1 => exact ⟨kU hT.out y13_⟩); rintro e w62 ⟨rfl, hb⟩; refine ⟨_, rfl, ?_⟩; replace BK176 := am_ (ki (g := gb176) (o := .cells #[.string (⟨#[]⟩ : ByteArray), .int .i64 0, .int .i64 0, .int .u8 0, .int .u64 0] 26 (0, 0)) y30_ hb); replace BK183 := am_ (ki (g := gb183) (o := .cells #[.string t177, .int .i64 t178, .int .i64 t179, .int .u8 t180, .int .u64 t181] 26 (0, 0)) y54_ hb); replace BK184 := am_ (ki (g := gb184) (o := .cells #[.int .i64 x185000_1, .string x185001_1] 23 (0, 0)) y53_ hb); replace HB := am_ (ke y13_ hb); (try clear hb); (try clear hb2); (try clear hk); (try clear hi); have hnb63 := NB183_176.out; have hnc63 := NB176_183.out; obtain ⟨hcz64_0, hcz64_1, hcz64_2, hcz64_3, hcz64_4, hfz64_0, hfz64_1, hfz64_2, hfz64_3, hfz64_4⟩ := pd5_ BK183.out; obtain ⟨hcz65_0, hcz65_1, hcz65_2, hcz65_3, hcz65_4, hfz65_0, hfz65_1, hfz65_2, hfz65_3, hfz65_4⟩ := pd5_ BK176.out))
        refine bodyPost_ret (ku rfl _ _ gb176 26 #[.string (⟨#[]⟩ : ByteArray), .int .i64 0, .int .i64 0, .int .u8 0, .int .u64 0] (0, 0) _ rfl y12_ Tryd.underlying26 rfl (by kernel_rfl)) rfl ?_
        exact ⟨y5_, y13_⟩
       ·rw [if_neg c58] at H; have c58b0 : decide (t179 ≤ a2) = false := decide_eq_false c58; clear c58
        by_cases c66 : (Go.bits .andNot .u8 (Go.bits .and .u8 a3 7) t180) = 0
        ·rw [if_pos c66] at H; have c66b0 : ((Go.bits .andNot .u8 (Go.bits .and .u8 a3 7) t180) == 0) = true := beq_iff_eq.mpr c66; have c66b1 : ((Go.bits .andNot .u8 (Go.bits .and .u8 a3 7) t180) != 0) = false := bne_eq_false_iff_eq.mpr c66; clear c66; simp only [Option.some.injEq, Prod.mk.injEq] at H; obtain ⟨rfl, rfl, rfl, rfl, rfl, rfl⟩ := H; have hnb67 := NB184_176.out; have hnc67 := NB176_184.out; have hnb68 := NB184_183.out; have hnc68 := NB183_184.out; obtain ⟨hcz69_0, hcz69_1, hfz69_0, hfz69_1⟩ := pd2_ BK184.out
         go_wp2_with (first | ((with_reducible refine kj (f := 20) rfl ?_); refine kw (some 56) rfl rfl Tryd.func20 (by kernel_rfl) rfl #[.string a0, .agg #[.int .i64 x185000_1, .string x185001_1]] rfl y2_ ?_; (with_reducible refine (token_Signed.calls k1 a0 x185000_1 x185001_1 true _ ?side1 A56.out).mono ?_); (case side1 => exact ⟨kU hT.out y13_⟩); rintro e w70 ⟨rfl, hb⟩; refine ⟨_, rfl, ?_⟩; replace BK176 := am_ (ki (g := gb176) (o := .cells #[.string (⟨#[]⟩ : ByteArray), .int .i64 0, .int .i64 0, .int .u8 0, .int .u64 0] 26 (0, 0)) y30_ hb); replace BK183 := am_ (ki (g := gb183) (o := .cells #[.string t177, .int .i64 t178, .int .i64 t179, .int .u8 t180, .int .u64 t181] 26 (0, 0)) y54_ hb); replace BK184 := am_ (ki (g := gb184) (o := .cells #[.int .i64 x185000_1, .string x185001_1] 23 (0, 0)) y53_ hb); replace HB := am_ (ke y13_ hb); (try clear hb); (try clear hb2); (try clear hk); (try clear hi); have hnb71 := NB183_176.out; have hnc71 := NB176_183.out; obtain ⟨hcz72_0, hcz72_1, hcz72_2, hcz72_3, hcz72_4, hfz72_0, hfz72_1, hfz72_2, hfz72_3, hfz72_4⟩ := pd5_ BK183.out; obtain ⟨hcz73_0, hcz73_1, hcz73_2, hcz73_3, hcz73_4, hfz73_0, hfz73_1, hfz73_2, hfz73_3, hfz73_4⟩ := pd5_ BK176.out))
         refine bodyPost_ret (ku rfl _ _ gb176 26 #[.string t177, .int .i64 t178, .int .i64 t179, .int .u8 t180, .int .u64 t181] (0, 0) _ rfl (by (with_reducible repeat (first | refine kf ?_ _ | refine kg ?_ | refine kd ?_ _)); refine kp (cs := #[.string t177, .int .i64 t178, .int .i64 t179, .int .u8 t180, .int .u64 0]) ?_ 4 _ rfl; (with_reducible repeat (first | refine kf ?_ _ | refine kg ?_ | refine kd ?_ _)); refine kp (cs := #[.string t177, .int .i64 t178, .int .i64 t179, .int .u8 0, .int .u64 0]) ?_ 3 _ rfl; (with_reducible repeat (first | refine kf ?_ _ | refine kg ?_ | refine kd ?_ _)); refine kp (cs := #[.string t177, .int .i64 t178, .int .i64 0, .int .u8 0, .int .u64 0]) ?_ 2 _ rfl; (with_reducible repeat (first | refine kf ?_ _ | refine kg ?_ | refine kd ?_ _)); refine kp (cs := #[.string t177, .int .i64 0, .int .i64 0, .int .u8 0, .int .u64 0]) ?_ 1 _ rfl; (with_reducible repeat (first | refine kf ?_ _ | refine kg ?_ | refine kd ?_ _)); refine kp (cs := #[.string (⟨#[]⟩ : ByteArray), .int .i64 0, .int .i64 0, .int .u8 0, .int .u64 0]) ?_ 0 _ rfl; (with_reducible repeat (first | refine kf ?_ _ | refine kg ?_ | refine kd ?_ _)); exact BK176.out) Tryd.underlying26 rfl (by kernel_rfl)) rfl ?_
         exact ⟨y5_, y13_⟩
        ·rw [if_neg c66] at H; have c66b0 : ((Go.bits .andNot .u8 (Go.bits .and .u8 a3 7) t180) == 0) = false := beq_eq_false_iff_ne.mpr c66; have c66b1 : ((Go.bits .andNot .u8 (Go.bits .and .u8 a3 7) t180) != 0) = true := bne_iff_ne.mpr c66; simp only [Option.some.injEq, Prod.mk.injEq] at H; obtain ⟨rfl, rfl, rfl, rfl, rfl, rfl⟩ := H; have hnb74 := NB184_176.out; have hnc74 := NB176_184.out; have hnb75 := NB184_183.out; have hnc75 := NB183_184.out; obtain ⟨hcz76_0, hcz76_1, hfz76_0, hfz76_1⟩ := pd2_ BK184.out
         go_wp2_with (first | ((with_reducible refine kj (f := 20) rfl ?_); refine kw (some 56) rfl rfl Tryd.func20 (by kernel_rfl) rfl #[.string a0, .agg #[.int .i64 x185000_1, .string x185001_1]] rfl y2_ ?_; (with_reducible refine (token_Signed.calls k1 a0 x185000_1 x185001_1 true _ ?side1 A56.out).mono ?_); (case side1 => exact ⟨kU hT.out y13_⟩); rintro e w77 ⟨rfl, hb⟩; refine ⟨_, rfl, ?_⟩; replace BK176 := am_ (ki (g := gb176) (o := .cells #[.string (⟨#[]⟩ : ByteArray), .int .i64 0, .int .i64 0, .int .u8 0, .int .u64 0] 26 (0, 0)) y30_ hb); replace BK183 := am_ (ki (g := gb183) (o := .cells #[.string t177, .int .i64 t178, .int .i64 t179, .int .u8 t180, .int .u64 t181] 26 (0, 0)) y54_ hb); replace BK184 := am_ (ki (g := gb184) (o := .cells #[.int .i64 x185000_1, .string x185001_1] 23 (0, 0)) y53_ hb); replace HB := am_ (ke y13_ hb); (try clear hb); (try clear hb2); (try clear hk); (try clear hi); have hnb78 := NB183_176.out; have hnc78 := NB176_183.out; obtain ⟨hcz79_0, hcz79_1, hcz79_2, hcz79_3, hcz79_4, hfz79_0, hfz79_1, hfz79_2, hfz79_3, hfz79_4⟩ := pd5_ BK183.out; obtain ⟨hcz80_0, hcz80_1, hcz80_2, hcz80_3, hcz80_4, hfz80_0, hfz80_1, hfz80_2, hfz80_3, hfz80_4⟩ := pd5_ BK176.out))
         refine bodyPost_ret (ku rfl _ _ gb176 26 #[.string (⟨#[]⟩ : ByteArray), .int .i64 0, .int .i64 0, .int .u8 0, .int .u64 0] (0, 0) _ rfl y12_ Tryd.underlying26 rfl (by kernel_rfl)) rfl ?_
         exact ⟨y5_, y13_⟩
      ·replace c57 := Bool.eq_false_iff.mpr c57; subst c57; rw [if_neg (show ¬ (false = true) by decide)] at H; simp only [Option.some.injEq, Prod.mk.injEq] at H; obtain ⟨rfl, rfl, rfl, rfl, rfl, rfl⟩ := H; have hnb81 := NB184_176.out; have hnc81 := NB176_184.out; have hnb82 := NB184_183.out; have hnc82 := NB183_184.out; obtain ⟨hcz83_0, hcz83_1, hfz83_0, hfz83_1⟩ := pd2_ BK184.out
       go_wp2_with (first | ((with_reducible refine kj (f := 20) rfl ?_); refine kw (some 56) rfl rfl Tryd.func20 (by kernel_rfl) rfl #[.string a0, .agg #[.int .i64 x185000_1, .string x185001_1]] rfl y2_ ?_; (with_reducible refine (token_Signed.calls k1 a0 x185000_1 x185001_1 false _ ?side1 A56.out).mono ?_); (case side1 => exact ⟨kU hT.out y13_⟩); rintro e w84 ⟨rfl, hb⟩; refine ⟨_, rfl, ?_⟩; replace BK176 := am_ (ki (g := gb176) (o := .cells #[.string (⟨#[]⟩ : ByteArray), .int .i64 0, .int .i64 0, .int .u8 0, .int .u64 0] 26 (0, 0)) y30_ hb); replace BK183 := am_ (ki (g := gb183) (o := .cells #[.string t177, .int .i64 t178, .int .i64 t179, .int .u8 t180, .int .u64 t181] 26 (0, 0)) y54_ hb); replace BK184 := am_ (ki (g := gb184) (o := .cells #[.int .i64 x185000_1, .string x185001_1] 23 (0, 0)) y53_ hb); replace HB := am_ (ke y13_ hb); (try clear hb); (try clear hb2); (try clear hk); (try clear hi); have hnb85 := NB176_183.out; have hnc85 := NB183_176.out; obtain ⟨hcz86_0, hcz86_1, hcz86_2, hcz86_3, hcz86_4, hfz86_0, hfz86_1, hfz86_2, hfz86_3, hfz86_4⟩ := pd5_ BK176.out))
       refine bodyPost_ret (ku rfl _ _ gb176 26 #[.string (⟨#[]⟩ : ByteArray), .int .i64 0, .int .i64 0, .int .u8 0, .int .u64 0] (0, 0) _ rfl y12_ Tryd.underlying26 rfl (by kernel_rfl)) rfl ?_
       exact ⟨y5_, y13_⟩
     ·rw [if_neg c55] at H; have c55b0 : (x11_1 == 0) = false := beq_eq_false_iff_ne.mpr c55; have c55b1 : (x11_1 != 0) = true := bne_iff_ne.mpr c55; simp only [Option.some.injEq, Prod.mk.injEq] at H; obtain ⟨rfl, rfl, rfl, rfl, rfl, rfl⟩ := H; have hnb87 := NB176_183.out; have hnc87 := NB183_176.out; have hnb88 := NB176_184.out; have hnc88 := NB184_176.out; obtain ⟨hcz89_0, hcz89_1, hcz89_2, hcz89_3, hcz89_4, hfz89_0, hfz89_1, hfz89_2, hfz89_3, hfz89_4⟩ := pd5_ BK176.out
      go_wp2
      refine bodyPost_ret (ku rfl _ _ gb176 26 #[.string (⟨#[]⟩ : ByteArray), .int .i64 0, .int .i64 0, .int .u8 0, .int .u64 0] (0, 0) _ rfl y12_ Tryd.underlying26 rfl (by kernel_rfl)) rfl ?_
      exact ⟨y5_, y13_⟩
 ·rw [if_neg c6] at H; have c6b0 : (t182 == 0) = false := beq_eq_false_iff_ne.mpr c6; have c6b1 : (t182 != 0) = true := bne_iff_ne.mpr c6; simp only [Option.some.injEq, Prod.mk.injEq] at H; obtain ⟨rfl, rfl, rfl, rfl, rfl, rfl⟩ := H; go_enter Tryd.func23, Tryd.ntmps23
  go_wp2_with (first | ((with_reducible refine ko (N := 8) rfl ?_); refine kn ?hg (N := 8) ?hd (cs := #[.string (⟨#[]⟩ : ByteArray), .int .i64 0, .int .i64 0, .int .u8 0, .int .u64 0]) (t := 26) ?hr ?_; (case hd => rfl); (case hg => rfl); (case hr => first | (go_simp; done) | (go_simp; rfl)); intro gb176 hg w90 hbox hb; have BK176 := am_ (hbox); have GW176 := am_ ((y31_ : w.heap.size ≤ gb176)); have GE176 := am_ ((y31_ : w.heap.size ≤ gb176)); replace HB := am_ (ke y1_ hb); clear hb hbox hg) | ((with_reducible refine kj (f := 18) rfl ?_); refine kw (some 17) rfl rfl Tryd.func18 (by kernel_rfl) rfl #[.string a0] rfl y2_ ?_; (with_reducible refine (token_Read.calls k a0 t177 t178 t179 t180 t181 t182 _ A5.out).mono ?_); rintro e w91 ⟨rfl, hb⟩; refine ⟨_, rfl, ?_⟩; replace BK176 := am_ (ki (g := gb176) (o := .cells #[.string (⟨#[]⟩ : ByteArray), .int .i64 0, .int .i64 0, .int .u8 0, .int .u64 0] 26 (0, 0)) y30_ hb); replace HB := am_ (ke y51_ hb); (try clear hb); (try clear hb2); (try clear hk); (try clear hi)) | ((with_reducible refine ko (N := 10) rfl ?_); refine kn ?hg (N := 10) ?hd (cs := #[.string (⟨#[]⟩ : ByteArray), .int .i64 0, .int .i64 0, .int .u8 0, .int .u64 0]) (t := 26) ?hr ?_; (case hd => rfl); (case hg => rfl); (case hr => first | (go_simp; done) | (go_simp; rfl)); intro gb183 hg w92 hbox hb; have BK183 := am_ (hbox); have GW183 := am_ ((by rw [hg]; exact (km y51_) : w.heap.size ≤ gb183)); have GE183 := am_ ((by rw [hg]; exact (km y51_) : w.heap.size ≤ gb183)); replace HB := am_ (ke y51_ hb); have NB176_183 := am_ ((y110_ : gb176 ≠ gb183)); have NB183_176 := am_ ((y112_ : gb183 ≠ gb176)); replace BK176 := am_ (ki (g := gb176) (o := .cells #[.string (⟨#[]⟩ : ByteArray), .int .i64 0, .int .i64 0, .int .u8 0, .int .u64 0] 26 (0, 0)) y30_ hb); clear hb hbox hg; have hnb93 := NB183_176.out; have hnc93 := NB176_183.out; obtain ⟨hcz94_0, hcz94_1, hcz94_2, hcz94_3, hcz94_4, hfz94_0, hfz94_1, hfz94_2, hfz94_3, hfz94_4⟩ := pd5_ BK183.out; obtain ⟨hcz95_0, hcz95_1, hcz95_2, hcz95_3, hcz95_4, hfz95_0, hfz95_1, hfz95_2, hfz95_3, hfz95_4⟩ := pd5_ BK176.out))
  refine bodyPost_ret (ku rfl _ _ gb176 26 #[.string (⟨#[]⟩ : ByteArray), .int .i64 0, .int .i64 0, .int .u8 0, .int .u64 0] (0, 0) _ rfl (by (with_reducible repeat (first | refine kf ?_ _ | refine kg ?_ | refine kd ?_ _)); refine kp (cs := #[.string (⟨#[]⟩ : ByteArray), .int .i64 0, .int .i64 0, .int .u8 0, .int .u64 0]) ?_ 4 _ rfl; (with_reducible repeat (first | refine kf ?_ _ | refine kg ?_ | refine kd ?_ _)); refine kp (cs := #[.string (⟨#[]⟩ : ByteArray), .int .i64 0, .int .i64 0, .int .u8 0, .int .u64 0]) ?_ 3 _ rfl; (with_reducible repeat (first | refine kf ?_ _ | refine kg ?_ | refine kd ?_ _)); refine kp (cs := #[.string (⟨#[]⟩ : ByteArray), .int .i64 0, .int .i64 0, .int .u8 0, .int .u64 0]) ?_ 2 _ rfl; (with_reducible repeat (first | refine kf ?_ _ | refine kg ?_ | refine kd ?_ _)); refine kp (cs := #[.string (⟨#[]⟩ : ByteArray), .int .i64 0, .int .i64 0, .int .u8 0, .int .u64 0]) ?_ 1 _ rfl; (with_reducible repeat (first | refine kf ?_ _ | refine kg ?_ | refine kd ?_ _)); refine kp (cs := #[.string (⟨#[]⟩ : ByteArray), .int .i64 0, .int .i64 0, .int .u8 0, .int .u64 0]) ?_ 0 _ rfl; (with_reducible repeat (first | refine kf ?_ _ | refine kg ?_ | refine kd ?_ _)); refine kB ?_ NB176_183.out _; (with_reducible repeat (first | refine kf ?_ _ | refine kg ?_ | refine kd ?_ _)); refine kB ?_ NB176_183.out _; (with_reducible repeat (first | refine kf ?_ _ | refine kg ?_ | refine kd ?_ _)); refine kB ?_ NB176_183.out _; (with_reducible repeat (first | refine kf ?_ _ | refine kg ?_ | refine kd ?_ _)); refine kB ?_ NB176_183.out _; (with_reducible repeat (first | refine kf ?_ _ | refine kg ?_ | refine kd ?_ _)); refine kB ?_ NB176_183.out _; (with_reducible repeat (first | refine kf ?_ _ | refine kg ?_ | refine kd ?_ _)); exact BK176.out) Tryd.underlying26 rfl (by kernel_rfl)) rfl ?_
  exact ⟨y5_, y78_⟩
end Go.Proofs.YtkkomfomjpcbfaaDoor.PTS
