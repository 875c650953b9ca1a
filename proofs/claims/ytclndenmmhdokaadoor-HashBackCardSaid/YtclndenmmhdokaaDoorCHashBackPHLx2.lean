import Derived.Test.YtclndenmmhdokaaDoorCHashBackH8
import Derived.Laws.CopyOwn
import Derived.Test.YtclndenmmhdokaaDoorCHashBackQB
import Derived.Test.YtclndenmmhdokaaDoorCHashBackHC
import Derived.Test.YtclndenmmhdokaaDoorCHashBackHA
import Derived.StillTailTactics
import Derived.IntWalk
import Derived.Test.YtclndenmmhdokaaDoorCHashBackWWords
import Derived.Test.YtclndenmmhdokaaDoorProg
import Derived.Below
import Derived.Deep.Draws
import Derived.Deep.AppendLies
import Derived.Maps.AppendAt
import Derived.OwnWalk
import Derived.Laws.BytesArg
import Derived.Laws.MakeOwn
import Derived.Laws.OwnMore
import Derived.Deep.OwnRows
import Derived.Tactics
import Derived.Lib.ConvBytes
import Derived.Laws.Slices
import Derived.WalkKit
import Derived.KernelRfl
import Derived.RowKit3
import Derived.Deep.LoopGhost
import Derived.Deep.QuietTactic
import Derived.BigQuiet
import Derived.WideLaws
import Derived.Deep.DeepCutAuto
import Derived.Deep.CutBlock
import Derived.Deep.RegionHeld3
import Derived.Laws.Rows
import Derived.Lib.AppendStr
import Derived.ArgAppend
import Derived.Laws.IdiomCopy
import Derived.OrdersHeld
import Derived.Laws.BitsLemmas
import Derived.RowKit
import Derived.Laws.StructEq
namespace Go.Proofs.YtclndenmmhdokaaDoor.Bq
end Go.Proofs.YtclndenmmhdokaaDoor.Bq
section
namespace Go.Proofs.YtclndenmmhdokaaDoor
open Go.RowKit Go.Proofs.YtclndenmmhdokaaDoorW.PrintWords Go.Proofs.YtclndenmmhdokaaDoorW.PrintMore Go.Proofs.YtclndenmmhdokaaDoorW.PrintLast
set_option linter.unusedVariables false
set_option linter.unusedSimpArgs false
attribute [local go_sem ↓] Go.wp_at_zero Go.wp_at_succ
set_option maxHeartbeats 4000000 in
theorem hsum_calls (w : World) (A : Option Addr) (c : Nat) (xss : List (List Int)) (hP : Parts w (fun k => k < w.heap.size) A xss) (hb : ∀ xs ∈ xss, Byts xs) (hl : xss.flatten.length ≤ 1000000000) (hn : xss.length ≤ 1000000000)
    (hT : ∀ i, i < 64 → w.cell? ⟨0, i, none⟩ = some (.int .u32 (Sha.K.getD i 0))) :
    Calls Tryd.prog 14 #[.slice A xss.length c] w fun e w' => e = .returned (.agg (nums .u8 (Sha.sum xss.flatten)).toArray) ∧ Below w.heap.size w w' := by
  have HP := Lib.hid hP
  have HBY := Lib.hid hb
  have HT := Lib.hid hT
  have hz : 0 < w.heap.size := World.block_lt_of_cell? w _ (hT 0 (by decide))
  clear hP hb hT
  obtain ⟨D, hD⟩ : ∃ D, D = Sha.sum xss.flatten := ⟨_, rfl⟩
  have hDl : D.length = 32 := by rw [hD, Sha.sum_length]
  rw [← hD]
  have HD := Lib.hid hD
  clear hD
  go_enter Tryd.func14, Tryd.ntmps14
  go_upto_region 1 with fail
  obtain ⟨w1, hw1⟩ : ∃ w1, w1 = w.alloc (.cells (nums .u8 (List.replicate 32 0)).toArray 25) := ⟨_, rfl⟩
  have k1 : Blk w1 w.heap.size .u8 25 (List.replicate 32 0) := by rw [hw1]; exact blk_new w _
  have b1 : Below w.heap.size w w1 := by rw [hw1]; exact (Below.refl _ w).alloc (Nat.le_refl _) _
  change Code.wp _ _ _ _ (w.alloc (.cells (nums .u8 (List.replicate 32 0)).toArray 25))
  rw [← hw1]
  clear hw1
  have K1 := Lib.hid k1
  have B1 := Lib.hid b1
  have hs1 := k1.lt
  clear k1 b1
  go_upto_region 2 with (go_at_call 20; refine (hnew_calls w1).mono ?_; rintro e w2 ⟨g, rfl, hH, hB⟩; have HH := Lib.hid hH; have HB := Lib.hid hB; clear hH hB)
  have hs2 := HB.out.size
  have P2 : Hid (Parts w2 (fun k => k < w.heap.size) A xss) := Lib.hid ((HP.out.step (fun k hk hlt => B1.out.block k hk)).step (fun k hk hlt => HB.out.block k hlt))
  have T2 : Hid (∀ i, i < 64 → w2.cell? ⟨0, i, none⟩ = some (.int .u32 (Sha.K.getD i 0))) := Lib.hid (fun i hi => (HB.out.cell (by show 0 < w1.heap.size; omega)).trans ((B1.out.cell (by show 0 < w.heap.size; exact hz)).trans (HT.out i hi)))
  have hwr := Lib.hid (hwrite_calls w2 (fun k => w1.heap.size ≤ k) (fun k => k < w.heap.size) g [] A c xss HH.out P2.out (fun k hk => ⟨by omega, by omega⟩) HBY.out (by simpa using hl) hn T2.out (by omega))
  go_upto_region 3 with (go_at_call 22; refine hwr.out.mono ?_; rintro e w3 ⟨rfl, hH3, hM3⟩; have HH3 := Lib.hid hH3; have HM3 := Lib.hid hM3; clear hH3 hM3)
  have hs3 := HM3.out.size
  have B3 : Hid (Below w.heap.size w w3) := Lib.hid ((B1.out.trans (Mod.below (Mod.of_below HB.out (fun k => w1.heap.size ≤ k)) (by omega) (fun k hk => by omega))).trans (Mod.below HM3.out (by omega) (fun k hk => by omega)))
  have K3 : Hid (Blk w3 w.heap.size .u8 25 (List.replicate 32 0)) := Lib.hid ((HM3.out.block _ (by omega) (by omega)).trans ((HB.out.block _ hs1).trans K1.out))
  have T3 : Hid (∀ i, i < 64 → w3.cell? ⟨0, i, none⟩ = some (.int .u32 (Sha.K.getD i 0))) := Lib.hid (fun i hi => (B3.out.cell (by show 0 < w.heap.size; exact hz)).trans (HT.out i hi))
  have hsm := hsumm_calls w3 _ g ([] ++ xss.flatten) HH3.out (by simpa using hl) T3.out
  rw [List.nil_append] at hsm
  rw [← HD.out] at hsm
  have HSM := Lib.hid hsm
  clear hsm
  have hl9 : (nums .u8 D).length = 32 := by rw [nums_length, hDl]
  have hsz9 : (Tryd.prog.info? 25).map (·.size) = some (nums .u8 D).toArray.size := by
    have e : (nums .u8 D).toArray.size = 32 := by rw [List.size_toArray, hl9]
    have e2 : (Tryd.prog.info? 25).map (·.size) = some 32 := by kernel_rfl
    rw [e]
    exact e2
  have hth : ∀ W : World, Below w3.heap.size w3 W → W.there w.heap.size 0 (nums .u8 D).toArray.size := fun W hW => by
    have e : (nums .u8 D).toArray.size = 32 := by rw [List.size_toArray, hl9]
    have k : Blk W w.heap.size .u8 25 (List.replicate 32 0) := (hW.block _ K3.out.lt).trans K3.out
    rw [e]
    exact k.there
  have HTH := Lib.hid hth
  have HSZ := Lib.hid hsz9
  clear hth hsz9
  go_wp2_with (go_at_call 23; refine HSM.out.mono ?_; rintro e w4 ⟨rfl, hB4⟩; have HB4 := Lib.hid hB4; clear hB4; apply_assumption; refine wpList_store_mid rfl _ _ _ rfl w.heap.size 0 (nums .u8 D).toArray rfl rfl (HTH.out w4 HB4.out) HSZ.out (all_oneCell_toArray (nums_one .u8 D)) ?_; rw [List.toList_toArray]; change wpList _ _ _ _ _ (putA w4 w.heap.size .u8 D))
  have k4 : Blk w4 w.heap.size .u8 25 (List.replicate 32 0) := (HB4.out.block _ K3.out.lt).trans K3.out
  have hfin := k4.putA (k' := .u8) (ys := D) (by rw [hDl]; rfl)
  have b4 : Below w.heap.size w w4 := B3.out.trans (Mod.below (Mod.of_below HB4.out (fun k => w3.heap.size ≤ k)) (by omega) (fun k hk => by omega))
  exact bodyPost_ret (results_cell_row rfl _ _ w.heap.size 25 (nums .u8 D).toArray (0, 0) _ rfl hfin Tryd.underlying25 rfl HSZ.out) rfl ⟨rfl, putA_below b4 (Nat.le_refl _)⟩
end Go.Proofs.YtclndenmmhdokaaDoor
end
section
namespace Go.Proofs.YtclndenmmhdokaaDoor
open Go.RowKit Go.Proofs.YtclndenmmhdokaaDoorW.PrintWords Go.Proofs.YtclndenmmhdokaaDoorW.PrintMore Go.Proofs.YtclndenmmhdokaaDoorW.PrintLast
set_option linter.unusedVariables false
set_option linter.unusedSimpArgs false
attribute [local go_sem ↓] Go.wp_at_zero Go.wp_at_succ
theorem Blk.C {w : World} {g t : Nat} {k : IntKind} {xs : List Int} (h : Blk w g k t xs) (hm : xs.length ≤ 9223372036854775807) : (Kd.int k).C w (some ⟨g, 0, none⟩) xs.length xs := by
  refine ⟨rfl, hm, fun hp => ⟨⟨g, 0, none⟩, rfl, fun i p hi => ⟨[.int k p], rfl, rfl, fun j u hu => ?_⟩⟩⟩
  rcases j with _ | j
  · injection hu with hu
    subst hu
    have hlt : i < xs.length := (List.getElem?_eq_some_iff.1 hi).1
    have hg := h.get i hlt
    rw [List.getD_eq_getElem?_getD, hi] at hg
    have e : (⟨g, 0, none⟩ : Addr).add (i * 1 + 0) = ⟨g, i, none⟩ := by rw [Addr.add_mid]; simp
    exact (congrArg w.cell? e).trans hg
  · cases hu
theorem Blk.F {w : World} {g t : Nat} {k : IntKind} {xs : List Int} (h : Blk w g k t xs) (hm : xs.length ≤ 9223372036854775807) : Kd.F (Kd.int k) w (fun j => j = g) (some ⟨g, 0, none⟩) xs.length xs :=
  fun W hW => Blk.C (t := t) ((hW g rfl h.lt).trans h) hm
end Go.Proofs.YtclndenmmhdokaaDoor
end
section
namespace Go.Proofs.YtclndenmmhdokaaDoor
open Go.RowKit Go.Proofs.YtclndenmmhdokaaDoorW.PrintWords Go.Proofs.YtclndenmmhdokaaDoorW.PrintMore Go.Proofs.YtclndenmmhdokaaDoorW.PrintLast
set_option linter.unusedVariables false
set_option linter.unusedSimpArgs false
attribute [local go_sem ↓] Go.wp_at_zero Go.wp_at_succ
section
variable {ops : Array Oper} {rest : List Oper} {o : Oper} {a : Act} {w : World} {Q : Exit → Act → World → Prop}
theorem wl_alloc32 (hgd : o.guard = none) (ho : o.op = .alloc 25)
    (h : wpList Tryd.prog ops Q rest (a.put o.dst (.pointer (some ⟨w.heap.size, 0, none⟩))) (w.alloc (.cells (nums .u8 (List.replicate 32 0)).toArray 25))) : wpList Tryd.prog ops Q (o :: rest) a w := by
  refine wpList_plain hgd fun K hK => ?_
  unfold Oper.wp
  unfold execOp
  rw [ho]
  go_simp
  exact hK _ _ h
end
theorem Hs.step {w w1 : World} {ok : Nat → Prop} {g : Nat} {t : List Int} (h : Hs w ok g t) (hm : ∀ k, ok k → k < w.heap.size → w1.heap[k]? = w.heap[k]?) : Hs w1 ok g t := by
  obtain ⟨vl, h⟩ := h
  exact ⟨vl, (hm g h.okg (blk_lt h.blk)).trans h.blk, Kd.R_step h.row hm, h.okg, h.byts⟩
theorem Hs.bound {w : World} {ok : Nat → Prop} {g : Nat} {t : List Int} (h : Hs w ok g t) : Hs w (fun k => ok k ∧ k < w.heap.size) g t := by
  obtain ⟨vl, h⟩ := h
  exact ⟨vl, h.blk, Kd.R_mono (Kd.R_bound h.row) (fun k hk => ⟨hk.1, hk.2.2.1⟩), ⟨h.okg, blk_lt h.blk⟩, h.byts⟩
theorem Hs.mono {w : World} {ok ok' : Nat → Prop} {g : Nat} {t : List Int} (h : Hs w ok g t) (hk : ∀ k, ok k → ok' k) : Hs w ok' g t := by
  obtain ⟨vl, h⟩ := h
  exact ⟨vl, h.blk, Kd.R_mono h.row hk, hk g h.okg, h.byts⟩
theorem below_lower {B B' : Nat} {w w1 : World} (h : Below B' w w1) (hB : B ≤ B') : Below B w w1 := ⟨h.os, h.tape, h.output, h.size, fun k hk => h.block k (Nat.lt_of_lt_of_le hk hB)⟩
structure Kst (w wr : World) (K : List Int) : Prop where
  r : Blk wr w.heap.size .u8 25 (List.replicate 32 0)
  k : Blk wr (w.heap.size + 1) .u8 66 K
  b : Below w.heap.size w wr
theorem Kst.size {w wr : World} {K : List Int} (h : Kst w wr K) : w.heap.size + 2 ≤ wr.heap.size := blk_lt h.k
theorem Kst.step {w wr w1 : World} {K : List Int} {S : Nat → Prop} (h : Kst w wr K) (hm : Mod S wr w1) (hS : ∀ k, S k → w.heap.size + 2 ≤ k) : Kst w w1 K :=
  ⟨hm.blk h.r (fun hk => by have := hS _ hk; omega), hm.blk h.k (fun hk => by have := hS _ hk; omega), h.b.trans (Mod.below hm (by have := h.size; omega) (fun k hk => by have := hS k hk; omega))⟩
theorem Kst.below {w wr w1 : World} {K : List Int} (h : Kst w wr K) (hb : Below wr.heap.size wr w1) : Kst w w1 K := h.step (Mod.of_below hb (fun k => wr.heap.size ≤ k)) (fun k hk => Nat.le_trans h.size hk)
theorem Kst.alloc {w wr : World} {K : List Int} (h : Kst w wr K) (o : Obj) : Kst w (wr.alloc o) K := h.below (below_alloc (Below.refl _ _) o)
theorem cell_alloc_new (w : World) (v : Value) (t : Nat) : (w.alloc (.cells #[v] t)).cell? ⟨w.heap.size, 0, none⟩ = some v := (blk_cell (blk_new w (.cells #[v] t)) 0).trans rfl
theorem Parts.bound {w : World} {okP : Nat → Prop} {A : Option Addr} {xss : List (List Int)} (h : Parts w okP A xss) : Parts w (fun k => okP k ∧ k < w.heap.size) A xss := by
  intro i hi
  obtain ⟨ad, B, c, e, hk, hc, hF⟩ := h i hi
  exact ⟨ad, B, c, e, ⟨hk, World.block_lt_of_cell? w _ hc⟩, hc, Kd.F_bound hF⟩
theorem Parts.mono {w : World} {okP okP' : Nat → Prop} {A : Option Addr} {xss : List (List Int)} (h : Parts w okP A xss) (hk : ∀ k, okP k → okP' k) : Parts w okP' A xss := by
  intro i hi
  obtain ⟨ad, B, c, e, h1, hc, hF⟩ := h i hi
  exact ⟨ad, B, c, e, hk _ h1, hc, Kd.F_mono hF hk⟩
theorem Parts.one {w : World} {okP : Nat → Prop} {B : Option Addr} {c t : Nat} {xs : List Int} (hf : Kd.F (Kd.int .u8) w okP B xs.length xs) (hk : okP w.heap.size) :
    Parts (w.alloc (.cells #[.slice B xs.length c] t)) okP (some ⟨w.heap.size, 0, none⟩) [xs] := by
  intro i hi
  have hi0 : i = 0 := by simpa using hi
  subst hi0
  exact ⟨⟨w.heap.size, 0, none⟩, B, c, rfl, hk, cell_alloc_new w _ t, Kd.F_alloc hf _⟩
theorem Parts.two {w : World} {okP : Nat → Prop} {B B' : Option Addr} {c c' t : Nat} {xs ys : List Int} (hf : Kd.F (Kd.int .u8) w okP B xs.length xs) (hf' : Kd.F (Kd.int .u8) w okP B' ys.length ys) (hk : okP w.heap.size) :
    Parts (w.alloc (.cells #[.slice B xs.length c, .slice B' ys.length c'] t)) okP (some ⟨w.heap.size, 0, none⟩) [xs, ys] := by
  intro i hi
  have hi0 : i = 0 ∨ i = 1 := by simp at hi; omega
  rcases hi0 with rfl | rfl
  · exact ⟨⟨w.heap.size, 0, none⟩, B, c, rfl, hk, (blk_cell (blk_new w (.cells #[.slice B xs.length c, .slice B' ys.length c'] t)) 0).trans rfl, Kd.F_alloc hf _⟩
  · refine ⟨⟨w.heap.size, 0, none⟩, B', c', rfl, ?_, ?_, Kd.F_alloc hf' _⟩
    · rw [Addr.add_mid]; exact hk
    · rw [Addr.add_mid, Nat.zero_add]
      exact (blk_cell (blk_new w (.cells #[.slice B xs.length c, .slice B' ys.length c'] t)) 1).trans rfl
end Go.Proofs.YtclndenmmhdokaaDoor
end
section
namespace Go.Proofs.YtclndenmmhdokaaDoor
open Go Go.RowKit Go.Proofs.YtclndenmmhdokaaDoorW.PrintWords Go.Proofs.YtclndenmmhdokaaDoorW.PrintMore Go.Proofs.YtclndenmmhdokaaDoorW.PrintLast Bq
set_option linter.unusedVariables false
set_option linter.unusedSimpArgs false
attribute [local go_sem ↓] Go.wp_at_zero Go.wp_at_succ
theorem info_u8 : (Tryd.prog.info? 5).map (fun i => (i.zero, i.size, i.bytes)) = some (some (.int .u8 0), 1, 1) := by kernel_rfl
theorem eq_take {xs ys : List Int} (h : xs.length = ys.length) (hk : xs.take xs.length = ys.take xs.length) : xs = ys := by
  rw [List.take_of_length_le (Nat.le_refl _), List.take_of_length_le (by omega)] at hk
  exact hk
theorem take_next_eq {xs ys : List Int} {k : Nat} (h1 : k < xs.length) (h2 : k < ys.length) (hk : xs.take k = ys.take k) (he : xs.getD k 0 = ys.getD k 0) : xs.take (k + 1) = ys.take (k + 1) := by
  rw [List.take_succ_eq_append_getElem h1, List.take_succ_eq_append_getElem h2, hk]
  rw [List.getD_eq_getElem?_getD, List.getD_eq_getElem?_getD, List.getElem?_eq_getElem h1, List.getElem?_eq_getElem h2] at he
  simp only [Option.getD_some] at he
  rw [he]
set_option maxHeartbeats 2000000 in
theorem requal_calls (w : World) (A B : Option Addr) (ca cb : Nat) (xs ys : List Int) (hA : (Kd.int .u8).C w A xs.length xs) (hB : (Kd.int .u8).C w B ys.length ys) (hs : xs.length ≤ 1000000000000) (ht : ys.length ≤ 1000000000000) :
    Calls Tryd.prog 15 #[.slice A xs.length ca, .slice B ys.length cb] w fun e w' => e = .returned (.bool (decide (xs = ys))) ∧ ∃ n, w' = w.drewN n := by
  have HA := Lib.hid hA
  have HB := Lib.hid hB
  clear hA hB
  by_cases hl : xs.length = ys.length
  · have hne : ((xs.length : Int) != (ys.length : Int)) = false := by simp [hl]
    have HL := Lib.hid hl
    go_enter Tryd.func15, Tryd.ntmps15
    go_wp2
    go_loopg [13] xs.length (fun kq s13 wr => ∃ (k m : Nat), wr = w.drewN m ∧ k + kq = xs.length ∧ s13 = .int .i64 k ∧ Hid (xs.take k = ys.take k))
    case atStart => exact ⟨0, 0, rfl, by omega, rfl, rfl⟩
    case round =>
      obtain ⟨k, m, rfl, hk, rfl, htk⟩ := hrel
      by_cases hlt : k < xs.length
      · obtain ⟨ad, hAa, hcell⟩ := C_at_int HA.out k hlt
        obtain ⟨bd, hBb, hcelb⟩ := C_at_int HB.out k (by rw [← HL.out]; exact hlt)
        subst hAa
        subst hBb
        have h2 : k < ys.length := by rw [← HL.out]; exact hlt
        obtain ⟨x, hx⟩ : ∃ x, x = xs.getD k 0 := ⟨_, rfl⟩
        obtain ⟨y, hy⟩ : ∃ y, y = ys.getD k 0 := ⟨_, rfl⟩
        rw [← hx] at hcell
        rw [← hy] at hcelb
        have HX := Lib.hid hx
        have HY := Lib.hid hy
        clear hx hy
        by_cases he : x = y
        · have HE := Lib.hid he
          have hq : (x != y) = false := by simp [he]
          clear he
          go_wp2
          go_quiet (fail)
          go_wp2
          go_roundg (gk - 1)
          case measure => omega
          case rel => exact ⟨k + 1, _, rfl, by omega, by go_num, take_next_eq hlt h2 htk.out (by rw [← HX.out, ← HY.out, HE.out])⟩
        · have HE := Lib.hid he
          have hq : (x != y) = true := by simp [he]
          clear he
          go_wp2
          go_quiet (fail)
          go_wp2
          go_ret
          refine ⟨?_, _, World.drewN_drewN _ _ _⟩
          rw [decide_eq_false (fun h => HE.out (by rw [HX.out, HY.out, h]))]
          rfl
      · have hge : (ys.length : Int) ≤ (k : Int) := by omega
        go_wp2
        go_ret
        refine ⟨?_, _, rfl⟩
        have : k = xs.length := by omega
        subst this
        rw [decide_eq_true (eq_take HL.out htk.out)]
        rfl
  · have hne : ((xs.length : Int) != (ys.length : Int)) = true := by simp; omega
    go_enter Tryd.func15, Tryd.ntmps15
    go_wp2
    go_ret
    exact ⟨by rw [decide_eq_false (fun h => hl (by rw [h]))]; rfl, 0, rfl⟩
end Go.Proofs.YtclndenmmhdokaaDoor
end
section
namespace Go.Proofs.YtclndenmmhdokaaDoor
open Go Go.RowKit Go.Proofs.YtclndenmmhdokaaDoorW.PrintWords Go.Proofs.YtclndenmmhdokaaDoorW.PrintMore Go.Proofs.YtclndenmmhdokaaDoorW.PrintLast Bq
set_option linter.unusedVariables false
set_option linter.unusedSimpArgs false
attribute [local go_sem ↓] Go.wp_at_zero Go.wp_at_succ
theorem sN_append (a b : List Int) : strOfNums (a ++ b) = strOfNums a ++ strOfNums b := by
  simp only [strOfNums, List.map_append]
  apply ByteArray.ext
  simp
def hexD : List Int := [48, 49, 50, 51, 52, 53, 54, 55, 56, 57, 97, 98, 99, 100, 101, 102]
def hexS : ByteArray := ⟨#[48, 49, 50, 51, 52, 53, 54, 55, 56, 57, 97, 98, 99, 100, 101, 102]⟩
def hex1 (x : Int) : List Int := [hexD.getD (x / 16).toNat 0, hexD.getD (x % 16).toNat 0]
def hex (xs : List Int) : List Int := xs.flatMap hex1
theorem hexS_cut (n : Nat) (h : n < 16) : hexS.extract n (n + 1) = strOfNums [hexD.getD n 0] := by
  have : ∀ k : Fin 16, hexS.extract k.val (k.val + 1) = strOfNums [hexD.getD k.val 0] := by decide
  exact this ⟨n, h⟩
theorem hex_length (xs : List Int) : (hex xs).length = 2 * xs.length := by
  unfold hex
  rw [List.length_flatMap]
  have : xs.map (fun x => (hex1 x).length) = xs.map (fun _ => 2) := rfl
  rw [this]
  clear this
  induction xs with
  | nil => rfl
  | cons x xs ih => rw [List.map_cons, List.sum_cons, ih, List.length_cons]; omega
theorem hex_next (xs : List Int) (i : Nat) (h : i < xs.length) : hex (xs.take i) ++ hex1 (xs.getD i 0) = hex (xs.take (i + 1)) := by
  unfold hex
  rw [List.take_succ_eq_append_getElem h, List.flatMap_append, List.getD_eq_getElem?_getD, List.getElem?_eq_getElem h]
  simp
set_option maxHeartbeats 2000000 in
theorem rhex_calls (w : World) (A : Option Addr) (c : Nat) (xs : List Int) (hC : (Kd.int .u8).C w A xs.length xs) (hb : Byts xs) (hl : xs.length ≤ 1000000000) :
    Calls Tryd.prog 35 #[.slice A xs.length c] w fun e w' => e = .returned (.string (strOfNums (hex xs))) ∧ Below w.heap.size w w' := by
  have HC := Lib.hid hC
  have HB := Lib.hid hb
  clear hC hb
  have hS : (⟨#[48, 49, 50, 51, 52, 53, 54, 55, 56, 57, 97, 98, 99, 100, 101, 102]⟩ : ByteArray) = hexS := rfl
  have hSs : hexS.size = 16 := rfl
  go_enter Tryd.func35, Tryd.ntmps35
  go_wp2
  go_loopg [3, 8] xs.length (fun kq s3 s8 wr => ∃ (i : Nat) (S : ByteArray), i + kq = xs.length ∧ s8 = .int .i64 i ∧ s3 = .string S ∧ S.size ≤ 2 * i ∧ Hid (S = strOfNums (hex (xs.take i))) ∧ Hid (Below w.heap.size w wr))
  case atStart => exact ⟨0, ⟨#[]⟩, by omega, rfl, rfl, by decide, rfl, Below.refl _ _⟩
  case round =>
    obtain ⟨i, S, hi, rfl, rfl, hSl, hSS, hBr⟩ := hrel
    by_cases hlt : i < xs.length
    · obtain ⟨ad, hA, c0⟩ := C_at_int HC.out i hlt
      subst hA
      have hbx := HB.out.get i hlt
      obtain ⟨x, hx⟩ : ∃ x, x = xs.getD i 0 := ⟨_, rfl⟩
      rw [← hx] at c0 hbx
      rw [← hBr.out.cell (World.block_lt_of_cell? w _ c0)] at c0
      obtain ⟨p, hp⟩ : ∃ p : Nat, x / 16 = p := ⟨(x / 16).toNat, by omega⟩
      obtain ⟨q, hq⟩ : ∃ q : Nat, x % 16 = q := ⟨(x % 16).toNat, by omega⟩
      have hp16 : p < 16 := by omega
      have hq16 : q < 16 := by omega
      have e1 : IntKind.u8.wrap ((p : Int) + 1) = ((p + 1 : Nat) : Int) := by rw [IntKind.wrap_u8]; omega
      have e2 : IntKind.u8.wrap ((q : Int) + 1) = ((q + 1 : Nat) : Int) := by rw [IntKind.wrap_u8]; omega
      have e3 : ((p + 1 : Nat) : Int) = (p : Int) + 1 := by omega
      obtain ⟨P1, hP1⟩ : ∃ P1, hexS.extract p (p + 1) = P1 := ⟨_, rfl⟩
      obtain ⟨Q1, hQ1⟩ : ∃ Q1, hexS.extract q (q + 1) = Q1 := ⟨_, rfl⟩
      have hPs : P1.size = 1 := by rw [← hP1, hexS_cut p hp16]; rfl
      have hQs : Q1.size = 1 := by rw [← hQ1, hexS_cut q hq16]; rfl
      have t1 : x.tdiv 16 = (p : Int) := by rw [Int.tdiv_eq_ediv_of_nonneg (by omega)]; exact hp
      have t2 : x.tmod 16 = (q : Int) := by rw [Int.tmod_eq_emod_of_nonneg (by omega)]; exact hq
      have li : (i : Int) < (xs.length : Int) := by omega
      have hPQ : (P1 ++ Q1).size = 2 := by rw [ByteArray.size_append, hPs, hQs]
      have HX := Lib.hid hx
      have hbx1 := hbx.1
      have hbx2 := hbx.2
      clear hx hbx
      go_upto_region 5 with fail
      go_quiet (fail)
      go_wp2_with fail
      go_roundg (gk - 1)
      case measure => omega
      case rel =>
        refine ⟨i + 1, _, by omega, by go_num, rfl, by rw [ByteArray.size_append, hPQ]; omega, ?_, pw_below_drewN hBr.out nq⟩
        show S ++ (P1 ++ Q1) = strOfNums (hex (xs.take (i + 1)))
        have ep : (x / 16).toNat = p := by omega
        have eq : (x % 16).toNat = q := by omega
        rw [← hex_next xs i hlt, sN_append, hSS.out, ← HX.out, hex1, ep, eq, show [hexD.getD p 0, hexD.getD q 0] = [hexD.getD p 0] ++ [hexD.getD q 0] from rfl, sN_append, ← hexS_cut p hp16, ← hexS_cut q hq16, hP1, hQ1]
    · have hil : i = xs.length := by omega
      have HI := Lib.hid hil
      clear hil
      go_wp2_with fail
      go_ret
      refine ⟨?_, hBr.out⟩
      have e := hSS.out
      rw [HI.out, List.take_length] at e
      rw [← e]
      rfl
end Go.Proofs.YtclndenmmhdokaaDoor
end
section
namespace Go.Proofs.YtclndenmmhdokaaDoor
open Go Bq
set_option linter.unusedVariables false
def lett : List Int := [65, 66, 67, 68, 69, 70, 71, 72, 73, 74, 75, 76, 77, 78, 79, 80, 81, 82, 83, 84, 85, 86, 87, 88, 89, 90, 97, 98, 99, 100, 101, 102, 103, 104, 105, 106, 107, 108, 109, 110, 111, 112, 113, 114, 115, 116, 117, 118, 119, 120, 121, 122, 48, 49, 50, 51, 52, 53, 54, 55, 56, 57, 45, 95]
def lettS : ByteArray := ⟨#[65, 66, 67, 68, 69, 70, 71, 72, 73, 74, 75, 76, 77, 78, 79, 80, 81, 82, 83, 84, 85, 86, 87, 88, 89, 90, 97, 98, 99, 100, 101, 102, 103, 104, 105, 106, 107, 108, 109, 110, 111, 112, 113, 114, 115, 116, 117, 118, 119, 120, 121, 122, 48, 49, 50, 51, 52, 53, 54, 55, 56, 57, 45, 95]⟩
def six1 (l : List Bool) : Int := lett.getD (bnum l * 2 ^ (6 - l.length)) 0
def arm (l : List Bool) : List Int := if l = [] then [] else six1 (l.take 6) :: arm (l.drop 6)
  termination_by l.length
  decreasing_by
    rename_i h
    have : 0 < l.length := (List.length_pos_iff.2 h)
    rw [List.length_drop]
    omega
def armor (xs : List Int) : List Int := arm (bitsOf xs (8 * xs.length))
theorem arm_nil : arm [] = [] := by unfold arm; simp
theorem arm_cons (l : List Bool) (h : l ≠ []) : arm l = six1 (l.take 6) :: arm (l.drop 6) := by rw [arm]; simp [h]
theorem arm_append : ∀ (q : Nat) (a t : List Bool), a.length = 6 * q → arm (a ++ t) = arm a ++ arm t
  | 0, a, t, h => by
    have : a = [] := List.eq_nil_of_length_eq_zero (by omega)
    subst this
    rw [arm_nil]
    rfl
  | q + 1, a, t, h => by
    have ha : a ≠ [] := by intro e; rw [e] at h; simp at h
    have hat : a ++ t ≠ [] := by intro e; exact ha (List.append_eq_nil_iff.1 e).1
    rw [arm_cons _ hat, arm_cons a ha, List.take_append_of_le_length (by omega), List.drop_append_of_le_length (by omega), arm_append q (a.drop 6) t (by rw [List.length_drop]; omega)]
    rfl
theorem arm_short (t : List Bool) (h0 : t ≠ []) (h6 : t.length ≤ 6) : arm t = [six1 t] := by
  rw [arm_cons t h0, List.take_of_length_le h6, List.drop_of_length_le h6, arm_nil]
theorem arm_length (l : List Bool) : (arm l).length = (l.length + 5) / 6 := by
  induction hn : l.length using Nat.strongRecOn generalizing l with
  | _ n ih =>
    by_cases h : l = []
    · subst h
      rw [arm_nil, ← hn]
      rfl
    · have hp := (List.length_pos_iff.2 h)
      rw [arm_cons l h, List.length_cons, ih (l.drop 6).length (by rw [List.length_drop]; omega) (l.drop 6) rfl, List.length_drop]
      omega
theorem six_pick (x n : Nat) (r : List Bool) (hl : r.length = n + 6) (hx : x % 2 ^ (n + 6) = bnum r) : x / 2 ^ n % 64 = bnum (r.take 6) ∧ x % 2 ^ n = bnum (r.drop 6) := by
  have h1 := bnum_append (r.take 6) (r.drop 6)
  rw [List.take_append_drop] at h1
  have hd : (r.drop 6).length = n := by rw [List.length_drop]; omega
  have ht : (r.take 6).length = 6 := by rw [List.length_take]; omega
  rw [hd] at h1
  have h2 := bnum_lt (r.drop 6)
  rw [hd] at h2
  have h3 := bnum_lt (r.take 6)
  rw [ht] at h3
  have hp : 2 ^ (n + 6) = 2 ^ n * 64 := by rw [Nat.pow_add]
  have hp0 : 0 < 2 ^ n := Nat.pow_pos (by decide)
  have e1 : x % 2 ^ n = x % 2 ^ (n + 6) % 2 ^ n := by rw [hp, Nat.mod_mul_right_mod]
  have e2 : x / 2 ^ n % 64 = x % 2 ^ (n + 6) / 2 ^ n := by rw [hp, Nat.mod_mul_right_div_self]
  constructor
  · rw [e2, hx, h1, Nat.add_comm, Nat.add_mul_div_right _ _ hp0, Nat.div_eq_of_lt h2, Nat.zero_add]
  · rw [e1, hx, h1, Nat.add_comm, Nat.add_mul_mod_self_right, Nat.mod_eq_of_lt h2]
theorem six1_full (r : List Bool) (h : r.length = 6) : six1 r = lett.getD (bnum r) 0 := by
  unfold six1
  rw [h]
  simp
end Go.Proofs.YtclndenmmhdokaaDoor
end
section
namespace Go.Proofs.YtclndenmmhdokaaDoor
open Go Go.RowKit Go.Proofs.YtclndenmmhdokaaDoorW.PrintWords Go.Proofs.YtclndenmmhdokaaDoorW.PrintMore Go.Proofs.YtclndenmmhdokaaDoorW.PrintLast Bq
set_option linter.unusedVariables false
set_option linter.unusedSimpArgs false
attribute [local go_sem ↓] Go.wp_at_zero Go.wp_at_succ
theorem run_make0 (W : World) (m : Nat) (hm : m ≤ 281474976710656) :
    (Instr.makeSlice 28 (.int .i64 0) (.int .i64 (m : Int))).run Tryd.prog W = .ok (.slice (some ⟨W.heap.size, 0, none⟩) 0 m) (W.alloc (.cells (madeCells #[.int .u8 0] m) 5)) := by
  obtain ⟨i0, hi, hzz⟩ := Option.map_eq_some_iff.1 info_u8
  simp only [Prod.mk.injEq] at hzz
  obtain ⟨hz0, hz1, hz2⟩ := hzz
  have hr := run_make (P := Tryd.prog) W 28 5 i0 (.int .u8 0) Tryd.underlying28 hi hz0 .i64 .i64 0 (m : Int) (by omega) (by omega) (by rw [hz2]; omega) (by omega)
  simp only [Int.toNat_natCast, hz1, Nat.mul_one] at hr
  exact hr
theorem make0_R (W : World) (base m : Nat) (ok : Nat → Prop) (hb : base ≤ W.heap.size) (hok : ok W.heap.size) (hm : m ≤ 281474976710656) :
    (Kd.int .u8).R 5 (W.alloc (.cells (madeCells #[.int .u8 0] m) 5)) base ok (.slice (some ⟨W.heap.size, 0, none⟩) 0 m) [] :=
  ⟨fun k hk => by
    have : W.heap.size = k := by simpa [Value.ownBlock] using hk
    subst this
    exact hok, [], ⟨by simp, .inr ⟨W.heap.size, m, _, rfl, hb, heap_alloc_new W _, Nat.zero_le _, by simp [maxLen]; omega, by rw [size_madeCells]; exact (Nat.mul_one m).symm, by simp⟩⟩, Reps.none _ _⟩
section
variable {ops : Array Oper} {rest : List Oper} {o : Oper} {a : Act} {W : World} {Q : Exit → Act → World → Prop}
theorem wl_make0 (base m : Nat) (ok : Nat → Prop) (hgd : o.guard = none) (x y : Operand) (ho : o.op = .makeSlice 28 x y) (hx : a.eval x = .int .i64 0) (hy : a.eval y = .int .i64 (m : Int)) (hb : base ≤ W.heap.size) (hok : ok W.heap.size) (hm : m ≤ 281474976710656)
    (h : ∀ v1 w1, (Kd.int .u8).R 5 w1 base ok v1 [] → Below W.heap.size W w1 → wpList Tryd.prog ops Q rest (a.put o.dst v1) w1) : wpList Tryd.prog ops Q (o :: rest) a W := by
  refine wpList_plain hgd fun K hK => ?_
  have hr := run_make0 W m hm
  unfold Oper.wp
  simp only [execOp, ho, hx, hy, Sem.run_bind, hr, Result.andThen]
  exact hK _ _ (h _ _ (make0_R W base m ok hb hok hm) (below_alloc (Below.refl _ W) _))
end
set_option maxRecDepth 10000 in
theorem lettS_get (i : Nat) (hi : i < 64) : (((lettS[i]'hi).toNat : Nat) : Int) = lett.getD i 0 := by
  have h : ∀ j : Fin 64, (((lettS[j.val]'j.isLt).toNat : Nat) : Int) = lett.getD j.val 0 := by decide
  exact h ⟨i, hi⟩
end Go.Proofs.YtclndenmmhdokaaDoor
end
section
namespace Go.Proofs.YtclndenmmhdokaaDoor
open Go Go.RowKit Go.Proofs.YtclndenmmhdokaaDoorW.PrintWords Go.Proofs.YtclndenmmhdokaaDoorW.PrintMore Go.Proofs.YtclndenmmhdokaaDoorW.PrintLast
set_option linter.unusedVariables false
set_option linter.unusedSimpArgs false
attribute [local go_sem ↓] Go.wp_at_zero Go.wp_at_succ
namespace Xx
def rl (n : Nat) (x : Int) : Int := bits .or .u64 (x * 2 ^ n % 18446744073709551616) (x / 2 ^ (64 - n))
def x2 (a b : Int) : Int := bits .xor .u64 a b
def le : List Int → Int
  | [] => 0
  | x :: xs => x + 256 * le xs
def round (a x : Int) : Int := rl 31 ((a + x * 14029467366897019727) % 18446744073709551616) * 11400714785074694791 % 18446744073709551616
def merge (h a : Int) : Int := (x2 h (round 0 a) * 11400714785074694791 + 9650029242287828579) % 18446744073709551616
def stripe (a b : List Int) : List Int := (List.range 4).map fun i => round (a.getD i 0) (le ((b.drop (8 * i)).take 8))
def acc (b : List Int) : Nat → List Int
  | 0 => [6983438078262162902, 14029467366897019727, 0, 7046029288634856825]
  | j + 1 => stripe (acc b j) (b.drop (32 * j))
def whole (a : List Int) : Int := (rl 1 (a.getD 0 0) + rl 7 (a.getD 1 0) + rl 12 (a.getD 2 0) + rl 18 (a.getD 3 0)) % 18446744073709551616
def merges (a : List Int) (h : Int) : Nat → Int
  | 0 => h
  | k + 1 => merge (merges a h k) (a.getD k 0)
def start (b : List Int) : Int := if 32 ≤ b.length then merges (acc b (b.length / 32)) (whole (acc b (b.length / 32))) 4 else 2870177450012600261
def e8 (b : List Int) (h : Int) : Nat → Int
  | 0 => h
  | j + 1 => (rl 27 (x2 (e8 b h j) (round 0 (le ((b.drop (8 * j)).take 8)))) * 11400714785074694791 + 9650029242287828579) % 18446744073709551616
def e4 (b : List Int) (h : Int) : Int := (rl 23 (x2 h (le (b.take 4) * 11400714785074694791 % 18446744073709551616)) * 14029467366897019727 + 1609587929392839161) % 18446744073709551616
def e1 (b : List Int) (h : Int) : Nat → Int
  | 0 => h
  | j + 1 => rl 11 (x2 (e1 b h j) (b.getD j 0 * 2870177450012600261 % 18446744073709551616)) * 11400714785074694791 % 18446744073709551616
def last (h : Int) : Int :=
  let h1 := x2 h (h / 2 ^ 33) * 14029467366897019727 % 18446744073709551616
  let h2 := x2 h1 (h1 / 2 ^ 29) * 1609587929392839161 % 18446744073709551616
  x2 h2 (h2 / 2 ^ 32)
def r32 (b : List Int) : List Int := b.drop (32 * (b.length / 32))
def r8 (b : List Int) : List Int := (r32 b).drop (8 * ((r32 b).length / 8))
def r4 (b : List Int) : List Int := if 4 ≤ (r8 b).length then (r8 b).drop 4 else r8 b
def h8 (b : List Int) : Int := e8 (r32 b) ((start b + b.length) % 18446744073709551616) ((r32 b).length / 8)
def h4 (b : List Int) : Int := if 4 ≤ (r8 b).length then e4 (r8 b) (h8 b) else h8 b
def xx (b : List Int) : Int := last (e1 (r4 b) (h4 b) (r4 b).length)
theorem le_rng : ∀ xs : List Int, Byts xs → 0 ≤ le xs ∧ le xs < 256 ^ xs.length
  | [], _ => by simp [le]
  | x :: xs, h => by
    have h1 := h x (List.mem_cons_self ..)
    have h2 := le_rng xs (fun y hy => h y (List.mem_cons_of_mem _ hy))
    rw [le, List.length_cons, Int.pow_succ]
    omega
theorem le_drop (xs : List Int) (i : Nat) (h : i < xs.length) : le (xs.drop i) = xs.getD i 0 + 256 * le (xs.drop (i + 1)) := by rw [drop_get xs i h, le]
end Xx
theorem or_u64 (a b : Nat) (h : b < 256) (ha : a < 72057594037927936) : bits .or .u64 ((a * 256 : Nat) : Int) (b : Int) = ((a * 256 + b : Nat) : Int) := by
  have h1 : a * 256 < 2 ^ 64 := by omega
  have h2 : b < 2 ^ 64 := by omega
  rw [(bits_nat .u64 64 (by decide) (fun m a b => by rw [IntKind.wrap_u64]; omega) (a * 256) b h1 h2).2]
  congr 1
  have h3 := Nat.two_pow_add_eq_or_of_lt (i := 8) h a
  rw [Nat.mul_comm a 256]
  exact h3.symm
theorem rot64_calls (x N : Int) (w : World) (hN : N ∈ ([31, 1, 7, 12, 18, 27, 23, 11] : List Int)) :
    Calls Tryd.prog 40 #[.int .u64 x, .int .i64 N] w fun e w' => e = .returned (.int .u64 (Xx.rl N.toNat x)) ∧ w = w' := by
  have hs : bits .and .u64 (IntKind.u64.wrap N) 63 = ((N.toNat : Nat) : Int) ∧ 0 < N.toNat ∧ N.toNat < 64 := by
    have : ∀ M ∈ ([31, 1, 7, 12, 18, 27, 23, 11] : List Int), bits .and .u64 (IntKind.u64.wrap M) 63 = ((M.toNat : Nat) : Int) ∧ 0 < M.toNat ∧ M.toNat < 64 := by decide
    exact this N hN
  obtain ⟨hs, hn, hn2⟩ := hs
  obtain ⟨n, hnn⟩ : ∃ n, n = N.toNat := ⟨_, rfl⟩
  rw [← hnn] at hs hn hn2
  rw [← hnn]
  obtain ⟨m, hm⟩ : ∃ m, m = 64 - n := ⟨_, rfl⟩
  have e1 : ((n : Int)).toNat = n := by omega
  have e2 : (64 - (n : Int)).toNat = m := by omega
  have e3 : IntKind.u64.wrap (64 - (n : Int)) = 64 - (n : Int) := by rw [IntKind.wrap_u64]; omega
  have e4 : (0 : Int) ≤ 64 - (n : Int) := by omega
  have HM := Lib.hid hm
  clear hm hnn
  go_enter Tryd.func40, Tryd.ntmps40
  go_wp2
  go_ret
  refine ⟨?_, rfl⟩
  unfold Xx.rl
  rw [← HM.out]
  rfl
theorem xround_calls (a x : Int) (w : World) : Calls Tryd.prog 38 #[.int .u64 a, .int .u64 x] w fun e w' => e = .returned (.int .u64 (Xx.round a x)) ∧ w = w' := by
  have hw : ∀ x, IntKind.u64.wrap x = x % 18446744073709551616 := IntKind.wrap_u64
  go_enter Tryd.func38, Tryd.ntmps38
  go_wp2_with (go_at_call 40; refine (rot64_calls _ _ _ (by decide)).mono ?_; rintro e w' ⟨rfl, rfl⟩)
  go_ret
  exact ⟨rfl, rfl⟩
theorem xmerge_calls (a x : Int) (w : World) : Calls Tryd.prog 41 #[.int .u64 a, .int .u64 x] w fun e w' => e = .returned (.int .u64 (Xx.merge a x)) ∧ w = w' := by
  have hw : ∀ x, IntKind.u64.wrap x = x % 18446744073709551616 := IntKind.wrap_u64
  go_enter Tryd.func41, Tryd.ntmps41
  go_wp2_with (go_at_call 38; refine (xround_calls _ _ _).mono ?_; rintro e w' ⟨rfl, rfl⟩)
  go_ret
  exact ⟨rfl, rfl⟩
theorem pow256_le (n : Nat) (h : n ≤ 7) : (256 : Int) ^ n ≤ 72057594037927936 := by
  have : ∀ k : Fin 8, (256 : Int) ^ k.val ≤ 72057594037927936 := by decide
  exact this ⟨n, by omega⟩
set_option maxHeartbeats 1000000 in
theorem xlow_calls (w : World) (A : Option Addr) (c : Nat) (xs : List Int) (hC : (Kd.int .u8).C w A xs.length xs) (hb : Byts xs) (hl : xs.length ≤ 8) :
    Calls Tryd.prog 39 #[.slice A xs.length c] w fun e w' => e = .returned (.int .u64 (Xx.le xs)) ∧ w = w' := by
  have HC := Lib.hid hC
  have HB := Lib.hid hb
  clear hC hb
  go_enter Tryd.func39, Tryd.ntmps39
  go_wp2
  go_loopg [3, 4] xs.length (fun kq s3 s4 wr => wr = w ∧ kq ≤ xs.length ∧ s4 = .int .i64 ((kq : Int) - 1) ∧ s3 = .int .u64 (Xx.le (xs.drop kq)))
  case atStart => exact ⟨rfl, Nat.le_refl _, by go_num, by rw [List.drop_length]; rfl⟩
  case round =>
    obtain ⟨rfl, hk, rfl, rfl⟩ := hrel
    by_cases hlt : 0 < gk
    · obtain ⟨i, hi⟩ : ∃ i, gk = i + 1 := ⟨gk - 1, by omega⟩
      have hsplit := Xx.le_drop xs i (by omega)
      rw [← hi] at hsplit
      obtain ⟨ad, hA, c0⟩ := C_at_int HC.out i (by omega)
      subst hA
      have hbx := HB.out.get i (by omega)
      obtain ⟨x, hx⟩ : ∃ x : Nat, xs.getD i 0 = x := ⟨(xs.getD i 0).toNat, by omega⟩
      have hr := Xx.le_rng (xs.drop gk) (fun y hy => HB.out y (List.mem_of_mem_drop hy))
      obtain ⟨L, hL⟩ : ∃ L : Nat, Xx.le (xs.drop gk) = L := ⟨(Xx.le (xs.drop gk)).toNat, by omega⟩
      have hp := pow256_le (xs.drop gk).length (by rw [List.length_drop]; omega)
      rw [hL] at hsplit hr
      rw [hx] at hsplit c0 hbx
      have hor : bits .or .u64 ((L : Int) * 256) (x : Int) = ((L * 256 + x : Nat) : Int) := by
        have h := or_u64 L x (by omega) (by omega)
        have e : ((L * 256 : Nat) : Int) = (L : Int) * 256 := by omega
        rw [← e]
        exact h
      have e1 : IntKind.u64.wrap ((L : Int) * 256) = (L : Int) * 256 := by rw [IntKind.wrap_u64]; omega
      have e2 : IntKind.u64.wrap (x : Int) = (x : Int) := by rw [IntKind.wrap_u64]; omega
      have e3 : IntKind.i64.wrap (((gk : Int) - 1) - 1) = ((i : Nat) : Int) - 1 := by rw [IntWalk.i64_in _ (by omega)]; omega
      have e4 : (0 : Int) ≤ (gk : Int) - 1 := by omega
      have e5 : ((gk : Int) - 1).toNat = i := by omega
      have e6 : (gk : Int) - 1 < (xs.length : Int) := by omega
      have HS := Lib.hid hsplit
      have HI := Lib.hid hi
      clear hsplit hi hr hp hbx
      rw [hL]
      clear hL
      go_wp2_with fail
      go_roundg i
      case measure => have := HI.out; omega
      case rel =>
        refine ⟨rfl, by have := HI.out; omega, rfl, ?_⟩
        have := HS.out
        congr 1
        omega
    · have hg : gk = 0 := by omega
      subst hg
      rw [List.drop_zero]
      go_wp2_with fail
      go_ret
      exact ⟨rfl, rfl⟩
end Go.Proofs.YtclndenmmhdokaaDoor
end
section
namespace Go.Proofs.YtclndenmmhdokaaDoorW.PrintLast
open Go.Proofs.YtclndenmmhdokaaDoorW.PrintWords (Aside0)
def needsOf (md : Region.Mode) (o : Oper) : List Nat := (o.after.toList.filter (fun e => Region.binds md e)).map (fun e => e.on)
def clashOf (md : Region.Mode) (ops : Array Oper) (i : Nat) (oi : Oper) : List Nat := (List.range ops.size).filter fun j => !(j == i) && match ops[j]? with
  | some oj => !(oj.after.any (fun e => Region.binds md e && e.on == i) || oi.apart ops oj)
  | none => false
def rtab (md : Region.Mode) (ops : Array Oper) : Bool × List (List Nat × List Nat) := (Region.noSelect ops, (List.range ops.size).map fun i => match ops[i]? with
  | some o => (needsOf md o, clashOf md ops i o)
  | none => ([], []))
def readyAt (T : List (List Nat × List Nat)) (l : List Bool) (i : Nat) : Bool := !l.getD i true && match T[i]? with
  | some r => r.1.all (fun j => l.getD j false)
  | none => false
def readyT (T : List (List Nat × List Nat)) (l : List Bool) : List Nat := (List.range T.length).filter (readyAt T l)
def freeT (T : List (List Nat × List Nat)) (l : List Bool) (i : Nat) : Bool := match T[i]? with
  | some r => r.2.all (fun j => l.getD j true)
  | none => false
def closedT (T : List (List Nat × List Nat)) (l : List Bool) : Bool := (List.range T.length).all fun j => !l.getD j false || match T[j]? with
  | some r => r.1.all (fun k => l.getD k false)
  | none => true
def reachT (T : List (List Nat × List Nat)) (i : Nat) : Nat → Nat → Bool
  | 0, _ => false
  | fuel + 1, d => match T[d]? with
    | some r => r.1.any fun j => j == i || reachT T i fuel j
    | none => false
def lastT (T : List (List Nat × List Nat)) (l : List Bool) (ds : List Nat) (i : Nat) : Bool := ds.all fun d => l.getD d true || reachT T i T.length d
section
variable {md : Region.Mode} {ops : Array Oper} {T : Bool × List (List Nat × List Nat)} {l l' li lj lk : Array Bool} {ds : List Nat} {i j k : Nat}
theorem gd (l : Array Bool) (j : Nat) (b : Bool) : l.getD j b = l.toList.getD j b := by simp [Array.getD_eq_getD_getElem?, List.getD_eq_getElem?_getD]
theorem needs_all (o : Oper) (p : Nat → Bool) : o.after.all (fun e => !Region.binds md e || p e.on) = (needsOf md o).all p := by
  unfold needsOf
  rw [← Array.all_toList]
  induction o.after.toList with
  | nil => rfl
  | cons e r ih =>
    rw [List.all_cons, ih, List.filter_cons]
    cases h : Region.binds md e <;> simp
theorem needs_any (o : Oper) (p : Nat → Bool) : o.after.any (fun e => Region.binds md e && p e.on) = (needsOf md o).any p := by
  unfold needsOf
  rw [← Array.any_toList]
  induction o.after.toList with
  | nil => rfl
  | cons e r ih =>
    rw [List.any_cons, ih, List.filter_cons]
    cases h : Region.binds md e <;> simp
theorem rtab_length : (rtab md ops).2.length = ops.size := by simp [rtab]
theorem rtab_some {o : Oper} (h : ops[i]? = some o) : (rtab md ops).2[i]? = some (needsOf md o, clashOf md ops i o) := by
  have hi := (Array.getElem?_eq_some_iff.1 h).1
  unfold rtab
  rw [List.getElem?_map, List.getElem?_range hi, Option.map_some, h]
theorem rtab_none (h : ops[i]? = none) : (rtab md ops).2[i]? = none := by
  have hi : ops.size ≤ i := Array.getElem?_eq_none_iff.1 h
  exact List.getElem?_eq_none (by rw [rtab_length]; exact hi)
theorem readyAt_eq : readyAt (rtab md ops).2 l.toList i = (!l.getD i true && ((ops[i]?).map (·.after.all fun e => !Region.binds md e || l.getD e.on false)).getD false) := by
  unfold readyAt
  rw [gd]
  cases h : ops[i]? with
  | none => rw [rtab_none h]; rfl
  | some o =>
    rw [rtab_some h]
    simp only [Option.map_some, Option.getD_some]
    rw [← needs_all]
    simp only [gd]
theorem ready_eq : Region.ready md ops l = readyT (rtab md ops).2 l.toList := by
  unfold Region.ready readyT
  rw [rtab_length]
  refine List.filter_congr (fun i _ => ?_)
  rw [readyAt_eq]
theorem free_eq : Region.free md ops l i = freeT (rtab md ops).2 l.toList i := by
  unfold Region.free freeT
  cases h : ops[i]? with
  | none => rw [rtab_none h]
  | some oi =>
    rw [rtab_some h]
    simp only [clashOf]
    rw [List.all_filter]
    congr 1
    funext j
    rw [gd]
    cases hj : ops[j]? with
    | none => cases (j == i) <;> cases (l.toList.getD j true) <;> simp
    | some oj =>
      cases (j == i) <;> cases (l.toList.getD j true) <;> cases (oj.after.any (fun e => Region.binds md e && e.on == i) || oi.apart ops oj) <;> simp_all
theorem closed_eq : Region.closedB md ops l = closedT (rtab md ops).2 l.toList := by
  unfold Region.closedB closedT
  rw [rtab_length]
  congr 1
  funext j
  rw [gd]
  cases h : ops[j]? with
  | none => rw [rtab_none h]
  | some o =>
    rw [rtab_some h]
    simp only
    rw [← needs_all]
    simp only [gd]
theorem reach_eq : ∀ (fuel d : Nat), Region.reachB md ops i fuel d = reachT (rtab md ops).2 i fuel d
  | 0, _ => rfl
  | fuel + 1, d => by
    unfold Region.reachB reachT
    cases h : ops[d]? with
    | none => rw [rtab_none h]
    | some o =>
      rw [rtab_some h]
      simp only
      rw [← needs_any]
      congr 1
      funext e
      rw [reach_eq fuel]
theorem last_eq : Region.lastB md ops l ds i = lastT (rtab md ops).2 l.toList ds i := by
  unfold Region.lastB lastT
  rw [rtab_length]
  congr 1
  funext d
  rw [gd, reach_eq]
theorem readyAt_mem (h : readyAt T.2 l.toList i = true) (hT : rtab md ops = T) : (Region.ready md ops l).contains i = true := by
  subst hT
  rw [ready_eq]
  unfold readyT
  rw [List.contains_iff_mem, List.mem_filter, List.mem_range]
  refine ⟨?_, h⟩
  unfold readyAt at h
  rw [Bool.and_eq_true] at h
  cases hq : (rtab md ops).2[i]? with
  | none => rw [hq] at h; simp at h
  | some r => exact (List.getElem?_eq_some_iff.1 hq).1
theorem set_of (h : (l.toList.set i true == l'.toList) = true) : (l.setIfInBounds i true == l') = true := by
  rw [beq_iff_eq] at h ⊢
  apply Array.ext'
  rw [Array.toList_setIfInBounds]
  exact h
def anyT (T : Bool × List (List Nat × List Nat)) (l l' : List Bool) (i : Nat) : Bool := T.1 && freeT T.2 l i && readyAt T.2 l i && (l.set i true == l')
theorem any_of (hT : rtab md ops = T) (h : anyT T l.toList l'.toList i = true) : anyB md ops l l' i = true := by
  simp only [anyT, Bool.and_eq_true] at h
  obtain ⟨⟨⟨h1, h2⟩, h3⟩, h4⟩ := h
  have h5 := readyAt_mem h3 hT
  have h6 := set_of h4
  subst hT
  simp only [anyB, Bool.and_eq_true]
  exact ⟨⟨⟨h1, by rw [free_eq]; exact h2⟩, h5⟩, h6⟩
def takeT (T : Bool × List (List Nat × List Nat)) (ds : List Nat) (l l' : List Bool) (i : Nat) : Bool := T.1 && freeT T.2 l i && readyAt T.2 l i && closedT T.2 l && lastT T.2 l ds i && (l.set i true == l')
theorem take_of (hT : rtab md ops = T) (h : takeT T ds l.toList l'.toList i = true) : takeB md ops ds l l' i = true := by
  simp only [takeT, Bool.and_eq_true] at h
  obtain ⟨⟨⟨⟨⟨h1, h2⟩, h3⟩, h4⟩, h5⟩, h6⟩ := h
  have h7 := readyAt_mem h3 hT
  have h8 := set_of h6
  subst hT
  simp only [takeB, Bool.and_eq_true]
  exact ⟨⟨⟨⟨⟨h1, by rw [free_eq]; exact h2⟩, h7⟩, by rw [closed_eq]; exact h4⟩, by rw [last_eq]; exact h5⟩, h8⟩
theorem one_of (hT : rtab md ops = T) (h : (readyT T.2 l.toList == [i] && l.toList.set i true == l'.toList) = true) : readyB md ops l l' i = true := by
  simp only [Bool.and_eq_true] at h
  obtain ⟨h1, h2⟩ := h
  subst hT
  simp only [readyB, Bool.and_eq_true]
  exact ⟨by rw [ready_eq]; exact h1, set_of h2⟩
theorem done_of (hT : rtab md ops = T) (h : (readyT T.2 l.toList == []) = true) : (Region.ready md ops l == []) = true := by
  subst hT
  rw [ready_eq]
  exact h
def upM (B : List Nat) (d : Nat) : List Nat → Nat
  | [] => 0
  | n :: r => (2 ^ n ||| (if n < d then B.getD n 0 else 0)) ||| upM B d r
def waitsOk (T : List (List Nat × List Nat)) (B : List Nat) : Bool := (List.range T.length).all fun d => match T[d]? with
  | some r => (B.getD d 0 ||| upM B d r.1) == upM B d r.1
  | none => false
theorem upM_bit {B : List Nat} {d i : Nat} : ∀ {ns : List Nat}, (upM B d ns).testBit i = true → ∃ n ∈ ns, n = i ∨ (n < d ∧ (B.getD n 0).testBit i = true)
  | [], h => by simp [upM] at h
  | n :: r, h => by
    unfold upM at h
    rw [Nat.testBit_or, Nat.testBit_or, Bool.or_eq_true, Bool.or_eq_true] at h
    rcases h with (h | h) | h
    · rw [Nat.testBit_two_pow] at h
      exact ⟨n, List.mem_cons_self, .inl (by simpa using h)⟩
    · by_cases hn : n < d
      · rw [if_pos hn] at h
        exact ⟨n, List.mem_cons_self, .inr ⟨hn, h⟩⟩
      · rw [if_neg hn] at h
        simp at h
    · obtain ⟨m, hm, h2⟩ := upM_bit h
      exact ⟨m, List.mem_cons_of_mem _ hm, h2⟩
theorem reach_bit {T : List (List Nat × List Nat)} {B : List Nat} (hB : waitsOk T B = true) : ∀ (fuel d : Nat), d < fuel → d < T.length → (B.getD d 0).testBit i = true → reachT T i fuel d = true
  | 0, d, h, _, _ => by omega
  | fuel + 1, d, h, hd, hb => by
    have h1 := List.all_eq_true.1 hB d (List.mem_range.2 hd)
    cases hr : T[d]? with
    | none => rw [hr] at h1; simp at h1
    | some r =>
      rw [hr] at h1
      simp only [beq_iff_eq] at h1
      have h2 : (upM B d r.1).testBit i = true := by rw [← h1, Nat.testBit_or, hb, Bool.true_or]
      obtain ⟨n, hn, h3⟩ := upM_bit h2
      unfold reachT
      rw [hr]
      simp only
      rw [List.any_eq_true]
      refine ⟨n, hn, ?_⟩
      rcases h3 with rfl | ⟨h4, h5⟩
      · simp
      · rw [reach_bit hB fuel n (by omega) (by omega) h5, Bool.or_true]
def lastW (T : List (List Nat × List Nat)) (B : List Nat) (l : List Bool) (ds : List Nat) (i : Nat) : Bool := ds.all fun d => l.getD d true || (decide (d < T.length) && (B.getD d 0).testBit i)
def takeW (T : Bool × List (List Nat × List Nat)) (B : List Nat) (ds : List Nat) (l l' : List Bool) (i : Nat) : Bool := T.1 && freeT T.2 l i && readyAt T.2 l i && closedT T.2 l && lastW T.2 B l ds i && (l.set i true == l')
theorem take_ofW {B : List Nat} (hT : rtab md ops = T) (hB : waitsOk T.2 B = true) (h : takeW T B ds l.toList l'.toList i = true) : takeB md ops ds l l' i = true := by
  refine take_of hT ?_
  simp only [takeW, takeT, Bool.and_eq_true] at h ⊢
  obtain ⟨⟨⟨⟨⟨h1, h2⟩, h3⟩, h4⟩, h5⟩, h6⟩ := h
  refine ⟨⟨⟨⟨⟨h1, h2⟩, h3⟩, h4⟩, ?_⟩, h6⟩
  unfold lastW at h5
  unfold lastT
  rw [List.all_eq_true] at h5 ⊢
  intro d hd
  have h7 := h5 d hd
  rw [Bool.or_eq_true, Bool.and_eq_true, decide_eq_true_eq] at h7
  rcases h7 with h7 | ⟨h8, h9⟩
  · rw [h7, Bool.true_or]
  · rw [reach_bit hB _ d h8 h8 h9, Bool.or_true]
theorem with_tabW {P : Program} {Q : Exit → Act → World → Prop} {S : World → Prop} {n : Nat} {a : Act} {w : World} {B : List Nat} (hT : rtab md ops = T) (hB : waitsOk T.2 B = true) (h : Aside0 (rtab md ops = T) → Aside0 (waitsOk T.2 B = true) → wpAnyLast P md ops Q S ds n l a w) : wpAnyLast P md ops Q S ds n l a w := h ⟨hT⟩ ⟨hB⟩
end
def opsIn : Code → Nat → Option (Array Oper)
  | .region id ops _, k => if id == k then some ops else none
  | .seq a b, k => match opsIn a k with
    | some o => some o
    | none => opsIn b k
  | .cond _ a b, k => match opsIn a k with
    | some o => some o
    | none => opsIn b k
  | .block _ c, k => opsIn c k
  | .loop c, k => opsIn c k
  | .scope c, k => opsIn c k
  | .rangeFunc _ _ a b, k => match opsIn a k with
    | some o => some o
    | none => opsIn b k
  | _, _ => none
def opsOf (f : Func) (k : Nat) : Array Oper := ((f.body.bind fun c => opsIn c k)).getD #[]
end Go.Proofs.YtclndenmmhdokaaDoorW.PrintLast
end
section
namespace Go.Proofs.YtclndenmmhdokaaDoorW.PrintWords
theorem Reps.one {α : Type} {R : α → List Value → Prop} {ps : List α} {cs : List Value} {p : α} {v : Value} (hp : R p [v]) (h : Reps R 1 ps cs) : Reps R 1 (p :: ps) (v :: cs) := by
  refine ⟨by simp [h.1], fun j q hq => ?_⟩
  cases j with
  | zero =>
    simp only [List.getElem?_cons_zero, Option.some.injEq] at hq
    subst hq
    simpa using hp
  | succ j =>
    simp only [List.getElem?_cons_succ] at hq
    have h1 := h.2 j q hq
    simpa [Nat.mul_one] using h1
theorem Reps.front {α : Type} {R : α → List Value → Prop} {size : Nat} {ps : List α} {cs c all : List Value} {p : α} (hp : R p c) (hc : c.length = size) (h : Reps R size ps cs) (ha : c ++ cs = all) : Reps R size (p :: ps) all := by
  subst ha
  refine ⟨by rw [List.length_append, hc, h.1, List.length_cons, Nat.succ_mul, Nat.add_comm], fun j q hq => ?_⟩
  cases j with
  | zero =>
    simp only [List.getElem?_cons_zero, Option.some.injEq] at hq
    subst hq
    rw [Nat.zero_mul, List.drop_zero, List.take_append_of_le_length (by omega), List.take_of_length_le (by omega)]
    exact hp
  | succ j =>
    simp only [List.getElem?_cons_succ] at hq
    have h1 := h.2 j q hq
    rw [Nat.succ_mul, List.drop_append, List.drop_of_length_le (by rw [hc]; exact Nat.le_add_left _ _), List.nil_append, hc, Nat.add_sub_cancel]
    exact h1
theorem Reps.c2 {α : Type} {R : α → List Value → Prop} {ps : List α} {cs : List Value} {p : α} {va vb : Value} (hp : R p [va, vb]) (h : Reps R 2 ps cs) : Reps R 2 (p :: ps) (va :: vb :: cs) := Reps.front hp rfl h rfl
theorem Reps.c3 {α : Type} {R : α → List Value → Prop} {ps : List α} {cs : List Value} {p : α} {va vb vc : Value} (hp : R p [va, vb, vc]) (h : Reps R 3 ps cs) : Reps R 3 (p :: ps) (va :: vb :: vc :: cs) := Reps.front hp rfl h rfl
theorem Reps.c4 {α : Type} {R : α → List Value → Prop} {ps : List α} {cs : List Value} {p : α} {va vb vc vd : Value} (hp : R p [va, vb, vc, vd]) (h : Reps R 4 ps cs) : Reps R 4 (p :: ps) (va :: vb :: vc :: vd :: cs) := Reps.front hp rfl h rfl
theorem Reps.c5 {α : Type} {R : α → List Value → Prop} {ps : List α} {cs : List Value} {p : α} {va vb vc vd ve : Value} (hp : R p [va, vb, vc, vd, ve]) (h : Reps R 5 ps cs) : Reps R 5 (p :: ps) (va :: vb :: vc :: vd :: ve :: cs) := Reps.front hp rfl h rfl
theorem Reps.c6 {α : Type} {R : α → List Value → Prop} {ps : List α} {cs : List Value} {p : α} {va vb vc vd ve vf : Value} (hp : R p [va, vb, vc, vd, ve, vf]) (h : Reps R 6 ps cs) : Reps R 6 (p :: ps) (va :: vb :: vc :: vd :: ve :: vf :: cs) := Reps.front hp rfl h rfl
theorem Reps.c7 {α : Type} {R : α → List Value → Prop} {ps : List α} {cs : List Value} {p : α} {va vb vc vd ve vf vg : Value} (hp : R p [va, vb, vc, vd, ve, vf, vg]) (h : Reps R 7 ps cs) : Reps R 7 (p :: ps) (va :: vb :: vc :: vd :: ve :: vf :: vg :: cs) := Reps.front hp rfl h rfl
theorem Reps.c8 {α : Type} {R : α → List Value → Prop} {ps : List α} {cs : List Value} {p : α} {va vb vc vd ve vf vg vh : Value} (hp : R p [va, vb, vc, vd, ve, vf, vg, vh]) (h : Reps R 8 ps cs) : Reps R 8 (p :: ps) (va :: vb :: vc :: vd :: ve :: vf :: vg :: vh :: cs) := Reps.front hp rfl h rfl
theorem Reps.c9 {α : Type} {R : α → List Value → Prop} {ps : List α} {cs : List Value} {p : α} {va vb vc vd ve vf vg vh vi : Value} (hp : R p [va, vb, vc, vd, ve, vf, vg, vh, vi]) (h : Reps R 9 ps cs) : Reps R 9 (p :: ps) (va :: vb :: vc :: vd :: ve :: vf :: vg :: vh :: vi :: cs) := Reps.front hp rfl h rfl
theorem Reps.c10 {α : Type} {R : α → List Value → Prop} {ps : List α} {cs : List Value} {p : α} {va vb vc vd ve vf vg vh vi vj : Value} (hp : R p [va, vb, vc, vd, ve, vf, vg, vh, vi, vj]) (h : Reps R 10 ps cs) : Reps R 10 (p :: ps) (va :: vb :: vc :: vd :: ve :: vf :: vg :: vh :: vi :: vj :: cs) := Reps.front hp rfl h rfl
end Go.Proofs.YtclndenmmhdokaaDoorW.PrintWords
end
section
namespace Go.Proofs.YtclndenmmhdokaaDoorW.PrintWords
open Go.RowKit
section
variable {P : Program} {ops : Array Oper} {rest : List Oper} {o : Oper} {a : Act} {Q : Exit → Act → World → Prop} {W : World}
theorem gate_guard (hw : Region.wanted o (yielded ops a.tmps) = true) (h : wpList P ops Q ({ o with guard := none } :: rest) a W) : wpList P ops Q (o :: rest) a W := by
  have h1 : Region.wanted { o with guard := none } (yielded ops a.tmps) = true := rfl
  unfold wpList at h ⊢
  rw [if_pos h1] at h
  rw [if_pos hw]
  exact h
end
end Go.Proofs.YtclndenmmhdokaaDoorW.PrintWords
end
section
namespace Go.Proofs.YtclndenmmhdokaaDoor
theorem y1_ {p : Prop} (h : p := by repeat (first | (with_reducible first | exact HB.out | apply below_alloc | apply pw_below_drewN | apply below_drew1) | exact HB.out)) : p := h
theorem y2_ {p : Prop} (h : p := by first | rfl | (simp; done) | (simp [*]; done) | (simp [Kd.ne_nil_, Kd.eq_nil_]; done)) : p := h
theorem y3_ {p : Prop} (h : p := by first | (with_reducible assumption) | assumption) : p := h
theorem y4_ {p : Prop} (h : p := by (with_reducible repeat (first | apply Kd.V_alloc | apply Kd.V_drewN | apply Kd.V_drew)); exact HO_1.out) : p := h
theorem y5_ {p : Prop} (h : p := by (with_reducible repeat (first | apply Kd.V_alloc | apply Kd.V_drewN | apply Kd.V_drew)); exact HO_0.out) : p := h
theorem y6_ {p : Prop} (h : p := by (try simp only [List.map_toArray, List.map_cons, List.map_nil]); first | done | rfl | (simp only [List.length_drop, List.length_take]; rfl)) : p := h
theorem y7_ {p : Prop} (h : p := by repeat (first | exact Drawn0.refl _ | apply Drawn0.step)) : p := h
theorem y8_ {p : Prop} (h : p := by first | rfl | (simp [errW_none, errW_some] <;> rfl) | (simp [*, errW_none, errW_some] <;> rfl)) : p := h
theorem y9_ {p : Prop} (h : p := by (with_reducible repeat (first | apply Kd.V_alloc | apply Kd.V_drewN | apply Kd.V_drew)); exact HO1.out) : p := h
theorem y10_ {p : Prop} (h : p := by (with_reducible repeat (first | apply Kd.V_alloc | apply Kd.V_drewN | apply Kd.V_drew)); exact HO0.out) : p := h
theorem y11_ {p : Prop} (h : p := by first | rfl | (simp; done) | (simp [*]; done)) : p := h
theorem y12_ {p : Prop} (h : p := by (with_reducible repeat (first | apply Kd.V_alloc | apply Kd.V_drewN | apply Kd.V_drew)); exact Kd.V_mono HO_1.out (fun _ hk => hk.1.1)) : p := h
theorem y13_ {p : Prop} (h : p := by (with_reducible repeat (first | apply Kd.V_alloc | apply Kd.V_drewN | apply Kd.V_drew)); exact Kd.V_mono HO_0.out (fun _ hk => hk.1.1)) : p := h
theorem y14_ {p : Prop} (h : p := by (with_reducible repeat (first | apply Kd.V_alloc | apply Kd.V_drewN | apply Kd.V_drew)); exact Kd.V_mono HO_1.out (fun _ hk => hk.1)) : p := h
theorem y15_ {p : Prop} (h : p := by (with_reducible repeat (first | apply Kd.V_alloc | apply Kd.V_drewN | apply Kd.V_drew)); exact Kd.V_mono HO_0.out (fun _ hk => hk.1)) : p := h
theorem y16_ {p : Prop} (h : p := by (with_reducible repeat (first | apply Kd.R_alloc | apply Kd.R_drewN | apply Kd.R_drew)); exact HO_4.out) : p := h
theorem y17_ {p : Prop} (h : p := by first | exact Kd.R_nil _ _ _ _ _ | exact Kd.N_nil _ _ _ _ _ | exact Kd.V_nil _ _ _ _ _ | exact Kd.Q_nil _ _ _ _ _ | exact Kd.S_nil _ _ _ _ _) : p := h
theorem y18_ {p : Prop} (h : p := by (with_reducible repeat (first | apply Kd.R_alloc | apply Kd.R_drewN | apply Kd.R_drew)); exact HO199.out) : p := h
end Go.Proofs.YtclndenmmhdokaaDoor
end
section
namespace Go.Proofs.YtclndenmmhdokaaDoor.PHL
open Go.RowKit Go.Proofs.YtclndenmmhdokaaDoorW.PrintWords Go.Proofs.YtclndenmmhdokaaDoorW.PrintLast Go.Proofs.YtclndenmmhdokaaDoorW.PrintMore
attribute [local go_sem] max2_int min2_int max_two min_two max_three min_three max_four min_four
set_option linter.unusedVariables false
set_option linter.unusedSimpArgs false
def errW : Option Int → Value
 | none => .nilIface
 | some c => .iface 0 (.int .i64 c)
theorem errW_none : errW none = .nilIface := rfl
theorem errW_some (c : Int) : errW (some c) = .iface 0 (.int .i64 c) := rfl
theorem info5 : (Tryd.prog.info? 5).map (fun i => (i.zero, i.size, i.bytes)) = some (some (.int .u8 0), 1, 1) := by kernel_rfl
end Go.Proofs.YtclndenmmhdokaaDoor.PHL
end
section
namespace Go.Proofs.YtclndenmmhdokaaDoor.PHL
open Go.RowKit Go.Proofs.YtclndenmmhdokaaDoorW.PrintWords Go.Proofs.YtclndenmmhdokaaDoorW.PrintLast Go.Proofs.YtclndenmmhdokaaDoorW.PrintMore
attribute [local go_sem] max2_int min2_int max_two min_two max_three min_three max_four min_four
set_option linter.unusedVariables false
set_option linter.unusedSimpArgs false
mutual
def hash_six.j0 : Nat → Int → Bool → Option (Int × Bool)
 | 0, _, _ => none
 | k + 1, x0, x4 => if x4 = true then (some (IntKind.u64.wrap (wrap32 (x0 - 65)), true)) else (if x0 ≥ 97 then (hash_six.j1 k x0 (decide (x0 ≤ 122))) else (hash_six.j1 k x0 false))
def hash_six.j1 : Nat → Int → Bool → Option (Int × Bool)
 | 0, _, _ => none
 | k + 1, x0, x14 => if x14 = true then (some (IntKind.u64.wrap ((IntKind.u64.wrap (wrap32 (x0 - 97))) + 26), true)) else (if x0 ≥ 48 then (hash_six.j2 k x0 (decide (x0 ≤ 57))) else (hash_six.j2 k x0 false))
def hash_six.j2 : Nat → Int → Bool → Option (Int × Bool)
 | 0, _, _ => none
 | k + 1, x0, x25 => if x25 = true then (some (IntKind.u64.wrap ((IntKind.u64.wrap (wrap32 (x0 - 48))) + 52), true)) else (if x0 = 45 then (some (62, true)) else (if x0 = 95 then (some (63, true)) else (some (0, false))))
end
def hash_six.f (k : Nat) (a0 : Int) : Option (Int × Bool) := if a0 ≥ 65 then (hash_six.j0 k a0 (decide (a0 ≤ 90))) else (hash_six.j0 k a0 false)
set_option maxHeartbeats 8000000 in
set_option maxRecDepth 100000 in
theorem hash_six.calls (k : Nat) (a0 : Int) (r1 : Int) (r2 : Bool) (w : World) (h : hash_six.f k a0 = some (r1, r2)) :
  Calls Tryd.prog 51 #[.int .i32 a0] w fun e w' => e = .returned (.tuple #[.int .u64 r1, .bool r2]) ∧ Drawn0 w w' := by
 have H : (if a0 ≥ 65 then (hash_six.j0 k a0 (decide (a0 ≤ 90))) else (hash_six.j0 k a0 false)) = some (r1, r2) := h
 clear h
 have HC2 := Aside0.mk H
 clear H
 go_enter Tryd.func51, Tryd.ntmps51
 go_upto_region 1 with (fail)
 go_cut [4] (fun v4 wc => ∃ (kq : Nat) (x4_1 : Bool), v4 = .bool x4_1 ∧ Aside0 (hash_six.j0 kq a0 x4_1 = some (r1, r2)) ∧ Aside0 (kq ≤ k) ∧ Drawn0 w wc)
 case first =>
  have H := HC2.out
  clear HC2
  by_cases c3 : a0 ≥ 65
  ·rw [if_pos c3] at H
   have c3b0 : decide (65 ≤ a0) = true := decide_eq_true c3
   clear c3
   (first | rw [c3b0] | (simp only [i64_w, i32_w]; rw [c3b0]) | skip)
   have H' := Aside0.mk H
   clear H
   go_wp2
   go_meet
   case rel => exact ⟨_, (decide (a0 ≤ 90)), y2_, H', ⟨by first | omega | exact Nat.le_refl _⟩, y7_⟩
  ·rw [if_neg c3] at H
   have c3b0 : decide (65 ≤ a0) = false := decide_eq_false c3
   clear c3
   (first | rw [c3b0] | (simp only [i64_w, i32_w]; rw [c3b0]) | skip)
   have H' := Aside0.mk H
   clear H
   go_wp2
   go_meet
   case rel => exact ⟨_, (false), y2_, H', ⟨by first | omega | exact Nat.le_refl _⟩, y7_⟩
 case rest =>
  clear HC2
  try clear p2
  try clear c3
  try clear c3b0
  obtain ⟨kq, x4_1, rfl, HA, HJ1, ⟨mc1, rfl⟩⟩ := hcut
  cases kq with
  | zero => exact absurd HA.out (by simp [hash_six.j0])
  | succ kj1 =>
   have H := HA.out
   clear HA
   simp only [hash_six.j0] at H
   by_cases c4 : x4_1 = true
   ·subst c4
    have H1 : (some (IntKind.u64.wrap (wrap32 (a0 - 65)), true)) = some (r1, r2) := by rw [if_pos rfl] at H; exact H
    clear H
    have H := H1
    clear H1
    simp only [Option.some.injEq, Prod.mk.injEq] at H
    obtain ⟨rfl, rfl⟩ := H
    go_wp2
    go_ret2
    exact ⟨y11_, y7_⟩
   ·replace c4 := Bool.eq_false_iff.mpr c4
    subst c4
    have H1 : (if a0 ≥ 97 then (hash_six.j1 kj1 a0 (decide (a0 ≤ 122))) else (hash_six.j1 kj1 a0 false)) = some (r1, r2) := by rw [if_neg (show ¬ (false = true) by decide)] at H; exact H
    clear H
    have H := H1
    clear H1
    have HC5 := Aside0.mk H
    clear H
    go_upto_region 3 with (fail)
    go_cut [14] (fun v14 wc => ∃ (kq : Nat) (x14_4 : Bool), v14 = .bool x14_4 ∧ Aside0 (hash_six.j1 kq a0 x14_4 = some (r1, r2)) ∧ Aside0 (kq ≤ kj1) ∧ Drawn0 w wc)
    case first =>
     have H := HC5.out
     clear HC5
     by_cases c6 : a0 ≥ 97
     ·rw [if_pos c6] at H
      have c6b0 : decide (97 ≤ a0) = true := decide_eq_true c6
      clear c6
      (first | rw [c6b0] | (simp only [i64_w, i32_w]; rw [c6b0]) | skip)
      have H' := Aside0.mk H
      clear H
      go_wp2
      go_meet
      case rel => exact ⟨_, (decide (a0 ≤ 122)), y2_, H', ⟨by have := HJ1.out; first | omega | exact Nat.le_refl _⟩, y7_⟩
     ·rw [if_neg c6] at H
      have c6b0 : decide (97 ≤ a0) = false := decide_eq_false c6
      clear c6
      (first | rw [c6b0] | (simp only [i64_w, i32_w]; rw [c6b0]) | skip)
      have H' := Aside0.mk H
      clear H
      go_wp2
      go_meet
      case rel => exact ⟨_, (false), y2_, H', ⟨by have := HJ1.out; first | omega | exact Nat.le_refl _⟩, y7_⟩
    case rest =>
     clear HC5
     try clear c1
     try clear p2
     try clear c3
     try clear c3b0
     try clear p3
     try clear c4
     try clear c5
     try clear c6
     try clear c6b0
     try clear p2
     obtain ⟨kq, x14_4, rfl, HA, HJ4, ⟨mc4, rfl⟩⟩ := hcut
     cases kq with
     | zero => exact absurd HA.out (by simp [hash_six.j1])
     | succ kj4 =>
      have H := HA.out
      clear HA
      simp only [hash_six.j1] at H
      by_cases c7 : x14_4 = true
      ·subst c7
       have H1 : (some (IntKind.u64.wrap ((IntKind.u64.wrap (wrap32 (a0 - 97))) + 26), true)) = some (r1, r2) := by rw [if_pos rfl] at H; exact H
       clear H
       have H := H1
       clear H1
       simp only [Option.some.injEq, Prod.mk.injEq] at H
       obtain ⟨rfl, rfl⟩ := H
       go_wp2
       go_ret2
       exact ⟨y11_, y7_⟩
      ·replace c7 := Bool.eq_false_iff.mpr c7
       subst c7
       have H1 : (if a0 ≥ 48 then (hash_six.j2 kj4 a0 (decide (a0 ≤ 57))) else (hash_six.j2 kj4 a0 false)) = some (r1, r2) := by rw [if_neg (show ¬ (false = true) by decide)] at H; exact H
       clear H
       have H := H1
       clear H1
       have HC8 := Aside0.mk H
       clear H
       go_upto_region 5 with (fail)
       go_cut [25] (fun v25 wc => ∃ (kq : Nat) (x25_7 : Bool), v25 = .bool x25_7 ∧ Aside0 (hash_six.j2 kq a0 x25_7 = some (r1, r2)) ∧ Aside0 (kq ≤ kj4) ∧ Drawn0 w wc)
       case first =>
        have H := HC8.out
        clear HC8
        by_cases c9 : a0 ≥ 48
        ·rw [if_pos c9] at H
         have c9b0 : decide (48 ≤ a0) = true := decide_eq_true c9
         clear c9
         (first | rw [c9b0] | (simp only [i64_w, i32_w]; rw [c9b0]) | skip)
         have H' := Aside0.mk H
         clear H
         go_wp2
         go_meet
         case rel => exact ⟨_, (decide (a0 ≤ 57)), y2_, H', ⟨by have := HJ1.out; have := HJ4.out; first | omega | exact Nat.le_refl _⟩, y7_⟩
        ·rw [if_neg c9] at H
         have c9b0 : decide (48 ≤ a0) = false := decide_eq_false c9
         clear c9
         (first | rw [c9b0] | (simp only [i64_w, i32_w]; rw [c9b0]) | skip)
         have H' := Aside0.mk H
         clear H
         go_wp2
         go_meet
         case rel => exact ⟨_, (false), y2_, H', ⟨by have := HJ1.out; have := HJ4.out; first | omega | exact Nat.le_refl _⟩, y7_⟩
       case rest =>
        clear HC8
        try clear c1
        try clear p2
        try clear c3
        try clear c3b0
        try clear p3
        try clear c4
        try clear c5
        try clear c6
        try clear c6b0
        try clear c7
        try clear c9
        try clear c9b0
        try clear p2
        try clear p3
        obtain ⟨kq, x25_7, rfl, HA, HJ7, ⟨mc7, rfl⟩⟩ := hcut
        cases kq with
        | zero => exact absurd HA.out (by simp [hash_six.j2])
        | succ kj7 =>
         have H := HA.out
         clear HA
         simp only [hash_six.j2] at H
         by_cases c10 : x25_7 = true
         ·subst c10
          have H1 : (some (IntKind.u64.wrap ((IntKind.u64.wrap (wrap32 (a0 - 48))) + 52), true)) = some (r1, r2) := by rw [if_pos rfl] at H; exact H
          clear H
          have H := H1
          clear H1
          simp only [Option.some.injEq, Prod.mk.injEq] at H
          obtain ⟨rfl, rfl⟩ := H
          go_wp2
          go_ret2
          exact ⟨y11_, y7_⟩
         ·replace c10 := Bool.eq_false_iff.mpr c10
          subst c10
          have H1 : (if a0 = 45 then (some (62, true)) else (if a0 = 95 then (some (63, true)) else (some (0, false)))) = some (r1, r2) := by rw [if_neg (show ¬ (false = true) by decide)] at H; exact H
          clear H
          have H := H1
          clear H1
          by_cases c11 : a0 = 45
          ·rw [if_pos c11] at H
           have c11b0 : (a0 == 45) = true := beq_iff_eq.mpr c11
           have c11b1 : (a0 != 45) = false := bne_eq_false_iff_eq.mpr c11
           clear c11
           simp only [Option.some.injEq, Prod.mk.injEq] at H
           obtain ⟨rfl, rfl⟩ := H
           go_wp2
           go_ret2
           exact ⟨y11_, y7_⟩
          ·rw [if_neg c11] at H
           have c11b0 : (a0 == 45) = false := beq_eq_false_iff_ne.mpr c11
           have c11b1 : (a0 != 45) = true := bne_iff_ne.mpr c11
           by_cases c12 : a0 = 95
           ·rw [if_pos c12] at H
            have c12b0 : (a0 == 95) = true := beq_iff_eq.mpr c12
            have c12b1 : (a0 != 95) = false := bne_eq_false_iff_eq.mpr c12
            clear c12
            simp only [Option.some.injEq, Prod.mk.injEq] at H
            obtain ⟨rfl, rfl⟩ := H
            go_wp2
            go_ret2
            exact ⟨y11_, y7_⟩
           ·rw [if_neg c12] at H
            have c12b0 : (a0 == 95) = false := beq_eq_false_iff_ne.mpr c12
            have c12b1 : (a0 != 95) = true := bne_iff_ne.mpr c12
            simp only [Option.some.injEq, Prod.mk.injEq] at H
            obtain ⟨rfl, rfl⟩ := H
            go_wp2
            go_ret2
            exact ⟨y11_, y7_⟩
end Go.Proofs.YtclndenmmhdokaaDoor.PHL
end
