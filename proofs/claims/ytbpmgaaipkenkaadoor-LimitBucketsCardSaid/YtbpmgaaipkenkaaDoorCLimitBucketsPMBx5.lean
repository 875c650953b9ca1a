import Derived.Test.YtbpmgaaipkenkaaDoorCLimitBucketsPMGx0
import Derived.Test.YtbpmgaaipkenkaaDoorCLimitBucketsPMGx1
import Derived.Test.YtbpmgaaipkenkaaDoorProg
import Derived.Below
import Derived.Deep.Draws
import Derived.Deep.AppendLies
import Derived.Maps.AppendAt
import Derived.OwnWalk
import Derived.Laws.BytesArg
import Derived.Laws.MakeOwn
import Derived.Laws.OwnMore
import Derived.Deep.OwnRows
import Derived.Tactics
import Derived.Lib.ConvBytes
import Derived.Laws.Slices
import Derived.WalkKit
import Derived.KernelRfl
import Derived.RowKit3
import Derived.Deep.LoopGhost
import Derived.Deep.QuietTactic
import Derived.BigQuiet
import Derived.WideLaws
import Derived.Deep.DeepCutAuto
import Derived.Deep.CutBlock
import Derived.Deep.RegionHeld3
import Derived.Laws.Rows
import Derived.Lib.AppendStr
import Derived.ArgAppend
import Derived.Laws.IdiomCopy
import Derived.OrdersHeld
import Derived.Laws.BitsLemmas
import Derived.RowKit
import Derived.Test.YtbpmgaaipkenkaaDoorCLimitBucketsM0
import Derived.Test.YtbpmgaaipkenkaaDoorCLimitBucketsWWords
import Derived.Test.YtbpmgaaipkenkaaDoorCLimitBucketsPMCx0
section
namespace Go.Proofs.YtbpmgaaipkenkaaDoor
open Go Go.RowKit Go.Proofs.YtbpmgaaipkenkaaDoorW.PrintWords Go.Proofs.YtbpmgaaipkenkaaDoorW.PrintLast Go.Proofs.YtbpmgaaipkenkaaDoorW.PrintMore
set_option linter.unusedVariables false
set_option linter.unusedSimpArgs false
attribute [local go_sem ↓] Go.wp_at_zero Go.wp_at_succ
attribute [local go_sem] max2_int min2_int max_two min_two
theorem rplus_f (a b : Int) (ha : 0 ≤ a) (hb : 0 ≤ b) (ha1 : a < 18446744073709551616) (hb1 : b < 18446744073709551616) : PMG.manometerref19_Plus.f a b = some (plusF a b) := by
  unfold PMG.manometerref19_Plus.f plusF
  rw [wrap64u, wrap64u]
  by_cases h : 18446744073709551615 < a + b
  · rw [if_pos (by omega), if_pos h]
  · rw [if_neg (by omega), if_neg h]
    congr 1
    omega
theorem rfill_f (r b l a now : Int) (h : BkW r b l a) (hn0 : -9223372036854775808 ≤ now) (hn1 : now ≤ 9223372036854775807) : PMG.manometerref19_Fill.f r b l a now = some (r, b, levF r b l a now, tickF a now) := by
  unfold PMG.manometerref19_Fill.f levF tickF
  by_cases hle : now ≤ a
  · rw [if_neg (by omega), if_pos hle, if_pos hle]
  · obtain ⟨e1, e2, e3⟩ := ticks h.a0 h.a1 hn0 hn1 (show a ≤ now by omega)
    rw [if_pos (by omega), if_neg hle, if_neg hle, e1]
    have ht := timesF_rng h.r0 e2
    unfold PMG.manometerref19_Times.f
    rw [if_pos ⟨⟨h.r0, h.r1⟩, e2, e3⟩]
    simp only [Option.bind_some]
    rw [rplus_f _ _ h.l0 ht.1 h.l1 ht.2]
    simp only [Option.bind_some]
    unfold mn
    rfl
theorem rplus_calls (a b : Int) (w : World) (ha : 0 ≤ a) (hb : 0 ≤ b) (ha1 : a < 18446744073709551616) (hb1 : b < 18446744073709551616) :
    Calls Tryd.prog 13 #[.int .u64 a, .int .u64 b] w fun e w' => e = .returned (.int .u64 (plusF a b)) ∧ Drawn0 w w' :=
  PMG.manometerref19_Plus.calls a b _ w (rplus_f a b ha hb ha1 hb1)
set_option maxRecDepth 20000 in
set_option maxHeartbeats 4000000 in
theorem rtake_calls (w : World) (r b l a now n : Int) (r1 r2 r3 r4 : Int) (h : PMG.manometerref19_Fill.f r b l a now = some (r1, r2, r3, r4)) :
    Calls Tryd.prog 24 #[bk r b l a, .int .i64 now, .int .u64 n] w fun e w' => e = .returned (.tuple #[bk r1 r2 (if r3 < n then r3 else IntKind.u64.wrap (r3 - n)) r4, .bool (!decide (r3 < n))]) ∧ Below w.heap.size w w' := by
  have HF := Lib.hid (fun W => PMG.manometerref19_Fill.calls r b l a now r1 r2 r3 r4 W h)
  clear h
  go_enter Tryd.func24, Tryd.ntmps24
  go_upto_region 2 with (go_at_call 20; refine (HF.out _).mono ?_; rintro e w2 ⟨rfl, hB2⟩; have hb1 := two_boxes1 hB2; have hb2 := two_boxes2 hB2; have HB2 := Lib.hid (two_boxes hB2); clear hB2; have HQ1 := Lib.hid hb1; have HQ2 := Lib.hid hb2; have hc0 := cell4_0 hb1; have hc1 := cell4_1 hb1; have hc2 := cell4_2 hb1; have hc3 := cell4_3 hb1; have hf0 := blk_frozen hb1 0; have hf1 := blk_frozen hb1 1; have hf2 := blk_frozen hb1 2; have hf3 := blk_frozen hb1 3; clear hb1 hb2)
  clear hc0 hc1 hc2 hc3 hf0 hf1 hf2 hf3
  obtain ⟨W3, hW3⟩ : ∃ W3, W3 = set4 w2 w.heap.size (.int .u64 r1) (.int .u64 r2) (.int .u64 r3) (.int .i64 r4) := ⟨_, rfl⟩
  have h31 := set4_at HQ1.out (.int .u64 r1) (.int .u64 r2) (.int .u64 r3) (.int .i64 r4)
  have h32 := set4_far HQ2.out (show w.heap.size + 1 ≠ w.heap.size by omega) (.int .u64 r1) (.int .u64 r2) (.int .u64 r3) (.int .i64 r4)
  have h3b := set4_below HB2.out (Nat.le_refl _) (.int .u64 r1) (.int .u64 r2) (.int .u64 r3) (.int .i64 r4)
  rw [← hW3] at h31 h32 h3b
  simp only [set4] at hW3
  rw [← hW3]
  clear hW3 HQ1 HQ2 HB2
  have G1 := Lib.hid h31
  have G2 := Lib.hid h32
  have GB := Lib.hid h3b
  have c0 := cell4_0 h31
  have c1 := cell4_1 h31
  have c2 := cell4_2 h31
  have c3 := cell4_3 h31
  have d0 := cell4_0 h32
  have d1 := cell4_1 h32
  have d2 := cell4_2 h32
  have d3 := cell4_3 h32
  have f2 := blk_frozen h31 2
  have g0 := blk_frozen h32 0
  have g1 := blk_frozen h32 1
  have g2 := blk_frozen h32 2
  have g3 := blk_frozen h32 3
  clear h31 h32 h3b
  by_cases hlt : r3 < n
  · have hd : decide (r3 < n) = true := decide_eq_true hlt
    go_wp2
    refine bodyPost_ret (results_ct rfl _ _ (w.heap.size + 1) 30 #[.int .u64 r1, .int .u64 r2, .int .u64 r3, .int .i64 r4] (0, 0) _ rfl (set4_at G2.out _ _ _ _) Tryd.underlying30 rfl (by kernel_rfl)) rfl ?_
    exact ⟨by first | rfl | (simp [hd]; done), set4_below GB.out (by omega) _ _ _ _⟩
  · have hd : decide (r3 < n) = false := decide_eq_false hlt
    go_wp2
    refine bodyPost_ret (results_ct rfl _ _ (w.heap.size + 1) 30 #[.int .u64 r1, .int .u64 r2, .int .u64 (IntKind.u64.wrap (r3 - n)), .int .i64 r4] (0, 0) _ rfl (set4_at (blk_far (p := ⟨w.heap.size, 2, none⟩) G2.out (by show w.heap.size + 1 ≠ w.heap.size; omega) _) _ _ _ _) Tryd.underlying30 rfl (by kernel_rfl)) rfl ?_
    exact ⟨by first | rfl | (simp [hd]; done), set4_below (below_set GB.out (Nat.le_refl _)) (by omega) _ _ _ _⟩
set_option maxRecDepth 20000 in
set_option maxHeartbeats 4000000 in
theorem rturn_raw (w : World) (r b l a rate burst now : Int) (r1 r2 r3 r4 m : Int) (h : PMG.manometerref19_Fill.f r b l a now = some (r1, r2, r3, r4)) (hm' : (if burst < r3 then burst else r3) = m) :
    Calls Tryd.prog 22 #[bk r b l a, .int .u64 rate, .int .u64 burst, .int .i64 now] w fun e w' => e = .returned (bk rate burst m r4) ∧ Below w.heap.size w w' := by
  have HF := Lib.hid (fun W => PMG.manometerref19_Fill.calls r b l a now r1 r2 r3 r4 W h)
  clear h
  go_enter Tryd.func22, Tryd.ntmps22
  go_upto_region 2 with (go_at_call 20; refine (HF.out _).mono ?_; rintro e w2 ⟨rfl, hB2⟩; have hb1 := two_boxes1 hB2; have hb2 := two_boxes2 hB2; have HB2 := Lib.hid (two_boxes hB2); clear hB2; have HQ1 := Lib.hid hb1; have HQ2 := Lib.hid hb2; have hc0 := cell4_0 hb1; have hc1 := cell4_1 hb1; have hc2 := cell4_2 hb1; have hc3 := cell4_3 hb1; have hf0 := blk_frozen hb1 0; have hf1 := blk_frozen hb1 1; have hf2 := blk_frozen hb1 2; have hf3 := blk_frozen hb1 3; clear hb1 hb2)
  clear hc0 hc1 hc2 hc3 hf0 hf1 hf2 hf3
  obtain ⟨W3, hW3⟩ : ∃ W3, W3 = set4 w2 w.heap.size (.int .u64 r1) (.int .u64 r2) (.int .u64 r3) (.int .i64 r4) := ⟨_, rfl⟩
  have h31 := set4_at HQ1.out (.int .u64 r1) (.int .u64 r2) (.int .u64 r3) (.int .i64 r4)
  have h32 := set4_far HQ2.out (show w.heap.size + 1 ≠ w.heap.size by omega) (.int .u64 r1) (.int .u64 r2) (.int .u64 r3) (.int .i64 r4)
  have h3b := set4_below HB2.out (Nat.le_refl _) (.int .u64 r1) (.int .u64 r2) (.int .u64 r3) (.int .i64 r4)
  rw [← hW3] at h31 h32 h3b
  simp only [set4] at hW3
  rw [← hW3]
  clear hW3 HQ1 HQ2 HB2
  have G1 := Lib.hid h31
  have G2 := Lib.hid h32
  have GB := Lib.hid h3b
  have c0 := cell4_0 h31
  have c1 := cell4_1 h31
  have c2 := cell4_2 h31
  have c3 := cell4_3 h31
  have d0 := cell4_0 h32
  have d1 := cell4_1 h32
  have d2 := cell4_2 h32
  have d3 := cell4_3 h32
  have f0 := blk_frozen h31 0
  have f1 := blk_frozen h31 1
  have f2 := blk_frozen h31 2
  have g0 := blk_frozen h32 0
  have g1 := blk_frozen h32 1
  have g2 := blk_frozen h32 2
  have g3 := blk_frozen h32 3
  clear h31 h32 h3b
  go_wp2
  refine bodyPost_ret (results_cell_row rfl _ _ (w.heap.size + 1) 30 #[.int .u64 rate, .int .u64 burst, .int .u64 m, .int .i64 r4] (0, 0) _ rfl (set4_at (blk_far (p := ⟨w.heap.size, 2, none⟩) (blk_far (p := ⟨w.heap.size, 1, none⟩) (blk_far (p := ⟨w.heap.size, 0, none⟩) G2.out (by show w.heap.size + 1 ≠ w.heap.size; omega) _) (by show w.heap.size + 1 ≠ w.heap.size; omega) _) (by show w.heap.size + 1 ≠ w.heap.size; omega) _) _ _ _ _) Tryd.underlying30 rfl (by kernel_rfl)) rfl ?_
  exact ⟨by first | rfl | (simp; done), set4_below (below_set (below_set (below_set GB.out (Nat.le_refl _)) (Nat.le_refl _)) (Nat.le_refl _)) (by omega) _ _ _ _⟩
theorem rturn_calls (w : World) (r b l a rate burst now : Int) (r1 r2 r3 r4 : Int) (h : PMG.manometerref19_Fill.f r b l a now = some (r1, r2, r3, r4)) :
    Calls Tryd.prog 22 #[bk r b l a, .int .u64 rate, .int .u64 burst, .int .i64 now] w fun e w' => e = .returned (bk rate burst (if burst < r3 then burst else r3) r4) ∧ Below w.heap.size w w' :=
  rturn_raw w r b l a rate burst now r1 r2 r3 r4 _ h rfl
end Go.Proofs.YtbpmgaaipkenkaaDoor
end
section
namespace Go.Proofs.YtbpmgaaipkenkaaDoor
open Go Go.RowKit Go.Proofs.YtbpmgaaipkenkaaDoorW.PrintWords Go.Proofs.YtbpmgaaipkenkaaDoorW.PrintLast Go.Proofs.YtbpmgaaipkenkaaDoorW.PrintMore
set_option linter.unusedVariables false
def okB (r b l a now : Int) : Bool := decide ((0 ≤ r ∧ r < 18446744073709551616) ∧ (0 ≤ b ∧ b < 18446744073709551616) ∧ (0 ≤ l ∧ l < 18446744073709551616) ∧ (-9223372036854775808 ≤ a ∧ a ≤ 9223372036854775807) ∧ (-9223372036854775808 ≤ now ∧ now ≤ 9223372036854775807))
theorem okB_w {r b l a now : Int} (h : okB r b l a now = true) : BkW r b l a ∧ -9223372036854775808 ≤ now ∧ now ≤ 9223372036854775807 := by
  have h := of_decide_eq_true h
  exact ⟨⟨h.1.1, h.1.2, h.2.1.1, h.2.1.2, h.2.2.1.1, h.2.2.1.2, h.2.2.2.1.1, h.2.2.2.1.2⟩, h.2.2.2.2.1, h.2.2.2.2.2⟩
def okN (a b : Int) : Bool := decide ((0 ≤ a ∧ a < 18446744073709551616) ∧ 0 ≤ b ∧ b < 18446744073709551616)
section
variable {r b l a now n : Int}
theorem gfill (w : World) (h : okB r b l a now = true) : Calls Tryd.prog 18 #[bk r b l a, .int .i64 now] w fun e w' => e = .returned (bk r b (levF r b l a now) (tickF a now)) ∧ Below w.heap.size w w' :=
  PMD.limit_Fill.calls r b l a now _ _ _ _ w (fill_f r b l a now (okB_w h).1 (okB_w h).2.1 (okB_w h).2.2)
theorem grfill (w : World) (h : okB r b l a now = true) : Calls Tryd.prog 20 #[bk r b l a, .int .i64 now] w fun e w' => e = .returned (bk r b (levF r b l a now) (tickF a now)) ∧ Below w.heap.size w w' :=
  PMG.manometerref19_Fill.calls r b l a now _ _ _ _ w (rfill_f r b l a now (okB_w h).1 (okB_w h).2.1 (okB_w h).2.2)
theorem gtake (w : World) (h : okB r b l a now = true) : Calls Tryd.prog 23 #[bk r b l a, .int .i64 now, .int .u64 n] w fun e w' => e = .returned (.tuple #[bk r b (if levF r b l a now < n then levF r b l a now else IntKind.u64.wrap (levF r b l a now - n)) (tickF a now), .bool (!decide (levF r b l a now < n))]) ∧ Below w.heap.size w w' :=
  take_calls w r b l a now n _ _ _ _ (fill_f r b l a now (okB_w h).1 (okB_w h).2.1 (okB_w h).2.2)
theorem grtake (w : World) (h : okB r b l a now = true) : Calls Tryd.prog 24 #[bk r b l a, .int .i64 now, .int .u64 n] w fun e w' => e = .returned (.tuple #[bk r b (if levF r b l a now < n then levF r b l a now else IntKind.u64.wrap (levF r b l a now - n)) (tickF a now), .bool (!decide (levF r b l a now < n))]) ∧ Below w.heap.size w w' :=
  rtake_calls w r b l a now n _ _ _ _ (rfill_f r b l a now (okB_w h).1 (okB_w h).2.1 (okB_w h).2.2)
theorem gturn (rate burst : Int) (w : World) (h : okB r b l a now = true) : Calls Tryd.prog 21 #[bk r b l a, .int .u64 rate, .int .u64 burst, .int .i64 now] w fun e w' => e = .returned (bk rate burst (if burst < levF r b l a now then burst else levF r b l a now) (tickF a now)) ∧ Below w.heap.size w w' :=
  turn_calls w r b l a rate burst now _ _ _ _ (fill_f r b l a now (okB_w h).1 (okB_w h).2.1 (okB_w h).2.2)
theorem grturn (rate burst : Int) (w : World) (h : okB r b l a now = true) : Calls Tryd.prog 22 #[bk r b l a, .int .u64 rate, .int .u64 burst, .int .i64 now] w fun e w' => e = .returned (bk rate burst (if burst < levF r b l a now then burst else levF r b l a now) (tickF a now)) ∧ Below w.heap.size w w' :=
  rturn_calls w r b l a rate burst now _ _ _ _ (rfill_f r b l a now (okB_w h).1 (okB_w h).2.1 (okB_w h).2.2)
theorem gtimes (x y : Int) (w : World) (h : okN x y = true) : Calls Tryd.prog 14 #[.int .u64 x, .int .u64 y] w fun e w' => e = .returned (.int .u64 (timesF x y)) ∧ Drawn0 w w' := by
  have h := of_decide_eq_true h
  exact PMD.limit_Times.calls x y _ w (times_f x y h.1.1 h.2.1 h.1.2 h.2.2)
theorem grtimes (x y : Int) (w : World) (h : okN x y = true) : Calls Tryd.prog 15 #[.int .u64 x, .int .u64 y] w fun e w' => e = .returned (.int .u64 (timesF x y)) ∧ Drawn0 w w' := by
  have h := of_decide_eq_true h
  exact rtimes_calls x y w h.1.1 h.2.1 h.1.2 h.2.2
theorem gplus (x y : Int) (w : World) (h : okN x y = true) : Calls Tryd.prog 12 #[.int .u64 x, .int .u64 y] w fun e w' => e = .returned (.int .u64 (plusF x y)) ∧ Drawn0 w w' := by
  have h := of_decide_eq_true h
  exact plus_calls x y w h.1.1 h.2.1 h.1.2 h.2.2
theorem grplus (x y : Int) (w : World) (h : okN x y = true) : Calls Tryd.prog 13 #[.int .u64 x, .int .u64 y] w fun e w' => e = .returned (.int .u64 (plusF x y)) ∧ Drawn0 w w' := by
  have h := of_decide_eq_true h
  exact rplus_calls x y w h.1.1 h.2.1 h.1.2 h.2.2
end
end Go.Proofs.YtbpmgaaipkenkaaDoor
end
section
namespace Go.Proofs.YtbpmgaaipkenkaaDoor.PMB
open Go.RowKit Go.Proofs.YtbpmgaaipkenkaaDoorW.PrintWords Go.Proofs.YtbpmgaaipkenkaaDoorW.PrintLast Go.Proofs.YtbpmgaaipkenkaaDoorW.PrintMore
attribute [local go_sem] max2_int min2_int max_two min_two max_three min_three max_four min_four
set_option linter.unusedVariables false
set_option linter.unusedSimpArgs false
def errW : Option Int → Value
 | none => .nilIface
 | some c => .iface 0 (.int .i64 c)
theorem errW_none : errW none = .nilIface := rfl
theorem errW_some (c : Int) : errW (some c) = .iface 0 (.int .i64 c) := rfl
structure S30 where
 f0 : Int
 f1 : Int
 f2 : Int
 f3 : Int
def k30 : Kd S30 := Kd.iso (Kd.pair (Kd.int .u64) (Kd.pair (Kd.int .u64) (Kd.pair (Kd.int .u64) (Kd.int .i64)))) (fun x : S30 => (x.f0, x.f1, x.f2, x.f3))
theorem k30_open {w : World} {x : S30} {cs : List Value} (h : k30.K w x cs) : cs = [.int .u64 x.f0, .int .u64 x.f1, .int .u64 x.f2, .int .i64 x.f3] := by
 obtain ⟨_, _, rfl, rfl, ⟨_, _, rfl, rfl, ⟨_, _, rfl, rfl, rfl⟩⟩⟩ := h
 exact rfl
structure S33 where
 f0 : Int
 f1 : Int
 f2 : Bool
 f3 : Int
 f4 : Int
def z33 : S33 := ⟨(0 : Int), (0 : Int), false, (0 : Int), (0 : Int)⟩
def k33 : Kd S33 := Kd.iso (Kd.pair (Kd.int .i64) (Kd.pair (Kd.int .u64) (Kd.pair Kd.bool (Kd.pair (Kd.int .u64) (Kd.int .u64))))) (fun x : S33 => (x.f0, x.f1, x.f2, x.f3, x.f4))
theorem k33_open {w : World} {x : S33} {cs : List Value} (h : k33.K w x cs) : cs = [.int .i64 x.f0, .int .u64 x.f1, .bool x.f2, .int .u64 x.f3, .int .u64 x.f4] := by
 obtain ⟨_, _, rfl, rfl, ⟨_, _, rfl, rfl, ⟨_, _, rfl, rfl, ⟨_, _, rfl, rfl, rfl⟩⟩⟩⟩ := h
 exact rfl
def rd_T33 (xs : List S33) (i : Int) : S33 := xs.getD i.toNat z33
theorem at_T33 {w : World} {A : Option Addr} {n : Nat} {xs : List S33} (h : Kd.C k33 w A n xs) (i : Int) (h0 : 0 ≤ i) (h1 : i < n) : ∃ ad , A = some ad ∧ w.cell? (ad.add (i.toNat * 5)) = some (.int .i64 (rd_T33 xs i).f0) ∧ w.cell? ⟨(ad.add (i.toNat * 5)).block, (ad.add (i.toNat * 5)).off + 1, none⟩ = some (.int .u64 (rd_T33 xs i).f1) ∧ w.cell? ⟨(ad.add (i.toNat * 5)).block, (ad.add (i.toNat * 5)).off + 2, none⟩ = some (.bool (rd_T33 xs i).f2) ∧ w.cell? ⟨(ad.add (i.toNat * 5)).block, (ad.add (i.toNat * 5)).off + 3, none⟩ = some (.int .u64 (rd_T33 xs i).f3) ∧ w.cell? ⟨(ad.add (i.toNat * 5)).block, (ad.add (i.toNat * 5)).off + 4, none⟩ = some (.int .u64 (rd_T33 xs i).f4) := by
 obtain ⟨ad, c, e, _, hK, hc0⟩ := Kd.C_get h z33 i h0 h1
 have hc : ∀ j u, c[j]? = some u → w.cell? (ad.add (i.toNat * 5 + j)) = some u := hc0
 obtain rfl := k33_open hK
 exact ⟨ad, e, hc 0 _ rfl, by rw [← add_field _ _ 1 (by omega)]; exact hc 1 _ rfl, by rw [← add_field _ _ 2 (by omega)]; exact hc 2 _ rfl, by rw [← add_field _ _ 3 (by omega)]; exact hc 3 _ rfl, by rw [← add_field _ _ 4 (by omega)]; exact hc 4 _ rfl⟩
end Go.Proofs.YtbpmgaaipkenkaaDoor.PMB
end
section
namespace Go.Proofs.YtbpmgaaipkenkaaDoor.PMB
open Go.RowKit Go.Proofs.YtbpmgaaipkenkaaDoorW.PrintWords Go.Proofs.YtbpmgaaipkenkaaDoorW.PrintLast Go.Proofs.YtbpmgaaipkenkaaDoorW.PrintMore
attribute [local go_sem] max2_int min2_int max_two min_two max_three min_three max_four min_four
set_option linter.unusedVariables false
set_option linter.unusedSimpArgs false
def manometerlaw19_live.f : Option (Bool) := some true
theorem manometerlaw19_live.calls  (r : Bool) (w : World) (hT : Aside0 (Tab w)) (h : manometerlaw19_live.f  = some r) :
  Calls Tryd.prog 11 #[] w fun e w' => e = .returned (.bool r) ∧ Below w.heap.size w w' := by
 obtain rfl := Option.some.inj h
 exact live_calls w hT.out
def limit_Plus.f (a0 : Int) (a1 : Int) : Option (Int) := if okN a0 a1 = true then some (plusF a0 a1) else none
theorem limit_Plus.calls (a0 : Int) (a1 : Int) (r : Int) (w : World) (h : limit_Plus.f a0 a1 = some r) :
  Calls Tryd.prog 12 #[.int .u64 a0, .int .u64 a1] w fun e w' => e = .returned (.int .u64 r) ∧ Drawn0 w w' := by
 unfold limit_Plus.f at h
 split at h
 ·rename_i h1
  obtain rfl := Option.some.inj h
  exact gplus a0 a1 w h1
 ·cases h
def manometerref19_Plus.f (a0 : Int) (a1 : Int) : Option (Int) := if okN a0 a1 = true then some (plusF a0 a1) else none
theorem manometerref19_Plus.calls (a0 : Int) (a1 : Int) (r : Int) (w : World) (h : manometerref19_Plus.f a0 a1 = some r) :
  Calls Tryd.prog 13 #[.int .u64 a0, .int .u64 a1] w fun e w' => e = .returned (.int .u64 r) ∧ Drawn0 w w' := by
 unfold manometerref19_Plus.f at h
 split at h
 ·rename_i h1
  obtain rfl := Option.some.inj h
  exact grplus a0 a1 w h1
 ·cases h
def limit_Times.f (a0 : Int) (a1 : Int) : Option (Int) := if okN a0 a1 = true then some (timesF a0 a1) else none
theorem limit_Times.calls (a0 : Int) (a1 : Int) (r : Int) (w : World) (h : limit_Times.f a0 a1 = some r) :
  Calls Tryd.prog 14 #[.int .u64 a0, .int .u64 a1] w fun e w' => e = .returned (.int .u64 r) ∧ Drawn0 w w' := by
 unfold limit_Times.f at h
 split at h
 ·rename_i h1
  obtain rfl := Option.some.inj h
  exact gtimes a0 a1 w h1
 ·cases h
def manometerref19_Times.f (a0 : Int) (a1 : Int) : Option (Int) := if okN a0 a1 = true then some (timesF a0 a1) else none
theorem manometerref19_Times.calls (a0 : Int) (a1 : Int) (r : Int) (w : World) (h : manometerref19_Times.f a0 a1 = some r) :
  Calls Tryd.prog 15 #[.int .u64 a0, .int .u64 a1] w fun e w' => e = .returned (.int .u64 r) ∧ Drawn0 w w' := by
 unfold manometerref19_Times.f at h
 split at h
 ·rename_i h1
  obtain rfl := Option.some.inj h
  exact grtimes a0 a1 w h1
 ·cases h
def limit_Fill.f (a0_0 : Int) (a0_1 : Int) (a0_2 : Int) (a0_3 : Int) (a1 : Int) : Option (Int × Int × Int × Int) := if okB a0_0 a0_1 a0_2 a0_3 a1 = true then some (a0_0, a0_1, levF a0_0 a0_1 a0_2 a0_3 a1, tickF a0_3 a1) else none
theorem limit_Fill.calls (a0_0 : Int) (a0_1 : Int) (a0_2 : Int) (a0_3 : Int) (a1 : Int) (r1 : Int) (r2 : Int) (r3 : Int) (r4 : Int) (w : World) (h : limit_Fill.f a0_0 a0_1 a0_2 a0_3 a1 = some (r1, r2, r3, r4)) :
  Calls Tryd.prog 18 #[.agg #[.int .u64 a0_0, .int .u64 a0_1, .int .u64 a0_2, .int .i64 a0_3], .int .i64 a1] w fun e w' => e = .returned (.agg #[.int .u64 r1, .int .u64 r2, .int .u64 r3, .int .i64 r4]) ∧ Below w.heap.size w w' := by
 unfold limit_Fill.f at h
 split at h
 ·rename_i h1
  simp only [Option.some.injEq, Prod.mk.injEq] at h
  obtain ⟨rfl, rfl, rfl, rfl⟩ := h
  exact gfill w h1
 ·cases h
def limit_Take.f (a0_0 : Int) (a0_1 : Int) (a0_2 : Int) (a0_3 : Int) (a1 : Int) (a2 : Int) : Option (Int × Int × Int × Int × Bool) := if okB a0_0 a0_1 a0_2 a0_3 a1 = true then some (a0_0, a0_1, (if levF a0_0 a0_1 a0_2 a0_3 a1 < a2 then levF a0_0 a0_1 a0_2 a0_3 a1 else IntKind.u64.wrap (levF a0_0 a0_1 a0_2 a0_3 a1 - a2)), tickF a0_3 a1, !decide (levF a0_0 a0_1 a0_2 a0_3 a1 < a2)) else none
theorem limit_Take.calls (a0_0 : Int) (a0_1 : Int) (a0_2 : Int) (a0_3 : Int) (a1 : Int) (a2 : Int) (r1 : Int) (r2 : Int) (r3 : Int) (r4 : Int) (r5 : Bool) (w : World) (h : limit_Take.f a0_0 a0_1 a0_2 a0_3 a1 a2 = some (r1, r2, r3, r4, r5)) :
  Calls Tryd.prog 23 #[.agg #[.int .u64 a0_0, .int .u64 a0_1, .int .u64 a0_2, .int .i64 a0_3], .int .i64 a1, .int .u64 a2] w fun e w' => e = .returned (.tuple #[.agg #[.int .u64 r1, .int .u64 r2, .int .u64 r3, .int .i64 r4], .bool r5]) ∧ Below w.heap.size w w' := by
 unfold limit_Take.f at h
 split at h
 ·rename_i h1
  simp only [Option.some.injEq, Prod.mk.injEq] at h
  obtain ⟨rfl, rfl, rfl, rfl, rfl⟩ := h
  exact gtake w h1
 ·cases h
def limit_Full.f (a0 : Int) (a1 : Int) (a2 : Int) : Option (Int × Int × Int × Int) := some (a0, a1, a1, a2)
set_option maxHeartbeats 8000000 in
set_option maxRecDepth 100000 in
theorem limit_Full.calls (a0 : Int) (a1 : Int) (a2 : Int) (r1 : Int) (r2 : Int) (r3 : Int) (r4 : Int) (w : World) (h : limit_Full.f a0 a1 a2 = some (r1, r2, r3, r4)) :
  Calls Tryd.prog 17 #[.int .u64 a0, .int .u64 a1, .int .i64 a2] w fun e w' => e = .returned (.agg #[.int .u64 r1, .int .u64 r2, .int .u64 r3, .int .i64 r4]) ∧ Below w.heap.size w w' := by
 have hu30 := Tryd.underlying30
 have HB := Aside0.mk (Below.refl w.heap.size w)
 have H : (some (a0, a1, a1, a2)) = some (r1, r2, r3, r4) := h
 clear h
 simp only [Option.some.injEq, Prod.mk.injEq] at H
 obtain ⟨rfl, rfl, rfl, rfl⟩ := H
 go_enter Tryd.func17, Tryd.ntmps17
 go_wp2_with (first | ((with_reducible refine gate_dst (N := 6) rfl ?_); refine box_event ?hg (N := 6) ?hd (cs := #[.int .u64 0, .int .u64 0, .int .u64 0, .int .i64 0]) (t := 30) ?hr ?_; (case hd => rfl); (case hg => rfl); (case hr => first | (go_simp; done) | (go_simp; rfl)); intro gb129 hg w4 hbox hb; have n0_ := Aside0.mk (below_step y1_ hb); have n1_ := Aside0.mk (hbox); have n2_ := Aside0.mk ((y12_ : w.heap.size ≤ gb129)); have n3_ := Aside0.mk ((y12_ : w.heap.size ≤ gb129)); clear HB; have HB := n0_; have BK129 := n1_; have GW129 := n2_; have GE129 := n3_; clear n0_ n1_ n2_ n3_; clear hb hbox hg; have hcz5_0 : w4.cell? ⟨gb129, 0, none⟩ = some (.int .u64 0) := (blk_cell BK129.out 0).trans rfl; have hcz5_1 : w4.cell? ⟨gb129, 1, none⟩ = some (.int .u64 0) := (blk_cell BK129.out 1).trans rfl; have hcz5_2 : w4.cell? ⟨gb129, 2, none⟩ = some (.int .u64 0) := (blk_cell BK129.out 2).trans rfl; have hcz5_3 : w4.cell? ⟨gb129, 3, none⟩ = some (.int .i64 0) := (blk_cell BK129.out 3).trans rfl; have hfz5_0 := blk_frozen BK129.out 0; have hfz5_1 := blk_frozen BK129.out 1; have hfz5_2 := blk_frozen BK129.out 2; have hfz5_3 := blk_frozen BK129.out 3))
 refine bodyPost_ret (results_cell_row rfl _ _ gb129 30 #[.int .u64 a0, .int .u64 a1, .int .u64 a1, .int .i64 a2] (0, 0) _ rfl (by (with_reducible repeat (first | refine blk_drewN ?_ _ | refine blk_drew ?_ | refine blk_alloc ?_ _)); refine blk_put (cs := #[.int .u64 a0, .int .u64 a1, .int .u64 a1, .int .i64 0]) ?_ 3 _ rfl; (with_reducible repeat (first | refine blk_drewN ?_ _ | refine blk_drew ?_ | refine blk_alloc ?_ _)); refine blk_put (cs := #[.int .u64 a0, .int .u64 a1, .int .u64 0, .int .i64 0]) ?_ 2 _ rfl; (with_reducible repeat (first | refine blk_drewN ?_ _ | refine blk_drew ?_ | refine blk_alloc ?_ _)); refine blk_put (cs := #[.int .u64 a0, .int .u64 0, .int .u64 0, .int .i64 0]) ?_ 1 _ rfl; (with_reducible repeat (first | refine blk_drewN ?_ _ | refine blk_drew ?_ | refine blk_alloc ?_ _)); refine blk_put (cs := #[.int .u64 0, .int .u64 0, .int .u64 0, .int .i64 0]) ?_ 0 _ rfl; (with_reducible repeat (first | refine blk_drewN ?_ _ | refine blk_drew ?_ | refine blk_alloc ?_ _)); exact BK129.out) Tryd.underlying30 rfl (by kernel_rfl)) rfl ?_
 exact ⟨y10_, by repeat (first | (with_reducible first | exact HB.out | apply below_alloc | apply pw_below_drewN | apply below_drew1 | refine below_set ?_ GE129.out) | exact HB.out)⟩
end Go.Proofs.YtbpmgaaipkenkaaDoor.PMB
end
section
namespace Go.Proofs.YtbpmgaaipkenkaaDoor.PMB
open Go.RowKit Go.Proofs.YtbpmgaaipkenkaaDoorW.PrintWords Go.Proofs.YtbpmgaaipkenkaaDoorW.PrintLast Go.Proofs.YtbpmgaaipkenkaaDoorW.PrintMore
attribute [local go_sem] max2_int min2_int max_two min_two max_three min_three max_four min_four
set_option linter.unusedVariables false
set_option linter.unusedSimpArgs false
theorem eqA30 (d : Nat) (w : World) (x0 y0 : Int) (x1 y1 : Int) (x2 y2 : Int) (x3 y3 : Int) :
  (Op.equalIn (d + 2) 30 (.agg #[.int .u64 x0, .int .u64 x1, .int .u64 x2, .int .i64 x3]) (.agg #[.int .u64 y0, .int .u64 y1, .int .u64 y2, .int .i64 y3])).run Tryd.prog w = .ok (x0 == y0 && (x1 == y1 && (x2 == y2 && (x3 == y3)))) w := by
 refine eqA_of Tryd.underlying30 (by kernel_rfl) ?_
 refine eqf_cons (by rfl) (by go_simp; rfl) (by go_simp; rfl) (by go_simp) ?_
 refine eqf_cons (by rfl) (by go_simp; rfl) (by go_simp; rfl) (by go_simp) ?_
 refine eqf_cons (by rfl) (by go_simp; rfl) (by go_simp; rfl) (by go_simp) ?_
 exact eqf_last (by rfl) (by go_simp; rfl) (by go_simp; rfl) (by go_simp)
end Go.Proofs.YtbpmgaaipkenkaaDoor.PMB
end
section
namespace Go.Proofs.YtbpmgaaipkenkaaDoor.PMB
open Go.RowKit Go.Proofs.YtbpmgaaipkenkaaDoorW.PrintWords Go.Proofs.YtbpmgaaipkenkaaDoorW.PrintLast Go.Proofs.YtbpmgaaipkenkaaDoorW.PrintMore
attribute [local go_sem] max2_int min2_int max_two min_two max_three min_three max_four min_four
set_option linter.unusedVariables false
set_option linter.unusedSimpArgs false
attribute [local go_sem high] eqA30
end Go.Proofs.YtbpmgaaipkenkaaDoor.PMB
end
section
namespace Go.Proofs.YtbpmgaaipkenkaaDoor.PMB
open Go.RowKit Go.Proofs.YtbpmgaaipkenkaaDoorW.PrintWords Go.Proofs.YtbpmgaaipkenkaaDoorW.PrintLast Go.Proofs.YtbpmgaaipkenkaaDoorW.PrintMore
attribute [local go_sem] max2_int min2_int max_two min_two max_three min_three max_four min_four
set_option linter.unusedVariables false
set_option linter.unusedSimpArgs false
def manometerref19_Full.f (a0 : Int) (a1 : Int) (a2 : Int) : Option (Int × Int × Int × Int) := some (a0, a1, a1, a2)
set_option maxHeartbeats 8000000 in
set_option maxRecDepth 100000 in
theorem manometerref19_Full.calls (a0 : Int) (a1 : Int) (a2 : Int) (r1 : Int) (r2 : Int) (r3 : Int) (r4 : Int) (w : World) (h : manometerref19_Full.f a0 a1 a2 = some (r1, r2, r3, r4)) :
  Calls Tryd.prog 19 #[.int .u64 a0, .int .u64 a1, .int .i64 a2] w fun e w' => e = .returned (.agg #[.int .u64 r1, .int .u64 r2, .int .u64 r3, .int .i64 r4]) ∧ Below w.heap.size w w' := by
 have hu30 := Tryd.underlying30
 have HB := Aside0.mk (Below.refl w.heap.size w)
 have H : (some (a0, a1, a1, a2)) = some (r1, r2, r3, r4) := h
 clear h
 simp only [Option.some.injEq, Prod.mk.injEq] at H
 obtain ⟨rfl, rfl, rfl, rfl⟩ := H
 go_enter Tryd.func19, Tryd.ntmps19
 go_wp2_with (first | ((with_reducible refine gate_dst (N := 6) rfl ?_); refine box_event ?hg (N := 6) ?hd (cs := #[.int .u64 0, .int .u64 0, .int .u64 0, .int .i64 0]) (t := 30) ?hr ?_; (case hd => rfl); (case hg => rfl); (case hr => first | (go_simp; done) | (go_simp; rfl)); intro gb164 hg w4 hbox hb; have n0_ := Aside0.mk (below_step y1_ hb); have n1_ := Aside0.mk (hbox); have n2_ := Aside0.mk ((y12_ : w.heap.size ≤ gb164)); have n3_ := Aside0.mk ((y12_ : w.heap.size ≤ gb164)); clear HB; have HB := n0_; have BK164 := n1_; have GW164 := n2_; have GE164 := n3_; clear n0_ n1_ n2_ n3_; clear hb hbox hg; have hcz5_0 : w4.cell? ⟨gb164, 0, none⟩ = some (.int .u64 0) := (blk_cell BK164.out 0).trans rfl; have hcz5_1 : w4.cell? ⟨gb164, 1, none⟩ = some (.int .u64 0) := (blk_cell BK164.out 1).trans rfl; have hcz5_2 : w4.cell? ⟨gb164, 2, none⟩ = some (.int .u64 0) := (blk_cell BK164.out 2).trans rfl; have hcz5_3 : w4.cell? ⟨gb164, 3, none⟩ = some (.int .i64 0) := (blk_cell BK164.out 3).trans rfl; have hfz5_0 := blk_frozen BK164.out 0; have hfz5_1 := blk_frozen BK164.out 1; have hfz5_2 := blk_frozen BK164.out 2; have hfz5_3 := blk_frozen BK164.out 3))
 refine bodyPost_ret (results_cell_row rfl _ _ gb164 30 #[.int .u64 a0, .int .u64 a1, .int .u64 a1, .int .i64 a2] (0, 0) _ rfl (by (with_reducible repeat (first | refine blk_drewN ?_ _ | refine blk_drew ?_ | refine blk_alloc ?_ _)); refine blk_put (cs := #[.int .u64 a0, .int .u64 a1, .int .u64 a1, .int .i64 0]) ?_ 3 _ rfl; (with_reducible repeat (first | refine blk_drewN ?_ _ | refine blk_drew ?_ | refine blk_alloc ?_ _)); refine blk_put (cs := #[.int .u64 a0, .int .u64 a1, .int .u64 0, .int .i64 0]) ?_ 2 _ rfl; (with_reducible repeat (first | refine blk_drewN ?_ _ | refine blk_drew ?_ | refine blk_alloc ?_ _)); refine blk_put (cs := #[.int .u64 a0, .int .u64 0, .int .u64 0, .int .i64 0]) ?_ 1 _ rfl; (with_reducible repeat (first | refine blk_drewN ?_ _ | refine blk_drew ?_ | refine blk_alloc ?_ _)); refine blk_put (cs := #[.int .u64 0, .int .u64 0, .int .u64 0, .int .i64 0]) ?_ 0 _ rfl; (with_reducible repeat (first | refine blk_drewN ?_ _ | refine blk_drew ?_ | refine blk_alloc ?_ _)); exact BK164.out) Tryd.underlying30 rfl (by kernel_rfl)) rfl ?_
 exact ⟨y10_, by repeat (first | (with_reducible first | exact HB.out | apply below_alloc | apply pw_below_drewN | apply below_drew1 | refine below_set ?_ GE164.out) | exact HB.out)⟩
def manometerref19_Fill.f (a0_0 : Int) (a0_1 : Int) (a0_2 : Int) (a0_3 : Int) (a1 : Int) : Option (Int × Int × Int × Int) := if okB a0_0 a0_1 a0_2 a0_3 a1 = true then some (a0_0, a0_1, levF a0_0 a0_1 a0_2 a0_3 a1, tickF a0_3 a1) else none
theorem manometerref19_Fill.calls (a0_0 : Int) (a0_1 : Int) (a0_2 : Int) (a0_3 : Int) (a1 : Int) (r1 : Int) (r2 : Int) (r3 : Int) (r4 : Int) (w : World) (h : manometerref19_Fill.f a0_0 a0_1 a0_2 a0_3 a1 = some (r1, r2, r3, r4)) :
  Calls Tryd.prog 20 #[.agg #[.int .u64 a0_0, .int .u64 a0_1, .int .u64 a0_2, .int .i64 a0_3], .int .i64 a1] w fun e w' => e = .returned (.agg #[.int .u64 r1, .int .u64 r2, .int .u64 r3, .int .i64 r4]) ∧ Below w.heap.size w w' := by
 unfold manometerref19_Fill.f at h
 split at h
 ·rename_i h1
  simp only [Option.some.injEq, Prod.mk.injEq] at h
  obtain ⟨rfl, rfl, rfl, rfl⟩ := h
  exact grfill w h1
 ·cases h
def limit_Turn.f (a0_0 : Int) (a0_1 : Int) (a0_2 : Int) (a0_3 : Int) (a1 : Int) (a2 : Int) (a3 : Int) : Option (Int × Int × Int × Int) := if okB a0_0 a0_1 a0_2 a0_3 a3 = true then some (a1, a2, (if a2 < levF a0_0 a0_1 a0_2 a0_3 a3 then a2 else levF a0_0 a0_1 a0_2 a0_3 a3), tickF a0_3 a3) else none
theorem limit_Turn.calls (a0_0 : Int) (a0_1 : Int) (a0_2 : Int) (a0_3 : Int) (a1 : Int) (a2 : Int) (a3 : Int) (r1 : Int) (r2 : Int) (r3 : Int) (r4 : Int) (w : World) (h : limit_Turn.f a0_0 a0_1 a0_2 a0_3 a1 a2 a3 = some (r1, r2, r3, r4)) :
  Calls Tryd.prog 21 #[.agg #[.int .u64 a0_0, .int .u64 a0_1, .int .u64 a0_2, .int .i64 a0_3], .int .u64 a1, .int .u64 a2, .int .i64 a3] w fun e w' => e = .returned (.agg #[.int .u64 r1, .int .u64 r2, .int .u64 r3, .int .i64 r4]) ∧ Below w.heap.size w w' := by
 unfold limit_Turn.f at h
 split at h
 ·rename_i h1
  simp only [Option.some.injEq, Prod.mk.injEq] at h
  obtain ⟨rfl, rfl, rfl, rfl⟩ := h
  exact gturn a1 a2 w h1
 ·cases h
def manometerref19_Turn.f (a0_0 : Int) (a0_1 : Int) (a0_2 : Int) (a0_3 : Int) (a1 : Int) (a2 : Int) (a3 : Int) : Option (Int × Int × Int × Int) := if okB a0_0 a0_1 a0_2 a0_3 a3 = true then some (a1, a2, (if a2 < levF a0_0 a0_1 a0_2 a0_3 a3 then a2 else levF a0_0 a0_1 a0_2 a0_3 a3), tickF a0_3 a3) else none
theorem manometerref19_Turn.calls (a0_0 : Int) (a0_1 : Int) (a0_2 : Int) (a0_3 : Int) (a1 : Int) (a2 : Int) (a3 : Int) (r1 : Int) (r2 : Int) (r3 : Int) (r4 : Int) (w : World) (h : manometerref19_Turn.f a0_0 a0_1 a0_2 a0_3 a1 a2 a3 = some (r1, r2, r3, r4)) :
  Calls Tryd.prog 22 #[.agg #[.int .u64 a0_0, .int .u64 a0_1, .int .u64 a0_2, .int .i64 a0_3], .int .u64 a1, .int .u64 a2, .int .i64 a3] w fun e w' => e = .returned (.agg #[.int .u64 r1, .int .u64 r2, .int .u64 r3, .int .i64 r4]) ∧ Below w.heap.size w w' := by
 unfold manometerref19_Turn.f at h
 split at h
 ·rename_i h1
  simp only [Option.some.injEq, Prod.mk.injEq] at h
  obtain ⟨rfl, rfl, rfl, rfl⟩ := h
  exact grturn a1 a2 w h1
 ·cases h
def manometerref19_Take.f (a0_0 : Int) (a0_1 : Int) (a0_2 : Int) (a0_3 : Int) (a1 : Int) (a2 : Int) : Option (Int × Int × Int × Int × Bool) := if okB a0_0 a0_1 a0_2 a0_3 a1 = true then some (a0_0, a0_1, (if levF a0_0 a0_1 a0_2 a0_3 a1 < a2 then levF a0_0 a0_1 a0_2 a0_3 a1 else IntKind.u64.wrap (levF a0_0 a0_1 a0_2 a0_3 a1 - a2)), tickF a0_3 a1, !decide (levF a0_0 a0_1 a0_2 a0_3 a1 < a2)) else none
theorem manometerref19_Take.calls (a0_0 : Int) (a0_1 : Int) (a0_2 : Int) (a0_3 : Int) (a1 : Int) (a2 : Int) (r1 : Int) (r2 : Int) (r3 : Int) (r4 : Int) (r5 : Bool) (w : World) (h : manometerref19_Take.f a0_0 a0_1 a0_2 a0_3 a1 a2 = some (r1, r2, r3, r4, r5)) :
  Calls Tryd.prog 24 #[.agg #[.int .u64 a0_0, .int .u64 a0_1, .int .u64 a0_2, .int .i64 a0_3], .int .i64 a1, .int .u64 a2] w fun e w' => e = .returned (.tuple #[.agg #[.int .u64 r1, .int .u64 r2, .int .u64 r3, .int .i64 r4], .bool r5]) ∧ Below w.heap.size w w' := by
 unfold manometerref19_Take.f at h
 split at h
 ·rename_i h1
  simp only [Option.some.injEq, Prod.mk.injEq] at h
  obtain ⟨rfl, rfl, rfl, rfl, rfl⟩ := h
  exact grtake w h1
 ·cases h
end Go.Proofs.YtbpmgaaipkenkaaDoor.PMB
end
