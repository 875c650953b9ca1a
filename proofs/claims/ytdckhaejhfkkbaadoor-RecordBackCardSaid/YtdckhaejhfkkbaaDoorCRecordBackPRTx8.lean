import Derived.Test.YtdckhaejhfkkbaaDoorCRecordBackPRTx0
import Derived.Test.YtdckhaejhfkkbaaDoorCRecordBackPRTx5
import Derived.Test.YtdckhaejhfkkbaaDoorCRecordBackPRTx6
import Derived.Test.YtdckhaejhfkkbaaDoorCRecordBackPRTx7
import Derived.Test.YtdckhaejhfkkbaaDoorCRecordBackO2
import Derived.Test.YtdckhaejhfkkbaaDoorCRecordBackPRTx2
import Derived.Test.YtdckhaejhfkkbaaDoorCRecordBackY
namespace Go.Proofs.YtdckhaejhfkkbaaDoor.PRT
open Go.RowKit Go.Proofs.YtdckhaejhfkkbaaDoorW.PrintWords Go.Proofs.YtdckhaejhfkkbaaDoorW.PrintLast Go.Proofs.YtdckhaejhfkkbaaDoorW.PrintMore
attribute [local go_sem] max2_int min2_int max_two min_two max_three min_three max_four min_four
set_option linter.unusedVariables false
set_option linter.unusedSimpArgs false
section
open Go Go.RowKit Go.Proofs.YtdckhaejhfkkbaaDoor Go.Proofs.YtdckhaejhfkkbaaDoorW.PrintWords Go.Proofs.YtdckhaejhfkkbaaDoorW.PrintLast Go.Proofs.YtdckhaejhfkkbaaDoorW.PrintMore
set_option linter.unusedVariables false
set_option linter.unusedSimpArgs false
attribute [local go_sem ↓] Go.wp_at_zero Go.wp_at_succ
theorem low_d {B B' : Nat} {w w1 : World} (h : Below B' w w1) (hB : B ≤ B') : Below B w w1 := ⟨h.os, h.tape, h.output, h.size, fun k hk => h.block k (Nat.lt_of_lt_of_le hk hB)⟩
set_option maxRecDepth 20000 in
set_option maxHeartbeats 4000000 in
theorem few_calls (W : World) (base bo : Nat) (v : Value) (xs ys : List Int) (n : Int) (k : Nat) (hbo : W.heap[bo]? = some (.cells #[v] 22 (0, 0))) (hR : Kd.R (Kd.int .u8) 5 W base (fun _ => True) v xs) (hbase : base ≤ W.heap.size)
  (hp : bits_PutVarint.f k n = some ys) (hl : xs.length + ys.length ≤ 1000000000) :
  Calls Tryd.prog 27 #[.int .i64 n, .pointer (some ⟨bo, 0, none⟩)] W fun e w' => (∃ u, e = .returned u) ∧ ∃ v', w'.heap[bo]? = some (.cells #[v'] 22 (0, 0)) ∧ Kd.R (Kd.int .u8) 5 w' base (fun _ => True) v' (xs ++ ys) ∧ Mod (fun k => k = bo ∨ some k = v.ownBlock) W w' := by
 have HR := Lib.hid hR
 have HBO := Lib.hid hbo
 have HP := Lib.hid hp
 obtain ⟨Av, cv, hv⟩ := Kd.R_slice hR
 subst hv
 clear hR hp
 have hc0 : W.drew.cell? ⟨bo, 0, none⟩ = some (.slice Av xs.length cv) := (blk_cell hbo 0).trans rfl
 have hf0 := blk_frozen hbo 0
 clear hbo
 go_enter Tryd.func27, Tryd.ntmps27
 go_upto_region 0 with fail
 refine start_ (n := 5) (S := fun w' => w'.cell? ⟨bo, 0, none⟩ = some (.slice Av xs.length cv)) (ds := [4]) #[false, false, false, false, false] (by kernel_rfl) rfl rfl (hc0) (fun hHeld => ?_)
 refine pure_ (i := 1) (N := some 4) (v := ?_) (a' := ?_) #[false, true, false, false, false] rfl rfl (by kernel_rfl) (fun _ _ _ h => h) (Or.inl ⟨by rfl, ?_⟩) ?_ ?_
 rotate_left
 ·intro w'
  go_simp
  with_reducible rfl
 rotate_left
 ·simp only [Act.put, List.setIfInBounds_toArray, List.set_cons_zero, List.set_cons_succ, i64_w, i32_w]
  rfl
 refine take_ (i := 0) (N := some 3) (v := ?_) (a' := ?_) #[true, true, false, false, false] rfl rfl (by kernel_rfl) (fun _ _ _ h => h) (Or.inl ⟨by rfl, ?_⟩) hHeld ?_ ?_
 rotate_left
 ·intro w' s0
  go_simp
  with_reducible rfl
 rotate_left
 ·simp only [Act.put, List.setIfInBounds_toArray, List.set_cons_zero, List.set_cons_succ, i64_w, i32_w]
  rfl
 refine one_ (i := 2) (N := some 5) #[true, true, true, false, false] rfl rfl (by kernel_rfl) (by decide) (fun K hK => ?_)
 refine goes_ Tryd.func28 (by kernel_rfl) rfl #[.int .i64 n] (by rfl) rfl rfl (by simp only [List.map_toArray, List.map_cons, List.map_nil]; rfl) ?_
 with_reducible refine (bits_PutVarint.calls k n ys W.drew HP.out).mono ?_
 rintro e w3 ⟨v0, rfl, hR3, hB3⟩
 refine ⟨_, rfl, ?_⟩
 obtain ⟨A3, c3, hv3⟩ := Kd.R_slice hR3
 subst hv3
 have hB3 : Below W.heap.size W w3 := (below_drew (Below.refl _ W)).trans hB3
 have b3 : w3.heap[bo]? = some (.cells #[.slice Av xs.length cv] 22 (0, 0)) := (hB3.block bo (blk_lt HBO.out)).trans HBO.out
 have hc3 : w3.cell? ⟨bo, 0, none⟩ = some (.slice Av xs.length cv) := (blk_cell b3 0).trans rfl
 have HR3 := Lib.hid hR3
 have HB3 := Lib.hid hB3
 have HBO3 := Lib.hid b3
 clear hR3 hB3 b3
 refine hK.out _ _ (hc3) (fun hHeld => ?_)
 clear hK K
 refine norm_ (a' := ?_) ?_ ?_
 rotate_left
 ·show Act.put _ (some 5) _ = _
  simp only [Act.put, List.setIfInBounds_toArray, List.set_cons_zero, List.set_cons_succ, i64_w, i32_w]
  rfl
 refine one_ (i := 3) (N := some 6) #[true, true, true, true, false] rfl rfl (by kernel_rfl) (by decide) (fun K hK => ?_)
 refine Kd.R_append_rows_step (Kd.int .u8) (w0 := W) base (by rfl) (.tmp 3) (.tmp 5) 22 5 (.int .u8 0) 1 rfl Tryd.underlying22 info5 rfl (by decide) (by decide) (.slice Av xs.length cv) xs ys _ _ _ (fun _ => True) (fun _ => False) rfl rfl ?aO ?aR (fun _ _ h => h) ?aP ?aF ?aB ?aS ?aL ?_
 case aO => exact Kd.R_below HR.out HB3.out
 case aR => exact (Kd.R_reads' HR3.out).2.2
 case aP => exact fun _ h => h.elim
 case aF => exact fun _ _ => trivial
 case aB => exact low_d HB3.out hbase
 case aS => exact Nat.le_trans hbase HB3.out.size
 case aL => omega
 intro v1 w4 hR4 _ hg4 hat4
 obtain ⟨A4, c4, hv4⟩ := Kd.R_slice hR4
 obtain ⟨n4, hn4⟩ : ∃ n4, n4 = (xs ++ ys).length := ⟨_, rfl⟩
 rw [← hn4] at hv4
 subst hv4
 clear hn4
 have b4 : w4.heap[bo]? = some (.cells #[.slice Av xs.length cv] 22 (0, 0)) := (hg4.block bo (blk_lt HBO3.out) (fun e => Kd.R_ne HR.out HBO.out (by decide) e)).trans HBO3.out
 have hc4 : w4.cell? ⟨bo, 0, none⟩ = some (.slice Av xs.length cv) := (blk_cell b4 0).trans rfl
 have hf4 := blk_frozen b4 0
 have HR4 := Lib.hid hR4
 have HG4 := Lib.hid hg4
 have HBO4 := Lib.hid b4
 clear hR4 hg4 hat4 b4
 refine hK.out _ _ (hc4) (fun hHeld => ?_)
 clear hK K
 refine norm_ (a' := ?_) ?_ ?_
 rotate_left
 ·show Act.put _ (some 6) _ = _
  simp only [Act.put, List.setIfInBounds_toArray, List.set_cons_zero, List.set_cons_succ, i64_w, i32_w]
  rfl
 refine last_ (i := 4) (N := none) #[true, true, true, true, true] rfl rfl (by kernel_rfl) (by decide) (fun K hK => ?_)
 refine skip_ (w1 := ?_) (by rfl) rfl ?_ ?_
 rotate_left
 ·go_simp
  rfl
 refine hK.out _ _ ?_
 clear hK K
 refine done_ (by kernel_rfl) ?_
 go_wp2
 go_end0
 exact ⟨⟨_, rfl⟩, _, blk_put HBO4.out 0 _ rfl, Kd.R_set HR4.out HBO4.out (by decide) 0 _, ((Mod.of_below HB3.out _).grown HG4.out (fun k e => .inl (.inr e.symm))).setCell (p := ⟨bo, 0, none⟩) (.inl (.inl rfl)) _⟩
end
section
open Go Go.RowKit Go.Proofs.YtdckhaejhfkkbaaDoor Go.Proofs.YtdckhaejhfkkbaaDoorW.PrintWords Go.Proofs.YtdckhaejhfkkbaaDoorW.PrintLast Go.Proofs.YtdckhaejhfkkbaaDoorW.PrintMore
set_option linter.unusedVariables false
set_option linter.unusedSimpArgs false
attribute [local go_sem ↓] Go.wp_at_zero Go.wp_at_succ
def be8 (v : Int) : List Int := (List.range 8).map fun i => v / 2 ^ (56 - 8 * i) % 256
theorem be8_take (v : Int) (i : Nat) (h : i < 8) : (be8 v).take (i + 1) = (be8 v).take i ++ [v / 2 ^ (56 - 8 * i) % 256] := by
 unfold be8
 rw [List.take_succ_eq_append_getElem (by simpa using h)]
 simp
def recPts (k : Nat) : List S45 → Int → Int → Int → List Int → Option (List Int)
 | [], _, _, _, out => some out
 | x :: l, r, t, s, out => (bits_PutVarint.f k (wrap64 (wrap64 x.f0 - wrap64 r))).bind fun a => (bits_PutVarint.f k (wrap64 (x.f1.f0 - t))).bind fun b => (bits_PutVarint.f k (wrap64 (IntKind.u64.wrap (x.f1.f2 - s)))).bind fun c =>
   if out.length + a.length + b.length + c.length ≤ 100000000 then recPts k l x.f0 x.f1.f0 x.f1.f2 (out ++ a ++ b ++ c ++ be8 x.f1.f1) else none
def recPut (k : Nat) (a0_0 : Int) (a0_1 : Int) (l0_2 : List S52) (l0_3 : List S45) : Option (List Int × Int) :=
 (record_Check.f k a0_0 a0_1 l0_2 l0_3).bind fun e => if e = 0 then
   (if a0_0 = 1 then (bits_PutUvarint.f k (IntKind.u64.wrap a0_1)).bind fun u => (labels_Put.f k l0_2).bind fun p => if u.length + p.1.length ≤ 100000000 then some (a0_0 % 256 :: (u ++ p.1), 0) else none
    else if l0_3.length ≤ 1000000 then (bits_PutUvarint.f k (l0_3.length : Int)).bind fun u => if u.length ≤ 1000 then (recPts k l0_3 0 0 0 (a0_0 % 256 :: u)).bind fun o => some (o, 0) else none else none)
  else some ([], e)
theorem recPts.mono : ∀ (l : List S45) r t s out k, LeO (recPts k l r t s out) (recPts (k + 1) l r t s out)
 | [], r, t, s, out, k => LeO.refl _
 | x :: l, r, t, s, out, k => by
  unfold recPts
  refine LeO.bind (bits_PutVarint.mono _ _) (fun a => LeO.bind (bits_PutVarint.mono _ _) (fun b => LeO.bind (bits_PutVarint.mono _ _) (fun c => ?_)))
  split
  ·exact recPts.mono l _ _ _ _ k
  ·exact LeO.refl _
theorem recPut.mono : ∀ a0 a1 a2 a3 k, LeO (recPut k a0 a1 a2 a3) (recPut (k + 1) a0 a1 a2 a3) := by
 intro a0 a1 a2 a3 k
 unfold recPut
 refine LeO.bind (record_Check.mono _ _ _ _ _) (fun e => ?_)
 split
 ·split
  ·refine LeO.bind (bits_PutUvarint.mono _ _) (fun u => LeO.bind (labels_Put.mono _ _) (fun p => LeO.refl _))
  ·split
   ·refine LeO.bind (bits_PutUvarint.mono _ _) (fun u => ?_)
    split
    ·exact LeO.bind (recPts.mono _ _ _ _ _ _) (fun o => LeO.refl _)
    ·exact LeO.refl _
   ·exact LeO.refl _
 ·exact LeO.refl _
theorem check_kind {k : Nat} {a0 a1 : Int} {l2 : List S52} {l3 : List S45} (h : record_Check.f k a0 a1 l2 l3 = some 0) (h1 : a0 ≠ 1) : a0 = 2 := by
 by_cases h2 : a0 = 2
 ·exact h2
 ·exfalso
  unfold record_Check.f at h
  simp only [if_neg h1, if_neg h2] at h
  cases h
theorem lit1_R (W : World) (base : Nat) (x : Int) (hb : base ≤ W.heap.size) : Kd.R (Kd.int .u8) 5 (W.alloc (.cells #[.int .u8 x] 5)) base (fun _ => True) (.slice (some ⟨W.heap.size, 0, none⟩) 1 1) [x] :=
 Kd.R_of_own (h1 := fun _ => rfl) (own_lit W base 5 .u8 [x] hb (by simp)) (fun _ _ => trivial)
structure PS (w wr : World) (bo bw : Nat) (v : Value) (xs : List Int) (r t p s : Int) : Prop where
 B : Below w.heap.size w wr
 O : wr.heap[bo]? = some (.cells #[v] 22 (0, 0))
 R : Kd.R (Kd.int .u8) 5 wr w.heap.size (fun _ => True) v xs
 W : wr.heap[bw]? = some (.cells #[.int .u32 r, .int .i64 t, .int .u64 p, .int .u64 s] 45 (0, 0))
 lo : w.heap.size ≤ bo
 lw : w.heap.size ≤ bw
section
variable {w wr w' : World} {bo bw bx : Nat} {v v1 : Value} {xs : List Int} {r t p s : Int}
theorem PS.below (h : PS w wr bo bw v xs r t p s) (hb : Below wr.heap.size wr w') : PS w w' bo bw v xs r t p s :=
 ⟨h.B.trans (low_d hb h.B.size), (hb.block bo (blk_lt h.O)).trans h.O, Kd.R_below h.R hb, (hb.block bw (blk_lt h.W)).trans h.W, h.lo, h.lw⟩
theorem PS.ne_bw (h : PS w wr bo bw v xs r t p s) : bw ≠ bo := fun e => by
 have h1 := h.W
 rw [e, h.O] at h1
 simp at h1
theorem PS.grow (h : PS w wr bo bw v xs r t p s) {w4 : World} {zs : List Int} (hR : Kd.R (Kd.int .u8) 5 w4 w.heap.size (fun _ => True) v1 zs) (hg : wr.grownBy w4 v.ownBlock) : PS w (w4.setCell ⟨bo, 0, none⟩ v1) bo bw v1 zs r t p s := by
 have hO4 : w4.heap[bo]? = some (.cells #[v] 22 (0, 0)) := (hg.block bo (blk_lt h.O) (fun e => Kd.R_ne h.R h.O (by decide) e)).trans h.O
 have hW4 : w4.heap[bw]? = some (.cells #[.int .u32 r, .int .i64 t, .int .u64 p, .int .u64 s] 45 (0, 0)) := (hg.block bw (blk_lt h.W) (fun e => Kd.R_ne h.R h.W (by decide) e)).trans h.W
 obtain ⟨inner, hown⟩ := Kd.R_own h.R
 exact ⟨(h.B.grown hg h.B.size (own_base hown)).setCell (p := ⟨bo, 0, none⟩) h.lo v1, blk_put hO4 0 _ rfl, Kd.R_set hR hO4 (by decide) 0 _, (Below.heap_setCell w4 ⟨bo, 0, none⟩ v1 bw h.ne_bw).trans hW4, h.lo, h.lw⟩
theorem PS.grow_blk (h : PS w wr bo bw v xs r t p s) {w4 : World} {g T : Nat} {cs : Array Value} (hg : wr.grownBy w4 v.ownBlock) (hb : wr.heap[g]? = some (.cells cs T (0, 0))) (h1 : 5 ≠ T) (h2 : 22 ≠ T) : (w4.setCell ⟨bo, 0, none⟩ v1).heap[g]? = some (.cells cs T (0, 0)) := by
 have hne : g ≠ bo := fun e => by
  have h3 := hb
  rw [e, h.O] at h3
  injection h3 with h3
  injection h3 with _ h3
  exact h2 h3
 exact (Below.heap_setCell w4 ⟨bo, 0, none⟩ v1 g hne).trans ((hg.block g (blk_lt hb) (fun e => Kd.R_ne h.R hb h1 e)).trans hb)
theorem PS.was (h : PS w wr bo bw v xs r t p s) (a b c d : Int) : PS w ((((wr.setCell ⟨bw, 0, none⟩ (.int .u32 a)).setCell ⟨bw, 1, none⟩ (.int .i64 b)).setCell ⟨bw, 2, none⟩ (.int .u64 c)).setCell ⟨bw, 3, none⟩ (.int .u64 d)) bo bw v xs a b c d := by
 have w0 : (wr.setCell ⟨bw, 0, none⟩ (.int .u32 a)).heap[bw]? = some (.cells #[.int .u32 a, .int .i64 t, .int .u64 p, .int .u64 s] 45 (0, 0)) := blk_put h.W 0 _ rfl
 have w1 : ((wr.setCell ⟨bw, 0, none⟩ (.int .u32 a)).setCell ⟨bw, 1, none⟩ (.int .i64 b)).heap[bw]? = some (.cells #[.int .u32 a, .int .i64 b, .int .u64 p, .int .u64 s] 45 (0, 0)) := blk_put w0 1 _ rfl
 have w2 : (((wr.setCell ⟨bw, 0, none⟩ (.int .u32 a)).setCell ⟨bw, 1, none⟩ (.int .i64 b)).setCell ⟨bw, 2, none⟩ (.int .u64 c)).heap[bw]? = some (.cells #[.int .u32 a, .int .i64 b, .int .u64 c, .int .u64 s] 45 (0, 0)) := blk_put w1 2 _ rfl
 have hne : bo ≠ bw := fun e => h.ne_bw e.symm
 refine ⟨(((h.B.setCell (p := ⟨bw, 0, none⟩) h.lw _).setCell (p := ⟨bw, 1, none⟩) h.lw _).setCell (p := ⟨bw, 2, none⟩) h.lw _).setCell (p := ⟨bw, 3, none⟩) h.lw _, ?_, Kd.R_set (Kd.R_set (Kd.R_set (Kd.R_set h.R h.W (by decide) 0 _) w0 (by decide) 1 _) w1 (by decide) 2 _) w2 (by decide) 3 _, blk_put w2 3 _ rfl, h.lo, h.lw⟩
 exact (Below.heap_setCell _ ⟨bw, 3, none⟩ _ bo hne).trans ((Below.heap_setCell _ ⟨bw, 2, none⟩ _ bo hne).trans ((Below.heap_setCell _ ⟨bw, 1, none⟩ _ bo hne).trans ((Below.heap_setCell _ ⟨bw, 0, none⟩ _ bo hne).trans h.O)))
end
theorem few_ps (w W : World) (bo bw bx : Nat) (v : Value) (xs ys : List Int) (r t p s : Int) (cx : Array Value) (n : Int) (k : Nat) (h : PS w W bo bw v xs r t p s) (hx : W.heap[bx]? = some (.cells cx 45 (0, 0))) (hp : bits_PutVarint.f k n = some ys) (hl : xs.length + ys.length ≤ 1000000000) :
  Calls Tryd.prog 27 #[.int .i64 n, .pointer (some ⟨bo, 0, none⟩)] W fun e w' => (∃ u, e = .returned u) ∧ ∃ v', PS w w' bo bw v' (xs ++ ys) r t p s ∧ w'.heap[bx]? = some (.cells cx 45 (0, 0)) := by
 refine (few_calls W w.heap.size bo v xs ys n k h.O h.R h.B.size hp hl).mono ?_
 rintro e w' ⟨hu, v', hb, hR, hM⟩
 have hne : ∀ g (cs : Array Value), W.heap[g]? = some (.cells cs 45 (0, 0)) → ¬ (g = bo ∨ some g = v.ownBlock) := fun g cs hg hh => by
  rcases hh with e | e
  ·have h3 := hg
   rw [e, h.O] at h3
   injection h3 with h3
   injection h3 with _ h3
   cases h3
  ·exact Kd.R_ne h.R hg (by decide) e
 obtain ⟨inner, hown⟩ := Kd.R_own h.R
 refine ⟨hu, v', ⟨h.B.trans (hM.below h.B.size (fun g hg => ?_)), hb, hR, hM.blk h.W (hne bw _ h.W), h.lo, h.lw⟩, hM.blk hx (hne bx _ hx)⟩
 rcases hg with rfl | e
 ·exact h.lo
 ·exact own_base hown g e.symm
theorem entry_at {W : World} {A : Option Addr} {xs : List S45} (h : Kd.C k45 W A xs.length xs) {i : Nat} (hi : i < xs.length) :
  ∃ ad, A = some ad ∧ W.cell? (ad.add (i * 4)) = some (.int .u32 (xs.getD i z45).f0) ∧ W.cell? ⟨(ad.add (i * 4)).block, (ad.add (i * 4)).off + 1, none⟩ = some (.int .i64 (xs.getD i z45).f1.f0) ∧ W.cell? ⟨(ad.add (i * 4)).block, (ad.add (i * 4)).off + 2, none⟩ = some (.int .u64 (xs.getD i z45).f1.f1) ∧ W.cell? ⟨(ad.add (i * 4)).block, (ad.add (i * 4)).off + 3, none⟩ = some (.int .u64 (xs.getD i z45).f1.f2) := by
 obtain ⟨ad, c, e, hl, hK, hcell⟩ := Kd.C_get h z45 (i : Int) (by omega) (by omega)
 rw [Int.toNat_natCast] at hK hcell
 obtain rfl := k45_open hK
 have hc : ∀ j u, ([.int .u32 (xs.getD i z45).f0, .int .i64 (xs.getD i z45).f1.f0, .int .u64 (xs.getD i z45).f1.f1, .int .u64 (xs.getD i z45).f1.f2] : List Value)[j]? = some u → W.cell? (ad.add (i * 4 + j)) = some u := hcell
 exact ⟨ad, e, hc 0 _ rfl, by rw [← add_field _ _ 1 (by omega)]; exact hc 1 _ rfl, by rw [← add_field _ _ 2 (by omega)]; exact hc 2 _ rfl, by rw [← add_field _ _ 3 (by omega)]; exact hc 3 _ rfl⟩
set_option maxRecDepth 20000 in
set_option maxHeartbeats 8000000 in
theorem recPut_calls (k : Nat) (a0_0 : Int) (a0_1 : Int) (A0_2 : Option Addr) (c0_2 : Nat) (l0_2 : List (S52)) (A0_3 : Option Addr) (c0_3 : Nat) (l0_3 : List (S45)) (r1 : List Int) (r2 : Int) (w : World) (hT : Aside0 (Tab w)) (hr0_2 : Kd.C k52 w A0_2 l0_2.length l0_2) (hc0_2 : l0_2.length ≤ c0_2) (hr0_3 : Kd.C k45 w A0_3 l0_3.length l0_3) (hc0_3 : l0_3.length ≤ c0_3) (h : recPut k a0_0 a0_1 l0_2 l0_3 = some (r1, r2)) :
  Calls Tryd.prog 13 #[.agg #[.int .i64 a0_0, .int .u32 a0_1, .slice A0_2 l0_2.length c0_2, .slice A0_3 l0_3.length c0_3]] w fun e w' => ∃ v0_ : Value, e = .returned (.tuple #[v0_, .int .i64 r2]) ∧ Kd.R (Kd.int .u8) 5 w' w.heap.size (fun _ => True) v0_ r1 ∧ Below w.heap.size w w' := by
 unfold recPut at h
 cases hchk : record_Check.f k a0_0 a0_1 l0_2 l0_3 with
 | none => rw [hchk] at h; cases h
 | some e0 =>
 rw [hchk, Option.bind_some] at h
 have HCHK := Lib.hid (fun (W : World) (hW : Below w.heap.size w W) => record_Check.calls k a0_0 a0_1 A0_2 c0_2 l0_2 A0_3 c0_3 l0_3 e0 W ⟨Tab_below hT.out hW⟩ (Kd.C_below hr0_2 hW) hc0_2 (Kd.C_below hr0_3 hW) hc0_3 hchk)
 have HTW := Lib.hid (fun (W : World) (hW : Below w.heap.size w W) => (Aside0.mk (Tab_below hT.out hW) : Aside0 (Tab W)))
 have H2 := Lib.hid (And.intro (fun (W : World) (hW : Below w.heap.size w W) => Kd.C_below hr0_2 hW) hc0_2)
 have H3 := Lib.hid (And.intro (fun (W : World) (hW : Below w.heap.size w W) => Kd.C_below hr0_3 hW) hc0_3)
 have HK := Lib.hid hchk
 have HH := Lib.hid h
 clear hT hr0_2 hr0_3 hchk h
 go_enter Tryd.func13, Tryd.ntmps13
 go_upto_region 1 with fail
 obtain ⟨b0, hb0⟩ : ∃ b0, b0 = w.heap.size := ⟨_, rfl⟩
 obtain ⟨W1, hW1⟩ : ∃ W1, W1 = w.alloc (.cells #[.int .i64 a0_0, .int .u32 a0_1, .slice A0_2 l0_2.length c0_2, .slice A0_3 l0_3.length c0_3] 29) := ⟨_, rfl⟩
 have HB1 : Hid (Below w.heap.size w W1) := Lib.hid (by rw [hW1]; exact below_alloc (Below.refl _ _) _)
 have h1b : W1.heap[b0]? = some (.cells #[.int .i64 a0_0, .int .u32 a0_1, .slice A0_2 l0_2.length c0_2, .slice A0_3 l0_3.length c0_3] 29 (0, 0)) := by rw [hW1, hb0]; exact heap_alloc_new w _
 have H1 := Lib.hid h1b
 have p0 : W1.cell? ⟨b0, 0, none⟩ = some (.int .i64 a0_0) := (blk_cell h1b 0).trans rfl
 have p1 : W1.cell? ⟨b0, 1, none⟩ = some (.int .u32 a0_1) := (blk_cell h1b 1).trans rfl
 have p2 : W1.cell? ⟨b0, 2, none⟩ = some (.slice A0_2 l0_2.length c0_2) := (blk_cell h1b 2).trans rfl
 have p3 : W1.cell? ⟨b0, 3, none⟩ = some (.slice A0_3 l0_3.length c0_3) := (blk_cell h1b 3).trans rfl
 rw [← hW1, ← hb0]
 clear hW1 hb0 h1b
 by_cases he : e0 = 0
 ·subst he
  have hh := HH.out
  rw [if_pos rfl] at hh
  go_upto_region 4 with (go_at_call 16; (with_reducible refine (HCHK.out W1 HB1.out).mono ?_); rintro e w2 ⟨rfl, hB2⟩; have h2b := (hB2.block b0 (blk_lt H1.out)).trans H1.out; have H2b := Lib.hid h2b; have HB2 := Lib.hid (HB1.out.trans (low_d hB2 HB1.out.size)); have p02 : w2.cell? ⟨b0, 0, none⟩ = some (.int .i64 a0_0) := (blk_cell h2b 0).trans rfl; clear hB2 h2b)
  clear p0 p1 p2 p3
  go_upto_region 5 with fail
  obtain ⟨kb, hkb⟩ : ∃ kb, kb = a0_0 % 256 := ⟨_, rfl⟩
  obtain ⟨bo, hbo⟩ : ∃ bo, bo = w2.heap.size + 1 := ⟨_, rfl⟩
  obtain ⟨W4, hW4⟩ : ∃ W4, W4 = (w2.alloc (.cells #[.int .u8 (a0_0 % 256)] 5)).alloc (.cells #[.slice (some ⟨w2.heap.size, 0, none⟩) 1 1] 22) := ⟨_, rfl⟩
  have hB24 : Below w2.heap.size w2 W4 := by rw [hW4]; exact below_alloc (below_alloc (Below.refl _ _) _) _
  have HB4 : Hid (Below w.heap.size w W4) := Lib.hid (HB2.out.trans (low_d hB24 HB2.out.size))
  have HO4 : Hid (W4.heap[bo]? = some (.cells #[.slice (some ⟨w2.heap.size, 0, none⟩) 1 1] 22 (0, 0))) := Lib.hid (by
   rw [hW4, hbo]
   have h := heap_alloc_new (w2.alloc (.cells #[.int .u8 (a0_0 % 256)] 5)) (.cells #[.slice (some ⟨w2.heap.size, 0, none⟩) 1 1] 22)
   rwa [World.size_alloc] at h)
  have HR4 : Hid (Kd.R (Kd.int .u8) 5 W4 w.heap.size (fun _ => True) (.slice (some ⟨w2.heap.size, 0, none⟩) 1 1) [kb]) := Lib.hid (by
   rw [hW4, hkb]
   exact Kd.R_below (lit1_R w2 w.heap.size _ HB2.out.size) (below_alloc (Below.refl _ _) _))
  have h4b : W4.heap[b0]? = some (.cells #[.int .i64 a0_0, .int .u32 a0_1, .slice A0_2 l0_2.length c0_2, .slice A0_3 l0_3.length c0_3] 29 (0, 0)) := (hB24.block b0 (blk_lt H2b.out)).trans H2b.out
  have H4b := Lib.hid h4b
  have HLO : Hid (w.heap.size ≤ bo) := Lib.hid (by rw [hbo]; have := HB2.out.size; omega)
  obtain ⟨Av, hAv⟩ : ∃ Av : Option Addr, Av = some ⟨w2.heap.size, 0, none⟩ := ⟨_, rfl⟩
  have hc0 : W4.drew.cell? ⟨bo, 0, none⟩ = some (.slice Av 1 1) := by rw [hAv]; exact (blk_cell HO4.out 0).trans rfl
  rw [← hAv] at HO4 HR4
  rw [← hW4, ← hbo]
  clear hW4 hbo hB24 p02 hAv
  have q0 : W4.cell? ⟨b0, 0, none⟩ = some (.int .i64 a0_0) := (blk_cell h4b 0).trans rfl
  by_cases hk1 : a0_0 = 1
  ·subst hk1
   rw [if_pos rfl] at hh
   cases hpu : bits_PutUvarint.f k (IntKind.u64.wrap a0_1) with
   | none => rw [hpu] at hh; cases hh
   | some u =>
   rw [hpu, Option.bind_some] at hh
   cases hpl : labels_Put.f k l0_2 with
   | none => rw [hpl] at hh; cases hh
   | some pp =>
   rw [hpl, Option.bind_some] at hh
   obtain ⟨pb, pe⟩ := pp
   by_cases hlen : u.length + pb.length ≤ 100000000
   ·rw [if_pos hlen, ← hkb] at hh
    obtain ⟨rfl, rfl⟩ : kb :: (u ++ pb) = r1 ∧ (0 : Int) = r2 := by
     have h5 := Option.some.inj hh
     exact ⟨congrArg Prod.fst h5, congrArg Prod.snd h5⟩
    have HPU := Lib.hid hpu
    have HPL := Lib.hid hpl
    clear hpu hpl hh hkb
    have hc1 : W4.drew.cell? ⟨b0, 1, none⟩ = some (.int .u32 a0_1) := (blk_cell h4b 1).trans rfl
    clear h4b
    go_upto_region 9 with fail
    refine start_ (n := 7) (S := fun w' => w'.cell? ⟨bo, 0, none⟩ = some (.slice Av 1 1) ∧ w'.cell? ⟨b0, 1, none⟩ = some (.int .u32 a0_1)) (ds := [6]) #[false, false, false, false, false, false, false] (by kernel_rfl) rfl rfl ⟨hc0, hc1⟩ (fun hHeld => ?_)
    refine pure_ (i := 1) (N := some 30) (v := ?_) (a' := ?_) #[false, true, false, false, false, false, false] rfl rfl (by kernel_rfl) (fun _ _ _ h => h) (Or.inl ⟨by rfl, ?_⟩) ?_ ?_
    rotate_left
    ·intro w'
     go_simp
     with_reducible rfl
    rotate_left
    ·simp only [Act.put, List.setIfInBounds_toArray, List.set_cons_zero, List.set_cons_succ, i64_w, i32_w]
     rfl
    refine take_ (i := 0) (N := some 29) (v := ?_) (a' := ?_) #[true, true, false, false, false, false, false] rfl rfl (by kernel_rfl) (fun _ _ _ h => h) (Or.inl ⟨by rfl, ?_⟩) hHeld ?_ ?_
    rotate_left
    ·rintro w' ⟨s0, s1⟩
     go_simp
     with_reducible rfl
    rotate_left
    ·simp only [Act.put, List.setIfInBounds_toArray, List.set_cons_zero, List.set_cons_succ, i64_w, i32_w]
     rfl
    refine take_ (i := 2) (N := some 31) (v := ?_) (a' := ?_) #[true, true, true, false, false, false, false] rfl rfl (by kernel_rfl) (fun _ _ _ h => h) (Or.inl ⟨by rfl, ?_⟩) hHeld ?_ ?_
    rotate_left
    ·rintro w' ⟨s0, s1⟩
     go_simp
     with_reducible rfl
    rotate_left
    ·simp only [Act.put, List.setIfInBounds_toArray, List.set_cons_zero, List.set_cons_succ, i64_w, i32_w]
     rfl
    refine pure_ (i := 3) (N := some 32) (v := ?_) (a' := ?_) #[true, true, true, true, false, false, false] rfl rfl (by kernel_rfl) (fun _ _ _ h => h) (Or.inl ⟨by rfl, ?_⟩) ?_ ?_
    rotate_left
    ·intro w'
     go_simp
     with_reducible rfl
    rotate_left
    ·simp only [Act.put, List.setIfInBounds_toArray, List.set_cons_zero, List.set_cons_succ, i64_w, i32_w]
     rfl
    refine one_ (i := 4) (N := some 33) #[true, true, true, true, true, false, false] rfl rfl (by kernel_rfl) (by decide) (fun K hK => ?_)
    refine goes_ Tryd.func29 (by kernel_rfl) rfl #[.int .u64 (IntKind.u64.wrap a0_1)] (by rfl) rfl rfl (by simp only [List.map_toArray, List.map_cons, List.map_nil]; rfl) ?_
    with_reducible refine (bits_PutUvarint.calls k (IntKind.u64.wrap a0_1) u W4.drew HPU.out).mono ?_
    rintro e w5 ⟨v0, rfl, hR5, hB5⟩
    refine ⟨_, rfl, ?_⟩
    obtain ⟨A5, c5, hv5⟩ := Kd.R_slice hR5
    subst hv5
    have hB5 : Below W4.heap.size W4 w5 := (below_drew (Below.refl _ W4)).trans hB5
    have hO5 := (hB5.block bo (blk_lt HO4.out)).trans HO4.out
    have h5b := (hB5.block b0 (blk_lt H4b.out)).trans H4b.out
    have hc5 : w5.cell? ⟨bo, 0, none⟩ = some (.slice Av 1 1) := (blk_cell hO5 0).trans rfl
    have hd5 : w5.cell? ⟨b0, 1, none⟩ = some (.int .u32 a0_1) := (blk_cell h5b 1).trans rfl
    have HR5 := Lib.hid hR5
    have HB5 := Lib.hid hB5
    have HO5 := Lib.hid hO5
    have H5b := Lib.hid h5b
    clear hR5 hB5 hO5 h5b
    refine hK.out _ _ ⟨hc5, hd5⟩ (fun hHeld => ?_)
    clear hK K
    refine norm_ (a' := ?_) ?_ ?_
    rotate_left
    ·show Act.put _ (some 33) _ = _
     simp only [Act.put, List.setIfInBounds_toArray, List.set_cons_zero, List.set_cons_succ, i64_w, i32_w]
     rfl
    refine one_ (i := 5) (N := some 34) #[true, true, true, true, true, true, false] rfl rfl (by kernel_rfl) (by decide) (fun K hK => ?_)
    refine Kd.R_append_rows_step (Kd.int .u8) (w0 := w) w.heap.size (by rfl) (.tmp 29) (.tmp 33) 22 5 (.int .u8 0) 1 rfl Tryd.underlying22 info5 rfl (by decide) (by decide) (.slice Av 1 1) [kb] u _ _ _ (fun _ => True) (fun _ => False) rfl rfl ?aO ?aR (fun _ _ h => h) (fun _ h => h.elim) ?aF ?aB ?aS ?aL ?_
    case aO => exact Kd.R_below HR4.out HB5.out
    case aR => exact (Kd.R_reads' HR5.out).2.2
    case aF => exact fun _ _ => trivial
    case aB => exact HB4.out.trans (low_d HB5.out HB4.out.size)
    case aS => exact Nat.le_trans HB4.out.size HB5.out.size
    case aL => simp only [List.length_singleton]; omega
    intro v6 w6 hR6 hB6 hg6 _
    obtain ⟨A6, c6, hv6⟩ := Kd.R_slice hR6
    obtain ⟨n6, hn6⟩ : ∃ n6, n6 = ([kb] ++ u).length := ⟨_, rfl⟩
    rw [← hn6] at hv6
    subst hv6
    clear hn6
    have hO6 := (hg6.block bo (blk_lt HO5.out) (fun e => Kd.R_ne (Kd.R_below HR4.out HB5.out) HO5.out (by decide) e)).trans HO5.out
    have h6b := (hg6.block b0 (blk_lt H5b.out) (fun e => Kd.R_ne (Kd.R_below HR4.out HB5.out) H5b.out (by decide) e)).trans H5b.out
    have hc6 : w6.cell? ⟨bo, 0, none⟩ = some (.slice Av 1 1) := (blk_cell hO6 0).trans rfl
    have hd6 : w6.cell? ⟨b0, 1, none⟩ = some (.int .u32 a0_1) := (blk_cell h6b 1).trans rfl
    have hf6 := blk_frozen hO6 0
    have HR6 := Lib.hid hR6
    have HB6 := Lib.hid hB6
    have HO6 := Lib.hid hO6
    have H6b := Lib.hid h6b
    clear hR6 hB6 hg6 hO6 h6b
    refine hK.out _ _ ⟨hc6, hd6⟩ (fun hHeld => ?_)
    clear hK K
    refine norm_ (a' := ?_) ?_ ?_
    rotate_left
    ·show Act.put _ (some 34) _ = _
     simp only [Act.put, List.setIfInBounds_toArray, List.set_cons_zero, List.set_cons_succ, i64_w, i32_w]
     rfl
    refine last_ (i := 6) (N := none) #[true, true, true, true, true, true, true] rfl rfl (by kernel_rfl) (by decide) (fun K hK => ?_)
    refine skip_ (w1 := ?_) (by rfl) rfl ?_ ?_
    rotate_left
    ·go_simp
     rfl
    refine hK.out _ _ ?_
    clear hK K
    refine done_ (by kernel_rfl) ?_
    obtain ⟨W7, hW7⟩ : ∃ W7, W7 = w6.setCell ⟨bo, 0, none⟩ (.slice A6 n6 c6) := ⟨_, rfl⟩
    have HO7 : Hid (W7.heap[bo]? = some (.cells #[.slice A6 n6 c6] 22 (0, 0))) := Lib.hid (by rw [hW7]; exact blk_put HO6.out 0 _ rfl)
    have HR7 : Hid (Kd.R (Kd.int .u8) 5 W7 w.heap.size (fun _ => True) (.slice A6 n6 c6) ([kb] ++ u)) := Lib.hid (by rw [hW7]; exact Kd.R_set HR6.out HO6.out (by decide) 0 _)
    have HB7 : Hid (Below w.heap.size w W7) := Lib.hid (by rw [hW7]; exact HB6.out.setCell (p := ⟨bo, 0, none⟩) HLO.out _)
    have h7b : W7.heap[b0]? = some (.cells #[.int .i64 1, .int .u32 a0_1, .slice A0_2 l0_2.length c0_2, .slice A0_3 l0_3.length c0_3] 29 (0, 0)) := by
     rw [hW7]
     exact (Below.heap_setCell w6 ⟨bo, 0, none⟩ _ b0 (fun e => by have h8 := H6b.out; rw [e, HO6.out] at h8; simp at h8)).trans H6b.out
    have H7b := Lib.hid h7b
    rw [← hW7]
    clear hW7
    have hlr : ([kb] ++ u).length = u.length + 1 := by rw [List.length_append, List.length_singleton]; omega
    have q2 : W7.cell? ⟨b0, 2, none⟩ = some (.slice A0_2 l0_2.length c0_2) := (blk_cell h7b 2).trans rfl
    go_upto_region 11 with (go_at_call 30; (with_reducible refine (labels_Put.calls k A0_2 c0_2 l0_2 pb pe W7 (HTW.out W7 HB7.out) (H2.out.1 W7 HB7.out) H2.out.2 HPL.out).mono ?_); rintro e w8 ⟨v8, rfl, hR8, hB8⟩; obtain ⟨A8, c8, hv8⟩ := Kd.R_slice hR8; subst hv8; have HO8 := Lib.hid ((hB8.block bo (blk_lt HO7.out)).trans HO7.out); have HRo8 := Lib.hid (Kd.R_below HR7.out hB8); have HR8 := Lib.hid hR8; have HB8 := Lib.hid (HB7.out.trans (low_d hB8 HB7.out.size)); have q8 : w8.cell? ⟨bo, 0, none⟩ = some (.slice A6 n6 c6) := (blk_cell HO8.out 0).trans rfl; clear hR8 hB8)
    go_wp2_with (at_builtin; refine Kd.R_append_rows (Kd.int .u8) (w0 := w) (W := w8) w.heap.size rfl (.tmp 41) (.tmp 42) 22 5 (.int .u8 0) 1 rfl Tryd.underlying22 info5 rfl (by decide) (by decide) _ ([kb] ++ u) pb A8 pb.length c8 (fun _ => True) (fun _ => False) rfl rfl HRo8.out (Kd.R_reads' HR8.out).2.2 (fun _ _ h => h) (fun _ h => h.elim) (fun _ _ => trivial) HB8.out HB8.out.size (by rw [hlr]; omega) ?_; intro v9 w9 hR9 hB9 _ _; have HR9 := Lib.hid hR9; have HB9 := Lib.hid hB9; clear hR9 hB9)
    go_ret2
    exact ⟨_, rfl, (by have := HR9.out; rwa [List.append_assoc] at this), HB9.out⟩
   ·rw [if_neg hlen] at hh
    cases hh
  ·obtain rfl : a0_0 = 2 := check_kind HK.out hk1
   rw [if_neg hk1] at hh
   by_cases hpl : l0_3.length ≤ 1000000
   ·rw [if_pos hpl] at hh
    cases hpu : bits_PutUvarint.f k (l0_3.length : Int) with
    | none => rw [hpu] at hh; cases hh
    | some u =>
    rw [hpu, Option.bind_some] at hh
    by_cases hlen : u.length ≤ 1000
    ·rw [if_pos hlen, ← hkb] at hh
     cases hpt : recPts k l0_3 0 0 0 (kb :: u) with
     | none => rw [hpt] at hh; cases hh
     | some o =>
     rw [hpt, Option.bind_some] at hh
     obtain ⟨rfl, rfl⟩ : o = r1 ∧ (0 : Int) = r2 := by
      have h5 := Option.some.inj hh
      exact ⟨congrArg Prod.fst h5, congrArg Prod.snd h5⟩
     have HPU := Lib.hid hpu
     have HPT : Hid (recPts k l0_3 0 0 0 ([kb] ++ u) = some o) := Lib.hid hpt
     clear hpu hpt hh hkb hk1
     have hw3 : IntKind.u64.wrap (l0_3.length : Int) = (l0_3.length : Int) := by rw [IntKind.wrap_u64]; omega
     have hc1 : W4.drew.cell? ⟨b0, 3, none⟩ = some (.slice A0_3 l0_3.length c0_3) := (blk_cell h4b 3).trans rfl
     clear h4b
     go_upto_region 12 with fail
     refine start_ (n := 8) (S := fun w' => w'.cell? ⟨bo, 0, none⟩ = some (.slice Av 1 1) ∧ w'.cell? ⟨b0, 3, none⟩ = some (.slice A0_3 l0_3.length c0_3)) (ds := [7]) #[false, false, false, false, false, false, false, false] (by kernel_rfl) rfl rfl ⟨hc0, hc1⟩ (fun hHeld => ?_)
     refine pure_ (i := 1) (N := some 45) (v := ?_) (a' := ?_) #[false, true, false, false, false, false, false, false] rfl rfl (by kernel_rfl) (fun _ _ _ h => h) (Or.inl ⟨by rfl, ?_⟩) ?_ ?_
     rotate_left
     ·intro w'
      go_simp
      with_reducible rfl
     rotate_left
     ·simp only [Act.put, List.setIfInBounds_toArray, List.set_cons_zero, List.set_cons_succ, i64_w, i32_w]
      rfl
     refine take_ (i := 0) (N := some 44) (v := ?_) (a' := ?_) #[true, true, false, false, false, false, false, false] rfl rfl (by kernel_rfl) (fun _ _ _ h => h) (Or.inl ⟨by rfl, ?_⟩) hHeld ?_ ?_
     rotate_left
     ·rintro w' ⟨s0, s1⟩
      go_simp
      with_reducible rfl
     rotate_left
     ·simp only [Act.put, List.setIfInBounds_toArray, List.set_cons_zero, List.set_cons_succ, i64_w, i32_w]
      rfl
     refine take_ (i := 2) (N := some 46) (v := ?_) (a' := ?_) #[true, true, true, false, false, false, false, false] rfl rfl (by kernel_rfl) (fun _ _ _ h => h) (Or.inl ⟨by rfl, ?_⟩) hHeld ?_ ?_
     rotate_left
     ·rintro w' ⟨s0, s1⟩
      go_simp
      with_reducible rfl
     rotate_left
     ·simp only [Act.put, List.setIfInBounds_toArray, List.set_cons_zero, List.set_cons_succ, i64_w, i32_w]
      rfl
     refine pure_ (i := 3) (N := some 47) (v := ?_) (a' := ?_) #[true, true, true, true, false, false, false, false] rfl rfl (by kernel_rfl) (fun _ _ _ h => h) (Or.inl ⟨by rfl, ?_⟩) ?_ ?_
     rotate_left
     ·intro w'
      go_simp
      with_reducible rfl
     rotate_left
     ·simp only [Act.put, List.setIfInBounds_toArray, List.set_cons_zero, List.set_cons_succ, i64_w, i32_w]
      rfl
     refine pure_ (i := 4) (N := some 48) (v := ?_) (a' := ?_) #[true, true, true, true, true, false, false, false] rfl rfl (by kernel_rfl) (fun _ _ _ h => h) (Or.inl ⟨by rfl, ?_⟩) ?_ ?_
     rotate_left
     ·intro w'
      go_simp
      with_reducible rfl
     rotate_left
     ·simp only [Act.put, List.setIfInBounds_toArray, List.set_cons_zero, List.set_cons_succ, i64_w, i32_w]
      rfl
     refine one_ (i := 5) (N := some 49) #[true, true, true, true, true, true, false, false] rfl rfl (by kernel_rfl) (by decide) (fun K hK => ?_)
     refine goes_ Tryd.func29 (by kernel_rfl) rfl #[.int .u64 (l0_3.length : Int)] (by rfl) rfl rfl (by simp only [List.map_toArray, List.map_cons, List.map_nil]; rfl) ?_
     with_reducible refine (bits_PutUvarint.calls k (l0_3.length : Int) u W4.drew HPU.out).mono ?_
     rintro e w5 ⟨v0, rfl, hR5, hB5⟩
     refine ⟨_, rfl, ?_⟩
     obtain ⟨A5, c5, hv5⟩ := Kd.R_slice hR5
     subst hv5
     have hB5 : Below W4.heap.size W4 w5 := (below_drew (Below.refl _ W4)).trans hB5
     have hO5 := (hB5.block bo (blk_lt HO4.out)).trans HO4.out
     have h5b := (hB5.block b0 (blk_lt H4b.out)).trans H4b.out
     have hc5 : w5.cell? ⟨bo, 0, none⟩ = some (.slice Av 1 1) := (blk_cell hO5 0).trans rfl
     have hd5 : w5.cell? ⟨b0, 3, none⟩ = some (.slice A0_3 l0_3.length c0_3) := (blk_cell h5b 3).trans rfl
     have HR5 := Lib.hid hR5
     have HB5 := Lib.hid hB5
     have HO5 := Lib.hid hO5
     have H5b := Lib.hid h5b
     clear hR5 hB5 hO5 h5b
     refine hK.out _ _ ⟨hc5, hd5⟩ (fun hHeld => ?_)
     clear hK K
     refine norm_ (a' := ?_) ?_ ?_
     rotate_left
     ·show Act.put _ (some 49) _ = _
      simp only [Act.put, List.setIfInBounds_toArray, List.set_cons_zero, List.set_cons_succ, i64_w, i32_w]
      rfl
     refine one_ (i := 6) (N := some 50) #[true, true, true, true, true, true, true, false] rfl rfl (by kernel_rfl) (by decide) (fun K hK => ?_)
     refine Kd.R_append_rows_step (Kd.int .u8) (w0 := w) w.heap.size (by rfl) (.tmp 44) (.tmp 49) 22 5 (.int .u8 0) 1 rfl Tryd.underlying22 info5 rfl (by decide) (by decide) (.slice Av 1 1) [kb] u _ _ _ (fun _ => True) (fun _ => False) rfl rfl ?aO ?aR (fun _ _ h => h) (fun _ h => h.elim) ?aF ?aB ?aS ?aL ?_
     case aO => exact Kd.R_below HR4.out HB5.out
     case aR => exact (Kd.R_reads' HR5.out).2.2
     case aF => exact fun _ _ => trivial
     case aB => exact HB4.out.trans (low_d HB5.out HB4.out.size)
     case aS => exact Nat.le_trans HB4.out.size HB5.out.size
     case aL => simp only [List.length_singleton]; omega
     intro v6 w6 hR6 hB6 hg6 _
     obtain ⟨A6, c6, hv6⟩ := Kd.R_slice hR6
     obtain ⟨n6, hn6⟩ : ∃ n6, n6 = ([kb] ++ u).length := ⟨_, rfl⟩
     rw [← hn6] at hv6
     subst hv6
     clear hn6
     have hO6 := (hg6.block bo (blk_lt HO5.out) (fun e => Kd.R_ne (Kd.R_below HR4.out HB5.out) HO5.out (by decide) e)).trans HO5.out
     have h6b := (hg6.block b0 (blk_lt H5b.out) (fun e => Kd.R_ne (Kd.R_below HR4.out HB5.out) H5b.out (by decide) e)).trans H5b.out
     have hc6 : w6.cell? ⟨bo, 0, none⟩ = some (.slice Av 1 1) := (blk_cell hO6 0).trans rfl
     have hd6 : w6.cell? ⟨b0, 3, none⟩ = some (.slice A0_3 l0_3.length c0_3) := (blk_cell h6b 3).trans rfl
     have hf6 := blk_frozen hO6 0
     have HR6 := Lib.hid hR6
     have HB6 := Lib.hid hB6
     have HO6 := Lib.hid hO6
     have H6b := Lib.hid h6b
     clear hR6 hB6 hg6 hO6 h6b
     refine hK.out _ _ ⟨hc6, hd6⟩ (fun hHeld => ?_)
     clear hK K
     refine norm_ (a' := ?_) ?_ ?_
     rotate_left
     ·show Act.put _ (some 50) _ = _
      simp only [Act.put, List.setIfInBounds_toArray, List.set_cons_zero, List.set_cons_succ, i64_w, i32_w]
      rfl
     refine last_ (i := 7) (N := none) #[true, true, true, true, true, true, true, true] rfl rfl (by kernel_rfl) (by decide) (fun K hK => ?_)
     refine skip_ (w1 := ?_) (by rfl) rfl ?_ ?_
     rotate_left
     ·go_simp
      rfl
     refine hK.out _ _ ?_
     clear hK K
     refine done_ (by kernel_rfl) ?_
     obtain ⟨W7, hW7⟩ : ∃ W7, W7 = w6.setCell ⟨bo, 0, none⟩ (.slice A6 n6 c6) := ⟨_, rfl⟩
     have HO7 : Hid (W7.heap[bo]? = some (.cells #[.slice A6 n6 c6] 22 (0, 0))) := Lib.hid (by rw [hW7]; exact blk_put HO6.out 0 _ rfl)
     have HR7 : Hid (Kd.R (Kd.int .u8) 5 W7 w.heap.size (fun _ => True) (.slice A6 n6 c6) ([kb] ++ u)) := Lib.hid (by rw [hW7]; exact Kd.R_set HR6.out HO6.out (by decide) 0 _)
     have HB7 : Hid (Below w.heap.size w W7) := Lib.hid (by rw [hW7]; exact HB6.out.setCell (p := ⟨bo, 0, none⟩) HLO.out _)
     have h7b : W7.heap[b0]? = some (.cells #[.int .i64 2, .int .u32 a0_1, .slice A0_2 l0_2.length c0_2, .slice A0_3 l0_3.length c0_3] 29 (0, 0)) := by
      rw [hW7]
      exact (Below.heap_setCell w6 ⟨bo, 0, none⟩ _ b0 (fun e => by have h8 := H6b.out; rw [e, HO6.out] at h8; simp at h8)).trans H6b.out
     have H7b := Lib.hid h7b
     rw [← hW7]
     clear hW7
     have hlr : ([kb] ++ u).length = u.length + 1 := by rw [List.length_append, List.length_singleton]; omega
     have q3 : W7.cell? ⟨b0, 3, none⟩ = some (.slice A0_3 l0_3.length c0_3) := (blk_cell h7b 3).trans rfl
     go_upto_region 14 with fail
     obtain ⟨bw, hbw⟩ : ∃ bw, bw = W7.heap.size := ⟨_, rfl⟩
     obtain ⟨W8, hW8⟩ : ∃ W8, W8 = W7.alloc (.cells #[.int .u32 0, .int .i64 0, .int .u64 0, .int .u64 0] 45) := ⟨_, rfl⟩
     have HPS : Hid (PS w W8 bo bw (.slice A6 n6 c6) ([kb] ++ u) 0 0 0 0) := Lib.hid (by
      have h0 : Below W7.heap.size W7 W8 := by rw [hW8]; exact below_alloc (Below.refl _ _) _
      refine ⟨HB7.out.trans (low_d h0 HB7.out.size), (h0.block bo (blk_lt HO7.out)).trans HO7.out, Kd.R_below HR7.out h0, ?_, HLO.out, ?_⟩
      ·rw [hW8, hbw]
       exact heap_alloc_new W7 _
      ·rw [hbw]
       exact HB7.out.size)
     have q38 : W8.cell? ⟨b0, 3, none⟩ = some (.slice A0_3 l0_3.length c0_3) := by
      have h0 : Below W7.heap.size W7 W8 := by rw [hW8]; exact below_alloc (Below.refl _ _) _
      exact (blk_cell ((h0.block b0 (blk_lt H7b.out)).trans H7b.out) 3).trans rfl
     rw [← hW8, ← hbw]
     clear hW8 hbw q3 h7b
     have HLEN := Lib.hid hlen
     clear hlen hlr
     go_wp2
     go_loopg [55] l0_3.length (fun kq s55 wr => ∃ (i : Nat) (v : Value) (xs : List Int) (r t p s : Int), i + kq = l0_3.length ∧ s55 = .int .i64 (i : Int) ∧ xs.length ≤ 200000000 ∧ Hid (PS w wr bo bw v xs r t p s) ∧ Hid (recPts k (l0_3.drop i) r t s xs = some o))
     case atStart => exact ⟨0, _, [kb] ++ u, 0, 0, 0, 0, by omega, rfl, by rw [List.length_append, List.length_singleton]; have := HLEN.out; omega, HPS.out, HPT.out⟩
     case round =>
      obtain ⟨i, v, xs, r, t, p, s, hi, rfl, hxl, HS, HP⟩ := hrel
      obtain ⟨Ax, cx, hv⟩ := Kd.R_slice HS.out.R
      subst hv
      by_cases hlt : i < l0_3.length
      ·obtain ⟨ad, hA, hcx⟩ := entry_at (H3.out.1 wr HS.out.B) hlt
       subst hA
       have hdr : l0_3.drop i = l0_3.getD i z45 :: l0_3.drop (i + 1) := by
        rw [List.drop_eq_getElem_cons hlt, List.getD_eq_getElem?_getD, List.getElem?_eq_getElem hlt]
        rfl
       have hpp := HP.out
       rw [hdr] at hpp
       obtain ⟨x, hx⟩ : ∃ x, x = l0_3.getD i z45 := ⟨_, rfl⟩
       rw [← hx] at hcx hpp
       obtain ⟨xr, ⟨xt, xv, xs2⟩⟩ := x
       obtain ⟨hx0, hx1, hx2, hx3⟩ := hcx
       simp only at hx0 hx1 hx2 hx3
       unfold recPts at hpp
       simp only at hpp
       cases hpa : bits_PutVarint.f k (wrap64 (wrap64 xr - wrap64 r)) with
       | none => rw [hpa] at hpp; cases hpp
       | some ya =>
       rw [hpa, Option.bind_some] at hpp
       cases hpb : bits_PutVarint.f k (wrap64 (xt - t)) with
       | none => rw [hpb] at hpp; cases hpp
       | some yb =>
       rw [hpb, Option.bind_some] at hpp
       cases hpc : bits_PutVarint.f k (wrap64 (IntKind.u64.wrap (xs2 - s))) with
       | none => rw [hpc] at hpp; cases hpp
       | some yc =>
       rw [hpc, Option.bind_some] at hpp
       by_cases hle : xs.length + ya.length + yb.length + yc.length ≤ 100000000
       ·rw [if_pos hle] at hpp
        have HPA := Lib.hid hpa
        have HPB := Lib.hid hpb
        have HPC := Lib.hid hpc
        have HPP := Lib.hid hpp
        clear hx hdr hpa hpb hpc hpp HP
        go_upto_region 17 with fail
        obtain ⟨bx, hbx⟩ : ∃ bx, bx = wr.heap.size := ⟨_, rfl⟩
        obtain ⟨W9, hW9⟩ : ∃ W9, W9 = wr.alloc (.cells #[.int .u32 xr, .int .i64 xt, .int .u64 xv, .int .u64 xs2] 45) := ⟨_, rfl⟩
        have HS9 : Hid (PS w W9 bo bw (.slice Ax xs.length cx) xs r t p s) := Lib.hid (HS.out.below (by rw [hW9]; exact below_alloc (Below.refl _ _) _))
        have h9x : W9.heap[bx]? = some (.cells #[.int .u32 xr, .int .i64 xt, .int .u64 xv, .int .u64 xs2] 45 (0, 0)) := by rw [hW9, hbx]; exact heap_alloc_new wr _
        have H9x := Lib.hid h9x
        have HLX : Hid (w.heap.size ≤ bx) := Lib.hid (by rw [hbx]; exact HS.out.B.size)
        rw [← hW9, ← hbx]
        clear hW9 hbx hx0 hx1 hx2 hx3 HS
        have x0 : W9.cell? ⟨bx, 0, none⟩ = some (.int .u32 xr) := (blk_cell h9x 0).trans rfl
        have y0 : W9.cell? ⟨bw, 0, none⟩ = some (.int .u32 r) := (blk_cell HS9.out.W 0).trans rfl
        clear h9x
        go_upto_region 20 with (first
         | (go_at_call 27; go_loud (refine (few_ps w W9 bo bw bx _ xs ya r t p s _ _ k HS9.out H9x.out HPA.out (by omega)).mono ?_); rintro e wA ⟨⟨ua, rfl⟩, vA, hSA, hXA⟩; have HSA := Lib.hid hSA; have HXA := Lib.hid hXA; have x1 : wA.cell? ⟨bx, 1, none⟩ = some (.int .i64 xt) := (blk_cell hXA 1).trans rfl; have y1 : wA.cell? ⟨bw, 1, none⟩ = some (.int .i64 t) := (blk_cell hSA.W 1).trans rfl; clear hSA hXA)
         | (go_at_call 27; go_loud (refine (few_ps w wA bo bw bx _ (xs ++ ya) yb r t p s _ _ k HSA.out HXA.out HPB.out (by rw [List.length_append]; omega)).mono ?_); rintro e wB ⟨⟨ub, rfl⟩, vB, hSB, hXB⟩; have HSB := Lib.hid hSB; have HXB := Lib.hid hXB; have x2 : wB.cell? ⟨bx, 3, none⟩ = some (.int .u64 xs2) := (blk_cell hXB 3).trans rfl; have y2 : wB.cell? ⟨bw, 3, none⟩ = some (.int .u64 s) := (blk_cell hSB.W 3).trans rfl; clear hSB hXB)
         | (go_at_call 27; go_loud (refine (few_ps w wB bo bw bx _ (xs ++ ya ++ yb) yc r t p s _ _ k HSB.out HXB.out HPC.out (by rw [List.length_append, List.length_append]; omega)).mono ?_); rintro e wC ⟨⟨uc, rfl⟩, vC, hSC, hXC⟩; have HSC := Lib.hid hSC; have HXC := Lib.hid hXC; clear hSC hXC))
        obtain ⟨zs, hzs⟩ : ∃ zs, zs = xs ++ ya ++ yb ++ yc := ⟨_, rfl⟩
        have hzl : zs.length ≤ 100000000 := by rw [hzs, List.length_append, List.length_append, List.length_append]; exact hle
        have HSZ : Hid (PS w wC bo bw vC zs r t p s) := Lib.hid (by rw [hzs]; exact HSC.out)
        have HZZ : Hid (recPts k (l0_3.drop (i + 1)) xr xt xs2 (zs ++ be8 xv) = some o) := Lib.hid (by rw [hzs]; exact HPP.out)
        clear hzs hle x0 y0 x1 y1 x2 y2 hxl
        have hgi : i + (gk - 1) + 1 = l0_3.length := by omega
        generalize gk = GK at *
        go_wp2_with fail
        go_loopg [87] 8 (fun kq s87 wr => ∃ (j : Nat) (v2 : Value) (us : List Int), j + kq = 8 ∧ s87 = .int .i64 (j : Int) ∧ us.length ≤ 100000000 + j ∧ Hid (us = zs ++ (be8 xv).take j) ∧ Hid (PS w wr bo bw v2 us r t p s) ∧ Hid (wr.heap[bx]? = some (.cells #[.int .u32 xr, .int .i64 xt, .int .u64 xv, .int .u64 xs2] 45 (0, 0))))
        case atStart => exact ⟨0, vC, zs, by omega, rfl, by omega, by rw [List.take_zero, List.append_nil]; rfl, HSZ.out, HXC.out⟩
        case round =>
         obtain ⟨j, v2, us, hj, rfl, hul, hU, HS2, HX2⟩ := hrel
         obtain ⟨A2, c2, hv2⟩ := Kd.R_slice HS2.out.R
         subst hv2
         by_cases hlt8 : j < 8
         ·have qo : wr.cell? ⟨bo, 0, none⟩ = some (.slice A2 us.length c2) := (blk_cell HS2.out.O 0).trans rfl
          have qv : wr.cell? ⟨bx, 2, none⟩ = some (.int .u64 xv) := (blk_cell HX2.out 2).trans rfl
          have e3 : IntKind.i64.wrap (8 * (j : Int)) = 8 * (j : Int) := IntWalk.i64_in _ (by omega)
          obtain ⟨pp, hpp⟩ : ∃ pp : Int, 56 - 8 * (j : Int) = pp := ⟨_, rfl⟩
          obtain ⟨pn, hpn⟩ : ∃ pn : Nat, pn = 56 - 8 * j := ⟨_, rfl⟩
          have e4 : IntKind.i64.wrap pp = pp := IntWalk.i64_in _ (by omega)
          have e5 : IntKind.u64.wrap pp = pp := IntWalk.u64_in _ (by omega)
          have e6 : pp.toNat = pn := by omega
          have e7 : (0 : Int) ≤ pp := by omega
          have e8 : pn < 64 := by omega
          obtain ⟨y, hy⟩ : ∃ y : Int, xv / 2 ^ pn % 256 = y := ⟨_, rfl⟩
          have HY : Hid ((be8 xv).take (j + 1) = (be8 xv).take j ++ [y]) := Lib.hid (by rw [be8_take xv j hlt8, ← hy, hpn])
          clear hpn
          go_wp2_with (at_builtin; refine Kd.R_append (Kd.int .u8) (w0 := w) (W := wr) w.heap.size rfl (.tmp 90) (.tmp 100) 22 5 (.int .u8 0) 1 rfl Tryd.underlying22 info5 rfl (by decide) (by decide) _ us y [.int .u8 y] (fun _ => True) (fun _ => False) rfl rfl rfl (fun _ h => h.elim) (fun _ _ => trivial) HS2.out.R HS2.out.B HS2.out.B.size (by omega) ?_; intro v3 w3 hR3 hB3 hg3 _; obtain ⟨A3, c3, hv3⟩ := Kd.R_slice hR3; obtain ⟨n3, hn3⟩ : ∃ n3, n3 = (us ++ [y]).length := ⟨_, rfl⟩; rw [← hn3] at hv3; subst hv3; clear hn3; have hO3 := (hg3.block bo (blk_lt HS2.out.O) (fun e => Kd.R_ne HS2.out.R HS2.out.O (by decide) e)).trans HS2.out.O; have hc3 : w3.cell? ⟨bo, 0, none⟩ = some (.slice A2 us.length c2) := (blk_cell hO3 0).trans rfl; have hf3 := blk_frozen hO3 0; have HPN : Hid (PS w (w3.setCell ⟨bo, 0, none⟩ (.slice A3 n3 c3)) bo bw (.slice A3 n3 c3) (us ++ [y]) r t p s) := Lib.hid (HS2.out.grow hR3 hg3); have HXN : Hid ((w3.setCell ⟨bo, 0, none⟩ (.slice A3 n3 c3)).heap[bx]? = some (.cells #[.int .u32 xr, .int .i64 xt, .int .u64 xv, .int .u64 xs2] 45 (0, 0))) := Lib.hid (HS2.out.grow_blk hg3 HX2.out (by decide) (by decide)); clear hR3 hB3 hg3 hO3)
          go_roundg (gk - 1)
          case measure => omega
          case rel => exact ⟨j + 1, .slice A3 n3 c3, us ++ [y], by omega, by go_num, by rw [List.length_append, List.length_singleton]; omega, by rw [HY.out, ← List.append_assoc, ← hU.out]; rfl, HPN.out, HXN.out⟩
         ·have h8 : j = 8 := by omega
          subst h8
          have HUS : Hid (us = zs ++ be8 xv) := Lib.hid (by
           have := hU.out
           rwa [List.take_of_length_le (by simp [be8])] at this)
          have z0 : wr.cell? ⟨bx, 0, none⟩ = some (.int .u32 xr) := (blk_cell HX2.out 0).trans rfl
          have z1 : wr.cell? ⟨bx, 1, none⟩ = some (.int .i64 xt) := (blk_cell HX2.out 1).trans rfl
          have z2 : wr.cell? ⟨bx, 2, none⟩ = some (.int .u64 xv) := (blk_cell HX2.out 2).trans rfl
          have z3 : wr.cell? ⟨bx, 3, none⟩ = some (.int .u64 xs2) := (blk_cell HX2.out 3).trans rfl
          have f0 := blk_frozen HS2.out.W 0
          have f1 := blk_frozen HS2.out.W 1
          have f2 := blk_frozen HS2.out.W 2
          have f3 := blk_frozen HS2.out.W 3
          have g0 : wr.cell? ⟨bw, 0, none⟩ = some (.int .u32 r) := (blk_cell HS2.out.W 0).trans rfl
          have g1 : wr.cell? ⟨bw, 1, none⟩ = some (.int .i64 t) := (blk_cell HS2.out.W 1).trans rfl
          have g2 : wr.cell? ⟨bw, 2, none⟩ = some (.int .u64 p) := (blk_cell HS2.out.W 2).trans rfl
          have g3 : wr.cell? ⟨bw, 3, none⟩ = some (.int .u64 s) := (blk_cell HS2.out.W 3).trans rfl
          go_wp2_with fail
          go_roundg (GK - 1)
          case measure => omega
          case rel => exact ⟨i + 1, .slice A2 us.length c2, us, xr, xt, xv, xs2, by omega, by go_num, by omega, HS2.out.was xr xt xv xs2, by rw [HUS.out]; exact HZZ.out⟩
       ·rw [if_neg hle] at hpp
        cases hpp
      ·have hxo : xs = o := by
        have h6 := HP.out
        rw [List.drop_of_length_le (by omega)] at h6
        exact Option.some.inj h6
       subst hxo
       have qo : wr.cell? ⟨bo, 0, none⟩ = some (.slice Ax xs.length cx) := (blk_cell HS.out.O 0).trans rfl
       go_wp2_with fail
       go_ret2
       exact ⟨_, rfl, HS.out.R, HS.out.B⟩
    ·rw [if_neg hlen] at hh
     cases hh
   ·rw [if_neg hpl] at hh
    cases hh
 ·have hh := HH.out
  rw [if_neg he] at hh
  obtain ⟨rfl, rfl⟩ : ([] : List Int) = r1 ∧ e0 = r2 := by
   have h5 := Option.some.inj hh
   exact ⟨congrArg Prod.fst h5, congrArg Prod.snd h5⟩
  clear hh
  go_wp2_with (go_at_call 16; (with_reducible refine (HCHK.out W1 HB1.out).mono ?_); rintro e w2 ⟨rfl, hB2⟩; have HB2 := Lib.hid (HB1.out.trans (low_d hB2 HB1.out.size)); clear hB2)
  go_ret2
  exact ⟨.slice none 0 0, rfl, Kd.R_nil _ _ _ _ _, HB2.out⟩
end
def record_Put.f (k : Nat) (a0_0 : Int) (a0_1 : Int) (l0_2 : List (S52)) (l0_3 : List (S45)) : Option (List Int × Int) := recPut k a0_0 a0_1 l0_2 l0_3
theorem record_Put.mono : ∀ a0 a1 a2 a3 k, LeO (record_Put.f k a0 a1 a2 a3) (record_Put.f (k + 1) a0 a1 a2 a3) := fun a0 a1 a2 a3 k => recPut.mono a0 a1 a2 a3 k
theorem record_Put.calls (k : Nat) (a0_0 : Int) (a0_1 : Int) (A0_2 : Option Addr) (c0_2 : Nat) (l0_2 : List (S52)) (A0_3 : Option Addr) (c0_3 : Nat) (l0_3 : List (S45)) (r1 : List Int) (r2 : Int) (w : World) (hT : Aside0 (Tab w)) (hr0_2 : Kd.C k52 w A0_2 l0_2.length l0_2) (hc0_2 : l0_2.length ≤ c0_2) (hr0_3 : Kd.C k45 w A0_3 l0_3.length l0_3) (hc0_3 : l0_3.length ≤ c0_3) (h : record_Put.f k a0_0 a0_1 l0_2 l0_3 = some (r1, r2)) :
  Calls Tryd.prog 13 #[.agg #[.int .i64 a0_0, .int .u32 a0_1, .slice A0_2 l0_2.length c0_2, .slice A0_3 l0_3.length c0_3]] w fun e w' => ∃ v0_ : Value, e = .returned (.tuple #[v0_, .int .i64 r2]) ∧ Kd.R (Kd.int .u8) 5 w' w.heap.size (fun _ => True) v0_ r1 ∧ Below w.heap.size w w' :=
 recPut_calls k a0_0 a0_1 A0_2 c0_2 l0_2 A0_3 c0_3 l0_3 r1 r2 w hT hr0_2 hc0_2 hr0_3 hc0_3 h
def manometerref01_Equal.l0 : Nat → List Int → List Int → Int → Int → Option (Bool)
 | 0, _, _, _, _ => none
 | k + 1, x0, x1, x12, x13 => if x13 < x12 then (if 0 ≤ x13 then (if x13 < (x0.length : Int) then (if x13 < (x1.length : Int) then (if (rd x0 x13) = (rd x1 x13) then (manometerref01_Equal.l0 k x0 x1 x12 (wrap64 (x13 + 1))) else (some false)) else (none)) else (none)) else (none)) else (some true)
def manometerref01_Equal.f (k : Nat) (l0 : List Int) (l1 : List Int) : Option (Bool) := if (l0.length : Int) = (l1.length : Int) then (manometerref01_Equal.l0 k l0 l1 (l0.length : Int) 0) else (some false)
theorem manometerref01_Equal.mono_l : ∀ k, (∀ y0 y1 y2 y3, LeO (manometerref01_Equal.l0 k y0 y1 y2 y3) (manometerref01_Equal.l0 (k + 1) y0 y1 y2 y3))
 | 0 => fun _ _ _ _ r h => by simp [manometerref01_Equal.l0] at h
 | k + 1 => by
  have ih0 := manometerref01_Equal.mono_l k
  ·intro y0 y1 y2 y3
   unfold manometerref01_Equal.l0
   repeat' first
   | (with_reducible exact ih0 _ _ _ _)
   | (with_reducible exact LeO.refl _)
   | (with_reducible exact LeO.none _)
   | (with_reducible refine LeO.ite ?_ ?_)
   | (with_reducible refine LeO.bind ?_ (fun _ => ?_))
   | exact ih0 _ _ _ _
   | exact LeO.none _
   | refine LeO.ite ?_ ?_
   | refine LeO.bind ?_ (fun _ => ?_)
theorem manometerref01_Equal.mono : ∀ a0 a1 k, LeO (manometerref01_Equal.f k a0 a1) (manometerref01_Equal.f (k + 1) a0 a1) := by
 intro a0 a1 k
 have ih0 := manometerref01_Equal.mono_l k
 unfold manometerref01_Equal.f
 repeat' first
   | (with_reducible exact ih0 _ _ _ _)
   | (with_reducible exact LeO.refl _)
   | (with_reducible exact LeO.none _)
   | (with_reducible refine LeO.ite ?_ ?_)
   | (with_reducible refine LeO.bind ?_ (fun _ => ?_))
   | exact ih0 _ _ _ _
   | exact LeO.none _
   | refine LeO.ite ?_ ?_
   | refine LeO.bind ?_ (fun _ => ?_)
set_option maxHeartbeats 8000000 in
set_option maxRecDepth 100000 in
theorem manometerref01_Equal.calls (k : Nat) (A0 : Option Addr) (c0 : Nat) (l0 : List Int) (A1 : Option Addr) (c1 : Nat) (l1 : List Int) (r : Bool) (w : World) (hr0 : Kd.C (Kd.int .u8) w A0 l0.length l0) (hc0 : l0.length ≤ c0) (hr1 : Kd.C (Kd.int .u8) w A1 l1.length l1) (hc1 : l1.length ≤ c1) (h : manometerref01_Equal.f k l0 l1 = some r) :
  Calls Tryd.prog 15 #[.slice A0 l0.length c0, .slice A1 l1.length c1] w fun e w' => e = .returned (.bool r) ∧ Drawn0 w w' := by
 have HR0 := Aside0.mk hr0
 have HC0 := Aside0.mk hc0
 clear hr0 hc0
 have HR1 := Aside0.mk hr1
 have HC1 := Aside0.mk hc1
 clear hr1 hc1
 have H : (if (l0.length : Int) = (l1.length : Int) then (manometerref01_Equal.l0 k l0 l1 (l0.length : Int) 0) else (some false)) = some r := h
 clear h
 by_cases c3 : (l0.length : Int) = (l1.length : Int)
 ·rw [if_pos c3] at H
  have c3b0 : ((l0.length : Int) == (l1.length : Int)) = true := beq_iff_eq.mpr c3
  have c3b1 : ((l0.length : Int) != (l1.length : Int)) = false := bne_eq_false_iff_eq.mpr c3
  have c3b2 : (l0.length == l1.length) = true := by first | simpa using c3 | (simp at c3 ⊢; omega)
  clear c3
  have H' := Aside0.mk H
  clear H
  go_enter Tryd.func15, Tryd.ntmps15
  go_wp2
  repeat (go_quiet (fail); try go_wp2)
  go_loopg [13] k (fun kq v13 w' => ∃ (x13_1 : Int), v13 = .int .i64 x13_1 ∧ Aside0 (manometerref01_Equal.l0 kq l0 l1 (l0.length : Int) x13_1 = some r) ∧ Aside0 (kq ≤ k) ∧ Drawn0 w w')
  case atStart => exact ⟨(0), y15_, H', ⟨Nat.le_refl _⟩, y30_⟩
  case round =>
   clear H'
   try clear c1
   try clear p2
   try clear c3
   try clear c3b0
   try clear c3b1
   try clear c3b2
   obtain ⟨x13_1, rfl, HA, HK1, ⟨m1, rfl⟩⟩ := hrel
   cases gk with
   | zero => exact absurd HA.out (by simp [manometerref01_Equal.l0])
   | succ k1 =>
    have H := HA.out
    clear HA
    simp only [manometerref01_Equal.l0] at H
    by_cases c4 : x13_1 < (l0.length : Int)
    ·rw [if_pos c4] at H
     have c4b0 : decide (x13_1 < (l0.length : Int)) = true := decide_eq_true c4
     clear c4
     by_cases c5 : 0 ≤ x13_1
     ·rw [if_pos c5] at H
      have c5b0 : decide (0 ≤ x13_1) = true := decide_eq_true c5
      clear c5
      by_cases c6 : x13_1 < (l0.length : Int)
      ·rw [if_pos c6] at H
       have c6b0 : decide (x13_1 < (l0.length : Int)) = true := decide_eq_true c6
       clear c6
       by_cases c7 : x13_1 < (l1.length : Int)
       ·rw [if_pos c7] at H
        have c7b0 : decide (x13_1 < (l1.length : Int)) = true := decide_eq_true c7
        clear c7
        by_cases c8 : (rd l0 x13_1) = (rd l1 x13_1)
        ·rw [if_pos c8] at H
         have c8b0 : ((rd l0 x13_1) == (rd l1 x13_1)) = true := beq_iff_eq.mpr c8
         have c8b1 : ((rd l0 x13_1) != (rd l1 x13_1)) = false := bne_eq_false_iff_eq.mpr c8
         clear c8
         have H' := Aside0.mk H
         clear H
         have p207 : 0 ≤ (x13_1 : Int) := of_decide_eq_true y7_
         have q207 : x13_1 < (l0.length : Int) := of_decide_eq_true y7_
         obtain ⟨ad207, e207, hx207_0⟩ := Kd.at_int HR0.out x13_1 p207 q207
         cases e207
         replace p207 := eq_true p207
         replace q207 := eq_true q207
         have p208 : 0 ≤ (x13_1 : Int) := of_decide_eq_true y7_
         have q208 : x13_1 < (l1.length : Int) := of_decide_eq_true y7_
         obtain ⟨ad208, e208, hx208_0⟩ := Kd.at_int HR1.out x13_1 p208 q208
         cases e208
         replace p208 := eq_true p208
         replace q208 := eq_true q208
         go_wp2
         repeat (go_quiet (fail); try go_wp2)
         go_roundg k1
         case measure => have := HK1.out; omega
         case rel => exact ⟨(wrap64 (x13_1 + 1)), y15_, H', ⟨by have := HK1.out; omega⟩, y30_⟩
        ·rw [if_neg c8] at H
         have c8b0 : ((rd l0 x13_1) == (rd l1 x13_1)) = false := beq_eq_false_iff_ne.mpr c8
         have c8b1 : ((rd l0 x13_1) != (rd l1 x13_1)) = true := bne_iff_ne.mpr c8
         obtain rfl := Option.some.inj H
         have p207 : 0 ≤ (x13_1 : Int) := of_decide_eq_true y7_
         have q207 : x13_1 < (l0.length : Int) := of_decide_eq_true y7_
         obtain ⟨ad207, e207, hx207_0⟩ := Kd.at_int HR0.out x13_1 p207 q207
         cases e207
         replace p207 := eq_true p207
         replace q207 := eq_true q207
         have p208 : 0 ≤ (x13_1 : Int) := of_decide_eq_true y7_
         have q208 : x13_1 < (l1.length : Int) := of_decide_eq_true y7_
         obtain ⟨ad208, e208, hx208_0⟩ := Kd.at_int HR1.out x13_1 p208 q208
         cases e208
         replace p208 := eq_true p208
         replace q208 := eq_true q208
         go_wp2
         repeat (go_quiet (fail); try go_wp2)
         go_ret
         exact ⟨y42_, y30_⟩
       ·rw [if_neg c7] at H
        exact absurd H (by simp)
      ·rw [if_neg c6] at H
       exact absurd H (by simp)
     ·rw [if_neg c5] at H
      exact absurd H (by simp)
    ·rw [if_neg c4] at H
     have c4b0 : decide (x13_1 < (l0.length : Int)) = false := decide_eq_false c4
     clear c4
     obtain rfl := Option.some.inj H
     go_wp2
     repeat (go_quiet (fail); try go_wp2)
     go_ret
     exact ⟨y42_, y30_⟩
 ·rw [if_neg c3] at H
  have c3b0 : ((l0.length : Int) == (l1.length : Int)) = false := beq_eq_false_iff_ne.mpr c3
  have c3b1 : ((l0.length : Int) != (l1.length : Int)) = true := bne_iff_ne.mpr c3
  have c3b2 : (l0.length == l1.length) = false := by first | simpa using c3 | (simp at c3 ⊢; omega)
  obtain rfl := Option.some.inj H
  go_enter Tryd.func15, Tryd.ntmps15
  go_wp2
  repeat (go_quiet (fail); try go_wp2)
  go_ret
  exact ⟨y42_, y30_⟩
end Go.Proofs.YtdckhaejhfkkbaaDoor.PRT
