import Derived.Test.YtkkomfomjpcbfaaDoorCTokenOneTO1
import Derived.Test.YtkkomfomjpcbfaaDoorCTokenOneTT
import Derived.Lib.ConvBytes
import Derived.Lib.SmallJoins
import Derived.Test.YtkkomfomjpcbfaaDoorCTokenOnePTSx2
import Derived.Test.YtkkomfomjpcbfaaDoorCTokenOnePTSx8
namespace Go.Proofs.YtkkomfomjpcbfaaDoor.Bq
end Go.Proofs.YtkkomfomjpcbfaaDoor.Bq
namespace Go.Proofs.YtkkomfomjpcbfaaDoor.Pu
open Go Go.RowKit Go.Lib Go.Proofs.YtkkomfomjpcbfaaDoor Go.Proofs.YtkkomfomjpcbfaaDoor.PTS Go.Proofs.YtkkomfomjpcbfaaDoorW.PrintWords Go.Proofs.YtkkomfomjpcbfaaDoorW.PrintLast Go.Proofs.YtkkomfomjpcbfaaDoorW.PrintMore Bq
set_option linter.unusedVariables false
set_option linter.unusedSimpArgs false
attribute [local go_sem ↓] Go.wp_at_zero Go.wp_at_succ
theorem Ev.some {α : Type} {g : Nat → Option α} {r : α} (h : Ev g r) : ∃ k, g k = some r := by
  obtain ⟨K, hK⟩ := h
  exact ⟨K, hK K (Nat.le_refl _)⟩
theorem C_of_cells {w : World} {b : Nat} {xs : List Int} (hm : xs.length ≤ 9223372036854775807) (h : ∀ j, j < xs.length → w.cell? ⟨b, j, none⟩ = some (.int .u8 (xs.getD j 0))) : (Kd.int .u8).C w (some ⟨b, 0, none⟩) xs.length xs := by
  refine Kd.C_of_reads (enc := Value.int .u8) (d := 0) (h1 := fun _ => rfl) ⟨rfl, hm, fun _ => ⟨_, rfl, fun j hj => ?_⟩⟩
  have ea : Addr.add ⟨b, 0, none⟩ j = ⟨b, j, none⟩ := by simp [Addr.add]; omega
  rw [ea]
  exact h j hj
theorem bw_cell (W : World) (s : ByteArray) (j : Nat) (hj : j < s.size) : (Lib.bytesWorld W 5 s).cell? ⟨W.heap.size, j, none⟩ = some (.int .u8 ((bytesOf s).getD j 0)) := by
  rw [Lib.bytesWorld_cell W 5 s j hj]
  unfold bytesOf
  rw [List.getD_eq_getElem?_getD, List.getD_eq_getElem?_getD, List.getElem?_map, List.getElem?_eq_getElem (by rw [data_length]; exact hj)]
  rfl
theorem bw_size (W : World) (s : ByteArray) (j : Nat) (hj : j < s.size) : j < (Lib.bytesCells W 5 s).size := by
  unfold Lib.bytesCells
  rw [Array.size_append, Array.size_map]
  have : s.data.size = s.size := rfl
  omega
theorem bw_frozen (W : World) (s : ByteArray) (j : Nat) (hj : j < s.size) : (Lib.bytesWorld W 5 s).frozen? ⟨W.heap.size, j, none⟩ = false := by
  have h := Lib.bytesWorld_at_new W 5 s
  have hs := bw_size W s j hj
  unfold World.frozen?
  rw [h]
  simp only [Bool.and_eq_false_iff, decide_eq_false_iff_not]
  left
  omega
theorem bw_below (W : World) (s : ByteArray) : Below W.heap.size W (Lib.bytesWorld W 5 s) :=
  ⟨rfl, rfl, rfl, by rw [Lib.bytesWorld_size]; omega, fun k hk => Lib.bytesWorld_at_old W 5 s k hk⟩
theorem bw_set (W : World) (s : ByteArray) (i : Nat) (hi : i < s.size) (y : Int) (j : Nat) (hj : j < s.size) :
    ((Lib.bytesWorld W 5 s).setCell ⟨W.heap.size, i, none⟩ (.int .u8 y)).cell? ⟨W.heap.size, j, none⟩ = some (.int .u8 (((bytesOf s).set i y).getD j 0)) := by
  have hb := Lib.bytesWorld_at_new W 5 s
  have hl := bytesOf_length s
  have hz := bw_size W s j hj
  rw [cell_of_row _ _ _ _ _ _ (Go.Joins.block_setCell hb (.int .u8 y)), Array.getElem?_setIfInBounds]
  by_cases e : i = j
  · subst e
    rw [List.getD_eq_getElem?_getD, List.getElem?_set_self (by omega)]
    simp [hz]
  · rw [List.getD_eq_getElem?_getD, List.getElem?_set_ne e, ← List.getD_eq_getElem?_getD, if_neg e, ← cell_of_row _ _ _ _ _ _ hb]
    exact bw_cell W s j hj
theorem bw_setBelow (W : World) (s : ByteArray) (i : Nat) (y : Int) : Below W.heap.size W ((Lib.bytesWorld W 5 s).setCell ⟨W.heap.size, i, none⟩ (.int .u8 y)) := Below.setCell (bw_below W s) (Nat.le_refl _) _
theorem mint_c {w : World} (hT : Tab w) (kid : Int) (sec tn : ByteArray) (key ex sc id : Int) (hx : -9223372036854775808 ≤ ex ∧ ex ≤ 9223372036854775807) (hi : 0 ≤ id ∧ id < 18446744073709551616) :
    Calls Tryd.prog 10 #[.agg #[.int .i64 kid, .string sec], .agg #[.string tn, .int .i64 key, .int .i64 ex, .int .u8 sc, .int .u64 id]] w fun e w' => e = .returned (.tuple #[.string (mintB kid sec tn key ex sc id).1, .int .i64 (mintB kid sec tn key ex sc id).2]) ∧ Below w.heap.size w w' := by
  obtain ⟨k, hk⟩ := Ev.some (Mint_ev kid sec tn key ex sc id hx hi)
  exact token_Mint.calls k _ _ _ _ _ _ _ _ _ w ⟨hT⟩ hk
theorem sign_c {w : World} (hT : Tab w) (s : ByteArray) (hs : s.size ≤ 100000) (kid : Int) (sec : ByteArray) :
    Calls Tryd.prog 20 #[.string s, .agg #[.int .i64 kid, .string sec]] w fun e w' => e = .returned (.bool (signedB s kid sec)) ∧ Below w.heap.size w w' := by
  obtain ⟨k, hk⟩ := Ev.some (Signed_ev s kid sec hs).1
  exact token_Signed.calls k _ _ _ _ w ⟨hT⟩ hk
theorem verify_c {w : World} (hT : Tab w) (s : ByteArray) (hs : s.size ≤ 100000) (A : Option Addr) (c : Nat) (l : List Own) (hl : l.length ≤ 1000000) (hc : l.length ≤ c) (hC : Kd.C k43 w A l.length l) (now need e : Int) (hv : verB s l now need = badE e) :
    Calls Tryd.prog 23 #[.string s, .slice A l.length c, .int .i64 now, .int .u8 need] w fun x w' => x = .returned (.tuple #[.agg #[.string (⟨#[]⟩ : ByteArray), .int .i64 0, .int .i64 0, .int .u8 0, .int .u64 0], .int .i64 e]) ∧ Below w.heap.size w w' := by
  obtain ⟨k, hk⟩ := Ev.some (Verify_ev s hs l hl now need)
  rw [hv] at hk
  exact token_Verify.calls k s A c l now need _ _ _ _ _ _ w ⟨hT⟩ hC hc hk
theorem outR_cases {s : ByteArray} {r1 : ByteArray} {r2 r3 r4 r5 r6 : Int} (h : outR (readB s) = (r1, r2, r3, r4, r5, r6)) : (readB s = none ∧ r6 = 8) ∨ (readB s = some (r1, r2, r3, r4, r5) ∧ r6 = 0) := by
  cases hr : readB s with
  | none => rw [hr] at h; left; exact ⟨rfl, ((tokBad_inj (congrArg some h)).2.2.2.2.2).symm⟩
  | some c =>
    rw [hr] at h
    obtain ⟨c1, c2, c3, c4, c5⟩ := c
    simp only [outR, Prod.mk.injEq] at h
    obtain ⟨rfl, rfl, rfl, rfl, rfl, rfl⟩ := h
    exact .inr ⟨rfl, rfl⟩
theorem conv_x {P : Program} {ops : Array Oper} {Q : Exit → Act → World → Prop} {o : Oper} {rest : List Oper} {a : Act} {W : World} (hgd : o.guard = none) (src dst e : TypeId) (x : Operand) (ho : o.op = .convert src dst x) (s : ByteArray) (hx : a.eval x = .string s)
    (hs : P.underlying src = some .string) (ht : P.underlying dst = some (.slice e)) (he : P.underlying e = some (.int .u8))
    (h : wpList P ops Q rest (a.put o.dst (.slice (some ⟨W.heap.size, 0, none⟩) s.size (grownCap W s.size 0 e))) (Lib.bytesWorld W e s)) : wpList P ops Q (o :: rest) a W :=
  Kd.event_run hgd (by simp [execOp, ho, hx, Lib.run_convert_string_bytes W src dst e s hs ht he]) h
theorem conv_y {P : Program} {ops : Array Oper} {Q : Exit → Act → World → Prop} {o : Oper} {rest : List Oper} {a : Act} {W : World} (hgd : o.guard = none) (src dst e : TypeId) (x : Operand) (ho : o.op = .convert src dst x) {A : Option Addr} {n c : Nat} {xs : List Int} (hx : a.eval x = .slice A n c)
    (hs : P.underlying src = some (.slice e)) (he : P.underlying e = some (.int .u8)) (hd : P.underlying dst = some .string) (hC : (Kd.int .u8).C W A n xs)
    (h : wpList P ops Q rest (a.put o.dst (.string (strOfNums xs))) W) : wpList P ops Q (o :: rest) a W :=
  Kd.event_run hgd (by simp [execOp, ho, hx, Kd.C_string (c := c) hs he hd hC]) h
theorem xor_v (x y : Int) : Go.bits .xor .u8 x y = ((BitVec.ofInt 8 x ^^^ BitVec.ofInt 8 y).toNat : Int) := wrap8 _
theorem xor_in (x y : Int) : 0 ≤ Go.bits .xor .u8 x y ∧ Go.bits .xor .u8 x y < 256 := by
  rw [xor_v]
  have := (BitVec.ofInt 8 x ^^^ BitVec.ofInt 8 y).isLt
  omega
theorem xor_ne (x y : Int) (hx : 0 ≤ x ∧ x < 256) (hy : 0 ≤ y ∧ y < 256) (h0 : y ≠ 0) : Go.bits .xor .u8 x y ≠ x := by
  intro h
  rw [xor_v] at h
  have hX : ((BitVec.ofInt 8 x).toNat : Int) = x := by rw [BitVec.toNat_ofInt]; omega
  have hY : ((BitVec.ofInt 8 y).toNat : Int) = y := by rw [BitVec.toNat_ofInt]; omega
  have e : BitVec.ofInt 8 x ^^^ BitVec.ofInt 8 y = BitVec.ofInt 8 x := BitVec.eq_of_toNat_eq (by omega)
  have e2 : BitVec.ofInt 8 y = 0#8 := by
    have e3 := congrArg (fun z => BitVec.ofInt 8 x ^^^ z) e
    simp only [← BitVec.xor_assoc, BitVec.xor_self, BitVec.zero_xor] at e3
    exact e3
  rw [e2] at hY
  simp at hY
  exact h0 hY.symm
set_option maxRecDepth 20000 in
set_option maxHeartbeats 16000000 in
theorem tokenOne_calls (w : World) (a0_0 : Int) (a0_1 a1_0 : ByteArray) (a1_1 a1_2 a1_3 a1_4 a2 a3 : Int) (a4 : ByteArray) (hT : Tab w) (hx : -9223372036854775808 ≤ a1_2 ∧ a1_2 ≤ 9223372036854775807) (hi : 0 ≤ a1_4 ∧ a1_4 < 18446744073709551616) (h2 : -9223372036854775808 ≤ a2 ∧ a2 ≤ 9223372036854775807) (h3 : 0 ≤ a3 ∧ a3 < 256) :
    Calls Tryd.prog 7 #[.agg #[.int .i64 a0_0, .string a0_1], .agg #[.string a1_0, .int .i64 a1_1, .int .i64 a1_2, .int .u8 a1_3, .int .u64 a1_4], .int .i64 a2, .int .u8 a3, .string a4] w fun e w' => e = .returned (.bool true) ∧ Below w.heap.size w w' := by
  have hu23 := Tryd.underlying23
  have hu26 := Tryd.underlying26
  have hu43 := Tryd.underlying43
  have HL : Hid (∀ W, Below w.heap.size w W → Calls Tryd.prog 9 #[] W fun e w' => e = .returned (.bool true) ∧ Below W.heap.size W w') := Lib.hid (fun W hW => manometerlaw17_live.calls 60 true W ⟨Tab_below hT hW⟩ live_60)
  go_enter Tryd.func7, Tryd.ntmps7
  go_upto_region 1 with fail
  obtain ⟨W1, hW1⟩ : ∃ W1, W1 = ((w.alloc (.cells #[.int .i64 a0_0, .string a0_1] 23)).alloc (.cells #[.string a1_0, .int .i64 a1_1, .int .i64 a1_2, .int .u8 a1_3, .int .u64 a1_4] 26)) := ⟨_, rfl⟩
  have m1 : MSt w W1 w.heap.size (w.heap.size + 1) a0_0 a0_1 a1_0 a1_1 a1_2 a1_3 a1_4 := by
    rw [hW1]
    refine ⟨((Below.refl _ w).alloc (Nat.le_refl _) _).alloc (by simp) _, blk_alloc (blk_new w _) _, ?_⟩
    have h := blk_new (w.alloc (.cells #[.int .i64 a0_0, .string a0_1] 23)) (.cells #[.string a1_0, .int .i64 a1_1, .int .i64 a1_2, .int .u8 a1_3, .int .u64 a1_4] 26)
    rw [World.size_alloc] at h
    exact h
  change Code.wp _ _ _ _ ((w.alloc (.cells #[.int .i64 a0_0, .string a0_1] 23)).alloc (.cells #[.string a1_0, .int .i64 a1_1, .int .i64 a1_2, .int .u8 a1_3, .int .u64 a1_4] 26))
  rw [← hW1]
  clear hW1
  obtain ⟨g2, hg2⟩ : ∃ g, g = w.heap.size + 1 := ⟨_, rfl⟩
  try simp only [World.size_alloc]
  obtain ⟨g1, hg1⟩ : ∃ g, g = w.heap.size := ⟨_, rfl⟩
  rw [← hg2, ← hg1] at m1
  rw [← hg2, ← hg1]
  clear hg1 hg2
  have M1 := Lib.hid m1
  have HL1 := Lib.hid (HL.out W1 m1.B)
  clear m1
  by_cases z1 : (300 : Int) < (a0_1.size : Int)
  · go_wp2_with (first | (go_at_call 9; (with_reducible refine HL1.out.mono ?_); rintro e w2 ⟨rfl, hb⟩; have M2 := Lib.hid (M1.out.below hb); have HL2 := Lib.hid (HL.out w2 M2.out.B); clear hb; have w2k0 : w2.cell? ⟨g1, 0, none⟩ = some (.int .i64 a0_0) := (blk_cell M2.out.K 0).trans rfl; have w2k1 : w2.cell? ⟨g1, 1, none⟩ = some (.string a0_1) := (blk_cell M2.out.K 1).trans rfl; have w2c0 : w2.cell? ⟨g2, 0, none⟩ = some (.string a1_0) := (blk_cell M2.out.C 0).trans rfl; have w2c1 : w2.cell? ⟨g2, 1, none⟩ = some (.int .i64 a1_1) := (blk_cell M2.out.C 1).trans rfl; have w2c2 : w2.cell? ⟨g2, 2, none⟩ = some (.int .i64 a1_2) := (blk_cell M2.out.C 2).trans rfl; have w2c3 : w2.cell? ⟨g2, 3, none⟩ = some (.int .u8 a1_3) := (blk_cell M2.out.C 3).trans rfl; have w2c4 : w2.cell? ⟨g2, 4, none⟩ = some (.int .u64 a1_4) := (blk_cell M2.out.C 4).trans rfl) | (go_at_call 9; (with_reducible refine HL2.out.mono ?_); rintro e w3 ⟨rfl, hb⟩; have M3 := Lib.hid (M2.out.below hb); clear hb))
    go_ret
    exact ⟨rfl, M3.out.B⟩
  by_cases z2 : (300 : Int) < (a1_0.size : Int)
  · go_wp2_with (first | (go_at_call 9; (with_reducible refine HL1.out.mono ?_); rintro e w2 ⟨rfl, hb⟩; have M2 := Lib.hid (M1.out.below hb); have HL2 := Lib.hid (HL.out w2 M2.out.B); clear hb; have w2k0 : w2.cell? ⟨g1, 0, none⟩ = some (.int .i64 a0_0) := (blk_cell M2.out.K 0).trans rfl; have w2k1 : w2.cell? ⟨g1, 1, none⟩ = some (.string a0_1) := (blk_cell M2.out.K 1).trans rfl; have w2c0 : w2.cell? ⟨g2, 0, none⟩ = some (.string a1_0) := (blk_cell M2.out.C 0).trans rfl; have w2c1 : w2.cell? ⟨g2, 1, none⟩ = some (.int .i64 a1_1) := (blk_cell M2.out.C 1).trans rfl; have w2c2 : w2.cell? ⟨g2, 2, none⟩ = some (.int .i64 a1_2) := (blk_cell M2.out.C 2).trans rfl; have w2c3 : w2.cell? ⟨g2, 3, none⟩ = some (.int .u8 a1_3) := (blk_cell M2.out.C 3).trans rfl; have w2c4 : w2.cell? ⟨g2, 4, none⟩ = some (.int .u64 a1_4) := (blk_cell M2.out.C 4).trans rfl) | (go_at_call 9; (with_reducible refine HL2.out.mono ?_); rintro e w3 ⟨rfl, hb⟩; have M3 := Lib.hid (M2.out.below hb); clear hb))
    go_ret
    exact ⟨rfl, M3.out.B⟩
  by_cases z3 : (1000 : Int) < (a4.size : Int)
  · go_wp2_with (first | (go_at_call 9; (with_reducible refine HL1.out.mono ?_); rintro e w2 ⟨rfl, hb⟩; have M2 := Lib.hid (M1.out.below hb); have HL2 := Lib.hid (HL.out w2 M2.out.B); clear hb; have w2k0 : w2.cell? ⟨g1, 0, none⟩ = some (.int .i64 a0_0) := (blk_cell M2.out.K 0).trans rfl; have w2k1 : w2.cell? ⟨g1, 1, none⟩ = some (.string a0_1) := (blk_cell M2.out.K 1).trans rfl; have w2c0 : w2.cell? ⟨g2, 0, none⟩ = some (.string a1_0) := (blk_cell M2.out.C 0).trans rfl; have w2c1 : w2.cell? ⟨g2, 1, none⟩ = some (.int .i64 a1_1) := (blk_cell M2.out.C 1).trans rfl; have w2c2 : w2.cell? ⟨g2, 2, none⟩ = some (.int .i64 a1_2) := (blk_cell M2.out.C 2).trans rfl; have w2c3 : w2.cell? ⟨g2, 3, none⟩ = some (.int .u8 a1_3) := (blk_cell M2.out.C 3).trans rfl; have w2c4 : w2.cell? ⟨g2, 4, none⟩ = some (.int .u64 a1_4) := (blk_cell M2.out.C 4).trans rfl) | (go_at_call 9; (with_reducible refine HL2.out.mono ?_); rintro e w3 ⟨rfl, hb⟩; have M3 := Lib.hid (M2.out.below hb); clear hb))
    go_ret
    exact ⟨rfl, M3.out.B⟩
  have hs4 : a4.size ≤ 1000 := by omega
  have HS4 := Lib.hid hs4
  go_upto_region 3 with (go_at_call 9; (with_reducible refine HL1.out.mono ?_); rintro e w2 ⟨rfl, hb⟩; have M2 := Lib.hid (M1.out.below hb); have HL2 := Lib.hid (HL.out w2 M2.out.B); clear hb; have w2k0 : w2.cell? ⟨g1, 0, none⟩ = some (.int .i64 a0_0) := (blk_cell M2.out.K 0).trans rfl; have w2k1 : w2.cell? ⟨g1, 1, none⟩ = some (.string a0_1) := (blk_cell M2.out.K 1).trans rfl; have w2c0 : w2.cell? ⟨g2, 0, none⟩ = some (.string a1_0) := (blk_cell M2.out.C 0).trans rfl; have w2c1 : w2.cell? ⟨g2, 1, none⟩ = some (.int .i64 a1_1) := (blk_cell M2.out.C 1).trans rfl; have w2c2 : w2.cell? ⟨g2, 2, none⟩ = some (.int .i64 a1_2) := (blk_cell M2.out.C 2).trans rfl; have w2c3 : w2.cell? ⟨g2, 3, none⟩ = some (.int .u8 a1_3) := (blk_cell M2.out.C 3).trans rfl; have w2c4 : w2.cell? ⟨g2, 4, none⟩ = some (.int .u64 a1_4) := (blk_cell M2.out.C 4).trans rfl)
  clear z1 z2 z3 hs4
  obtain ⟨r1, r2, r3, r4, r5, r6, hrr, hrd⟩ : ∃ (r1 : ByteArray) (r2 r3 r4 r5 r6 : Int), outR (readB a4) = (r1, r2, r3, r4, r5, r6) ∧ ∀ W, Calls Tryd.prog 18 #[.string a4] W fun e w' => e = .returned (.tuple #[.agg #[.string r1, .int .i64 r2, .int .i64 r3, .int .u8 r4, .int .u64 r5], .int .i64 r6]) ∧ Below W.heap.size W w' := by
    obtain ⟨k, hk⟩ := Ev.some (Read_ev a4 (by have := HS4.out; omega))
    exact ⟨_, _, _, _, _, _, rfl, fun W => token_Read.calls k a4 _ _ _ _ _ _ W hk⟩
  have HRR := Lib.hid hrr
  have HRD := Lib.hid hrd
  clear hrr hrd
  go_upto_region 4 with (go_at_call 18; refine (HRD.out _).mono ?_; rintro e w3 ⟨rfl, hb⟩; have M3 := Lib.hid (M2.out.below hb); clear hb)
  obtain ⟨W4, hW4⟩ : ∃ W4, W4 = w3.alloc (.cells #[.string r1, .int .i64 r2, .int .i64 r3, .int .u8 r4, .int .u64 r5] 26) := ⟨_, rfl⟩
  have M4 : Hid (MSt w W4 g1 g2 a0_0 a0_1 a1_0 a1_1 a1_2 a1_3 a1_4) := Lib.hid (by rw [hW4]; exact M3.out.below (below_alloc (Below.refl _ _) _))
  have L4 : Hid (W4.heap[w3.heap.size]? = some (.cells #[.string r1, .int .i64 r2, .int .i64 r3, .int .u8 r4, .int .u64 r5] 26 (0, 0))) := Lib.hid (by rw [hW4]; exact blk_new w3 _)
  rw [← hW4]
  clear hW4
  obtain ⟨gd, hgd⟩ : ∃ g, g = w3.heap.size := ⟨_, rfl⟩
  rw [← hgd] at L4
  rw [← hgd]
  clear hgd
  go_upto_if 49 with fail
  go_cut [] (fun wx => Hid (MSt w wx g1 g2 a0_0 a0_1 a1_0 a1_1 a1_2 a1_3 a1_4))
  case first =>
    have W4k0 : W4.cell? ⟨g1, 0, none⟩ = some (.int .i64 a0_0) := (blk_cell M4.out.K 0).trans rfl
    have W4k1 : W4.cell? ⟨g1, 1, none⟩ = some (.string a0_1) := (blk_cell M4.out.K 1).trans rfl
    rcases outR_cases HRR.out with ⟨hrn, hr6⟩ | ⟨hrs, hr6⟩
    · have hb6 : (r6 == 0) = false := by rw [hr6]; rfl
      have HSG : Hid (∀ W, Below w.heap.size w W → Calls Tryd.prog 20 #[.string a4, .agg #[.int .i64 a0_0, .string a0_1]] W fun e w' => e = .returned (.bool false) ∧ Below W.heap.size W w') := Lib.hid (fun W hW => by
        have h := sign_c (Tab_below hT hW) a4 (by have := HS4.out; omega) a0_0 a0_1
        have e : signedB a4 a0_0 a0_1 = false := by unfold signedB; rw [hrn]
        rw [e] at h
        exact h)
      clear hrn hr6
      go_wp2_with (go_at_call 20; (with_reducible refine (HSG.out _ M4.out.B).mono ?_); rintro e w5 ⟨rfl, hb⟩; have M5 := Lib.hid (M4.out.below hb); clear hb)
      go_meet
      exact M5
    · subst hr6
      have hbd := read_bd hrs
      obtain ⟨tt, ff, htf, hmc⟩ : ∃ (tt : ByteArray) (ff : Int), mintB a0_0 a0_1 r1 r2 r3 r4 r5 = (tt, ff) ∧ ∀ W, Below w.heap.size w W → Calls Tryd.prog 10 #[.agg #[.int .i64 a0_0, .string a0_1], .agg #[.string r1, .int .i64 r2, .int .i64 r3, .int .u8 r4, .int .u64 r5]] W fun e w' => e = .returned (.tuple #[.string tt, .int .i64 ff]) ∧ Below W.heap.size W w' := ⟨_, _, rfl, fun W hW => mint_c (Tab_below hT hW) a0_0 a0_1 r1 r2 r3 r4 r5 hbd.1 hbd.2.1⟩
      have hsg : signedB a4 a0_0 a0_1 = (decide (ff = 0) && (tt.toList == a4.toList)) := by unfold signedB; rw [hrs]; simp only [htf]
      have HSG : Hid (∀ W, Below w.heap.size w W → Calls Tryd.prog 20 #[.string a4, .agg #[.int .i64 a0_0, .string a0_1]] W fun e w' => e = .returned (.bool (decide (ff = 0) && (tt.toList == a4.toList))) ∧ Below W.heap.size W w') := Lib.hid (fun W hW => by
        have h := sign_c (Tab_below hT hW) a4 (by have := HS4.out; omega) a0_0 a0_1
        rw [hsg] at h
        exact h)
      have HMC := Lib.hid hmc
      clear hrs hbd htf hmc hsg
      have W4c0 : W4.cell? ⟨gd, 0, none⟩ = some (.string r1) := (blk_cell L4.out 0).trans rfl
      have W4c1 : W4.cell? ⟨gd, 1, none⟩ = some (.int .i64 r2) := (blk_cell L4.out 1).trans rfl
      have W4c2 : W4.cell? ⟨gd, 2, none⟩ = some (.int .i64 r3) := (blk_cell L4.out 2).trans rfl
      have W4c3 : W4.cell? ⟨gd, 3, none⟩ = some (.int .u8 r4) := (blk_cell L4.out 3).trans rfl
      have W4c4 : W4.cell? ⟨gd, 4, none⟩ = some (.int .u64 r5) := (blk_cell L4.out 4).trans rfl
      by_cases hf : ff = 0
      · subst hf
        by_cases hte : tt.toList = a4.toList
        · have hte1 : (tt.toList == a4.toList) = true := by simp [hte]
          rw [hte1] at HSG
          have hte2 : decide (tt.toList = a4.toList) = true := decide_eq_true hte
          clear hte
          go_wp2_with (first | (go_at_call 10; (with_reducible refine (HMC.out _ M4.out.B).mono ?_); rintro e w5 ⟨rfl, hb⟩; have M5 := Lib.hid (M4.out.below hb); have w5k0 : w5.cell? ⟨g1, 0, none⟩ = some (.int .i64 a0_0) := (blk_cell M5.out.K 0).trans rfl; have w5k1 : w5.cell? ⟨g1, 1, none⟩ = some (.string a0_1) := (blk_cell M5.out.K 1).trans rfl; clear hb) | (go_at_call 20; (with_reducible refine (HSG.out _ M5.out.B).mono ?_); rintro e w6 ⟨rfl, hb⟩; have M6 := Lib.hid (M5.out.below hb); clear hb))
          go_meet
          exact M6
        · have hte1 : (tt.toList == a4.toList) = false := by simp [hte]
          rw [hte1] at HSG
          have hte2 : decide (tt.toList = a4.toList) = false := decide_eq_false hte
          clear hte
          go_wp2_with (first | (go_at_call 10; (with_reducible refine (HMC.out _ M4.out.B).mono ?_); rintro e w5 ⟨rfl, hb⟩; have M5 := Lib.hid (M4.out.below hb); have w5k0 : w5.cell? ⟨g1, 0, none⟩ = some (.int .i64 a0_0) := (blk_cell M5.out.K 0).trans rfl; have w5k1 : w5.cell? ⟨g1, 1, none⟩ = some (.string a0_1) := (blk_cell M5.out.K 1).trans rfl; clear hb) | (go_at_call 20; (with_reducible refine (HSG.out _ M5.out.B).mono ?_); rintro e w6 ⟨rfl, hb⟩; have M6 := Lib.hid (M5.out.below hb); clear hb))
          go_meet
          exact M6
      · have hf1 : (ff == 0) = false := by simp [hf]
        have hf2 : decide (ff = 0) = false := decide_eq_false hf
        rw [hf2, Bool.false_and] at HSG
        clear hf
        go_wp2_with (first | (go_at_call 10; (with_reducible refine (HMC.out _ M4.out.B).mono ?_); rintro e w5 ⟨rfl, hb⟩; have M5 := Lib.hid (M4.out.below hb); have w5k0 : w5.cell? ⟨g1, 0, none⟩ = some (.int .i64 a0_0) := (blk_cell M5.out.K 0).trans rfl; have w5k1 : w5.cell? ⟨g1, 1, none⟩ = some (.string a0_1) := (blk_cell M5.out.K 1).trans rfl; clear hb) | (go_at_call 20; (with_reducible refine (HSG.out _ M5.out.B).mono ?_); rintro e w6 ⟨rfl, hb⟩; have M6 := Lib.hid (M5.out.below hb); clear hb))
        go_meet
        exact M6
  case rest =>
    have MR := hcut
    clear HRR HRD M4 L4 M1 M2 M3 HL1 HL2 w2k0 w2k1 w2c0 w2c1 w2c2 w2c3 w2c4
    have wck0 : wc.cell? ⟨g1, 0, none⟩ = some (.int .i64 a0_0) := (blk_cell MR.out.K 0).trans rfl
    have wck1 : wc.cell? ⟨g1, 1, none⟩ = some (.string a0_1) := (blk_cell MR.out.K 1).trans rfl
    have wcc0 : wc.cell? ⟨g2, 0, none⟩ = some (.string a1_0) := (blk_cell MR.out.C 0).trans rfl
    have wcc1 : wc.cell? ⟨g2, 1, none⟩ = some (.int .i64 a1_1) := (blk_cell MR.out.C 1).trans rfl
    have wcc2 : wc.cell? ⟨g2, 2, none⟩ = some (.int .i64 a1_2) := (blk_cell MR.out.C 2).trans rfl
    have wcc3 : wc.cell? ⟨g2, 3, none⟩ = some (.int .u8 a1_3) := (blk_cell MR.out.C 3).trans rfl
    have wcc4 : wc.cell? ⟨g2, 4, none⟩ = some (.int .u64 a1_4) := (blk_cell MR.out.C 4).trans rfl
    obtain ⟨tt, ff, htf, hmc⟩ : ∃ (tt : ByteArray) (ff : Int), mintB a0_0 a0_1 a1_0 a1_1 a1_2 a1_3 a1_4 = (tt, ff) ∧ ∀ W, Below w.heap.size w W → Calls Tryd.prog 10 #[.agg #[.int .i64 a0_0, .string a0_1], .agg #[.string a1_0, .int .i64 a1_1, .int .i64 a1_2, .int .u8 a1_3, .int .u64 a1_4]] W fun e w' => e = .returned (.tuple #[.string tt, .int .i64 ff]) ∧ Below W.heap.size W w' := ⟨_, _, rfl, fun W hW => mint_c (Tab_below hT hW) a0_0 a0_1 a1_0 a1_1 a1_2 a1_3 a1_4 hx hi⟩
    have HMC := Lib.hid hmc
    have HTF := Lib.hid htf
    clear hmc htf
    go_upto_region 11 with (go_at_call 10; (with_reducible refine (HMC.out _ MR.out.B).mono ?_); rintro e w6 ⟨rfl, hb⟩; have M6 := Lib.hid (MR.out.below hb); have w6k0 : w6.cell? ⟨g1, 0, none⟩ = some (.int .i64 a0_0) := (blk_cell M6.out.K 0).trans rfl; have w6k1 : w6.cell? ⟨g1, 1, none⟩ = some (.string a0_1) := (blk_cell M6.out.K 1).trans rfl; have w6c0 : w6.cell? ⟨g2, 0, none⟩ = some (.string a1_0) := (blk_cell M6.out.C 0).trans rfl; have w6c1 : w6.cell? ⟨g2, 1, none⟩ = some (.int .i64 a1_1) := (blk_cell M6.out.C 1).trans rfl; have w6c2 : w6.cell? ⟨g2, 2, none⟩ = some (.int .i64 a1_2) := (blk_cell M6.out.C 2).trans rfl; have w6c3 : w6.cell? ⟨g2, 3, none⟩ = some (.int .u8 a1_3) := (blk_cell M6.out.C 3).trans rfl; have w6c4 : w6.cell? ⟨g2, 4, none⟩ = some (.int .u64 a1_4) := (blk_cell M6.out.C 4).trans rfl; clear hb)
    by_cases hf : ff = 0
    case neg =>
      have hfb : (ff != 0) = true := by simp [hf]
      clear hf
      go_wp2_with fail
      go_ret
      exact ⟨rfl, M6.out.B⟩
    subst hf
    have hms := mint_size (kid := a0_0) (sec := a0_1) (tn := a1_0) (key := a1_1) (ex := a1_2) (sc := a1_3) (id := a1_4) hx hi (by rw [HTF.out])
    rw [HTF.out] at hms
    obtain ⟨hm1, hm2⟩ := hms
    have z1 : ¬ ((tt.size : Int) < 43) := by simp only at hm1; omega
    have z2 : (50 : Int) < (tt.size : Int) := by simp only at hm1; omega
    have HM1 := Lib.hid (show 50 < tt.size from hm1)
    have HM2 := Lib.hid (show tt.size ≤ 1000 from hm2)
    clear hm1 hm2
    by_cases c1 : a2 < 0
    · go_wp2_with fail
      go_ret
      exact ⟨rfl, M6.out.B⟩
    by_cases c2 : a2 ≥ 43
    · go_wp2_with fail
      go_ret
      exact ⟨rfl, M6.out.B⟩
    by_cases c3 : a3 = 0
    · have c3b : (a3 == 0) = true := by simp [c3]
      clear c3
      go_wp2_with fail
      go_ret
      exact ⟨rfl, M6.out.B⟩
    have c3b : (a3 == 0) = false := by simp [c3]
    have HC3 := Lib.hid c3
    clear c3
    go_upto_region 14 with ((with_reducible refine gate_dst (N := 106) rfl ?_); (try (refine gate_guard (by rfl) ?_; dsimp only)); refine Kd.R_lit k43 _ 43 ?hg (N := 106) ?hd (xs := ([(⟨a1_0, (⟨a0_0, a0_1⟩ : S23)⟩ : S43)] : List S43)) (inner := [.string a1_0, .int .i64 a0_0, .string a0_1]) (ok := fun _ => True) (okp := fun _ => True) ?hr ?hp (fun _ hk => hk) trivial (Below.refl _ _) (Nat.le_refl _) (by simp) ?_; (case hd => rfl); (case hg => rfl); (case hr => first | (go_simp; done) | (go_simp; rfl)); (case hp => exact (Reps.c3 (show Kd.M k43 _ _ _ (⟨a1_0, (⟨a0_0, a0_1⟩ : S23)⟩ : S43) [.string a1_0, .int .i64 a0_0, .string a0_1] from (k43_mkM _ _ _ (⟨a1_0, (⟨a0_0, a0_1⟩ : S23)⟩ : S43))) (Reps.none _ _))); intro v7 w7 ho7 hb hg_ hnew_; clear hg_ hnew_; have M7 := Lib.hid (M6.out.below hb); clear hb; have HO7 := Lib.hid ho7; clear ho7; obtain ⟨A7, c7, e7⟩ := Kd.R_slice HO7.out; subst e7)
    have K7 : Hid (Kd.C k43 w7 A7 1 [(⟨a1_0, (⟨a0_0, a0_1⟩ : S23)⟩ : S43)] ∧ 1 ≤ c7) := Lib.hid ⟨(Kd.R_reads' HO7.out).2.2, (Kd.R_reads' HO7.out).2.1⟩
    clear HO7
    go_upto_region 15 with ((with_reducible refine gate_dst (N := 108) rfl ?_); refine conv_x rfl 9 45 5 _ rfl tt rfl Tryd.underlying9 Tryd.underlying45 Tryd.underlying5 ?_)
    obtain ⟨I, hI⟩ : ∃ I : Nat, I = tt.size - 43 + a2.toNat := ⟨_, rfl⟩
    obtain ⟨X, hX⟩ : ∃ X : Int, X = (bytesOf tt).getD I 0 := ⟨_, rfl⟩
    have hIl : I < tt.size := by have := HM1.out; omega
    have hIi : (I : Int) = (tt.size : Int) - 43 + a2 := by have := HM1.out; omega
    have hw1 : IntKind.i64.wrap ((tt.size : Int) - 43) = (tt.size : Int) - 43 := by have := HM1.out; have := HM2.out; rw [i64_w]; unfold Go.RowKit.wrap64; omega
    have hw2 : IntKind.i64.wrap ((tt.size : Int) - 43 + a2) = (I : Int) := by rw [← hIi]; have := HM1.out; have := HM2.out; rw [i64_w]; unfold Go.RowKit.wrap64; omega
    have bc := bw_cell w7 tt I hIl
    have bf := bw_frozen w7 tt I hIl
    rw [← hX] at bc
    have B8 : Hid (∀ y, Below w7.heap.size w7 ((Lib.bytesWorld w7 5 tt).setCell ⟨w7.heap.size, I, none⟩ (.int .u8 y))) := Lib.hid (fun y => bw_setBelow w7 tt I y)
    have C8 : Hid (∀ y, (Kd.int .u8).C ((Lib.bytesWorld w7 5 tt).setCell ⟨w7.heap.size, I, none⟩ (.int .u8 y)) (some ⟨w7.heap.size, 0, none⟩) tt.size ((bytesOf tt).set I y)) := Lib.hid (fun y => by
      have hl : ((bytesOf tt).set I y).length = tt.size := by rw [List.length_set, bytesOf_length]
      have h := C_of_cells (w := (Lib.bytesWorld w7 5 tt).setCell ⟨w7.heap.size, I, none⟩ (.int .u8 y)) (b := w7.heap.size) (xs := (bytesOf tt).set I y) (by rw [hl]; have := HM2.out; omega) (fun j hj => bw_set w7 tt I hIl y j (by rw [← hl]; exact hj))
      rw [hl] at h
      exact h)
    obtain ⟨W8, hW8⟩ : ∃ W8, W8 = Lib.bytesWorld w7 5 tt := ⟨_, rfl⟩
    obtain ⟨g8, hg8⟩ : ∃ g, g = w7.heap.size := ⟨_, rfl⟩
    have HG8 := Lib.hid hg8
    rw [← hW8, ← hg8] at bc bf C8 B8
    rw [← hW8, ← hg8]
    clear hW8 hg8
    obtain ⟨cp, hcp⟩ : ∃ c : Nat, c = grownCap w7 tt.size 0 5 := ⟨_, rfl⟩
    rw [← hcp]
    clear hcp
    have HI := Lib.hid hI
    have HX := Lib.hid hX
    have HIL := Lib.hid hIl
    have hi1 : (I : Int) < (tt.size : Int) := by omega
    have hi2 : ¬ ((I : Int) < 0) := by omega
    clear hI hX hIl hIi
    go_upto_region 16 with fail
    obtain ⟨Y, hY⟩ : ∃ Y, Y = Go.bits .xor .u8 X a3 := ⟨_, rfl⟩
    rw [← hY]
    obtain ⟨S, hS⟩ : ∃ S, S = strOfNums ((bytesOf tt).set I Y) := ⟨_, rfl⟩
    have hXr : 0 ≤ X ∧ X < 256 := by
      rw [HX.out]
      refine bytesOf_byt tt _ ?_
      rw [List.getD_eq_getElem?_getD, List.getElem?_eq_getElem (by rw [bytesOf_length]; exact HIL.out)]
      exact List.getElem_mem _
    have hsp := one_spoilt a0_0 a0_1 a1_0 a1_1 a1_2 a1_3 a1_4 hx hi (by rw [HTF.out]) a2.toNat (by omega) Y (by rw [hY]; exact xor_in _ _)
    rw [HTF.out] at hsp
    simp only at hsp
    rw [← HI.out, ← HX.out, ← hS] at hsp
    have hsp := hsp (by rw [hY]; exact xor_ne X a3 hXr h3 HC3.out)
    obtain ⟨sg, vf⟩ := hsp
    have hSs : S.size ≤ 100000 := by rw [hS, strOfNums_size, List.length_set, bytesOf_length]; have := HM2.out; omega
    have hsh := one_short a0_0 a0_1 a1_0 a1_1 a1_2 a1_3 a1_4 hx hi (by rw [HTF.out]) [(⟨a1_0, (⟨a0_0, a0_1⟩ : S23)⟩ : S43)] (-9223372036854775808) 0
    rw [HTF.out] at hsh
    simp only at hsh
    obtain ⟨e1, he1, hv1⟩ : ∃ e1 : Int, (e1 = 8 ∨ e1 = 170) ∧ verB S [(⟨a1_0, (⟨a0_0, a0_1⟩ : S23)⟩ : S43)] (-9223372036854775808) 0 = badE e1 := by
      rcases vf (-9223372036854775808) 0 with h | h
      · exact ⟨8, .inl rfl, h⟩
      · exact ⟨170, .inr rfl, h⟩
    obtain ⟨T2, hT2⟩ : ∃ T2, T2 = tt.extract 0 (tt.size - 1) := ⟨_, rfl⟩
    rw [← hT2] at hsh
    have hT2s : T2.size ≤ 100000 := by rw [hT2, ByteArray.size_extract]; have := HM2.out; omega
    have HV1 : Hid (∀ W, Below w.heap.size w W → Kd.C k43 W A7 1 [(⟨a1_0, (⟨a0_0, a0_1⟩ : S23)⟩ : S43)] → Calls Tryd.prog 23 #[.string S, .slice A7 1 c7, .int .i64 (-9223372036854775808), .int .u8 0] W fun x w' => x = .returned (.tuple #[.agg #[.string (⟨#[]⟩ : ByteArray), .int .i64 0, .int .i64 0, .int .u8 0, .int .u64 0], .int .i64 e1]) ∧ Below W.heap.size W w') := Lib.hid (fun W hW hC => verify_c (Tab_below hT hW) S hSs A7 c7 [(⟨a1_0, (⟨a0_0, a0_1⟩ : S23)⟩ : S43)] (by simp) K7.out.2 hC (-9223372036854775808) 0 e1 hv1)
    have HV2 : Hid (∀ W, Below w.heap.size w W → Kd.C k43 W A7 1 [(⟨a1_0, (⟨a0_0, a0_1⟩ : S23)⟩ : S43)] → Calls Tryd.prog 23 #[.string T2, .slice A7 1 c7, .int .i64 (-9223372036854775808), .int .u8 0] W fun x w' => x = .returned (.tuple #[.agg #[.string (⟨#[]⟩ : ByteArray), .int .i64 0, .int .i64 0, .int .u8 0, .int .u64 0], .int .i64 8]) ∧ Below W.heap.size W w') := Lib.hid (fun W hW hC => verify_c (Tab_below hT hW) T2 hT2s A7 c7 [(⟨a1_0, (⟨a0_0, a0_1⟩ : S23)⟩ : S43)] (by simp) K7.out.2 hC (-9223372036854775808) 0 8 hsh)
    have HSG : Hid (∀ W, Below w.heap.size w W → Calls Tryd.prog 20 #[.string S, .agg #[.int .i64 a0_0, .string a0_1]] W fun e w' => e = .returned (.bool false) ∧ Below W.heap.size W w') := Lib.hid (fun W hW => by
      have h := sign_c (Tab_below hT hW) S hSs a0_0 a0_1
      rw [sg] at h
      exact h)
    have c8 := C8.out Y
    have b8 := B8.out Y
    clear hsp
    obtain ⟨W9, hW9⟩ : ∃ W9, W9 = W8.setCell ⟨g8, I, none⟩ (.int .u8 Y) := ⟨_, rfl⟩
    rw [← hW9] at c8 b8
    rw [← hW9]
    have b8 : Below w7.heap.size w7 W9 := by rw [← HG8.out]; exact b8
    have M9 := Lib.hid (M7.out.below b8)
    have K9 := Lib.hid (Kd.C_below K7.out.1 b8)
    have C9 := Lib.hid c8
    have HS := Lib.hid hS
    have HT2 := Lib.hid hT2
    have HE1 := Lib.hid he1
    clear hW9 c8 b8 bc bf C8 B8 hw1 hw2 hi1 hi2 hY hS hXr sg vf hSs hsh he1 hv1 hT2 hT2s K7
    go_upto_region 17 with (first | ((with_reducible refine gate_dst (N := 122) rfl ?_); refine conv_y rfl 45 9 5 _ rfl rfl Tryd.underlying45 Tryd.underlying5 Tryd.underlying9 C9.out ?_; rw [← HS.out]) | (go_at_call 23; (with_reducible refine (HV1.out _ M9.out.B K9.out).mono ?_); rintro e w10 ⟨rfl, hb⟩; have M10 := Lib.hid (M9.out.below hb); have K10 := Lib.hid (Kd.C_below K9.out hb); have C10 := Lib.hid (Kd.C_below C9.out hb); clear hb))
    have M11 := Lib.hid (M10.out.below (below_alloc (Below.refl _ _) (.cells #[.string (⟨#[]⟩ : ByteArray), .int .i64 0, .int .i64 0, .int .u8 0, .int .u64 0] 26)))
    have K11 := Lib.hid (Kd.C_below K10.out (below_alloc (Below.refl _ _) (.cells #[.string (⟨#[]⟩ : ByteArray), .int .i64 0, .int .i64 0, .int .u8 0, .int .u64 0] 26)))
    have C11 := Lib.hid (Kd.C_below C10.out (below_alloc (Below.refl _ _) (.cells #[.string (⟨#[]⟩ : ByteArray), .int .i64 0, .int .i64 0, .int .u8 0, .int .u64 0] 26)))
    obtain ⟨W11, hW11⟩ : ∃ W11, W11 = w10.alloc (.cells #[.string (⟨#[]⟩ : ByteArray), .int .i64 0, .int .i64 0, .int .u8 0, .int .u64 0] 26) := ⟨_, rfl⟩
    rw [← hW11] at M11 K11 C11
    rw [← hW11]
    clear hW11
    obtain ⟨g11, hg11⟩ : ∃ g, g = w10.heap.size := ⟨_, rfl⟩
    rw [← hg11]
    clear hg11
    have hq1 : IntKind.i64.wrap ((tt.size : Int) - 1) = (tt.size : Int) - 1 := by have := HM1.out; have := HM2.out; rw [i64_w]; unfold Go.RowKit.wrap64; omega
    have hq2 : ¬ ((tt.size : Int) - 1 < 0) := by have := HM1.out; omega
    have hq3 : (tt.size : Int) - 1 ≤ (tt.size : Int) := by omega
    have hq4 : ((tt.size : Int) - 1).toNat = tt.size - 1 := by have := HM1.out; omega
    go_upto_region 18 with (go_at_call 23; rw [← HT2.out]; (with_reducible refine (HV2.out _ M11.out.B K11.out).mono ?_); rintro e w12 ⟨rfl, hb⟩; have M12 := Lib.hid (M11.out.below hb); have C12 := Lib.hid (Kd.C_below C11.out hb); clear hb)
    have M13 := Lib.hid (M12.out.below (below_alloc (Below.refl _ _) (.cells #[.string (⟨#[]⟩ : ByteArray), .int .i64 0, .int .i64 0, .int .u8 0, .int .u64 0] 26)))
    have C13 := Lib.hid (Kd.C_below C12.out (below_alloc (Below.refl _ _) (.cells #[.string (⟨#[]⟩ : ByteArray), .int .i64 0, .int .i64 0, .int .u8 0, .int .u64 0] 26)))
    obtain ⟨W13, hW13⟩ : ∃ W13, W13 = w12.alloc (.cells #[.string (⟨#[]⟩ : ByteArray), .int .i64 0, .int .i64 0, .int .u8 0, .int .u64 0] 26) := ⟨_, rfl⟩
    rw [← hW13] at M13 C13
    rw [← hW13]
    clear hW13
    obtain ⟨g13, hg13⟩ : ∃ g, g = w12.heap.size := ⟨_, rfl⟩
    rw [← hg13]
    clear hg13 hq1 hq2 hq3 hq4
    have W13k0 : W13.cell? ⟨g1, 0, none⟩ = some (.int .i64 a0_0) := (blk_cell M13.out.K 0).trans rfl
    have W13k1 : W13.cell? ⟨g1, 1, none⟩ = some (.string a0_1) := (blk_cell M13.out.K 1).trans rfl
    rcases HE1.out with he | he
    · subst he
      go_wp2_with (first | ((with_reducible refine gate_dst (N := 149) rfl ?_); (try (refine gate_guard (by rfl) ?_; dsimp only)); refine conv_y rfl 45 9 5 _ rfl rfl Tryd.underlying45 Tryd.underlying5 Tryd.underlying9 C13.out ?_; rw [← HS.out]) | (go_at_call 20; (with_reducible refine (HSG.out _ M13.out.B).mono ?_); rintro e w14 ⟨rfl, hb⟩; have M14 := Lib.hid (M13.out.below hb); clear hb))
      go_ret
      exact ⟨rfl, M14.out.B⟩
    · subst he
      go_wp2_with (first | ((with_reducible refine gate_dst (N := 149) rfl ?_); (try (refine gate_guard (by rfl) ?_; dsimp only)); refine conv_y rfl 45 9 5 _ rfl rfl Tryd.underlying45 Tryd.underlying5 Tryd.underlying9 C13.out ?_; rw [← HS.out]) | (go_at_call 20; (with_reducible refine (HSG.out _ M13.out.B).mono ?_); rintro e w14 ⟨rfl, hb⟩; have M14 := Lib.hid (M13.out.below hb); clear hb))
      go_ret
      exact ⟨rfl, M14.out.B⟩
end Go.Proofs.YtkkomfomjpcbfaaDoor.Pu
