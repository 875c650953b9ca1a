import Derived.Test.YtkkomfomjpcbfaaDoorCTokenMintsE2
import Derived.Test.YtkkomfomjpcbfaaDoorCTokenMintsPTSx4
import Derived.Laws.RangeAny
import Derived.Lib.OthersKept
import Derived.Test.YtkkomfomjpcbfaaDoorCTokenMintsE1
import Derived.Test.YtkkomfomjpcbfaaDoorCTokenMintsWGuard
import Derived.Test.YtkkomfomjpcbfaaDoorCTokenMintsTM
import Derived.Test.YtkkomfomjpcbfaaDoorCTokenMintsTT
namespace Go.Proofs.YtkkomfomjpcbfaaDoor.Bq
end Go.Proofs.YtkkomfomjpcbfaaDoor.Bq
namespace Go.Proofs.YtkkomfomjpcbfaaDoor.PTS
open Go.RowKit Go.Proofs.YtkkomfomjpcbfaaDoorW.PrintWords Go.Proofs.YtkkomfomjpcbfaaDoorW.PrintLast Go.Proofs.YtkkomfomjpcbfaaDoorW.PrintMore
attribute [local go_sem] max2_int min2_int max_two min_two max_three min_three max_four min_four
set_option linter.unusedVariables false
set_option linter.unusedSimpArgs false
section
open Go Go.RowKit Go.Lib Go.Proofs.YtkkomfomjpcbfaaDoor Go.Proofs.YtkkomfomjpcbfaaDoor.Pu Go.Proofs.YtkkomfomjpcbfaaDoorW.PrintWords Go.Proofs.YtkkomfomjpcbfaaDoorW.PrintLast Go.Proofs.YtkkomfomjpcbfaaDoorW.PrintMore Bq
set_option linter.unusedVariables false
set_option linter.unusedSimpArgs false
attribute [local go_sem ↓] Go.wp_at_zero Go.wp_at_succ
abbrev Clm := ByteArray × Int × Int × Int × Int × Int
def tokBad : Clm := ((⟨#[]⟩ : ByteArray), 0, 0, 0, 0, 8)
def tokRest (k : Nat) (rest : ByteArray) (p : Nat) : Option Clm :=
 if (unL (rest.extract 0 p).data.toList 0 0 []).2 = 0 ∧ (unL (rest.extract (p + 1) rest.size).data.toList 0 0 []).2 = 0 ∧ (unL (rest.extract (p + 1) rest.size).data.toList 0 0 []).1.length = 32 then
  (token_parse.f k (unL (rest.extract 0 p).data.toList 0 0 []).1).bind fun c => if c.2.2.2.2.2 = true then some (c.1, c.2.1, c.2.2.1, c.2.2.2.1, c.2.2.2.2.1, 0) else some tokBad
 else some tokBad
def tokPoint (k : Nat) (rest : ByteArray) : Option Int → Option Clm
 | none => some tokBad
 | some p => if p < 0 then some tokBad else tokRest k rest p.toNat
def tokRead (k : Nat) (s : ByteArray) : Option Clm :=
 if s.size ≤ 1000000 then (if s.size < 4 then some tokBad else if ((s.extract 0 4).toList == [109, 116, 49, 46]) = true then tokPoint k (s.extract 4 s.size) (ptL (s.extract 4 s.size).data.toList 0 (-1)) else some tokBad) else none
theorem tokRead.mono : ∀ a0 k, LeO (tokRead k a0) (tokRead (k + 1) a0) := by
 intro a0 k
 unfold tokRead
 split
 ·split
  ·exact LeO.refl _
  ·split
   ·cases h : ptL (a0.extract 4 a0.size).data.toList 0 (-1) with
    | none => exact LeO.refl _
    | some p =>
     unfold tokPoint
     simp only
     split
     ·exact LeO.refl _
     ·unfold tokRest
      split
      ·exact LeO.bind (token_parse.mono _ _) (fun c => LeO.refl _)
      ·exact LeO.refl _
   ·exact LeO.refl _
 ·exact LeO.refl _
theorem tokRest_bad {k : Nat} {rs : ByteArray} {p : Nat} (h : High (B rs)) (hp : p < (B rs).length) (hc : ((B rs).getD p 0).toNat = 46) : tokRest k rs p = some tokBad := by
 unfold tokRest
 rw [if_neg]
 rintro ⟨h1, h2, _⟩
 rcases high_parts h p hp hc with e | e
 ·rw [e] at h1; cases h1
 ·rw [e] at h2; cases h2
theorem tokPoint_high {k : Nat} {rs : ByteArray} (h : High (B rs)) : tokPoint k rs (ptL (B rs) 0 (-1)) = some tokBad := by
 cases hp : ptL (B rs) 0 (-1) with
 | none => rfl
 | some p =>
  unfold tokPoint
  simp only
  split
  ·rfl
  ·rename_i h0
   rcases ptL_some _ _ _ _ hp with h1 | ⟨j, h1, h2, h3⟩
   ·omega
   ·rw [h3, Nat.zero_add, Int.toNat_natCast]
    exact tokRest_bad h h1 h2
theorem inv_two {k : Nat} {rs : ByteArray} {r : Option Clm} {pos : Nat} {pt : Int} (hI : PInv (B rs) pos pt) (hl : pos < (B rs).length) (hc : ((B rs).getD pos 0).toNat = 46) (h0 : 0 ≤ pt) (h : tokPoint k rs (ptL (B rs) 0 (-1)) = r) : some tokBad = r := by
 rcases hI.two hl hc h0 with e | e
 ·rw [← h, tokPoint_high e]
 ·rw [← h, e]; rfl
theorem inv_last {k : Nat} {rs : ByteArray} {r : Option Clm} {pos : Nat} {pt : Int} (hI : PInv (B rs) pos pt) (hl : (B rs).length ≤ pos) (h : tokPoint k rs (ptL (B rs) 0 (-1)) = r) :
  (pt < 0 → some tokBad = r) ∧ (0 ≤ pt → ∃ p : Nat, pt = (p : Int) ∧ p < rs.size ∧ tokRest k rs p = r) := by
 have hP := hI.1
 rcases hI.last hl with e | e
 ·rw [tokPoint_high e] at h
  refine ⟨fun _ => h, fun h0 => ?_⟩
  rcases hP with h1 | ⟨p, h1, h2, h3⟩
  ·omega
  ·exact ⟨p, h1, by rw [← B_length]; exact h2, by rw [tokRest_bad e h2 h3]; exact h⟩
 ·rw [e] at h
  unfold tokPoint at h
  simp only at h
  refine ⟨fun h0 => by rw [if_pos h0] at h; exact h, fun h0 => ?_⟩
  rw [if_neg (by omega)] at h
  rcases hP with h1 | ⟨p, h1, h2, h3⟩
  ·omega
  ·exact ⟨p, h1, by rw [← B_length]; exact h2, by rw [h1, Int.toNat_natCast] at h; exact h⟩
structure RSt (w W : World) (gb : Nat) (a : ByteArray) (b c d e : Int) : Prop where
 B : Below w.heap.size w W
 C : W.heap[gb]? = some (.cells #[.string a, .int .i64 b, .int .i64 c, .int .u8 d, .int .u64 e] 26 (0, 0))
 lo : w.heap.size ≤ gb
theorem RSt.below {w W W' : World} {gb : Nat} {a : ByteArray} {b c d e : Int} (h : RSt w W gb a b c d e) (hb : Below W.heap.size W W') : RSt w W' gb a b c d e :=
 ⟨h.B.trans (below_lower hb h.B.size), (hb.block gb (blk_lt h.C)).trans h.C, h.lo⟩
theorem RSt.put {w W : World} {gb : Nat} {a : ByteArray} {b c d e : Int} (h : RSt w W gb a b c d e) (a' : ByteArray) (b' c' d' e' : Int) :
  RSt w (((((W.setCell ⟨gb, 0, none⟩ (.string a')).setCell ⟨gb, 1, none⟩ (.int .i64 b')).setCell ⟨gb, 2, none⟩ (.int .i64 c')).setCell ⟨gb, 3, none⟩ (.int .u8 d')).setCell ⟨gb, 4, none⟩ (.int .u64 e')) gb a' b' c' d' e' := by
 refine ⟨?_, ?_, h.lo⟩
 ·exact ((((h.B.setCell (p := ⟨gb, 0, none⟩) h.lo _).setCell (p := ⟨gb, 1, none⟩) h.lo _).setCell (p := ⟨gb, 2, none⟩) h.lo _).setCell (p := ⟨gb, 3, none⟩) h.lo _).setCell (p := ⟨gb, 4, none⟩) h.lo _
 ·exact blk_put (blk_put (blk_put (blk_put (blk_put h.C 0 _ rfl) 1 _ rfl) 2 _ rfl) 3 _ rfl) 4 _ rfl
theorem tokBad_inj {r1 : ByteArray} {r2 r3 r4 r5 r6 : Int} (h : some tokBad = some (r1, r2, r3, r4, r5, r6)) : (⟨#[]⟩ : ByteArray) = r1 ∧ 0 = r2 ∧ 0 = r3 ∧ 0 = r4 ∧ 0 = r5 ∧ 8 = r6 := by
 simpa [tokBad] using h
set_option maxRecDepth 20000 in
set_option maxHeartbeats 8000000 in
theorem tokRead_calls (k : Nat) (a0 : ByteArray) (r1 : ByteArray) (r2 : Int) (r3 : Int) (r4 : Int) (r5 : Int) (r6 : Int) (w : World) (h : tokRead k a0 = some (r1, r2, r3, r4, r5, r6)) :
  Calls Tryd.prog 18 #[.string a0] w fun e w' => e = .returned (.tuple #[.agg #[.string r1, .int .i64 r2, .int .i64 r3, .int .u8 r4, .int .u64 r5], .int .i64 r6]) ∧ Below w.heap.size w w' := by
 have hu26 := Tryd.underlying26
 unfold tokRead at h
 by_cases hs : a0.size ≤ 1000000
 case neg =>
  rw [if_neg hs] at h
  cases h
 rw [if_pos hs] at h
 have HS := Lib.hid hs
 clear hs
 go_enter Tryd.func18, Tryd.ntmps18
 go_upto_region 1 with fail
 obtain ⟨W1, hW1⟩ : ∃ W1, W1 = w.alloc (.cells #[.string (⟨#[]⟩ : ByteArray), .int .i64 0, .int .i64 0, .int .u8 0, .int .u64 0] 26) := ⟨_, rfl⟩
 have m1 : RSt w W1 w.heap.size (⟨#[]⟩ : ByteArray) 0 0 0 0 := by
  rw [hW1]
  exact ⟨(Below.refl _ w).alloc (Nat.le_refl _) _, blk_new w _, Nat.le_refl _⟩
 change Code.wp _ _ _ _ (w.alloc (.cells #[.string (⟨#[]⟩ : ByteArray), .int .i64 0, .int .i64 0, .int .u8 0, .int .u64 0] 26))
 rw [← hW1]
 clear hW1
 obtain ⟨gb, hgb⟩ : ∃ g, g = w.heap.size := ⟨_, rfl⟩
 rw [← hgb] at m1
 rw [← hgb]
 clear hgb
 have M1 := Lib.hid m1
 clear m1
 have W1q0 : W1.cell? ⟨gb, 0, none⟩ = some (.string (⟨#[]⟩ : ByteArray)) := (blk_cell M1.out.C 0).trans rfl
 have W1r0 := blk_frozen M1.out.C 0
 have W1q1 : W1.cell? ⟨gb, 1, none⟩ = some (.int .i64 0) := (blk_cell M1.out.C 1).trans rfl
 have W1r1 := blk_frozen M1.out.C 1
 have W1q2 : W1.cell? ⟨gb, 2, none⟩ = some (.int .i64 0) := (blk_cell M1.out.C 2).trans rfl
 have W1r2 := blk_frozen M1.out.C 2
 have W1q3 : W1.cell? ⟨gb, 3, none⟩ = some (.int .u8 0) := (blk_cell M1.out.C 3).trans rfl
 have W1r3 := blk_frozen M1.out.C 3
 have W1q4 : W1.cell? ⟨gb, 4, none⟩ = some (.int .u64 0) := (blk_cell M1.out.C 4).trans rfl
 have W1r4 := blk_frozen M1.out.C 4
 go_step3
 by_cases h4 : a0.size < 4
 ·rw [if_pos h4] at h
  obtain ⟨rfl, rfl, rfl, rfl, rfl, rfl⟩ := tokBad_inj h
  have h4i : (a0.size : Int) < 4 := by omega
  clear h
  go_wp2_with fail
  (try rw [Exit.noGoto_ret]); refine bodyPost_ret (results_ct rfl _ _ gb 26 #[.string (⟨#[]⟩ : ByteArray), .int .i64 0, .int .i64 0, .int .u8 0, .int .u64 0] (0, 0) _ rfl (M1.out.put (⟨#[]⟩ : ByteArray) 0 0 0 0).C Tryd.underlying26 rfl (by kernel_rfl)) rfl ?_; exact ⟨rfl, (M1.out.put (⟨#[]⟩ : ByteArray) 0 0 0 0).B⟩
 rw [if_neg h4] at h
 have h4i : ¬ (a0.size : Int) < 4 := by omega
 have h4j : (4 : Int) ≤ (a0.size : Int) := by omega
 obtain ⟨mk, hmk⟩ : ∃ mk, mk = a0.extract 0 4 := ⟨_, rfl⟩
 obtain ⟨rs, hrs⟩ : ∃ rs, rs = a0.extract 4 a0.size := ⟨_, rfl⟩
 rw [← hmk, ← hrs] at h
 cases hm : (mk.toList == [109, 116, 49, 46]) with
 | false =>
  rw [hm, if_neg (by decide)] at h
  obtain ⟨rfl, rfl, rfl, rfl, rfl, rfl⟩ := tokBad_inj h
  rw [hmk] at hm
  clear h hmk hrs
  go_wp2_with fail
  (try rw [Exit.noGoto_ret]); refine bodyPost_ret (results_ct rfl _ _ gb 26 #[.string (⟨#[]⟩ : ByteArray), .int .i64 0, .int .i64 0, .int .u8 0, .int .u64 0] (0, 0) _ rfl (M1.out.put (⟨#[]⟩ : ByteArray) 0 0 0 0).C Tryd.underlying26 rfl (by kernel_rfl)) rfl ?_; exact ⟨rfl, (M1.out.put (⟨#[]⟩ : ByteArray) 0 0 0 0).B⟩
 | true =>
 rw [hm, if_pos rfl] at h
 rw [hmk] at hm
 have hrl : rs.size ≤ 1000000 := by rw [hrs, ByteArray.size_extract]; have := HS.out; omega
 have HRL := Lib.hid hrl
 have HH := Lib.hid h
 clear h
 go_upto_region 5 with fail
 go_step3
 go_wp2_with fail
 obtain ⟨it, hit⟩ : ∃ it, it = W1.heap.size := ⟨_, rfl⟩
 have hne : gb ≠ it := by rw [hit]; exact Nat.ne_of_lt (blk_lt M1.out.C)
 have HNE := Lib.hid hne
 have HIW : Hid (w.heap.size ≤ it) := Lib.hid (by rw [hit]; exact M1.out.B.size)
 obtain ⟨W2, hW2⟩ : ∃ W2, W2 = W1.iter (a0.extract 4 a0.size) 0 := ⟨_, rfl⟩
 have M2 : Hid (RSt w W2 gb (⟨#[]⟩ : ByteArray) 0 0 0 0) := Lib.hid (by rw [hW2]; exact M1.out.below (below_alloc (Below.refl _ _) _))
 have HI2 : Hid (W2.heap[it]? = some (.stringIter rs 0)) := Lib.hid (by rw [hW2, hit, ← hrs]; exact World.iter_heap _ _ _)
 rw [← hW2, ← hit, ← hrs]
 clear hW2 hit hne hrs hmk hm
 go_loopg [5] rs.size (fun kq s5 wr => ∃ (pos : Nat) (pt : Int), kq = rs.size - pos ∧ s5 = .int .i64 pt ∧ Hid (PInv (B rs) pos pt) ∧ Hid (wr.heap[it]? = some (.stringIter rs pos)) ∧ Hid (RSt w wr gb (⟨#[]⟩ : ByteArray) 0 0 0 0))
 case atStart => exact ⟨0, -1, rfl, rfl, PInv.start _, HI2.out, M2.out⟩
 case round =>
  obtain ⟨pos, pt, hk, rfl, HI, HIT, HM⟩ := hrel
  by_cases hlt : pos < rs.size
  ·have hlB : pos < (B rs).length := by rw [B_length]; exact hlt
   obtain ⟨c, hc⟩ : ∃ c : Int, c = ((Utf8.decode rs pos).1 : Int) := ⟨_, rfl⟩
   obtain ⟨st, hst⟩ : ∃ st, st = (Utf8.decode rs pos).2 := ⟨_, rfl⟩
   have hnx := fun ty => run_next_any_at (P := Tryd.prog) wr it rs pos ty HIT.out hlt
   simp only [← hc, ← hst] at hnx
   have hby : (rs[pos]'hlt).toNat = ((B rs).getD pos 0).toNat := by rw [hu_byte rs pos hlt]; rfl
   have hcs : (c = (((B rs).getD pos 0).toNat : Int) ∧ st = 1) ∨ (128 ≤ ((B rs).getD pos 0).toNat ∧ 128 ≤ c ∧ 1 ≤ st) := by
    by_cases ha : (rs[pos]'hlt).toNat < 128
    ·left
     rw [hc, hst, decode_ascii rs pos hlt ha, ← hby]
     exact ⟨rfl, rfl⟩
    ·right
     have hd := decode_high rs pos hlt (by omega)
     rw [← hby, hc, hst]
     exact ⟨by omega, by have := hd.1; omega, hd.2⟩
   have hst1 : 1 ≤ st := by rcases hcs with h | h <;> omega
   obtain ⟨W9, hW9⟩ : ∃ W9, W9 = wr.iterAt it rs (pos + st) := ⟨_, rfl⟩
   have HI9 : Hid (W9.heap[it]? = some (.stringIter rs (pos + st))) := Lib.hid (by rw [hW9]; exact iterAt_heap wr it rs pos _ HIT.out)
   have HM9 : Hid (RSt w W9 gb (⟨#[]⟩ : ByteArray) 0 0 0 0) := Lib.hid (by rw [hW9]; exact ⟨below_iterAt HM.out.B HIW.out rs _, (iterAt_other wr it gb rs _ HNE.out).trans HM.out.C, HM.out.lo⟩)
   rw [← hW9] at hnx
   clear hW9 hc hst hby
   have HLB := Lib.hid hlB
   have HCS := Lib.hid hcs
   clear hlB hcs
   by_cases h46 : c = 46
   ·have hb46 : ((B rs).getD pos 0).toNat = 46 := by rcases HCS.out with h | h <;> omega
    have hs1 : st = 1 := by rcases HCS.out with h | h <;> omega
    subst hs1
    have HB46 := Lib.hid hb46
    subst h46
    clear hb46
    by_cases hp : 0 ≤ pt
    ·obtain ⟨rfl, rfl, rfl, rfl, rfl, rfl⟩ := tokBad_inj (inv_two HI.out HLB.out HB46.out hp HH.out)
     have W9q0 : W9.cell? ⟨gb, 0, none⟩ = some (.string (⟨#[]⟩ : ByteArray)) := (blk_cell HM9.out.C 0).trans rfl
     have W9r0 := blk_frozen HM9.out.C 0
     have W9q1 : W9.cell? ⟨gb, 1, none⟩ = some (.int .i64 0) := (blk_cell HM9.out.C 1).trans rfl
     have W9r1 := blk_frozen HM9.out.C 1
     have W9q2 : W9.cell? ⟨gb, 2, none⟩ = some (.int .i64 0) := (blk_cell HM9.out.C 2).trans rfl
     have W9r2 := blk_frozen HM9.out.C 2
     have W9q3 : W9.cell? ⟨gb, 3, none⟩ = some (.int .u8 0) := (blk_cell HM9.out.C 3).trans rfl
     have W9r3 := blk_frozen HM9.out.C 3
     have W9q4 : W9.cell? ⟨gb, 4, none⟩ = some (.int .u64 0) := (blk_cell HM9.out.C 4).trans rfl
     have W9r4 := blk_frozen HM9.out.C 4
     go_wp2_with fail
     (try rw [Exit.noGoto_ret]); refine bodyPost_ret (results_ct rfl _ _ gb 26 #[.string (⟨#[]⟩ : ByteArray), .int .i64 0, .int .i64 0, .int .u8 0, .int .u64 0] (0, 0) _ rfl (HM9.out.put (⟨#[]⟩ : ByteArray) 0 0 0 0).C Tryd.underlying26 rfl (by kernel_rfl)) rfl ?_; exact ⟨rfl, (HM9.out.put (⟨#[]⟩ : ByteArray) 0 0 0 0).B⟩
    ·have hI2 := HI.out.dot HLB.out HB46.out (by omega)
     have HI2' := Lib.hid hI2
     clear hI2
     go_wp2_with fail
     go_roundg (gk - 1)
     case measure => omega
     case rel => exact ⟨pos + 1, (pos : Int), by omega, rfl, HI2'.out, HI9.out, HM9.out⟩
   ·have hn46 : (c != 46) = true := by simp [h46]
    have hI2 : PInv (B rs) (pos + st) pt := by
     rcases HCS.out with h | h
     ·rw [h.2]
      exact HI.out.other HLB.out (by omega)
     ·exact HI.out.high HLB.out h.1 _
    have HI2' := Lib.hid hI2
    clear hI2
    go_wp2_with fail
    go_roundg (rs.size - (pos + st))
    case measure => omega
    case rel => exact ⟨pos + st, pt, rfl, rfl, HI2'.out, HI9.out, HM9.out⟩
  ·have hnx := fun ty => run_next_end_at (P := Tryd.prog) wr it rs pos ty HIT.out hlt
   have hend := inv_last HI.out (by rw [B_length]; omega) HH.out
   have wrq0 : wr.cell? ⟨gb, 0, none⟩ = some (.string (⟨#[]⟩ : ByteArray)) := (blk_cell HM.out.C 0).trans rfl
   have wrr0 := blk_frozen HM.out.C 0
   have wrq1 : wr.cell? ⟨gb, 1, none⟩ = some (.int .i64 0) := (blk_cell HM.out.C 1).trans rfl
   have wrr1 := blk_frozen HM.out.C 1
   have wrq2 : wr.cell? ⟨gb, 2, none⟩ = some (.int .i64 0) := (blk_cell HM.out.C 2).trans rfl
   have wrr2 := blk_frozen HM.out.C 2
   have wrq3 : wr.cell? ⟨gb, 3, none⟩ = some (.int .u8 0) := (blk_cell HM.out.C 3).trans rfl
   have wrr3 := blk_frozen HM.out.C 3
   have wrq4 : wr.cell? ⟨gb, 4, none⟩ = some (.int .u64 0) := (blk_cell HM.out.C 4).trans rfl
   have wrr4 := blk_frozen HM.out.C 4
   by_cases hp : pt < 0
   ·obtain ⟨rfl, rfl, rfl, rfl, rfl, rfl⟩ := tokBad_inj (hend.1 hp)
    clear hend
    go_wp2_with fail
    (try rw [Exit.noGoto_ret]); refine bodyPost_ret (results_ct rfl _ _ gb 26 #[.string (⟨#[]⟩ : ByteArray), .int .i64 0, .int .i64 0, .int .u8 0, .int .u64 0] (0, 0) _ rfl (HM.out.put (⟨#[]⟩ : ByteArray) 0 0 0 0).C Tryd.underlying26 rfl (by kernel_rfl)) rfl ?_; exact ⟨rfl, (HM.out.put (⟨#[]⟩ : ByteArray) 0 0 0 0).B⟩
   ·obtain ⟨p, rfl, hpl, hrest⟩ := hend.2 (by omega)
    clear hend
    have HRS := Lib.hid hrest
    clear hrest
    have hpi : (p : Int) ≤ (rs.size : Int) := by omega
    have hpw : IntKind.i64.wrap ((p : Int) + 1) = (p : Int) + 1 := IntWalk.i64_in _ (by have := HRL.out; omega)
    have hpt : ((p : Int) + 1).toNat = p + 1 := by omega
    have hpj : (p : Int) + 1 ≤ (rs.size : Int) := by omega
    obtain ⟨u1, e1, hu1⟩ : ∃ (u : List Int) (e : Int), unL (rs.extract 0 p).data.toList 0 0 [] = (u, e) := ⟨_, _, rfl⟩
    obtain ⟨u2, e2, hu2⟩ : ∃ (u : List Int) (e : Int), unL (rs.extract (p + 1) rs.size).data.toList 0 0 [] = (u, e) := ⟨_, _, rfl⟩
    have hr2 := HRS.out
    unfold tokRest at hr2
    rw [hu1, hu2] at hr2
    simp only at hr2
    have HR2 := Lib.hid hr2
    have HU1 : Hid (∀ W, Calls Tryd.prog 33 #[.string (rs.extract 0 p)] W fun e w' => ∃ A c, e = .returned (.tuple #[.slice A u1.length c, .int .i64 e1]) ∧ u1.length ≤ c ∧ (Kd.int .u8).C w' A u1.length u1 ∧ Below W.heap.size W w') := Lib.hid (fun W => by
     refine (unarmor_calls W (rs.extract 0 p) (by rw [ByteArray.size_extract]; have := HRL.out; omega) u1 e1 hu1).mono ?_
     rintro e w' ⟨v, rfl, hR, hB⟩
     obtain ⟨A, c, rfl, hc, hC⟩ := Kd.R_reads hR
     exact ⟨A, c, rfl, hc, hC, hB⟩)
    have HU2 : Hid (∀ W, Calls Tryd.prog 33 #[.string (rs.extract (p + 1) rs.size)] W fun e w' => ∃ A c, e = .returned (.tuple #[.slice A u2.length c, .int .i64 e2]) ∧ Below W.heap.size W w') := Lib.hid (fun W => by
     refine (unarmor_calls W (rs.extract (p + 1) rs.size) (by rw [ByteArray.size_extract]; have := HRL.out; omega) u2 e2 hu2).mono ?_
     rintro e w' ⟨v, rfl, hR, hB⟩
     obtain ⟨A, c, rfl, hc, hC⟩ := Kd.R_reads hR
     exact ⟨A, c, rfl, hB⟩)
    clear hu1 hu2 hr2 hp HRS
    go_upto_region 15 with (go_at_call 33; refine (HU1.out _).mono ?_; rintro e w5 ⟨A5, c5, rfl, hc5, hC5, hb⟩; have M5 := Lib.hid (HM.out.below hb); have HC5 := Lib.hid hC5; clear hb hC5)
    go_upto_region 16 with (go_at_call 33; refine (HU2.out _).mono ?_; rintro e w6 ⟨A6, c6, rfl, hb⟩; have M6 := Lib.hid (M5.out.below hb); have HC6 := Lib.hid (Kd.C_below HC5.out hb); clear hb)
    have w6q0 : w6.cell? ⟨gb, 0, none⟩ = some (.string (⟨#[]⟩ : ByteArray)) := (blk_cell M6.out.C 0).trans rfl
    have w6r0 := blk_frozen M6.out.C 0
    have w6q1 : w6.cell? ⟨gb, 1, none⟩ = some (.int .i64 0) := (blk_cell M6.out.C 1).trans rfl
    have w6r1 := blk_frozen M6.out.C 1
    have w6q2 : w6.cell? ⟨gb, 2, none⟩ = some (.int .i64 0) := (blk_cell M6.out.C 2).trans rfl
    have w6r2 := blk_frozen M6.out.C 2
    have w6q3 : w6.cell? ⟨gb, 3, none⟩ = some (.int .u8 0) := (blk_cell M6.out.C 3).trans rfl
    have w6r3 := blk_frozen M6.out.C 3
    have w6q4 : w6.cell? ⟨gb, 4, none⟩ = some (.int .u64 0) := (blk_cell M6.out.C 4).trans rfl
    have w6r4 := blk_frozen M6.out.C 4
    by_cases hg : e1 = 0 ∧ e2 = 0 ∧ u2.length = 32
    ·obtain ⟨rfl, rfl, h32⟩ := hg
     have hr3 := HR2.out
     rw [if_pos ⟨rfl, rfl, h32⟩] at hr3
     obtain ⟨⟨q1, q2, q3, q4, q5, q6⟩, hq, hr4⟩ := Option.bind_eq_some_iff.1 hr3
     have h32i : (u2.length : Int) = 32 := by omega
     have h32b : ((u2.length : Int) != 32) = false := by simp [h32]
     have HQ := Lib.hid hq
     have HR4 := Lib.hid hr4
     clear hr3 hq hr4 h32 HR2 h32i
     cases q6 with
     | false =>
      have hr5 := HR4.out
      rw [if_neg Bool.false_ne_true] at hr5
      obtain ⟨rfl, rfl, rfl, rfl, rfl, rfl⟩ := tokBad_inj hr5
      clear hr5
      go_upto_region 19 with (go_at_call 34; refine (token_parse.calls k A5 c5 u1 q1 q2 q3 q4 q5 false _ HC6.out hc5 HQ.out).mono ?_; rintro e w7 ⟨rfl, hb⟩; have M7 := Lib.hid (M6.out.below hb); clear hb)
      obtain ⟨W8, hW8⟩ : ∃ W8, W8 = w7.alloc (.cells #[.string q1, .int .i64 q2, .int .i64 q3, .int .u8 q4, .int .u64 q5] 26) := ⟨_, rfl⟩
      have M8 : Hid (RSt w W8 gb (⟨#[]⟩ : ByteArray) 0 0 0 0) := Lib.hid (by rw [hW8]; exact M7.out.below (below_alloc (Below.refl _ _) _))
      have C8 : Hid (W8.heap[w7.heap.size]? = some (.cells #[.string q1, .int .i64 q2, .int .i64 q3, .int .u8 q4, .int .u64 q5] 26 (0, 0))) := Lib.hid (by rw [hW8]; exact blk_new _ _)
      rw [← hW8]
      clear hW8
      obtain ⟨g8, hg8⟩ : ∃ g, g = w7.heap.size := ⟨_, rfl⟩
      rw [← hg8] at C8
      rw [← hg8]
      clear hg8
      have W8q0 : W8.cell? ⟨gb, 0, none⟩ = some (.string (⟨#[]⟩ : ByteArray)) := (blk_cell M8.out.C 0).trans rfl
      have W8r0 := blk_frozen M8.out.C 0
      have W8q1 : W8.cell? ⟨gb, 1, none⟩ = some (.int .i64 0) := (blk_cell M8.out.C 1).trans rfl
      have W8r1 := blk_frozen M8.out.C 1
      have W8q2 : W8.cell? ⟨gb, 2, none⟩ = some (.int .i64 0) := (blk_cell M8.out.C 2).trans rfl
      have W8r2 := blk_frozen M8.out.C 2
      have W8q3 : W8.cell? ⟨gb, 3, none⟩ = some (.int .u8 0) := (blk_cell M8.out.C 3).trans rfl
      have W8r3 := blk_frozen M8.out.C 3
      have W8q4 : W8.cell? ⟨gb, 4, none⟩ = some (.int .u64 0) := (blk_cell M8.out.C 4).trans rfl
      have W8r4 := blk_frozen M8.out.C 4
      have d0 : W8.cell? ⟨g8, 0, none⟩ = some (.string q1) := (blk_cell C8.out 0).trans rfl
      have d1 : W8.cell? ⟨g8, 1, none⟩ = some (.int .i64 q2) := (blk_cell C8.out 1).trans rfl
      have d2 : W8.cell? ⟨g8, 2, none⟩ = some (.int .i64 q3) := (blk_cell C8.out 2).trans rfl
      have d3 : W8.cell? ⟨g8, 3, none⟩ = some (.int .u8 q4) := (blk_cell C8.out 3).trans rfl
      have d4 : W8.cell? ⟨g8, 4, none⟩ = some (.int .u64 q5) := (blk_cell C8.out 4).trans rfl
      go_wp2_with fail
      (try rw [Exit.noGoto_ret]); refine bodyPost_ret (results_ct rfl _ _ gb 26 #[.string (⟨#[]⟩ : ByteArray), .int .i64 0, .int .i64 0, .int .u8 0, .int .u64 0] (0, 0) _ rfl (M8.out.put (⟨#[]⟩ : ByteArray) 0 0 0 0).C Tryd.underlying26 rfl (by kernel_rfl)) rfl ?_; exact ⟨rfl, (M8.out.put (⟨#[]⟩ : ByteArray) 0 0 0 0).B⟩
     | true =>
      have hr5 := HR4.out
      rw [if_pos rfl] at hr5
      obtain ⟨rfl, rfl, rfl, rfl, rfl, rfl⟩ : q1 = r1 ∧ q2 = r2 ∧ q3 = r3 ∧ q4 = r4 ∧ q5 = r5 ∧ 0 = r6 := by simpa using hr5
      clear hr5
      go_upto_region 19 with (go_at_call 34; refine (token_parse.calls k A5 c5 u1 q1 q2 q3 q4 q5 true _ HC6.out hc5 HQ.out).mono ?_; rintro e w7 ⟨rfl, hb⟩; have M7 := Lib.hid (M6.out.below hb); clear hb)
      obtain ⟨W8, hW8⟩ : ∃ W8, W8 = w7.alloc (.cells #[.string q1, .int .i64 q2, .int .i64 q3, .int .u8 q4, .int .u64 q5] 26) := ⟨_, rfl⟩
      have M8 : Hid (RSt w W8 gb (⟨#[]⟩ : ByteArray) 0 0 0 0) := Lib.hid (by rw [hW8]; exact M7.out.below (below_alloc (Below.refl _ _) _))
      have C8 : Hid (W8.heap[w7.heap.size]? = some (.cells #[.string q1, .int .i64 q2, .int .i64 q3, .int .u8 q4, .int .u64 q5] 26 (0, 0))) := Lib.hid (by rw [hW8]; exact blk_new _ _)
      rw [← hW8]
      clear hW8
      obtain ⟨g8, hg8⟩ : ∃ g, g = w7.heap.size := ⟨_, rfl⟩
      rw [← hg8] at C8
      rw [← hg8]
      clear hg8
      have W8q0 : W8.cell? ⟨gb, 0, none⟩ = some (.string (⟨#[]⟩ : ByteArray)) := (blk_cell M8.out.C 0).trans rfl
      have W8r0 := blk_frozen M8.out.C 0
      have W8q1 : W8.cell? ⟨gb, 1, none⟩ = some (.int .i64 0) := (blk_cell M8.out.C 1).trans rfl
      have W8r1 := blk_frozen M8.out.C 1
      have W8q2 : W8.cell? ⟨gb, 2, none⟩ = some (.int .i64 0) := (blk_cell M8.out.C 2).trans rfl
      have W8r2 := blk_frozen M8.out.C 2
      have W8q3 : W8.cell? ⟨gb, 3, none⟩ = some (.int .u8 0) := (blk_cell M8.out.C 3).trans rfl
      have W8r3 := blk_frozen M8.out.C 3
      have W8q4 : W8.cell? ⟨gb, 4, none⟩ = some (.int .u64 0) := (blk_cell M8.out.C 4).trans rfl
      have W8r4 := blk_frozen M8.out.C 4
      have d0 : W8.cell? ⟨g8, 0, none⟩ = some (.string q1) := (blk_cell C8.out 0).trans rfl
      have d1 : W8.cell? ⟨g8, 1, none⟩ = some (.int .i64 q2) := (blk_cell C8.out 1).trans rfl
      have d2 : W8.cell? ⟨g8, 2, none⟩ = some (.int .i64 q3) := (blk_cell C8.out 2).trans rfl
      have d3 : W8.cell? ⟨g8, 3, none⟩ = some (.int .u8 q4) := (blk_cell C8.out 3).trans rfl
      have d4 : W8.cell? ⟨g8, 4, none⟩ = some (.int .u64 q5) := (blk_cell C8.out 4).trans rfl
      go_wp2_with fail
      (try rw [Exit.noGoto_ret]); refine bodyPost_ret (results_ct rfl _ _ gb 26 #[.string q1, .int .i64 q2, .int .i64 q3, .int .u8 q4, .int .u64 q5] (0, 0) _ rfl (M8.out.put q1 q2 q3 q4 q5).C Tryd.underlying26 rfl (by kernel_rfl)) rfl ?_; exact ⟨rfl, (M8.out.put q1 q2 q3 q4 q5).B⟩
    ·have hr3 := HR2.out
     rw [if_neg hg] at hr3
     obtain ⟨rfl, rfl, rfl, rfl, rfl, rfl⟩ := tokBad_inj hr3
     clear hr3
     by_cases g1 : e1 = 0
     ·by_cases g2 : e2 = 0
      ·have g3 : ((u2.length : Int) != 32) = true := by
        have : ¬ u2.length = 32 := fun h => hg ⟨g1, g2, h⟩
        simp; omega
       have g1b : (e1 != 0) = false := by simp [g1]
       have g2b : (e2 != 0) = false := by simp [g2]
       clear hg g1 g2
       go_wp2_with fail
       (try rw [Exit.noGoto_ret]); refine bodyPost_ret (results_ct rfl _ _ gb 26 #[.string (⟨#[]⟩ : ByteArray), .int .i64 0, .int .i64 0, .int .u8 0, .int .u64 0] (0, 0) _ rfl (M6.out.put (⟨#[]⟩ : ByteArray) 0 0 0 0).C Tryd.underlying26 rfl (by kernel_rfl)) rfl ?_; exact ⟨rfl, (M6.out.put (⟨#[]⟩ : ByteArray) 0 0 0 0).B⟩
      ·have g1b : (e1 != 0) = false := by simp [g1]
       have g2b : (e2 != 0) = true := by simp [g2]
       clear hg g1 g2
       go_wp2_with fail
       (try rw [Exit.noGoto_ret]); refine bodyPost_ret (results_ct rfl _ _ gb 26 #[.string (⟨#[]⟩ : ByteArray), .int .i64 0, .int .i64 0, .int .u8 0, .int .u64 0] (0, 0) _ rfl (M6.out.put (⟨#[]⟩ : ByteArray) 0 0 0 0).C Tryd.underlying26 rfl (by kernel_rfl)) rfl ?_; exact ⟨rfl, (M6.out.put (⟨#[]⟩ : ByteArray) 0 0 0 0).B⟩
     ·have g1b : (e1 != 0) = true := by simp [g1]
      clear hg g1
      go_wp2_with fail
      (try rw [Exit.noGoto_ret]); refine bodyPost_ret (results_ct rfl _ _ gb 26 #[.string (⟨#[]⟩ : ByteArray), .int .i64 0, .int .i64 0, .int .u8 0, .int .u64 0] (0, 0) _ rfl (M6.out.put (⟨#[]⟩ : ByteArray) 0 0 0 0).C Tryd.underlying26 rfl (by kernel_rfl)) rfl ?_; exact ⟨rfl, (M6.out.put (⟨#[]⟩ : ByteArray) 0 0 0 0).B⟩
end
def token_Read.f (k : Nat) (a0 : ByteArray) : Option (ByteArray × Int × Int × Int × Int × Int) := tokRead k a0
theorem token_Read.mono : ∀ a0 k, LeO (token_Read.f k a0) (token_Read.f (k + 1) a0) := tokRead.mono
theorem token_Read.calls (k : Nat) (a0 : ByteArray) (r1 : ByteArray) (r2 : Int) (r3 : Int) (r4 : Int) (r5 : Int) (r6 : Int) (w : World) (h : token_Read.f k a0 = some (r1, r2, r3, r4, r5, r6)) :
  Calls Tryd.prog 18 #[.string a0] w fun e w' => e = .returned (.tuple #[.agg #[.string r1, .int .i64 r2, .int .i64 r3, .int .u8 r4, .int .u64 r5], .int .i64 r6]) ∧ Below w.heap.size w w' := tokRead_calls k a0 r1 r2 r3 r4 r5 r6 w h
end Go.Proofs.YtkkomfomjpcbfaaDoor.PTS
