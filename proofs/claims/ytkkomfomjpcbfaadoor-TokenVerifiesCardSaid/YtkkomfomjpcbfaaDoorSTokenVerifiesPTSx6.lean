import Derived.Test.YtkkomfomjpcbfaaDoorSTokenVerifiesH14
import Derived.Test.YtkkomfomjpcbfaaDoorSTokenVerifiesPTSx4
import Derived.Laws.RangeAny
import Derived.Lib.OthersKept
import Derived.Test.YtkkomfomjpcbfaaDoorSTokenVerifiesE1
import Derived.Test.YtkkomfomjpcbfaaDoorSTokenVerifiesWGuard
import Derived.Test.YtkkomfomjpcbfaaDoorSTokenVerifiesTM
import Derived.Test.YtkkomfomjpcbfaaDoorSTokenVerifiesTT
import Derived.Test.YtkkomfomjpcbfaaDoorSTokenVerifiesY
import Derived.Test.YtkkomfomjpcbfaaDoorSTokenVerifiesPTSx2
namespace Go.Proofs.YtkkomfomjpcbfaaDoor.Bq
end Go.Proofs.YtkkomfomjpcbfaaDoor.Bq
set_option linter.unusedVariables false
set_option linter.unusedSimpArgs false
section
namespace Go.Proofs.YtkkomfomjpcbfaaDoor.PTS
open Go.RowKit Go.Proofs.YtkkomfomjpcbfaaDoorW.PrintWords Go.Proofs.YtkkomfomjpcbfaaDoorW.PrintLast Go.Proofs.YtkkomfomjpcbfaaDoorW.PrintMore
attribute [local go_sem] kQ kO kW kV kG kF kP kN
section
open Go Go.RowKit Go.Lib Go.Proofs.YtkkomfomjpcbfaaDoor Go.Proofs.YtkkomfomjpcbfaaDoor.Pu Go.Proofs.YtkkomfomjpcbfaaDoorW.PrintWords Go.Proofs.YtkkomfomjpcbfaaDoorW.PrintLast Go.Proofs.YtkkomfomjpcbfaaDoorW.PrintMore Bq
attribute [local go_sem ↓] Go.wp_at_zero Go.wp_at_succ
abbrev Clm := ByteArray × Int × Int × Int × Int × Int
def tokBad : Clm := ((⟨#[]⟩ : ByteArray), 0, 0, 0, 0, 8)
def tokRest (k : Nat) (rest : ByteArray) (p : Nat) : Option Clm :=
 if (unL (rest.extract 0 p).data.toList 0 0 []).2 = 0 ∧ (unL (rest.extract (p + 1) rest.size).data.toList 0 0 []).2 = 0 ∧ (unL (rest.extract (p + 1) rest.size).data.toList 0 0 []).1.length = 32 then
  (token_parse.f k (unL (rest.extract 0 p).data.toList 0 0 []).1).bind fun c => if c.2.2.2.2.2 = true then some (c.1, c.2.1, c.2.2.1, c.2.2.2.1, c.2.2.2.2.1, 0) else some tokBad
 else some tokBad
def tokPoint (k : Nat) (rest : ByteArray) : Option Int → Option Clm
 | none => some tokBad
 | some p => if p < 0 then some tokBad else tokRest k rest p.toNat
def tokRead (k : Nat) (s : ByteArray) : Option Clm :=
 if s.size ≤ 1000000 then (if s.size < 4 then some tokBad else if ((s.extract 0 4).toList == [109, 116, 49, 46]) = true then tokPoint k (s.extract 4 s.size) (ptL (s.extract 4 s.size).data.toList 0 (-1)) else some tokBad) else none
theorem tokRead.mono : ∀ a0 k, LeO (tokRead k a0) (tokRead (k + 1) a0) := by
 intro a0 k
 unfold tokRead
 split
 ·split
  ·exact LeO.refl _
  ·split
   ·cases h : ptL (a0.extract 4 a0.size).data.toList 0 (-1) with
    | none => exact LeO.refl _
    | some p =>
     unfold tokPoint
     simp only
     split
     ·exact LeO.refl _
     ·unfold tokRest
      split
      ·exact LeO.bind (token_parse.mono _ _) (fun c => LeO.refl _)
      ·exact LeO.refl _
   ·exact LeO.refl _
 ·exact LeO.refl _
theorem tokRest_bad {k : Nat} {rs : ByteArray} {p : Nat} (h : High (B rs)) (hp : p < (B rs).length) (hc : ((B rs).getD p 0).toNat = 46) : tokRest k rs p = some tokBad := by
 unfold tokRest
 rw [if_neg]; rintro ⟨h1, h2, _⟩
 rcases high_parts h p hp hc with e | e
 ·rw [e] at h1; cases h1
 ·rw [e] at h2; cases h2
theorem tokPoint_high {k : Nat} {rs : ByteArray} (h : High (B rs)) : tokPoint k rs (ptL (B rs) 0 (-1)) = some tokBad := by
 cases hp : ptL (B rs) 0 (-1) with
 | none => rfl
 | some p =>
  unfold tokPoint
  simp only
  split
  ·rfl
  ·rename_i h0
   rcases ptL_some _ _ _ _ hp with h1 | ⟨j, h1, h2, h3⟩
   ·omega
   ·rw [h3, Nat.zero_add, Int.toNat_natCast]
    exact tokRest_bad h h1 h2
theorem inv_two {k : Nat} {rs : ByteArray} {r : Option Clm} {pos : Nat} {pt : Int} (hI : PInv (B rs) pos pt) (hl : pos < (B rs).length) (hc : ((B rs).getD pos 0).toNat = 46) (h0 : 0 ≤ pt) (h : tokPoint k rs (ptL (B rs) 0 (-1)) = r) : some tokBad = r := by
 rcases hI.two hl hc h0 with e | e
 ·rw [← h, tokPoint_high e]
 ·rw [← h, e]; rfl
theorem inv_last {k : Nat} {rs : ByteArray} {r : Option Clm} {pos : Nat} {pt : Int} (hI : PInv (B rs) pos pt) (hl : (B rs).length ≤ pos) (h : tokPoint k rs (ptL (B rs) 0 (-1)) = r) :
  (pt < 0 → some tokBad = r) ∧ (0 ≤ pt → ∃ p : Nat, pt = (p : Int) ∧ p < rs.size ∧ tokRest k rs p = r) := by
 have hP := hI.1
 rcases hI.last hl with e | e
 ·rw [tokPoint_high e] at h; refine ⟨fun _ => h, fun h0 => ?_⟩
  rcases hP with h1 | ⟨p, h1, h2, h3⟩
  ·omega
  ·exact ⟨p, h1, by rw [← kD]; exact h2, by rw [tokRest_bad e h2 h3]; exact h⟩
 ·rw [e] at h
  unfold tokPoint at h
  simp only at h
  refine ⟨fun h0 => by rw [if_pos h0] at h; exact h, fun h0 => ?_⟩; rw [if_neg (by omega)] at h
  rcases hP with h1 | ⟨p, h1, h2, h3⟩
  ·omega
  ·exact ⟨p, h1, by rw [← kD]; exact h2, by rw [h1, Int.toNat_natCast] at h; exact h⟩
structure RSt (w W : World) (gb : Nat) (a : ByteArray) (b c d e : Int) : Prop where
 B : Below w.heap.size w W
 C : W.heap[gb]? = some (.cells #[.string a, .int .i64 b, .int .i64 c, .int .u8 d, .int .u64 e] 26 (0, 0))
 lo : w.heap.size ≤ gb
theorem RSt.below {w W W' : World} {gb : Nat} {a : ByteArray} {b c d e : Int} (h : RSt w W gb a b c d e) (hb : Below W.heap.size W W') : RSt w W' gb a b c d e :=
 ⟨h.B.trans (ks hb h.B.size), (hb.block gb (ky h.C)).trans h.C, h.lo⟩
theorem RSt.put {w W : World} {gb : Nat} {a : ByteArray} {b c d e : Int} (h : RSt w W gb a b c d e) (a' : ByteArray) (b' c' d' e' : Int) :
  RSt w (((((W.setCell ⟨gb, 0, none⟩ (.string a')).setCell ⟨gb, 1, none⟩ (.int .i64 b')).setCell ⟨gb, 2, none⟩ (.int .i64 c')).setCell ⟨gb, 3, none⟩ (.int .u8 d')).setCell ⟨gb, 4, none⟩ (.int .u64 e')) gb a' b' c' d' e' := by
 refine ⟨?_, ?_, h.lo⟩
 ·exact ((((h.B.setCell (p := ⟨gb, 0, none⟩) h.lo _).setCell (p := ⟨gb, 1, none⟩) h.lo _).setCell (p := ⟨gb, 2, none⟩) h.lo _).setCell (p := ⟨gb, 3, none⟩) h.lo _).setCell (p := ⟨gb, 4, none⟩) h.lo _
 ·exact kp (kp (kp (kp (kp h.C 0 _ rfl) 1 _ rfl) 2 _ rfl) 3 _ rfl) 4 _ rfl
theorem tokBad_inj {r1 : ByteArray} {r2 r3 r4 r5 r6 : Int} (h : some tokBad = some (r1, r2, r3, r4, r5, r6)) : (⟨#[]⟩ : ByteArray) = r1 ∧ 0 = r2 ∧ 0 = r3 ∧ 0 = r4 ∧ 0 = r5 ∧ 8 = r6 := by
 simpa [tokBad] using h
set_option maxRecDepth 20000 in
set_option maxHeartbeats 8000000 in
theorem tokRead_calls (k : Nat) (a0 : ByteArray) (r1 : ByteArray) (r2 : Int) (r3 : Int) (r4 : Int) (r5 : Int) (r6 : Int) (w : World) (h : tokRead k a0 = some (r1, r2, r3, r4, r5, r6)) :
  Calls Tryd.prog 18 #[.string a0] w fun e w' => e = .returned (.tuple #[.agg #[.string r1, .int .i64 r2, .int .i64 r3, .int .u8 r4, .int .u64 r5], .int .i64 r6]) ∧ Below w.heap.size w w' := by
 have hu26 := Tryd.underlying26
 unfold tokRead at h
 by_cases hs : a0.size ≤ 1000000
 case neg =>
  rw [if_neg hs] at h
  cases h
 rw [if_pos hs] at h; have HS := Lib.hid hs; clear hs; go_enter Tryd.func18, Tryd.ntmps18
 go_upto_region 1 with fail
 obtain ⟨W1, hW1⟩ : ∃ W1, W1 = w.alloc (.cells #[.string (⟨#[]⟩ : ByteArray), .int .i64 0, .int .i64 0, .int .u8 0, .int .u64 0] 26) := ⟨_, rfl⟩
 have m1 : RSt w W1 w.heap.size (⟨#[]⟩ : ByteArray) 0 0 0 0 := by
  rw [hW1]
  exact ⟨(Below.refl _ w).alloc (Nat.le_refl _) _, kC w _, Nat.le_refl _⟩
 change Code.wp _ _ _ _ (w.alloc (.cells #[.string (⟨#[]⟩ : ByteArray), .int .i64 0, .int .i64 0, .int .u8 0, .int .u64 0] 26))
 rw [← hW1]; clear hW1; obtain ⟨gb, hgb⟩ : ∃ g, g = w.heap.size := ⟨_, rfl⟩; rw [← hgb] at m1; rw [← hgb]; clear hgb; have M1 := Lib.hid m1; clear m1; have W1q0 : W1.cell? ⟨gb, 0, none⟩ = some (.string (⟨#[]⟩ : ByteArray)) := (ka M1.out.C 0).trans rfl; have W1r0 := kc M1.out.C 0; have W1q1 : W1.cell? ⟨gb, 1, none⟩ = some (.int .i64 0) := (ka M1.out.C 1).trans rfl; have W1r1 := kc M1.out.C 1; have W1q2 : W1.cell? ⟨gb, 2, none⟩ = some (.int .i64 0) := (ka M1.out.C 2).trans rfl; have W1r2 := kc M1.out.C 2; have W1q3 : W1.cell? ⟨gb, 3, none⟩ = some (.int .u8 0) := (ka M1.out.C 3).trans rfl; have W1r3 := kc M1.out.C 3; have W1q4 : W1.cell? ⟨gb, 4, none⟩ = some (.int .u64 0) := (ka M1.out.C 4).trans rfl; have W1r4 := kc M1.out.C 4
 go_step3
 by_cases h4 : a0.size < 4
 ·rw [if_pos h4] at h; obtain ⟨rfl, rfl, rfl, rfl, rfl, rfl⟩ := tokBad_inj h
  have h4i : (a0.size : Int) < 4 := by omega
  clear h
  go_wp2_with fail
  (try rw [Exit.noGoto_ret]); refine bodyPost_ret (ku rfl _ _ gb 26 #[.string (⟨#[]⟩ : ByteArray), .int .i64 0, .int .i64 0, .int .u8 0, .int .u64 0] (0, 0) _ rfl (M1.out.put (⟨#[]⟩ : ByteArray) 0 0 0 0).C Tryd.underlying26 rfl (by kernel_rfl)) rfl ?_; exact ⟨rfl, (M1.out.put (⟨#[]⟩ : ByteArray) 0 0 0 0).B⟩
 rw [if_neg h4] at h
 have h4i : ¬ (a0.size : Int) < 4 := by omega
 have h4j : (4 : Int) ≤ (a0.size : Int) := by omega
 obtain ⟨mk, hmk⟩ : ∃ mk, mk = a0.extract 0 4 := ⟨_, rfl⟩; obtain ⟨rs, hrs⟩ : ∃ rs, rs = a0.extract 4 a0.size := ⟨_, rfl⟩; rw [← hmk, ← hrs] at h
 cases hm : (mk.toList == [109, 116, 49, 46]) with
 | false =>
  rw [hm, if_neg (by decide)] at h; obtain ⟨rfl, rfl, rfl, rfl, rfl, rfl⟩ := tokBad_inj h; rw [hmk] at hm; clear h hmk hrs
  go_wp2_with fail
  (try rw [Exit.noGoto_ret]); refine bodyPost_ret (ku rfl _ _ gb 26 #[.string (⟨#[]⟩ : ByteArray), .int .i64 0, .int .i64 0, .int .u8 0, .int .u64 0] (0, 0) _ rfl (M1.out.put (⟨#[]⟩ : ByteArray) 0 0 0 0).C Tryd.underlying26 rfl (by kernel_rfl)) rfl ?_; exact ⟨rfl, (M1.out.put (⟨#[]⟩ : ByteArray) 0 0 0 0).B⟩
 | true =>
 rw [hm, if_pos rfl] at h; rw [hmk] at hm
 have hrl : rs.size ≤ 1000000 := by rw [hrs, ByteArray.size_extract]; have := HS.out; omega
 have HRL := Lib.hid hrl; have HH := Lib.hid h; clear h
 go_upto_region 5 with fail
 go_step3
 go_wp2_with fail
 obtain ⟨it, hit⟩ : ∃ it, it = W1.heap.size := ⟨_, rfl⟩
 have hne : gb ≠ it := by rw [hit]; exact Nat.ne_of_lt (ky M1.out.C)
 have HNE := Lib.hid hne; have HIW : Hid (w.heap.size ≤ it) := Lib.hid (by rw [hit]; exact M1.out.B.size); obtain ⟨W2, hW2⟩ : ∃ W2, W2 = W1.iter (a0.extract 4 a0.size) 0 := ⟨_, rfl⟩; have M2 : Hid (RSt w W2 gb (⟨#[]⟩ : ByteArray) 0 0 0 0) := Lib.hid (by rw [hW2]; exact M1.out.below (kt (Below.refl _ _) _)); have HI2 : Hid (W2.heap[it]? = some (.stringIter rs 0)) := Lib.hid (by rw [hW2, hit, ← hrs]; exact World.iter_heap _ _ _); rw [← hW2, ← hit, ← hrs]; clear hW2 hit hne hrs hmk hm
 go_loopg [5] rs.size (fun kq s5 wr => ∃ (pos : Nat) (pt : Int), kq = rs.size - pos ∧ s5 = .int .i64 pt ∧ Hid (PInv (B rs) pos pt) ∧ Hid (wr.heap[it]? = some (.stringIter rs pos)) ∧ Hid (RSt w wr gb (⟨#[]⟩ : ByteArray) 0 0 0 0))
 case atStart => exact ⟨0, -1, rfl, rfl, PInv.start _, HI2.out, M2.out⟩
 case round =>
  obtain ⟨pos, pt, hk, rfl, HI, HIT, HM⟩ := hrel
  by_cases hlt : pos < rs.size
  ·have hlB : pos < (B rs).length := by rw [kD]; exact hlt
   obtain ⟨c, hc⟩ : ∃ c : Int, c = ((Utf8.decode rs pos).1 : Int) := ⟨_, rfl⟩; obtain ⟨st, hst⟩ : ∃ st, st = (Utf8.decode rs pos).2 := ⟨_, rfl⟩
   have hnx := fun ty => run_next_any_at (P := Tryd.prog) wr it rs pos ty HIT.out hlt
   simp only [← hc, ← hst] at hnx
   have hby : (rs[pos]'hlt).toNat = ((B rs).getD pos 0).toNat := by rw [hu_byte rs pos hlt]; rfl
   have hcs : (c = (((B rs).getD pos 0).toNat : Int) ∧ st = 1) ∨ (128 ≤ ((B rs).getD pos 0).toNat ∧ 128 ≤ c ∧ 1 ≤ st) := by
    by_cases ha : (rs[pos]'hlt).toNat < 128
    ·left
     rw [hc, hst, decode_ascii rs pos hlt ha, ← hby]
     exact ⟨rfl, rfl⟩
    ·right
     have hd := decode_high rs pos hlt (by omega); rw [← hby, hc, hst]
     exact ⟨by omega, by have := hd.1; omega, hd.2⟩
   have hst1 : 1 ≤ st := by rcases hcs with h | h <;> omega
   obtain ⟨W9, hW9⟩ : ∃ W9, W9 = wr.iterAt it rs (pos + st) := ⟨_, rfl⟩; have HI9 : Hid (W9.heap[it]? = some (.stringIter rs (pos + st))) := Lib.hid (by rw [hW9]; exact iterAt_heap wr it rs pos _ HIT.out); have HM9 : Hid (RSt w W9 gb (⟨#[]⟩ : ByteArray) 0 0 0 0) := Lib.hid (by rw [hW9]; exact ⟨below_iterAt HM.out.B HIW.out rs _, (iterAt_other wr it gb rs _ HNE.out).trans HM.out.C, HM.out.lo⟩); rw [← hW9] at hnx
   clear hW9 hc hst hby
   have HLB := Lib.hid hlB; have HCS := Lib.hid hcs; clear hlB hcs
   by_cases h46 : c = 46
   ·have hb46 : ((B rs).getD pos 0).toNat = 46 := by rcases HCS.out with h | h <;> omega
    have hs1 : st = 1 := by rcases HCS.out with h | h <;> omega
    subst hs1; have HB46 := Lib.hid hb46; subst h46; clear hb46
    by_cases hp : 0 ≤ pt
    ·obtain ⟨rfl, rfl, rfl, rfl, rfl, rfl⟩ := tokBad_inj (inv_two HI.out HLB.out HB46.out hp HH.out); have W9q0 : W9.cell? ⟨gb, 0, none⟩ = some (.string (⟨#[]⟩ : ByteArray)) := (ka HM9.out.C 0).trans rfl; have W9r0 := kc HM9.out.C 0; have W9q1 : W9.cell? ⟨gb, 1, none⟩ = some (.int .i64 0) := (ka HM9.out.C 1).trans rfl; have W9r1 := kc HM9.out.C 1; have W9q2 : W9.cell? ⟨gb, 2, none⟩ = some (.int .i64 0) := (ka HM9.out.C 2).trans rfl; have W9r2 := kc HM9.out.C 2; have W9q3 : W9.cell? ⟨gb, 3, none⟩ = some (.int .u8 0) := (ka HM9.out.C 3).trans rfl; have W9r3 := kc HM9.out.C 3; have W9q4 : W9.cell? ⟨gb, 4, none⟩ = some (.int .u64 0) := (ka HM9.out.C 4).trans rfl; have W9r4 := kc HM9.out.C 4
     go_wp2_with fail
     (try rw [Exit.noGoto_ret]); refine bodyPost_ret (ku rfl _ _ gb 26 #[.string (⟨#[]⟩ : ByteArray), .int .i64 0, .int .i64 0, .int .u8 0, .int .u64 0] (0, 0) _ rfl (HM9.out.put (⟨#[]⟩ : ByteArray) 0 0 0 0).C Tryd.underlying26 rfl (by kernel_rfl)) rfl ?_; exact ⟨rfl, (HM9.out.put (⟨#[]⟩ : ByteArray) 0 0 0 0).B⟩
    ·have hI2 := HI.out.dot HLB.out HB46.out (by omega); have HI2' := Lib.hid hI2; clear hI2
     go_wp2_with fail
     go_roundg (gk - 1)
     case measure => omega
     case rel => exact ⟨pos + 1, (pos : Int), by omega, rfl, HI2'.out, HI9.out, HM9.out⟩
   ·have hn46 : (c != 46) = true := by simp [h46]
    have hI2 : PInv (B rs) (pos + st) pt := by
     rcases HCS.out with h | h
     ·rw [h.2]
      exact HI.out.other HLB.out (by omega)
     ·exact HI.out.high HLB.out h.1 _
    have HI2' := Lib.hid hI2; clear hI2
    go_wp2_with fail
    go_roundg (rs.size - (pos + st))
    case measure => omega
    case rel => exact ⟨pos + st, pt, rfl, rfl, HI2'.out, HI9.out, HM9.out⟩
  ·have hnx := fun ty => run_next_end_at (P := Tryd.prog) wr it rs pos ty HIT.out hlt
   have hend := inv_last HI.out (by rw [kD]; omega) HH.out; have wrq0 : wr.cell? ⟨gb, 0, none⟩ = some (.string (⟨#[]⟩ : ByteArray)) := (ka HM.out.C 0).trans rfl; have wrr0 := kc HM.out.C 0; have wrq1 : wr.cell? ⟨gb, 1, none⟩ = some (.int .i64 0) := (ka HM.out.C 1).trans rfl; have wrr1 := kc HM.out.C 1; have wrq2 : wr.cell? ⟨gb, 2, none⟩ = some (.int .i64 0) := (ka HM.out.C 2).trans rfl; have wrr2 := kc HM.out.C 2; have wrq3 : wr.cell? ⟨gb, 3, none⟩ = some (.int .u8 0) := (ka HM.out.C 3).trans rfl; have wrr3 := kc HM.out.C 3; have wrq4 : wr.cell? ⟨gb, 4, none⟩ = some (.int .u64 0) := (ka HM.out.C 4).trans rfl; have wrr4 := kc HM.out.C 4
   by_cases hp : pt < 0
   ·obtain ⟨rfl, rfl, rfl, rfl, rfl, rfl⟩ := tokBad_inj (hend.1 hp); clear hend
    go_wp2_with fail
    (try rw [Exit.noGoto_ret]); refine bodyPost_ret (ku rfl _ _ gb 26 #[.string (⟨#[]⟩ : ByteArray), .int .i64 0, .int .i64 0, .int .u8 0, .int .u64 0] (0, 0) _ rfl (HM.out.put (⟨#[]⟩ : ByteArray) 0 0 0 0).C Tryd.underlying26 rfl (by kernel_rfl)) rfl ?_; exact ⟨rfl, (HM.out.put (⟨#[]⟩ : ByteArray) 0 0 0 0).B⟩
   ·obtain ⟨p, rfl, hpl, hrest⟩ := hend.2 (by omega); clear hend; have HRS := Lib.hid hrest; clear hrest
    have hpi : (p : Int) ≤ (rs.size : Int) := by omega
    have hpw : IntKind.i64.wrap ((p : Int) + 1) = (p : Int) + 1 := IntWalk.i64_in _ (by have := HRL.out; omega)
    have hpt : ((p : Int) + 1).toNat = p + 1 := by omega
    have hpj : (p : Int) + 1 ≤ (rs.size : Int) := by omega
    obtain ⟨u1, e1, hu1⟩ : ∃ (u : List Int) (e : Int), unL (rs.extract 0 p).data.toList 0 0 [] = (u, e) := ⟨_, _, rfl⟩; obtain ⟨u2, e2, hu2⟩ : ∃ (u : List Int) (e : Int), unL (rs.extract (p + 1) rs.size).data.toList 0 0 [] = (u, e) := ⟨_, _, rfl⟩; have hr2 := HRS.out
    unfold tokRest at hr2
    rw [hu1, hu2] at hr2
    simp only at hr2
    have HR2 := Lib.hid hr2
    have HU1 : Hid (∀ W, Calls Tryd.prog 33 #[.string (rs.extract 0 p)] W fun e w' => ∃ A c, e = .returned (.tuple #[.slice A u1.length c, .int .i64 e1]) ∧ u1.length ≤ c ∧ (Kd.int .u8).C w' A u1.length u1 ∧ Below W.heap.size W w') := Lib.hid (fun W => by
     refine (unarmor_calls W (rs.extract 0 p) (by rw [ByteArray.size_extract]; have := HRL.out; omega) u1 e1 hu1).mono ?_; rintro e w' ⟨v, rfl, hR, hB⟩; obtain ⟨A, c, rfl, hc, hC⟩ := Kd.R_reads hR
     exact ⟨A, c, rfl, hc, hC, hB⟩)
    have HU2 : Hid (∀ W, Calls Tryd.prog 33 #[.string (rs.extract (p + 1) rs.size)] W fun e w' => ∃ A c, e = .returned (.tuple #[.slice A u2.length c, .int .i64 e2]) ∧ Below W.heap.size W w') := Lib.hid (fun W => by
     refine (unarmor_calls W (rs.extract (p + 1) rs.size) (by rw [ByteArray.size_extract]; have := HRL.out; omega) u2 e2 hu2).mono ?_; rintro e w' ⟨v, rfl, hR, hB⟩; obtain ⟨A, c, rfl, hc, hC⟩ := Kd.R_reads hR
     exact ⟨A, c, rfl, hB⟩)
    clear hu1 hu2 hr2 hp HRS
    go_upto_region 15 with (go_at_call 33; refine (HU1.out _).mono ?_; rintro e w5 ⟨A5, c5, rfl, hc5, hC5, hb⟩; have M5 := Lib.hid (HM.out.below hb); have HC5 := Lib.hid hC5; clear hb hC5)
    go_upto_region 16 with (go_at_call 33; refine (HU2.out _).mono ?_; rintro e w6 ⟨A6, c6, rfl, hb⟩; have M6 := Lib.hid (M5.out.below hb); have HC6 := Lib.hid (Kd.C_below HC5.out hb); clear hb)
    have w6q0 : w6.cell? ⟨gb, 0, none⟩ = some (.string (⟨#[]⟩ : ByteArray)) := (ka M6.out.C 0).trans rfl; have w6r0 := kc M6.out.C 0; have w6q1 : w6.cell? ⟨gb, 1, none⟩ = some (.int .i64 0) := (ka M6.out.C 1).trans rfl; have w6r1 := kc M6.out.C 1; have w6q2 : w6.cell? ⟨gb, 2, none⟩ = some (.int .i64 0) := (ka M6.out.C 2).trans rfl; have w6r2 := kc M6.out.C 2; have w6q3 : w6.cell? ⟨gb, 3, none⟩ = some (.int .u8 0) := (ka M6.out.C 3).trans rfl; have w6r3 := kc M6.out.C 3; have w6q4 : w6.cell? ⟨gb, 4, none⟩ = some (.int .u64 0) := (ka M6.out.C 4).trans rfl; have w6r4 := kc M6.out.C 4
    by_cases hg : e1 = 0 ∧ e2 = 0 ∧ u2.length = 32
    ·obtain ⟨rfl, rfl, h32⟩ := hg; have hr3 := HR2.out; rw [if_pos ⟨rfl, rfl, h32⟩] at hr3; obtain ⟨⟨q1, q2, q3, q4, q5, q6⟩, hq, hr4⟩ := Option.bind_eq_some_iff.1 hr3
     have h32i : (u2.length : Int) = 32 := by omega
     have h32b : ((u2.length : Int) != 32) = false := by simp [h32]
     have HQ := Lib.hid hq; have HR4 := Lib.hid hr4; clear hr3 hq hr4 h32 HR2 h32i
     cases q6 with
     | false =>
      have hr5 := HR4.out; rw [if_neg Bool.false_ne_true] at hr5; obtain ⟨rfl, rfl, rfl, rfl, rfl, rfl⟩ := tokBad_inj hr5; clear hr5
      go_upto_region 19 with (go_at_call 34; refine (token_parse.calls k A5 c5 u1 q1 q2 q3 q4 q5 false _ HC6.out hc5 HQ.out).mono ?_; rintro e w7 ⟨rfl, hb⟩; have M7 := Lib.hid (M6.out.below hb); clear hb)
      obtain ⟨W8, hW8⟩ : ∃ W8, W8 = w7.alloc (.cells #[.string q1, .int .i64 q2, .int .i64 q3, .int .u8 q4, .int .u64 q5] 26) := ⟨_, rfl⟩; have M8 : Hid (RSt w W8 gb (⟨#[]⟩ : ByteArray) 0 0 0 0) := Lib.hid (by rw [hW8]; exact M7.out.below (kt (Below.refl _ _) _)); have C8 : Hid (W8.heap[w7.heap.size]? = some (.cells #[.string q1, .int .i64 q2, .int .i64 q3, .int .u8 q4, .int .u64 q5] 26 (0, 0))) := Lib.hid (by rw [hW8]; exact kC _ _); rw [← hW8]; clear hW8; obtain ⟨g8, hg8⟩ : ∃ g, g = w7.heap.size := ⟨_, rfl⟩; rw [← hg8] at C8; rw [← hg8]; clear hg8; have W8q0 : W8.cell? ⟨gb, 0, none⟩ = some (.string (⟨#[]⟩ : ByteArray)) := (ka M8.out.C 0).trans rfl; have W8r0 := kc M8.out.C 0; have W8q1 : W8.cell? ⟨gb, 1, none⟩ = some (.int .i64 0) := (ka M8.out.C 1).trans rfl; have W8r1 := kc M8.out.C 1; have W8q2 : W8.cell? ⟨gb, 2, none⟩ = some (.int .i64 0) := (ka M8.out.C 2).trans rfl; have W8r2 := kc M8.out.C 2; have W8q3 : W8.cell? ⟨gb, 3, none⟩ = some (.int .u8 0) := (ka M8.out.C 3).trans rfl; have W8r3 := kc M8.out.C 3; have W8q4 : W8.cell? ⟨gb, 4, none⟩ = some (.int .u64 0) := (ka M8.out.C 4).trans rfl; have W8r4 := kc M8.out.C 4; have d0 : W8.cell? ⟨g8, 0, none⟩ = some (.string q1) := (ka C8.out 0).trans rfl; have d1 : W8.cell? ⟨g8, 1, none⟩ = some (.int .i64 q2) := (ka C8.out 1).trans rfl; have d2 : W8.cell? ⟨g8, 2, none⟩ = some (.int .i64 q3) := (ka C8.out 2).trans rfl; have d3 : W8.cell? ⟨g8, 3, none⟩ = some (.int .u8 q4) := (ka C8.out 3).trans rfl; have d4 : W8.cell? ⟨g8, 4, none⟩ = some (.int .u64 q5) := (ka C8.out 4).trans rfl
      go_wp2_with fail
      (try rw [Exit.noGoto_ret]); refine bodyPost_ret (ku rfl _ _ gb 26 #[.string (⟨#[]⟩ : ByteArray), .int .i64 0, .int .i64 0, .int .u8 0, .int .u64 0] (0, 0) _ rfl (M8.out.put (⟨#[]⟩ : ByteArray) 0 0 0 0).C Tryd.underlying26 rfl (by kernel_rfl)) rfl ?_; exact ⟨rfl, (M8.out.put (⟨#[]⟩ : ByteArray) 0 0 0 0).B⟩
     | true =>
      have hr5 := HR4.out; rw [if_pos rfl] at hr5
      obtain ⟨rfl, rfl, rfl, rfl, rfl, rfl⟩ : q1 = r1 ∧ q2 = r2 ∧ q3 = r3 ∧ q4 = r4 ∧ q5 = r5 ∧ 0 = r6 := by simpa using hr5
      clear hr5
      go_upto_region 19 with (go_at_call 34; refine (token_parse.calls k A5 c5 u1 q1 q2 q3 q4 q5 true _ HC6.out hc5 HQ.out).mono ?_; rintro e w7 ⟨rfl, hb⟩; have M7 := Lib.hid (M6.out.below hb); clear hb)
      obtain ⟨W8, hW8⟩ : ∃ W8, W8 = w7.alloc (.cells #[.string q1, .int .i64 q2, .int .i64 q3, .int .u8 q4, .int .u64 q5] 26) := ⟨_, rfl⟩; have M8 : Hid (RSt w W8 gb (⟨#[]⟩ : ByteArray) 0 0 0 0) := Lib.hid (by rw [hW8]; exact M7.out.below (kt (Below.refl _ _) _)); have C8 : Hid (W8.heap[w7.heap.size]? = some (.cells #[.string q1, .int .i64 q2, .int .i64 q3, .int .u8 q4, .int .u64 q5] 26 (0, 0))) := Lib.hid (by rw [hW8]; exact kC _ _); rw [← hW8]; clear hW8; obtain ⟨g8, hg8⟩ : ∃ g, g = w7.heap.size := ⟨_, rfl⟩; rw [← hg8] at C8; rw [← hg8]; clear hg8; have W8q0 : W8.cell? ⟨gb, 0, none⟩ = some (.string (⟨#[]⟩ : ByteArray)) := (ka M8.out.C 0).trans rfl; have W8r0 := kc M8.out.C 0; have W8q1 : W8.cell? ⟨gb, 1, none⟩ = some (.int .i64 0) := (ka M8.out.C 1).trans rfl; have W8r1 := kc M8.out.C 1; have W8q2 : W8.cell? ⟨gb, 2, none⟩ = some (.int .i64 0) := (ka M8.out.C 2).trans rfl; have W8r2 := kc M8.out.C 2; have W8q3 : W8.cell? ⟨gb, 3, none⟩ = some (.int .u8 0) := (ka M8.out.C 3).trans rfl; have W8r3 := kc M8.out.C 3; have W8q4 : W8.cell? ⟨gb, 4, none⟩ = some (.int .u64 0) := (ka M8.out.C 4).trans rfl; have W8r4 := kc M8.out.C 4; have d0 : W8.cell? ⟨g8, 0, none⟩ = some (.string q1) := (ka C8.out 0).trans rfl; have d1 : W8.cell? ⟨g8, 1, none⟩ = some (.int .i64 q2) := (ka C8.out 1).trans rfl; have d2 : W8.cell? ⟨g8, 2, none⟩ = some (.int .i64 q3) := (ka C8.out 2).trans rfl; have d3 : W8.cell? ⟨g8, 3, none⟩ = some (.int .u8 q4) := (ka C8.out 3).trans rfl; have d4 : W8.cell? ⟨g8, 4, none⟩ = some (.int .u64 q5) := (ka C8.out 4).trans rfl
      go_wp2_with fail
      (try rw [Exit.noGoto_ret]); refine bodyPost_ret (ku rfl _ _ gb 26 #[.string q1, .int .i64 q2, .int .i64 q3, .int .u8 q4, .int .u64 q5] (0, 0) _ rfl (M8.out.put q1 q2 q3 q4 q5).C Tryd.underlying26 rfl (by kernel_rfl)) rfl ?_; exact ⟨rfl, (M8.out.put q1 q2 q3 q4 q5).B⟩
    ·have hr3 := HR2.out; rw [if_neg hg] at hr3; obtain ⟨rfl, rfl, rfl, rfl, rfl, rfl⟩ := tokBad_inj hr3; clear hr3
     by_cases g1 : e1 = 0
     ·by_cases g2 : e2 = 0
      ·have g3 : ((u2.length : Int) != 32) = true := by
        have : ¬ u2.length = 32 := fun h => hg ⟨g1, g2, h⟩
        simp; omega
       have g1b : (e1 != 0) = false := by simp [g1]
       have g2b : (e2 != 0) = false := by simp [g2]
       clear hg g1 g2
       go_wp2_with fail
       (try rw [Exit.noGoto_ret]); refine bodyPost_ret (ku rfl _ _ gb 26 #[.string (⟨#[]⟩ : ByteArray), .int .i64 0, .int .i64 0, .int .u8 0, .int .u64 0] (0, 0) _ rfl (M6.out.put (⟨#[]⟩ : ByteArray) 0 0 0 0).C Tryd.underlying26 rfl (by kernel_rfl)) rfl ?_; exact ⟨rfl, (M6.out.put (⟨#[]⟩ : ByteArray) 0 0 0 0).B⟩
      ·have g1b : (e1 != 0) = false := by simp [g1]
       have g2b : (e2 != 0) = true := by simp [g2]
       clear hg g1 g2
       go_wp2_with fail
       (try rw [Exit.noGoto_ret]); refine bodyPost_ret (ku rfl _ _ gb 26 #[.string (⟨#[]⟩ : ByteArray), .int .i64 0, .int .i64 0, .int .u8 0, .int .u64 0] (0, 0) _ rfl (M6.out.put (⟨#[]⟩ : ByteArray) 0 0 0 0).C Tryd.underlying26 rfl (by kernel_rfl)) rfl ?_; exact ⟨rfl, (M6.out.put (⟨#[]⟩ : ByteArray) 0 0 0 0).B⟩
     ·have g1b : (e1 != 0) = true := by simp [g1]
      clear hg g1
      go_wp2_with fail
      (try rw [Exit.noGoto_ret]); refine bodyPost_ret (ku rfl _ _ gb 26 #[.string (⟨#[]⟩ : ByteArray), .int .i64 0, .int .i64 0, .int .u8 0, .int .u64 0] (0, 0) _ rfl (M6.out.put (⟨#[]⟩ : ByteArray) 0 0 0 0).C Tryd.underlying26 rfl (by kernel_rfl)) rfl ?_; exact ⟨rfl, (M6.out.put (⟨#[]⟩ : ByteArray) 0 0 0 0).B⟩
end
def token_Read.f (k : Nat) (a0 : ByteArray) : Option (ByteArray × Int × Int × Int × Int × Int) := tokRead k a0
theorem token_Read.mono : ∀ a0 k, LeO (token_Read.f k a0) (token_Read.f (k + 1) a0) := tokRead.mono
theorem token_Read.calls (k : Nat) (a0 : ByteArray) (r1 : ByteArray) (r2 : Int) (r3 : Int) (r4 : Int) (r5 : Int) (r6 : Int) (w : World) (h : token_Read.f k a0 = some (r1, r2, r3, r4, r5, r6)) :
  Calls Tryd.prog 18 #[.string a0] w fun e w' => e = .returned (.tuple #[.agg #[.string r1, .int .i64 r2, .int .i64 r3, .int .u8 r4, .int .u64 r5], .int .i64 r6]) ∧ Below w.heap.size w w' := tokRead_calls k a0 r1 r2 r3 r4 r5 r6 w h
end Go.Proofs.YtkkomfomjpcbfaaDoor.PTS
end
section
namespace Go.Proofs.YtkkomfomjpcbfaaDoor.PTS
open Go.RowKit Go.Proofs.YtkkomfomjpcbfaaDoorW.PrintWords Go.Proofs.YtkkomfomjpcbfaaDoorW.PrintLast Go.Proofs.YtkkomfomjpcbfaaDoorW.PrintMore
attribute [local go_sem] kQ kO kW kV kG kF kP kN
section
open Go Go.RowKit Go.Lib Go.Proofs.YtkkomfomjpcbfaaDoor Go.Proofs.YtkkomfomjpcbfaaDoor.Pu Go.Proofs.YtkkomfomjpcbfaaDoorW.PrintWords Go.Proofs.YtkkomfomjpcbfaaDoorW.PrintLast Go.Proofs.YtkkomfomjpcbfaaDoorW.PrintMore Bq
attribute [local go_sem ↓] Go.wp_at_zero Go.wp_at_succ
def lastD (l : List UInt8) : Nat → Option Nat
 | 0 => none
 | i + 1 => if (l.getD i 0).toNat = 46 then some i else lastD l i
def sumF (l : List UInt8) : List Int := match lastD l l.length with
 | none => List.replicate 32 0
 | some p => (unL (l.drop (p + 1)) 0 0 []).1.take 32 ++ List.replicate (32 - ((unL (l.drop (p + 1)) 0 0 []).1.take 32).length) 0
theorem sumF_length (l : List UInt8) : (sumF l).length = 32 := by
 unfold sumF
 split
 ·simp
 ·rw [List.length_append, List.length_replicate, List.length_take]
  omega
theorem unL_byts : ∀ (l : List UInt8) (X n : Nat) (out : List Int), Byts out → Byts (unL l X n out).1
 | [], X, n, out, h => by
  unfold unL
  split
  ·intro x hx; cases hx
  ·exact h
 | c :: l, X, n, out, h => by
  unfold unL
  cases hv : sixV (c.toNat : Int) with
  | none => intro x hx; cases hx
  | some v =>
   simp only
   split
   ·refine unL_byts l _ _ _ (fun x hx => ?_)
    rcases List.mem_append.1 hx with hx | hx
    ·exact h x hx
    ·rw [List.mem_singleton.1 hx]
     omega
   ·exact unL_byts l _ _ _ h
theorem sumF_byts (l : List UInt8) : Byts (sumF l) := by
 have hz : ∀ n, Byts (List.replicate n (0 : Int)) := fun n x hx => by
  rw [(List.mem_replicate.1 hx).2]
  omega
 unfold sumF
 split
 ·exact hz _
 ·intro x hx
  rcases List.mem_append.1 hx with hx | hx
  ·exact unL_byts _ _ _ _ (fun x hx => by cases hx) x (List.mem_of_mem_take hx)
  ·exact hz _ x hx
set_option maxRecDepth 20000 in
set_option maxHeartbeats 8000000 in
theorem sumOf_calls (w : World) (s : ByteArray) (hs : s.size ≤ 1000000) :
  Calls Tryd.prog 38 #[.string s] w fun e w' => e = .returned (.agg (nums .u8 (sumF (B s))).toArray) ∧ Below w.heap.size w w' := by
 have HS := Lib.hid hs; clear hs; obtain ⟨Z32, hZ32⟩ : ∃ Z, Z = List.replicate 32 (0 : Int) := ⟨_, rfl⟩; have HZ32 := Lib.hid hZ32; have HZL : Hid (Z32.length = 32) := Lib.hid (by rw [hZ32, List.length_replicate]); obtain ⟨R, hR⟩ : ∃ R, R = sumF (B s) := ⟨_, rfl⟩; rw [← hR]
 have hRl : R.length = 32 := by rw [hR, sumF_length]
 have HRL := Lib.hid hRl; have HR := Lib.hid hR; clear hR hRl; have hi64 : IntKind.i64.wrap ((s.size : Int) - 1) = (s.size : Int) - 1 := IntWalk.i64_in _ (by have := HS.out; omega); go_enter Tryd.func38, Tryd.ntmps38
 go_upto_region 2 with fail
 obtain ⟨W2, hW2⟩ : ∃ W2, W2 = ((w.alloc (.cells (nums .u8 (List.replicate 32 0)).toArray 50)).alloc (.cells (nums .u8 (List.replicate 32 0)).toArray 50)) := ⟨_, rfl⟩
 have k2 : Two w W2 (List.replicate 32 0) := by
  rw [hW2]; refine ⟨kd (kC w _) _, ?_, ((Below.refl _ w).alloc (Nat.le_refl _) _).alloc (by simp) _⟩; have h := kC (w.alloc (.cells (nums .u8 (List.replicate 32 0)).toArray 50)) (.cells (nums .u8 (List.replicate 32 0)).toArray 50); rw [World.size_alloc] at h
  exact h
 change Code.wp _ _ _ _ ((w.alloc (.cells (nums .u8 (List.replicate 32 0)).toArray 50)).alloc (.cells (nums .u8 (List.replicate 32 0)).toArray 50))
 rw [← hW2]; rw [← hZ32] at k2; have K2 := Lib.hid k2; clear hW2 k2 hZ32
 go_wp2_with fail
 go_loopg [4] s.size (fun kq s4 wr => s4 = .int .i64 ((kq : Int) - 1) ∧ kq ≤ s.size ∧ Hid (lastD (B s) kq = lastD (B s) s.size) ∧ Hid (Two w wr Z32))
 case atStart => exact ⟨rfl, Nat.le_refl _, rfl, K2.out⟩
 case round =>
  obtain ⟨rfl, hle, HL, HK⟩ := hrel
  cases gk with
  | zero =>
   have hz : lastD (B s) s.size = none := HL.out.symm
   have hRz : R = Z32 := by rw [HR.out, HZ32.out]; unfold sumF; rw [kD, hz]
   have HRZ := Lib.hid hRz; clear hz hRz
   go_upto_region 8 with fail
   have HD32 : Hid (Z32.length = 32) := HZL
   have hl9 : (nums .u8 Z32).length = 32 := by rw [nums_length, HD32.out]
   have hfin : Hid (Blk (putA wr w.heap.size .u8 Z32) w.heap.size .u8 50 Z32) := Lib.hid (HK.out.r.putA (by rw [HD32.out]; rfl)); have hbel : Hid (Below w.heap.size w (putA wr w.heap.size .u8 Z32)) := Lib.hid (putA_below HK.out.b (Nat.le_refl _))
   have hth : wr.there w.heap.size 0 (nums .u8 Z32).toArray.size := by
    have e : (nums .u8 Z32).toArray.size = 32 := by rw [List.size_toArray, hl9]
    rw [e]
    exact HK.out.r.there
   have hsz9 : (Tryd.prog.info? 50).map (·.size) = some (nums .u8 Z32).toArray.size := by
    have e : (nums .u8 Z32).toArray.size = 32 := by rw [List.size_toArray, hl9]
    have e2 : (Tryd.prog.info? 50).map (·.size) = some 32 := by kernel_rfl
    rw [e]
    exact e2
   refine wp_region_lit ?_; refine wpList_load_mid rfl _ _ rfl (w.heap.size + 1) 0 rfl (nums .u8 Z32) _ HK.out.o.range Tryd.underlying50 rfl (by rw [hl9]; kernel_rfl) ?_; refine wpList_store_mid rfl _ _ _ rfl w.heap.size 0 (nums .u8 Z32).toArray rfl rfl hth hsz9 (all_oneCell_toArray (nums_one .u8 Z32)) ?_; rw [List.toList_toArray]
   change wpList _ _ _ _ _ (putA wr w.heap.size .u8 Z32)
   go_wp2_with fail
   refine bodyPost_ret (results_cell_row rfl _ _ w.heap.size 50 (nums .u8 Z32).toArray (0, 0) _ rfl hfin.out Tryd.underlying50 rfl hsz9) rfl ⟨?_, hbel.out⟩; rw [HRZ.out]
  | succ i =>
   have hlt : i < s.size := by omega
   have hlB : i < (B s).length := by rw [kD]; exact hlt
   have e1 : (((i + 1 : Nat) : Int) - 1) = (i : Int) := by omega
   rw [e1]
   have hi0 : (0 : Int) ≤ (i : Int) := by omega
   have HBYT : Hid ((s[i]'hlt).toNat = ((B s).getD i 0).toNat) := Lib.hid (by rw [hu_byte s i hlt]; rfl); clear e1
   have hsi : (i : Int) < (s.size : Int) := by omega
   by_cases h46 : ((B s).getD i 0).toNat = 46
   ·have h46i : (((s[i]'hlt).toNat : Int) == 46) = true := by rw [HBYT.out, h46]; rfl
    have hiw : IntKind.i64.wrap ((i : Int) + 1) = (i : Int) + 1 := IntWalk.i64_in _ (by have := HS.out; omega)
    have hit : ((i : Int) + 1).toNat = i + 1 := by omega
    have hij : (i : Int) + 1 ≤ (s.size : Int) := by omega
    obtain ⟨u1, e1, hu1⟩ : ∃ (u : List Int) (e : Int), unL (s.extract (i + 1) s.size).data.toList 0 0 [] = (u, e) := ⟨_, _, rfl⟩
    have hRd : R = u1.take 32 ++ List.replicate (32 - (u1.take 32).length) 0 := by
     have hl : lastD (B s) s.size = some i := by
      have h := HL.out; rw [show lastD (B s) (i + 1) = if ((B s).getD i 0).toNat = 46 then some i else lastD (B s) i from rfl, if_pos h46] at h
      exact h.symm
     rw [HR.out]
     unfold sumF
     rw [kD, hl]
     simp only
     have e : (B s).drop (i + 1) = (s.extract (i + 1) s.size).data.toList := by
      show _ = B (s.extract (i + 1) s.size)
      rw [B_extract, ← kD, List.take_length]
     rw [e, hu1]
    have HRD := Lib.hid hRd
    have HU1 : Hid (∀ W, Calls Tryd.prog 33 #[.string (s.extract (i + 1) s.size)] W fun e w' => ∃ A c, e = .returned (.tuple #[.slice A u1.length c, .int .i64 e1]) ∧ u1.length ≤ c ∧ (Kd.int .u8).C w' A u1.length u1 ∧ Below W.heap.size W w') := Lib.hid (fun W => by
     refine (unarmor_calls W (s.extract (i + 1) s.size) (by rw [ByteArray.size_extract]; have := HS.out; omega) u1 e1 hu1).mono ?_; rintro e w' ⟨v, rfl, hR, hB⟩; obtain ⟨A, c, rfl, hc, hC⟩ := Kd.R_reads hR
     exact ⟨A, c, rfl, hc, hC, hB⟩)
    have H46 := Lib.hid h46; clear hu1 hRd h46
    go_upto_region 7 with (go_at_call 33; refine (HU1.out _).mono ?_; rintro e w5 ⟨A5, c5, rfl, hc5, hC5, hb⟩; have K5 := Lib.hid (HK.out.below hb); have HC5 := Lib.hid hC5; clear hb hC5)
    have hkk : w5.heap[w.heap.size + 1]? = some (.cells (nums .u8 Z32).toArray 50 (0, 0)) := K5.out.o; have HKK := Lib.hid hkk; clear hkk; obtain ⟨T1, hT1⟩ : ∃ T, T = u1.take 32 := ⟨_, rfl⟩
    have hTl : T1.length = min u1.length 32 := by rw [hT1, List.length_take, Nat.min_comm]
    have HT1 := Lib.hid hT1; have HTL := Lib.hid hTl
    have HCT : Hid ((Kd.int .u8).C w5 A5 T1.length T1) := Lib.hid (by
     have h := Kd.C_take (m := T1.length) HC5.out (by omega)
     have e : u1.take T1.length = T1 := by
      rw [hT1, List.length_take]
      rcases Nat.le_total 32 u1.length with h | h
      ·rw [Nat.min_eq_left h]
      ·rw [Nat.min_eq_right h, List.take_length, List.take_of_length_le h]
     rw [e] at h
     exact h)
    clear hT1 hTl
    go_upto_region 8 with (show wpList _ _ _ ({ dst := _, op := .call { callee := .builtin .copy, args := _, argTypes := _ }, type := _, pos := _, after := _, guard := _ } :: _) _ _; refine wpList_copy_splice rfl (.tmp 26) (.tmp 27) 45 45 rfl 5 Tryd.underlying45 (by kernel_rfl) _ _ _ _ _ _ rfl rfl (w.heap.size + 1) 0 (nums .u8 Z32) 50 HKK.out (nums .u8 T1) (by rw [nums_length]; exact HTL.out) (fun hp => ⟨rfl, C_src HCT.out (by rw [nums_length] at hp; exact hp)⟩) (by rw [nums_length, nums_length, HZL.out]; have := HTL.out; omega) (nums_one .u8 T1) (w.heap.size + 1) w5 (Below.refl _ w5) (by have := K5.out.size; omega) ?_; intro w6 hg6 hb6; have HG6 := Lib.hid hg6; have HB6 := Lib.hid hb6; clear hg6 hb6)
    have K6 : Hid (Two w w6 R) := Lib.hid ⟨(HB6.out.block _ (by omega)).trans K5.out.r, by
     have h : w6.heap[w.heap.size + 1]? = _ := HG6.out.out; rw [HZ32.out, splice_zeros T1 32 (by have := HTL.out; omega)] at h; rw [HRD.out, ← HT1.out]
     exact h, K5.out.b.trans (ks HB6.out (Nat.le_succ _))⟩
    have HD32 : Hid (R.length = 32) := HRL
    have hl9 : (nums .u8 R).length = 32 := by rw [nums_length, HD32.out]
    have hfin : Hid (Blk (putA w6 w.heap.size .u8 R) w.heap.size .u8 50 R) := Lib.hid (K6.out.r.putA (by rw [HD32.out]; rfl)); have hbel : Hid (Below w.heap.size w (putA w6 w.heap.size .u8 R)) := Lib.hid (putA_below K6.out.b (Nat.le_refl _))
    have hth : w6.there w.heap.size 0 (nums .u8 R).toArray.size := by
     have e : (nums .u8 R).toArray.size = 32 := by rw [List.size_toArray, hl9]
     rw [e]
     exact K6.out.r.there
    have hsz9 : (Tryd.prog.info? 50).map (·.size) = some (nums .u8 R).toArray.size := by
     have e : (nums .u8 R).toArray.size = 32 := by rw [List.size_toArray, hl9]
     have e2 : (Tryd.prog.info? 50).map (·.size) = some 32 := by kernel_rfl
     rw [e]
     exact e2
    refine wp_region_lit ?_; refine wpList_load_mid rfl _ _ rfl (w.heap.size + 1) 0 rfl (nums .u8 R) _ K6.out.o.range Tryd.underlying50 rfl (by rw [hl9]; kernel_rfl) ?_; refine wpList_store_mid rfl _ _ _ rfl w.heap.size 0 (nums .u8 R).toArray rfl rfl hth hsz9 (all_oneCell_toArray (nums_one .u8 R)) ?_; rw [List.toList_toArray]
    change wpList _ _ _ _ _ (putA w6 w.heap.size .u8 R)
    go_wp2_with fail
    refine bodyPost_ret (results_cell_row rfl _ _ w.heap.size 50 (nums .u8 R).toArray (0, 0) _ rfl hfin.out Tryd.underlying50 rfl hsz9) rfl ⟨?_, hbel.out⟩
    rfl
   ·have h46i : (((s[i]'hlt).toNat : Int) == 46) = false := by rw [HBYT.out]; exact beq_eq_false_iff_ne.mpr (fun h => h46 (by omega))
    have hiw : IntKind.i64.wrap ((i : Int) - 1) = (i : Int) - 1 := IntWalk.i64_in _ (by have := HS.out; omega); have H46 := Lib.hid h46; clear h46
    go_wp2_with fail
    go_roundg i
    case measure => omega
    case rel => exact ⟨rfl, by omega, by have h := HL.out; rw [show lastD (B s) (i + 1) = if ((B s).getD i 0).toNat = 46 then some i else lastD (B s) i from rfl, if_neg H46.out] at h; exact h, HK.out⟩
def tokSigned (k : Nat) (a0 : ByteArray) (a1_0 : Int) (a1_1 : ByteArray) : Option Bool :=
 (tokRead k a0).bind fun c => if c.2.2.2.2.2 = 0 then (tokMint k a1_0 a1_1 c.1 c.2.1 c.2.2.1 c.2.2.2.1 c.2.2.2.2.1).bind fun t => if t.2 = 0 then (if t.1.size ≤ 1000000 then some (t.1.toList == a0.toList) else none) else some false
  else some false
theorem tokSigned.mono : ∀ a0 a1 a2 k, LeO (tokSigned k a0 a1 a2) (tokSigned (k + 1) a0 a1 a2) := by
 intro a0 a1 a2 k
 unfold tokSigned
 refine LeO.bind (tokRead.mono _ _) (fun c => ?_)
 split
 ·exact LeO.bind (tokMint.mono _ _ _ _ _ _ _ _) (fun t => LeO.refl _)
 ·exact LeO.refl _
theorem bytesOf_inj {a b : ByteArray} (h : bytesOf a = bytesOf b) : a = b := by
 apply B_inj
 unfold bytesOf at h
 exact (List.map_inj_right (fun x y e => UInt8.toNat_inj.1 (Int.ofNat.inj e))).1 h
theorem bytesOf_byt (s : ByteArray) : Byts (bytesOf s) := fun x hx => by
 unfold bytesOf at hx
 obtain ⟨b, _, rfl⟩ := List.mem_map.1 hx
 have := b.toNat_lt
 omega
set_option maxRecDepth 20000 in
set_option maxHeartbeats 8000000 in
theorem tokSigned_calls (k : Nat) (a0 : ByteArray) (a1_0 : Int) (a1_1 : ByteArray) (r : Bool) (w : World) (hT : Aside0 (Tab w)) (h : tokSigned k a0 a1_0 a1_1 = some r) :
  Calls Tryd.prog 20 #[.string a0, .agg #[.int .i64 a1_0, .string a1_1]] w fun e w' => e = .returned (.bool r) ∧ Below w.heap.size w w' := by
 have hu23 := Tryd.underlying23; have hu26 := Tryd.underlying26
 unfold tokSigned at h
 obtain ⟨⟨c1, c2, c3, c4, c5, c6⟩, hc, hx⟩ := Option.bind_eq_some_iff.1 h
 simp only at hx
 have hsz : a0.size ≤ 1000000 := by
  unfold tokRead at hc
  split at hc
  ·assumption
  ·cases hc
 have HC := Lib.hid hc; have HX := Lib.hid hx; have HSZ0 := Lib.hid hsz; clear h hc hx hsz; go_enter Tryd.func20, Tryd.ntmps20
 go_upto_region 1 with fail
 obtain ⟨W1, hW1⟩ : ∃ W1, W1 = w.alloc (.cells #[.int .i64 a1_0, .string a1_1] 23) := ⟨_, rfl⟩; have B1 : Hid (Below w.heap.size w W1) := Lib.hid (by rw [hW1]; exact (Below.refl _ w).alloc (Nat.le_refl _) _); have K1 : Hid (W1.heap[w.heap.size]? = some (.cells #[.int .i64 a1_0, .string a1_1] 23 (0, 0))) := Lib.hid (by rw [hW1]; exact kC w _)
 change Code.wp _ _ _ _ (w.alloc (.cells #[.int .i64 a1_0, .string a1_1] 23))
 rw [← hW1]; clear hW1; obtain ⟨gk, hgk⟩ : ∃ g, g = w.heap.size := ⟨_, rfl⟩; rw [← hgk] at K1; rw [← hgk]; clear hgk
 go_upto_region 2 with (go_at_call 18; refine (tokRead_calls k a0 c1 c2 c3 c4 c5 c6 _ HC.out).mono ?_; rintro e w2 ⟨rfl, hb⟩; have B2 := Lib.hid (B1.out.trans (ks hb B1.out.size)); have K2 := Lib.hid ((hb.block gk (ky K1.out)).trans K1.out); clear hb)
 obtain ⟨W3, hW3⟩ : ∃ W3, W3 = w2.alloc (.cells #[.string c1, .int .i64 c2, .int .i64 c3, .int .u8 c4, .int .u64 c5] 26) := ⟨_, rfl⟩; have B3 : Hid (Below w.heap.size w W3) := Lib.hid (by rw [hW3]; exact B2.out.alloc B2.out.size _); have K3 : Hid (W3.heap[gk]? = some (.cells #[.int .i64 a1_0, .string a1_1] 23 (0, 0))) := Lib.hid (by rw [hW3]; exact kd K2.out _); have L3 : Hid (W3.heap[w2.heap.size]? = some (.cells #[.string c1, .int .i64 c2, .int .i64 c3, .int .u8 c4, .int .u64 c5] 26 (0, 0))) := Lib.hid (by rw [hW3]; exact kC w2 _); rw [← hW3]; clear hW3; obtain ⟨gc, hgc⟩ : ∃ g, g = w2.heap.size := ⟨_, rfl⟩; rw [← hgc] at L3; rw [← hgc]; clear hgc
 by_cases h6 : c6 = 0
 case neg =>
  have hr := HX.out; rw [if_neg h6] at hr; obtain rfl := Option.some.inj hr
  have h6b : (c6 != 0) = true := by simp [h6]
  clear h6 hr
  go_wp2_with fail
  go_ret
  exact ⟨rfl, B3.out⟩
 subst h6; have hr := HX.out; rw [if_pos rfl] at hr; obtain ⟨⟨own, me⟩, hm, hr⟩ := Option.bind_eq_some_iff.1 hr
 simp only at hr
 have HM := Lib.hid hm; have HR := Lib.hid hr; clear hm hr HX; have ka0 : W3.cell? ⟨gk, 0, none⟩ = some (.int .i64 a1_0) := (ka K3.out 0).trans rfl; have ka1 : W3.cell? ⟨gk, 1, none⟩ = some (.string a1_1) := (ka K3.out 1).trans rfl; have kc0 : W3.cell? ⟨gc, 0, none⟩ = some (.string c1) := (ka L3.out 0).trans rfl; have kc1 : W3.cell? ⟨gc, 1, none⟩ = some (.int .i64 c2) := (ka L3.out 1).trans rfl; have kc2 : W3.cell? ⟨gc, 2, none⟩ = some (.int .i64 c3) := (ka L3.out 2).trans rfl; have kc3 : W3.cell? ⟨gc, 3, none⟩ = some (.int .u8 c4) := (ka L3.out 3).trans rfl; have kc4 : W3.cell? ⟨gc, 4, none⟩ = some (.int .u64 c5) := (ka L3.out 4).trans rfl
 go_upto_region 5 with (go_at_call 10; refine (tokMint_calls k a1_0 a1_1 c1 c2 c3 c4 c5 own me _ ⟨kU hT.out B3.out⟩ HM.out).mono ?_; rintro e w4 ⟨rfl, hb⟩; have B4 := Lib.hid (B3.out.trans (ks hb B3.out.size)); clear hb)
 by_cases hme : me = 0
 case neg =>
  have hr := HR.out; rw [if_neg hme] at hr; obtain rfl := Option.some.inj hr
  have hmb : (me != 0) = true := by simp [hme]
  clear hme hr
  go_wp2_with fail
  go_ret
  exact ⟨rfl, B4.out⟩
 subst hme; have hr := HR.out; rw [if_pos rfl] at hr
 by_cases hos : own.size ≤ 1000000
 case neg =>
  rw [if_neg hos] at hr
  cases hr
 rw [if_pos hos] at hr; have HR2 := Lib.hid (Option.some.inj hr); have HOS := Lib.hid hos; clear hr hos HR
 by_cases hlen : own.size = a0.size
 case neg =>
  have hrf : r = false := by
   rw [← HR2.out]; refine beq_eq_false_iff_ne.mpr (fun e => hlen ?_); rw [toList_B, toList_B] at e; rw [← kD, ← kD, e]
  subst hrf
  have hlb : ((own.size : Int) != (a0.size : Int)) = true := by simp; omega
  clear hlen
  go_wp2_with fail
  go_ret
  exact ⟨rfl, B4.out⟩
 have hlb : ((own.size : Int) != (a0.size : Int)) = false := by simp [hlen]
 clear hlen; obtain ⟨D1, hD1⟩ : ∃ D, D = sumF (B own) := ⟨_, rfl⟩; obtain ⟨D2, hD2⟩ : ∃ D, D = sumF (B a0) := ⟨_, rfl⟩
 have hl1 : D1.length = 32 := by rw [hD1, sumF_length]
 have hl2 : D2.length = 32 := by rw [hD2, sumF_length]
 have hb1 : Byts D1 := by rw [hD1]; exact sumF_byts _
 have hb2 : Byts D2 := by rw [hD2]; exact sumF_byts _
 have HS1 : Hid (∀ W, Calls Tryd.prog 38 #[.string own] W fun e w' => e = .returned (.agg (nums .u8 D1).toArray) ∧ Below W.heap.size W w') := Lib.hid (fun W => by rw [hD1]; exact sumOf_calls W own HOS.out); have HS2 : Hid (∀ W, Calls Tryd.prog 38 #[.string a0] W fun e w' => e = .returned (.agg (nums .u8 D2).toArray) ∧ Below W.heap.size W w') := Lib.hid (fun W => by rw [hD2]; exact sumOf_calls W a0 HSZ0.out)
 have hae : ∀ W : World, Sem.run Tryd.prog (Op.equalIn 10000 50 (.agg (nums .u8 D1).toArray) (.agg (nums .u8 D2).toArray)) W = .ok (decide (D1 = D2)) W := fun W => arr_eq W D1 D2 hl1 hl2 hb1 hb2
 have HD1 := Lib.hid hD1; have HD2 := Lib.hid hD2; clear hD1 hD2 hl1 hl2 hb1 hb2
 by_cases hdd : D1 = D2
 case neg =>
  have hrf : r = false := by
   rw [← HR2.out]; refine beq_eq_false_iff_ne.mpr (fun e => hdd ?_); rw [toList_B, toList_B] at e; rw [HD1.out, HD2.out, e]
  subst hrf; have hdb : decide (D1 = D2) = false := decide_eq_false hdd; rw [hdb] at hae; clear hdd hdb
  go_wp2_with (first
   | (go_at_call 38; (with_reducible refine (HS1.out _).mono ?_); rintro e w5 ⟨rfl, hb⟩; have B5 := Lib.hid (B4.out.trans (ks hb B4.out.size)); clear hb)
   | (go_at_call 38; (with_reducible refine (HS2.out _).mono ?_); rintro e w6 ⟨rfl, hb⟩; have B6 := Lib.hid (B5.out.trans (ks hb B5.out.size)); clear hb))
  go_ret
  exact ⟨rfl, B6.out⟩
 have hdb : decide (D1 = D2) = true := decide_eq_true hdd; rw [hdb] at hae; clear hdd hdb; obtain ⟨X1, hX1⟩ : ∃ X, X = bytesOf own := ⟨_, rfl⟩; obtain ⟨X2, hX2⟩ : ∃ X, X = bytesOf a0 := ⟨_, rfl⟩; have HX1 := Lib.hid hX1; have HX2 := Lib.hid hX2; have HZHX1 := Lib.hid (show own.size ≤ 9223372036854775807 by have := HOS.out; omega); have HZHX2 := Lib.hid (show a0.size ≤ 9223372036854775807 by have := HSZ0.out; omega)
 have hrr : decide (X1 = X2) = r := by
  rw [← HR2.out, hX1, hX2]
  by_cases e : own = a0
  ·subst e; rw [decide_eq_true rfl]
   simp
  ·rw [decide_eq_false (fun h => e (bytesOf_inj h))]
   symm
   refine beq_eq_false_iff_ne.mpr (fun h => e ?_); rw [toList_B, toList_B] at h
   exact B_inj h
 have HEQ : Hid (∀ (W : World) (A : Option Addr) (ca : Nat) (A' : Option Addr) (cb : Nat), (Kd.int .u8).C W A X1.length X1 → (Kd.int .u8).C W A' X2.length X2 → Calls Tryd.prog 39 #[.slice A X1.length ca, .slice A' X2.length cb] W fun e w' => e = .returned (.bool r) ∧ Below W.heap.size W w') := Lib.hid (fun W A ca A' cb h1 h2 => by
  rw [← hrr]
  exact hequal_calls W A A' ca cb X1 X2 h1 h2 (by rw [hX1]; exact bytesOf_byt _) (by rw [hX2]; exact bytesOf_byt _) (by rw [hX1, bytesOf_length]; have := HOS.out; omega) (by rw [hX2, bytesOf_length]; have := HSZ0.out; omega))
 clear hX1 hX2 hrr
 go_wp2_with (first
  | (go_at_call 38; (with_reducible refine (HS1.out _).mono ?_); rintro e w5 ⟨rfl, hb⟩; have B5 := Lib.hid (B4.out.trans (ks hb B4.out.size)); clear hb)
  | (go_at_call 38; (with_reducible refine (HS2.out _).mono ?_); rintro e w6 ⟨rfl, hb⟩; have B6 := Lib.hid (B5.out.trans (ks hb B5.out.size)); clear hb)
  | ((with_reducible refine ko (N := 37) rfl ?_); (try (refine kx (by rfl) ?_; dsimp only)); refine Kd.V_convF _ 5 rfl (N' := 37) rfl 9 45 _ rfl own rfl Tryd.underlying9 Tryd.underlying45 Tryd.underlying5 HZHX1.out (Below.refl _ _) (Nat.le_refl _) ?_; intro v7 w7 ho hb hg hn; clear hg hn; rw [← HX1.out] at ho; obtain ⟨A7, c7, rfl⟩ := Kd.V_slice ho; have HO7 := Lib.hid ho; have B7 := Lib.hid (B6.out.trans (ks hb B6.out.size)); clear ho; clear hb)
  | ((with_reducible refine ko (N := 39) rfl ?_); (try (refine kx (by rfl) ?_; dsimp only)); refine Kd.V_convF _ 5 rfl (N' := 39) rfl 9 45 _ rfl a0 rfl Tryd.underlying9 Tryd.underlying45 Tryd.underlying5 HZHX2.out (Below.refl _ _) (Nat.le_refl _) ?_; intro v8 w8 ho hb hg hn; clear hg hn; rw [← HX2.out] at ho; obtain ⟨A8, c8, rfl⟩ := Kd.V_slice ho; have HO8 := Lib.hid ho; have B8 := Lib.hid (B7.out.trans (ks hb B7.out.size)); clear ho; have HO78 := Lib.hid (Kd.V_below HO7.out hb); have HCE := Lib.hid (HEQ.out w8 A7 c7 A8 c8 (Kd.V_reads' HO78.out).2.2 (Kd.V_reads' HO8.out).2.2); clear hb)
  | (go_at_call 39; refine HCE.out.mono ?_; rintro e w9 ⟨rfl, hb⟩; have B9 := Lib.hid (B8.out.trans (ks hb B8.out.size)); clear hb))
 go_ret
 exact ⟨rfl, B9.out⟩
end
def token_Signed.f (k : Nat) (a0 : ByteArray) (a1_0 : Int) (a1_1 : ByteArray) : Option (Bool) := tokSigned k a0 a1_0 a1_1
theorem token_Signed.mono : ∀ a0 a1 a2 k, LeO (token_Signed.f k a0 a1 a2) (token_Signed.f (k + 1) a0 a1 a2) := tokSigned.mono
theorem token_Signed.calls (k : Nat) (a0 : ByteArray) (a1_0 : Int) (a1_1 : ByteArray) (r : Bool) (w : World) (hT : Aside0 (Tab w)) (h : token_Signed.f k a0 a1_0 a1_1 = some r) :
  Calls Tryd.prog 20 #[.string a0, .agg #[.int .i64 a1_0, .string a1_1]] w fun e w' => e = .returned (.bool r) ∧ Below w.heap.size w w' := tokSigned_calls k a0 a1_0 a1_1 r w hT h
end Go.Proofs.YtkkomfomjpcbfaaDoor.PTS
end
