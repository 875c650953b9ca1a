import Derived.Test.YtkkomfomjpcbfaaDoorSTokenVerifiesH14
import Derived.Test.YtkkomfomjpcbfaaDoorSTokenVerifiesPTSx2
import Derived.Test.YtkkomfomjpcbfaaDoorSTokenVerifiesPTSx8
import Derived.Test.YtkkomfomjpcbfaaDoorSTokenVerifiesPTSx10
import Derived.Laws.RangeAny
import Derived.Lib.OthersKept
import Derived.Test.YtkkomfomjpcbfaaDoorSTokenVerifiesE1
import Derived.Test.YtkkomfomjpcbfaaDoorSTokenVerifiesWGuard
import Derived.Test.YtkkomfomjpcbfaaDoorSTokenVerifiesTM
import Derived.Test.YtkkomfomjpcbfaaDoorSTokenVerifiesTT
import Derived.Test.YtkkomfomjpcbfaaDoorSTokenVerifiesY
import Derived.Test.YtkkomfomjpcbfaaDoorSTokenVerifiesPTSx1
import Derived.Test.YtkkomfomjpcbfaaDoorSTokenVerifiesPTSx6
import Derived.Test.YtkkomfomjpcbfaaDoorSTokenVerifiesPTSx15
import Derived.Test.YtkkomfomjpcbfaaDoorSTokenVerifiesTLV
import Derived.Test.YtkkomfomjpcbfaaDoorSTokenVerifiesPTSx7
import Derived.Test.YtkkomfomjpcbfaaDoorSTokenVerifiesPTSx17
import Derived.Test.YtkkomfomjpcbfaaDoorSTokenVerifiesG0
import Derived.Lib.LaidU8
import Derived.LaidMore
import Derived.Test.YtkkomfomjpcbfaaDoorRows
namespace Go.Proofs.YtkkomfomjpcbfaaDoor.Bq
end Go.Proofs.YtkkomfomjpcbfaaDoor.Bq
set_option linter.unusedVariables false
set_option linter.unusedSimpArgs false
section
namespace Go.Proofs.YtkkomfomjpcbfaaDoor.PTS
open Go.RowKit Go.Proofs.YtkkomfomjpcbfaaDoorW.PrintWords Go.Proofs.YtkkomfomjpcbfaaDoorW.PrintLast Go.Proofs.YtkkomfomjpcbfaaDoorW.PrintMore
attribute [local go_sem] kQ kO kW kV kG kF kP kN
end Go.Proofs.YtkkomfomjpcbfaaDoor.PTS
end
section
namespace Go.Proofs.YtkkomfomjpcbfaaDoor.PTS
open Go.RowKit Go.Proofs.YtkkomfomjpcbfaaDoorW.PrintWords Go.Proofs.YtkkomfomjpcbfaaDoorW.PrintLast Go.Proofs.YtkkomfomjpcbfaaDoorW.PrintMore
attribute [local go_sem] kQ kO kW kV kG kF kP kN
attribute [local go_sem high] eqA26
end Go.Proofs.YtkkomfomjpcbfaaDoor.PTS
end
section
namespace Go.Proofs.YtkkomfomjpcbfaaDoor.Pu
open Go Go.RowKit Go.Lib Go.Proofs.YtkkomfomjpcbfaaDoor Go.Proofs.YtkkomfomjpcbfaaDoor.PTS Go.Proofs.YtkkomfomjpcbfaaDoorW.PrintWords Go.Proofs.YtkkomfomjpcbfaaDoorW.PrintLast Go.Proofs.YtkkomfomjpcbfaaDoorW.PrintMore Bq
abbrev Own := S43
abbrev Ky := S23
theorem parse_bd {b : List Int} (hb : Byts b) {c : C5} (h : parseB b = some c) : (-9223372036854775808 ≤ c.2.2.1 ∧ c.2.2.1 ≤ 9223372036854775807) ∧ (0 ≤ c.2.2.2.2 ∧ c.2.2.2.2 < 18446744073709551616) ∧ chkB c.1 c.2.1 c.2.2.2.1 = 0 := by
 unfold parseB at h
 split at h
 ·split at h
  ·cases h
  ·unfold parse2 at h
   split at h
   ·split at h
    ·cases h
    ·unfold parse3 at h
     split at h
     ·rename_i _ _ _ _ hv
      split at h
      ·cases h
      ·unfold parse4 at h
       split at h
       ·split at h
        ·split at h
         ·rename_i hc
          injection h with h
          subst h
          obtain ⟨v, n, e1, _, _, e2, e3⟩ := varG_back _ (byt_drop (byt_drop (byt_drop hb _) _) _) hv
          refine ⟨?_, ?_, hc⟩
          ·rw [e1]
           exact ⟨e2, e3⟩
          ·exact ug_bound _ 0 0 (byt_drop (byt_drop (byt_drop (byt_drop (byt_drop hb _) _) _) _) _) (by decide) (by decide)
         ·cases h
        ·cases h
       ·cases h
     ·cases h
   ·cases h
 ·cases h
theorem read_bd {s : ByteArray} {c : C5} (h : readB s = some c) : (-9223372036854775808 ≤ c.2.2.1 ∧ c.2.2.1 ≤ 9223372036854775807) ∧ (0 ≤ c.2.2.2.2 ∧ c.2.2.2.2 < 18446744073709551616) ∧ chkB c.1 c.2.1 c.2.2.2.1 = 0 := by
 unfold readB at h
 split at h
 ·unfold readR at h
  split at h
  ·cases h
  ·split at h
   ·exact parse_bd (unL_byt0 _) h
   ·cases h
 ·cases h
theorem tokText_size (sec : ByteArray) (L : List Int) : (tokText sec L).size = 4 + (8 * L.length + 5) / 6 + 1 + 43 := by
 unfold tokText
 rw [ByteArray.size_append, ByteArray.size_append, tokHead_size, armor_size]
 have h : (tokSum sec L).length = 32 := Sha.sum_length _
 rw [h]
 rfl
theorem mint_ok {kid : Int} {sec tn : ByteArray} {key ex sc id : Int} (h : (mintB kid sec tn key ex sc id).2 = 0) : keyedB kid sec = true ∧ chkB tn key sc = 0 ∧ key = kid ∧ mintB kid sec tn key ex sc id = (tokText sec (bodyL tn key ex sc id), 0) := by
 unfold mintB at h ⊢
 split at h
 ·rename_i h1
  split at h
  ·rename_i h2
   split at h
   ·rename_i h3
    refine ⟨h1, h2, h3, ?_⟩
    rw [if_pos h1, if_pos h2, if_pos h3]
   ·cases h
  ·rename_i h2
   exact absurd h h2
 ·cases h
def signedB (s : ByteArray) (kid : Int) (sec : ByteArray) : Bool := match readB s with
 | none => false
 | some c => decide ((mintB kid sec c.1 c.2.1 c.2.2.1 c.2.2.2.1 c.2.2.2.2).2 = 0) && ((mintB kid sec c.1 c.2.1 c.2.2.1 c.2.2.2.1 c.2.2.2.2).1.toList == s.toList)
theorem Signed_ev (s : ByteArray) (kid : Int) (sec : ByteArray) (hs : s.size ≤ 100000) : Ev (fun k => token_Signed.f k s kid sec) (signedB s kid sec) ∧ Ev (fun k => mr17_Signed.f k s kid sec) (signedB s kid sec) := by
 have h1 := Read_ev s hs
 have h2 := RRead_ev s hs
 constructor
 ·show Ev (fun k => tokSigned k s kid sec) _
  unfold tokSigned signedB
  refine Ev.bind h1 ?_
  cases hr : readB s with
  | none =>
   simp only [outR, tokBad, if_neg (show ¬ ((8 : Int) = 0) by decide)]
   exact Ev.now _
  | some c =>
   obtain ⟨b1, b2, b3⟩ := read_bd hr
   simp only [outR, if_pos trivial]
   refine Ev.bind (Mint_ev kid sec c.1 c.2.1 c.2.2.1 c.2.2.2.1 c.2.2.2.2 b1 b2) ?_
   by_cases hm : (mintB kid sec c.1 c.2.1 c.2.2.1 c.2.2.2.1 c.2.2.2.2).2 = 0
   ·obtain ⟨m1, m2, m3, m4⟩ := mint_ok hm
    obtain ⟨c1, c2, c3⟩ := chk_ok m2
    have hl := body_len c.1 c.2.1 c.2.2.1 c.2.2.2.1 c.2.2.2.2 (ten_size c1) c2 b1 b2
    have hz : (mintB kid sec c.1 c.2.1 c.2.2.1 c.2.2.2.1 c.2.2.2.2).1.size ≤ 1000000 := by
     rw [m4]
     show (tokText _ _).size ≤ _
     rw [tokText_size]
     omega
    simp only [if_pos hm, if_pos hz, decide_eq_true hm, Bool.true_and]
    exact Ev.now _
   ·simp only [if_neg hm, decide_eq_false hm, Bool.false_and]
    exact Ev.now _
 ·unfold mr17_Signed.f signedB
  refine Ev.bind h2 ?_
  cases hr : readB s with
  | none =>
   simp only [outR, tokBad, if_neg (show ¬ ((8 : Int) = 0) by decide)]
   exact Ev.now _
  | some c =>
   obtain ⟨b1, b2, b3⟩ := read_bd hr
   obtain ⟨c1, c2, c3⟩ := chk_ok b3
   simp only [outR, if_pos trivial]
   refine Ev.bind (RMint_ev kid sec c.1 c.2.1 c.2.2.1 c.2.2.2.1 c.2.2.2.2 (by have := ten_size c1; omega) b1 b2) ?_
   by_cases hm : (mintB kid sec c.1 c.2.1 c.2.2.1 c.2.2.2.1 c.2.2.2.2).2 = 0
   ·simp only [if_pos hm, decide_eq_true hm, Bool.true_and]
    exact Ev.now _
   ·simp only [if_neg hm, decide_eq_false hm, Bool.false_and]
    exact Ev.now _
def badE (e : Int) : Clm := ((⟨#[]⟩ : ByteArray), 0, 0, 0, 0, e)
def needB (sc need : Int) : Bool := decide ((Go.bits .and .u8 sc (Go.bits .and .u8 need 7)) = (Go.bits .and .u8 need 7))
theorem and_v (x y : Int) : Go.bits .and .u8 x y = ((BitVec.ofInt 8 x &&& BitVec.ofInt 8 y).toNat : Int) := wrap8 _
theorem andNot_v (x y : Int) : Go.bits .andNot .u8 x y = ((BitVec.ofInt 8 x &&& ~~~ BitVec.ofInt 8 y).toNat : Int) := wrap8 _
theorem bv_and_not (N S : BitVec 8) : (N &&& ~~~S) = 0#8 ↔ (S &&& N) = N := by
 constructor
 ·intro h
  apply BitVec.eq_of_getLsbD_eq
  intro i hi
  have h2 := congrArg (fun v => BitVec.getLsbD v i) h
  simp only [BitVec.getLsbD_and, BitVec.getLsbD_not, BitVec.getLsbD_zero, hi, decide_true, Bool.true_and] at h2 ⊢
  cases h3 : N.getLsbD i <;> cases h4 : S.getLsbD i <;> simp_all
 ·intro h
  apply BitVec.eq_of_getLsbD_eq
  intro i hi
  have h2 := congrArg (fun v => BitVec.getLsbD v i) h
  simp only [BitVec.getLsbD_and, BitVec.getLsbD_not, BitVec.getLsbD_zero, hi, decide_true, Bool.true_and] at h2 ⊢
  cases h3 : N.getLsbD i <;> cases h4 : S.getLsbD i <;> simp_all
theorem need_both (sc need : Int) : ((Go.bits .andNot .u8 (Go.bits .and .u8 need 7) sc) = 0) ↔ needB sc need = true := by
 unfold needB
 rw [decide_eq_true_eq, andNot_v, and_v sc, and_v need, ofInt8_nat]
 constructor
 ·intro h
  have h2 : (BitVec.ofInt 8 need &&& BitVec.ofInt 8 7) &&& ~~~ BitVec.ofInt 8 sc = 0#8 := by
   apply BitVec.eq_of_toNat_eq
   simp only [BitVec.toNat_ofNat]
   omega
  rw [(bv_and_not _ _).1 h2]
 ·intro h
  have h2 : BitVec.ofInt 8 sc &&& (BitVec.ofInt 8 need &&& BitVec.ofInt 8 7) = (BitVec.ofInt 8 need &&& BitVec.ofInt 8 7) := by
   apply BitVec.eq_of_toNat_eq
   omega
  rw [(bv_and_not _ _).2 h2]
  rfl
def endB (s : ByteArray) (now need : Int) (c : C5) (kid : Int) (sec : ByteArray) : Clm :=
 if signedB s kid sec = true then (if now ≥ c.2.2.1 then badE 171 else if needB c.2.2.2.1 need = true then outR (some c) else badE 172) else badE 170
def findK (tn : ByteArray) (key : Int) : List Own → Int → Option Ky × Int
 | [], e => (none, e)
 | x :: l, e => if x.f0.toList = tn.toList then (if x.f1.f0 = key then (some x.f1, 0) else findK tn key l 181) else findK tn key l e
def afterK (s : ByteArray) (now need : Int) (c : C5) : Option Ky × Int → Clm
 | (none, e) => badE e
 | (some k, _) => endB s now need c k.f0 k.f1
def verB (s : ByteArray) (keys : List Own) (now need : Int) : Clm := match readB s with
 | none => tokBad
 | some c => afterK s now need c (findK c.1 c.2.1 keys 180)
theorem rd_own (l : List Own) (n : Nat) : rd_T43 l (n : Int) = l.getD n z43 := by unfold rd_T43; rw [Int.toNat_natCast]
theorem drop_own (l : List Own) (n : Nat) (h : n < l.length) : l.drop n = l.getD n z43 :: l.drop (n + 1) := by
 rw [List.drop_eq_getElem_cons h, List.getD_eq_getElem?_getD, List.getElem?_eq_getElem h]
 rfl
theorem endV_ev (s : ByteArray) (hs : s.size ≤ 100000) (now need : Int) (c : C5) (kid : Int) (sec : ByteArray) :
  Ev (fun k => (token_Signed.f k s kid sec).bind fun t187 => (if t187 = true then (if now ≥ c.2.2.1 then (some ((⟨#[]⟩ : ByteArray), (0 : Int), (0 : Int), (0 : Int), (0 : Int), (171 : Int))) else (if (Go.bits .andNot .u8 (Go.bits .and .u8 need 7) c.2.2.2.1) = 0 then (some (c.1, c.2.1, c.2.2.1, c.2.2.2.1, c.2.2.2.2, (0 : Int))) else (some ((⟨#[]⟩ : ByteArray), 0, 0, 0, 0, 172)))) else (some ((⟨#[]⟩ : ByteArray), 0, 0, 0, 0, 170)))) (endB s now need c kid sec) := by
 refine Ev.bind (Signed_ev s kid sec hs).1 ?_
 unfold endB
 cases signedB s kid sec with
 | false => simp only [Bool.false_eq_true, if_false]; exact Ev.now _
 | true =>
  simp only [if_pos trivial]
  by_cases h1 : now ≥ c.2.2.1
  ·simp only [if_pos h1]; exact Ev.now _
  ·simp only [if_neg h1]
   by_cases h2 : needB c.2.2.2.1 need = true
   ·simp only [if_pos h2, if_pos ((need_both _ _).2 h2)]; exact Ev.now _
   ·simp only [if_neg h2, if_neg (fun h => h2 ((need_both _ _).1 h))]; exact Ev.now _
theorem V_found (s : ByteArray) (hs : s.size ≤ 100000) (now need : Int) (c : C5) (keys : List Own) (hk : keys.length ≤ 1000000) (kid : Int) (sec : ByteArray) : ∀ (d n : Nat), n + d = keys.length →
  Ev (fun k => token_Verify.l0 k s now need 0 keys (keys.length : Int) (n : Int) c.1 c.2.1 c.2.2.1 c.2.2.2.1 c.2.2.2.2 kid sec) (endB s now need c kid sec) := by
 intro d
 induction d with
 | zero =>
  intro n hn
  refine Ev.step (f := _) (fun k => by simp only [token_Verify.l0]; rfl) ?_
  simp only [if_neg (show ¬ ((n : Int) < (keys.length : Int)) by omega), if_pos trivial]
  exact endV_ev s hs now need c kid sec
 | succ d ih =>
  intro n hn
  have e1 : wrap64 ((n : Int) + 1) = ((n + 1 : Nat) : Int) := w1 n (by omega)
  have hnext : ∀ (a : ByteArray) (b : Int) (e : ByteArray), Ev (fun k => token_Verify.j1 k s now need 0 keys (keys.length : Int) (n : Int) true c.1 c.2.1 c.2.2.1 c.2.2.2.1 c.2.2.2.2 kid sec a b e) (endB s now need c kid sec) := fun a b e => by
   refine Ev.step (f := _) (fun k => by simp only [token_Verify.j1]; rfl) ?_
   simp only [if_true, e1]
   exact ih (n + 1) (by omega)
  refine Ev.step (f := _) (fun k => by simp only [token_Verify.l0]; rfl) ?_
  simp only [if_pos (show (n : Int) < (keys.length : Int) by omega), if_pos (show (0 : Int) ≤ (n : Int) by omega), beq_self_eq_true]
  refine Ev.ite (fun _ => hnext _ _ _) (fun _ => hnext _ _ _)
theorem V_loop (s : ByteArray) (hs : s.size ≤ 100000) (now need : Int) (c : C5) (keys : List Own) (hk : keys.length ≤ 1000000) : ∀ (d n : Nat) (e kid : Int) (sec : ByteArray), n + d = keys.length → ¬ e = 0 →
  Ev (fun k => token_Verify.l0 k s now need e keys (keys.length : Int) (n : Int) c.1 c.2.1 c.2.2.1 c.2.2.2.1 c.2.2.2.2 kid sec) (afterK s now need c (findK c.1 c.2.1 (keys.drop n) e)) := by
 intro d
 induction d with
 | zero =>
  intro n e kid sec hn he
  refine Ev.step (f := _) (fun k => by simp only [token_Verify.l0]; rfl) ?_
  simp only [if_neg (show ¬ ((n : Int) < (keys.length : Int)) by omega), if_neg he]
  rw [List.drop_of_length_le (by omega)]
  exact Ev.now _
 | succ d ih =>
  intro n e kid sec hn he
  have hlt : n < keys.length := by omega
  have e1 : wrap64 ((n : Int) + 1) = ((n + 1 : Nat) : Int) := w1 n (by omega)
  refine Ev.step (f := _) (fun k => by simp only [token_Verify.l0]; rfl) ?_
  simp only [if_pos (show (n : Int) < (keys.length : Int) by omega), if_pos (show (0 : Int) ≤ (n : Int) by omega), rd_own, beq_eq_false_iff_ne.mpr he]
  rw [drop_own keys n hlt]
  unfold findK
  by_cases h1 : (keys.getD n z43).f0.toList = c.1.toList
  ·simp only [if_pos h1]
   refine Ev.step (f := _) (fun k => by simp only [token_Verify.j1]; rfl) ?_
   simp only [Bool.false_eq_true, if_false, e1]
   by_cases h2 : (keys.getD n z43).f1.f0 = c.2.1
   ·simp only [if_pos h2]
    rw [h2]
    have h := V_found s hs now need c keys hk (keys.getD n z43).f1.f0 (keys.getD n z43).f1.f1 d (n + 1) (by omega)
    show Ev _ (endB s now need c (keys.getD n z43).f1.f0 (keys.getD n z43).f1.f1)
    rw [h2] at h ⊢
    exact h
   ·simp only [if_neg h2]
    exact ih (n + 1) 181 kid sec (by omega) (by decide)
  ·simp only [if_neg h1]
   refine Ev.step (f := _) (fun k => by simp only [token_Verify.j1]; rfl) ?_
   simp only [if_true, e1]
   exact ih (n + 1) e kid sec (by omega) he
theorem Verify_ev (s : ByteArray) (hs : s.size ≤ 100000) (keys : List Own) (hk : keys.length ≤ 1000000) (now need : Int) : Ev (fun k => token_Verify.f k s keys now need) (verB s keys now need) := by
 unfold token_Verify.f verB
 refine Ev.bind (Read_ev s hs) ?_
 cases readB s with
 | none =>
  simp only [outR, tokBad, if_neg (show ¬ ((8 : Int) = 0) by decide)]
  exact Ev.now _
 | some c =>
  simp only [outR, if_pos trivial]
  exact V_loop s hs now need c keys hk keys.length 0 180 0 _ (by omega) (by decide)
theorem RV_loop (s : ByteArray) (hs : s.size ≤ 100000) (now need : Int) (c : C5) (keys : List Own) (hk : keys.length ≤ 1000000) : ∀ (d n : Nat) (e : Int), n + d = keys.length →
  Ev (fun k => mr17_Verify.l0 k s now need e keys (keys.length : Int) (n : Int) c.1 c.2.1 c.2.2.1 c.2.2.2.1 c.2.2.2.2) (afterK s now need c (findK c.1 c.2.1 (keys.drop n) e)) := by
 intro d
 induction d with
 | zero =>
  intro n e hn
  refine Ev.step (f := _) (fun k => by simp only [mr17_Verify.l0]; rfl) ?_
  simp only [if_neg (show ¬ ((n : Int) < (keys.length : Int)) by omega)]
  rw [List.drop_of_length_le (by omega)]
  exact Ev.now _
 | succ d ih =>
  intro n e hn
  have hlt : n < keys.length := by omega
  have e1 : wrap64 ((n : Int) + 1) = ((n + 1 : Nat) : Int) := w1 n (by omega)
  refine Ev.step (f := _) (fun k => by simp only [mr17_Verify.l0]; rfl) ?_
  simp only [if_pos (show (n : Int) < (keys.length : Int) by omega), if_pos (show (0 : Int) ≤ (n : Int) by omega), rd_own, e1]
  rw [drop_own keys n hlt]
  unfold findK
  by_cases h1 : (keys.getD n z43).f0.toList = c.1.toList
  ·simp only [if_pos h1]
   by_cases h2 : (keys.getD n z43).f1.f0 = c.2.1
   ·simp only [if_pos h2]
    refine Ev.bind (Signed_ev s _ _ hs).2 ?_
    show Ev _ (endB s now need c (keys.getD n z43).f1.f0 (keys.getD n z43).f1.f1)
    unfold endB
    cases signedB s (keys.getD n z43).f1.f0 (keys.getD n z43).f1.f1 with
    | false => simp only [Bool.false_eq_true, if_false]; exact Ev.now _
    | true =>
     simp only [if_pos trivial]
     by_cases h3 : now ≥ c.2.2.1
     ·simp only [if_pos h3]; exact Ev.now _
     ·simp only [if_neg h3]
      unfold needB
      by_cases h4 : (Go.bits .and .u8 c.2.2.2.1 (Go.bits .and .u8 need 7)) = (Go.bits .and .u8 need 7)
      ·simp only [if_pos h4, decide_eq_true h4, if_pos trivial]; exact Ev.now _
      ·simp only [if_neg h4, decide_eq_false h4, Bool.false_eq_true, if_false]; exact Ev.now _
   ·simp only [if_neg h2]
    exact ih (n + 1) 181 (by omega)
  ·simp only [if_neg h1]
   exact ih (n + 1) e (by omega)
theorem RVerify_ev (s : ByteArray) (hs : s.size ≤ 100000) (keys : List Own) (hk : keys.length ≤ 1000000) (now need : Int) : Ev (fun k => mr17_Verify.f k s keys now need) (verB s keys now need) := by
 unfold mr17_Verify.f verB
 refine Ev.bind (RRead_ev s hs) ?_
 cases readB s with
 | none =>
  simp only [outR, tokBad, if_neg (show ¬ ((8 : Int) = 0) by decide)]
  exact Ev.now _
 | some c =>
  simp only [outR, if_pos trivial]
  exact RV_loop s hs now need c keys hk keys.length 0 180 (by omega)
theorem live_ev : Ev (fun k => ml17_live.f k) true := Ev.of ml17_live.mono live_60
theorem few_l0 (L X : List Own) (hX : X.length ≤ 1000000) : ∀ (d n : Nat), n + d = X.length → ∃ b : Bool, Ev (fun k => ml17_few.l0 k L X (X.length : Int) (n : Int)) b ∧ (b = true → L.length ≤ 20) := by
 intro d
 induction d with
 | zero =>
  intro n hn
  refine ⟨decide ((L.length : Int) ≤ 20), ?_, fun h => by have := of_decide_eq_true h; omega⟩
  refine Ev.step (f := _) (fun k => by simp only [ml17_few.l0]; rfl) ?_
  simp only [if_neg (show ¬ ((n : Int) < (X.length : Int)) by omega)]
  exact Ev.now _
 | succ d ih =>
  intro n hn
  have e1 : wrap64 ((n : Int) + 1) = ((n + 1 : Nat) : Int) := w1 n (by omega)
  obtain ⟨b, hb, hL⟩ := ih (n + 1) (by omega)
  by_cases h1 : ((rd_T43 X (n : Int)).f1.f1.size : Int) > 300
  ·refine ⟨false, ?_, fun h => by cases h⟩
   refine Ev.step (f := _) (fun k => by simp only [ml17_few.l0]; rfl) ?_
   simp only [if_pos (show (n : Int) < (X.length : Int) by omega), if_pos (show (0 : Int) ≤ (n : Int) by omega), if_pos h1]
   exact Ev.now _
  ·by_cases h2 : ((rd_T43 X (n : Int)).f0.size : Int) > 300
   ·refine ⟨false, ?_, fun h => by cases h⟩
    refine Ev.step (f := _) (fun k => by simp only [ml17_few.l0]; rfl) ?_
    simp only [if_pos (show (n : Int) < (X.length : Int) by omega), if_pos (show (0 : Int) ≤ (n : Int) by omega), if_neg h1, if_pos h2]
    exact Ev.now _
   ·refine ⟨b, ?_, hL⟩
    refine Ev.step (f := _) (fun k => by simp only [ml17_few.l0]; rfl) ?_
    simp only [if_pos (show (n : Int) < (X.length : Int) by omega), if_pos (show (0 : Int) ≤ (n : Int) by omega), if_neg h1, if_neg h2, e1]
    exact hb
theorem few_ev (L : List Own) : ∃ b : Bool, Ev (fun k => ml17_few.f k L) b ∧ (b = true → L.length ≤ 20) := by
 have hm : mn (L.length : Int) 20 = ((min L.length 20 : Nat) : Int) := by unfold mn; split <;> omega
 have hl : (L.take (min L.length 20)).length ≤ 1000000 := by rw [List.length_take]; omega
 obtain ⟨b, hb, hL⟩ := few_l0 L (L.take (min L.length 20)) hl (L.take (min L.length 20)).length 0 (by omega)
 refine ⟨b, ?_, hL⟩
 unfold ml17_few.f
 rw [hm]
 refine Ev.yes (by omega) (Ev.yes (by omega) ?_)
 rw [Int.toNat_natCast]
 exact Ev.bindc rfl hb
theorem tokenVerifies (s : ByteArray) (keys : List Own) (now need : Int) : ∃ k, ml17_TokenVerifies.f k s keys now need = some true := by
 refine Ev.rounds (g := fun k => ml17_TokenVerifies.f k s keys now need) ?_
 have ht : Ev (fun k => ml17_TokenVerifies.j0 k s keys now need true) true := by
  refine Ev.step (f := _) (fun k => by simp only [ml17_TokenVerifies.j0]; rfl) ?_
  simp only [if_true]
  exact Ev.bind live_ev (Ev.now _)
 unfold ml17_TokenVerifies.f
 refine Ev.bind live_ev ?_
 simp only [if_pos trivial]
 refine Ev.ite (fun _ => ht) (fun h1 => ?_)
 obtain ⟨b, hb, hL⟩ := few_ev keys
 refine Ev.bind hb ?_
 cases b with
 | false => exact ht
 | true =>
  have hk := hL rfl
  have hs : s.size ≤ 100000 := by omega
  show Ev (fun k => ml17_TokenVerifies.j0 k s keys now need false) true
  refine Ev.step (f := _) (fun k => by simp only [ml17_TokenVerifies.j0]; rfl) ?_
  simp only [Bool.false_eq_true, if_false]
  refine Ev.bind (Verify_ev s hs keys (by omega) now need) (Ev.bind (RVerify_ev s hs keys (by omega) now need) ?_)
  simp only [beq_self_eq_true, Bool.and_self, if_pos trivial]
  exact Ev.now _
end Go.Proofs.YtkkomfomjpcbfaaDoor.Pu
end
section
namespace Go.Proofs.YtkkomfomjpcbfaaDoor
open Go.RowKit
theorem table_reads {P : Program} {w : World} {name : String} {g n : Nat} {t e : TypeId} {k : IntKind} {zs : List Int} (h : Lib.VarReads P w name (.agg (zs.map fun z => .lit (.int k z)))) (hg : P.globalNamed name = some g) (ht : (P.globals[g]?).map (·.type) = some t)
  (ha : P.underlying t = some (.array n e)) (he : P.underlying e = some (.int k)) (hc : P.cellsOf e = 1) : ∀ i, i < n → w.cell? ⟨g, i, none⟩ = some (.int k (zs.getD i 0)) := by
 obtain ⟨g', t', cs, fuel, p, h1, h2, h3, h4⟩ := h
 obtain rfl := Option.some.inj (hg.symm.trans h1)
 obtain rfl := Option.some.inj (ht.symm.trans h2)
 intro i hi
 obtain ⟨f2, d, q, hd, htr⟩ := Lib.array_elem ha h4 i hi
 obtain ⟨z, hz, hx, _⟩ := DataW.trod_int he htr
 rw [List.getElem?_map] at hd
 obtain ⟨z', hz', hzd⟩ := Option.map_eq_some_iff.1 hd
 have hzz : z' = z := by
  have h5 : d = .lit (.int k z) := congrArg Prod.fst hx
  rw [h5] at hzd
  injection hzd with h6
  injection h6
 subst hzz
 rw [hc, Nat.mul_one] at hz
 have h7 : cs.toList[i]? = some (.int k z') := by
  have := congrArg (·[0]?) hz
  simpa [List.getElem?_take, List.getElem?_drop] using this
 have h8 := World.var?_cell h1 h3 i
 rw [h8, List.getD_eq_getElem?_getD, hz']
 simpa using h7
theorem laid_plain {P : Program} {w : World} {l : List (String × DataW Unit)} (h : laidMetH P l w) (hf : (l.filter fun x => x.2.handleName?.isSome).isEmpty = true) : laidMet P l w := by
 unfold laidMetH at h
 split at h
 ·exact h
 ·rename_i h2
  rw [h2] at hf
  cases hf
end Go.Proofs.YtkkomfomjpcbfaaDoor
end
section
namespace Go.Proofs.YtkkomfomjpcbfaaDoor
open Go Go.RowKit Go.Shelf
theorem tab_of {w : World} (h : laidMetH Tryd.prog [("manometer/hash.rounds", Rows.laid_manometer_hash_rounds)] w) : Tab w := by
 intro j hj
 have hr := Lib.laidMet.reads (laid_plain h (by kernel_rfl)) (List.Mem.head _)
 exact table_reads (zs := Sha.K) (show Lib.VarReads _ w _ (.agg (Sha.K.map fun z => .lit (.int .u32 z))) from hr) (g := 0) (by kernel_rfl) (by kernel_rfl) Tryd.underlying99 Tryd.underlying92 (by kernel_rfl) j hj
end Go.Proofs.YtkkomfomjpcbfaaDoor
end
section
namespace Go.Proofs.YtkkomfomjpcbfaaDoor
open Go.RowKit Go.Proofs.YtkkomfomjpcbfaaDoorW.PrintWords Go.Proofs.YtkkomfomjpcbfaaDoorW.PrintMore Go.Proofs.YtkkomfomjpcbfaaDoorW.PrintLast Go.Deep
section
variable {H : Type} {enc : TypeId × Value → H} {P : Program} {w : World} {base : Nat} {spare : Nat → Bool} {held : Bool}
theorem opens_iso {α β : Type} {d : Kd α} {wf : α → Prop} {t : TypeId} (f : β → α) (g : α → β) (hg : ∀ y, f (g y) = y) (h : Opens enc P w base spare held t d wf) :
  Opens enc P w base spare held t (Kd.iso d f) (fun x => wf (f x)) := by
 intro fuel cs x hx
 obtain ⟨a, hK, hw⟩ := h fuel cs x hx
 refine ⟨g a, ?_, ?_⟩
 ·show d.K w (f (g a)) cs
  rw [hg]
  exact hK
 ·show wf (f (g a))
  rw [hg]
  exact hw
end
end Go.Proofs.YtkkomfomjpcbfaaDoor
end
