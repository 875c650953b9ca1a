import Derived.Test.YtkkomfomjpcbfaaDoorSTokenVerifiesTV
import Derived.Test.YtkkomfomjpcbfaaDoorSTokenVerifiesPTSx6
import Derived.Test.YtkkomfomjpcbfaaDoorSTokenVerifiesPTSx15
import Derived.Test.YtkkomfomjpcbfaaDoorSTokenVerifiesPTSx14
import Derived.Test.YtkkomfomjpcbfaaDoorSTokenVerifiesPTSx8
import Derived.KernelRfl
namespace Go.Proofs.YtkkomfomjpcbfaaDoor.Bq
end Go.Proofs.YtkkomfomjpcbfaaDoor.Bq
set_option linter.unusedVariables false
set_option linter.unusedSimpArgs false
section
namespace Go.Proofs.YtkkomfomjpcbfaaDoor.Pu
open Go Go.RowKit Go.Lib Go.Proofs.YtkkomfomjpcbfaaDoor Go.Proofs.YtkkomfomjpcbfaaDoor.PTS Go.Proofs.YtkkomfomjpcbfaaDoorW.PrintWords Go.Proofs.YtkkomfomjpcbfaaDoorW.PrintLast Go.Proofs.YtkkomfomjpcbfaaDoorW.PrintMore Bq
abbrev C5 := ByteArray × Int × Int × Int × Int
def parse4 (tn : ByteArray) (key ex sc : Int) (b : List Int) : Option C5 :=
 if (uget b).2.2 = 0 then (if (uget b).2.1 = (b.length : Int) then (if chkB tn key sc = 0 then some (tn, key, ex, sc, (uget b).1) else none) else none) else none
def parse3 (tn : ByteArray) (key : Int) (b : List Int) : Option C5 :=
 if (varG b).2.2 = 0 then (if (b.length : Int) = (varG b).2.1 then none else parse4 tn key (varG b).1 ((b.drop (varG b).2.1.toNat).getD 0 0) ((b.drop (varG b).2.1.toNat).drop 1)) else none
def parse2 (tn : ByteArray) (b : List Int) : Option C5 :=
 if (uget b).2.2 = 0 then (if (uget b).1 > 99 then none else parse3 tn (uget b).1 (b.drop (uget b).2.1.toNat)) else none
def parseB (b : List Int) : Option C5 :=
 if (uget b).2.2 = 0 then (if (uget b).1 > (b.length : Int) - (uget b).2.1 then none else parse2 (strOfNums ((b.drop (uget b).2.1.toNat).take (uget b).1.toNat)) ((b.drop (uget b).2.1.toNat).drop (uget b).1.toNat)) else none
def Told (f : Nat → Option (ByteArray × Int × Int × Int × Int × Bool)) (r : Option C5) : Prop :=
 ∃ q, Ev f q ∧ (match r with | none => q.2.2.2.2.2 = false | some c => q = (c.1, c.2.1, c.2.2.1, c.2.2.2.1, c.2.2.2.2, true))
theorem Told.no {f : Nat → Option (ByteArray × Int × Int × Int × Int × Bool)} {a : ByteArray} {b c d e : Int} (h : Ev f (a, b, c, d, e, false)) : Told f none := ⟨_, h, rfl⟩
theorem Told.step {f g : Nat → Option (ByteArray × Int × Int × Int × Int × Bool)} {r : Option C5} (h : ∀ k, g (k + 1) = f k) (hf : Told f r) : Told g r := by
 obtain ⟨q, h1, h2⟩ := hf
 exact ⟨q, Ev.step h h1, h2⟩
theorem Told.bind {α : Type} {g : Nat → Option α} {f : Nat → α → Option (ByteArray × Int × Int × Int × Int × Bool)} {a : α} {r : Option C5} (hg : Ev g a) (hf : Told (fun k => f k a) r) : Told (fun k => (g k).bind (f k)) r := by
 obtain ⟨q, h1, h2⟩ := hf
 exact ⟨q, Ev.bind hg h1, h2⟩
theorem Told.yes {c : Prop} [Decidable c] {g f : Nat → Option (ByteArray × Int × Int × Int × Int × Bool)} {r : Option C5} (hc : c) (h : Told g r) : Told (fun k => if c then g k else f k) r := by
 simp only [if_pos hc]
 exact h
theorem rd_getD (b : List Int) (n : Nat) : rd b (n : Int) = b.getD n 0 := by unfold rd; rw [Int.toNat_natCast]
theorem w64n (n : Nat) (h : n ≤ 9000000000000000000) : wrap64 (n : Int) = (n : Int) := wn rfl (by omega)
theorem Parse_j2 (b : List Int) (hb : Byts b) (hl : b.length ≤ 1000000000) (n : Nat) (hn : n < b.length) (tn : ByteArray) (key ex z1 z2 : Int) :
  Told (fun k => token_parse.j2 k b (n : Int) false tn key ex z1 z2) (parse4 tn key ex ((b.drop n).getD 0 0) ((b.drop n).drop 1)) ∧
  ∀ z3 : Int, tn.size ≤ 1000000000 → Told (fun k => mr17_claims.j2 k b (n : Int) ex false tn key z3 z1 z2) (parse4 tn key ex ((b.drop n).getD 0 0) ((b.drop n).drop 1)) := by
 have e1 : wrap64 ((n : Int) + 1) = ((n + 1 : Nat) : Int) := w1 n (by omega)
 have e2 : (b.drop n).getD 0 0 = b.getD n 0 := by rw [List.getD_eq_getElem?_getD, List.getElem?_drop, ← List.getD_eq_getElem?_getD]; rfl
 have e3 : (b.drop n).drop 1 = b.drop (n + 1) := by rw [List.drop_drop]
 have hd : Byts (b.drop (n + 1)) := byt_drop hb _
 have hu := Uvarint_ev (b.drop (n + 1)) hd (by rw [List.length_drop]; omega)
 rw [e2, e3]
 constructor
 ·refine Told.step (f := _) (fun k => by simp only [token_parse.j2]; rfl) ?_
  simp only [Bool.false_eq_true, if_false]
  rw [e1]
  refine Told.yes (by omega) (Told.yes (by omega) (Told.yes (by omega) (Told.yes (by omega) ?_)))
  rw [Int.toNat_natCast, rd_getD]
  refine Told.bind hu.1 ?_
  unfold parse4
  by_cases h1 : (uget (b.drop (n + 1))).2.2 = 0
  ·simp only [if_pos h1]
   by_cases h2 : (uget (b.drop (n + 1))).2.1 = ((b.drop (n + 1)).length : Int)
   ·simp only [if_pos h2]
    refine Told.bind (Check_ev tn key ex (b.getD n 0) (uget (b.drop (n + 1))).1) ?_
    by_cases h3 : chkB tn key (b.getD n 0) = 0
    ·simp only [if_pos h3, h3]
     exact ⟨_, Ev.now _, rfl⟩
    ·simp only [if_neg h3]
     exact ⟨_, Ev.now _, beq_eq_false_iff_ne.mpr h3⟩
   ·simp only [if_neg h2]
    exact Told.no (Ev.now _)
  ·simp only [if_neg h1]
   exact Told.no (Ev.now _)
 ·intro z3 hts
  refine Told.step (f := _) (fun k => by simp only [mr17_claims.j2]; rfl) ?_
  simp only [Bool.false_eq_true, if_false]
  rw [e1]
  refine Told.yes (by omega) (Told.yes (by omega) (Told.yes (by omega) (Told.yes (by omega) ?_)))
  rw [Int.toNat_natCast, rd_getD]
  refine Told.bind hu.2 ?_
  unfold parse4
  by_cases h1 : (uget (b.drop (n + 1))).2.2 = 0
  ·simp only [if_pos h1]
   by_cases h2 : (uget (b.drop (n + 1))).2.1 = ((b.drop (n + 1)).length : Int)
   ·simp only [if_pos h2]
    refine Told.bind (RCheck_ev tn key ex (b.getD n 0) (uget (b.drop (n + 1))).1 (by omega)) ?_
    by_cases h3 : chkB tn key (b.getD n 0) = 0
    ·simp only [if_pos h3, h3]
     exact ⟨_, Ev.now _, rfl⟩
    ·simp only [if_neg h3]
     exact ⟨_, Ev.now _, beq_eq_false_iff_ne.mpr h3⟩
   ·simp only [if_neg h2]
    exact Told.no (Ev.now _)
  ·simp only [if_neg h1]
   exact Told.no (Ev.now _)
theorem Parse_j1 (b : List Int) (hb : Byts b) (hl : b.length ≤ 1000000000) (n : Nat) (hn : n ≤ b.length) (tn : ByteArray) (key : Int) (hk : 0 ≤ key ∧ key ≤ 99) (z0 z1 z2 z3 z4 : Int) :
  Told (fun k => token_parse.j1 k b key (n : Int) false tn z0 z1 z2 z3) (parse3 tn key (b.drop n)) ∧
  (tn.size ≤ 1000000000 → Told (fun k => mr17_claims.j1 k b (n : Int) key false tn z0 z1 z2 z3) (parse3 tn key (b.drop n))) := by
 have hd : Byts (b.drop n) := byt_drop hb _
 have hdl : (b.drop n).length ≤ 1000000000 := by rw [List.length_drop]; omega
 have hu := Varint_ev (b.drop n) hd (by omega)
 have ek : wrap64 key = key := w64 (by omega) (by omega)
 constructor
 ·refine Told.step (f := _) (fun k => by simp only [token_parse.j1]; rfl) ?_
  simp only [Bool.false_eq_true, if_false]
  refine Told.yes (by omega) (Told.yes (by omega) ?_)
  rw [Int.toNat_natCast]
  refine Told.bind hu.1 ?_
  unfold parse3
  rcases varG_cases (b.drop n) hd with ⟨v, m, hm, hv⟩ | ⟨e, he, hv⟩
  ·rw [hv, ek]
   simp only [if_pos trivial]
   by_cases h2 : ((b.drop n).length : Int) = (m : Int)
   ·have hb2 : (((b.drop n).length : Int) == (m : Int)) = true := beq_iff_eq.mpr h2
    simp only [if_pos h2, hb2]
    refine Told.step (f := _) (fun k => by simp only [token_parse.j2]; rfl) ?_
    simp only [if_true]
    exact Told.no (Ev.now _)
   ·have hb2 : (((b.drop n).length : Int) == (m : Int)) = false := beq_eq_false_iff_ne.mpr h2
    simp only [if_neg h2, hb2]
    rw [Int.toNat_natCast]
    exact (Parse_j2 (b.drop n) hd hdl m (by omega) tn key v z2 z3).1
  ·rw [hv]
   simp only [if_neg he]
   refine Told.step (f := _) (fun k => by simp only [token_parse.j2]; rfl) ?_
   simp only [if_true]
   exact Told.no (Ev.now _)
 ·intro hts
  refine Told.step (f := _) (fun k => by simp only [mr17_claims.j1]; rfl) ?_
  simp only [Bool.false_eq_true, if_false]
  refine Told.yes (by omega) (Told.yes (by omega) ?_)
  rw [Int.toNat_natCast]
  refine Told.bind hu.2 ?_
  unfold parse3
  rcases varG_cases (b.drop n) hd with ⟨v, m, hm, hv⟩ | ⟨e, he, hv⟩
  ·rw [hv, ek]
   simp only [if_pos trivial]
   by_cases h2 : ((b.drop n).length : Int) = (m : Int)
   ·have hb2 : (((b.drop n).length : Int) == (m : Int)) = true := beq_iff_eq.mpr h2
    simp only [if_pos h2, hb2]
    refine Told.step (f := _) (fun k => by simp only [mr17_claims.j2]; rfl) ?_
    simp only [if_true]
    exact Told.no (Ev.now _)
   ·have hb2 : (((b.drop n).length : Int) == (m : Int)) = false := beq_eq_false_iff_ne.mpr h2
    simp only [if_neg h2, hb2]
    rw [Int.toNat_natCast]
    exact (Parse_j2 (b.drop n) hd hdl m (by omega) tn key v z2 z3).2 z1 hts
  ·rw [hv]
   simp only [if_neg he]
   refine Told.step (f := _) (fun k => by simp only [mr17_claims.j2]; rfl) ?_
   simp only [if_true]
   exact Told.no (Ev.now _)
theorem Parse_ev (b : List Int) (hb : Byts b) (hl : b.length ≤ 1000000000) : Told (fun k => token_parse.f k b) (parseB b) ∧ Told (fun k => mr17_claims.f k b) (parseB b) := by
 have hu := Uvarint_ev b hb (by omega)
 unfold token_parse.f mr17_claims.f parseB
 rcases uget_cases b hb with ⟨n, hu1, hle, _, hn⟩ | ⟨e, he, hu1⟩
 ·rw [hu1] at hu ⊢
  obtain ⟨m, hm⟩ : ∃ m, m = (uv n).length := ⟨_, rfl⟩
  rw [← hm] at hu hle ⊢
  have ew : IntKind.u64.wrap (wrap64 ((b.length : Int) - (m : Int))) = (b.length : Int) - (m : Int) := by rw [w64 (by omega) (by omega), IntKind.wrap_u64]; omega
  by_cases hgt : (n : Int) > (b.length : Int) - (m : Int)
  ·have h1 : Told (fun k => (bits_Uvarint.f k b).bind fun bt156 => (if bt156.2.2 = 0 then (token_parse.j0 k b bt156.1 bt156.2.1 (decide (bt156.1 > (IntKind.u64.wrap (wrap64 ((b.length : Int) - bt156.2.1))))) (⟨#[]⟩ : ByteArray) 0 0 0 0) else (token_parse.j0 k b bt156.1 bt156.2.1 true (⟨#[]⟩ : ByteArray) 0 0 0 0))) none := by
    refine Told.bind hu.1 ?_
    simp only [if_pos trivial, ew, decide_eq_true hgt]
    refine Told.step (f := _) (fun k => by simp only [token_parse.j0]; rfl) ?_
    simp only [if_true]
    exact Told.no (Ev.now _)
   have h2 : Told (fun k => (mr01_Uvarint.f k b).bind fun bt156 => (if bt156.2.2 = 0 then (mr17_claims.j0 k b bt156.1 bt156.2.1 (decide (bt156.1 > (IntKind.u64.wrap (wrap64 ((b.length : Int) - bt156.2.1))))) (⟨#[]⟩ : ByteArray) 0 0 0 0) else (mr17_claims.j0 k b bt156.1 bt156.2.1 true (⟨#[]⟩ : ByteArray) 0 0 0 0))) none := by
    refine Told.bind hu.2 ?_
    simp only [if_pos trivial, ew, decide_eq_true hgt]
    refine Told.step (f := _) (fun k => by simp only [mr17_claims.j0]; rfl) ?_
    simp only [if_true]
    exact Told.no (Ev.now _)
   simp only [if_pos trivial, if_pos hgt]
   exact ⟨h1, h2⟩
  ·have hnm : m + n ≤ b.length := by omega
   have en : wrap64 (n : Int) = (n : Int) := w64n n (by omega)
   have em : wrap64 ((m : Int) + (n : Int)) = ((m + n : Nat) : Int) := wn (by omega) (by omega)
   have ed : (b.drop m).drop n = b.drop (m + n) := by rw [List.drop_drop]
   have et : (b.take (m + n)).drop m = (b.drop m).take n := by rw [List.drop_take]; congr 1; omega
   have hts : (strOfNums ((b.drop m).take n)).size ≤ 1000000000 := by rw [strOfNums_size, List.length_take, List.length_drop]; omega
   have hd2 : Byts (b.drop (m + n)) := byt_drop hb _
   have hdl : (b.drop (m + n)).length ≤ 1000000000 := by rw [List.length_drop]; omega
   have hu2 := Uvarint_ev (b.drop (m + n)) hd2 (by omega)
   simp only [if_pos trivial, if_neg hgt, Int.toNat_natCast, ed]
   unfold parse2
   constructor
   ·refine Told.bind hu.1 ?_
    simp only [if_pos trivial, ew, decide_eq_false hgt]
    refine Told.step (f := _) (fun k => by simp only [token_parse.j0]; rfl) ?_
    simp only [Bool.false_eq_true, if_false]
    rw [en, em]
    refine Told.yes (by omega) (Told.yes (by omega) (Told.yes (by omega) (Told.yes (by omega) ?_)))
    rw [Int.toNat_natCast, Int.toNat_natCast, et]
    refine Told.bind hu2.1 ?_
    rcases uget_cases (b.drop (m + n)) hd2 with ⟨n2, hq, hle2, _, hn2⟩ | ⟨e, he, hq⟩
    ·rw [hq]
     simp only [if_pos trivial]
     by_cases h99 : (n2 : Int) > 99
     ·simp only [if_pos h99, decide_eq_true h99]
      refine Told.step (f := _) (fun k => by simp only [token_parse.j1]; rfl) ?_
      simp only [if_true]
      exact Told.no (Ev.now _)
     ·simp only [if_neg h99, decide_eq_false h99]
      rw [Int.toNat_natCast]
      exact (Parse_j1 (b.drop (m + n)) hd2 hdl (uv n2).length hle2 _ (n2 : Int) (by omega) 0 0 0 0 0).1
    ·rw [hq]
     simp only [if_neg he]
     refine Told.step (f := _) (fun k => by simp only [token_parse.j1]; rfl) ?_
     simp only [if_true]
     exact Told.no (Ev.now _)
   ·refine Told.bind hu.2 ?_
    simp only [if_pos trivial, ew, decide_eq_false hgt]
    refine Told.step (f := _) (fun k => by simp only [mr17_claims.j0]; rfl) ?_
    simp only [Bool.false_eq_true, if_false]
    rw [en]
    refine Told.yes (by omega) (Told.yes (by omega) (Told.yes (by omega) (Told.yes (by rw [Int.toNat_natCast, List.length_drop]; omega) ?_)))
    rw [Int.toNat_natCast, Int.toNat_natCast, ed]
    refine Told.bind hu2.2 ?_
    rcases uget_cases (b.drop (m + n)) hd2 with ⟨n2, hq, hle2, _, hn2⟩ | ⟨e, he, hq⟩
    ·rw [hq]
     simp only [if_pos trivial]
     by_cases h99 : (n2 : Int) > 99
     ·simp only [if_pos h99, decide_eq_true h99]
      refine Told.step (f := _) (fun k => by simp only [mr17_claims.j1]; rfl) ?_
      simp only [if_true]
      exact Told.no (Ev.now _)
     ·simp only [if_neg h99, decide_eq_false h99]
      rw [Int.toNat_natCast]
      exact (Parse_j1 (b.drop (m + n)) hd2 hdl (uv n2).length hle2 _ (n2 : Int) (by omega) 0 0 0 0 0).2 hts
    ·rw [hq]
     simp only [if_neg he]
     refine Told.step (f := _) (fun k => by simp only [mr17_claims.j1]; rfl) ?_
     simp only [if_true]
     exact Told.no (Ev.now _)
 ·rw [hu1] at hu ⊢
  simp only [if_neg he]
  constructor
  ·refine Told.bind hu.1 ?_
   simp only [if_neg he]
   refine Told.step (f := _) (fun k => by simp only [token_parse.j0]; rfl) ?_
   simp only [if_true]
   exact Told.no (Ev.now _)
  ·refine Told.bind hu.2 ?_
   simp only [if_neg he]
   refine Told.step (f := _) (fun k => by simp only [mr17_claims.j0]; rfl) ?_
   simp only [if_true]
   exact Told.no (Ev.now _)
end Go.Proofs.YtkkomfomjpcbfaaDoor.Pu
end
section
namespace Go.Proofs.YtkkomfomjpcbfaaDoor.Pu
open Go Go.RowKit Go.Lib Go.Proofs.YtkkomfomjpcbfaaDoor Go.Proofs.YtkkomfomjpcbfaaDoor.PTS Go.Proofs.YtkkomfomjpcbfaaDoorW.PrintWords Go.Proofs.YtkkomfomjpcbfaaDoorW.PrintLast Go.Proofs.YtkkomfomjpcbfaaDoorW.PrintMore Bq
def firstD : Str → Option Nat
 | [] => none
 | c :: l => if c.toNat = 46 then some 0 else (firstD l).map (· + 1)
theorem ptL_cons (c : UInt8) (l : Str) (i : Nat) (p : Int) : ptL (c :: l) i p = if c.toNat = 46 then (if 0 ≤ p then none else ptL l (i + 1) (i : Int)) else ptL l (i + 1) p := rfl
theorem ptL_none : ∀ (l : Str) (i : Nat) (q : Int), firstD l = none → ptL l i q = some q
 | [], i, q, h => rfl
 | c :: l, i, q, h => by
  unfold firstD at h
  split at h
  ·cases h
  ·rename_i hc
   unfold ptL
   rw [if_neg hc]
   exact ptL_none l (i + 1) q (by simpa using h)
theorem ptL_first : ∀ (l : Str) (i j : Nat) (q : Int), q < 0 → firstD l = some j → ptL l i q = ptL (l.drop (j + 1)) (i + j + 1) ((i + j : Nat) : Int)
 | [], i, j, q, hq, h => by cases h
 | c :: l, i, j, q, hq, h => by
  unfold firstD at h
  split at h
  ·rename_i hc
   injection h with h
   subst h
   rw [ptL_cons, if_pos hc, if_neg (by omega)]
   rfl
  ·rename_i hc
   obtain ⟨m, hm, rfl⟩ := Option.map_eq_some_iff.1 h
   rw [ptL_cons, if_neg hc, ptL_first l (i + 1) m q hq hm, List.drop_succ_cons, show i + 1 + m + 1 = i + (m + 1) + 1 by omega, show i + 1 + m = i + (m + 1) by omega]
theorem ptL_second : ∀ (l : Str) (i : Nat) (q : Int), 0 ≤ q → ptL l i q = if firstD l = none then some q else none
 | [], i, q, hq => rfl
 | c :: l, i, q, hq => by
  unfold ptL
  by_cases hc : c.toNat = 46
  ·rw [if_pos hc, if_pos hq]
   have : firstD (c :: l) = some 0 := by unfold firstD; rw [if_pos hc]
   rw [this]
   rfl
  ·rw [if_neg hc, ptL_second l (i + 1) q hq]
   have : firstD (c :: l) = (firstD l).map (· + 1) := by conv => lhs; unfold firstD; rw [if_neg hc]
   rw [this]
   cases firstD l <;> rfl
theorem ptL_all (l : Str) : ptL l 0 (-1) = match firstD l with | none => some (-1) | some j => if firstD (l.drop (j + 1)) = none then some (j : Int) else none := by
 cases h : firstD l with
 | none => exact ptL_none l 0 (-1) h
 | some j =>
  rw [ptL_first l 0 j (-1) (by decide) h, ptL_second _ _ _ (by omega), Nat.zero_add]
theorem first_mem : ∀ (l : Str) (j : Nat), firstD l = some j → j < l.length ∧ (l.getD j 0).toNat = 46
 | [], j, h => by cases h
 | c :: l, j, h => by
  unfold firstD at h
  split at h
  ·rename_i hc
   injection h with h
   subst h
   exact ⟨by simp, by simpa using hc⟩
  ·obtain ⟨m, hm, rfl⟩ := Option.map_eq_some_iff.1 h
   obtain ⟨h1, h2⟩ := first_mem l m hm
   exact ⟨by simp; omega, by simpa using h2⟩
theorem un_dot {l : Str} {j : Nat} (h : firstD l = some j) : (unL l 0 0 []).2 = 8 := by
 obtain ⟨h1, h2⟩ := first_mem l j h
 rw [unL_bad l 0 0 [] ⟨l.getD j 0, by rw [List.getD_eq_getElem?_getD, List.getElem?_eq_getElem h1]; exact List.getElem_mem h1, by rw [h2]; rfl⟩]
def goodP (m la : Str) : Bool := decide ((unL m 0 0 []).2 = 0) && (decide ((unL la 0 0 []).2 = 0) && decide ((unL la 0 0 []).1.length = 32))
def readR (rest : Str) : Option C5 := match firstD rest with
 | none => none
 | some j => if goodP (rest.take j) (rest.drop (j + 1)) = true then parseB (unL (rest.take j) 0 0 []).1 else none
def readB (s : ByteArray) : Option C5 := if (B s).take 4 = [109, 116, 49, 46] then readR ((B s).drop 4) else none
def outR : Option C5 → Clm
 | none => tokBad
 | some c => (c.1, c.2.1, c.2.2.1, c.2.2.2.1, c.2.2.2.2, 0)
theorem Told.out {f : Nat → Option (ByteArray × Int × Int × Int × Int × Bool)} {r : Option C5} (h : Told f r) :
  Ev (fun k => (f k).bind fun c => if c.2.2.2.2.2 = true then some (c.1, c.2.1, c.2.2.1, c.2.2.2.1, c.2.2.2.2.1, (0 : Int)) else some tokBad) (outR r) := by
 obtain ⟨q, h1, h2⟩ := h
 refine Ev.bind h1 ?_
 cases r with
 | none =>
  simp only at h2
  rw [h2]
  simp only [Bool.false_eq_true, if_false]
  exact Ev.now _
 | some c =>
  simp only at h2
  rw [h2]
  simp only [if_pos trivial]
  exact Ev.now _
theorem unL_byt0 (l : Str) : Byts (unL l 0 0 []).1 := unL_byts l 0 0 [] (fun x hx => by cases hx)
theorem unL_leng : ∀ (l : Str) (X n : Nat) (out : List Int), (unL l X n out).1.length ≤ out.length + l.length
 | [], X, n, out => by unfold unL; split <;> simp
 | c :: l, X, n, out => by
  unfold unL
  cases sixV (c.toNat : Int) with
  | none => simp
  | some v =>
   simp only
   split
   ·refine Nat.le_trans (unL_leng l _ _ _) ?_
    simp only [List.length_append, List.length_cons, List.length_nil]
    omega
   ·refine Nat.le_trans (unL_leng l _ _ _) ?_
    simp only [List.length_cons]
    omega
theorem tokRest_ev (rest : ByteArray) (hs : rest.size ≤ 100000) (j : Nat) (hj : firstD (B rest) = some j) : Ev (fun k => tokRest k rest j) (outR (readR (B rest))) := by
 have e1 : (rest.extract 0 j).data.toList = (B rest).take j := by show B _ = _; rw [B_extract, List.drop_zero]
 have e2 : (rest.extract (j + 1) rest.size).data.toList = (B rest).drop (j + 1) := by show B _ = _; rw [B_extract, ← kD, List.take_length]
 unfold tokRest
 rw [e1, e2]
 unfold readR
 rw [hj]
 simp only
 by_cases hg : goodP ((B rest).take j) ((B rest).drop (j + 1)) = true
 ·have hg2 := hg
  unfold goodP at hg2
  simp only [Bool.and_eq_true, decide_eq_true_eq] at hg2
  simp only [if_pos hg, if_pos (show _ ∧ _ ∧ _ from hg2)]
  have hl := unL_leng ((B rest).take j) 0 0 []
  have hll : ((B rest).take j).length ≤ 100000 := by rw [List.length_take, kD]; omega
  simp only [List.length_nil] at hl
  exact (Parse_ev _ (unL_byt0 _) (by omega)).1.out
 ·have hg2 : ¬ ((unL ((B rest).take j) 0 0 []).2 = 0 ∧ (unL ((B rest).drop (j + 1)) 0 0 []).2 = 0 ∧ (unL ((B rest).drop (j + 1)) 0 0 []).1.length = 32) := by
   intro h
   apply hg
   unfold goodP
   simp only [Bool.and_eq_true, decide_eq_true_eq]
   exact h
  simp only [if_neg hg, if_neg hg2]
  exact Ev.now _
theorem readR_dots {l : Str} {j : Nat} (h : firstD l = some j) (h2 : firstD (l.drop (j + 1)) ≠ none) : readR l = none := by
 unfold readR
 rw [h]
 simp only
 obtain ⟨m, hm⟩ := Option.ne_none_iff_exists'.1 h2
 rw [if_neg]
 unfold goodP
 rw [un_dot hm]
 simp
theorem Read_ev (s : ByteArray) (hs : s.size ≤ 100000) : Ev (fun k => token_Read.f k s) (outR (readB s)) := by
 show Ev (fun k => tokRead k s) _
 unfold tokRead
 refine Ev.yes (by omega) ?_
 have e4 : (s.extract 0 4).toList = (B s).take 4 := by rw [toList_B, B_extract, List.drop_zero]
 have er : B (s.extract 4 s.size) = (B s).drop 4 := by rw [B_extract, ← kD, List.take_length]
 rw [e4]
 by_cases h4 : s.size < 4
 ·have hne : ¬ (B s).take 4 = [109, 116, 49, 46] := by
   intro h
   have := congrArg List.length h
   rw [List.length_take, kD] at this
   simp at this
   omega
  simp only [if_pos h4]
  unfold readB
  rw [if_neg hne]
  exact Ev.now _
 ·simp only [if_neg h4]
  unfold readB
  by_cases hm : (B s).take 4 = [109, 116, 49, 46]
  ·have hm2 : ((B s).take 4 == [109, 116, 49, 46]) = true := beq_iff_eq.mpr hm
   simp only [if_pos hm, if_pos hm2]
   rw [← er]
   show Ev (fun k => tokPoint k (s.extract 4 s.size) (ptL (B (s.extract 4 s.size)) 0 (-1))) _
   rw [ptL_all]
   cases hf : firstD (B (s.extract 4 s.size)) with
   | none =>
    simp only
    unfold readR
    rw [hf]
    exact Ev.now _
   | some j =>
    simp only
    by_cases h2 : firstD ((B (s.extract 4 s.size)).drop (j + 1)) = none
    ·rw [if_pos h2]
     unfold tokPoint
     simp only [if_neg (show ¬ ((j : Int) < 0) by omega), Int.toNat_natCast]
     exact tokRest_ev _ (by rw [ByteArray.size_extract]; omega) j hf
    ·rw [if_neg h2, readR_dots hf h2]
     exact Ev.now _
  ·have hm2 : ¬ ((B s).take 4 == [109, 116, 49, 46]) = true := fun h => hm (beq_iff_eq.mp h)
   simp only [if_neg hm, if_neg hm2]
   exact Ev.now _
theorem cut_l0 (s : ByteArray) (hs : s.size ≤ 1000000000) : ∀ (d n : Nat), n + d = s.size → Ev (fun k => mr17_cut.l0 k s (s.size : Int) (n : Int)) (match firstD ((B s).drop n) with | none => ((⟨#[]⟩ : ByteArray), (⟨#[]⟩ : ByteArray), false) | some j => (s.extract 0 (n + j), s.extract (n + j + 1) s.size, true)) := by
 intro d
 induction d with
 | zero =>
  intro n hn
  refine Ev.step (f := _) (fun k => by simp only [mr17_cut.l0]; rfl) ?_
  simp only [if_neg (show ¬ ((n : Int) < (s.size : Int)) by omega)]
  rw [List.drop_of_length_le (by rw [kD]; omega)]
  exact Ev.now _
 | succ d ih =>
  intro n hn
  have hlt : n < (B s).length := by rw [kD]; omega
  have e1 : wrap64 ((n : Int) + 1) = ((n + 1 : Nat) : Int) := w1 n (by omega)
  refine Ev.step (f := _) (fun k => by simp only [mr17_cut.l0]; rfl) ?_
  simp only [if_pos (show (n : Int) < (s.size : Int) by omega), if_pos (show (0 : Int) ≤ (n : Int) by omega), bt_B, e1]
  rw [drop_cons (B s) n hlt]
  unfold firstD
  by_cases hc : ((B s).getD n 0).toNat = 46
  ·have hci : (((B s).getD n 0).toNat : Int) = 46 := by omega
   simp only [if_pos hc, if_pos hci, if_pos (show (n : Int) ≤ (s.size : Int) by omega), if_pos (show (0 : Int) ≤ ((n + 1 : Nat) : Int) by omega), if_pos (show ((n + 1 : Nat) : Int) ≤ (s.size : Int) by omega), Int.toNat_natCast]
   exact Ev.now _
  ·have hci : ¬ (((B s).getD n 0).toNat : Int) = 46 := by omega
   simp only [if_neg hc, if_neg hci]
   have h := ih (n + 1) (by omega)
   cases hf : firstD ((B s).drop (n + 1)) with
   | none =>
    rw [hf] at h
    exact h
   | some j =>
    rw [hf] at h
    simp only [Option.map_some]
    simp only at h
    rw [show n + 1 + j = n + (j + 1) by omega] at h
    exact h
def cutR (s : ByteArray) : ByteArray × ByteArray × Bool := match firstD (B s) with | none => ((⟨#[]⟩ : ByteArray), (⟨#[]⟩ : ByteArray), false) | some j => (s.extract 0 j, s.extract (j + 1) s.size, true)
theorem Cut_ev (s : ByteArray) (hs : s.size ≤ 1000000000) : Ev (fun k => mr17_cut.f k s) (cutR s) := by
 unfold mr17_cut.f cutR
 have h := cut_l0 s hs s.size 0 (by omega)
 simpa using h
theorem bad_j1 (b : List Int) : Ev (fun k => mr17_Read.j1 k b true) tokBad := by
 refine Ev.step (f := _) (fun k => by simp only [mr17_Read.j1]; rfl) ?_
 simp only [if_true]
 exact Ev.now _
theorem bad_j0 (m la : ByteArray) : Ev (fun k => mr17_Read.j0 k m la true) tokBad := by
 refine Ev.step (f := _) (fun k => by simp only [mr17_Read.j0]; rfl) ?_
 simp only [if_true]
 exact Ev.now _
theorem good_j0 (m la : ByteArray) (h1 : m.size ≤ 100000) (h2 : la.size ≤ 100000) :
  Ev (fun k => mr17_Read.j0 k m la false) (outR (if goodP (B m) (B la) = true then parseB (unL (B m) 0 0 []).1 else none)) := by
 refine Ev.step (f := _) (fun k => by simp only [mr17_Read.j0]; rfl) ?_
 simp only [Bool.false_eq_true, if_false]
 refine Ev.bind (RUnarmor_ev m h1) (Ev.bind (RUnarmor_ev la h2) ?_)
 unfold goodP
 by_cases g1 : (unL (B m) 0 0 []).2 = 0
 ·by_cases g2 : (unL (B la) 0 0 []).2 = 0
  ·simp only [if_pos g1, if_pos g2, decide_eq_true g1, decide_eq_true g2, Bool.true_and]
   by_cases g3 : (unL (B la) 0 0 []).1.length = 32
   ·have g3b : (((unL (B la) 0 0 []).1.length : Int) != 32) = false := by rw [g3]; rfl
    simp only [g3b, decide_eq_true g3, if_pos trivial]
    refine Ev.step (f := _) (fun k => by simp only [mr17_Read.j1]; rfl) ?_
    simp only [Bool.false_eq_true, if_false]
    have hl := unL_leng (B m) 0 0 []
    rw [kD] at hl
    simp only [List.length_nil] at hl
    exact (Parse_ev _ (unL_byt0 _) (by omega)).2.out
   ·have g3b : (((unL (B la) 0 0 []).1.length : Int) != 32) = true := bne_iff_ne.mpr (by omega)
    simp only [g3b, decide_eq_false g3, Bool.false_eq_true, if_false]
    exact bad_j1 _
  ·simp only [if_pos g1, if_neg g2, decide_eq_true g1, decide_eq_false g2, Bool.false_and, Bool.and_false, Bool.false_eq_true, if_false]
   exact bad_j1 _
 ·simp only [if_neg g1, decide_eq_false g1, Bool.false_and, Bool.false_eq_true, if_false]
  exact bad_j1 _
theorem RRead_ev (s : ByteArray) (hs : s.size ≤ 100000) : Ev (fun k => mr17_Read.f k s) (outR (readB s)) := by
 unfold mr17_Read.f
 refine Ev.bind (Cut_ev s (by omega)) ?_
 unfold cutR
 cases hf : firstD (B s) with
 | none =>
  have hne : ¬ (B s).take 4 = [109, 116, 49, 46] := by
   intro h
   rw [← List.take_append_drop 4 (B s), h] at hf
   simp [firstD] at hf
  simp only
  refine Ev.bind (Cut_ev _ (by decide)) ?_
  simp only [Bool.false_eq_true, if_false]
  unfold readB
  rw [if_neg hne]
  exact bad_j0 _ _
 | some j =>
  simp only
  have hj := first_mem _ _ hf
  rw [kD] at hj
  have hrs : (s.extract (j + 1) s.size).size ≤ 100000 := by rw [ByteArray.size_extract]; omega
  refine Ev.bind (Cut_ev _ (by omega)) ?_
  simp only [if_pos trivial]
  have e1 : (s.extract 0 j).toList = (B s).take j := by rw [toList_B, B_extract, List.drop_zero]
  have er : B (s.extract (j + 1) s.size) = (B s).drop (j + 1) := by rw [B_extract, ← kD, List.take_length]
  by_cases hm : (B s).take 4 = [109, 116, 49, 46]
  ·have h3 : j = 3 := by
    have h := hf
    rw [← List.take_append_drop 4 (B s), hm] at h
    simp [firstD] at h
    exact h.symm
   subst h3
   have et : (B s).take 3 = [109, 116, 49] := by
    have h := congrArg (List.take 3) hm
    rw [List.take_take] at h
    exact h
   have hb : ((s.extract 0 3).toList != ([109, 116, 49] : List UInt8)) = false := by rw [e1, et]; rfl
   unfold readB readR
   rw [if_pos hm, ← er]
   unfold cutR
   cases hg : firstD (B (s.extract (3 + 1) s.size)) with
   | none =>
    simp only [Bool.false_eq_true, if_false]
    exact bad_j0 _ _
   | some i =>
    simp only [if_pos trivial, hb]
    have q1 : ∀ R : ByteArray, (B R).take i = B (R.extract 0 i) := fun R => by rw [B_extract, List.drop_zero]
    have q2 : ∀ R : ByteArray, (B R).drop (i + 1) = B (R.extract (i + 1) R.size) := fun R => by rw [B_extract, ← kD, List.take_length]
    rw [q1, q2]
    exact good_j0 _ _ (by rw [ByteArray.size_extract]; omega) (by rw [ByteArray.size_extract]; omega)
  ·have hb : ((s.extract 0 j).toList != ([109, 116, 49] : List UInt8)) = true := by
    refine bne_iff_ne.mpr (fun h => hm ?_)
    rw [e1] at h
    have hl := congrArg List.length h
    rw [List.length_take, kD] at hl
    have h3 : j = 3 := by simp at hl; omega
    subst h3
    rw [List.take_succ_eq_append_getElem (by rw [kD]; omega), h]
    have h46 : (B s)[3]'(by rw [kD]; omega) = 46 := by
     have h := hj.2
     rw [List.getD_eq_getElem?_getD, List.getElem?_eq_getElem (by rw [kD]; omega), Option.getD_some] at h
     exact UInt8.toNat_inj.1 h
    rw [h46]
    rfl
   unfold readB
   rw [if_neg hm, hb]
   split
   ·exact bad_j0 _ _
   ·exact bad_j0 _ _
end Go.Proofs.YtkkomfomjpcbfaaDoor.Pu
end
section
namespace Go.Proofs.YtkkomfomjpcbfaaDoor.Pu
open Go Go.Proofs.YtkkomfomjpcbfaaDoor Go.Proofs.YtkkomfomjpcbfaaDoor.PTS
theorem live_60 : ml17_live.f 60 = some true := by kernel_rfl
end Go.Proofs.YtkkomfomjpcbfaaDoor.Pu
end
