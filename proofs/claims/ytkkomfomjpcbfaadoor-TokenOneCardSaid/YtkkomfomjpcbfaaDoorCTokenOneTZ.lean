import Derived.Test.YtkkomfomjpcbfaaDoorCTokenOneTT
import Derived.Test.YtkkomfomjpcbfaaDoorCTokenOnePTSx8
import Derived.Test.YtkkomfomjpcbfaaDoorCTokenOnePTSx13
import Derived.Laws.RangeAny
import Derived.Lib.OthersKept
import Derived.Test.YtkkomfomjpcbfaaDoorCTokenOneG1
import Derived.Test.YtkkomfomjpcbfaaDoorCTokenOneTU
import Derived.Test.YtkkomfomjpcbfaaDoorCTokenOneTQ
import Derived.Test.YtkkomfomjpcbfaaDoorCTokenOnePTSx2
import Derived.Test.YtkkomfomjpcbfaaDoorCTokenOnePTSx6
import Derived.KernelRfl
import Derived.Test.YtkkomfomjpcbfaaDoorCTokenOnePTSx1
import Derived.Test.YtkkomfomjpcbfaaDoorCTokenOnePTSx7
namespace Go.Proofs.YtkkomfomjpcbfaaDoor.Bq
end Go.Proofs.YtkkomfomjpcbfaaDoor.Bq
section
namespace Go.Proofs.YtkkomfomjpcbfaaDoor.PTS
open Go.RowKit Go.Proofs.YtkkomfomjpcbfaaDoorW.PrintWords Go.Proofs.YtkkomfomjpcbfaaDoorW.PrintLast Go.Proofs.YtkkomfomjpcbfaaDoorW.PrintMore
attribute [local go_sem] max2_int min2_int max_two min_two max_three min_three max_four min_four
set_option linter.unusedVariables false
set_option linter.unusedSimpArgs false
def manometerref17_head.f (k : Nat) (a0_0 : ByteArray) (a0_1 : Int) (a0_2 : Int) (a0_3 : Int) (a0_4 : Int) : Option (ByteArray) := (manometerref01_PutUvarint.f k (IntKind.u64.wrap ((a0_0.size : Int)))).bind fun t252 => (if a0_0.size ≤ 9223372036854775807 then ((manometerref01_PutUvarint.f k (IntKind.u64.wrap (a0_1))).bind fun t258 => ((manometerref01_PutVarint.f k a0_2).bind fun t261 => ((manometerref01_PutUvarint.f k a0_4).bind fun t267 => ((manometerref01_Join.f k (([t252, (bytesOf a0_0), t258, t261, (([a0_3] : List Int)), t267] : List (List Int)))).bind fun t273 => ((manometerref03_Armor.f k t273).bind fun t276 => (if 4 + t276.size ≤ 9223372036854775807 then (some ((⟨#[109, 116, 49, 46]⟩ : ByteArray) ++ t276)) else (none))))))) else (none))
def manometerref03_Mac.f (l0 : List Int) (l1 : List Int) : Option (List Int) := if l0.length ≤ 1000000 then (if l1.length ≤ 1000000 then (if l0.all (fun x => decide (0 ≤ x ∧ x < 256)) = true then (if l1.all (fun x => decide (0 ≤ x ∧ x < 256)) = true then some (Sha.mac l0 l1) else none) else none) else none) else none
def manometerref17_Mint.f (k : Nat) (a0_0 : Int) (a0_1 : ByteArray) (a1_0 : ByteArray) (a1_1 : Int) (a1_2 : Int) (a1_3 : Int) (a1_4 : Int) : Option (ByteArray × Int) := (manometerref17_Keyed.f a0_0 a0_1).bind fun t279 => (if t279 = true then ((manometerref17_Check.f k a1_0 a1_1 a1_2 a1_3 a1_4).bind fun t280 => (if t280 = 0 then (if a1_1 = a0_0 then ((manometerref17_head.f k a1_0 a1_1 a1_2 a1_3 a1_4).bind fun t281 => (if t281.size + 1 ≤ 9223372036854775807 then (if a0_1.size ≤ 9223372036854775807 then (if t281.size ≤ 9223372036854775807 then ((manometerref03_Mac.f (bytesOf a0_1) (bytesOf t281)).bind fun t288 => ((manometerref03_Armor.f k t288).bind fun t291 => (if (t281 ++ (⟨#[46]⟩ : ByteArray)).size + t291.size ≤ 9223372036854775807 then (some ((t281 ++ (⟨#[46]⟩ : ByteArray)) ++ t291, 0)) else (none)))) else (none)) else (none)) else (none))) else (some ((⟨#[]⟩ : ByteArray), 181))) else (some ((⟨#[]⟩ : ByteArray), t280)))) else (some ((⟨#[]⟩ : ByteArray), 181)))
end Go.Proofs.YtkkomfomjpcbfaaDoor.PTS
end
section
namespace Go.Proofs.YtkkomfomjpcbfaaDoor.Pu
open Go Go.RowKit Go.Lib Go.Proofs.YtkkomfomjpcbfaaDoor Go.Proofs.YtkkomfomjpcbfaaDoor.PTS Go.Proofs.YtkkomfomjpcbfaaDoorW.PrintWords Go.Proofs.YtkkomfomjpcbfaaDoorW.PrintLast Go.Proofs.YtkkomfomjpcbfaaDoorW.PrintMore Bq
set_option linter.unusedVariables false
set_option linter.unusedSimpArgs false
theorem Ev.yes {α : Type} {c : Prop} [Decidable c] {g f : Nat → Option α} {r : α} (hc : c) (h : Ev g r) : Ev (fun k => if c then g k else f k) r := by
  simp only [if_pos hc]
  exact h
def tenB (s : ByteArray) : Bool := decide (s.size ≤ 32) && namedB (B s)
def chkB (tn : ByteArray) (key sc : Int) : Int := if tenB tn = true then (if key < 1 then 181 else if key > 99 then 181 else if sc < 1 then 1 else if sc > 7 then 1 else 0) else 180
def keyedB (kid : Int) (sec : ByteArray) : Bool := decide (1 ≤ kid) && decide (kid ≤ 99) && decide (16 ≤ sec.size) && decide (sec.size ≤ 64)
def bodyL (tn : ByteArray) (key ex sc id : Int) : List Int := Bq.ints (uv tn.size) ++ bytesOf tn ++ Bq.ints (uv key.toNat) ++ vI ex ++ [sc] ++ Bq.ints (uv id.toNat)
def mintB (kid : Int) (sec tn : ByteArray) (key ex sc id : Int) : ByteArray × Int :=
  if keyedB kid sec = true then (if chkB tn key sc = 0 then (if key = kid then (tokText sec (bodyL tn key ex sc id), 0) else ((⟨#[]⟩ : ByteArray), 181)) else ((⟨#[]⟩ : ByteArray), chkB tn key sc)) else ((⟨#[]⟩ : ByteArray), 181)
theorem Tenant_f (s : ByteArray) : token_Tenant.f s = some (tenB s) := by
  unfold token_Tenant.f tenB
  by_cases h : (s.size : Int) ≤ 32
  · rw [if_pos h, decide_eq_true (show s.size ≤ 32 by omega)]
    unfold labels_Named.f
    rw [if_pos (by omega)]
    rfl
  · rw [if_neg h, decide_eq_false (show ¬ s.size ≤ 32 by omega)]
    rfl
theorem RTenant_ev (s : ByteArray) (hs : s.size ≤ 1000000000000) : Ev (fun k => manometerref17_Tenant.f k s) (tenB s) := by
  have h := Named_ev s hs
  refine (show Ev (fun k => manometerref17_Tenant.f k s) (tenB s) from ?_)
  unfold manometerref17_Tenant.f tenB
  refine Ev.bind h ?_
  cases hn : namedB (B s) with
  | true =>
    simp only [if_pos trivial, Bool.and_true]
    refine Ev.const ?_
    congr 1
    by_cases h : s.size ≤ 32
    · rw [decide_eq_true h, decide_eq_true (by omega)]
    · rw [decide_eq_false h, decide_eq_false (by omega)]
  | false =>
    simp only [Bool.false_eq_true, if_false, Bool.and_false]
    exact Ev.now _
theorem Check_ev (tn : ByteArray) (key ex sc id : Int) : Ev (fun k => token_Check.f k tn key ex sc id) (chkB tn key sc) := by
  unfold token_Check.f chkB
  refine Ev.bindc (Tenant_f tn) ?_
  cases tenB tn with
  | false =>
    simp only [Bool.false_eq_true, if_false]
    exact Ev.now _
  | true =>
    simp only [if_pos trivial]
    have ht : Ev (fun k => token_Check.j0 k true tn key ex sc id) 181 := by
      refine Ev.step (f := _) (fun k => by simp only [token_Check.j0]; rfl) ?_
      simp only [if_true]
      exact Ev.now _
    have hf : Ev (fun k => token_Check.j0 k false tn key ex sc id) (if sc < 1 then 1 else if sc > 7 then 1 else 0) := by
      refine Ev.step (f := _) (fun k => by simp only [token_Check.j0]; rfl) ?_
      simp only [Bool.false_eq_true, if_false]
      refine Ev.const ?_
      split
      · rfl
      · split <;> rfl
    by_cases h1 : key < 1
    · simp only [if_pos h1]
      exact ht
    · simp only [if_neg h1]
      by_cases h2 : key > 99
      · simp only [decide_eq_true h2, if_pos h2]
        exact ht
      · simp only [decide_eq_false h2, if_neg h2]
        exact hf
theorem RCheck_ev (tn : ByteArray) (key ex sc id : Int) (hs : tn.size ≤ 1000000000000) : Ev (fun k => manometerref17_Check.f k tn key ex sc id) (chkB tn key sc) := by
  unfold manometerref17_Check.f chkB
  refine Ev.bind (RTenant_ev tn hs) ?_
  cases tenB tn with
  | false =>
    simp only [Bool.false_eq_true, if_false]
    exact Ev.now _
  | true =>
    simp only [if_pos trivial]
    have ht : Ev (fun k => manometerref17_Check.j0 k true tn key ex sc id) 181 := by
      refine Ev.step (f := _) (fun k => by simp only [manometerref17_Check.j0]; rfl) ?_
      simp only [if_true]
      exact Ev.now _
    have hf : Ev (fun k => manometerref17_Check.j0 k false tn key ex sc id) (if sc < 1 then 1 else if sc > 7 then 1 else 0) := by
      refine Ev.step (f := _) (fun k => by simp only [manometerref17_Check.j0]; rfl) ?_
      simp only [Bool.false_eq_true, if_false]
      refine Ev.const ?_
      split
      · rfl
      · split <;> rfl
    by_cases h1 : key < 1
    · simp only [if_pos h1]
      exact ht
    · simp only [if_neg h1]
      by_cases h2 : key > 99
      · simp only [decide_eq_true h2, if_pos h2]
        exact ht
      · simp only [decide_eq_false h2, if_neg h2]
        exact hf
theorem chk_ok {tn : ByteArray} {key sc : Int} (h : chkB tn key sc = 0) : tenB tn = true ∧ (1 ≤ key ∧ key ≤ 99) ∧ (1 ≤ sc ∧ sc ≤ 7) := by
  unfold chkB at h
  split at h
  · rename_i h0
    split at h
    · cases h
    · split at h
      · cases h
      · split at h
        · cases h
        · split at h
          · cases h
          · exact ⟨h0, by omega, by omega⟩
  · cases h
theorem ten_size {tn : ByteArray} (h : tenB tn = true) : tn.size ≤ 32 := by
  unfold tenB at h
  rw [Bool.and_eq_true] at h
  exact of_decide_eq_true h.1
theorem Keyed_f (kid : Int) (sec : ByteArray) : token_Keyed.f kid sec = some (keyedB kid sec) ∧ manometerref17_Keyed.f kid sec = some (keyedB kid sec) := by
  have key : ∀ x : Option Bool, x = (if kid ≥ 1 then (if kid ≤ 99 then (if (sec.size : Int) ≥ 16 then (some (decide ((sec.size : Int) ≤ 64))) else (some false)) else (some false)) else (some false)) → x = some (keyedB kid sec) := by
    rintro x rfl
    unfold keyedB
    by_cases h1 : kid ≥ 1
    · rw [if_pos h1, decide_eq_true (show 1 ≤ kid from h1)]
      by_cases h2 : kid ≤ 99
      · rw [if_pos h2, decide_eq_true h2]
        by_cases h3 : (sec.size : Int) ≥ 16
        · rw [if_pos h3, decide_eq_true (show 16 ≤ sec.size by omega)]
          congr 1
          by_cases h4 : sec.size ≤ 64
          · rw [decide_eq_true h4, decide_eq_true (by omega)]; rfl
          · rw [decide_eq_false h4, decide_eq_false (by omega)]; rfl
        · rw [if_neg h3, decide_eq_false (show ¬ 16 ≤ sec.size by omega)]
          rfl
      · rw [if_neg h2, decide_eq_false h2]
        rfl
    · rw [if_neg h1, decide_eq_false (show ¬ 1 ≤ kid by omega)]
      rfl
  exact ⟨key _ rfl, key _ rfl⟩
theorem u64w (n : Int) (h0 : 0 ≤ n) (h1 : n < 18446744073709551616) : IntKind.u64.wrap n = n := by rw [IntKind.wrap_u64]; omega
theorem body_len (tn : ByteArray) (key ex sc id : Int) (ht : tn.size ≤ 32) (hk : 1 ≤ key ∧ key ≤ 99) (hx : -9223372036854775808 ≤ ex ∧ ex ≤ 9223372036854775807) (hi : 0 ≤ id ∧ id < 18446744073709551616) : (bodyL tn key ex sc id).length ≤ 100 := by
  unfold bodyL
  have h1 := uv_len10 tn.size (by omega)
  have h2 := uv_len10 key.toNat (by omega)
  have h3 := vI_len ex hx.1 hx.2
  have h4 := uv_len10 id.toNat (by omega)
  simp only [List.length_append, ints_length, bytesOf_length, List.length_singleton]
  omega
theorem body_byts (tn : ByteArray) (key ex sc id : Int) (hs : 1 ≤ sc ∧ sc ≤ 7) : Byts (bodyL tn key ex sc id) := by
  unfold bodyL
  refine byt_app (byt_app (byt_app (byt_app (byt_app (byt_uv _) (bytesOf_byts _)) (byt_uv _)) (byt_uv _)) (fun x hx => ?_)) (byt_uv _)
  rw [List.mem_singleton.1 hx]
  omega
theorem Body_ev (tn : ByteArray) (key ex sc id : Int) (ht : tn.size ≤ 32) (hk : 1 ≤ key ∧ key ≤ 99) (hx : -9223372036854775808 ≤ ex ∧ ex ≤ 9223372036854775807) (hi : 0 ≤ id ∧ id < 18446744073709551616) :
    Ev (fun k => token_body.f k tn key ex sc id) (bodyL tn key ex sc id) := by
  have h1 := uv_len10 tn.size (by omega)
  have h2 := uv_len10 key.toNat (by omega)
  have h3 := vI_len ex hx.1 hx.2
  have h4 := uv_len10 id.toNat (by omega)
  have e1 : IntKind.u64.wrap (tn.size : Int) = (tn.size : Int) := u64w _ (by omega) (by omega)
  have e2 : IntKind.u64.wrap key = ((key.toNat : Nat) : Int) := by rw [u64w _ (by omega) (by omega)]; omega
  have e3 : id = ((id.toNat : Nat) : Int) := by omega
  unfold token_body.f
  rw [e1, e2]
  refine Ev.bind (PutUvarint_ev tn.size (by omega)).1 ?_
  refine Ev.yes (by rw [ints_length]; omega) ?_
  refine Ev.bindc rfl (Ev.bind (PutUvarint_ev key.toNat (by omega)).1 ?_)
  refine Ev.yes (by simp only [List.length_append, ints_length, bytesOf_length]; omega) ?_
  refine Ev.bindc rfl (Ev.bind (PutVarint_ev ex hx.1 hx.2).1 ?_)
  refine Ev.yes (by simp only [List.length_append, ints_length, bytesOf_length]; omega) ?_
  refine Ev.bindc rfl ?_
  refine Ev.yes (by simp only [List.length_append, ints_length, bytesOf_length]; omega) ?_
  refine Ev.bindc rfl ?_
  have hid : Ev (fun k => bits_PutUvarint.f k id) (Bq.ints (uv id.toNat)) := by
    have h := (PutUvarint_ev id.toNat (by omega)).1
    rw [← e3] at h
    exact h
  refine Ev.bind hid ?_
  refine Ev.yes (by simp only [List.length_append, ints_length, bytesOf_length, List.length_singleton]; omega) ?_
  exact Ev.now _
theorem Mint_ev (kid : Int) (sec tn : ByteArray) (key ex sc id : Int) (hx : -9223372036854775808 ≤ ex ∧ ex ≤ 9223372036854775807) (hi : 0 ≤ id ∧ id < 18446744073709551616) :
    Ev (fun k => token_Mint.f k kid sec tn key ex sc id) (mintB kid sec tn key ex sc id) := by
  show Ev (fun k => tokMint k kid sec tn key ex sc id) _
  unfold tokMint mintB
  refine Ev.bindc (Keyed_f kid sec).1 ?_
  cases keyedB kid sec with
  | false => simp only [Bool.false_eq_true, if_false]; exact Ev.now _
  | true =>
    simp only [if_pos trivial]
    refine Ev.bind (Check_ev tn key ex sc id) ?_
    by_cases hc : chkB tn key sc = 0
    · simp only [if_pos hc]
      obtain ⟨c1, c2, c3⟩ := chk_ok hc
      by_cases hk : key = kid
      · simp only [if_pos hk]
        refine Ev.bind (Body_ev tn key ex sc id (ten_size c1) c2 hx hi) ?_
        have hl := body_len tn key ex sc id (ten_size c1) c2 hx hi
        refine Ev.yes (by omega) (Ev.yes (all_byts (body_byts tn key ex sc id c3)) ?_)
        exact Ev.now _
      · simp only [if_neg hk]
        exact Ev.now _
    · simp only [if_neg hc]
      exact Ev.now _
theorem tokHead_size (B : List Int) : (tokHead B).size = 4 + (8 * B.length + 5) / 6 := by
  unfold tokHead
  rw [ByteArray.size_append, armor_size]
  rfl
theorem RHead_ev (tn : ByteArray) (key ex sc id : Int) (ht : tn.size ≤ 32) (hk : 1 ≤ key ∧ key ≤ 99) (hs : 1 ≤ sc ∧ sc ≤ 7) (hx : -9223372036854775808 ≤ ex ∧ ex ≤ 9223372036854775807) (hi : 0 ≤ id ∧ id < 18446744073709551616) :
    Ev (fun k => manometerref17_head.f k tn key ex sc id) (tokHead (bodyL tn key ex sc id)) := by
  have e1 : IntKind.u64.wrap (tn.size : Int) = (tn.size : Int) := u64w _ (by omega) (by omega)
  have e2 : IntKind.u64.wrap key = ((key.toNat : Nat) : Int) := by rw [u64w _ (by omega) (by omega)]; omega
  have e3 : id = ((id.toNat : Nat) : Int) := by omega
  have hl := body_len tn key ex sc id ht hk hx hi
  have hb := body_byts tn key ex sc id hs
  unfold manometerref17_head.f
  rw [e1, e2]
  refine Ev.bind (PutUvarint_ev tn.size (by omega)).2 ?_
  refine Ev.yes (by omega) ?_
  refine Ev.bind (PutUvarint_ev key.toNat (by omega)).2 (Ev.bind (PutVarint_ev ex hx.1 hx.2).2 ?_)
  have hid : Ev (fun k => manometerref01_PutUvarint.f k id) (Bq.ints (uv id.toNat)) := by
    have h := (PutUvarint_ev id.toNat (by omega)).2
    rw [← e3] at h
    exact h
  refine Ev.bind hid ?_
  have ej : [Bq.ints (uv tn.size), bytesOf tn, Bq.ints (uv key.toNat), vI ex, ([sc] : List Int), Bq.ints (uv id.toNat)].flatten = bodyL tn key ex sc id := by
    unfold bodyL
    simp
  have hj := Join_ev [Bq.ints (uv tn.size), bytesOf tn, Bq.ints (uv key.toNat), vI ex, ([sc] : List Int), Bq.ints (uv id.toNat)] (by simp) (by rw [ej]; omega)
  rw [ej] at hj
  refine Ev.bind hj (Ev.bind (RArmor_ev _ hb (by omega)) ?_)
  refine Ev.yes (by rw [armor_size]; omega) ?_
  exact Ev.now _
theorem RMint_ev (kid : Int) (sec tn : ByteArray) (key ex sc id : Int) (hn : tn.size ≤ 1000000000000) (hx : -9223372036854775808 ≤ ex ∧ ex ≤ 9223372036854775807) (hi : 0 ≤ id ∧ id < 18446744073709551616) :
    Ev (fun k => manometerref17_Mint.f k kid sec tn key ex sc id) (mintB kid sec tn key ex sc id) := by
  unfold manometerref17_Mint.f mintB
  refine Ev.bindc (Keyed_f kid sec).2 ?_
  cases hkd : keyedB kid sec with
  | false => simp only [Bool.false_eq_true, if_false]; exact Ev.now _
  | true =>
    simp only [if_pos trivial]
    refine Ev.bind (RCheck_ev tn key ex sc id hn) ?_
    by_cases hc : chkB tn key sc = 0
    · simp only [if_pos hc]
      obtain ⟨c1, c2, c3⟩ := chk_ok hc
      by_cases hk : key = kid
      · simp only [if_pos hk]
        have hl := body_len tn key ex sc id (ten_size c1) c2 hx hi
        have hz : sec.size ≤ 64 := by
          unfold keyedB at hkd
          simp only [Bool.and_eq_true, decide_eq_true_eq] at hkd
          exact hkd.2
        have hts := tokHead_size (bodyL tn key ex sc id)
        refine Ev.bind (RHead_ev tn key ex sc id (ten_size c1) c2 c3 hx hi) ?_
        refine Ev.yes (by omega) (Ev.yes (by omega) (Ev.yes (by omega) ?_))
        have hm : manometerref03_Mac.f (bytesOf sec) (bytesOf (tokHead (bodyL tn key ex sc id))) = some (tokSum sec (bodyL tn key ex sc id)) := by
          unfold manometerref03_Mac.f
          have g1 : (bytesOf sec).length ≤ 1000000 := by rw [bytesOf_length]; omega
          have g2 : (bytesOf (tokHead (bodyL tn key ex sc id))).length ≤ 1000000 := by rw [bytesOf_length]; omega
          rw [if_pos g1, if_pos g2, if_pos (all_byts (bytesOf_byts _)), if_pos (all_byts (bytesOf_byts _))]
          rfl
        have hsl : (tokSum sec (bodyL tn key ex sc id)).length = 32 := Sha.sum_length _
        refine Ev.bindc hm (Ev.bind (RArmor_ev _ (Sha.byts_sum _) (by omega)) ?_)
        refine Ev.yes (by rw [ByteArray.size_append, armor_size]; have : (⟨#[46]⟩ : ByteArray).size = 1 := rfl; omega) ?_
        exact Ev.now _
      · simp only [if_neg hk]
        exact Ev.now _
    · simp only [if_neg hc]
      exact Ev.now _
end Go.Proofs.YtkkomfomjpcbfaaDoor.Pu
end
section
namespace Go.Proofs.YtkkomfomjpcbfaaDoor.PTS
open Go.RowKit Go.Proofs.YtkkomfomjpcbfaaDoorW.PrintWords Go.Proofs.YtkkomfomjpcbfaaDoorW.PrintLast Go.Proofs.YtkkomfomjpcbfaaDoorW.PrintMore
attribute [local go_sem] max2_int min2_int max_two min_two max_three min_three max_four min_four
set_option linter.unusedVariables false
set_option linter.unusedSimpArgs false
mutual
def manometerref17_claims.j0 : Nat → List Int → Int → Int → Bool → ByteArray → Int → Int → Int → Int → Option (ByteArray × Int × Int × Int × Int × Bool)
 | 0, _, _, _, _, _, _, _, _, _ => none
 | k + 1, x0, x5, x6, x27, x334000, x334001, x334002, x334003, x334004 => if x27 = true then (some (x334000, x334001, x334002, x334003, x334004, false)) else (if 0 ≤ x6 then (if x6 ≤ (x0.length : Int) then (if 0 ≤ (wrap64 (x5)) then (if (wrap64 (x5)) ≤ ((x0.drop (x6 : Int).toNat).length : Int) then ((manometerref01_Uvarint.f k ((x0.drop (x6 : Int).toNat).drop ((wrap64 (x5)) : Int).toNat)).bind fun bt340 => (if bt340.2.2 = 0 then (manometerref17_claims.j1 k ((x0.drop (x6 : Int).toNat).drop ((wrap64 (x5)) : Int).toNat) bt340.2.1 bt340.1 (decide (bt340.1 > 99)) (strOfNums ((x0.drop (x6 : Int).toNat).take ((wrap64 (x5)) : Int).toNat)) x334001 x334002 x334003 x334004) else (manometerref17_claims.j1 k ((x0.drop (x6 : Int).toNat).drop ((wrap64 (x5)) : Int).toNat) bt340.2.1 bt340.1 true (strOfNums ((x0.drop (x6 : Int).toNat).take ((wrap64 (x5)) : Int).toNat)) x334001 x334002 x334003 x334004))) else (none)) else (none)) else (none)) else (none))
def manometerref17_claims.j1 : Nat → List Int → Int → Int → Bool → ByteArray → Int → Int → Int → Int → Option (ByteArray × Int × Int × Int × Int × Bool)
 | 0, _, _, _, _, _, _, _, _, _ => none
 | k + 1, x0, x6, x8, x53, x334000, x334001, x334002, x334003, x334004 => if x53 = true then (some (x334000, x334001, x334002, x334003, x334004, false)) else (if 0 ≤ x6 then (if x6 ≤ (x0.length : Int) then ((manometerref01_Varint.f k (x0.drop (x6 : Int).toNat)).bind fun bt344 => (if bt344.2.2 = 0 then (manometerref17_claims.j2 k (x0.drop (x6 : Int).toNat) bt344.2.1 bt344.1 (((x0.drop (x6 : Int).toNat).length : Int) == bt344.2.1) x334000 (wrap64 (x8)) x334002 x334003 x334004) else (manometerref17_claims.j2 k (x0.drop (x6 : Int).toNat) bt344.2.1 bt344.1 true x334000 (wrap64 (x8)) x334002 x334003 x334004))) else (none)) else (none))
def manometerref17_claims.j2 : Nat → List Int → Int → Int → Bool → ByteArray → Int → Int → Int → Int → Option (ByteArray × Int × Int × Int × Int × Bool)
 | 0, _, _, _, _, _, _, _, _, _ => none
 | k + 1, x0, x6, x9, x74, x334000, x334001, x334002, x334003, x334004 => if x74 = true then (some (x334000, x334001, x334002, x334003, x334004, false)) else (if 0 ≤ x6 then (if x6 < (x0.length : Int) then (if 0 ≤ (wrap64 (x6 + 1)) then (if (wrap64 (x6 + 1)) ≤ (x0.length : Int) then ((manometerref01_Uvarint.f k (x0.drop ((wrap64 (x6 + 1)) : Int).toNat)).bind fun bt349 => (if bt349.2.2 = 0 then (if bt349.2.1 = ((x0.drop ((wrap64 (x6 + 1)) : Int).toNat).length : Int) then ((manometerref17_Check.f k x334000 x334001 x9 (rd x0 x6) bt349.1).bind fun t352 => (some (x334000, x334001, x9, rd x0 x6, bt349.1, (t352 == 0)))) else (some (x334000, x334001, x9, rd x0 x6, bt349.1, false))) else (some (x334000, x334001, x9, rd x0 x6, bt349.1, false)))) else (none)) else (none)) else (none)) else (none))
end
def manometerref17_claims.f (k : Nat) (l0 : List Int) : Option (ByteArray × Int × Int × Int × Int × Bool) := (manometerref01_Uvarint.f k l0).bind fun bt334 => (if bt334.2.2 = 0 then (manometerref17_claims.j0 k l0 bt334.1 bt334.2.1 (decide (bt334.1 > (IntKind.u64.wrap (wrap64 ((l0.length : Int) - bt334.2.1))))) (⟨#[]⟩ : ByteArray) 0 0 0 0) else (manometerref17_claims.j0 k l0 bt334.1 bt334.2.1 true (⟨#[]⟩ : ByteArray) 0 0 0 0))
end Go.Proofs.YtkkomfomjpcbfaaDoor.PTS
end
section
namespace Go.Proofs.YtkkomfomjpcbfaaDoor.PTS
open Go.RowKit Go.Proofs.YtkkomfomjpcbfaaDoorW.PrintWords Go.Proofs.YtkkomfomjpcbfaaDoorW.PrintLast Go.Proofs.YtkkomfomjpcbfaaDoorW.PrintMore
attribute [local go_sem] max2_int min2_int max_two min_two max_three min_three max_four min_four
set_option linter.unusedVariables false
set_option linter.unusedSimpArgs false
mutual
def manometerref17_Read.j0 : Nat → ByteArray → ByteArray → Bool → Option (ByteArray × Int × Int × Int × Int × Int)
 | 0, _, _, _ => none
 | k + 1, x7, x8, x36 => if x36 = true then (some ((⟨#[]⟩ : ByteArray), 0, 0, 0, 0, 8)) else ((manometerref03_Unarmor.f k x7).bind fun bt360 => ((manometerref03_Unarmor.f k x8).bind fun bt364 => (if bt360.2 = 0 then (if bt364.2 = 0 then (manometerref17_Read.j1 k bt360.1 ((bt364.1.length : Int) != 32)) else (manometerref17_Read.j1 k bt360.1 true)) else (manometerref17_Read.j1 k bt360.1 true))))
def manometerref17_Read.j1 : Nat → List Int → Bool → Option (ByteArray × Int × Int × Int × Int × Int)
 | 0, _, _ => none
 | k + 1, x10, x58 => if x58 = true then (some ((⟨#[]⟩ : ByteArray), 0, 0, 0, 0, 8)) else ((manometerref17_claims.f k x10).bind fun bt368 => (if bt368.2.2.2.2.2 = true then (some (bt368.1, bt368.2.1, bt368.2.2.1, bt368.2.2.2.1, bt368.2.2.2.2.1, 0)) else (some ((⟨#[]⟩ : ByteArray), 0, 0, 0, 0, 8))))
end
def manometerref17_Read.f (k : Nat) (a0 : ByteArray) : Option (ByteArray × Int × Int × Int × Int × Int) := (manometerref17_cut.f k a0).bind fun bt354 => ((manometerref17_cut.f k bt354.2.1).bind fun bt357 => (if bt354.2.2 = true then (if bt357.2.2 = true then (manometerref17_Read.j0 k bt357.1 bt357.2.1 (bt354.1.toList != ([109, 116, 49] : List UInt8))) else (manometerref17_Read.j0 k bt357.1 bt357.2.1 true)) else (manometerref17_Read.j0 k bt357.1 bt357.2.1 true)))
def manometerref17_Signed.f (k : Nat) (a0 : ByteArray) (a1_0 : Int) (a1_1 : ByteArray) : Option (Bool) := (manometerref17_Read.f k a0).bind fun bt376 => (if bt376.2.2.2.2.2 = 0 then ((manometerref17_Mint.f k a1_0 a1_1 bt376.1 bt376.2.1 bt376.2.2.1 bt376.2.2.2.1 bt376.2.2.2.2.1).bind fun bt383 => (if bt383.2 = 0 then (some (bt383.1.toList == a0.toList)) else (some false))) else (some false))
end Go.Proofs.YtkkomfomjpcbfaaDoor.PTS
end
section
namespace Go.Proofs.YtkkomfomjpcbfaaDoor.Pu
open Go Go.RowKit Go.Lib Go.Proofs.YtkkomfomjpcbfaaDoor Go.Proofs.YtkkomfomjpcbfaaDoor.PTS Go.Proofs.YtkkomfomjpcbfaaDoorW.PrintWords Go.Proofs.YtkkomfomjpcbfaaDoorW.PrintLast Go.Proofs.YtkkomfomjpcbfaaDoorW.PrintMore Bq
set_option linter.unusedVariables false
set_option linter.unusedSimpArgs false
abbrev C5 := ByteArray × Int × Int × Int × Int
def parse4 (tn : ByteArray) (key ex sc : Int) (b : List Int) : Option C5 :=
  if (uget b).2.2 = 0 then (if (uget b).2.1 = (b.length : Int) then (if chkB tn key sc = 0 then some (tn, key, ex, sc, (uget b).1) else none) else none) else none
def parse3 (tn : ByteArray) (key : Int) (b : List Int) : Option C5 :=
  if (varG b).2.2 = 0 then (if (b.length : Int) = (varG b).2.1 then none else parse4 tn key (varG b).1 ((b.drop (varG b).2.1.toNat).getD 0 0) ((b.drop (varG b).2.1.toNat).drop 1)) else none
def parse2 (tn : ByteArray) (b : List Int) : Option C5 :=
  if (uget b).2.2 = 0 then (if (uget b).1 > 99 then none else parse3 tn (uget b).1 (b.drop (uget b).2.1.toNat)) else none
def parseB (b : List Int) : Option C5 :=
  if (uget b).2.2 = 0 then (if (uget b).1 > (b.length : Int) - (uget b).2.1 then none else parse2 (strOfNums ((b.drop (uget b).2.1.toNat).take (uget b).1.toNat)) ((b.drop (uget b).2.1.toNat).drop (uget b).1.toNat)) else none
def Told (f : Nat → Option (ByteArray × Int × Int × Int × Int × Bool)) (r : Option C5) : Prop :=
  ∃ q, Ev f q ∧ (match r with | none => q.2.2.2.2.2 = false | some c => q = (c.1, c.2.1, c.2.2.1, c.2.2.2.1, c.2.2.2.2, true))
theorem Told.no {f : Nat → Option (ByteArray × Int × Int × Int × Int × Bool)} {a : ByteArray} {b c d e : Int} (h : Ev f (a, b, c, d, e, false)) : Told f none := ⟨_, h, rfl⟩
theorem Told.step {f g : Nat → Option (ByteArray × Int × Int × Int × Int × Bool)} {r : Option C5} (h : ∀ k, g (k + 1) = f k) (hf : Told f r) : Told g r := by
  obtain ⟨q, h1, h2⟩ := hf
  exact ⟨q, Ev.step h h1, h2⟩
theorem Told.bind {α : Type} {g : Nat → Option α} {f : Nat → α → Option (ByteArray × Int × Int × Int × Int × Bool)} {a : α} {r : Option C5} (hg : Ev g a) (hf : Told (fun k => f k a) r) : Told (fun k => (g k).bind (f k)) r := by
  obtain ⟨q, h1, h2⟩ := hf
  exact ⟨q, Ev.bind hg h1, h2⟩
theorem Told.yes {c : Prop} [Decidable c] {g f : Nat → Option (ByteArray × Int × Int × Int × Int × Bool)} {r : Option C5} (hc : c) (h : Told g r) : Told (fun k => if c then g k else f k) r := by
  simp only [if_pos hc]
  exact h
theorem rd_getD (b : List Int) (n : Nat) : rd b (n : Int) = b.getD n 0 := by unfold rd; rw [Int.toNat_natCast]
theorem w64n (n : Nat) (h : n ≤ 9000000000000000000) : wrap64 (n : Int) = (n : Int) := wn rfl (by omega)
theorem Parse_j2 (b : List Int) (hb : Byts b) (hl : b.length ≤ 1000000000) (n : Nat) (hn : n < b.length) (tn : ByteArray) (key ex z1 z2 : Int) :
    Told (fun k => token_parse.j2 k b (n : Int) false tn key ex z1 z2) (parse4 tn key ex ((b.drop n).getD 0 0) ((b.drop n).drop 1)) ∧
    ∀ z3 : Int, tn.size ≤ 1000000000 → Told (fun k => manometerref17_claims.j2 k b (n : Int) ex false tn key z3 z1 z2) (parse4 tn key ex ((b.drop n).getD 0 0) ((b.drop n).drop 1)) := by
  have e1 : wrap64 ((n : Int) + 1) = ((n + 1 : Nat) : Int) := w1 n (by omega)
  have e2 : (b.drop n).getD 0 0 = b.getD n 0 := by rw [List.getD_eq_getElem?_getD, List.getElem?_drop, ← List.getD_eq_getElem?_getD]; rfl
  have e3 : (b.drop n).drop 1 = b.drop (n + 1) := by rw [List.drop_drop]
  have hd : Byts (b.drop (n + 1)) := byt_drop hb _
  have hu := Uvarint_ev (b.drop (n + 1)) hd (by rw [List.length_drop]; omega)
  rw [e2, e3]
  constructor
  · refine Told.step (f := _) (fun k => by simp only [token_parse.j2]; rfl) ?_
    simp only [Bool.false_eq_true, if_false]
    rw [e1]
    refine Told.yes (by omega) (Told.yes (by omega) (Told.yes (by omega) (Told.yes (by omega) ?_)))
    rw [Int.toNat_natCast, rd_getD]
    refine Told.bind hu.1 ?_
    unfold parse4
    by_cases h1 : (uget (b.drop (n + 1))).2.2 = 0
    · simp only [if_pos h1]
      by_cases h2 : (uget (b.drop (n + 1))).2.1 = ((b.drop (n + 1)).length : Int)
      · simp only [if_pos h2]
        refine Told.bind (Check_ev tn key ex (b.getD n 0) (uget (b.drop (n + 1))).1) ?_
        by_cases h3 : chkB tn key (b.getD n 0) = 0
        · simp only [if_pos h3, h3]
          exact ⟨_, Ev.now _, rfl⟩
        · simp only [if_neg h3]
          exact ⟨_, Ev.now _, beq_eq_false_iff_ne.mpr h3⟩
      · simp only [if_neg h2]
        exact Told.no (Ev.now _)
    · simp only [if_neg h1]
      exact Told.no (Ev.now _)
  · intro z3 hts
    refine Told.step (f := _) (fun k => by simp only [manometerref17_claims.j2]; rfl) ?_
    simp only [Bool.false_eq_true, if_false]
    rw [e1]
    refine Told.yes (by omega) (Told.yes (by omega) (Told.yes (by omega) (Told.yes (by omega) ?_)))
    rw [Int.toNat_natCast, rd_getD]
    refine Told.bind hu.2 ?_
    unfold parse4
    by_cases h1 : (uget (b.drop (n + 1))).2.2 = 0
    · simp only [if_pos h1]
      by_cases h2 : (uget (b.drop (n + 1))).2.1 = ((b.drop (n + 1)).length : Int)
      · simp only [if_pos h2]
        refine Told.bind (RCheck_ev tn key ex (b.getD n 0) (uget (b.drop (n + 1))).1 (by omega)) ?_
        by_cases h3 : chkB tn key (b.getD n 0) = 0
        · simp only [if_pos h3, h3]
          exact ⟨_, Ev.now _, rfl⟩
        · simp only [if_neg h3]
          exact ⟨_, Ev.now _, beq_eq_false_iff_ne.mpr h3⟩
      · simp only [if_neg h2]
        exact Told.no (Ev.now _)
    · simp only [if_neg h1]
      exact Told.no (Ev.now _)
theorem Parse_j1 (b : List Int) (hb : Byts b) (hl : b.length ≤ 1000000000) (n : Nat) (hn : n ≤ b.length) (tn : ByteArray) (key : Int) (hk : 0 ≤ key ∧ key ≤ 99) (z0 z1 z2 z3 z4 : Int) :
    Told (fun k => token_parse.j1 k b key (n : Int) false tn z0 z1 z2 z3) (parse3 tn key (b.drop n)) ∧
    (tn.size ≤ 1000000000 → Told (fun k => manometerref17_claims.j1 k b (n : Int) key false tn z0 z1 z2 z3) (parse3 tn key (b.drop n))) := by
  have hd : Byts (b.drop n) := byt_drop hb _
  have hdl : (b.drop n).length ≤ 1000000000 := by rw [List.length_drop]; omega
  have hu := Varint_ev (b.drop n) hd (by omega)
  have ek : wrap64 key = key := w64 (by omega) (by omega)
  constructor
  · refine Told.step (f := _) (fun k => by simp only [token_parse.j1]; rfl) ?_
    simp only [Bool.false_eq_true, if_false]
    refine Told.yes (by omega) (Told.yes (by omega) ?_)
    rw [Int.toNat_natCast]
    refine Told.bind hu.1 ?_
    unfold parse3
    rcases varG_cases (b.drop n) hd with ⟨v, m, hm, hv⟩ | ⟨e, he, hv⟩
    · rw [hv, ek]
      simp only [if_pos trivial]
      by_cases h2 : ((b.drop n).length : Int) = (m : Int)
      · have hb2 : (((b.drop n).length : Int) == (m : Int)) = true := beq_iff_eq.mpr h2
        simp only [if_pos h2, hb2]
        refine Told.step (f := _) (fun k => by simp only [token_parse.j2]; rfl) ?_
        simp only [if_true]
        exact Told.no (Ev.now _)
      · have hb2 : (((b.drop n).length : Int) == (m : Int)) = false := beq_eq_false_iff_ne.mpr h2
        simp only [if_neg h2, hb2]
        rw [Int.toNat_natCast]
        exact (Parse_j2 (b.drop n) hd hdl m (by omega) tn key v z2 z3).1
    · rw [hv]
      simp only [if_neg he]
      refine Told.step (f := _) (fun k => by simp only [token_parse.j2]; rfl) ?_
      simp only [if_true]
      exact Told.no (Ev.now _)
  · intro hts
    refine Told.step (f := _) (fun k => by simp only [manometerref17_claims.j1]; rfl) ?_
    simp only [Bool.false_eq_true, if_false]
    refine Told.yes (by omega) (Told.yes (by omega) ?_)
    rw [Int.toNat_natCast]
    refine Told.bind hu.2 ?_
    unfold parse3
    rcases varG_cases (b.drop n) hd with ⟨v, m, hm, hv⟩ | ⟨e, he, hv⟩
    · rw [hv, ek]
      simp only [if_pos trivial]
      by_cases h2 : ((b.drop n).length : Int) = (m : Int)
      · have hb2 : (((b.drop n).length : Int) == (m : Int)) = true := beq_iff_eq.mpr h2
        simp only [if_pos h2, hb2]
        refine Told.step (f := _) (fun k => by simp only [manometerref17_claims.j2]; rfl) ?_
        simp only [if_true]
        exact Told.no (Ev.now _)
      · have hb2 : (((b.drop n).length : Int) == (m : Int)) = false := beq_eq_false_iff_ne.mpr h2
        simp only [if_neg h2, hb2]
        rw [Int.toNat_natCast]
        exact (Parse_j2 (b.drop n) hd hdl m (by omega) tn key v z2 z3).2 z1 hts
    · rw [hv]
      simp only [if_neg he]
      refine Told.step (f := _) (fun k => by simp only [manometerref17_claims.j2]; rfl) ?_
      simp only [if_true]
      exact Told.no (Ev.now _)
theorem Parse_ev (b : List Int) (hb : Byts b) (hl : b.length ≤ 1000000000) : Told (fun k => token_parse.f k b) (parseB b) ∧ Told (fun k => manometerref17_claims.f k b) (parseB b) := by
  have hu := Uvarint_ev b hb (by omega)
  unfold token_parse.f manometerref17_claims.f parseB
  rcases uget_cases b hb with ⟨n, hu1, hle, _, hn⟩ | ⟨e, he, hu1⟩
  · rw [hu1] at hu ⊢
    obtain ⟨m, hm⟩ : ∃ m, m = (uv n).length := ⟨_, rfl⟩
    rw [← hm] at hu hle ⊢
    have ew : IntKind.u64.wrap (wrap64 ((b.length : Int) - (m : Int))) = (b.length : Int) - (m : Int) := by rw [w64 (by omega) (by omega), IntKind.wrap_u64]; omega
    by_cases hgt : (n : Int) > (b.length : Int) - (m : Int)
    · have h1 : Told (fun k => (bits_Uvarint.f k b).bind fun bt156 => (if bt156.2.2 = 0 then (token_parse.j0 k b bt156.1 bt156.2.1 (decide (bt156.1 > (IntKind.u64.wrap (wrap64 ((b.length : Int) - bt156.2.1))))) (⟨#[]⟩ : ByteArray) 0 0 0 0) else (token_parse.j0 k b bt156.1 bt156.2.1 true (⟨#[]⟩ : ByteArray) 0 0 0 0))) none := by
        refine Told.bind hu.1 ?_
        simp only [if_pos trivial, ew, decide_eq_true hgt]
        refine Told.step (f := _) (fun k => by simp only [token_parse.j0]; rfl) ?_
        simp only [if_true]
        exact Told.no (Ev.now _)
      have h2 : Told (fun k => (manometerref01_Uvarint.f k b).bind fun bt156 => (if bt156.2.2 = 0 then (manometerref17_claims.j0 k b bt156.1 bt156.2.1 (decide (bt156.1 > (IntKind.u64.wrap (wrap64 ((b.length : Int) - bt156.2.1))))) (⟨#[]⟩ : ByteArray) 0 0 0 0) else (manometerref17_claims.j0 k b bt156.1 bt156.2.1 true (⟨#[]⟩ : ByteArray) 0 0 0 0))) none := by
        refine Told.bind hu.2 ?_
        simp only [if_pos trivial, ew, decide_eq_true hgt]
        refine Told.step (f := _) (fun k => by simp only [manometerref17_claims.j0]; rfl) ?_
        simp only [if_true]
        exact Told.no (Ev.now _)
      simp only [if_pos trivial, if_pos hgt]
      exact ⟨h1, h2⟩
    · have hnm : m + n ≤ b.length := by omega
      have en : wrap64 (n : Int) = (n : Int) := w64n n (by omega)
      have em : wrap64 ((m : Int) + (n : Int)) = ((m + n : Nat) : Int) := wn (by omega) (by omega)
      have ed : (b.drop m).drop n = b.drop (m + n) := by rw [List.drop_drop]
      have et : (b.take (m + n)).drop m = (b.drop m).take n := by rw [List.drop_take]; congr 1; omega
      have hts : (strOfNums ((b.drop m).take n)).size ≤ 1000000000 := by rw [strOfNums_size, List.length_take, List.length_drop]; omega
      have hd2 : Byts (b.drop (m + n)) := byt_drop hb _
      have hdl : (b.drop (m + n)).length ≤ 1000000000 := by rw [List.length_drop]; omega
      have hu2 := Uvarint_ev (b.drop (m + n)) hd2 (by omega)
      simp only [if_pos trivial, if_neg hgt, Int.toNat_natCast, ed]
      unfold parse2
      constructor
      · refine Told.bind hu.1 ?_
        simp only [if_pos trivial, ew, decide_eq_false hgt]
        refine Told.step (f := _) (fun k => by simp only [token_parse.j0]; rfl) ?_
        simp only [Bool.false_eq_true, if_false]
        rw [en, em]
        refine Told.yes (by omega) (Told.yes (by omega) (Told.yes (by omega) (Told.yes (by omega) ?_)))
        rw [Int.toNat_natCast, Int.toNat_natCast, et]
        refine Told.bind hu2.1 ?_
        rcases uget_cases (b.drop (m + n)) hd2 with ⟨n2, hq, hle2, _, hn2⟩ | ⟨e, he, hq⟩
        · rw [hq]
          simp only [if_pos trivial]
          by_cases h99 : (n2 : Int) > 99
          · simp only [if_pos h99, decide_eq_true h99]
            refine Told.step (f := _) (fun k => by simp only [token_parse.j1]; rfl) ?_
            simp only [if_true]
            exact Told.no (Ev.now _)
          · simp only [if_neg h99, decide_eq_false h99]
            rw [Int.toNat_natCast]
            exact (Parse_j1 (b.drop (m + n)) hd2 hdl (uv n2).length hle2 _ (n2 : Int) (by omega) 0 0 0 0 0).1
        · rw [hq]
          simp only [if_neg he]
          refine Told.step (f := _) (fun k => by simp only [token_parse.j1]; rfl) ?_
          simp only [if_true]
          exact Told.no (Ev.now _)
      · refine Told.bind hu.2 ?_
        simp only [if_pos trivial, ew, decide_eq_false hgt]
        refine Told.step (f := _) (fun k => by simp only [manometerref17_claims.j0]; rfl) ?_
        simp only [Bool.false_eq_true, if_false]
        rw [en]
        refine Told.yes (by omega) (Told.yes (by omega) (Told.yes (by omega) (Told.yes (by rw [Int.toNat_natCast, List.length_drop]; omega) ?_)))
        rw [Int.toNat_natCast, Int.toNat_natCast, ed]
        refine Told.bind hu2.2 ?_
        rcases uget_cases (b.drop (m + n)) hd2 with ⟨n2, hq, hle2, _, hn2⟩ | ⟨e, he, hq⟩
        · rw [hq]
          simp only [if_pos trivial]
          by_cases h99 : (n2 : Int) > 99
          · simp only [if_pos h99, decide_eq_true h99]
            refine Told.step (f := _) (fun k => by simp only [manometerref17_claims.j1]; rfl) ?_
            simp only [if_true]
            exact Told.no (Ev.now _)
          · simp only [if_neg h99, decide_eq_false h99]
            rw [Int.toNat_natCast]
            exact (Parse_j1 (b.drop (m + n)) hd2 hdl (uv n2).length hle2 _ (n2 : Int) (by omega) 0 0 0 0 0).2 hts
        · rw [hq]
          simp only [if_neg he]
          refine Told.step (f := _) (fun k => by simp only [manometerref17_claims.j1]; rfl) ?_
          simp only [if_true]
          exact Told.no (Ev.now _)
  · rw [hu1] at hu ⊢
    simp only [if_neg he]
    constructor
    · refine Told.bind hu.1 ?_
      simp only [if_neg he]
      refine Told.step (f := _) (fun k => by simp only [token_parse.j0]; rfl) ?_
      simp only [if_true]
      exact Told.no (Ev.now _)
    · refine Told.bind hu.2 ?_
      simp only [if_neg he]
      refine Told.step (f := _) (fun k => by simp only [manometerref17_claims.j0]; rfl) ?_
      simp only [if_true]
      exact Told.no (Ev.now _)
end Go.Proofs.YtkkomfomjpcbfaaDoor.Pu
end
section
namespace Go.Proofs.YtkkomfomjpcbfaaDoor.Pu
open Go Go.RowKit Go.Lib Go.Proofs.YtkkomfomjpcbfaaDoor Go.Proofs.YtkkomfomjpcbfaaDoor.PTS Go.Proofs.YtkkomfomjpcbfaaDoorW.PrintWords Go.Proofs.YtkkomfomjpcbfaaDoorW.PrintLast Go.Proofs.YtkkomfomjpcbfaaDoorW.PrintMore Bq
set_option linter.unusedVariables false
set_option linter.unusedSimpArgs false
def firstD : Str → Option Nat
  | [] => none
  | c :: l => if c.toNat = 46 then some 0 else (firstD l).map (· + 1)
theorem ptL_cons (c : UInt8) (l : Str) (i : Nat) (p : Int) : ptL (c :: l) i p = if c.toNat = 46 then (if 0 ≤ p then none else ptL l (i + 1) (i : Int)) else ptL l (i + 1) p := rfl
theorem ptL_none : ∀ (l : Str) (i : Nat) (q : Int), firstD l = none → ptL l i q = some q
  | [], i, q, h => rfl
  | c :: l, i, q, h => by
    unfold firstD at h
    split at h
    · cases h
    · rename_i hc
      unfold ptL
      rw [if_neg hc]
      exact ptL_none l (i + 1) q (by simpa using h)
theorem ptL_first : ∀ (l : Str) (i j : Nat) (q : Int), q < 0 → firstD l = some j → ptL l i q = ptL (l.drop (j + 1)) (i + j + 1) ((i + j : Nat) : Int)
  | [], i, j, q, hq, h => by cases h
  | c :: l, i, j, q, hq, h => by
    unfold firstD at h
    split at h
    · rename_i hc
      injection h with h
      subst h
      rw [ptL_cons, if_pos hc, if_neg (by omega)]
      rfl
    · rename_i hc
      obtain ⟨m, hm, rfl⟩ := Option.map_eq_some_iff.1 h
      rw [ptL_cons, if_neg hc, ptL_first l (i + 1) m q hq hm, List.drop_succ_cons, show i + 1 + m + 1 = i + (m + 1) + 1 by omega, show i + 1 + m = i + (m + 1) by omega]
theorem ptL_second : ∀ (l : Str) (i : Nat) (q : Int), 0 ≤ q → ptL l i q = if firstD l = none then some q else none
  | [], i, q, hq => rfl
  | c :: l, i, q, hq => by
    unfold ptL
    by_cases hc : c.toNat = 46
    · rw [if_pos hc, if_pos hq]
      have : firstD (c :: l) = some 0 := by unfold firstD; rw [if_pos hc]
      rw [this]
      rfl
    · rw [if_neg hc, ptL_second l (i + 1) q hq]
      have : firstD (c :: l) = (firstD l).map (· + 1) := by conv => lhs; unfold firstD; rw [if_neg hc]
      rw [this]
      cases firstD l <;> rfl
theorem ptL_all (l : Str) : ptL l 0 (-1) = match firstD l with | none => some (-1) | some j => if firstD (l.drop (j + 1)) = none then some (j : Int) else none := by
  cases h : firstD l with
  | none => exact ptL_none l 0 (-1) h
  | some j =>
    rw [ptL_first l 0 j (-1) (by decide) h, ptL_second _ _ _ (by omega), Nat.zero_add]
theorem first_mem : ∀ (l : Str) (j : Nat), firstD l = some j → j < l.length ∧ (l.getD j 0).toNat = 46
  | [], j, h => by cases h
  | c :: l, j, h => by
    unfold firstD at h
    split at h
    · rename_i hc
      injection h with h
      subst h
      exact ⟨by simp, by simpa using hc⟩
    · obtain ⟨m, hm, rfl⟩ := Option.map_eq_some_iff.1 h
      obtain ⟨h1, h2⟩ := first_mem l m hm
      exact ⟨by simp; omega, by simpa using h2⟩
theorem un_dot {l : Str} {j : Nat} (h : firstD l = some j) : (unL l 0 0 []).2 = 8 := by
  obtain ⟨h1, h2⟩ := first_mem l j h
  rw [unL_bad l 0 0 [] ⟨l.getD j 0, by rw [List.getD_eq_getElem?_getD, List.getElem?_eq_getElem h1]; exact List.getElem_mem h1, by rw [h2]; rfl⟩]
def goodP (m la : Str) : Bool := decide ((unL m 0 0 []).2 = 0) && (decide ((unL la 0 0 []).2 = 0) && decide ((unL la 0 0 []).1.length = 32))
def readR (rest : Str) : Option C5 := match firstD rest with
  | none => none
  | some j => if goodP (rest.take j) (rest.drop (j + 1)) = true then parseB (unL (rest.take j) 0 0 []).1 else none
def readB (s : ByteArray) : Option C5 := if (B s).take 4 = [109, 116, 49, 46] then readR ((B s).drop 4) else none
def outR : Option C5 → Clm
  | none => tokBad
  | some c => (c.1, c.2.1, c.2.2.1, c.2.2.2.1, c.2.2.2.2, 0)
theorem Told.out {f : Nat → Option (ByteArray × Int × Int × Int × Int × Bool)} {r : Option C5} (h : Told f r) :
    Ev (fun k => (f k).bind fun c => if c.2.2.2.2.2 = true then some (c.1, c.2.1, c.2.2.1, c.2.2.2.1, c.2.2.2.2.1, (0 : Int)) else some tokBad) (outR r) := by
  obtain ⟨q, h1, h2⟩ := h
  refine Ev.bind h1 ?_
  cases r with
  | none =>
    simp only at h2
    rw [h2]
    simp only [Bool.false_eq_true, if_false]
    exact Ev.now _
  | some c =>
    simp only at h2
    rw [h2]
    simp only [if_pos trivial]
    exact Ev.now _
theorem unL_byt0 (l : Str) : Byts (unL l 0 0 []).1 := unL_byts l 0 0 [] (fun x hx => by cases hx)
theorem unL_leng : ∀ (l : Str) (X n : Nat) (out : List Int), (unL l X n out).1.length ≤ out.length + l.length
  | [], X, n, out => by unfold unL; split <;> simp
  | c :: l, X, n, out => by
    unfold unL
    cases sixV (c.toNat : Int) with
    | none => simp
    | some v =>
      simp only
      split
      · refine Nat.le_trans (unL_leng l _ _ _) ?_
        simp only [List.length_append, List.length_cons, List.length_nil]
        omega
      · refine Nat.le_trans (unL_leng l _ _ _) ?_
        simp only [List.length_cons]
        omega
theorem tokRest_ev (rest : ByteArray) (hs : rest.size ≤ 100000) (j : Nat) (hj : firstD (B rest) = some j) : Ev (fun k => tokRest k rest j) (outR (readR (B rest))) := by
  have e1 : (rest.extract 0 j).data.toList = (B rest).take j := by show B _ = _; rw [B_extract, List.drop_zero]
  have e2 : (rest.extract (j + 1) rest.size).data.toList = (B rest).drop (j + 1) := by show B _ = _; rw [B_extract, ← B_length, List.take_length]
  unfold tokRest
  rw [e1, e2]
  unfold readR
  rw [hj]
  simp only
  by_cases hg : goodP ((B rest).take j) ((B rest).drop (j + 1)) = true
  · have hg2 := hg
    unfold goodP at hg2
    simp only [Bool.and_eq_true, decide_eq_true_eq] at hg2
    simp only [if_pos hg, if_pos (show _ ∧ _ ∧ _ from hg2)]
    have hl := unL_leng ((B rest).take j) 0 0 []
    have hll : ((B rest).take j).length ≤ 100000 := by rw [List.length_take, B_length]; omega
    simp only [List.length_nil] at hl
    exact (Parse_ev _ (unL_byt0 _) (by omega)).1.out
  · have hg2 : ¬ ((unL ((B rest).take j) 0 0 []).2 = 0 ∧ (unL ((B rest).drop (j + 1)) 0 0 []).2 = 0 ∧ (unL ((B rest).drop (j + 1)) 0 0 []).1.length = 32) := by
      intro h
      apply hg
      unfold goodP
      simp only [Bool.and_eq_true, decide_eq_true_eq]
      exact h
    simp only [if_neg hg, if_neg hg2]
    exact Ev.now _
theorem readR_dots {l : Str} {j : Nat} (h : firstD l = some j) (h2 : firstD (l.drop (j + 1)) ≠ none) : readR l = none := by
  unfold readR
  rw [h]
  simp only
  obtain ⟨m, hm⟩ := Option.ne_none_iff_exists'.1 h2
  rw [if_neg]
  unfold goodP
  rw [un_dot hm]
  simp
theorem Read_ev (s : ByteArray) (hs : s.size ≤ 100000) : Ev (fun k => token_Read.f k s) (outR (readB s)) := by
  show Ev (fun k => tokRead k s) _
  unfold tokRead
  refine Ev.yes (by omega) ?_
  have e4 : (s.extract 0 4).toList = (B s).take 4 := by rw [toList_B, B_extract, List.drop_zero]
  have er : B (s.extract 4 s.size) = (B s).drop 4 := by rw [B_extract, ← B_length, List.take_length]
  rw [e4]
  by_cases h4 : s.size < 4
  · have hne : ¬ (B s).take 4 = [109, 116, 49, 46] := by
      intro h
      have := congrArg List.length h
      rw [List.length_take, B_length] at this
      simp at this
      omega
    simp only [if_pos h4]
    unfold readB
    rw [if_neg hne]
    exact Ev.now _
  · simp only [if_neg h4]
    unfold readB
    by_cases hm : (B s).take 4 = [109, 116, 49, 46]
    · have hm2 : ((B s).take 4 == [109, 116, 49, 46]) = true := beq_iff_eq.mpr hm
      simp only [if_pos hm, if_pos hm2]
      rw [← er]
      show Ev (fun k => tokPoint k (s.extract 4 s.size) (ptL (B (s.extract 4 s.size)) 0 (-1))) _
      rw [ptL_all]
      cases hf : firstD (B (s.extract 4 s.size)) with
      | none =>
        simp only
        unfold readR
        rw [hf]
        exact Ev.now _
      | some j =>
        simp only
        by_cases h2 : firstD ((B (s.extract 4 s.size)).drop (j + 1)) = none
        · rw [if_pos h2]
          unfold tokPoint
          simp only [if_neg (show ¬ ((j : Int) < 0) by omega), Int.toNat_natCast]
          exact tokRest_ev _ (by rw [ByteArray.size_extract]; omega) j hf
        · rw [if_neg h2, readR_dots hf h2]
          exact Ev.now _
    · have hm2 : ¬ ((B s).take 4 == [109, 116, 49, 46]) = true := fun h => hm (beq_iff_eq.mp h)
      simp only [if_neg hm, if_neg hm2]
      exact Ev.now _
theorem cut_l0 (s : ByteArray) (hs : s.size ≤ 1000000000) : ∀ (d n : Nat), n + d = s.size → Ev (fun k => manometerref17_cut.l0 k s (s.size : Int) (n : Int)) (match firstD ((B s).drop n) with | none => ((⟨#[]⟩ : ByteArray), (⟨#[]⟩ : ByteArray), false) | some j => (s.extract 0 (n + j), s.extract (n + j + 1) s.size, true)) := by
  intro d
  induction d with
  | zero =>
    intro n hn
    refine Ev.step (f := _) (fun k => by simp only [manometerref17_cut.l0]; rfl) ?_
    simp only [if_neg (show ¬ ((n : Int) < (s.size : Int)) by omega)]
    rw [List.drop_of_length_le (by rw [B_length]; omega)]
    exact Ev.now _
  | succ d ih =>
    intro n hn
    have hlt : n < (B s).length := by rw [B_length]; omega
    have e1 : wrap64 ((n : Int) + 1) = ((n + 1 : Nat) : Int) := w1 n (by omega)
    refine Ev.step (f := _) (fun k => by simp only [manometerref17_cut.l0]; rfl) ?_
    simp only [if_pos (show (n : Int) < (s.size : Int) by omega), if_pos (show (0 : Int) ≤ (n : Int) by omega), bt_B, e1]
    rw [drop_cons (B s) n hlt]
    unfold firstD
    by_cases hc : ((B s).getD n 0).toNat = 46
    · have hci : (((B s).getD n 0).toNat : Int) = 46 := by omega
      simp only [if_pos hc, if_pos hci, if_pos (show (n : Int) ≤ (s.size : Int) by omega), if_pos (show (0 : Int) ≤ ((n + 1 : Nat) : Int) by omega), if_pos (show ((n + 1 : Nat) : Int) ≤ (s.size : Int) by omega), Int.toNat_natCast]
      exact Ev.now _
    · have hci : ¬ (((B s).getD n 0).toNat : Int) = 46 := by omega
      simp only [if_neg hc, if_neg hci]
      have h := ih (n + 1) (by omega)
      cases hf : firstD ((B s).drop (n + 1)) with
      | none =>
        rw [hf] at h
        exact h
      | some j =>
        rw [hf] at h
        simp only [Option.map_some]
        simp only at h
        rw [show n + 1 + j = n + (j + 1) by omega] at h
        exact h
def cutR (s : ByteArray) : ByteArray × ByteArray × Bool := match firstD (B s) with | none => ((⟨#[]⟩ : ByteArray), (⟨#[]⟩ : ByteArray), false) | some j => (s.extract 0 j, s.extract (j + 1) s.size, true)
theorem Cut_ev (s : ByteArray) (hs : s.size ≤ 1000000000) : Ev (fun k => manometerref17_cut.f k s) (cutR s) := by
  unfold manometerref17_cut.f cutR
  have h := cut_l0 s hs s.size 0 (by omega)
  simpa using h
theorem bad_j1 (b : List Int) : Ev (fun k => manometerref17_Read.j1 k b true) tokBad := by
  refine Ev.step (f := _) (fun k => by simp only [manometerref17_Read.j1]; rfl) ?_
  simp only [if_true]
  exact Ev.now _
theorem bad_j0 (m la : ByteArray) : Ev (fun k => manometerref17_Read.j0 k m la true) tokBad := by
  refine Ev.step (f := _) (fun k => by simp only [manometerref17_Read.j0]; rfl) ?_
  simp only [if_true]
  exact Ev.now _
theorem good_j0 (m la : ByteArray) (h1 : m.size ≤ 100000) (h2 : la.size ≤ 100000) :
    Ev (fun k => manometerref17_Read.j0 k m la false) (outR (if goodP (B m) (B la) = true then parseB (unL (B m) 0 0 []).1 else none)) := by
  refine Ev.step (f := _) (fun k => by simp only [manometerref17_Read.j0]; rfl) ?_
  simp only [Bool.false_eq_true, if_false]
  refine Ev.bind (RUnarmor_ev m h1) (Ev.bind (RUnarmor_ev la h2) ?_)
  unfold goodP
  by_cases g1 : (unL (B m) 0 0 []).2 = 0
  · by_cases g2 : (unL (B la) 0 0 []).2 = 0
    · simp only [if_pos g1, if_pos g2, decide_eq_true g1, decide_eq_true g2, Bool.true_and]
      by_cases g3 : (unL (B la) 0 0 []).1.length = 32
      · have g3b : (((unL (B la) 0 0 []).1.length : Int) != 32) = false := by rw [g3]; rfl
        simp only [g3b, decide_eq_true g3, if_pos trivial]
        refine Ev.step (f := _) (fun k => by simp only [manometerref17_Read.j1]; rfl) ?_
        simp only [Bool.false_eq_true, if_false]
        have hl := unL_leng (B m) 0 0 []
        rw [B_length] at hl
        simp only [List.length_nil] at hl
        exact (Parse_ev _ (unL_byt0 _) (by omega)).2.out
      · have g3b : (((unL (B la) 0 0 []).1.length : Int) != 32) = true := bne_iff_ne.mpr (by omega)
        simp only [g3b, decide_eq_false g3, Bool.false_eq_true, if_false]
        exact bad_j1 _
    · simp only [if_pos g1, if_neg g2, decide_eq_true g1, decide_eq_false g2, Bool.false_and, Bool.and_false, Bool.false_eq_true, if_false]
      exact bad_j1 _
  · simp only [if_neg g1, decide_eq_false g1, Bool.false_and, Bool.false_eq_true, if_false]
    exact bad_j1 _
theorem RRead_ev (s : ByteArray) (hs : s.size ≤ 100000) : Ev (fun k => manometerref17_Read.f k s) (outR (readB s)) := by
  unfold manometerref17_Read.f
  refine Ev.bind (Cut_ev s (by omega)) ?_
  unfold cutR
  cases hf : firstD (B s) with
  | none =>
    have hne : ¬ (B s).take 4 = [109, 116, 49, 46] := by
      intro h
      rw [← List.take_append_drop 4 (B s), h] at hf
      simp [firstD] at hf
    simp only
    refine Ev.bind (Cut_ev _ (by decide)) ?_
    simp only [Bool.false_eq_true, if_false]
    unfold readB
    rw [if_neg hne]
    exact bad_j0 _ _
  | some j =>
    simp only
    have hj := first_mem _ _ hf
    rw [B_length] at hj
    have hrs : (s.extract (j + 1) s.size).size ≤ 100000 := by rw [ByteArray.size_extract]; omega
    refine Ev.bind (Cut_ev _ (by omega)) ?_
    simp only [if_pos trivial]
    have e1 : (s.extract 0 j).toList = (B s).take j := by rw [toList_B, B_extract, List.drop_zero]
    have er : B (s.extract (j + 1) s.size) = (B s).drop (j + 1) := by rw [B_extract, ← B_length, List.take_length]
    by_cases hm : (B s).take 4 = [109, 116, 49, 46]
    · have h3 : j = 3 := by
        have h := hf
        rw [← List.take_append_drop 4 (B s), hm] at h
        simp [firstD] at h
        exact h.symm
      subst h3
      have et : (B s).take 3 = [109, 116, 49] := by
        have h := congrArg (List.take 3) hm
        rw [List.take_take] at h
        exact h
      have hb : ((s.extract 0 3).toList != ([109, 116, 49] : List UInt8)) = false := by rw [e1, et]; rfl
      unfold readB readR
      rw [if_pos hm, ← er]
      unfold cutR
      cases hg : firstD (B (s.extract (3 + 1) s.size)) with
      | none =>
        simp only [Bool.false_eq_true, if_false]
        exact bad_j0 _ _
      | some i =>
        simp only [if_pos trivial, hb]
        have q1 : ∀ R : ByteArray, (B R).take i = B (R.extract 0 i) := fun R => by rw [B_extract, List.drop_zero]
        have q2 : ∀ R : ByteArray, (B R).drop (i + 1) = B (R.extract (i + 1) R.size) := fun R => by rw [B_extract, ← B_length, List.take_length]
        rw [q1, q2]
        exact good_j0 _ _ (by rw [ByteArray.size_extract]; omega) (by rw [ByteArray.size_extract]; omega)
    · have hb : ((s.extract 0 j).toList != ([109, 116, 49] : List UInt8)) = true := by
        refine bne_iff_ne.mpr (fun h => hm ?_)
        rw [e1] at h
        have hl := congrArg List.length h
        rw [List.length_take, B_length] at hl
        have h3 : j = 3 := by simp at hl; omega
        subst h3
        rw [List.take_succ_eq_append_getElem (by rw [B_length]; omega), h]
        have h46 : (B s)[3]'(by rw [B_length]; omega) = 46 := by
          have h := hj.2
          rw [List.getD_eq_getElem?_getD, List.getElem?_eq_getElem (by rw [B_length]; omega), Option.getD_some] at h
          exact UInt8.toNat_inj.1 h
        rw [h46]
        rfl
      unfold readB
      rw [if_neg hm, hb]
      split
      · exact bad_j0 _ _
      · exact bad_j0 _ _
end Go.Proofs.YtkkomfomjpcbfaaDoor.Pu
end
section
namespace Go.Proofs.YtkkomfomjpcbfaaDoor.Pu
open Go Go.Proofs.YtkkomfomjpcbfaaDoor Go.Proofs.YtkkomfomjpcbfaaDoor.PTS
theorem live_60 : manometerlaw17_live.f 60 = some true := by kernel_rfl
end Go.Proofs.YtkkomfomjpcbfaaDoor.Pu
end
section
namespace Go.Proofs.YtkkomfomjpcbfaaDoor.PTS
open Go.RowKit Go.Proofs.YtkkomfomjpcbfaaDoorW.PrintWords Go.Proofs.YtkkomfomjpcbfaaDoorW.PrintLast Go.Proofs.YtkkomfomjpcbfaaDoorW.PrintMore
attribute [local go_sem] max2_int min2_int max_two min_two max_three min_three max_four min_four
set_option linter.unusedVariables false
set_option linter.unusedSimpArgs false
attribute [local go_sem high] eqA26
end Go.Proofs.YtkkomfomjpcbfaaDoor.PTS
end
section
namespace Go.Proofs.YtkkomfomjpcbfaaDoor.PTS
open Go.RowKit Go.Proofs.YtkkomfomjpcbfaaDoorW.PrintWords Go.Proofs.YtkkomfomjpcbfaaDoorW.PrintLast Go.Proofs.YtkkomfomjpcbfaaDoorW.PrintMore
attribute [local go_sem] max2_int min2_int max_two min_two max_three min_three max_four min_four
set_option linter.unusedVariables false
set_option linter.unusedSimpArgs false
end Go.Proofs.YtkkomfomjpcbfaaDoor.PTS
end
section
namespace Go.Proofs.YtkkomfomjpcbfaaDoor.PTS
open Go.RowKit Go.Proofs.YtkkomfomjpcbfaaDoorW.PrintWords Go.Proofs.YtkkomfomjpcbfaaDoorW.PrintLast Go.Proofs.YtkkomfomjpcbfaaDoorW.PrintMore
attribute [local go_sem] max2_int min2_int max_two min_two max_three min_three max_four min_four
set_option linter.unusedVariables false
set_option linter.unusedSimpArgs false
attribute [local go_sem high] eqA26
end Go.Proofs.YtkkomfomjpcbfaaDoor.PTS
end
section
namespace Go.Proofs.YtkkomfomjpcbfaaDoor.Pu
open Go Go.RowKit Go.Lib Go.Proofs.YtkkomfomjpcbfaaDoor Go.Proofs.YtkkomfomjpcbfaaDoor.PTS Go.Proofs.YtkkomfomjpcbfaaDoorW.PrintWords Go.Proofs.YtkkomfomjpcbfaaDoorW.PrintLast Go.Proofs.YtkkomfomjpcbfaaDoorW.PrintMore Bq
set_option linter.unusedVariables false
set_option linter.unusedSimpArgs false
abbrev Own := S43
abbrev Ky := S23
theorem parse_bd {b : List Int} (hb : Byts b) {c : C5} (h : parseB b = some c) : (-9223372036854775808 ≤ c.2.2.1 ∧ c.2.2.1 ≤ 9223372036854775807) ∧ (0 ≤ c.2.2.2.2 ∧ c.2.2.2.2 < 18446744073709551616) ∧ chkB c.1 c.2.1 c.2.2.2.1 = 0 := by
  unfold parseB at h
  split at h
  · split at h
    · cases h
    · unfold parse2 at h
      split at h
      · split at h
        · cases h
        · unfold parse3 at h
          split at h
          · rename_i _ _ _ _ hv
            split at h
            · cases h
            · unfold parse4 at h
              split at h
              · split at h
                · split at h
                  · rename_i hc
                    injection h with h
                    subst h
                    obtain ⟨v, n, e1, _, _, e2, e3⟩ := varG_back _ (byt_drop (byt_drop (byt_drop hb _) _) _) hv
                    refine ⟨?_, ?_, hc⟩
                    · rw [e1]
                      exact ⟨e2, e3⟩
                    · exact ug_bound _ 0 0 (byt_drop (byt_drop (byt_drop (byt_drop (byt_drop hb _) _) _) _) _) (by decide) (by decide)
                  · cases h
                · cases h
              · cases h
          · cases h
      · cases h
  · cases h
theorem read_bd {s : ByteArray} {c : C5} (h : readB s = some c) : (-9223372036854775808 ≤ c.2.2.1 ∧ c.2.2.1 ≤ 9223372036854775807) ∧ (0 ≤ c.2.2.2.2 ∧ c.2.2.2.2 < 18446744073709551616) ∧ chkB c.1 c.2.1 c.2.2.2.1 = 0 := by
  unfold readB at h
  split at h
  · unfold readR at h
    split at h
    · cases h
    · split at h
      · exact parse_bd (unL_byt0 _) h
      · cases h
  · cases h
theorem tokText_size (sec : ByteArray) (L : List Int) : (tokText sec L).size = 4 + (8 * L.length + 5) / 6 + 1 + 43 := by
  unfold tokText
  rw [ByteArray.size_append, ByteArray.size_append, tokHead_size, armor_size]
  have h : (tokSum sec L).length = 32 := Sha.sum_length _
  rw [h]
  rfl
theorem mint_ok {kid : Int} {sec tn : ByteArray} {key ex sc id : Int} (h : (mintB kid sec tn key ex sc id).2 = 0) : keyedB kid sec = true ∧ chkB tn key sc = 0 ∧ key = kid ∧ mintB kid sec tn key ex sc id = (tokText sec (bodyL tn key ex sc id), 0) := by
  unfold mintB at h ⊢
  split at h
  · rename_i h1
    split at h
    · rename_i h2
      split at h
      · rename_i h3
        refine ⟨h1, h2, h3, ?_⟩
        rw [if_pos h1, if_pos h2, if_pos h3]
      · cases h
    · rename_i h2
      exact absurd h h2
  · cases h
def signedB (s : ByteArray) (kid : Int) (sec : ByteArray) : Bool := match readB s with
  | none => false
  | some c => decide ((mintB kid sec c.1 c.2.1 c.2.2.1 c.2.2.2.1 c.2.2.2.2).2 = 0) && ((mintB kid sec c.1 c.2.1 c.2.2.1 c.2.2.2.1 c.2.2.2.2).1.toList == s.toList)
theorem Signed_ev (s : ByteArray) (kid : Int) (sec : ByteArray) (hs : s.size ≤ 100000) : Ev (fun k => token_Signed.f k s kid sec) (signedB s kid sec) ∧ Ev (fun k => manometerref17_Signed.f k s kid sec) (signedB s kid sec) := by
  have h1 := Read_ev s hs
  have h2 := RRead_ev s hs
  constructor
  · show Ev (fun k => tokSigned k s kid sec) _
    unfold tokSigned signedB
    refine Ev.bind h1 ?_
    cases hr : readB s with
    | none =>
      simp only [outR, tokBad, if_neg (show ¬ ((8 : Int) = 0) by decide)]
      exact Ev.now _
    | some c =>
      obtain ⟨b1, b2, b3⟩ := read_bd hr
      simp only [outR, if_pos trivial]
      refine Ev.bind (Mint_ev kid sec c.1 c.2.1 c.2.2.1 c.2.2.2.1 c.2.2.2.2 b1 b2) ?_
      by_cases hm : (mintB kid sec c.1 c.2.1 c.2.2.1 c.2.2.2.1 c.2.2.2.2).2 = 0
      · obtain ⟨m1, m2, m3, m4⟩ := mint_ok hm
        obtain ⟨c1, c2, c3⟩ := chk_ok m2
        have hl := body_len c.1 c.2.1 c.2.2.1 c.2.2.2.1 c.2.2.2.2 (ten_size c1) c2 b1 b2
        have hz : (mintB kid sec c.1 c.2.1 c.2.2.1 c.2.2.2.1 c.2.2.2.2).1.size ≤ 1000000 := by
          rw [m4]
          show (tokText _ _).size ≤ _
          rw [tokText_size]
          omega
        simp only [if_pos hm, if_pos hz, decide_eq_true hm, Bool.true_and]
        exact Ev.now _
      · simp only [if_neg hm, decide_eq_false hm, Bool.false_and]
        exact Ev.now _
  · unfold manometerref17_Signed.f signedB
    refine Ev.bind h2 ?_
    cases hr : readB s with
    | none =>
      simp only [outR, tokBad, if_neg (show ¬ ((8 : Int) = 0) by decide)]
      exact Ev.now _
    | some c =>
      obtain ⟨b1, b2, b3⟩ := read_bd hr
      obtain ⟨c1, c2, c3⟩ := chk_ok b3
      simp only [outR, if_pos trivial]
      refine Ev.bind (RMint_ev kid sec c.1 c.2.1 c.2.2.1 c.2.2.2.1 c.2.2.2.2 (by have := ten_size c1; omega) b1 b2) ?_
      by_cases hm : (mintB kid sec c.1 c.2.1 c.2.2.1 c.2.2.2.1 c.2.2.2.2).2 = 0
      · simp only [if_pos hm, decide_eq_true hm, Bool.true_and]
        exact Ev.now _
      · simp only [if_neg hm, decide_eq_false hm, Bool.false_and]
        exact Ev.now _
def badE (e : Int) : Clm := ((⟨#[]⟩ : ByteArray), 0, 0, 0, 0, e)
def needB (sc need : Int) : Bool := decide ((Go.bits .and .u8 sc (Go.bits .and .u8 need 7)) = (Go.bits .and .u8 need 7))
theorem and_v (x y : Int) : Go.bits .and .u8 x y = ((BitVec.ofInt 8 x &&& BitVec.ofInt 8 y).toNat : Int) := wrap8 _
theorem andNot_v (x y : Int) : Go.bits .andNot .u8 x y = ((BitVec.ofInt 8 x &&& ~~~ BitVec.ofInt 8 y).toNat : Int) := wrap8 _
theorem bv_and_not (N S : BitVec 8) : (N &&& ~~~S) = 0#8 ↔ (S &&& N) = N := by
  constructor
  · intro h
    apply BitVec.eq_of_getLsbD_eq
    intro i hi
    have h2 := congrArg (fun v => BitVec.getLsbD v i) h
    simp only [BitVec.getLsbD_and, BitVec.getLsbD_not, BitVec.getLsbD_zero, hi, decide_true, Bool.true_and] at h2 ⊢
    cases h3 : N.getLsbD i <;> cases h4 : S.getLsbD i <;> simp_all
  · intro h
    apply BitVec.eq_of_getLsbD_eq
    intro i hi
    have h2 := congrArg (fun v => BitVec.getLsbD v i) h
    simp only [BitVec.getLsbD_and, BitVec.getLsbD_not, BitVec.getLsbD_zero, hi, decide_true, Bool.true_and] at h2 ⊢
    cases h3 : N.getLsbD i <;> cases h4 : S.getLsbD i <;> simp_all
theorem need_both (sc need : Int) : ((Go.bits .andNot .u8 (Go.bits .and .u8 need 7) sc) = 0) ↔ needB sc need = true := by
  unfold needB
  rw [decide_eq_true_eq, andNot_v, and_v sc, and_v need, ofInt8_nat]
  constructor
  · intro h
    have h2 : (BitVec.ofInt 8 need &&& BitVec.ofInt 8 7) &&& ~~~ BitVec.ofInt 8 sc = 0#8 := by
      apply BitVec.eq_of_toNat_eq
      simp only [BitVec.toNat_ofNat]
      omega
    rw [(bv_and_not _ _).1 h2]
  · intro h
    have h2 : BitVec.ofInt 8 sc &&& (BitVec.ofInt 8 need &&& BitVec.ofInt 8 7) = (BitVec.ofInt 8 need &&& BitVec.ofInt 8 7) := by
      apply BitVec.eq_of_toNat_eq
      omega
    rw [(bv_and_not _ _).2 h2]
    rfl
def endB (s : ByteArray) (now need : Int) (c : C5) (kid : Int) (sec : ByteArray) : Clm :=
  if signedB s kid sec = true then (if now ≥ c.2.2.1 then badE 171 else if needB c.2.2.2.1 need = true then outR (some c) else badE 172) else badE 170
def findK (tn : ByteArray) (key : Int) : List Own → Int → Option Ky × Int
  | [], e => (none, e)
  | x :: l, e => if x.f0.toList = tn.toList then (if x.f1.f0 = key then (some x.f1, 0) else findK tn key l 181) else findK tn key l e
def afterK (s : ByteArray) (now need : Int) (c : C5) : Option Ky × Int → Clm
  | (none, e) => badE e
  | (some k, _) => endB s now need c k.f0 k.f1
def verB (s : ByteArray) (keys : List Own) (now need : Int) : Clm := match readB s with
  | none => tokBad
  | some c => afterK s now need c (findK c.1 c.2.1 keys 180)
theorem rd_own (l : List Own) (n : Nat) : rd_T43 l (n : Int) = l.getD n z43 := by unfold rd_T43; rw [Int.toNat_natCast]
theorem drop_own (l : List Own) (n : Nat) (h : n < l.length) : l.drop n = l.getD n z43 :: l.drop (n + 1) := by
  rw [List.drop_eq_getElem_cons h, List.getD_eq_getElem?_getD, List.getElem?_eq_getElem h]
  rfl
theorem endV_ev (s : ByteArray) (hs : s.size ≤ 100000) (now need : Int) (c : C5) (kid : Int) (sec : ByteArray) :
    Ev (fun k => (token_Signed.f k s kid sec).bind fun t187 => (if t187 = true then (if now ≥ c.2.2.1 then (some ((⟨#[]⟩ : ByteArray), (0 : Int), (0 : Int), (0 : Int), (0 : Int), (171 : Int))) else (if (Go.bits .andNot .u8 (Go.bits .and .u8 need 7) c.2.2.2.1) = 0 then (some (c.1, c.2.1, c.2.2.1, c.2.2.2.1, c.2.2.2.2, (0 : Int))) else (some ((⟨#[]⟩ : ByteArray), 0, 0, 0, 0, 172)))) else (some ((⟨#[]⟩ : ByteArray), 0, 0, 0, 0, 170)))) (endB s now need c kid sec) := by
  refine Ev.bind (Signed_ev s kid sec hs).1 ?_
  unfold endB
  cases signedB s kid sec with
  | false => simp only [Bool.false_eq_true, if_false]; exact Ev.now _
  | true =>
    simp only [if_pos trivial]
    by_cases h1 : now ≥ c.2.2.1
    · simp only [if_pos h1]; exact Ev.now _
    · simp only [if_neg h1]
      by_cases h2 : needB c.2.2.2.1 need = true
      · simp only [if_pos h2, if_pos ((need_both _ _).2 h2)]; exact Ev.now _
      · simp only [if_neg h2, if_neg (fun h => h2 ((need_both _ _).1 h))]; exact Ev.now _
theorem V_found (s : ByteArray) (hs : s.size ≤ 100000) (now need : Int) (c : C5) (keys : List Own) (hk : keys.length ≤ 1000000) (kid : Int) (sec : ByteArray) : ∀ (d n : Nat), n + d = keys.length →
    Ev (fun k => token_Verify.l0 k s now need 0 keys (keys.length : Int) (n : Int) c.1 c.2.1 c.2.2.1 c.2.2.2.1 c.2.2.2.2 kid sec) (endB s now need c kid sec) := by
  intro d
  induction d with
  | zero =>
    intro n hn
    refine Ev.step (f := _) (fun k => by simp only [token_Verify.l0]; rfl) ?_
    simp only [if_neg (show ¬ ((n : Int) < (keys.length : Int)) by omega), if_pos trivial]
    exact endV_ev s hs now need c kid sec
  | succ d ih =>
    intro n hn
    have e1 : wrap64 ((n : Int) + 1) = ((n + 1 : Nat) : Int) := w1 n (by omega)
    have hnext : ∀ (a : ByteArray) (b : Int) (e : ByteArray), Ev (fun k => token_Verify.j1 k s now need 0 keys (keys.length : Int) (n : Int) true c.1 c.2.1 c.2.2.1 c.2.2.2.1 c.2.2.2.2 kid sec a b e) (endB s now need c kid sec) := fun a b e => by
      refine Ev.step (f := _) (fun k => by simp only [token_Verify.j1]; rfl) ?_
      simp only [if_true, e1]
      exact ih (n + 1) (by omega)
    refine Ev.step (f := _) (fun k => by simp only [token_Verify.l0]; rfl) ?_
    simp only [if_pos (show (n : Int) < (keys.length : Int) by omega), if_pos (show (0 : Int) ≤ (n : Int) by omega), beq_self_eq_true]
    refine Ev.ite (fun _ => hnext _ _ _) (fun _ => hnext _ _ _)
theorem V_loop (s : ByteArray) (hs : s.size ≤ 100000) (now need : Int) (c : C5) (keys : List Own) (hk : keys.length ≤ 1000000) : ∀ (d n : Nat) (e kid : Int) (sec : ByteArray), n + d = keys.length → ¬ e = 0 →
    Ev (fun k => token_Verify.l0 k s now need e keys (keys.length : Int) (n : Int) c.1 c.2.1 c.2.2.1 c.2.2.2.1 c.2.2.2.2 kid sec) (afterK s now need c (findK c.1 c.2.1 (keys.drop n) e)) := by
  intro d
  induction d with
  | zero =>
    intro n e kid sec hn he
    refine Ev.step (f := _) (fun k => by simp only [token_Verify.l0]; rfl) ?_
    simp only [if_neg (show ¬ ((n : Int) < (keys.length : Int)) by omega), if_neg he]
    rw [List.drop_of_length_le (by omega)]
    exact Ev.now _
  | succ d ih =>
    intro n e kid sec hn he
    have hlt : n < keys.length := by omega
    have e1 : wrap64 ((n : Int) + 1) = ((n + 1 : Nat) : Int) := w1 n (by omega)
    refine Ev.step (f := _) (fun k => by simp only [token_Verify.l0]; rfl) ?_
    simp only [if_pos (show (n : Int) < (keys.length : Int) by omega), if_pos (show (0 : Int) ≤ (n : Int) by omega), rd_own, beq_eq_false_iff_ne.mpr he]
    rw [drop_own keys n hlt]
    unfold findK
    by_cases h1 : (keys.getD n z43).f0.toList = c.1.toList
    · simp only [if_pos h1]
      refine Ev.step (f := _) (fun k => by simp only [token_Verify.j1]; rfl) ?_
      simp only [Bool.false_eq_true, if_false, e1]
      by_cases h2 : (keys.getD n z43).f1.f0 = c.2.1
      · simp only [if_pos h2]
        rw [h2]
        have h := V_found s hs now need c keys hk (keys.getD n z43).f1.f0 (keys.getD n z43).f1.f1 d (n + 1) (by omega)
        show Ev _ (endB s now need c (keys.getD n z43).f1.f0 (keys.getD n z43).f1.f1)
        rw [h2] at h ⊢
        exact h
      · simp only [if_neg h2]
        exact ih (n + 1) 181 kid sec (by omega) (by decide)
    · simp only [if_neg h1]
      refine Ev.step (f := _) (fun k => by simp only [token_Verify.j1]; rfl) ?_
      simp only [if_true, e1]
      exact ih (n + 1) e kid sec (by omega) he
theorem Verify_ev (s : ByteArray) (hs : s.size ≤ 100000) (keys : List Own) (hk : keys.length ≤ 1000000) (now need : Int) : Ev (fun k => token_Verify.f k s keys now need) (verB s keys now need) := by
  unfold token_Verify.f verB
  refine Ev.bind (Read_ev s hs) ?_
  cases readB s with
  | none =>
    simp only [outR, tokBad, if_neg (show ¬ ((8 : Int) = 0) by decide)]
    exact Ev.now _
  | some c =>
    simp only [outR, if_pos trivial]
    exact V_loop s hs now need c keys hk keys.length 0 180 0 _ (by omega) (by decide)
end Go.Proofs.YtkkomfomjpcbfaaDoor.Pu
end
section
namespace Go.Proofs.YtkkomfomjpcbfaaDoor.PTS
open Go.RowKit Go.Proofs.YtkkomfomjpcbfaaDoorW.PrintWords Go.Proofs.YtkkomfomjpcbfaaDoorW.PrintLast Go.Proofs.YtkkomfomjpcbfaaDoorW.PrintMore
attribute [local go_sem] max2_int min2_int max_two min_two max_three min_three max_four min_four
set_option linter.unusedVariables false
set_option linter.unusedSimpArgs false
attribute [local go_sem high] eqA26
end Go.Proofs.YtkkomfomjpcbfaaDoor.PTS
end
section
namespace Go.Proofs.YtkkomfomjpcbfaaDoor.PTS
open Go.RowKit Go.Proofs.YtkkomfomjpcbfaaDoorW.PrintWords Go.Proofs.YtkkomfomjpcbfaaDoorW.PrintLast Go.Proofs.YtkkomfomjpcbfaaDoorW.PrintMore
attribute [local go_sem] max2_int min2_int max_two min_two max_three min_three max_four min_four
set_option linter.unusedVariables false
set_option linter.unusedSimpArgs false
attribute [local go_sem high] eqA26
end Go.Proofs.YtkkomfomjpcbfaaDoor.PTS
end
section
namespace Go.Proofs.YtkkomfomjpcbfaaDoor.Pu
open Go Go.RowKit Go.Lib Go.Proofs.YtkkomfomjpcbfaaDoor Go.Proofs.YtkkomfomjpcbfaaDoor.PTS Go.Proofs.YtkkomfomjpcbfaaDoorW.PrintWords Go.Proofs.YtkkomfomjpcbfaaDoorW.PrintLast Go.Proofs.YtkkomfomjpcbfaaDoorW.PrintMore Bq
set_option linter.unusedVariables false
set_option linter.unusedSimpArgs false
theorem drop_len {α : Type} (a b : List α) : (a ++ b).drop a.length = b := List.drop_left
theorem take_len {α : Type} (a b : List α) : (a ++ b).take a.length = a := List.take_left
theorem parse_body (tn : ByteArray) (key ex sc id : Int) (hc : chkB tn key sc = 0) (hx : -9223372036854775808 ≤ ex ∧ ex ≤ 9223372036854775807) (hi : 0 ≤ id ∧ id < 18446744073709551616) :
    parseB (bodyL tn key ex sc id) = some (tn, key, ex, sc, id) := by
  obtain ⟨c1, c2, c3⟩ := chk_ok hc
  have ht := ten_size c1
  have hsc : sc = ((sc.toNat : Nat) : Int) := by omega
  obtain ⟨U1, hU1⟩ : ∃ U, U = Bq.ints (uv tn.size) := ⟨_, rfl⟩
  obtain ⟨U2, hU2⟩ : ∃ U, U = Bq.ints (uv key.toNat) := ⟨_, rfl⟩
  obtain ⟨U3, hU3⟩ : ∃ U, U = Bq.ints (uv id.toNat) := ⟨_, rfl⟩
  have hb : bodyL tn key ex sc id = U1 ++ (bytesOf tn ++ (U2 ++ (vI ex ++ (sc :: U3)))) := by
    unfold bodyL
    rw [← hU1, ← hU2, ← hU3]
    simp
  have g1 : ∀ r, uget (U1 ++ r) = ((tn.size : Int), (U1.length : Int), 0) := fun r => by
    rw [hU1, ints_length]
    exact uget_uv tn.size (by omega) r
  have g2 : ∀ r, uget (U2 ++ r) = (key, (U2.length : Int), 0) := fun r => by
    rw [hU2, ints_length, uget_uv key.toNat (by omega) r, show ((key.toNat : Nat) : Int) = key by omega]
  have g3 : uget U3 = (id, (U3.length : Int), 0) := by
    have h := uget_uv id.toNat (by omega) []
    rw [List.append_nil, show ((id.toNat : Nat) : Int) = id by omega] at h
    rw [hU3, ints_length]
    exact h
  have hl : (bytesOf tn).length = tn.size := bytesOf_length tn
  rw [hb]
  unfold parseB
  rw [g1]
  simp only [if_pos trivial, Int.toNat_natCast, drop_len]
  rw [if_neg (by simp only [List.length_append, hl]; omega), ← hl, take_len, drop_len, sN_bytesOf]
  unfold parse2
  rw [g2]
  simp only [if_pos trivial, Int.toNat_natCast, drop_len]
  rw [if_neg (by omega)]
  unfold parse3
  rw [varG_vI ex hx.1 hx.2]
  simp only [if_pos trivial, Int.toNat_natCast, drop_len]
  rw [if_neg (by simp only [List.length_append, List.length_cons]; omega)]
  show parse4 tn key ex sc U3 = _
  unfold parse4
  rw [g3]
  simp only [if_pos trivial, hc]
theorem first_app : ∀ (a b : Str), firstD a = none → firstD (a ++ 46 :: b) = some a.length
  | [], b, h => rfl
  | c :: a, b, h => by
    unfold firstD at h
    split at h
    · cases h
    · rename_i hc
      have h2 : firstD a = none := by simpa using h
      show firstD (c :: (a ++ 46 :: b)) = _
      unfold firstD
      rw [if_neg hc, first_app a b h2]
      rfl
theorem first_un {l : Str} (h : (unL l 0 0 []).2 = 0) : firstD l = none := by
  cases hf : firstD l with
  | none => rfl
  | some j =>
    rw [un_dot hf] at h
    cases h
theorem text_B (sec : ByteArray) (L : List Int) : B (tokText sec L) = [109, 116, 49, 46] ++ (B (strOfNums (armor L)) ++ 46 :: B (strOfNums (armor (tokSum sec L)))) := by
  unfold tokText tokHead
  rw [B_append, B_append, B_append]
  show ([109, 116, 49, 46] ++ B (strOfNums (armor L))) ++ [46] ++ B (strOfNums (armor (tokSum sec L))) = _
  simp
theorem mint_size {kid : Int} {sec tn : ByteArray} {key ex sc id : Int} (hx : -9223372036854775808 ≤ ex ∧ ex ≤ 9223372036854775807) (hi : 0 ≤ id ∧ id < 18446744073709551616) (h : (mintB kid sec tn key ex sc id).2 = 0) :
    50 < (mintB kid sec tn key ex sc id).1.size ∧ (mintB kid sec tn key ex sc id).1.size ≤ 1000 := by
  obtain ⟨m1, m2, m3, m4⟩ := mint_ok h
  obtain ⟨c1, c2, c3⟩ := chk_ok m2
  have hl := body_len tn key ex sc id (ten_size c1) c2 hx hi
  have hp : 0 < (bodyL tn key ex sc id).length := by
    have := uv_pos tn.size
    unfold bodyL
    simp only [List.length_append, ints_length]
    omega
  have hp2 : 4 ≤ (bodyL tn key ex sc id).length := by
    have h1 := uv_pos tn.size
    have h2 := uv_pos key.toNat
    have h3 : 0 < (vI ex).length := by unfold vI; rw [ints_length]; exact uv_pos _
    unfold bodyL
    simp only [List.length_append, ints_length, List.length_singleton]
    omega
  rw [m4]
  show 50 < (tokText _ _).size ∧ (tokText _ _).size ≤ 1000
  rw [tokText_size]
  omega
end Go.Proofs.YtkkomfomjpcbfaaDoor.Pu
end
