import Derived.Test.YtkkomfomjpcbfaaDoorCTokenTurnsPLAx0
import Derived.Test.YtkkomfomjpcbfaaDoorCTokenTurnsPTSx8
import Derived.Test.YtkkomfomjpcbfaaDoorCTokenTurnsPTSx13
import Derived.Laws.RangeAny
import Derived.Lib.OthersKept
import Derived.Test.YtkkomfomjpcbfaaDoorCTokenTurnsG1
import Derived.Test.YtkkomfomjpcbfaaDoorCTokenTurnsTT
import Derived.Test.YtkkomfomjpcbfaaDoorCTokenTurnsY
import Derived.Test.YtkkomfomjpcbfaaDoorCTokenTurnsTQ
import Derived.Test.YtkkomfomjpcbfaaDoorCTokenTurnsPTSx2
import Derived.Test.YtkkomfomjpcbfaaDoorCTokenTurnsPTSx5
import Derived.KernelRfl
import Derived.Test.YtkkomfomjpcbfaaDoorCTokenTurnsPTSx1
import Derived.Test.YtkkomfomjpcbfaaDoorCTokenTurnsPTSx7
import Derived.Test.YtkkomfomjpcbfaaDoorCTokenTurnsPTSx6
namespace Go.Proofs.YtkkomfomjpcbfaaDoor.Bq
end Go.Proofs.YtkkomfomjpcbfaaDoor.Bq
section
namespace Go.Proofs.YtkkomfomjpcbfaaDoor.PTS
open Go.RowKit Go.Proofs.YtkkomfomjpcbfaaDoorW.PrintWords Go.Proofs.YtkkomfomjpcbfaaDoorW.PrintLast Go.Proofs.YtkkomfomjpcbfaaDoorW.PrintMore
attribute [local go_sem] max2_int min2_int max_two min_two max_three min_three max_four min_four
set_option linter.unusedVariables false
set_option linter.unusedSimpArgs false
def manometerref17_head.f (k : Nat) (a0_0 : ByteArray) (a0_1 : Int) (a0_2 : Int) (a0_3 : Int) (a0_4 : Int) : Option (ByteArray) := (manometerref01_PutUvarint.f k (IntKind.u64.wrap ((a0_0.size : Int)))).bind fun t252 => (if a0_0.size ≤ 9223372036854775807 then ((manometerref01_PutUvarint.f k (IntKind.u64.wrap (a0_1))).bind fun t258 => ((manometerref01_PutVarint.f k a0_2).bind fun t261 => ((manometerref01_PutUvarint.f k a0_4).bind fun t267 => ((manometerref01_Join.f k (([t252, (bytesOf a0_0), t258, t261, (([a0_3] : List Int)), t267] : List (List Int)))).bind fun t273 => ((manometerref03_Armor.f k t273).bind fun t276 => (if 4 + t276.size ≤ 9223372036854775807 then (some ((⟨#[109, 116, 49, 46]⟩ : ByteArray) ++ t276)) else (none))))))) else (none))
def manometerref03_Mac.f (l0 : List Int) (l1 : List Int) : Option (List Int) := if l0.length ≤ 1000000 then (if l1.length ≤ 1000000 then (if l0.all (fun x => decide (0 ≤ x ∧ x < 256)) = true then (if l1.all (fun x => decide (0 ≤ x ∧ x < 256)) = true then some (Sha.mac l0 l1) else none) else none) else none) else none
def manometerref17_Mint.f (k : Nat) (a0_0 : Int) (a0_1 : ByteArray) (a1_0 : ByteArray) (a1_1 : Int) (a1_2 : Int) (a1_3 : Int) (a1_4 : Int) : Option (ByteArray × Int) := (manometerref17_Keyed.f a0_0 a0_1).bind fun t279 => (if t279 = true then ((manometerref17_Check.f k a1_0 a1_1 a1_2 a1_3 a1_4).bind fun t280 => (if t280 = 0 then (if a1_1 = a0_0 then ((manometerref17_head.f k a1_0 a1_1 a1_2 a1_3 a1_4).bind fun t281 => (if t281.size + 1 ≤ 9223372036854775807 then (if a0_1.size ≤ 9223372036854775807 then (if t281.size ≤ 9223372036854775807 then ((manometerref03_Mac.f (bytesOf a0_1) (bytesOf t281)).bind fun t288 => ((manometerref03_Armor.f k t288).bind fun t291 => (if (t281 ++ (⟨#[46]⟩ : ByteArray)).size + t291.size ≤ 9223372036854775807 then (some ((t281 ++ (⟨#[46]⟩ : ByteArray)) ++ t291, 0)) else (none)))) else (none)) else (none)) else (none))) else (some ((⟨#[]⟩ : ByteArray), 181))) else (some ((⟨#[]⟩ : ByteArray), t280)))) else (some ((⟨#[]⟩ : ByteArray), 181)))
end Go.Proofs.YtkkomfomjpcbfaaDoor.PTS
end
section
namespace Go.Proofs.YtkkomfomjpcbfaaDoor.Pu
open Go Go.RowKit Go.Lib Go.Proofs.YtkkomfomjpcbfaaDoor Go.Proofs.YtkkomfomjpcbfaaDoor.PTS Go.Proofs.YtkkomfomjpcbfaaDoorW.PrintWords Go.Proofs.YtkkomfomjpcbfaaDoorW.PrintLast Go.Proofs.YtkkomfomjpcbfaaDoorW.PrintMore Bq
set_option linter.unusedVariables false
set_option linter.unusedSimpArgs false
theorem Ev.yes {α : Type} {c : Prop} [Decidable c] {g f : Nat → Option α} {r : α} (hc : c) (h : Ev g r) : Ev (fun k => if c then g k else f k) r := by
  simp only [if_pos hc]
  exact h
def tenB (s : ByteArray) : Bool := decide (s.size ≤ 32) && namedB (B s)
def chkB (tn : ByteArray) (key sc : Int) : Int := if tenB tn = true then (if key < 1 then 181 else if key > 99 then 181 else if sc < 1 then 1 else if sc > 7 then 1 else 0) else 180
def keyedB (kid : Int) (sec : ByteArray) : Bool := decide (1 ≤ kid) && decide (kid ≤ 99) && decide (16 ≤ sec.size) && decide (sec.size ≤ 64)
def bodyL (tn : ByteArray) (key ex sc id : Int) : List Int := Bq.ints (uv tn.size) ++ bytesOf tn ++ Bq.ints (uv key.toNat) ++ vI ex ++ [sc] ++ Bq.ints (uv id.toNat)
def mintB (kid : Int) (sec tn : ByteArray) (key ex sc id : Int) : ByteArray × Int :=
  if keyedB kid sec = true then (if chkB tn key sc = 0 then (if key = kid then (tokText sec (bodyL tn key ex sc id), 0) else ((⟨#[]⟩ : ByteArray), 181)) else ((⟨#[]⟩ : ByteArray), chkB tn key sc)) else ((⟨#[]⟩ : ByteArray), 181)
theorem Tenant_f (s : ByteArray) : token_Tenant.f s = some (tenB s) := by
  unfold token_Tenant.f tenB
  by_cases h : (s.size : Int) ≤ 32
  · rw [if_pos h, decide_eq_true (show s.size ≤ 32 by omega)]
    unfold labels_Named.f
    rw [if_pos (by omega)]
    rfl
  · rw [if_neg h, decide_eq_false (show ¬ s.size ≤ 32 by omega)]
    rfl
theorem RTenant_ev (s : ByteArray) (hs : s.size ≤ 1000000000000) : Ev (fun k => manometerref17_Tenant.f k s) (tenB s) := by
  have h := Named_ev s hs
  refine (show Ev (fun k => manometerref17_Tenant.f k s) (tenB s) from ?_)
  unfold manometerref17_Tenant.f tenB
  refine Ev.bind h ?_
  cases hn : namedB (B s) with
  | true =>
    simp only [if_pos trivial, Bool.and_true]
    refine Ev.const ?_
    congr 1
    by_cases h : s.size ≤ 32
    · rw [decide_eq_true h, decide_eq_true (by omega)]
    · rw [decide_eq_false h, decide_eq_false (by omega)]
  | false =>
    simp only [Bool.false_eq_true, if_false, Bool.and_false]
    exact Ev.now _
theorem Check_ev (tn : ByteArray) (key ex sc id : Int) : Ev (fun k => token_Check.f k tn key ex sc id) (chkB tn key sc) := by
  unfold token_Check.f chkB
  refine Ev.bindc (Tenant_f tn) ?_
  cases tenB tn with
  | false =>
    simp only [Bool.false_eq_true, if_false]
    exact Ev.now _
  | true =>
    simp only [if_pos trivial]
    have ht : Ev (fun k => token_Check.j0 k true tn key ex sc id) 181 := by
      refine Ev.step (f := _) (fun k => by simp only [token_Check.j0]; rfl) ?_
      simp only [if_true]
      exact Ev.now _
    have hf : Ev (fun k => token_Check.j0 k false tn key ex sc id) (if sc < 1 then 1 else if sc > 7 then 1 else 0) := by
      refine Ev.step (f := _) (fun k => by simp only [token_Check.j0]; rfl) ?_
      simp only [Bool.false_eq_true, if_false]
      refine Ev.const ?_
      split
      · rfl
      · split <;> rfl
    by_cases h1 : key < 1
    · simp only [if_pos h1]
      exact ht
    · simp only [if_neg h1]
      by_cases h2 : key > 99
      · simp only [decide_eq_true h2, if_pos h2]
        exact ht
      · simp only [decide_eq_false h2, if_neg h2]
        exact hf
theorem RCheck_ev (tn : ByteArray) (key ex sc id : Int) (hs : tn.size ≤ 1000000000000) : Ev (fun k => manometerref17_Check.f k tn key ex sc id) (chkB tn key sc) := by
  unfold manometerref17_Check.f chkB
  refine Ev.bind (RTenant_ev tn hs) ?_
  cases tenB tn with
  | false =>
    simp only [Bool.false_eq_true, if_false]
    exact Ev.now _
  | true =>
    simp only [if_pos trivial]
    have ht : Ev (fun k => manometerref17_Check.j0 k true tn key ex sc id) 181 := by
      refine Ev.step (f := _) (fun k => by simp only [manometerref17_Check.j0]; rfl) ?_
      simp only [if_true]
      exact Ev.now _
    have hf : Ev (fun k => manometerref17_Check.j0 k false tn key ex sc id) (if sc < 1 then 1 else if sc > 7 then 1 else 0) := by
      refine Ev.step (f := _) (fun k => by simp only [manometerref17_Check.j0]; rfl) ?_
      simp only [Bool.false_eq_true, if_false]
      refine Ev.const ?_
      split
      · rfl
      · split <;> rfl
    by_cases h1 : key < 1
    · simp only [if_pos h1]
      exact ht
    · simp only [if_neg h1]
      by_cases h2 : key > 99
      · simp only [decide_eq_true h2, if_pos h2]
        exact ht
      · simp only [decide_eq_false h2, if_neg h2]
        exact hf
theorem chk_ok {tn : ByteArray} {key sc : Int} (h : chkB tn key sc = 0) : tenB tn = true ∧ (1 ≤ key ∧ key ≤ 99) ∧ (1 ≤ sc ∧ sc ≤ 7) := by
  unfold chkB at h
  split at h
  · rename_i h0
    split at h
    · cases h
    · split at h
      · cases h
      · split at h
        · cases h
        · split at h
          · cases h
          · exact ⟨h0, by omega, by omega⟩
  · cases h
theorem ten_size {tn : ByteArray} (h : tenB tn = true) : tn.size ≤ 32 := by
  unfold tenB at h
  rw [Bool.and_eq_true] at h
  exact of_decide_eq_true h.1
theorem Keyed_f (kid : Int) (sec : ByteArray) : token_Keyed.f kid sec = some (keyedB kid sec) ∧ manometerref17_Keyed.f kid sec = some (keyedB kid sec) := by
  have key : ∀ x : Option Bool, x = (if kid ≥ 1 then (if kid ≤ 99 then (if (sec.size : Int) ≥ 16 then (some (decide ((sec.size : Int) ≤ 64))) else (some false)) else (some false)) else (some false)) → x = some (keyedB kid sec) := by
    rintro x rfl
    unfold keyedB
    by_cases h1 : kid ≥ 1
    · rw [if_pos h1, decide_eq_true (show 1 ≤ kid from h1)]
      by_cases h2 : kid ≤ 99
      · rw [if_pos h2, decide_eq_true h2]
        by_cases h3 : (sec.size : Int) ≥ 16
        · rw [if_pos h3, decide_eq_true (show 16 ≤ sec.size by omega)]
          congr 1
          by_cases h4 : sec.size ≤ 64
          · rw [decide_eq_true h4, decide_eq_true (by omega)]; rfl
          · rw [decide_eq_false h4, decide_eq_false (by omega)]; rfl
        · rw [if_neg h3, decide_eq_false (show ¬ 16 ≤ sec.size by omega)]
          rfl
      · rw [if_neg h2, decide_eq_false h2]
        rfl
    · rw [if_neg h1, decide_eq_false (show ¬ 1 ≤ kid by omega)]
      rfl
  exact ⟨key _ rfl, key _ rfl⟩
theorem u64w (n : Int) (h0 : 0 ≤ n) (h1 : n < 18446744073709551616) : IntKind.u64.wrap n = n := by rw [IntKind.wrap_u64]; omega
theorem body_len (tn : ByteArray) (key ex sc id : Int) (ht : tn.size ≤ 32) (hk : 1 ≤ key ∧ key ≤ 99) (hx : -9223372036854775808 ≤ ex ∧ ex ≤ 9223372036854775807) (hi : 0 ≤ id ∧ id < 18446744073709551616) : (bodyL tn key ex sc id).length ≤ 100 := by
  unfold bodyL
  have h1 := uv_len10 tn.size (by omega)
  have h2 := uv_len10 key.toNat (by omega)
  have h3 := vI_len ex hx.1 hx.2
  have h4 := uv_len10 id.toNat (by omega)
  simp only [List.length_append, ints_length, bytesOf_length, List.length_singleton]
  omega
theorem body_byts (tn : ByteArray) (key ex sc id : Int) (hs : 1 ≤ sc ∧ sc ≤ 7) : Byts (bodyL tn key ex sc id) := by
  unfold bodyL
  refine byt_app (byt_app (byt_app (byt_app (byt_app (byt_uv _) (bytesOf_byts _)) (byt_uv _)) (byt_uv _)) (fun x hx => ?_)) (byt_uv _)
  rw [List.mem_singleton.1 hx]
  omega
theorem Body_ev (tn : ByteArray) (key ex sc id : Int) (ht : tn.size ≤ 32) (hk : 1 ≤ key ∧ key ≤ 99) (hx : -9223372036854775808 ≤ ex ∧ ex ≤ 9223372036854775807) (hi : 0 ≤ id ∧ id < 18446744073709551616) :
    Ev (fun k => token_body.f k tn key ex sc id) (bodyL tn key ex sc id) := by
  have h1 := uv_len10 tn.size (by omega)
  have h2 := uv_len10 key.toNat (by omega)
  have h3 := vI_len ex hx.1 hx.2
  have h4 := uv_len10 id.toNat (by omega)
  have e1 : IntKind.u64.wrap (tn.size : Int) = (tn.size : Int) := u64w _ (by omega) (by omega)
  have e2 : IntKind.u64.wrap key = ((key.toNat : Nat) : Int) := by rw [u64w _ (by omega) (by omega)]; omega
  have e3 : id = ((id.toNat : Nat) : Int) := by omega
  unfold token_body.f
  rw [e1, e2]
  refine Ev.bind (PutUvarint_ev tn.size (by omega)).1 ?_
  refine Ev.yes (by rw [ints_length]; omega) ?_
  refine Ev.bindc rfl (Ev.bind (PutUvarint_ev key.toNat (by omega)).1 ?_)
  refine Ev.yes (by simp only [List.length_append, ints_length, bytesOf_length]; omega) ?_
  refine Ev.bindc rfl (Ev.bind (PutVarint_ev ex hx.1 hx.2).1 ?_)
  refine Ev.yes (by simp only [List.length_append, ints_length, bytesOf_length]; omega) ?_
  refine Ev.bindc rfl ?_
  refine Ev.yes (by simp only [List.length_append, ints_length, bytesOf_length]; omega) ?_
  refine Ev.bindc rfl ?_
  have hid : Ev (fun k => bits_PutUvarint.f k id) (Bq.ints (uv id.toNat)) := by
    have h := (PutUvarint_ev id.toNat (by omega)).1
    rw [← e3] at h
    exact h
  refine Ev.bind hid ?_
  refine Ev.yes (by simp only [List.length_append, ints_length, bytesOf_length, List.length_singleton]; omega) ?_
  exact Ev.now _
theorem Mint_ev (kid : Int) (sec tn : ByteArray) (key ex sc id : Int) (hx : -9223372036854775808 ≤ ex ∧ ex ≤ 9223372036854775807) (hi : 0 ≤ id ∧ id < 18446744073709551616) :
    Ev (fun k => token_Mint.f k kid sec tn key ex sc id) (mintB kid sec tn key ex sc id) := by
  show Ev (fun k => tokMint k kid sec tn key ex sc id) _
  unfold tokMint mintB
  refine Ev.bindc (Keyed_f kid sec).1 ?_
  cases keyedB kid sec with
  | false => simp only [Bool.false_eq_true, if_false]; exact Ev.now _
  | true =>
    simp only [if_pos trivial]
    refine Ev.bind (Check_ev tn key ex sc id) ?_
    by_cases hc : chkB tn key sc = 0
    · simp only [if_pos hc]
      obtain ⟨c1, c2, c3⟩ := chk_ok hc
      by_cases hk : key = kid
      · simp only [if_pos hk]
        refine Ev.bind (Body_ev tn key ex sc id (ten_size c1) c2 hx hi) ?_
        have hl := body_len tn key ex sc id (ten_size c1) c2 hx hi
        refine Ev.yes (by omega) (Ev.yes (all_byts (body_byts tn key ex sc id c3)) ?_)
        exact Ev.now _
      · simp only [if_neg hk]
        exact Ev.now _
    · simp only [if_neg hc]
      exact Ev.now _
theorem tokHead_size (B : List Int) : (tokHead B).size = 4 + (8 * B.length + 5) / 6 := by
  unfold tokHead
  rw [ByteArray.size_append, armor_size]
  rfl
theorem RHead_ev (tn : ByteArray) (key ex sc id : Int) (ht : tn.size ≤ 32) (hk : 1 ≤ key ∧ key ≤ 99) (hs : 1 ≤ sc ∧ sc ≤ 7) (hx : -9223372036854775808 ≤ ex ∧ ex ≤ 9223372036854775807) (hi : 0 ≤ id ∧ id < 18446744073709551616) :
    Ev (fun k => manometerref17_head.f k tn key ex sc id) (tokHead (bodyL tn key ex sc id)) := by
  have e1 : IntKind.u64.wrap (tn.size : Int) = (tn.size : Int) := u64w _ (by omega) (by omega)
  have e2 : IntKind.u64.wrap key = ((key.toNat : Nat) : Int) := by rw [u64w _ (by omega) (by omega)]; omega
  have e3 : id = ((id.toNat : Nat) : Int) := by omega
  have hl := body_len tn key ex sc id ht hk hx hi
  have hb := body_byts tn key ex sc id hs
  unfold manometerref17_head.f
  rw [e1, e2]
  refine Ev.bind (PutUvarint_ev tn.size (by omega)).2 ?_
  refine Ev.yes (by omega) ?_
  refine Ev.bind (PutUvarint_ev key.toNat (by omega)).2 (Ev.bind (PutVarint_ev ex hx.1 hx.2).2 ?_)
  have hid : Ev (fun k => manometerref01_PutUvarint.f k id) (Bq.ints (uv id.toNat)) := by
    have h := (PutUvarint_ev id.toNat (by omega)).2
    rw [← e3] at h
    exact h
  refine Ev.bind hid ?_
  have ej : [Bq.ints (uv tn.size), bytesOf tn, Bq.ints (uv key.toNat), vI ex, ([sc] : List Int), Bq.ints (uv id.toNat)].flatten = bodyL tn key ex sc id := by
    unfold bodyL
    simp
  have hj := Join_ev [Bq.ints (uv tn.size), bytesOf tn, Bq.ints (uv key.toNat), vI ex, ([sc] : List Int), Bq.ints (uv id.toNat)] (by simp) (by rw [ej]; omega)
  rw [ej] at hj
  refine Ev.bind hj (Ev.bind (RArmor_ev _ hb (by omega)) ?_)
  refine Ev.yes (by rw [armor_size]; omega) ?_
  exact Ev.now _
theorem RMint_ev (kid : Int) (sec tn : ByteArray) (key ex sc id : Int) (hn : tn.size ≤ 1000000000000) (hx : -9223372036854775808 ≤ ex ∧ ex ≤ 9223372036854775807) (hi : 0 ≤ id ∧ id < 18446744073709551616) :
    Ev (fun k => manometerref17_Mint.f k kid sec tn key ex sc id) (mintB kid sec tn key ex sc id) := by
  unfold manometerref17_Mint.f mintB
  refine Ev.bindc (Keyed_f kid sec).2 ?_
  cases hkd : keyedB kid sec with
  | false => simp only [Bool.false_eq_true, if_false]; exact Ev.now _
  | true =>
    simp only [if_pos trivial]
    refine Ev.bind (RCheck_ev tn key ex sc id hn) ?_
    by_cases hc : chkB tn key sc = 0
    · simp only [if_pos hc]
      obtain ⟨c1, c2, c3⟩ := chk_ok hc
      by_cases hk : key = kid
      · simp only [if_pos hk]
        have hl := body_len tn key ex sc id (ten_size c1) c2 hx hi
        have hz : sec.size ≤ 64 := by
          unfold keyedB at hkd
          simp only [Bool.and_eq_true, decide_eq_true_eq] at hkd
          exact hkd.2
        have hts := tokHead_size (bodyL tn key ex sc id)
        refine Ev.bind (RHead_ev tn key ex sc id (ten_size c1) c2 c3 hx hi) ?_
        refine Ev.yes (by omega) (Ev.yes (by omega) (Ev.yes (by omega) ?_))
        have hm : manometerref03_Mac.f (bytesOf sec) (bytesOf (tokHead (bodyL tn key ex sc id))) = some (tokSum sec (bodyL tn key ex sc id)) := by
          unfold manometerref03_Mac.f
          have g1 : (bytesOf sec).length ≤ 1000000 := by rw [bytesOf_length]; omega
          have g2 : (bytesOf (tokHead (bodyL tn key ex sc id))).length ≤ 1000000 := by rw [bytesOf_length]; omega
          rw [if_pos g1, if_pos g2, if_pos (all_byts (bytesOf_byts _)), if_pos (all_byts (bytesOf_byts _))]
          rfl
        have hsl : (tokSum sec (bodyL tn key ex sc id)).length = 32 := Sha.sum_length _
        refine Ev.bindc hm (Ev.bind (RArmor_ev _ (Sha.byts_sum _) (by omega)) ?_)
        refine Ev.yes (by rw [ByteArray.size_append, armor_size]; have : (⟨#[46]⟩ : ByteArray).size = 1 := rfl; omega) ?_
        exact Ev.now _
      · simp only [if_neg hk]
        exact Ev.now _
    · simp only [if_neg hc]
      exact Ev.now _
end Go.Proofs.YtkkomfomjpcbfaaDoor.Pu
end
section
namespace Go.Proofs.YtkkomfomjpcbfaaDoor.PTS
open Go.RowKit Go.Proofs.YtkkomfomjpcbfaaDoorW.PrintWords Go.Proofs.YtkkomfomjpcbfaaDoorW.PrintLast Go.Proofs.YtkkomfomjpcbfaaDoorW.PrintMore
attribute [local go_sem] max2_int min2_int max_two min_two max_three min_three max_four min_four
set_option linter.unusedVariables false
set_option linter.unusedSimpArgs false
mutual
def manometerref17_claims.j0 : Nat → List Int → Int → Int → Bool → ByteArray → Int → Int → Int → Int → Option (ByteArray × Int × Int × Int × Int × Bool)
 | 0, _, _, _, _, _, _, _, _, _ => none
 | k + 1, x0, x5, x6, x27, x334000, x334001, x334002, x334003, x334004 => if x27 = true then (some (x334000, x334001, x334002, x334003, x334004, false)) else (if 0 ≤ x6 then (if x6 ≤ (x0.length : Int) then (if 0 ≤ (wrap64 (x5)) then (if (wrap64 (x5)) ≤ ((x0.drop (x6 : Int).toNat).length : Int) then ((manometerref01_Uvarint.f k ((x0.drop (x6 : Int).toNat).drop ((wrap64 (x5)) : Int).toNat)).bind fun bt340 => (if bt340.2.2 = 0 then (manometerref17_claims.j1 k ((x0.drop (x6 : Int).toNat).drop ((wrap64 (x5)) : Int).toNat) bt340.2.1 bt340.1 (decide (bt340.1 > 99)) (strOfNums ((x0.drop (x6 : Int).toNat).take ((wrap64 (x5)) : Int).toNat)) x334001 x334002 x334003 x334004) else (manometerref17_claims.j1 k ((x0.drop (x6 : Int).toNat).drop ((wrap64 (x5)) : Int).toNat) bt340.2.1 bt340.1 true (strOfNums ((x0.drop (x6 : Int).toNat).take ((wrap64 (x5)) : Int).toNat)) x334001 x334002 x334003 x334004))) else (none)) else (none)) else (none)) else (none))
def manometerref17_claims.j1 : Nat → List Int → Int → Int → Bool → ByteArray → Int → Int → Int → Int → Option (ByteArray × Int × Int × Int × Int × Bool)
 | 0, _, _, _, _, _, _, _, _, _ => none
 | k + 1, x0, x6, x8, x53, x334000, x334001, x334002, x334003, x334004 => if x53 = true then (some (x334000, x334001, x334002, x334003, x334004, false)) else (if 0 ≤ x6 then (if x6 ≤ (x0.length : Int) then ((manometerref01_Varint.f k (x0.drop (x6 : Int).toNat)).bind fun bt344 => (if bt344.2.2 = 0 then (manometerref17_claims.j2 k (x0.drop (x6 : Int).toNat) bt344.2.1 bt344.1 (((x0.drop (x6 : Int).toNat).length : Int) == bt344.2.1) x334000 (wrap64 (x8)) x334002 x334003 x334004) else (manometerref17_claims.j2 k (x0.drop (x6 : Int).toNat) bt344.2.1 bt344.1 true x334000 (wrap64 (x8)) x334002 x334003 x334004))) else (none)) else (none))
def manometerref17_claims.j2 : Nat → List Int → Int → Int → Bool → ByteArray → Int → Int → Int → Int → Option (ByteArray × Int × Int × Int × Int × Bool)
 | 0, _, _, _, _, _, _, _, _, _ => none
 | k + 1, x0, x6, x9, x74, x334000, x334001, x334002, x334003, x334004 => if x74 = true then (some (x334000, x334001, x334002, x334003, x334004, false)) else (if 0 ≤ x6 then (if x6 < (x0.length : Int) then (if 0 ≤ (wrap64 (x6 + 1)) then (if (wrap64 (x6 + 1)) ≤ (x0.length : Int) then ((manometerref01_Uvarint.f k (x0.drop ((wrap64 (x6 + 1)) : Int).toNat)).bind fun bt349 => (if bt349.2.2 = 0 then (if bt349.2.1 = ((x0.drop ((wrap64 (x6 + 1)) : Int).toNat).length : Int) then ((manometerref17_Check.f k x334000 x334001 x9 (rd x0 x6) bt349.1).bind fun t352 => (some (x334000, x334001, x9, rd x0 x6, bt349.1, (t352 == 0)))) else (some (x334000, x334001, x9, rd x0 x6, bt349.1, false))) else (some (x334000, x334001, x9, rd x0 x6, bt349.1, false)))) else (none)) else (none)) else (none)) else (none))
end
def manometerref17_claims.f (k : Nat) (l0 : List Int) : Option (ByteArray × Int × Int × Int × Int × Bool) := (manometerref01_Uvarint.f k l0).bind fun bt334 => (if bt334.2.2 = 0 then (manometerref17_claims.j0 k l0 bt334.1 bt334.2.1 (decide (bt334.1 > (IntKind.u64.wrap (wrap64 ((l0.length : Int) - bt334.2.1))))) (⟨#[]⟩ : ByteArray) 0 0 0 0) else (manometerref17_claims.j0 k l0 bt334.1 bt334.2.1 true (⟨#[]⟩ : ByteArray) 0 0 0 0))
end Go.Proofs.YtkkomfomjpcbfaaDoor.PTS
end
section
namespace Go.Proofs.YtkkomfomjpcbfaaDoor.PTS
open Go.RowKit Go.Proofs.YtkkomfomjpcbfaaDoorW.PrintWords Go.Proofs.YtkkomfomjpcbfaaDoorW.PrintLast Go.Proofs.YtkkomfomjpcbfaaDoorW.PrintMore
attribute [local go_sem] max2_int min2_int max_two min_two max_three min_three max_four min_four
set_option linter.unusedVariables false
set_option linter.unusedSimpArgs false
mutual
def manometerref17_Read.j0 : Nat → ByteArray → ByteArray → Bool → Option (ByteArray × Int × Int × Int × Int × Int)
 | 0, _, _, _ => none
 | k + 1, x7, x8, x36 => if x36 = true then (some ((⟨#[]⟩ : ByteArray), 0, 0, 0, 0, 8)) else ((manometerref03_Unarmor.f k x7).bind fun bt360 => ((manometerref03_Unarmor.f k x8).bind fun bt364 => (if bt360.2 = 0 then (if bt364.2 = 0 then (manometerref17_Read.j1 k bt360.1 ((bt364.1.length : Int) != 32)) else (manometerref17_Read.j1 k bt360.1 true)) else (manometerref17_Read.j1 k bt360.1 true))))
def manometerref17_Read.j1 : Nat → List Int → Bool → Option (ByteArray × Int × Int × Int × Int × Int)
 | 0, _, _ => none
 | k + 1, x10, x58 => if x58 = true then (some ((⟨#[]⟩ : ByteArray), 0, 0, 0, 0, 8)) else ((manometerref17_claims.f k x10).bind fun bt368 => (if bt368.2.2.2.2.2 = true then (some (bt368.1, bt368.2.1, bt368.2.2.1, bt368.2.2.2.1, bt368.2.2.2.2.1, 0)) else (some ((⟨#[]⟩ : ByteArray), 0, 0, 0, 0, 8))))
end
def manometerref17_Read.f (k : Nat) (a0 : ByteArray) : Option (ByteArray × Int × Int × Int × Int × Int) := (manometerref17_cut.f k a0).bind fun bt354 => ((manometerref17_cut.f k bt354.2.1).bind fun bt357 => (if bt354.2.2 = true then (if bt357.2.2 = true then (manometerref17_Read.j0 k bt357.1 bt357.2.1 (bt354.1.toList != ([109, 116, 49] : List UInt8))) else (manometerref17_Read.j0 k bt357.1 bt357.2.1 true)) else (manometerref17_Read.j0 k bt357.1 bt357.2.1 true)))
def manometerref17_Signed.f (k : Nat) (a0 : ByteArray) (a1_0 : Int) (a1_1 : ByteArray) : Option (Bool) := (manometerref17_Read.f k a0).bind fun bt376 => (if bt376.2.2.2.2.2 = 0 then ((manometerref17_Mint.f k a1_0 a1_1 bt376.1 bt376.2.1 bt376.2.2.1 bt376.2.2.2.1 bt376.2.2.2.2.1).bind fun bt383 => (if bt383.2 = 0 then (some (bt383.1.toList == a0.toList)) else (some false))) else (some false))
end Go.Proofs.YtkkomfomjpcbfaaDoor.PTS
end
section
namespace Go.Proofs.YtkkomfomjpcbfaaDoor.Pu
open Go Go.RowKit Go.Lib Go.Proofs.YtkkomfomjpcbfaaDoor Go.Proofs.YtkkomfomjpcbfaaDoor.PTS Go.Proofs.YtkkomfomjpcbfaaDoorW.PrintWords Go.Proofs.YtkkomfomjpcbfaaDoorW.PrintLast Go.Proofs.YtkkomfomjpcbfaaDoorW.PrintMore Bq
set_option linter.unusedVariables false
set_option linter.unusedSimpArgs false
abbrev C5 := ByteArray × Int × Int × Int × Int
def parse4 (tn : ByteArray) (key ex sc : Int) (b : List Int) : Option C5 :=
  if (uget b).2.2 = 0 then (if (uget b).2.1 = (b.length : Int) then (if chkB tn key sc = 0 then some (tn, key, ex, sc, (uget b).1) else none) else none) else none
def parse3 (tn : ByteArray) (key : Int) (b : List Int) : Option C5 :=
  if (varG b).2.2 = 0 then (if (b.length : Int) = (varG b).2.1 then none else parse4 tn key (varG b).1 ((b.drop (varG b).2.1.toNat).getD 0 0) ((b.drop (varG b).2.1.toNat).drop 1)) else none
def parse2 (tn : ByteArray) (b : List Int) : Option C5 :=
  if (uget b).2.2 = 0 then (if (uget b).1 > 99 then none else parse3 tn (uget b).1 (b.drop (uget b).2.1.toNat)) else none
def parseB (b : List Int) : Option C5 :=
  if (uget b).2.2 = 0 then (if (uget b).1 > (b.length : Int) - (uget b).2.1 then none else parse2 (strOfNums ((b.drop (uget b).2.1.toNat).take (uget b).1.toNat)) ((b.drop (uget b).2.1.toNat).drop (uget b).1.toNat)) else none
def Told (f : Nat → Option (ByteArray × Int × Int × Int × Int × Bool)) (r : Option C5) : Prop :=
  ∃ q, Ev f q ∧ (match r with | none => q.2.2.2.2.2 = false | some c => q = (c.1, c.2.1, c.2.2.1, c.2.2.2.1, c.2.2.2.2, true))
theorem Told.no {f : Nat → Option (ByteArray × Int × Int × Int × Int × Bool)} {a : ByteArray} {b c d e : Int} (h : Ev f (a, b, c, d, e, false)) : Told f none := ⟨_, h, rfl⟩
theorem Told.step {f g : Nat → Option (ByteArray × Int × Int × Int × Int × Bool)} {r : Option C5} (h : ∀ k, g (k + 1) = f k) (hf : Told f r) : Told g r := by
  obtain ⟨q, h1, h2⟩ := hf
  exact ⟨q, Ev.step h h1, h2⟩
theorem Told.bind {α : Type} {g : Nat → Option α} {f : Nat → α → Option (ByteArray × Int × Int × Int × Int × Bool)} {a : α} {r : Option C5} (hg : Ev g a) (hf : Told (fun k => f k a) r) : Told (fun k => (g k).bind (f k)) r := by
  obtain ⟨q, h1, h2⟩ := hf
  exact ⟨q, Ev.bind hg h1, h2⟩
theorem Told.yes {c : Prop} [Decidable c] {g f : Nat → Option (ByteArray × Int × Int × Int × Int × Bool)} {r : Option C5} (hc : c) (h : Told g r) : Told (fun k => if c then g k else f k) r := by
  simp only [if_pos hc]
  exact h
theorem rd_getD (b : List Int) (n : Nat) : rd b (n : Int) = b.getD n 0 := by unfold rd; rw [Int.toNat_natCast]
theorem w64n (n : Nat) (h : n ≤ 9000000000000000000) : wrap64 (n : Int) = (n : Int) := wn rfl (by omega)
theorem Parse_j2 (b : List Int) (hb : Byts b) (hl : b.length ≤ 1000000000) (n : Nat) (hn : n < b.length) (tn : ByteArray) (key ex z1 z2 : Int) :
    Told (fun k => token_parse.j2 k b (n : Int) false tn key ex z1 z2) (parse4 tn key ex ((b.drop n).getD 0 0) ((b.drop n).drop 1)) ∧
    ∀ z3 : Int, tn.size ≤ 1000000000 → Told (fun k => manometerref17_claims.j2 k b (n : Int) ex false tn key z3 z1 z2) (parse4 tn key ex ((b.drop n).getD 0 0) ((b.drop n).drop 1)) := by
  have e1 : wrap64 ((n : Int) + 1) = ((n + 1 : Nat) : Int) := w1 n (by omega)
  have e2 : (b.drop n).getD 0 0 = b.getD n 0 := by rw [List.getD_eq_getElem?_getD, List.getElem?_drop, ← List.getD_eq_getElem?_getD]; rfl
  have e3 : (b.drop n).drop 1 = b.drop (n + 1) := by rw [List.drop_drop]
  have hd : Byts (b.drop (n + 1)) := byt_drop hb _
  have hu := Uvarint_ev (b.drop (n + 1)) hd (by rw [List.length_drop]; omega)
  rw [e2, e3]
  constructor
  · refine Told.step (f := _) (fun k => by simp only [token_parse.j2]; rfl) ?_
    simp only [Bool.false_eq_true, if_false]
    rw [e1]
    refine Told.yes (by omega) (Told.yes (by omega) (Told.yes (by omega) (Told.yes (by omega) ?_)))
    rw [Int.toNat_natCast, rd_getD]
    refine Told.bind hu.1 ?_
    unfold parse4
    by_cases h1 : (uget (b.drop (n + 1))).2.2 = 0
    · simp only [if_pos h1]
      by_cases h2 : (uget (b.drop (n + 1))).2.1 = ((b.drop (n + 1)).length : Int)
      · simp only [if_pos h2]
        refine Told.bind (Check_ev tn key ex (b.getD n 0) (uget (b.drop (n + 1))).1) ?_
        by_cases h3 : chkB tn key (b.getD n 0) = 0
        · simp only [if_pos h3, h3]
          exact ⟨_, Ev.now _, rfl⟩
        · simp only [if_neg h3]
          exact ⟨_, Ev.now _, beq_eq_false_iff_ne.mpr h3⟩
      · simp only [if_neg h2]
        exact Told.no (Ev.now _)
    · simp only [if_neg h1]
      exact Told.no (Ev.now _)
  · intro z3 hts
    refine Told.step (f := _) (fun k => by simp only [manometerref17_claims.j2]; rfl) ?_
    simp only [Bool.false_eq_true, if_false]
    rw [e1]
    refine Told.yes (by omega) (Told.yes (by omega) (Told.yes (by omega) (Told.yes (by omega) ?_)))
    rw [Int.toNat_natCast, rd_getD]
    refine Told.bind hu.2 ?_
    unfold parse4
    by_cases h1 : (uget (b.drop (n + 1))).2.2 = 0
    · simp only [if_pos h1]
      by_cases h2 : (uget (b.drop (n + 1))).2.1 = ((b.drop (n + 1)).length : Int)
      · simp only [if_pos h2]
        refine Told.bind (RCheck_ev tn key ex (b.getD n 0) (uget (b.drop (n + 1))).1 (by omega)) ?_
        by_cases h3 : chkB tn key (b.getD n 0) = 0
        · simp only [if_pos h3, h3]
          exact ⟨_, Ev.now _, rfl⟩
        · simp only [if_neg h3]
          exact ⟨_, Ev.now _, beq_eq_false_iff_ne.mpr h3⟩
      · simp only [if_neg h2]
        exact Told.no (Ev.now _)
    · simp only [if_neg h1]
      exact Told.no (Ev.now _)
theorem Parse_j1 (b : List Int) (hb : Byts b) (hl : b.length ≤ 1000000000) (n : Nat) (hn : n ≤ b.length) (tn : ByteArray) (key : Int) (hk : 0 ≤ key ∧ key ≤ 99) (z0 z1 z2 z3 z4 : Int) :
    Told (fun k => token_parse.j1 k b key (n : Int) false tn z0 z1 z2 z3) (parse3 tn key (b.drop n)) ∧
    (tn.size ≤ 1000000000 → Told (fun k => manometerref17_claims.j1 k b (n : Int) key false tn z0 z1 z2 z3) (parse3 tn key (b.drop n))) := by
  have hd : Byts (b.drop n) := byt_drop hb _
  have hdl : (b.drop n).length ≤ 1000000000 := by rw [List.length_drop]; omega
  have hu := Varint_ev (b.drop n) hd (by omega)
  have ek : wrap64 key = key := w64 (by omega) (by omega)
  constructor
  · refine Told.step (f := _) (fun k => by simp only [token_parse.j1]; rfl) ?_
    simp only [Bool.false_eq_true, if_false]
    refine Told.yes (by omega) (Told.yes (by omega) ?_)
    rw [Int.toNat_natCast]
    refine Told.bind hu.1 ?_
    unfold parse3
    rcases varG_cases (b.drop n) hd with ⟨v, m, hm, hv⟩ | ⟨e, he, hv⟩
    · rw [hv, ek]
      simp only [if_pos trivial]
      by_cases h2 : ((b.drop n).length : Int) = (m : Int)
      · have hb2 : (((b.drop n).length : Int) == (m : Int)) = true := beq_iff_eq.mpr h2
        simp only [if_pos h2, hb2]
        refine Told.step (f := _) (fun k => by simp only [token_parse.j2]; rfl) ?_
        simp only [if_true]
        exact Told.no (Ev.now _)
      · have hb2 : (((b.drop n).length : Int) == (m : Int)) = false := beq_eq_false_iff_ne.mpr h2
        simp only [if_neg h2, hb2]
        rw [Int.toNat_natCast]
        exact (Parse_j2 (b.drop n) hd hdl m (by omega) tn key v z2 z3).1
    · rw [hv]
      simp only [if_neg he]
      refine Told.step (f := _) (fun k => by simp only [token_parse.j2]; rfl) ?_
      simp only [if_true]
      exact Told.no (Ev.now _)
  · intro hts
    refine Told.step (f := _) (fun k => by simp only [manometerref17_claims.j1]; rfl) ?_
    simp only [Bool.false_eq_true, if_false]
    refine Told.yes (by omega) (Told.yes (by omega) ?_)
    rw [Int.toNat_natCast]
    refine Told.bind hu.2 ?_
    unfold parse3
    rcases varG_cases (b.drop n) hd with ⟨v, m, hm, hv⟩ | ⟨e, he, hv⟩
    · rw [hv, ek]
      simp only [if_pos trivial]
      by_cases h2 : ((b.drop n).length : Int) = (m : Int)
      · have hb2 : (((b.drop n).length : Int) == (m : Int)) = true := beq_iff_eq.mpr h2
        simp only [if_pos h2, hb2]
        refine Told.step (f := _) (fun k => by simp only [manometerref17_claims.j2]; rfl) ?_
        simp only [if_true]
        exact Told.no (Ev.now _)
      · have hb2 : (((b.drop n).length : Int) == (m : Int)) = false := beq_eq_false_iff_ne.mpr h2
        simp only [if_neg h2, hb2]
        rw [Int.toNat_natCast]
        exact (Parse_j2 (b.drop n) hd hdl m (by omega) tn key v z2 z3).2 z1 hts
    · rw [hv]
      simp only [if_neg he]
      refine Told.step (f := _) (fun k => by simp only [manometerref17_claims.j2]; rfl) ?_
      simp only [if_true]
      exact Told.no (Ev.now _)
theorem Parse_ev (b : List Int) (hb : Byts b) (hl : b.length ≤ 1000000000) : Told (fun k => token_parse.f k b) (parseB b) ∧ Told (fun k => manometerref17_claims.f k b) (parseB b) := by
  have hu := Uvarint_ev b hb (by omega)
  unfold token_parse.f manometerref17_claims.f parseB
  rcases uget_cases b hb with ⟨n, hu1, hle, _, hn⟩ | ⟨e, he, hu1⟩
  · rw [hu1] at hu ⊢
    obtain ⟨m, hm⟩ : ∃ m, m = (uv n).length := ⟨_, rfl⟩
    rw [← hm] at hu hle ⊢
    have ew : IntKind.u64.wrap (wrap64 ((b.length : Int) - (m : Int))) = (b.length : Int) - (m : Int) := by rw [w64 (by omega) (by omega), IntKind.wrap_u64]; omega
    by_cases hgt : (n : Int) > (b.length : Int) - (m : Int)
    · have h1 : Told (fun k => (bits_Uvarint.f k b).bind fun bt156 => (if bt156.2.2 = 0 then (token_parse.j0 k b bt156.1 bt156.2.1 (decide (bt156.1 > (IntKind.u64.wrap (wrap64 ((b.length : Int) - bt156.2.1))))) (⟨#[]⟩ : ByteArray) 0 0 0 0) else (token_parse.j0 k b bt156.1 bt156.2.1 true (⟨#[]⟩ : ByteArray) 0 0 0 0))) none := by
        refine Told.bind hu.1 ?_
        simp only [if_pos trivial, ew, decide_eq_true hgt]
        refine Told.step (f := _) (fun k => by simp only [token_parse.j0]; rfl) ?_
        simp only [if_true]
        exact Told.no (Ev.now _)
      have h2 : Told (fun k => (manometerref01_Uvarint.f k b).bind fun bt156 => (if bt156.2.2 = 0 then (manometerref17_claims.j0 k b bt156.1 bt156.2.1 (decide (bt156.1 > (IntKind.u64.wrap (wrap64 ((b.length : Int) - bt156.2.1))))) (⟨#[]⟩ : ByteArray) 0 0 0 0) else (manometerref17_claims.j0 k b bt156.1 bt156.2.1 true (⟨#[]⟩ : ByteArray) 0 0 0 0))) none := by
        refine Told.bind hu.2 ?_
        simp only [if_pos trivial, ew, decide_eq_true hgt]
        refine Told.step (f := _) (fun k => by simp only [manometerref17_claims.j0]; rfl) ?_
        simp only [if_true]
        exact Told.no (Ev.now _)
      simp only [if_pos trivial, if_pos hgt]
      exact ⟨h1, h2⟩
    · have hnm : m + n ≤ b.length := by omega
      have en : wrap64 (n : Int) = (n : Int) := w64n n (by omega)
      have em : wrap64 ((m : Int) + (n : Int)) = ((m + n : Nat) : Int) := wn (by omega) (by omega)
      have ed : (b.drop m).drop n = b.drop (m + n) := by rw [List.drop_drop]
      have et : (b.take (m + n)).drop m = (b.drop m).take n := by rw [List.drop_take]; congr 1; omega
      have hts : (strOfNums ((b.drop m).take n)).size ≤ 1000000000 := by rw [strOfNums_size, List.length_take, List.length_drop]; omega
      have hd2 : Byts (b.drop (m + n)) := byt_drop hb _
      have hdl : (b.drop (m + n)).length ≤ 1000000000 := by rw [List.length_drop]; omega
      have hu2 := Uvarint_ev (b.drop (m + n)) hd2 (by omega)
      simp only [if_pos trivial, if_neg hgt, Int.toNat_natCast, ed]
      unfold parse2
      constructor
      · refine Told.bind hu.1 ?_
        simp only [if_pos trivial, ew, decide_eq_false hgt]
        refine Told.step (f := _) (fun k => by simp only [token_parse.j0]; rfl) ?_
        simp only [Bool.false_eq_true, if_false]
        rw [en, em]
        refine Told.yes (by omega) (Told.yes (by omega) (Told.yes (by omega) (Told.yes (by omega) ?_)))
        rw [Int.toNat_natCast, Int.toNat_natCast, et]
        refine Told.bind hu2.1 ?_
        rcases uget_cases (b.drop (m + n)) hd2 with ⟨n2, hq, hle2, _, hn2⟩ | ⟨e, he, hq⟩
        · rw [hq]
          simp only [if_pos trivial]
          by_cases h99 : (n2 : Int) > 99
          · simp only [if_pos h99, decide_eq_true h99]
            refine Told.step (f := _) (fun k => by simp only [token_parse.j1]; rfl) ?_
            simp only [if_true]
            exact Told.no (Ev.now _)
          · simp only [if_neg h99, decide_eq_false h99]
            rw [Int.toNat_natCast]
            exact (Parse_j1 (b.drop (m + n)) hd2 hdl (uv n2).length hle2 _ (n2 : Int) (by omega) 0 0 0 0 0).1
        · rw [hq]
          simp only [if_neg he]
          refine Told.step (f := _) (fun k => by simp only [token_parse.j1]; rfl) ?_
          simp only [if_true]
          exact Told.no (Ev.now _)
      · refine Told.bind hu.2 ?_
        simp only [if_pos trivial, ew, decide_eq_false hgt]
        refine Told.step (f := _) (fun k => by simp only [manometerref17_claims.j0]; rfl) ?_
        simp only [Bool.false_eq_true, if_false]
        rw [en]
        refine Told.yes (by omega) (Told.yes (by omega) (Told.yes (by omega) (Told.yes (by rw [Int.toNat_natCast, List.length_drop]; omega) ?_)))
        rw [Int.toNat_natCast, Int.toNat_natCast, ed]
        refine Told.bind hu2.2 ?_
        rcases uget_cases (b.drop (m + n)) hd2 with ⟨n2, hq, hle2, _, hn2⟩ | ⟨e, he, hq⟩
        · rw [hq]
          simp only [if_pos trivial]
          by_cases h99 : (n2 : Int) > 99
          · simp only [if_pos h99, decide_eq_true h99]
            refine Told.step (f := _) (fun k => by simp only [manometerref17_claims.j1]; rfl) ?_
            simp only [if_true]
            exact Told.no (Ev.now _)
          · simp only [if_neg h99, decide_eq_false h99]
            rw [Int.toNat_natCast]
            exact (Parse_j1 (b.drop (m + n)) hd2 hdl (uv n2).length hle2 _ (n2 : Int) (by omega) 0 0 0 0 0).2 hts
        · rw [hq]
          simp only [if_neg he]
          refine Told.step (f := _) (fun k => by simp only [manometerref17_claims.j1]; rfl) ?_
          simp only [if_true]
          exact Told.no (Ev.now _)
  · rw [hu1] at hu ⊢
    simp only [if_neg he]
    constructor
    · refine Told.bind hu.1 ?_
      simp only [if_neg he]
      refine Told.step (f := _) (fun k => by simp only [token_parse.j0]; rfl) ?_
      simp only [if_true]
      exact Told.no (Ev.now _)
    · refine Told.bind hu.2 ?_
      simp only [if_neg he]
      refine Told.step (f := _) (fun k => by simp only [manometerref17_claims.j0]; rfl) ?_
      simp only [if_true]
      exact Told.no (Ev.now _)
end Go.Proofs.YtkkomfomjpcbfaaDoor.Pu
end
section
namespace Go.Proofs.YtkkomfomjpcbfaaDoor.Pu
open Go Go.RowKit Go.Lib Go.Proofs.YtkkomfomjpcbfaaDoor Go.Proofs.YtkkomfomjpcbfaaDoor.PTS Go.Proofs.YtkkomfomjpcbfaaDoorW.PrintWords Go.Proofs.YtkkomfomjpcbfaaDoorW.PrintLast Go.Proofs.YtkkomfomjpcbfaaDoorW.PrintMore Bq
set_option linter.unusedVariables false
set_option linter.unusedSimpArgs false
def firstD : Str → Option Nat
  | [] => none
  | c :: l => if c.toNat = 46 then some 0 else (firstD l).map (· + 1)
theorem ptL_cons (c : UInt8) (l : Str) (i : Nat) (p : Int) : ptL (c :: l) i p = if c.toNat = 46 then (if 0 ≤ p then none else ptL l (i + 1) (i : Int)) else ptL l (i + 1) p := rfl
theorem ptL_none : ∀ (l : Str) (i : Nat) (q : Int), firstD l = none → ptL l i q = some q
  | [], i, q, h => rfl
  | c :: l, i, q, h => by
    unfold firstD at h
    split at h
    · cases h
    · rename_i hc
      unfold ptL
      rw [if_neg hc]
      exact ptL_none l (i + 1) q (by simpa using h)
theorem ptL_first : ∀ (l : Str) (i j : Nat) (q : Int), q < 0 → firstD l = some j → ptL l i q = ptL (l.drop (j + 1)) (i + j + 1) ((i + j : Nat) : Int)
  | [], i, j, q, hq, h => by cases h
  | c :: l, i, j, q, hq, h => by
    unfold firstD at h
    split at h
    · rename_i hc
      injection h with h
      subst h
      rw [ptL_cons, if_pos hc, if_neg (by omega)]
      rfl
    · rename_i hc
      obtain ⟨m, hm, rfl⟩ := Option.map_eq_some_iff.1 h
      rw [ptL_cons, if_neg hc, ptL_first l (i + 1) m q hq hm, List.drop_succ_cons, show i + 1 + m + 1 = i + (m + 1) + 1 by omega, show i + 1 + m = i + (m + 1) by omega]
theorem ptL_second : ∀ (l : Str) (i : Nat) (q : Int), 0 ≤ q → ptL l i q = if firstD l = none then some q else none
  | [], i, q, hq => rfl
  | c :: l, i, q, hq => by
    unfold ptL
    by_cases hc : c.toNat = 46
    · rw [if_pos hc, if_pos hq]
      have : firstD (c :: l) = some 0 := by unfold firstD; rw [if_pos hc]
      rw [this]
      rfl
    · rw [if_neg hc, ptL_second l (i + 1) q hq]
      have : firstD (c :: l) = (firstD l).map (· + 1) := by conv => lhs; unfold firstD; rw [if_neg hc]
      rw [this]
      cases firstD l <;> rfl
theorem ptL_all (l : Str) : ptL l 0 (-1) = match firstD l with | none => some (-1) | some j => if firstD (l.drop (j + 1)) = none then some (j : Int) else none := by
  cases h : firstD l with
  | none => exact ptL_none l 0 (-1) h
  | some j =>
    rw [ptL_first l 0 j (-1) (by decide) h, ptL_second _ _ _ (by omega), Nat.zero_add]
theorem first_mem : ∀ (l : Str) (j : Nat), firstD l = some j → j < l.length ∧ (l.getD j 0).toNat = 46
  | [], j, h => by cases h
  | c :: l, j, h => by
    unfold firstD at h
    split at h
    · rename_i hc
      injection h with h
      subst h
      exact ⟨by simp, by simpa using hc⟩
    · obtain ⟨m, hm, rfl⟩ := Option.map_eq_some_iff.1 h
      obtain ⟨h1, h2⟩ := first_mem l m hm
      exact ⟨by simp; omega, by simpa using h2⟩
theorem un_dot {l : Str} {j : Nat} (h : firstD l = some j) : (unL l 0 0 []).2 = 8 := by
  obtain ⟨h1, h2⟩ := first_mem l j h
  rw [unL_bad l 0 0 [] ⟨l.getD j 0, by rw [List.getD_eq_getElem?_getD, List.getElem?_eq_getElem h1]; exact List.getElem_mem h1, by rw [h2]; rfl⟩]
def goodP (m la : Str) : Bool := decide ((unL m 0 0 []).2 = 0) && (decide ((unL la 0 0 []).2 = 0) && decide ((unL la 0 0 []).1.length = 32))
def readR (rest : Str) : Option C5 := match firstD rest with
  | none => none
  | some j => if goodP (rest.take j) (rest.drop (j + 1)) = true then parseB (unL (rest.take j) 0 0 []).1 else none
def readB (s : ByteArray) : Option C5 := if (B s).take 4 = [109, 116, 49, 46] then readR ((B s).drop 4) else none
def outR : Option C5 → Clm
  | none => tokBad
  | some c => (c.1, c.2.1, c.2.2.1, c.2.2.2.1, c.2.2.2.2, 0)
theorem Told.out {f : Nat → Option (ByteArray × Int × Int × Int × Int × Bool)} {r : Option C5} (h : Told f r) :
    Ev (fun k => (f k).bind fun c => if c.2.2.2.2.2 = true then some (c.1, c.2.1, c.2.2.1, c.2.2.2.1, c.2.2.2.2.1, (0 : Int)) else some tokBad) (outR r) := by
  obtain ⟨q, h1, h2⟩ := h
  refine Ev.bind h1 ?_
  cases r with
  | none =>
    simp only at h2
    rw [h2]
    simp only [Bool.false_eq_true, if_false]
    exact Ev.now _
  | some c =>
    simp only at h2
    rw [h2]
    simp only [if_pos trivial]
    exact Ev.now _
theorem unL_byt0 (l : Str) : Byts (unL l 0 0 []).1 := unL_byts l 0 0 [] (fun x hx => by cases hx)
theorem unL_leng : ∀ (l : Str) (X n : Nat) (out : List Int), (unL l X n out).1.length ≤ out.length + l.length
  | [], X, n, out => by unfold unL; split <;> simp
  | c :: l, X, n, out => by
    unfold unL
    cases sixV (c.toNat : Int) with
    | none => simp
    | some v =>
      simp only
      split
      · refine Nat.le_trans (unL_leng l _ _ _) ?_
        simp only [List.length_append, List.length_cons, List.length_nil]
        omega
      · refine Nat.le_trans (unL_leng l _ _ _) ?_
        simp only [List.length_cons]
        omega
theorem tokRest_ev (rest : ByteArray) (hs : rest.size ≤ 100000) (j : Nat) (hj : firstD (B rest) = some j) : Ev (fun k => tokRest k rest j) (outR (readR (B rest))) := by
  have e1 : (rest.extract 0 j).data.toList = (B rest).take j := by show B _ = _; rw [B_extract, List.drop_zero]
  have e2 : (rest.extract (j + 1) rest.size).data.toList = (B rest).drop (j + 1) := by show B _ = _; rw [B_extract, ← B_length, List.take_length]
  unfold tokRest
  rw [e1, e2]
  unfold readR
  rw [hj]
  simp only
  by_cases hg : goodP ((B rest).take j) ((B rest).drop (j + 1)) = true
  · have hg2 := hg
    unfold goodP at hg2
    simp only [Bool.and_eq_true, decide_eq_true_eq] at hg2
    simp only [if_pos hg, if_pos (show _ ∧ _ ∧ _ from hg2)]
    have hl := unL_leng ((B rest).take j) 0 0 []
    have hll : ((B rest).take j).length ≤ 100000 := by rw [List.length_take, B_length]; omega
    simp only [List.length_nil] at hl
    exact (Parse_ev _ (unL_byt0 _) (by omega)).1.out
  · have hg2 : ¬ ((unL ((B rest).take j) 0 0 []).2 = 0 ∧ (unL ((B rest).drop (j + 1)) 0 0 []).2 = 0 ∧ (unL ((B rest).drop (j + 1)) 0 0 []).1.length = 32) := by
      intro h
      apply hg
      unfold goodP
      simp only [Bool.and_eq_true, decide_eq_true_eq]
      exact h
    simp only [if_neg hg, if_neg hg2]
    exact Ev.now _
theorem readR_dots {l : Str} {j : Nat} (h : firstD l = some j) (h2 : firstD (l.drop (j + 1)) ≠ none) : readR l = none := by
  unfold readR
  rw [h]
  simp only
  obtain ⟨m, hm⟩ := Option.ne_none_iff_exists'.1 h2
  rw [if_neg]
  unfold goodP
  rw [un_dot hm]
  simp
theorem Read_ev (s : ByteArray) (hs : s.size ≤ 100000) : Ev (fun k => token_Read.f k s) (outR (readB s)) := by
  show Ev (fun k => tokRead k s) _
  unfold tokRead
  refine Ev.yes (by omega) ?_
  have e4 : (s.extract 0 4).toList = (B s).take 4 := by rw [toList_B, B_extract, List.drop_zero]
  have er : B (s.extract 4 s.size) = (B s).drop 4 := by rw [B_extract, ← B_length, List.take_length]
  rw [e4]
  by_cases h4 : s.size < 4
  · have hne : ¬ (B s).take 4 = [109, 116, 49, 46] := by
      intro h
      have := congrArg List.length h
      rw [List.length_take, B_length] at this
      simp at this
      omega
    simp only [if_pos h4]
    unfold readB
    rw [if_neg hne]
    exact Ev.now _
  · simp only [if_neg h4]
    unfold readB
    by_cases hm : (B s).take 4 = [109, 116, 49, 46]
    · have hm2 : ((B s).take 4 == [109, 116, 49, 46]) = true := beq_iff_eq.mpr hm
      simp only [if_pos hm, if_pos hm2]
      rw [← er]
      show Ev (fun k => tokPoint k (s.extract 4 s.size) (ptL (B (s.extract 4 s.size)) 0 (-1))) _
      rw [ptL_all]
      cases hf : firstD (B (s.extract 4 s.size)) with
      | none =>
        simp only
        unfold readR
        rw [hf]
        exact Ev.now _
      | some j =>
        simp only
        by_cases h2 : firstD ((B (s.extract 4 s.size)).drop (j + 1)) = none
        · rw [if_pos h2]
          unfold tokPoint
          simp only [if_neg (show ¬ ((j : Int) < 0) by omega), Int.toNat_natCast]
          exact tokRest_ev _ (by rw [ByteArray.size_extract]; omega) j hf
        · rw [if_neg h2, readR_dots hf h2]
          exact Ev.now _
    · have hm2 : ¬ ((B s).take 4 == [109, 116, 49, 46]) = true := fun h => hm (beq_iff_eq.mp h)
      simp only [if_neg hm, if_neg hm2]
      exact Ev.now _
theorem cut_l0 (s : ByteArray) (hs : s.size ≤ 1000000000) : ∀ (d n : Nat), n + d = s.size → Ev (fun k => manometerref17_cut.l0 k s (s.size : Int) (n : Int)) (match firstD ((B s).drop n) with | none => ((⟨#[]⟩ : ByteArray), (⟨#[]⟩ : ByteArray), false) | some j => (s.extract 0 (n + j), s.extract (n + j + 1) s.size, true)) := by
  intro d
  induction d with
  | zero =>
    intro n hn
    refine Ev.step (f := _) (fun k => by simp only [manometerref17_cut.l0]; rfl) ?_
    simp only [if_neg (show ¬ ((n : Int) < (s.size : Int)) by omega)]
    rw [List.drop_of_length_le (by rw [B_length]; omega)]
    exact Ev.now _
  | succ d ih =>
    intro n hn
    have hlt : n < (B s).length := by rw [B_length]; omega
    have e1 : wrap64 ((n : Int) + 1) = ((n + 1 : Nat) : Int) := w1 n (by omega)
    refine Ev.step (f := _) (fun k => by simp only [manometerref17_cut.l0]; rfl) ?_
    simp only [if_pos (show (n : Int) < (s.size : Int) by omega), if_pos (show (0 : Int) ≤ (n : Int) by omega), bt_B, e1]
    rw [drop_cons (B s) n hlt]
    unfold firstD
    by_cases hc : ((B s).getD n 0).toNat = 46
    · have hci : (((B s).getD n 0).toNat : Int) = 46 := by omega
      simp only [if_pos hc, if_pos hci, if_pos (show (n : Int) ≤ (s.size : Int) by omega), if_pos (show (0 : Int) ≤ ((n + 1 : Nat) : Int) by omega), if_pos (show ((n + 1 : Nat) : Int) ≤ (s.size : Int) by omega), Int.toNat_natCast]
      exact Ev.now _
    · have hci : ¬ (((B s).getD n 0).toNat : Int) = 46 := by omega
      simp only [if_neg hc, if_neg hci]
      have h := ih (n + 1) (by omega)
      cases hf : firstD ((B s).drop (n + 1)) with
      | none =>
        rw [hf] at h
        exact h
      | some j =>
        rw [hf] at h
        simp only [Option.map_some]
        simp only at h
        rw [show n + 1 + j = n + (j + 1) by omega] at h
        exact h
def cutR (s : ByteArray) : ByteArray × ByteArray × Bool := match firstD (B s) with | none => ((⟨#[]⟩ : ByteArray), (⟨#[]⟩ : ByteArray), false) | some j => (s.extract 0 j, s.extract (j + 1) s.size, true)
theorem Cut_ev (s : ByteArray) (hs : s.size ≤ 1000000000) : Ev (fun k => manometerref17_cut.f k s) (cutR s) := by
  unfold manometerref17_cut.f cutR
  have h := cut_l0 s hs s.size 0 (by omega)
  simpa using h
theorem bad_j1 (b : List Int) : Ev (fun k => manometerref17_Read.j1 k b true) tokBad := by
  refine Ev.step (f := _) (fun k => by simp only [manometerref17_Read.j1]; rfl) ?_
  simp only [if_true]
  exact Ev.now _
theorem bad_j0 (m la : ByteArray) : Ev (fun k => manometerref17_Read.j0 k m la true) tokBad := by
  refine Ev.step (f := _) (fun k => by simp only [manometerref17_Read.j0]; rfl) ?_
  simp only [if_true]
  exact Ev.now _
theorem good_j0 (m la : ByteArray) (h1 : m.size ≤ 100000) (h2 : la.size ≤ 100000) :
    Ev (fun k => manometerref17_Read.j0 k m la false) (outR (if goodP (B m) (B la) = true then parseB (unL (B m) 0 0 []).1 else none)) := by
  refine Ev.step (f := _) (fun k => by simp only [manometerref17_Read.j0]; rfl) ?_
  simp only [Bool.false_eq_true, if_false]
  refine Ev.bind (RUnarmor_ev m h1) (Ev.bind (RUnarmor_ev la h2) ?_)
  unfold goodP
  by_cases g1 : (unL (B m) 0 0 []).2 = 0
  · by_cases g2 : (unL (B la) 0 0 []).2 = 0
    · simp only [if_pos g1, if_pos g2, decide_eq_true g1, decide_eq_true g2, Bool.true_and]
      by_cases g3 : (unL (B la) 0 0 []).1.length = 32
      · have g3b : (((unL (B la) 0 0 []).1.length : Int) != 32) = false := by rw [g3]; rfl
        simp only [g3b, decide_eq_true g3, if_pos trivial]
        refine Ev.step (f := _) (fun k => by simp only [manometerref17_Read.j1]; rfl) ?_
        simp only [Bool.false_eq_true, if_false]
        have hl := unL_leng (B m) 0 0 []
        rw [B_length] at hl
        simp only [List.length_nil] at hl
        exact (Parse_ev _ (unL_byt0 _) (by omega)).2.out
      · have g3b : (((unL (B la) 0 0 []).1.length : Int) != 32) = true := bne_iff_ne.mpr (by omega)
        simp only [g3b, decide_eq_false g3, Bool.false_eq_true, if_false]
        exact bad_j1 _
    · simp only [if_pos g1, if_neg g2, decide_eq_true g1, decide_eq_false g2, Bool.false_and, Bool.and_false, Bool.false_eq_true, if_false]
      exact bad_j1 _
  · simp only [if_neg g1, decide_eq_false g1, Bool.false_and, Bool.false_eq_true, if_false]
    exact bad_j1 _
theorem RRead_ev (s : ByteArray) (hs : s.size ≤ 100000) : Ev (fun k => manometerref17_Read.f k s) (outR (readB s)) := by
  unfold manometerref17_Read.f
  refine Ev.bind (Cut_ev s (by omega)) ?_
  unfold cutR
  cases hf : firstD (B s) with
  | none =>
    have hne : ¬ (B s).take 4 = [109, 116, 49, 46] := by
      intro h
      rw [← List.take_append_drop 4 (B s), h] at hf
      simp [firstD] at hf
    simp only
    refine Ev.bind (Cut_ev _ (by decide)) ?_
    simp only [Bool.false_eq_true, if_false]
    unfold readB
    rw [if_neg hne]
    exact bad_j0 _ _
  | some j =>
    simp only
    have hj := first_mem _ _ hf
    rw [B_length] at hj
    have hrs : (s.extract (j + 1) s.size).size ≤ 100000 := by rw [ByteArray.size_extract]; omega
    refine Ev.bind (Cut_ev _ (by omega)) ?_
    simp only [if_pos trivial]
    have e1 : (s.extract 0 j).toList = (B s).take j := by rw [toList_B, B_extract, List.drop_zero]
    have er : B (s.extract (j + 1) s.size) = (B s).drop (j + 1) := by rw [B_extract, ← B_length, List.take_length]
    by_cases hm : (B s).take 4 = [109, 116, 49, 46]
    · have h3 : j = 3 := by
        have h := hf
        rw [← List.take_append_drop 4 (B s), hm] at h
        simp [firstD] at h
        exact h.symm
      subst h3
      have et : (B s).take 3 = [109, 116, 49] := by
        have h := congrArg (List.take 3) hm
        rw [List.take_take] at h
        exact h
      have hb : ((s.extract 0 3).toList != ([109, 116, 49] : List UInt8)) = false := by rw [e1, et]; rfl
      unfold readB readR
      rw [if_pos hm, ← er]
      unfold cutR
      cases hg : firstD (B (s.extract (3 + 1) s.size)) with
      | none =>
        simp only [Bool.false_eq_true, if_false]
        exact bad_j0 _ _
      | some i =>
        simp only [if_pos trivial, hb]
        have q1 : ∀ R : ByteArray, (B R).take i = B (R.extract 0 i) := fun R => by rw [B_extract, List.drop_zero]
        have q2 : ∀ R : ByteArray, (B R).drop (i + 1) = B (R.extract (i + 1) R.size) := fun R => by rw [B_extract, ← B_length, List.take_length]
        rw [q1, q2]
        exact good_j0 _ _ (by rw [ByteArray.size_extract]; omega) (by rw [ByteArray.size_extract]; omega)
    · have hb : ((s.extract 0 j).toList != ([109, 116, 49] : List UInt8)) = true := by
        refine bne_iff_ne.mpr (fun h => hm ?_)
        rw [e1] at h
        have hl := congrArg List.length h
        rw [List.length_take, B_length] at hl
        have h3 : j = 3 := by simp at hl; omega
        subst h3
        rw [List.take_succ_eq_append_getElem (by rw [B_length]; omega), h]
        have h46 : (B s)[3]'(by rw [B_length]; omega) = 46 := by
          have h := hj.2
          rw [List.getD_eq_getElem?_getD, List.getElem?_eq_getElem (by rw [B_length]; omega), Option.getD_some] at h
          exact UInt8.toNat_inj.1 h
        rw [h46]
        rfl
      unfold readB
      rw [if_neg hm, hb]
      split
      · exact bad_j0 _ _
      · exact bad_j0 _ _
end Go.Proofs.YtkkomfomjpcbfaaDoor.Pu
end
section
namespace Go.Proofs.YtkkomfomjpcbfaaDoor.Pu
open Go Go.Proofs.YtkkomfomjpcbfaaDoor Go.Proofs.YtkkomfomjpcbfaaDoor.PTS
theorem live_60 : manometerlaw17_live.f 60 = some true := by kernel_rfl
end Go.Proofs.YtkkomfomjpcbfaaDoor.Pu
end
section
namespace Go.Proofs.YtkkomfomjpcbfaaDoor.PTS
open Go.RowKit Go.Proofs.YtkkomfomjpcbfaaDoorW.PrintWords Go.Proofs.YtkkomfomjpcbfaaDoorW.PrintLast Go.Proofs.YtkkomfomjpcbfaaDoorW.PrintMore
attribute [local go_sem] max2_int min2_int max_two min_two max_three min_three max_four min_four
set_option linter.unusedVariables false
set_option linter.unusedSimpArgs false
attribute [local go_sem high] eqA26
def manometerlaw17_few.l0 : Nat → List (S43) → List (S43) → Int → Int → Option (Bool)
 | 0, _, _, _, _ => none
 | k + 1, x0, x9, x10, x11 => if x11 < x10 then (if 0 ≤ x11 then (if x11 < (x9.length : Int) then (if (((rd_T43 x9 x11).f1.f1).size : Int) > 300 then (some false) else (if (((rd_T43 x9 x11).f0).size : Int) > 300 then (some false) else (manometerlaw17_few.l0 k x0 x9 x10 (wrap64 (x11 + 1))))) else (none)) else (none)) else (some (decide ((x0.length : Int) ≤ 20)))
def manometerlaw17_few.f (k : Nat) (l0 : List (S43)) : Option (Bool) := if 0 ≤ (mn (l0.length : Int) 20) then (if (mn (l0.length : Int) 20) ≤ (l0.length : Int) then ((some (l0.take ((mn (l0.length : Int) 20) : Int).toNat : List (S43))).bind fun y404 => (manometerlaw17_few.l0 k l0 y404 (y404.length : Int) 0)) else (none)) else (none)
set_option maxHeartbeats 8000000 in
set_option maxRecDepth 100000 in
theorem manometerlaw17_few.calls (k : Nat) (A0 : Option Addr) (c0 : Nat) (l0 : List (S43)) (r : Bool) (w : World) (hr0 : Kd.C k43 w A0 l0.length l0) (hc0 : l0.length ≤ c0) (h : manometerlaw17_few.f k l0 = some r) :
  Calls Tryd.prog 22 #[.slice A0 l0.length c0] w fun e w' => e = .returned (.bool r) ∧ Below w.heap.size w w' := by
 have hu43 := Tryd.underlying43
 have HR0 := Aside0.mk hr0
 have HC0 := Aside0.mk hc0
 clear hr0 hc0
 have HB := Aside0.mk (Below.refl w.heap.size w)
 have H : (if 0 ≤ (mn (l0.length : Int) 20) then (if (mn (l0.length : Int) 20) ≤ (l0.length : Int) then ((some (l0.take ((mn (l0.length : Int) 20) : Int).toNat : List (S43))).bind fun y404 => (manometerlaw17_few.l0 k l0 y404 (y404.length : Int) 0)) else (none)) else (none)) = some r := h
 clear h
 obtain ⟨ji2, hji2⟩ : ∃ j_ : Int, (mn (l0.length : Int) 20) = j_ := ⟨_, rfl⟩
 replace H : (if 0 ≤ (ji2) then (if (ji2) ≤ (l0.length : Int) then ((some (l0.take ((ji2) : Int).toNat : List (S43))).bind fun y404 => (manometerlaw17_few.l0 k l0 y404 (y404.length : Int) 0)) else (none)) else (none)) = some r := by first | (rw [hji2] at H; exact H) | (simp only [hji2] at H ⊢; exact H)
 (try (have hji2h : ji2 ≤ 20 := by (rw [← hji2]; unfold mn; (repeat' split) <;> omega)))
 (try (have hji2g : ji2 ≤ 64 := by omega))
 (try (have hji2l : 0 ≤ ji2 := by (rw [← hji2]; unfold mn; (repeat' split) <;> omega)))
 (try (have hji2m : 0 ≤ ji2 := by omega))
 have hji2_ : (if 20 < (l0.length : Int) then 20 else (l0.length : Int)) = ji2 := hji2
 by_cases c3 : 0 ≤ (ji2)
 ·rw [if_pos c3] at H
  have c3b0 := eq_true c3
  have c3b1 : decide (0 ≤ (ji2)) = true := decide_eq_true c3
  clear c3
  by_cases c4 : (ji2) ≤ (l0.length : Int)
  ·rw [if_pos c4] at H
   have c4b0 := eq_true c4
   have c4b1 : decide ((ji2) ≤ (l0.length : Int)) = true := decide_eq_true c4
   clear c4
   obtain ⟨y404, hy404⟩ : ∃ y_ : List (S43), y_ = (l0.take ((ji2) : Int).toNat) := ⟨_, rfl⟩
   replace H : (manometerlaw17_few.l0 k l0 y404 (y404.length : Int) 0) = some r := by first | (rw [hy404]; with_reducible exact H) | (have H2_ := (Option.bind_some _ _).symm.trans H; rw [hy404]; with_reducible exact H2_) | (have H2_ := (Option.bind_some _ _).symm.trans H; with_reducible exact H2_) | with_reducible exact H | (rw [hy404]; exact H) | exact H
   have Ny404 := Aside0.mk hy404
   clear hy404
   have H' := Aside0.mk H
   clear H
   have q5 : ((ji2) : Int) ≤ ((l0.length : Int) : Int) := of_decide_eq_true y13_
   obtain ⟨i05, hi05, _, hsz5, _⟩ := info_parts info43
   have hroom5 : l0.length ≤ c0 := HC0.out
   have hC5 : Kd.C k43 _ A0 l0.length l0 := HR0.out
   have hcut5 := cut_to (P := Tryd.prog) 38 43 .i64 Tryd.underlying38 hi05 A0 l0.length c0 (ji2) (of_decide_eq_true y13_) q5 hroom5
   have hr5 := Kd.C_take (m := ((ji2) : Int).toNat) hC5 (by omega)
   have hy5 : y404.length = ((ji2) : Int).toNat := (by rw [Ny404.out, List.length_take]; omega)
   rw [← Ny404.out] at hr5
   rw [← hy5] at hcut5
   have HR407 := Aside0.mk hr5
   have HC407 := Aside0.mk (show y404.length ≤ c0 from by omega)
   clear hr5 hC5 hroom5 hi05 hsz5
   have KY5 := Aside0.mk hy5
   clear hy5
   replace q5 := eq_true q5
   go_enter Tryd.func22, Tryd.ntmps22
   go_wp2
   go_loopg [11] k (fun kq v11 w' => ∃ (x11_1 : Int), v11 = .int .i64 x11_1 ∧ Aside0 (manometerlaw17_few.l0 kq l0 y404 (y404.length : Int) x11_1 = some r) ∧ Aside0 (kq ≤ k) ∧ Aside0 (Below w.heap.size w w'))
   case atStart => exact ⟨(0), y3_, H', ⟨Nat.le_refl _⟩, ⟨y1_⟩⟩
   case round =>
    clear H'
    try clear c2
    try clear p2
    try clear c3
    try clear c3b0
    try clear c3b1
    try clear c4
    try clear c4b0
    try clear c4b1
    try clear q5
    try clear q5
    obtain ⟨x11_1, rfl, HA, HK1, HB⟩ := hrel
    cases gk with
    | zero => exact absurd HA.out (by simp [manometerlaw17_few.l0])
    | succ k1 =>
     have H := HA.out
     clear HA
     simp only [manometerlaw17_few.l0] at H
     by_cases c6 : x11_1 < (y404.length : Int)
     ·rw [if_pos c6] at H
      have c6b0 : decide (x11_1 < (y404.length : Int)) = true := decide_eq_true c6
      clear c6
      by_cases c7 : 0 ≤ x11_1
      ·rw [if_pos c7] at H
       have c7b0 : decide (0 ≤ x11_1) = true := decide_eq_true c7
       clear c7
       by_cases c8 : x11_1 < (y404.length : Int)
       ·rw [if_pos c8] at H
        have c8b0 : decide (x11_1 < (y404.length : Int)) = true := decide_eq_true c8
        clear c8
        by_cases c9 : (((rd_T43 y404 x11_1).f1.f1).size : Int) > 300
        ·rw [if_pos c9] at H
         have c9b0 : decide (300 < (((rd_T43 y404 x11_1).f1.f1).size : Int)) = true := decide_eq_true c9
         have c9b1 : decide (300 < ((rd_T43 y404 x11_1).f1.f1).size) = true := decide_eq_true (by omega)
         clear c9
         obtain rfl := Option.some.inj H
         have p408 : 0 ≤ (x11_1 : Int) := of_decide_eq_true y13_
         have q408 : x11_1 < (y404.length : Int) := of_decide_eq_true y13_
         obtain ⟨ad408, e408, hx408_0, hx408_1, hx408_2⟩ := at_T43 HR407.out x11_1 p408 q408
         cases e408
         replace hx408_0 := (HB.out.cell (World.block_lt_of_cell? w _ hx408_0)).trans hx408_0
         replace hx408_1 := (HB.out.cell (World.block_lt_of_cell? w _ hx408_1)).trans hx408_1
         replace hx408_2 := (HB.out.cell (World.block_lt_of_cell? w _ hx408_2)).trans hx408_2
         replace p408 := eq_true p408
         replace q408 := eq_true q408
         go_wp2_with (first | ((with_reducible refine gate_dst (N := 4) rfl ?_); (try (refine gate_guard (by rfl) ?_; dsimp only)); refine box_event ?hg (N := 4) ?hd (cs := #[.string (⟨#[]⟩ : ByteArray), .int .i64 0, .string (⟨#[]⟩ : ByteArray)]) (t := 43) ?hr ?_; (case hd => rfl); (case hg => rfl); (case hr => first | (go_simp; done) | (go_simp; rfl)); intro gb409 hg w10 hbox hb; have n0_ := Aside0.mk (below_step y1_ hb); have n1_ := Aside0.mk (hbox); have n2_ := Aside0.mk ((y42_ : w.heap.size ≤ gb409)); have n3_ := Aside0.mk ((y42_ : w.heap.size ≤ gb409)); clear HB; have HB := n0_; have BK409 := n1_; have GW409 := n2_; have GE409 := n3_; clear n0_ n1_ n2_ n3_; clear hb hbox hg; have hcz11_0 : w10.cell? ⟨gb409, 0, none⟩ = some (.string (⟨#[]⟩ : ByteArray)) := (blk_cell BK409.out 0).trans rfl; have hcz11_1 : w10.cell? ⟨gb409, 1, none⟩ = some (.int .i64 0) := (blk_cell BK409.out 1).trans rfl; have hcz11_2 : w10.cell? ⟨gb409, 2, none⟩ = some (.string (⟨#[]⟩ : ByteArray)) := (blk_cell BK409.out 2).trans rfl; have hfz11_0 := blk_frozen BK409.out 0; have hfz11_1 := blk_frozen BK409.out 1; have hfz11_2 := blk_frozen BK409.out 2))
         go_ret
         exact ⟨y68_, y73_⟩
        ·rw [if_neg c9] at H
         have c9b0 : decide (300 < (((rd_T43 y404 x11_1).f1.f1).size : Int)) = false := decide_eq_false c9
         have c9b1 : decide (300 < ((rd_T43 y404 x11_1).f1.f1).size) = false := decide_eq_false (by omega)
         clear c9
         by_cases c12 : (((rd_T43 y404 x11_1).f0).size : Int) > 300
         ·rw [if_pos c12] at H
          have c12b0 : decide (300 < (((rd_T43 y404 x11_1).f0).size : Int)) = true := decide_eq_true c12
          have c12b1 : decide (300 < ((rd_T43 y404 x11_1).f0).size) = true := decide_eq_true (by omega)
          clear c12
          obtain rfl := Option.some.inj H
          have p408 : 0 ≤ (x11_1 : Int) := of_decide_eq_true y13_
          have q408 : x11_1 < (y404.length : Int) := of_decide_eq_true y13_
          obtain ⟨ad408, e408, hx408_0, hx408_1, hx408_2⟩ := at_T43 HR407.out x11_1 p408 q408
          cases e408
          replace hx408_0 := (HB.out.cell (World.block_lt_of_cell? w _ hx408_0)).trans hx408_0
          replace hx408_1 := (HB.out.cell (World.block_lt_of_cell? w _ hx408_1)).trans hx408_1
          replace hx408_2 := (HB.out.cell (World.block_lt_of_cell? w _ hx408_2)).trans hx408_2
          replace p408 := eq_true p408
          replace q408 := eq_true q408
          go_wp2_with (first | ((with_reducible refine gate_dst (N := 4) rfl ?_); (try (refine gate_guard (by rfl) ?_; dsimp only)); refine box_event ?hg (N := 4) ?hd (cs := #[.string (⟨#[]⟩ : ByteArray), .int .i64 0, .string (⟨#[]⟩ : ByteArray)]) (t := 43) ?hr ?_; (case hd => rfl); (case hg => rfl); (case hr => first | (go_simp; done) | (go_simp; rfl)); intro gb409 hg w13 hbox hb; have n0_ := Aside0.mk (below_step y1_ hb); have n1_ := Aside0.mk (hbox); have n2_ := Aside0.mk ((y42_ : w.heap.size ≤ gb409)); have n3_ := Aside0.mk ((y42_ : w.heap.size ≤ gb409)); clear HB; have HB := n0_; have BK409 := n1_; have GW409 := n2_; have GE409 := n3_; clear n0_ n1_ n2_ n3_; clear hb hbox hg; have hcz14_0 : w13.cell? ⟨gb409, 0, none⟩ = some (.string (⟨#[]⟩ : ByteArray)) := (blk_cell BK409.out 0).trans rfl; have hcz14_1 : w13.cell? ⟨gb409, 1, none⟩ = some (.int .i64 0) := (blk_cell BK409.out 1).trans rfl; have hcz14_2 : w13.cell? ⟨gb409, 2, none⟩ = some (.string (⟨#[]⟩ : ByteArray)) := (blk_cell BK409.out 2).trans rfl; have hfz14_0 := blk_frozen BK409.out 0; have hfz14_1 := blk_frozen BK409.out 1; have hfz14_2 := blk_frozen BK409.out 2))
          go_ret
          exact ⟨y68_, y73_⟩
         ·rw [if_neg c12] at H
          have c12b0 : decide (300 < (((rd_T43 y404 x11_1).f0).size : Int)) = false := decide_eq_false c12
          have c12b1 : decide (300 < ((rd_T43 y404 x11_1).f0).size) = false := decide_eq_false (by omega)
          clear c12
          have H' := Aside0.mk H
          clear H
          have p408 : 0 ≤ (x11_1 : Int) := of_decide_eq_true y13_
          have q408 : x11_1 < (y404.length : Int) := of_decide_eq_true y13_
          obtain ⟨ad408, e408, hx408_0, hx408_1, hx408_2⟩ := at_T43 HR407.out x11_1 p408 q408
          cases e408
          replace hx408_0 := (HB.out.cell (World.block_lt_of_cell? w _ hx408_0)).trans hx408_0
          replace hx408_1 := (HB.out.cell (World.block_lt_of_cell? w _ hx408_1)).trans hx408_1
          replace hx408_2 := (HB.out.cell (World.block_lt_of_cell? w _ hx408_2)).trans hx408_2
          replace p408 := eq_true p408
          replace q408 := eq_true q408
          go_wp2_with (first | ((with_reducible refine gate_dst (N := 4) rfl ?_); (try (refine gate_guard (by rfl) ?_; dsimp only)); refine box_event ?hg (N := 4) ?hd (cs := #[.string (⟨#[]⟩ : ByteArray), .int .i64 0, .string (⟨#[]⟩ : ByteArray)]) (t := 43) ?hr ?_; (case hd => rfl); (case hg => rfl); (case hr => first | (go_simp; done) | (go_simp; rfl)); intro gb409 hg w15 hbox hb; have n0_ := Aside0.mk (below_step y1_ hb); have n1_ := Aside0.mk (hbox); have n2_ := Aside0.mk ((y42_ : w.heap.size ≤ gb409)); have n3_ := Aside0.mk ((y42_ : w.heap.size ≤ gb409)); clear HB; have HB := n0_; have BK409 := n1_; have GW409 := n2_; have GE409 := n3_; clear n0_ n1_ n2_ n3_; clear hb hbox hg; have hcz16_0 : w15.cell? ⟨gb409, 0, none⟩ = some (.string (⟨#[]⟩ : ByteArray)) := (blk_cell BK409.out 0).trans rfl; have hcz16_1 : w15.cell? ⟨gb409, 1, none⟩ = some (.int .i64 0) := (blk_cell BK409.out 1).trans rfl; have hcz16_2 : w15.cell? ⟨gb409, 2, none⟩ = some (.string (⟨#[]⟩ : ByteArray)) := (blk_cell BK409.out 2).trans rfl; have hfz16_0 := blk_frozen BK409.out 0; have hfz16_1 := blk_frozen BK409.out 1; have hfz16_2 := blk_frozen BK409.out 2))
          go_roundg k1
          case measure => have := HK1.out; omega
          case rel => exact ⟨(wrap64 (x11_1 + 1)), y3_, H', ⟨by have := HK1.out; omega⟩, ⟨y73_⟩⟩
       ·rw [if_neg c8] at H
        exact absurd H (by simp)
      ·rw [if_neg c7] at H
       exact absurd H (by simp)
     ·rw [if_neg c6] at H
      have c6b0 : decide (x11_1 < (y404.length : Int)) = false := decide_eq_false c6
      clear c6
      obtain rfl := Option.some.inj H
      go_wp2
      go_ret
      exact ⟨y68_, y1_⟩
  ·rw [if_neg c4] at H
   exact absurd H (by simp)
 ·rw [if_neg c3] at H
  exact absurd H (by simp)
end Go.Proofs.YtkkomfomjpcbfaaDoor.PTS
end
section
namespace Go.Proofs.YtkkomfomjpcbfaaDoor.PTS
open Go.RowKit Go.Proofs.YtkkomfomjpcbfaaDoorW.PrintWords Go.Proofs.YtkkomfomjpcbfaaDoorW.PrintLast Go.Proofs.YtkkomfomjpcbfaaDoorW.PrintMore
attribute [local go_sem] max2_int min2_int max_two min_two max_three min_three max_four min_four
set_option linter.unusedVariables false
set_option linter.unusedSimpArgs false
end Go.Proofs.YtkkomfomjpcbfaaDoor.PTS
end
section
namespace Go.Proofs.YtkkomfomjpcbfaaDoor.PTS
open Go.RowKit Go.Proofs.YtkkomfomjpcbfaaDoorW.PrintWords Go.Proofs.YtkkomfomjpcbfaaDoorW.PrintLast Go.Proofs.YtkkomfomjpcbfaaDoorW.PrintMore
attribute [local go_sem] max2_int min2_int max_two min_two max_three min_three max_four min_four
set_option linter.unusedVariables false
set_option linter.unusedSimpArgs false
attribute [local go_sem high] eqA26
end Go.Proofs.YtkkomfomjpcbfaaDoor.PTS
end
