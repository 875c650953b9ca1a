import Derived.Test.YtkkomfomjpcbfaaDoorSTokenVerifiesTQ
import Derived.Test.YtkkomfomjpcbfaaDoorSTokenVerifiesPTSx2
import Derived.Test.YtkkomfomjpcbfaaDoorSTokenVerifiesPTSx10
namespace Go.Proofs.YtkkomfomjpcbfaaDoor.Bq
end Go.Proofs.YtkkomfomjpcbfaaDoor.Bq
set_option linter.unusedVariables false
set_option linter.unusedSimpArgs false
namespace Go.Proofs.YtkkomfomjpcbfaaDoor.Pu
open Go Go.RowKit Go.Lib Go.Proofs.YtkkomfomjpcbfaaDoor Go.Proofs.YtkkomfomjpcbfaaDoor.PTS Go.Proofs.YtkkomfomjpcbfaaDoorW.PrintWords Go.Proofs.YtkkomfomjpcbfaaDoorW.PrintLast Go.Proofs.YtkkomfomjpcbfaaDoorW.PrintMore Bq
theorem Ev.yes {α : Type} {c : Prop} [Decidable c] {g f : Nat → Option α} {r : α} (hc : c) (h : Ev g r) : Ev (fun k => if c then g k else f k) r := by
 simp only [if_pos hc]
 exact h
def tenB (s : ByteArray) : Bool := decide (s.size ≤ 32) && namedB (B s)
def chkB (tn : ByteArray) (key sc : Int) : Int := if tenB tn = true then (if key < 1 then 181 else if key > 99 then 181 else if sc < 1 then 1 else if sc > 7 then 1 else 0) else 180
def keyedB (kid : Int) (sec : ByteArray) : Bool := decide (1 ≤ kid) && decide (kid ≤ 99) && decide (16 ≤ sec.size) && decide (sec.size ≤ 64)
def bodyL (tn : ByteArray) (key ex sc id : Int) : List Int := Bq.ints (uv tn.size) ++ bytesOf tn ++ Bq.ints (uv key.toNat) ++ vI ex ++ [sc] ++ Bq.ints (uv id.toNat)
def mintB (kid : Int) (sec tn : ByteArray) (key ex sc id : Int) : ByteArray × Int :=
 if keyedB kid sec = true then (if chkB tn key sc = 0 then (if key = kid then (tokText sec (bodyL tn key ex sc id), 0) else ((⟨#[]⟩ : ByteArray), 181)) else ((⟨#[]⟩ : ByteArray), chkB tn key sc)) else ((⟨#[]⟩ : ByteArray), 181)
theorem Tenant_f (s : ByteArray) : token_Tenant.f s = some (tenB s) := by
 unfold token_Tenant.f tenB
 by_cases h : (s.size : Int) ≤ 32
 ·rw [if_pos h, decide_eq_true (show s.size ≤ 32 by omega)]
  unfold labels_Named.f
  rw [if_pos (by omega)]
  rfl
 ·rw [if_neg h, decide_eq_false (show ¬ s.size ≤ 32 by omega)]
  rfl
theorem RTenant_ev (s : ByteArray) (hs : s.size ≤ 1000000000000) : Ev (fun k => mr17_Tenant.f k s) (tenB s) := by
 have h := Named_ev s hs
 refine (show Ev (fun k => mr17_Tenant.f k s) (tenB s) from ?_)
 unfold mr17_Tenant.f tenB
 refine Ev.bind h ?_
 cases hn : namedB (B s) with
 | true =>
  simp only [if_pos trivial, Bool.and_true]
  refine Ev.const ?_
  congr 1
  by_cases h : s.size ≤ 32
  ·rw [decide_eq_true h, decide_eq_true (by omega)]
  ·rw [decide_eq_false h, decide_eq_false (by omega)]
 | false =>
  simp only [Bool.false_eq_true, if_false, Bool.and_false]
  exact Ev.now _
theorem Check_ev (tn : ByteArray) (key ex sc id : Int) : Ev (fun k => token_Check.f k tn key ex sc id) (chkB tn key sc) := by
 unfold token_Check.f chkB
 refine Ev.bindc (Tenant_f tn) ?_
 cases tenB tn with
 | false =>
  simp only [Bool.false_eq_true, if_false]
  exact Ev.now _
 | true =>
  simp only [if_pos trivial]
  have ht : Ev (fun k => token_Check.j0 k true tn key ex sc id) 181 := by
   refine Ev.step (f := _) (fun k => by simp only [token_Check.j0]; rfl) ?_
   simp only [if_true]
   exact Ev.now _
  have hf : Ev (fun k => token_Check.j0 k false tn key ex sc id) (if sc < 1 then 1 else if sc > 7 then 1 else 0) := by
   refine Ev.step (f := _) (fun k => by simp only [token_Check.j0]; rfl) ?_
   simp only [Bool.false_eq_true, if_false]
   refine Ev.const ?_
   split
   ·rfl
   ·split <;> rfl
  by_cases h1 : key < 1
  ·simp only [if_pos h1]
   exact ht
  ·simp only [if_neg h1]
   by_cases h2 : key > 99
   ·simp only [decide_eq_true h2, if_pos h2]
    exact ht
   ·simp only [decide_eq_false h2, if_neg h2]
    exact hf
theorem RCheck_ev (tn : ByteArray) (key ex sc id : Int) (hs : tn.size ≤ 1000000000000) : Ev (fun k => mr17_Check.f k tn key ex sc id) (chkB tn key sc) := by
 unfold mr17_Check.f chkB
 refine Ev.bind (RTenant_ev tn hs) ?_
 cases tenB tn with
 | false =>
  simp only [Bool.false_eq_true, if_false]
  exact Ev.now _
 | true =>
  simp only [if_pos trivial]
  have ht : Ev (fun k => mr17_Check.j0 k true tn key ex sc id) 181 := by
   refine Ev.step (f := _) (fun k => by simp only [mr17_Check.j0]; rfl) ?_
   simp only [if_true]
   exact Ev.now _
  have hf : Ev (fun k => mr17_Check.j0 k false tn key ex sc id) (if sc < 1 then 1 else if sc > 7 then 1 else 0) := by
   refine Ev.step (f := _) (fun k => by simp only [mr17_Check.j0]; rfl) ?_
   simp only [Bool.false_eq_true, if_false]
   refine Ev.const ?_
   split
   ·rfl
   ·split <;> rfl
  by_cases h1 : key < 1
  ·simp only [if_pos h1]
   exact ht
  ·simp only [if_neg h1]
   by_cases h2 : key > 99
   ·simp only [decide_eq_true h2, if_pos h2]
    exact ht
   ·simp only [decide_eq_false h2, if_neg h2]
    exact hf
theorem chk_ok {tn : ByteArray} {key sc : Int} (h : chkB tn key sc = 0) : tenB tn = true ∧ (1 ≤ key ∧ key ≤ 99) ∧ (1 ≤ sc ∧ sc ≤ 7) := by
 unfold chkB at h
 split at h
 ·rename_i h0
  split at h
  ·cases h
  ·split at h
   ·cases h
   ·split at h
    ·cases h
    ·split at h
     ·cases h
     ·exact ⟨h0, by omega, by omega⟩
 ·cases h
theorem ten_size {tn : ByteArray} (h : tenB tn = true) : tn.size ≤ 32 := by
 unfold tenB at h
 rw [Bool.and_eq_true] at h
 exact of_decide_eq_true h.1
theorem Keyed_f (kid : Int) (sec : ByteArray) : token_Keyed.f kid sec = some (keyedB kid sec) ∧ mr17_Keyed.f kid sec = some (keyedB kid sec) := by
 have key : ∀ x : Option Bool, x = (if kid ≥ 1 then (if kid ≤ 99 then (if (sec.size : Int) ≥ 16 then (some (decide ((sec.size : Int) ≤ 64))) else (some false)) else (some false)) else (some false)) → x = some (keyedB kid sec) := by
  rintro x rfl
  unfold keyedB
  by_cases h1 : kid ≥ 1
  ·rw [if_pos h1, decide_eq_true (show 1 ≤ kid from h1)]
   by_cases h2 : kid ≤ 99
   ·rw [if_pos h2, decide_eq_true h2]
    by_cases h3 : (sec.size : Int) ≥ 16
    ·rw [if_pos h3, decide_eq_true (show 16 ≤ sec.size by omega)]
     congr 1
     by_cases h4 : sec.size ≤ 64
     ·rw [decide_eq_true h4, decide_eq_true (by omega)]; rfl
     ·rw [decide_eq_false h4, decide_eq_false (by omega)]; rfl
    ·rw [if_neg h3, decide_eq_false (show ¬ 16 ≤ sec.size by omega)]
     rfl
   ·rw [if_neg h2, decide_eq_false h2]
    rfl
  ·rw [if_neg h1, decide_eq_false (show ¬ 1 ≤ kid by omega)]
   rfl
 exact ⟨key _ rfl, key _ rfl⟩
theorem u64w (n : Int) (h0 : 0 ≤ n) (h1 : n < 18446744073709551616) : IntKind.u64.wrap n = n := by rw [IntKind.wrap_u64]; omega
theorem body_len (tn : ByteArray) (key ex sc id : Int) (ht : tn.size ≤ 32) (hk : 1 ≤ key ∧ key ≤ 99) (hx : -9223372036854775808 ≤ ex ∧ ex ≤ 9223372036854775807) (hi : 0 ≤ id ∧ id < 18446744073709551616) : (bodyL tn key ex sc id).length ≤ 100 := by
 unfold bodyL
 have h1 := uv_len10 tn.size (by omega)
 have h2 := uv_len10 key.toNat (by omega)
 have h3 := vI_len ex hx.1 hx.2
 have h4 := uv_len10 id.toNat (by omega)
 simp only [List.length_append, ints_length, bytesOf_length, List.length_singleton]
 omega
theorem body_byts (tn : ByteArray) (key ex sc id : Int) (hs : 1 ≤ sc ∧ sc ≤ 7) : Byts (bodyL tn key ex sc id) := by
 unfold bodyL
 refine byt_app (byt_app (byt_app (byt_app (byt_app (byt_uv _) (bytesOf_byts _)) (byt_uv _)) (byt_uv _)) (fun x hx => ?_)) (byt_uv _)
 rw [List.mem_singleton.1 hx]
 omega
theorem Body_ev (tn : ByteArray) (key ex sc id : Int) (ht : tn.size ≤ 32) (hk : 1 ≤ key ∧ key ≤ 99) (hx : -9223372036854775808 ≤ ex ∧ ex ≤ 9223372036854775807) (hi : 0 ≤ id ∧ id < 18446744073709551616) :
  Ev (fun k => token_body.f k tn key ex sc id) (bodyL tn key ex sc id) := by
 have h1 := uv_len10 tn.size (by omega)
 have h2 := uv_len10 key.toNat (by omega)
 have h3 := vI_len ex hx.1 hx.2
 have h4 := uv_len10 id.toNat (by omega)
 have e1 : IntKind.u64.wrap (tn.size : Int) = (tn.size : Int) := u64w _ (by omega) (by omega)
 have e2 : IntKind.u64.wrap key = ((key.toNat : Nat) : Int) := by rw [u64w _ (by omega) (by omega)]; omega
 have e3 : id = ((id.toNat : Nat) : Int) := by omega
 unfold token_body.f
 rw [e1, e2]
 refine Ev.bind (PutUvarint_ev tn.size (by omega)).1 ?_
 refine Ev.yes (by rw [ints_length]; omega) ?_
 refine Ev.bindc rfl (Ev.bind (PutUvarint_ev key.toNat (by omega)).1 ?_)
 refine Ev.yes (by simp only [List.length_append, ints_length, bytesOf_length]; omega) ?_
 refine Ev.bindc rfl (Ev.bind (PutVarint_ev ex hx.1 hx.2).1 ?_)
 refine Ev.yes (by simp only [List.length_append, ints_length, bytesOf_length]; omega) ?_
 refine Ev.bindc rfl ?_
 refine Ev.yes (by simp only [List.length_append, ints_length, bytesOf_length]; omega) ?_
 refine Ev.bindc rfl ?_
 have hid : Ev (fun k => bits_PutUvarint.f k id) (Bq.ints (uv id.toNat)) := by
  have h := (PutUvarint_ev id.toNat (by omega)).1
  rw [← e3] at h
  exact h
 refine Ev.bind hid ?_
 refine Ev.yes (by simp only [List.length_append, ints_length, bytesOf_length, List.length_singleton]; omega) ?_
 exact Ev.now _
theorem Mint_ev (kid : Int) (sec tn : ByteArray) (key ex sc id : Int) (hx : -9223372036854775808 ≤ ex ∧ ex ≤ 9223372036854775807) (hi : 0 ≤ id ∧ id < 18446744073709551616) :
  Ev (fun k => token_Mint.f k kid sec tn key ex sc id) (mintB kid sec tn key ex sc id) := by
 show Ev (fun k => tokMint k kid sec tn key ex sc id) _
 unfold tokMint mintB
 refine Ev.bindc (Keyed_f kid sec).1 ?_
 cases keyedB kid sec with
 | false => simp only [Bool.false_eq_true, if_false]; exact Ev.now _
 | true =>
  simp only [if_pos trivial]
  refine Ev.bind (Check_ev tn key ex sc id) ?_
  by_cases hc : chkB tn key sc = 0
  ·simp only [if_pos hc]
   obtain ⟨c1, c2, c3⟩ := chk_ok hc
   by_cases hk : key = kid
   ·simp only [if_pos hk]
    refine Ev.bind (Body_ev tn key ex sc id (ten_size c1) c2 hx hi) ?_
    have hl := body_len tn key ex sc id (ten_size c1) c2 hx hi
    refine Ev.yes (by omega) (Ev.yes (all_byts (body_byts tn key ex sc id c3)) ?_)
    exact Ev.now _
   ·simp only [if_neg hk]
    exact Ev.now _
  ·simp only [if_neg hc]
   exact Ev.now _
theorem tokHead_size (B : List Int) : (tokHead B).size = 4 + (8 * B.length + 5) / 6 := by
 unfold tokHead
 rw [ByteArray.size_append, armor_size]
 rfl
theorem RHead_ev (tn : ByteArray) (key ex sc id : Int) (ht : tn.size ≤ 32) (hk : 1 ≤ key ∧ key ≤ 99) (hs : 1 ≤ sc ∧ sc ≤ 7) (hx : -9223372036854775808 ≤ ex ∧ ex ≤ 9223372036854775807) (hi : 0 ≤ id ∧ id < 18446744073709551616) :
  Ev (fun k => mr17_head.f k tn key ex sc id) (tokHead (bodyL tn key ex sc id)) := by
 have e1 : IntKind.u64.wrap (tn.size : Int) = (tn.size : Int) := u64w _ (by omega) (by omega)
 have e2 : IntKind.u64.wrap key = ((key.toNat : Nat) : Int) := by rw [u64w _ (by omega) (by omega)]; omega
 have e3 : id = ((id.toNat : Nat) : Int) := by omega
 have hl := body_len tn key ex sc id ht hk hx hi
 have hb := body_byts tn key ex sc id hs
 unfold mr17_head.f
 rw [e1, e2]
 refine Ev.bind (PutUvarint_ev tn.size (by omega)).2 ?_
 refine Ev.yes (by omega) ?_
 refine Ev.bind (PutUvarint_ev key.toNat (by omega)).2 (Ev.bind (PutVarint_ev ex hx.1 hx.2).2 ?_)
 have hid : Ev (fun k => mr01_PutUvarint.f k id) (Bq.ints (uv id.toNat)) := by
  have h := (PutUvarint_ev id.toNat (by omega)).2
  rw [← e3] at h
  exact h
 refine Ev.bind hid ?_
 have ej : [Bq.ints (uv tn.size), bytesOf tn, Bq.ints (uv key.toNat), vI ex, ([sc] : List Int), Bq.ints (uv id.toNat)].flatten = bodyL tn key ex sc id := by
  unfold bodyL
  simp
 have hj := Join_ev [Bq.ints (uv tn.size), bytesOf tn, Bq.ints (uv key.toNat), vI ex, ([sc] : List Int), Bq.ints (uv id.toNat)] (by simp) (by rw [ej]; omega)
 rw [ej] at hj
 refine Ev.bind hj (Ev.bind (RArmor_ev _ hb (by omega)) ?_)
 refine Ev.yes (by rw [armor_size]; omega) ?_
 exact Ev.now _
theorem RMint_ev (kid : Int) (sec tn : ByteArray) (key ex sc id : Int) (hn : tn.size ≤ 1000000000000) (hx : -9223372036854775808 ≤ ex ∧ ex ≤ 9223372036854775807) (hi : 0 ≤ id ∧ id < 18446744073709551616) :
  Ev (fun k => mr17_Mint.f k kid sec tn key ex sc id) (mintB kid sec tn key ex sc id) := by
 unfold mr17_Mint.f mintB
 refine Ev.bindc (Keyed_f kid sec).2 ?_
 cases hkd : keyedB kid sec with
 | false => simp only [Bool.false_eq_true, if_false]; exact Ev.now _
 | true =>
  simp only [if_pos trivial]
  refine Ev.bind (RCheck_ev tn key ex sc id hn) ?_
  by_cases hc : chkB tn key sc = 0
  ·simp only [if_pos hc]
   obtain ⟨c1, c2, c3⟩ := chk_ok hc
   by_cases hk : key = kid
   ·simp only [if_pos hk]
    have hl := body_len tn key ex sc id (ten_size c1) c2 hx hi
    have hz : sec.size ≤ 64 := by
     unfold keyedB at hkd
     simp only [Bool.and_eq_true, decide_eq_true_eq] at hkd
     exact hkd.2
    have hts := tokHead_size (bodyL tn key ex sc id)
    refine Ev.bind (RHead_ev tn key ex sc id (ten_size c1) c2 c3 hx hi) ?_
    refine Ev.yes (by omega) (Ev.yes (by omega) (Ev.yes (by omega) ?_))
    have hm : mr03_Mac.f (bytesOf sec) (bytesOf (tokHead (bodyL tn key ex sc id))) = some (tokSum sec (bodyL tn key ex sc id)) := by
     unfold mr03_Mac.f
     have g1 : (bytesOf sec).length ≤ 1000000 := by rw [bytesOf_length]; omega
     have g2 : (bytesOf (tokHead (bodyL tn key ex sc id))).length ≤ 1000000 := by rw [bytesOf_length]; omega
     rw [if_pos g1, if_pos g2, if_pos (all_byts (bytesOf_byts _)), if_pos (all_byts (bytesOf_byts _))]
     rfl
    have hsl : (tokSum sec (bodyL tn key ex sc id)).length = 32 := Sha.sum_length _
    refine Ev.bindc hm (Ev.bind (RArmor_ev _ (Sha.byts_sum _) (by omega)) ?_)
    refine Ev.yes (by rw [ByteArray.size_append, armor_size]; have : (⟨#[46]⟩ : ByteArray).size = 1 := rfl; omega) ?_
    exact Ev.now _
   ·simp only [if_neg hk]
    exact Ev.now _
  ·simp only [if_neg hc]
   exact Ev.now _
end Go.Proofs.YtkkomfomjpcbfaaDoor.Pu
