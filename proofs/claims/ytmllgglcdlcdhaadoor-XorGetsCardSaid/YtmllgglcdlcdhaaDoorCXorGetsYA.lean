import Derived.Test.YtmllgglcdlcdhaaDoorCXorGetsY7
import Derived.Test.YtmllgglcdlcdhaaDoorCXorGetsS6
import Derived.Test.YtmllgglcdlcdhaaDoorCXorGetsB9
import Derived.Test.YtmllgglcdlcdhaaDoorCXorGetsWWords
import Derived.Laws.StructEq
import Derived.Test.YtmllgglcdlcdhaaDoorProg
import Derived.Below
import Derived.Deep.Draws
import Derived.Deep.AppendLies
import Derived.Maps.AppendAt
import Derived.OwnWalk
import Derived.Laws.BytesArg
import Derived.Laws.MakeOwn
import Derived.Laws.OwnMore
import Derived.Deep.OwnRows
import Derived.Tactics
import Derived.Lib.ConvBytes
import Derived.Laws.Slices
import Derived.WalkKit
import Derived.KernelRfl
import Derived.RowKit3
import Derived.Deep.LoopGhost
import Derived.Deep.QuietTactic
import Derived.BigQuiet
import Derived.WideLaws
import Derived.Deep.DeepCutAuto
import Derived.Deep.CutBlock
import Derived.Deep.RegionHeld3
import Derived.Laws.Rows
import Derived.Lib.AppendStr
import Derived.ArgAppend
import Derived.Laws.IdiomCopy
import Derived.OrdersHeld
import Derived.Laws.BitsLemmas
import Derived.RowKit
import Derived.Test.YtmllgglcdlcdhaaDoorCXorGetsPU0
import Derived.Test.YtmllgglcdlcdhaaDoorCXorGetsY5
namespace Go.Proofs.YtmllgglcdlcdhaaDoor.Bq
end Go.Proofs.YtmllgglcdlcdhaaDoor.Bq
section
namespace Go.Proofs.YtmllgglcdlcdhaaDoor
open Go Go.RowKit Go.Proofs.YtmllgglcdlcdhaaDoorW.PrintWords Go.Proofs.YtmllgglcdlcdhaaDoorW.PrintMore Go.Proofs.YtmllgglcdlcdhaaDoorW.PrintLast Bq Xs
set_option linter.unusedVariables false
set_option maxRecDepth 100000
set_option linter.unusedSimpArgs false
attribute [local go_sem ↓] Go.wp_at_zero Go.wp_at_succ
def SmpRow (w : World) (A : Option Addr) (L : List (Int × Nat)) : Prop := ∀ i, i < L.length → ∃ ad, A = some ad ∧ w.cell? (ad.add (i * 2)) = some (.int .i64 (L.getD i (0, 0)).1) ∧ w.cell? (ad.add (i * 2 + 1)) = some (.int .u64 ((L.getD i (0, 0)).2 : Nat))
theorem SmpRow.below {w w1 : World} {A : Option Addr} {L : List (Int × Nat)} (h : SmpRow w A L) (hB : Below w.heap.size w w1) : SmpRow w1 A L := fun i hi => by
  obtain ⟨ad, e, h1, h2⟩ := h i hi
  exact ⟨ad, e, (hB.cell (World.block_lt_of_cell? w _ h1)).trans h1, (hB.cell (World.block_lt_of_cell? w _ h2)).trans h2⟩
theorem add_next_cell (ad : Addr) (n : Nat) : (⟨(ad.add n).block, (ad.add n).off + 1, none⟩ : Addr) = ad.add (n + 1) := by
  unfold Addr.add
  rw [if_neg (show ¬ n + 1 = 0 by omega)]
  split
  · subst_vars
    rfl
  · rfl
theorem Pk.alloc {w0 w : World} {ok : Nat → Prop} {p g : Nat} {bs : List Bool} {s : St} (h : Pk w0 w ok p g bs s) (o : Obj) : Pk w0 (w.alloc o) ok p g bs s :=
  ((h.boxed o).back h (fun k hk => hk.1) (by rw [World.size_alloc]; omega))
theorem allB_split (L : List (Int × Nat)) (s : St) (i : Nat) (hi : i < L.length) : allB s (L.drop i) = (addB s (L.getD i (0, 0)).1 (L.getD i (0, 0)).2).1 ++ allB (addB s (L.getD i (0, 0)).1 (L.getD i (0, 0)).2).2 (L.drop (i + 1)) := by
  rw [List.drop_eq_getElem_cons hi, List.getD_eq_getElem?_getD, List.getElem?_eq_getElem hi]
  rfl
theorem addB_n (s : St) (t : Int) (v : Nat) : (addB s t v).2.n = s.n + 1 := by
  unfold addB
  split
  · rename_i h; rw [h]
  · split
    · rename_i h; rw [h]
    · rfl
set_option maxHeartbeats 4000000 in
theorem pack_calls (w : World) (A : Option Addr) (c : Nat) (L : List (Int × Nat)) (hC : SmpRow w A L) (hL : ∀ x ∈ L, SmpOk x) (hlen : L.length ≤ 50000) (hT : TabAt 0 Lib.deBruijn64tab w) :
    Calls Tryd.prog 28 #[.slice A L.length c] w fun e w' => ∃ v, e = .returned v ∧ (Kd.int .u8).R 5 w' w.heap.size (fun _ => True) v (packL L) ∧ Below w.heap.size w w' := by
  have HC := Lib.hid hC
  have HL := Lib.hid hL
  have HT := Lib.hid hT
  clear hC hL hT
  have hlu : IntKind.u64.wrap (L.length : Int) = (L.length : Int) := by rw [IntKind.wrap_u64]; omega
  go_enter Tryd.func28, Tryd.ntmps28
  go_upto_region 2 with (go_at_call 44; refine (newWriter_calls w).mono ?_; rintro e w1 ⟨rfl, hW, hB⟩; have HW := Lib.hid hW; have HB := Lib.hid hB; clear hW hB)
  obtain ⟨g, hg⟩ : ∃ g, g = w.heap.size := ⟨_, rfl⟩
  obtain ⟨p, hp⟩ : ∃ p, p = w1.heap.size := ⟨_, rfl⟩
  obtain ⟨W2, hW2⟩ : ∃ W2, W2 = w1.alloc (.cells #[.pointer (some ⟨w.heap.size, 0, none⟩), .int .i64 0, .int .i64 0, .int .u64 0, .int .u64 0, .int .i64 0, .int .i64 0, .bool false] 88) := ⟨_, rfl⟩
  have hPk : Pk w W2 (fun k => w.heap.size ≤ k ∧ k ≠ p) p g [] st0 := by
    have hB2 := below_alloc (Below.refl w1.heap.size w1) (.cells #[.pointer (some ⟨w.heap.size, 0, none⟩), .int .i64 0, .int .i64 0, .int .u64 0, .int .u64 0, .int .i64 0, .int .i64 0, .bool false] 88)
    rw [← hW2] at hB2
    have hs := HB.out.size
    refine ⟨?_, ?_, fun h => h.2 rfl, fun k hk => ?_, fun k hk => hk.1, by rw [hp]; exact hs, HB.out.trans (below_lower hB2 hs)⟩
    · rw [hW2, hp, hg]
      exact blk_new w1 _
    · rw [hg]
      exact (HW.out.bound.kept (Mod.of_below hB2 (fun _ => False)) (fun _ _ _ => id)).mono (fun k hk => ⟨hk.1, by rw [hp]; exact Nat.ne_of_lt hk.2⟩)
    · rw [hW2, World.size_alloc] at hk
      exact ⟨by omega, by omega⟩
  rw [← hW2, ← hp]
  have HP := Lib.hid hPk
  have c0 := hPk.ptr
  clear hPk hW2 hp hg HW HB
  go_wp2_with fail
  refine (HP.out.putI L.length 16 L.length 16 rfl rfl (by omega) (by decide) (.inr (by omega)) (by simp)).mono ?_
  rintro e w3 ⟨rfl, h3, m3⟩
  rw [List.nil_append] at h3
  have H3 := Lib.hid h3
  clear h3 m3 c0
  go_wp2_with fail
  go_loopg [19] L.length (fun kq s19 wr => ∃ (i : Nat) (bs : List Bool) (s : St), i + kq = L.length ∧ s19 = .int .i64 i ∧ bs.length ≤ 16 + 157 * i ∧ s.n = i ∧ Hid (Pk w wr (fun k => w.heap.size ≤ k ∧ k ≠ p) p g bs s) ∧ Hid (OkS s) ∧ Hid (bs ++ allB s (L.drop i) = packB L))
  case atStart => exact ⟨0, nb L.length 16, st0, by omega, rfl, by rw [nb_length]; omega, rfl, H3.out, st0_ok, rfl⟩
  case round =>
    obtain ⟨i, bs, s, hi, rfl, hbl, hsn, HPr, HO, HA⟩ := hrel
    by_cases hlt : i < L.length
    · obtain ⟨ad, hA, hx1, hx2⟩ := HC.out.below HPr.out.bel i hlt
      subst hA
      have hsp := allB_split L s i hlt
      have hxm : SmpOk (L.getD i (0, 0)) := HL.out _ (by rw [List.getD_eq_getElem?_getD, List.getElem?_eq_getElem hlt]; exact List.getElem_mem hlt)
      obtain ⟨x, hx⟩ : ∃ x, x = L.getD i (0, 0) := ⟨_, rfl⟩
      rw [← hx] at hx1 hx2 hsp hxm
      clear hx
      obtain ⟨t, v⟩ := x
      simp only at hx1 hx2
      have hx3 : wr.cell? ⟨(ad.add (i * 2)).block, (ad.add (i * 2)).off + 1, none⟩ = some (.int .u64 (v : Nat)) := by rw [add_next_cell]; exact hx2
      have HSP := Lib.hid hsp
      have HXM := Lib.hid hxm
      clear hsp hxm hx2
      go_upto_region 6 with fail
      obtain ⟨W5, hW5⟩ : ∃ W5, W5 = wr.alloc (.cells #[.int .i64 t, .int .u64 (v : Nat)] 39) := ⟨_, rfl⟩
      obtain ⟨bx, hbx⟩ : ∃ bx, bx = wr.heap.size := ⟨_, rfl⟩
      have hP5 : Pk w W5 (fun k => w.heap.size ≤ k ∧ k ≠ p) p g bs s := by rw [hW5]; exact HPr.out.alloc _
      have hb5 : W5.heap[bx]? = some (.cells #[.int .i64 t, .int .u64 (v : Nat)] 39 (0, 0)) := by rw [hW5, hbx]; exact heap_alloc_new wr _
      rw [← hW5, ← hbx]
      have z0 : W5.cell? ⟨bx, 0, none⟩ = some (.int .i64 t) := (blk_cell hb5 0).trans rfl
      have z1 : W5.cell? ⟨bx, 1, none⟩ = some (.int .u64 (v : Nat)) := (blk_cell hb5 1).trans rfl
      have HP5 := Lib.hid hP5
      clear hP5 hb5 hW5 hbx hx1 hx3
      go_wp2_with (go_at_call 46; go_loud (refine (add_calls w W5 _ p g bs s t v HXM.out.1 HXM.out.2 HO.out (by omega) HT.out HP5.out (by omega)).mono ?_); rintro e w6 ⟨rfl, h6⟩; have H6 := Lib.hid h6; clear h6)
      go_roundg (gk - 1)
      case measure => omega
      case rel =>
        have hal := add_len HO.out t v HXM.out.1 HXM.out.2
        refine ⟨i + 1, bs ++ (addB s t v).1, (addB s t v).2, by omega, by go_num, by rw [List.length_append]; omega, by rw [addB_n, hsn], H6.out, addB_ok HO.out t v HXM.out.1 HXM.out.2, ?_⟩
        show bs ++ (addB s t v).1 ++ allB (addB s t v).2 (L.drop (i + 1)) = packB L
        rw [List.append_assoc, ← HSP.out]
        exact HA.out
    · have hbs : bs = packB L := by
        have := HA.out
        rwa [List.drop_of_length_le (by omega), show allB s [] = [] from rfl, List.append_nil] at this
      have c0 := HPr.out.ptr
      have HBS := Lib.hid hbs
      clear hbs
      go_wp2_with (go_at_call 47; refine (wbytes_calls wr _ g bs HPr.out.wr (by omega)).mono ?_; rintro e w7 ⟨v7, rfl, hR7, hB7⟩; have HR7 := Lib.hid hR7; have HB7 := Lib.hid hB7; clear hR7 hB7)
      go_ret
      have hs := HPr.out.bel.size
      have h7 := HR7.out
      rw [HBS.out] at h7
      exact ⟨v7, rfl, Kd.R_lower h7 hs, HPr.out.bel.trans (below_lower HB7.out hs)⟩
set_option maxHeartbeats 1000000 in
theorem xput_calls (w : World) (A : Option Addr) (c : Nat) (L : List (Int × Nat)) (hC : SmpRow w A L) (hL : ∀ x ∈ L, SmpOk x) (hlen : L.length ≤ 50000) (hT : TabAt 0 Lib.deBruijn64tab w) :
    Calls Tryd.prog 12 #[.slice A L.length c] w fun e w' => ∃ v, e = .returned (.tuple #[v, .int .i64 0]) ∧ (Kd.int .u8).R 5 w' w.heap.size (fun _ => True) v (packL L) ∧ Below w.heap.size w w' := by
  have hl : ¬ (L.length : Int) > 65535 := by omega
  go_enter Tryd.func12, Tryd.ntmps12
  go_wp2_with (go_at_call 28; refine (pack_calls w A c L hC hL hlen hT).mono ?_; rintro e w7 ⟨v7, rfl, hR7, hB7⟩; have HR7 := Lib.hid hR7; have HB7 := Lib.hid hB7; clear hR7 hB7)
  go_ret2
  exact ⟨v7, rfl, HR7.out, HB7.out⟩
theorem xput_long (w : World) (A : Option Addr) (c n : Nat) (hn : 65535 < n) :
    Calls Tryd.prog 12 #[.slice A n c] w fun e w' => e = .returned (.tuple #[.slice none 0 0, .int .i64 3]) ∧ w = w' := by
  have hl : (n : Int) > 65535 := by omega
  go_enter Tryd.func12, Tryd.ntmps12
  go_wp2
  go_ret2
  exact ⟨rfl, rfl⟩
end Go.Proofs.YtmllgglcdlcdhaaDoor
end
section
namespace Go.Proofs.YtmllgglcdlcdhaaDoor.Pu
open Go Go.Proofs.YtmllgglcdlcdhaaDoor Bq
set_option linter.unusedVariables false
theorem byt_app {xs ys : List Int} (h : Byts xs) (h' : Byts ys) : Byts (xs ++ ys) := fun x hx => by
  rcases List.mem_append.1 hx with hx | hx
  · exact h x hx
  · exact h' x hx
theorem val_bd (k acc : Nat) (x : Int) (hk : k < 10) (hx0 : 0 ≤ x) (hx1 : x < 256) (h9 : ¬ (k = 9 ∧ 1 < x)) (ha : acc < 128 ^ k) :
    (acc + (x % 128).toNat * 128 ^ k < 128 ^ (k + 1)) ∧ (acc + (x % 128).toNat * 128 ^ k < 18446744073709551616) := by
  have h1 : (x % 128).toNat < 128 := by omega
  constructor
  · rw [Nat.pow_succ]
    have : (x % 128).toNat * 128 ^ k ≤ 127 * 128 ^ k := Nat.mul_le_mul_right _ (by omega)
    omega
  · have hp : (128 : Nat) ^ k ≤ 128 ^ 9 := Nat.pow_le_pow_right (by decide) (by omega)
    rcases Nat.lt_or_ge k 9 with h | h
    · have hp2 : (128 : Nat) ^ k ≤ 128 ^ 8 := Nat.pow_le_pow_right (by decide) (by omega)
      have : (x % 128).toNat * 128 ^ k ≤ 127 * 128 ^ 8 := Nat.mul_le_mul (by omega) hp2
      omega
    · have hk9 : k = 9 := by omega
      subst hk9
      have : (x % 128).toNat ≤ 1 := by omega
      have : (x % 128).toNat * 128 ^ 9 ≤ 1 * 128 ^ 9 := Nat.mul_le_mul_right _ this
      omega
theorem sum_val (k acc : Nat) (x : Int) (hx0 : 0 ≤ x) (hx1 : x < 128) : ((acc + (x % 128).toNat * 128 ^ k : Nat) : Int) = (acc : Int) + x * 128 ^ k := by
  obtain ⟨y, rfl⟩ := Int.eq_ofNat_of_zero_le hx0
  rw [show ((y : Int) % 128).toNat = y by omega]
  simp
theorem more_val (k acc : Nat) (x : Int) (hx0 : 128 ≤ x) (hx1 : x < 256) : acc + (x % 128).toNat * 128 ^ k = acc + (x.toNat - 128) * 128 ^ k := by
  rw [show (x % 128).toNat = x.toNat - 128 by omega]
theorem ug_bound : ∀ (xs : List Int) (k acc : Nat), Byts xs → k ≤ 10 → acc < 128 ^ k → 0 ≤ (ug k acc xs).1 ∧ (ug k acc xs).1 < 18446744073709551616
  | [], k, acc, _, _, _ => by
    unfold ug
    split <;> decide
  | x :: xs, k, acc, hb, hk, ha => by
    obtain ⟨x0, x1⟩ := hb x (by simp)
    by_cases h10 : 10 ≤ k
    · rw [ug, if_pos h10]
      decide
    · by_cases h9 : k = 9 ∧ 1 < x
      · rw [ug, if_neg h10, if_pos h9]
        decide
      · obtain ⟨v1, v2⟩ := val_bd k acc x (by omega) x0 x1 h9 ha
        by_cases h128 : x < 128
        · by_cases h0 : 0 < k ∧ x = 0
          · rw [ug, if_neg h10, if_neg h9, if_pos h128, if_pos h0]
            decide
          · rw [ug, if_neg h10, if_neg h9, if_pos h128, if_neg h0, ← sum_val k acc x x0 h128]
            exact ⟨by omega, by omega⟩
        · rw [ug, if_neg h10, if_neg h9, if_neg h128, ← more_val k acc x (by omega) x1]
          exact ug_bound xs (k + 1) _ (fun y hy => hb y (by simp [hy])) (by omega) v1
end Go.Proofs.YtmllgglcdlcdhaaDoor.Pu
end
section
namespace Go.Proofs.YtmllgglcdlcdhaaDoor.Xs
open Go Go.RowKit Go.Proofs.YtmllgglcdlcdhaaDoor Bq Go.Proofs.YtmllgglcdlcdhaaDoor.Pu
set_option linter.unusedVariables false
theorem getX_ok {w : Nat} {r : List Bool} {n : Nat} {r' : List Bool} (h : getX w r = .ok (n, r')) : n < 2 ^ w ∧ r'.length + w = r.length := by
  unfold getX at h
  split at h
  · cases h
  · rename_i hl
    injection h with h
    injection h with h1 h2
    subst h1 h2
    have h3 := bnum_lt (r.take w)
    rw [List.length_take, Nat.min_eq_left (by omega)] at h3
    rw [List.length_drop]
    exact ⟨h3, by omega⟩
theorem signR_ok {w : Nat} {r : List Bool} {d : Int} {r' : List Bool} (h : signR w r = .ok (d, r')) : r'.length + w = r.length := by
  unfold signR at h
  cases hg : getX w r with
  | error e => rw [hg] at h; cases h
  | ok v =>
    obtain ⟨n, r1⟩ := v
    rw [hg] at h
    simp only at h
    injection h with h
    injection h with h1 h2
    subst h2
    exact (getX_ok hg).2
theorem changeR_ok : ∀ (ws : List Nat) {r : List Bool} {d : Int} {r' : List Bool} (h : changeR ws r = .ok (d, r')), r'.length + 1 ≤ r.length
  | [], r, d, r', h => by have := signR_ok h; omega
  | w :: ws, r, d, r', h => by
    unfold changeR at h
    cases hg : getX 1 r with
    | error e => rw [hg] at h; cases h
    | ok v =>
      obtain ⟨n, r1⟩ := v
      have h1 := (getX_ok hg).2
      rw [hg] at h
      simp only at h
      by_cases hn : n = 0
      · rw [if_pos hn] at h
        by_cases hw : w = 0
        · rw [if_pos hw] at h
          injection h with h
          injection h with h2 h3
          subst h3
          omega
        · rw [if_neg hw] at h
          have := signR_ok h
          omega
      · rw [if_neg hn] at h
        have := changeR_ok ws h
        omega
theorem mul_bound {n a b : Nat} (h : n < 2 ^ a) (hab : a + b ≤ 64) : n * 2 ^ b < 2 ^ 64 := by
  have h1 : n * 2 ^ b < 2 ^ a * 2 ^ b := Nat.mul_lt_mul_of_pos_right h (Nat.pos_of_ne_zero (by simp))
  rw [← Nat.pow_add] at h1
  exact Nat.lt_of_lt_of_le h1 (Nat.pow_le_pow_right (by decide) hab)
theorem turnR_ok {w : Win} {r : List Bool} {x : Nat} {w' : Win} {r' : List Bool} (hw : okW w) (h : turnR w r = .ok (x, w', r')) : x < 2 ^ 64 ∧ okW w' ∧ r'.length + 1 ≤ r.length := by
  unfold turnR at h
  cases hg : getX 1 r with
  | error e => rw [hg] at h; cases h
  | ok v =>
    obtain ⟨n, r1⟩ := v
    have g1 := (getX_ok hg).2
    rw [hg] at h
    simp only at h
    by_cases hn : n = 0
    · rw [if_pos hn] at h
      injection h with h
      injection h with h1 h2
      injection h2 with h2 h3
      subst h1 h2 h3
      exact ⟨by decide, hw, by omega⟩
    · rw [if_neg hn] at h
      cases hg2 : getX 1 r1 with
      | error e => rw [hg2] at h; cases h
      | ok v =>
        obtain ⟨n2, r2⟩ := v
        have g2 := (getX_ok hg2).2
        rw [hg2] at h
        simp only at h
        by_cases hn2 : n2 = 0
        · rw [if_pos hn2] at h
          by_cases hs : w.set = true
          · rw [if_pos hs] at h
            have hb := hw hs
            cases hg3 : getX (64 - w.lead - w.trail) r2 with
            | error e => rw [hg3] at h; cases h
            | ok v =>
              obtain ⟨n3, r3⟩ := v
              obtain ⟨g3, g4⟩ := getX_ok hg3
              rw [hg3] at h
              simp only at h
              injection h with h
              injection h with h1 h2
              injection h2 with h2 h3
              subst h1 h2 h3
              exact ⟨mul_bound g3 (by omega), hw, by omega⟩
          · rw [if_neg hs] at h
            cases h
        · rw [if_neg hn2] at h
          cases hg3 : getX 5 r2 with
          | error e => rw [hg3] at h; cases h
          | ok v =>
            obtain ⟨l, r3⟩ := v
            have g3 := (getX_ok hg3).2
            rw [hg3] at h
            simp only at h
            cases hg4 : getX 6 r3 with
            | error e => rw [hg4] at h; cases h
            | ok v =>
              obtain ⟨m, r4⟩ := v
              have g4 := (getX_ok hg4).2
              rw [hg4] at h
              simp only at h
              obtain ⟨M, hM⟩ : ∃ M, M = (if m = 0 then 64 else m) := ⟨_, rfl⟩
              have hM0 : 0 < M := by rw [hM]; split <;> omega
              rw [← hM] at h
              by_cases hb : 64 < l + M
              · rw [if_pos hb] at h
                cases h
              · rw [if_neg hb] at h
                cases hg5 : getX M r4 with
                | error e => rw [hg5] at h; cases h
                | ok v =>
                  obtain ⟨y, r5⟩ := v
                  obtain ⟨g5, g6⟩ := getX_ok hg5
                  rw [hg5] at h
                  simp only at h
                  injection h with h
                  injection h with h1 h2
                  injection h2 with h2 h3
                  subst h1 h2 h3
                  exact ⟨mul_bound g5 (by omega), fun _ => by simp only; omega, by omega⟩
theorem fewR_ok : ∀ (f : Nat) (b : List Int) {r : List Bool} {u : Int} {r' : List Bool} (hb : Byts b) (h : fewR f b r = .ok (u, r')), (0 ≤ u ∧ u < 18446744073709551616) ∧ r'.length + 8 ≤ r.length
  | 0, b, r, u, r', hb, h => by cases h
  | f + 1, b, r, u, r', hb, h => by
    unfold fewR at h
    cases hg : getX 8 r with
    | error e => rw [hg] at h; cases h
    | ok v =>
      obtain ⟨x, r1⟩ := v
      obtain ⟨g1, g2⟩ := getX_ok hg
      have hb2 : Byts (b ++ [(x : Int)]) := byt_app hb (fun y hy => by rw [List.mem_singleton.1 hy]; omega)
      rw [hg] at h
      simp only at h
      by_cases h0 : (uget (b ++ [(x : Int)])).2.2 = 0
      · rw [if_pos h0] at h
        injection h with h
        injection h with h1 h2
        subst h1 h2
        exact ⟨ug_bound _ 0 0 hb2 (by decide) (by decide), by omega⟩
      · rw [if_neg h0] at h
        by_cases h6 : (uget (b ++ [(x : Int)])).2.2 = 6
        · rw [if_pos h6] at h
          obtain ⟨k1, k2⟩ := fewR_ok f _ hb2 h
          exact ⟨k1, by omega⟩
        · rw [if_neg h6] at h
          cases h
theorem wrap64_bd (n : Int) : -9223372036854775808 ≤ wrap64 n ∧ wrap64 n ≤ 9223372036854775807 := by unfold wrap64; omega
theorem nextR_ok {s : St} (hs : OkS s) {r : List Bool} {x : Int × Nat} {s' : St} {r' : List Bool} (h : nextR s r = .ok (x, s', r')) : SmpOk x ∧ OkS s' ∧ r'.length + 2 ≤ r.length := by
  unfold nextR at h
  by_cases h0 : s.n = 0
  · rw [if_pos h0] at h
    cases hg : fewR 11 [] r with
    | error e => rw [hg] at h; cases h
    | ok v =>
      obtain ⟨u, r1⟩ := v
      obtain ⟨k1, k2⟩ := fewR_ok 11 [] (fun _ hx => by cases hx) hg
      rw [hg] at h
      simp only at h
      cases hg2 : getX 64 r1 with
      | error e => rw [hg2] at h; cases h
      | ok v =>
        obtain ⟨y, r2⟩ := v
        obtain ⟨k3, k4⟩ := getX_ok hg2
        rw [hg2] at h
        simp only at h
        injection h with h
        injection h with h1 h2
        injection h2 with h2 h3
        subst h1 h2 h3
        have hz : -9223372036854775808 ≤ zagI u ∧ zagI u ≤ 9223372036854775807 := by unfold zagI; split <;> omega
        exact ⟨⟨hz, k3⟩, ⟨hz, k3, by simp only; decide, hs.w⟩, by omega⟩
  · rw [if_neg h0] at h
    by_cases h1 : s.n = 1
    · rw [if_pos h1] at h
      cases hg : fewR 11 [] r with
      | error e => rw [hg] at h; cases h
      | ok v =>
        obtain ⟨u, r1⟩ := v
        obtain ⟨k1, k2⟩ := fewR_ok 11 [] (fun _ hx => by cases hx) hg
        rw [hg] at h
        simp only at h
        cases hg2 : turnR s.w r1 with
        | error e => rw [hg2] at h; cases h
        | ok v =>
          obtain ⟨y, w2, r2⟩ := v
          obtain ⟨k3, k4, k5⟩ := turnR_ok hs.w hg2
          rw [hg2] at h
          simp only at h
          injection h with h
          injection h with h1 h2
          injection h2 with h2 h3
          subst h1 h2 h3
          have hv : s.v ^^^ y < 2 ^ 64 := Nat.xor_lt_two_pow hs.v k3
          exact ⟨⟨wrap64_bd _, hv⟩, ⟨wrap64_bd _, hv, by simp only; omega, k4⟩, by omega⟩
    · rw [if_neg h1] at h
      cases hg : changeR [0, 14, 17, 20] r with
      | error e => rw [hg] at h; cases h
      | ok v =>
        obtain ⟨u, r1⟩ := v
        have k2 := changeR_ok _ hg
        rw [hg] at h
        simp only at h
        cases hg2 : turnR s.w r1 with
        | error e => rw [hg2] at h; cases h
        | ok v =>
          obtain ⟨y, w2, r2⟩ := v
          obtain ⟨k3, k4, k5⟩ := turnR_ok hs.w hg2
          rw [hg2] at h
          simp only at h
          injection h with h
          injection h with h1 h2
          injection h2 with h2 h3
          subst h1 h2 h3
          have hv : s.v ^^^ y < 2 ^ 64 := Nat.xor_lt_two_pow hs.v k3
          exact ⟨⟨wrap64_bd _, hv⟩, ⟨wrap64_bd _, hv, u64_lt _, k4⟩, by omega⟩
theorem allR_ok : ∀ (n : Nat) {s : St} (hs : OkS s) {r : List Bool} {l : List (Int × Nat)} {r' : List Bool} (h : allR n s r = .ok (l, r')), l.length = n ∧ (∀ x ∈ l, SmpOk x) ∧ r'.length + 2 * n ≤ r.length
  | 0, s, hs, r, l, r', h => by
    unfold allR at h
    injection h with h
    injection h with h1 h2
    subst h1 h2
    exact ⟨rfl, (fun _ hx => by cases hx), by omega⟩
  | n + 1, s, hs, r, l, r', h => by
    unfold allR at h
    cases hg : nextR s r with
    | error e => rw [hg] at h; cases h
    | ok v =>
      obtain ⟨x, s1, r1⟩ := v
      obtain ⟨k1, k2, k3⟩ := nextR_ok hs hg
      rw [hg] at h
      simp only at h
      cases hg2 : allR n s1 r1 with
      | error e => rw [hg2] at h; cases h
      | ok v =>
        obtain ⟨l2, r2⟩ := v
        obtain ⟨k4, k5, k6⟩ := allR_ok n k2 hg2
        rw [hg2] at h
        simp only at h
        injection h with h
        injection h with h1 h2
        subst h1 h2
        refine ⟨by rw [List.length_cons, k4], fun y hy => ?_, by omega⟩
        rcases List.mem_cons.1 hy with rfl | hy
        · exact k1
        · exact k5 y hy
theorem unpackR_ok {r : List Bool} {l : List (Int × Nat)} {r' : List Bool} (h : unpackR r = .ok (l, r')) : l.length < 65536 ∧ (∀ x ∈ l, SmpOk x) ∧ 2 * l.length ≤ r.length := by
  unfold unpackR at h
  cases hg : getX 16 r with
  | error e => rw [hg] at h; cases h
  | ok v =>
    obtain ⟨n, r1⟩ := v
    obtain ⟨g1, g2⟩ := getX_ok hg
    rw [hg] at h
    simp only at h
    obtain ⟨k1, k2, k3⟩ := allR_ok n st0_ok h
    exact ⟨by omega, k2, by omega⟩
end Go.Proofs.YtmllgglcdlcdhaaDoor.Xs
end
section
namespace Go.Proofs.YtmllgglcdlcdhaaDoorW.PrintWords
open Go.RowKit
section
variable {P : Program} {d : Nat} {xs ys : Array Value} {f : Field} {fs : List Field} {a b : Value} {r s : Bool} {w : World}
theorem eqf_last (hn : (f.name == "_") = false) (ha : (part f.type xs f.offset).run P w = .ok a w) (hb : (part f.type ys f.offset).run P w = .ok b w) (he : (Op.equalIn d f.type a b).run P w = .ok r w) : (Op.eqFields d xs ys [f]).run P w = .ok r w := by
  have hn' : f.name ≠ "_" := by simpa using hn
  simp only [Op.eqFields, if_pos hn', Sem.run_bind, ha, hb, he, Result.andThen_ok]
  cases r <;> simp
theorem eqf_cons (hn : (f.name == "_") = false) (ha : (part f.type xs f.offset).run P w = .ok a w) (hb : (part f.type ys f.offset).run P w = .ok b w) (he : (Op.equalIn d f.type a b).run P w = .ok r w) (hr : (Op.eqFields d xs ys fs).run P w = .ok s w) : (Op.eqFields d xs ys (f :: fs)).run P w = .ok (r && s) w := by
  have hn' : f.name ≠ "_" := by simpa using hn
  rw [Op.eqFields]
  simp only [if_pos hn', Sem.run_bind, ha, hb, he, Result.andThen_ok]
  cases r
  · simp
  · simpa using hr
theorem eqA_of {t : TypeId} {fs : Array Field} (hu : P.underlying t = some (.struct fs)) (hp : P.stoodInHeld t = false) (h : (Op.eqFields d xs ys fs.toList).run P w = .ok r w) : (Op.equalIn (d + 1) t (.agg xs) (.agg ys)).run P w = .ok r w := by
  have hf : P.fieldsOf t = fs := by simp [Program.fieldsOf, hu]
  rw [run_equalIn_struct (P := P) w d t xs ys (by rw [hf]; exact hu) hp, hf]
  exact h
end
end Go.Proofs.YtmllgglcdlcdhaaDoorW.PrintWords
end
section
namespace Go.Proofs.YtmllgglcdlcdhaaDoorW.PrintWords
theorem Reps.one {α : Type} {R : α → List Value → Prop} {ps : List α} {cs : List Value} {p : α} {v : Value} (hp : R p [v]) (h : Reps R 1 ps cs) : Reps R 1 (p :: ps) (v :: cs) := by
  refine ⟨by simp [h.1], fun j q hq => ?_⟩
  cases j with
  | zero =>
    simp only [List.getElem?_cons_zero, Option.some.injEq] at hq
    subst hq
    simpa using hp
  | succ j =>
    simp only [List.getElem?_cons_succ] at hq
    have h1 := h.2 j q hq
    simpa [Nat.mul_one] using h1
theorem Reps.front {α : Type} {R : α → List Value → Prop} {size : Nat} {ps : List α} {cs c all : List Value} {p : α} (hp : R p c) (hc : c.length = size) (h : Reps R size ps cs) (ha : c ++ cs = all) : Reps R size (p :: ps) all := by
  subst ha
  refine ⟨by rw [List.length_append, hc, h.1, List.length_cons, Nat.succ_mul, Nat.add_comm], fun j q hq => ?_⟩
  cases j with
  | zero =>
    simp only [List.getElem?_cons_zero, Option.some.injEq] at hq
    subst hq
    rw [Nat.zero_mul, List.drop_zero, List.take_append_of_le_length (by omega), List.take_of_length_le (by omega)]
    exact hp
  | succ j =>
    simp only [List.getElem?_cons_succ] at hq
    have h1 := h.2 j q hq
    rw [Nat.succ_mul, List.drop_append, List.drop_of_length_le (by rw [hc]; exact Nat.le_add_left _ _), List.nil_append, hc, Nat.add_sub_cancel]
    exact h1
theorem Reps.c2 {α : Type} {R : α → List Value → Prop} {ps : List α} {cs : List Value} {p : α} {va vb : Value} (hp : R p [va, vb]) (h : Reps R 2 ps cs) : Reps R 2 (p :: ps) (va :: vb :: cs) := Reps.front hp rfl h rfl
theorem Reps.c3 {α : Type} {R : α → List Value → Prop} {ps : List α} {cs : List Value} {p : α} {va vb vc : Value} (hp : R p [va, vb, vc]) (h : Reps R 3 ps cs) : Reps R 3 (p :: ps) (va :: vb :: vc :: cs) := Reps.front hp rfl h rfl
theorem Reps.c4 {α : Type} {R : α → List Value → Prop} {ps : List α} {cs : List Value} {p : α} {va vb vc vd : Value} (hp : R p [va, vb, vc, vd]) (h : Reps R 4 ps cs) : Reps R 4 (p :: ps) (va :: vb :: vc :: vd :: cs) := Reps.front hp rfl h rfl
theorem Reps.c5 {α : Type} {R : α → List Value → Prop} {ps : List α} {cs : List Value} {p : α} {va vb vc vd ve : Value} (hp : R p [va, vb, vc, vd, ve]) (h : Reps R 5 ps cs) : Reps R 5 (p :: ps) (va :: vb :: vc :: vd :: ve :: cs) := Reps.front hp rfl h rfl
theorem Reps.c6 {α : Type} {R : α → List Value → Prop} {ps : List α} {cs : List Value} {p : α} {va vb vc vd ve vf : Value} (hp : R p [va, vb, vc, vd, ve, vf]) (h : Reps R 6 ps cs) : Reps R 6 (p :: ps) (va :: vb :: vc :: vd :: ve :: vf :: cs) := Reps.front hp rfl h rfl
theorem Reps.c7 {α : Type} {R : α → List Value → Prop} {ps : List α} {cs : List Value} {p : α} {va vb vc vd ve vf vg : Value} (hp : R p [va, vb, vc, vd, ve, vf, vg]) (h : Reps R 7 ps cs) : Reps R 7 (p :: ps) (va :: vb :: vc :: vd :: ve :: vf :: vg :: cs) := Reps.front hp rfl h rfl
theorem Reps.c8 {α : Type} {R : α → List Value → Prop} {ps : List α} {cs : List Value} {p : α} {va vb vc vd ve vf vg vh : Value} (hp : R p [va, vb, vc, vd, ve, vf, vg, vh]) (h : Reps R 8 ps cs) : Reps R 8 (p :: ps) (va :: vb :: vc :: vd :: ve :: vf :: vg :: vh :: cs) := Reps.front hp rfl h rfl
theorem Reps.c9 {α : Type} {R : α → List Value → Prop} {ps : List α} {cs : List Value} {p : α} {va vb vc vd ve vf vg vh vi : Value} (hp : R p [va, vb, vc, vd, ve, vf, vg, vh, vi]) (h : Reps R 9 ps cs) : Reps R 9 (p :: ps) (va :: vb :: vc :: vd :: ve :: vf :: vg :: vh :: vi :: cs) := Reps.front hp rfl h rfl
theorem Reps.c10 {α : Type} {R : α → List Value → Prop} {ps : List α} {cs : List Value} {p : α} {va vb vc vd ve vf vg vh vi vj : Value} (hp : R p [va, vb, vc, vd, ve, vf, vg, vh, vi, vj]) (h : Reps R 10 ps cs) : Reps R 10 (p :: ps) (va :: vb :: vc :: vd :: ve :: vf :: vg :: vh :: vi :: vj :: cs) := Reps.front hp rfl h rfl
end Go.Proofs.YtmllgglcdlcdhaaDoorW.PrintWords
end
section
namespace Go.Proofs.YtmllgglcdlcdhaaDoorW.PrintWords
open Go.RowKit
section
variable {P : Program} {ops : Array Oper} {rest : List Oper} {o : Oper} {a : Act} {Q : Exit → Act → World → Prop} {W : World}
theorem gate_guard (hw : Region.wanted o (yielded ops a.tmps) = true) (h : wpList P ops Q ({ o with guard := none } :: rest) a W) : wpList P ops Q (o :: rest) a W := by
  have h1 : Region.wanted { o with guard := none } (yielded ops a.tmps) = true := rfl
  unfold wpList at h ⊢
  rw [if_pos h1] at h
  rw [if_pos hw]
  exact h
end
end Go.Proofs.YtmllgglcdlcdhaaDoorW.PrintWords
end
section
namespace Go.Proofs.YtmllgglcdlcdhaaDoor
theorem y1_ {p : Prop} (h : p := by repeat (first | (with_reducible first | exact HB.out | apply below_alloc | apply pw_below_drewN | apply below_drew1) | exact HB.out)) : p := h
theorem y2_ {p : Prop} (h : p := by (try simp only [List.map_toArray, List.map_cons, List.map_nil]); first | done | rfl | (simp only [List.length_drop, List.length_take]; rfl)) : p := h
theorem y3_ {p : Prop} (h : p := by (with_reducible repeat (first | apply Kd.R_alloc | apply Kd.R_drewN | apply Kd.R_drew)); exact HO104.out) : p := h
theorem y4_ {p : Prop} (h : p := by (with_reducible repeat (first | apply Kd.R_alloc | apply Kd.R_drewN | apply Kd.R_drew)); exact HO107.out) : p := h
theorem y5_ {p : Prop} (h : p := by (with_reducible repeat (first | apply Kd.R_alloc | apply Kd.R_drewN | apply Kd.R_drew)); exact HO111.out) : p := h
theorem y6_ {p : Prop} (h : p := by (with_reducible repeat (first | apply Kd.V_alloc | apply Kd.V_drewN | apply Kd.V_drew)); exact HO_0.out) : p := h
theorem y7_ {p : Prop} (h : p := by first | rfl | (simp [errW_none, errW_some] <;> rfl) | (simp [*, errW_none, errW_some] <;> rfl)) : p := h
theorem y8_ {p : Prop} (h : p := by (with_reducible repeat (first | apply Kd.R_alloc | apply Kd.R_drewN | apply Kd.R_drew)); exact HO115.out) : p := h
theorem y9_ {p : Prop} (h : p := by (with_reducible repeat (first | apply Kd.N_alloc | apply Kd.N_drewN | apply Kd.N_drew)); exact HO220.out) : p := h
theorem y10_ {p : Prop} (h : p := by (with_reducible repeat (first | apply Kd.R_alloc | apply Kd.R_drewN | apply Kd.R_drew)); exact HO118.out) : p := h
theorem y11_ {p : Prop} (h : p := by first | rfl | (simp only [List.length_drop, List.length_take]; done) | (simp; done) | (simp [*]; done) | (simp [Kd.ne_nil_, Kd.eq_nil_]; done)) : p := h
theorem y12_ {p : Prop} (h : p := by (with_reducible repeat (first | apply Kd.R_alloc | apply Kd.R_drewN | apply Kd.R_drew)); exact HO227.out) : p := h
theorem y13_ {p : Prop} (h : p := by (with_reducible repeat (first | apply Kd.R_alloc | apply Kd.R_drewN | apply Kd.R_drew)); exact HO223.out) : p := h
theorem y14_ {p : Prop} (h : p := by first | (with_reducible assumption) | assumption) : p := h
theorem y15_ {p : Prop} (h : p := by (with_reducible repeat (first | apply Kd.V_alloc | apply Kd.V_drewN | apply Kd.V_drew)); exact HO0.out) : p := h
theorem y16_ {p : Prop} (h : p := by repeat (first | exact Drawn0.refl _ | apply Drawn0.step)) : p := h
end Go.Proofs.YtmllgglcdlcdhaaDoor
end
section
namespace Go.Proofs.YtmllgglcdlcdhaaDoor.PXL
open Go.RowKit Go.Proofs.YtmllgglcdlcdhaaDoorW.PrintWords Go.Proofs.YtmllgglcdlcdhaaDoorW.PrintLast Go.Proofs.YtmllgglcdlcdhaaDoorW.PrintMore
attribute [local go_sem] max2_int min2_int max_two min_two max_three min_three max_four min_four
set_option linter.unusedVariables false
set_option linter.unusedSimpArgs false
def errW : Option Int → Value
 | none => .nilIface
 | some c => .iface 0 (.int .i64 c)
theorem errW_none : errW none = .nilIface := rfl
theorem errW_some (c : Int) : errW (some c) = .iface 0 (.int .i64 c) := rfl
theorem info5 : (Tryd.prog.info? 5).map (fun i => (i.zero, i.size, i.bytes)) = some (some (.int .u8 0), 1, 1) := by kernel_rfl
structure S39 where
 f0 : Int
 f1 : Int
def z39 : S39 := ⟨(0 : Int), (0 : Int)⟩
def k39 : Kd S39 := Kd.iso (Kd.pair (Kd.int .i64) (Kd.int .u64)) (fun x : S39 => (x.f0, x.f1))
theorem k39_open {w : World} {x : S39} {cs : List Value} (h : k39.K w x cs) : cs = [.int .i64 x.f0, .int .u64 x.f1] := by
 obtain ⟨_, _, rfl, rfl, rfl⟩ := h
 exact rfl
theorem k39_mkM (w : World) (base : Nat) (ok : Nat → Prop) (x : S39)  : k39.M w base ok x [.int .i64 x.f0, .int .u64 x.f1] := ⟨[.int .i64 x.f0], [.int .u64 x.f1], rfl, rfl, rfl⟩
def rd_T39 (xs : List S39) (i : Int) : S39 := xs.getD i.toNat z39
theorem at_T39 {w : World} {A : Option Addr} {n : Nat} {xs : List S39} (h : Kd.C k39 w A n xs) (i : Int) (h0 : 0 ≤ i) (h1 : i < n) : ∃ ad , A = some ad ∧ w.cell? (ad.add (i.toNat * 2)) = some (.int .i64 (rd_T39 xs i).f0) ∧ w.cell? ⟨(ad.add (i.toNat * 2)).block, (ad.add (i.toNat * 2)).off + 1, none⟩ = some (.int .u64 (rd_T39 xs i).f1) := by
 obtain ⟨ad, c, e, _, hK, hc0⟩ := Kd.C_get h z39 i h0 h1
 have hc : ∀ j u, c[j]? = some u → w.cell? (ad.add (i.toNat * 2 + j)) = some u := hc0
 obtain rfl := k39_open hK
 exact ⟨ad, e, hc 0 _ rfl, by rw [← add_field _ _ 1 (by omega)]; exact hc 1 _ rfl⟩
def rd_L5 (xs : List (List Int)) (i : Int) : (List Int) := xs.getD i.toNat ([] : List Int)
theorem at_L5 {w : World} {A : Option Addr} {n : Nat} {xs : List (List Int)} (h : Kd.C (Kd.slice 5 (Kd.int .u8)) w A n xs) (i : Int) (h0 : 0 ≤ i) (h1 : i < n) : ∃ ad A0 c0, A = some ad ∧ w.cell? (ad.add i.toNat) = some (.slice A0 (rd_L5 xs i).length c0) ∧ (rd_L5 xs i).length ≤ c0 ∧ (Kd.int .u8).C w A0 (rd_L5 xs i).length (rd_L5 xs i) := by
 obtain ⟨ad, c, e, _, hK, hc0⟩ := Kd.C_get h ([] : List Int) i h0 h1
 have hc : ∀ j u, c[j]? = some u → w.cell? (ad.add (i.toNat * 1 + j)) = some u := hc0
 obtain ⟨A0, c0, rfl, l0, g0⟩ := hK
 exact ⟨ad, A0, c0, e, by have hq := hc 0 _ rfl; rwa [Nat.mul_one, Nat.add_zero] at hq, l0, g0⟩
end Go.Proofs.YtmllgglcdlcdhaaDoor.PXL
end
section
namespace Go.Proofs.YtmllgglcdlcdhaaDoor.PXL
open Go Go.RowKit Go.Proofs.YtmllgglcdlcdhaaDoor Go.Proofs.YtmllgglcdlcdhaaDoorW.PrintWords Go.Proofs.YtmllgglcdlcdhaaDoorW.PrintLast Go.Proofs.YtmllgglcdlcdhaaDoorW.PrintMore Bq Xs
set_option linter.unusedVariables false
set_option maxRecDepth 100000
theorem info_smp : (Tryd.prog.info? 39).map (fun i => (i.zero, i.size, i.bytes)) = some (some (.agg #[.int .i64 0, .int .u64 0]), 2, 16) := by kernel_rfl
def smpOkB (x : S39) : Bool := decide ((-9223372036854775808 ≤ x.f0 ∧ x.f0 ≤ 9223372036854775807) ∧ 0 ≤ x.f1 ∧ x.f1 < 18446744073709551616)
def smps (l : List S39) : List (Int × Nat) := l.map fun x => (x.f0, x.f1.toNat)
def smpB (l : List (Int × Nat)) : List S39 := l.map fun x => ⟨x.1, (x.2 : Nat)⟩
def getS (l : List Int) : List S39 × Int := match getL l with
  | .ok l => (smpB l, 0)
  | .error e => ([], e)
theorem smps_length (l : List S39) : (smps l).length = l.length := List.length_map _
theorem smpB_length (l : List (Int × Nat)) : (smpB l).length = l.length := List.length_map _
theorem smps_smpB (l : List (Int × Nat)) : smps (smpB l) = l := by
  unfold smps smpB
  rw [List.map_map]
  refine (List.map_congr_left (g := id) fun x _ => ?_).trans (List.map_id _)
  show (x.1, ((x.2 : Nat) : Int).toNat) = x
  rw [Int.toNat_natCast]
theorem smps_ok (l : List S39) (h : l.all smpOkB = true) : ∀ x ∈ smps l, SmpOk x := by
  intro x hx
  obtain ⟨y, hy, rfl⟩ := List.mem_map.1 hx
  have h1 := of_decide_eq_true (List.all_eq_true.1 h y hy)
  exact ⟨h1.1, by show y.f1.toNat < 2 ^ 64; omega⟩
theorem smpB_ok (l : List (Int × Nat)) (h : ∀ x ∈ l, SmpOk x) : (smpB l).all smpOkB = true := by
  refine List.all_eq_true.2 fun x hx => ?_
  obtain ⟨y, hy, rfl⟩ := List.mem_map.1 hx
  have h1 := h y hy
  exact decide_eq_true ⟨h1.1, by show (0 : Int) ≤ (y.2 : Nat); omega, by show ((y.2 : Nat) : Int) < _; have := h1.2; omega⟩
theorem smpRow_of {w : World} {A : Option Addr} {l : List S39} (h : Kd.C k39 w A l.length l) (hb : ∀ x ∈ l, 0 ≤ x.f1) : SmpRow w A (smps l) := by
  intro i hi
  have hil : i < l.length := by rwa [smps_length] at hi
  obtain ⟨ad, e, h1, h2⟩ := at_T39 h (i : Int) (by omega) (by omega)
  rw [Int.toNat_natCast] at h1 h2
  have hr : rd_T39 l (i : Int) = l[i] := by unfold rd_T39; rw [Int.toNat_natCast, List.getD_eq_getElem?_getD, List.getElem?_eq_getElem hil]; rfl
  have hx : (smps l).getD i (0, 0) = (l[i].f0, l[i].f1.toNat) := by unfold smps; rw [List.getD_eq_getElem?_getD, List.getElem?_map, List.getElem?_eq_getElem hil]; rfl
  have h0 := hb _ (List.getElem_mem hil)
  rw [hr] at h1 h2
  rw [add_next_cell] at h2
  refine ⟨ad, e, ?_, ?_⟩
  · rw [hx]; exact h1
  · rw [hx, h2]
    show some (Value.int .u64 _) = some (Value.int .u64 ((l[i].f1.toNat : Nat) : Int))
    rw [Int.toNat_of_nonneg h0]
theorem all_f1 {l : List S39} (h : l.all smpOkB = true) : ∀ x ∈ l, 0 ≤ x.f1 := fun x hx => (of_decide_eq_true (List.all_eq_true.1 h x hx)).2.1
end Go.Proofs.YtmllgglcdlcdhaaDoor.PXL
end
section
namespace Go.Proofs.YtmllgglcdlcdhaaDoor.Xs
open Go Go.RowKit Go.Proofs.YtmllgglcdlcdhaaDoor Bq Go.Proofs.YtmllgglcdlcdhaaDoor.Pu
set_option linter.unusedVariables false
abbrev Sg := Except Int (List Bool)
def errT : Sg → Int
  | .error e => e
  | .ok _ => 0
def failT (e : Int) : Sg → Sg
  | .error e' => .error e'
  | .ok _ => .error e
def getT (w : Nat) : Sg → Nat × Sg
  | .error e => (0, .error e)
  | .ok r => match getX w r with
    | .error e => (0, .error e)
    | .ok (n, r) => (n, .ok r)
def fewT : Sg → Int × Sg
  | .error e => (0, .error e)
  | .ok r => match fewR 11 [] r with
    | .error e => (0, .error e)
    | .ok (u, r) => (u, .ok r)
def signT (w : Nat) (σ : Sg) : Int × Sg := (signX (getT w σ).1 w, (getT w σ).2)
def changeT : List Nat → Sg → Int × Sg
  | [], σ => signT 64 σ
  | w :: ws, σ => if (getT 1 σ).1 = 0 then (if w = 0 then (0, (getT 1 σ).2) else signT w (getT 1 σ).2) else changeT ws (getT 1 σ).2
def wideT (m : Nat) : Nat := if m = 0 then 64 else m
def turnT5 (w : Win) (l m : Nat) : Sg → Nat × Win × Sg
  | .error e => (0, w, .error e)
  | .ok r => ((getT m (.ok r)).1 * 2 ^ (64 - l - m), ⟨true, l, 64 - l - m⟩, (getT m (.ok r)).2)
def formT (l m : Nat) (σ : Sg) : Sg := if 64 < l + m then failT 8 σ else σ
def turnT4 (w : Win) (l m : Nat) (σ : Sg) : Nat × Win × Sg := turnT5 w l m (formT l m σ)
def turnT2 (w : Win) (σ : Sg) : Nat × Win × Sg :=
  if (getT 1 σ).1 = 0 then (if w.set = true then ((getT (64 - w.lead - w.trail) (getT 1 σ).2).1 * 2 ^ w.trail, w, (getT (64 - w.lead - w.trail) (getT 1 σ).2).2) else (0, w, failT 8 (getT 1 σ).2))
  else turnT4 w (getT 5 (getT 1 σ).2).1 (wideT (getT 6 (getT 5 (getT 1 σ).2).2).1) (getT 6 (getT 5 (getT 1 σ).2).2).2
def turnT (w : Win) (σ : Sg) : Nat × Win × Sg := if (getT 1 σ).1 = 0 then (0, w, (getT 1 σ).2) else turnT2 w (getT 1 σ).2
def nextT (s : St) (σ : Sg) : (Int × Nat) × St × Sg :=
  if s.n = 0 then ((zagI (fewT σ).1, (getT 64 (fewT σ).2).1), ⟨1, zagI (fewT σ).1, (getT 64 (fewT σ).2).1, s.step, s.w⟩, (getT 64 (fewT σ).2).2)
  else if s.n = 1 then ((wrap64 (s.t + (fewT σ).1), s.v ^^^ (turnT s.w (fewT σ).2).1), ⟨2, wrap64 (s.t + (fewT σ).1), s.v ^^^ (turnT s.w (fewT σ).2).1, (fewT σ).1.toNat, (turnT s.w (fewT σ).2).2.1⟩, (turnT s.w (fewT σ).2).2.2)
  else ((wrap64 (s.t + u64 (s.step + (changeT [0, 14, 17, 20] σ).1)), s.v ^^^ (turnT s.w (changeT [0, 14, 17, 20] σ).2).1),
    ⟨s.n + 1, wrap64 (s.t + u64 (s.step + (changeT [0, 14, 17, 20] σ).1)), s.v ^^^ (turnT s.w (changeT [0, 14, 17, 20] σ).2).1, u64 (s.step + (changeT [0, 14, 17, 20] σ).1), (turnT s.w (changeT [0, 14, 17, 20] σ).2).2.1⟩, (turnT s.w (changeT [0, 14, 17, 20] σ).2).2.2)
theorem getT_ok {w : Nat} {r r' : List Bool} {n : Nat} (h : getX w r = .ok (n, r')) : getT w (.ok r) = (n, .ok r') := by unfold getT; simp only [h]
theorem getT_no {w : Nat} {r : List Bool} {e : Int} (h : getX w r = .error e) : getT w (.ok r) = (0, .error e) := by unfold getT; simp only [h]
theorem getT_er (w : Nat) (e : Int) : getT w (.error e) = (0, .error e) := rfl
theorem fewT_ok {r r' : List Bool} {u : Int} (h : fewR 11 [] r = .ok (u, r')) : fewT (.ok r) = (u, .ok r') := by unfold fewT; simp only [h]
theorem fewT_no {r : List Bool} {e : Int} (h : fewR 11 [] r = .error e) : fewT (.ok r) = (0, .error e) := by unfold fewT; simp only [h]
theorem signT_er (w : Nat) (e : Int) : (signT w (.error e)).2 = .error e := rfl
theorem signT_ok {w : Nat} {r r' : List Bool} {d : Int} (h : signR w r = .ok (d, r')) : signT w (.ok r) = (d, .ok r') := by
  unfold signR at h
  unfold signT
  cases hg : getX w r with
  | error e => rw [hg] at h; cases h
  | ok v =>
    obtain ⟨n, r1⟩ := v
    rw [hg] at h
    rw [getT_ok hg]
    injection h with h
    injection h with h1 h2
    simp only [h1, h2]
theorem signT_no {w : Nat} {r : List Bool} {e : Int} (h : signR w r = .error e) : (signT w (.ok r)).2 = .error e := by
  unfold signR at h
  unfold signT
  cases hg : getX w r with
  | error e2 => rw [hg] at h; injection h with h; rw [getT_no hg, h]
  | ok v => rw [hg] at h; cases h
theorem changeT_ok : ∀ (ws : List Nat) {r r' : List Bool} {d : Int} (h : changeR ws r = .ok (d, r')), changeT ws (.ok r) = (d, .ok r')
  | [], r, r', d, h => signT_ok h
  | w :: ws, r, r', d, h => by
    unfold changeR at h
    unfold changeT
    cases hg : getX 1 r with
    | error e => rw [hg] at h; cases h
    | ok v =>
      obtain ⟨n, r1⟩ := v
      rw [hg] at h
      rw [getT_ok hg]
      simp only at h ⊢
      by_cases hn : n = 0
      · rw [if_pos hn] at h ⊢
        by_cases hw : w = 0
        · rw [if_pos hw] at h ⊢
          injection h with h
          injection h with h1 h2
          rw [← h1, ← h2]
        · rw [if_neg hw] at h ⊢
          exact signT_ok h
      · rw [if_neg hn] at h ⊢
        exact changeT_ok ws h
theorem changeT_no : ∀ (ws : List Nat) {r : List Bool} {e : Int} (h : changeR ws r = .error e), (changeT ws (.ok r)).2 = .error e
  | [], r, e, h => signT_no h
  | w :: ws, r, e, h => by
    unfold changeR at h
    unfold changeT
    cases hg : getX 1 r with
    | error e2 =>
      rw [hg] at h
      injection h with h
      rw [getT_no hg, if_pos rfl, h]
      split
      · rfl
      · exact signT_er w e
    | ok v =>
      obtain ⟨n, r1⟩ := v
      rw [hg] at h
      rw [getT_ok hg]
      simp only at h ⊢
      by_cases hn : n = 0
      · rw [if_pos hn] at h ⊢
        by_cases hw : w = 0
        · rw [if_pos hw] at h
          cases h
        · rw [if_neg hw] at h ⊢
          exact signT_no h
      · rw [if_neg hn] at h ⊢
        exact changeT_no ws h
theorem turnT_er (w : Win) (e : Int) : (turnT w (.error e)).2.2 = .error e := by unfold turnT; rw [getT_er, if_pos rfl]
theorem formT_er (l m : Nat) (e : Int) : formT l m (.error e) = .error e := by unfold formT; split <;> rfl
theorem turnT4_er (w : Win) (l m : Nat) (e : Int) : (turnT4 w l m (.error e)).2.2 = .error e := by unfold turnT4; rw [formT_er]; rfl
theorem turnT_ok {w : Win} {r r' : List Bool} {x : Nat} {w' : Win} (h : turnR w r = .ok (x, w', r')) : turnT w (.ok r) = (x, w', .ok r') := by
  unfold turnR at h
  unfold turnT
  cases hg : getX 1 r with
  | error e => rw [hg] at h; cases h
  | ok v =>
    obtain ⟨n, r1⟩ := v
    rw [hg] at h
    rw [getT_ok hg]
    simp only at h ⊢
    by_cases hn : n = 0
    · rw [if_pos hn] at h ⊢
      injection h with h
      injection h with h1 h2
      injection h2 with h2 h3
      rw [← h1, ← h2, ← h3]
    · rw [if_neg hn] at h ⊢
      unfold turnT2
      cases hg2 : getX 1 r1 with
      | error e => rw [hg2] at h; cases h
      | ok v =>
        obtain ⟨n2, r2⟩ := v
        rw [hg2] at h
        rw [getT_ok hg2]
        simp only at h ⊢
        by_cases hn2 : n2 = 0
        · rw [if_pos hn2] at h ⊢
          by_cases hs : w.set = true
          · rw [if_pos hs] at h ⊢
            cases hg3 : getX (64 - w.lead - w.trail) r2 with
            | error e => rw [hg3] at h; cases h
            | ok v =>
              obtain ⟨n3, r3⟩ := v
              rw [hg3] at h
              rw [getT_ok hg3]
              simp only at h ⊢
              injection h with h
              injection h with h1 h2
              injection h2 with h2 h3
              rw [← h1, ← h2, ← h3]
          · rw [if_neg hs] at h
            cases h
        · rw [if_neg hn2] at h ⊢
          cases hg3 : getX 5 r2 with
          | error e => rw [hg3] at h; cases h
          | ok v =>
            obtain ⟨l, r3⟩ := v
            rw [hg3] at h
            rw [getT_ok hg3]
            simp only at h ⊢
            cases hg4 : getX 6 r3 with
            | error e => rw [hg4] at h; cases h
            | ok v =>
              obtain ⟨m, r4⟩ := v
              rw [hg4] at h
              rw [getT_ok hg4]
              simp only at h ⊢
              unfold turnT4 formT wideT
              by_cases hb : 64 < l + (if m = 0 then 64 else m)
              · rw [if_pos hb] at h
                cases h
              · rw [if_neg hb] at h ⊢
                cases hg5 : getX (if m = 0 then 64 else m) r4 with
                | error e => rw [hg5] at h; cases h
                | ok v =>
                  obtain ⟨y, r5⟩ := v
                  rw [hg5] at h
                  unfold turnT5
                  simp only at h ⊢
                  rw [getT_ok hg5]
                  simp only
                  injection h with h
                  injection h with h1 h2
                  injection h2 with h2 h3
                  rw [← h1, ← h2, ← h3]
theorem turnT_no {w : Win} {r : List Bool} {e : Int} (h : turnR w r = .error e) : (turnT w (.ok r)).2.2 = .error e := by
  unfold turnR at h
  unfold turnT
  cases hg : getX 1 r with
  | error e2 =>
    rw [hg] at h
    injection h with h
    rw [getT_no hg, if_pos rfl, h]
  | ok v =>
    obtain ⟨n, r1⟩ := v
    rw [hg] at h
    rw [getT_ok hg]
    simp only at h ⊢
    by_cases hn : n = 0
    · rw [if_pos hn] at h
      cases h
    · rw [if_neg hn] at h ⊢
      cases hg2 : getX 1 r1 with
      | error e2 =>
        rw [hg2] at h
        injection h with h
        unfold turnT2
        rw [getT_no hg2, if_pos rfl, h]
        split <;> rfl
      | ok v =>
        obtain ⟨n2, r2⟩ := v
        rw [hg2] at h
        unfold turnT2
        rw [getT_ok hg2]
        simp only at h ⊢
        by_cases hn2 : n2 = 0
        · rw [if_pos hn2] at h ⊢
          by_cases hs : w.set = true
          · rw [if_pos hs] at h ⊢
            cases hg3 : getX (64 - w.lead - w.trail) r2 with
            | error e2 =>
              rw [hg3] at h
              injection h with h
              rw [getT_no hg3, h]
            | ok v => rw [hg3] at h; cases h
          · rw [if_neg hs] at h ⊢
            injection h with h
            rw [← h]
            rfl
        · rw [if_neg hn2] at h ⊢
          cases hg3 : getX 5 r2 with
          | error e2 =>
            rw [hg3] at h
            injection h with h
            rw [getT_no hg3, getT_er, h]
            exact turnT4_er _ _ _ _
          | ok v =>
            obtain ⟨l, r3⟩ := v
            rw [hg3] at h
            rw [getT_ok hg3]
            simp only at h ⊢
            cases hg4 : getX 6 r3 with
            | error e2 =>
              rw [hg4] at h
              injection h with h
              rw [getT_no hg4, h]
              exact turnT4_er _ _ _ _
            | ok v =>
              obtain ⟨m, r4⟩ := v
              rw [hg4] at h
              rw [getT_ok hg4]
              simp only at h ⊢
              unfold turnT4 formT wideT
              by_cases hb : 64 < l + (if m = 0 then 64 else m)
              · rw [if_pos hb] at h ⊢
                injection h with h
                rw [← h]
                rfl
              · rw [if_neg hb] at h ⊢
                cases hg5 : getX (if m = 0 then 64 else m) r4 with
                | error e2 =>
                  rw [hg5] at h
                  injection h with h
                  unfold turnT5
                  simp only
                  rw [getT_no hg5, h]
                | ok v => rw [hg5] at h; cases h
theorem nextT_ok {s : St} (h0 : s.n = 0 → s.step = 0) {r r' : List Bool} {x : Int × Nat} {s' : St} (h : nextR s r = .ok (x, s', r')) : nextT s (.ok r) = (x, s', .ok r') := by
  unfold nextR at h
  unfold nextT
  by_cases h1 : s.n = 0
  · rw [if_pos h1] at h ⊢
    cases hg : fewR 11 [] r with
    | error e => rw [hg] at h; cases h
    | ok v =>
      obtain ⟨u, r1⟩ := v
      rw [hg] at h
      rw [fewT_ok hg]
      simp only at h ⊢
      cases hg2 : getX 64 r1 with
      | error e => rw [hg2] at h; cases h
      | ok v =>
        obtain ⟨n, r2⟩ := v
        rw [hg2] at h
        rw [getT_ok hg2]
        simp only at h ⊢
        injection h with h
        injection h with h2 h3
        injection h3 with h3 h4
        rw [← h2, ← h3, ← h4, h0 h1]
  · rw [if_neg h1] at h ⊢
    by_cases h2 : s.n = 1
    · rw [if_pos h2] at h ⊢
      cases hg : fewR 11 [] r with
      | error e => rw [hg] at h; cases h
      | ok v =>
        obtain ⟨u, r1⟩ := v
        rw [hg] at h
        rw [fewT_ok hg]
        simp only at h ⊢
        cases hg2 : turnR s.w r1 with
        | error e => rw [hg2] at h; cases h
        | ok v =>
          obtain ⟨n, w2, r2⟩ := v
          rw [hg2] at h
          rw [turnT_ok hg2]
          simp only at h ⊢
          injection h with h
          injection h with h2 h3
          injection h3 with h3 h4
          rw [← h2, ← h3, ← h4]
    · rw [if_neg h2] at h ⊢
      cases hg : changeR [0, 14, 17, 20] r with
      | error e => rw [hg] at h; cases h
      | ok v =>
        obtain ⟨u, r1⟩ := v
        rw [hg] at h
        rw [changeT_ok _ hg]
        simp only at h ⊢
        cases hg2 : turnR s.w r1 with
        | error e => rw [hg2] at h; cases h
        | ok v =>
          obtain ⟨n, w2, r2⟩ := v
          rw [hg2] at h
          rw [turnT_ok hg2]
          simp only at h ⊢
          injection h with h
          injection h with h2 h3
          injection h3 with h3 h4
          rw [← h2, ← h3, ← h4]
theorem nextT_no {s : St} {r : List Bool} {e : Int} (h : nextR s r = .error e) : (nextT s (.ok r)).2.2 = .error e := by
  unfold nextR at h
  unfold nextT
  by_cases h1 : s.n = 0
  · rw [if_pos h1] at h ⊢
    cases hg : fewR 11 [] r with
    | error e2 => rw [hg] at h; injection h with h; rw [fewT_no hg, getT_er, h]
    | ok v =>
      obtain ⟨u, r1⟩ := v
      rw [hg] at h
      rw [fewT_ok hg]
      simp only at h ⊢
      cases hg2 : getX 64 r1 with
      | error e2 => rw [hg2] at h; injection h with h; rw [getT_no hg2, h]
      | ok v => rw [hg2] at h; cases h
  · rw [if_neg h1] at h ⊢
    by_cases h2 : s.n = 1
    · rw [if_pos h2] at h ⊢
      cases hg : fewR 11 [] r with
      | error e2 => rw [hg] at h; injection h with h; rw [fewT_no hg, h]; simp only [turnT_er]
      | ok v =>
        obtain ⟨u, r1⟩ := v
        rw [hg] at h
        rw [fewT_ok hg]
        simp only at h ⊢
        cases hg2 : turnR s.w r1 with
        | error e2 => rw [hg2] at h; injection h with h; rw [← h]; exact turnT_no hg2
        | ok v => rw [hg2] at h; cases h
    · rw [if_neg h2] at h ⊢
      cases hg : changeR [0, 14, 17, 20] r with
      | error e2 => rw [hg] at h; injection h with h; simp only [changeT_no _ hg, h, turnT_er]
      | ok v =>
        obtain ⟨u, r1⟩ := v
        rw [hg] at h
        rw [changeT_ok _ hg]
        simp only at h ⊢
        cases hg2 : turnR s.w r1 with
        | error e2 => rw [hg2] at h; injection h with h; rw [← h]; exact turnT_no hg2
        | ok v => rw [hg2] at h; cases h
def goodE (σ : Sg) : Prop := ∀ e, σ = .error e → e ≠ 0
theorem getT_lt (w : Nat) (σ : Sg) : (getT w σ).1 < 2 ^ w := by
  cases σ with
  | error e => exact Nat.pos_of_ne_zero (by show 2 ^ w ≠ 0; simp)
  | ok r =>
    unfold getT
    simp only
    cases hg : getX w r with
    | error e => exact Nat.pos_of_ne_zero (by show 2 ^ w ≠ 0; simp)
    | ok v => obtain ⟨n, r1⟩ := v; exact (getX_ok hg).1
theorem ug_short : ∀ (xs : List Int) (k acc : Nat), (ug k acc xs).2.2 = 6 → k + xs.length < 10
  | [], k, acc, h => by
    unfold ug at h
    split at h
    · simpa using ‹_›
    · exact absurd h (by decide)
  | x :: xs, k, acc, h => by
    unfold ug at h
    split at h
    · exact absurd h (by decide)
    · split at h
      · exact absurd h (by decide)
      · split at h
        · split at h
          · exact absurd h (by decide)
          · exact absurd h (show ¬ (0 : Int) = 6 by decide)
        · have := ug_short xs _ _ h
          rw [List.length_cons]
          omega
end Go.Proofs.YtmllgglcdlcdhaaDoor.Xs
end
section
namespace Go.Proofs.YtmllgglcdlcdhaaDoor
open Go.RowKit Go.Proofs.YtmllgglcdlcdhaaDoorW.PrintWords Go.Proofs.YtmllgglcdlcdhaaDoorW.PrintMore Bq
set_option linter.unusedVariables false
set_option maxRecDepth 100000
set_option linter.unusedSimpArgs false
attribute [local go_sem ↓] Go.wp_at_zero Go.wp_at_succ
structure RdB (w : World) (ok : Nat → Prop) (g : Nat) (at_ n : Nat) (v : Value) (xs : List Int) : Prop where
  blk : w.heap[g]? = some (.cells #[.bool true, .int .i64 at_, .int .i64 n, v] 98 (0, 0))
  row : (Kd.int .u8).R 5 w 0 ok v xs
  okg : ok g
  le : at_ ≤ n
  le8 : n ≤ 8 * xs.length
  byts : Byts xs
  small : xs.length ≤ 1000000000000
def Rd (w : World) (ok : Nat → Prop) (g : Nat) (rem : List Bool) : Prop := ∃ at_ n v xs, RdB w ok g at_ n v xs ∧ rem = (bitsOf xs n).drop at_
theorem RdB.drewN {w : World} {ok : Nat → Prop} {g at_ n : Nat} {v : Value} {xs : List Int} (h : RdB w ok g at_ n v xs) (m : Nat) : RdB (w.drewN m) ok g at_ n v xs :=
  ⟨h.blk, Kd.R_drewN h.row m, h.okg, h.le, h.le8, h.byts, h.small⟩
theorem RdB.drew {w : World} {ok : Nat → Prop} {g at_ n : Nat} {v : Value} {xs : List Int} (h : RdB w ok g at_ n v xs) : RdB w.drew ok g at_ n v xs :=
  ⟨h.blk, Kd.R_drew h.row, h.okg, h.le, h.le8, h.byts, h.small⟩
theorem RdB.kept {w w1 : World} {ok S : Nat → Prop} {g at_ n : Nat} {v : Value} {xs : List Int} (h : RdB w ok g at_ n v xs) (hm : Mod S w w1) (hs : ∀ k, ok k → k < w.heap.size → ¬ S k) : RdB w1 ok g at_ n v xs :=
  ⟨hm.blk h.blk (hs g h.okg (blk_lt h.blk)), Kd.R_step h.row (fun k ho hk => hm.block k hk (hs k ho hk)), h.okg, h.le, h.le8, h.byts, h.small⟩
theorem Rd.kept {w w1 : World} {ok S : Nat → Prop} {g : Nat} {rem : List Bool} (h : Rd w ok g rem) (hm : Mod S w w1) (hs : ∀ k, ok k → k < w.heap.size → ¬ S k) : Rd w1 ok g rem := by
  obtain ⟨a, n, v, xs, h1, h2⟩ := h
  exact ⟨a, n, v, xs, h1.kept hm hs, h2⟩
theorem Rd.bound {w : World} {ok : Nat → Prop} {g : Nat} {rem : List Bool} (h : Rd w ok g rem) : Rd w (fun k => ok k ∧ k < w.heap.size) g rem := by
  obtain ⟨a, n, v, xs, h1, h2⟩ := h
  exact ⟨a, n, v, xs, ⟨h1.blk, Kd.R_mono (Kd.R_bound h1.row) (fun k hk => ⟨hk.1, hk.2.2.1⟩), ⟨h1.okg, blk_lt h1.blk⟩, h1.le, h1.le8, h1.byts, h1.small⟩, h2⟩
theorem Rd.mono {w : World} {ok ok' : Nat → Prop} {g : Nat} {rem : List Bool} (h : Rd w ok g rem) (hs : ∀ k, ok k → ok' k) : Rd w ok' g rem := by
  obtain ⟨a, n, v, xs, h1, h2⟩ := h
  exact ⟨a, n, v, xs, ⟨h1.blk, Kd.R_mono h1.row hs, hs g h1.okg, h1.le, h1.le8, h1.byts, h1.small⟩, h2⟩
theorem rok_made (w : World) (g : Nat) (b : Bool) (a n : Int) (v : Value) (hg : w.heap[g]? = some (.cells #[.bool b, .int .i64 a, .int .i64 n, v] 98 (0, 0))) :
    Calls Tryd.prog 69 #[.pointer (some ⟨g, 0, none⟩)] w fun e w' => e = .returned (.bool b) ∧ w = w' := by
  have h0 : w.cell? ⟨g, 0, none⟩ = some (.bool b) := (blk_cell hg 0).trans rfl
  go_enter Tryd.func69, Tryd.ntmps69
  go_wp2
  go_ret
  exact ⟨rfl, rfl⟩
end Go.Proofs.YtmllgglcdlcdhaaDoor
end
section
namespace Go.Proofs.YtmllgglcdlcdhaaDoor
open Go.RowKit Go.Proofs.YtmllgglcdlcdhaaDoorW.PrintWords Go.Proofs.YtmllgglcdlcdhaaDoorW.PrintMore Bq
set_option linter.unusedVariables false
set_option maxRecDepth 100000
set_option linter.unusedSimpArgs false
attribute [local go_sem ↓] Go.wp_at_zero Go.wp_at_succ
def getE (rem : List Bool) (width : Int) : Int := if width < 0 ∨ 64 < width then 1 else if (rem.length : Int) < width then 6 else 0
def getN (rem : List Bool) (width : Int) : Int := if getE rem width = 0 then bnum (rem.take width.toNat) else 0
def getR (rem : List Bool) (width : Int) : List Bool := if getE rem width = 0 then rem.drop width.toNat else rem
theorem take_next (xs : List Int) (a n k : Nat) (h : a + k < n) : ((bitsOf xs n).drop a).take (k + 1) = ((bitsOf xs n).drop a).take k ++ [bitAt xs (a + k)] := by
  have hl : k < ((bitsOf xs n).drop a).length := by rw [List.length_drop, bitsOf_length]; omega
  rw [List.take_succ_eq_append_getElem hl, List.getElem_drop, bitsOf_get xs n (a + k) h]
theorem next_bit (xs : List Int) (o k c : Nat) (x : Int) (hk : k < 64) (ho : o < 2 ^ k) (hx0 : 0 ≤ x) (hx1 : x < 256) (hx : x = rdOf 0 xs ((c / 8 : Nat) : Int)) :
    bits .or .u64 (IntKind.u64.wrap ((o : Int) * 2)) (IntKind.u64.wrap (bits .and .u8 (x / 2 ^ (7 - c % 8)) 1)) = ((2 * o + (bitAt xs c).toNat : Nat) : Int) := by
  obtain ⟨y, rfl⟩ := Int.eq_ofNat_of_zero_le hx0
  have hp : (2 : Nat) ^ k ≤ 2 ^ 63 := Nat.pow_le_pow_right (by decide) (by omega)
  have hy : y / 2 ^ (7 - c % 8) < 256 := Nat.lt_of_le_of_lt (Nat.div_le_self _ _) (by omega)
  have e1 : ((y : Int) / 2 ^ (7 - c % 8)) = ((y / 2 ^ (7 - c % 8) : Nat) : Int) := by simp
  have hb : (bitAt xs c).toNat = y / 2 ^ (7 - c % 8) % 2 := by
    unfold bitAt
    have hy2 : xs.getD (c / 8) 0 = (y : Int) := by rw [hx]; unfold rdOf; rw [Int.toNat_natCast]
    rw [hy2, Int.toNat_natCast, Nat.toNat_testBit]
  rw [hb, e1]
  generalize y / 2 ^ (7 - c % 8) = m at *
  have e2 : bits .and .u8 (m : Int) 1 = (m : Int) % 2 := by
    have := bits_mask .u8 8 (by decide) wraps_u8 1 (by omega) (m : Int) (Int.natCast_nonneg _) (by omega)
    simpa using this
  rw [e2, wraps_u64 _ (by omega) (by omega), wraps_u64 _ (by omega) (by omega)]
  rw [bits_join .u64 64 (by decide) wraps_u64 1 _ _ (by omega) (by omega) (by omega) (by omega) (by omega) (by omega)]
  omega
theorem RdB.step {w0 w : World} {ok : Nat → Prop} {g c n gr cap : Nat} {xs : List Int} (h : RdB w ok g c n (.slice (some ⟨gr, 0, none⟩) xs.length cap) xs) (hm : Mod (fun k => k = g) w0 w) (hc : c < n) :
    RdB (w.setCell ⟨g, 1, none⟩ (.int .i64 ((c : Int) + 1))) ok g (c + 1) n (.slice (some ⟨gr, 0, none⟩) xs.length cap) xs ∧ Mod (fun k => k = g) w0 (w.setCell ⟨g, 1, none⟩ (.int .i64 ((c : Int) + 1))) :=
  ⟨⟨blk_set h.blk 1 (.int .i64 ((c : Int) + 1)), Kd.R_set h.row h.blk (by decide) 1 _, h.okg, hc, h.le8, h.byts, h.small⟩, hm.setCell (.inl rfl) _⟩
set_option maxHeartbeats 4000000 in
theorem get_calls (w : World) (ok : Nat → Prop) (g : Nat) (rem : List Bool) (width : Int) (hW : Rd w ok g rem)
    (hw1 : -9223372036854775808 ≤ width) (hw2 : width ≤ 9223372036854775807) :
    Calls Tryd.prog 52 #[.pointer (some ⟨g, 0, none⟩), .int .i64 width] w fun e w' =>
      e = .returned (.tuple #[.int .u64 (getN rem width), .int .i64 (getE rem width)]) ∧ Rd w' ok g (getR rem width) ∧ Mod (fun k => k = g) w w' := by
  obtain ⟨a, n, v, xs, h, hrem⟩ := hW
  have hlen : rem.length = n - a := by rw [hrem, List.length_drop, bitsOf_length]
  have hg := h.blk
  have hle := h.le
  have hle8 := h.le8
  have hsm := h.small
  have H := Lib.hid h
  have HREM := Lib.hid hrem
  have HLEN := Lib.hid hlen
  clear h hrem hlen
  have g1 : w.cell? ⟨g, 1, none⟩ = some (.int .i64 a) := (blk_cell hg 1).trans rfl
  have g2 : w.cell? ⟨g, 2, none⟩ = some (.int .i64 n) := (blk_cell hg 2).trans rfl
  have hsub : IntKind.i64.wrap ((n : Int) - a) = (n : Int) - a := IntWalk.i64_in _ (by omega)
  have hfin : ∀ x : Int, x = getE rem width → x ≠ 0 → Rd w ok g (getR rem width) ∧ Mod (fun k => k = g) w w ∧ getN rem width = 0 := by
    intro x hx h0
    unfold getR getN
    rw [if_neg (by rw [← hx]; exact h0), if_neg (by rw [← hx]; exact h0)]
    exact ⟨⟨a, n, v, xs, H.out, HREM.out⟩, Mod.refl _ _, rfl⟩
  have HF := Lib.hid hfin
  clear hfin
  by_cases h1 : width < 0
  · have hE : getE rem width = 1 := by unfold getE; rw [if_pos (Or.inl h1)]
    have HE := Lib.hid hE
    clear hE
    go_enter Tryd.func52, Tryd.ntmps52
    go_wp2_with (go_at_call 69; refine (rok_made _ _ _ _ _ _ hg).mono ?_; rintro e w' ⟨rfl, rfl⟩)
    go_ret2
    obtain ⟨b1, b2, b3⟩ := HF.out 1 HE.out.symm (by decide)
    exact ⟨by rw [HE.out, b3]; rfl, b1, b2⟩
  · by_cases h2 : 64 < width
    · have hE : getE rem width = 1 := by unfold getE; rw [if_pos (Or.inr h2)]
      have HE := Lib.hid hE
      clear hE
      go_enter Tryd.func52, Tryd.ntmps52
      go_wp2_with (go_at_call 69; refine (rok_made _ _ _ _ _ _ hg).mono ?_; rintro e w' ⟨rfl, rfl⟩)
      go_ret2
      obtain ⟨b1, b2, b3⟩ := HF.out 1 HE.out.symm (by decide)
      exact ⟨by rw [HE.out, b3]; rfl, b1, b2⟩
    · by_cases h3 : (n : Int) - a < width
      · have hd : decide ((n : Int) - a < width) = true := decide_eq_true h3
        have hE : getE rem width = 6 := by unfold getE; rw [if_neg (by omega), if_pos (by have := HLEN.out; omega)]
        have HE := Lib.hid hE
        clear hE
        go_enter Tryd.func52, Tryd.ntmps52
        go_wp2_with (go_at_call 69; refine (rok_made _ _ _ _ _ _ hg).mono ?_; rintro e w' ⟨rfl, rfl⟩)
        go_quiet (fail)
        go_wp2_with fail
        go_ret2
        obtain ⟨b1, b2, b3⟩ := HF.out 6 HE.out.symm (by decide)
        obtain ⟨a1, a2, a3, a4, a5, a6⟩ := b1
        exact ⟨by rw [HE.out, b3]; rfl, ⟨a1, a2, a3, a4, a5.drewN _, a6⟩, b2.drewN _⟩
      · have hd : decide ((n : Int) - a < width) = false := decide_eq_false h3
        have hE : getE rem width = 0 := by unfold getE; rw [if_neg (by omega), if_neg (by have := HLEN.out; omega)]
        have HE := Lib.hid hE
        clear hE
        obtain ⟨wd, hwd⟩ := Int.eq_ofNat_of_zero_le (show 0 ≤ width by omega)
        have hwd2 : wd ≤ 64 := by omega
        have hwd3 : a + wd ≤ n := by omega
        subst hwd
        have hb1 : decide ((wd : Int) < 0) = false := decide_eq_false (by omega)
        have hb2 : decide (64 < (wd : Int)) = false := decide_eq_false (by omega)
        go_enter Tryd.func52, Tryd.ntmps52
        go_wp2_with (go_at_call 69; refine (rok_made _ _ _ _ _ _ hg).mono ?_; rintro e w' ⟨rfl, rfl⟩)
        go_quiet (fail)
        go_wp2_with fail
        have hl0 := H.out.row
        clear g1 g2 hg hd hsub
        go_loopg [6, 28] wd (fun kq s6 s28 wr => ∃ k, k + kq = wd ∧ s28 = .int .i64 k ∧ s6 = .int .u64 (bnum (rem.take k)) ∧ RdB wr ok g (a + k) n v xs ∧ Mod (fun k => k = g) w wr)
        case atStart => exact ⟨0, by omega, rfl, rfl, H.out.drewN _, (Mod.refl _ _).drewN _⟩
        case round =>
          obtain ⟨k, hk, rfl, rfl, hr, hm⟩ := hrel
          have HM := Lib.hid hm
          have HR := Lib.hid hr
          clear hm hr hl0
          obtain ⟨o, ho⟩ : ∃ o, o = bnum (rem.take k) := ⟨_, rfl⟩
          have hob : o < 2 ^ k := by
            rw [ho]
            have := bnum_lt (rem.take k)
            have h2 : (rem.take k).length ≤ k := List.length_take_le _ _
            exact Nat.lt_of_lt_of_le this (Nat.pow_le_pow_right (by decide) h2)
          rw [← ho]
          have HO := Lib.hid ho
          have HOB := Lib.hid hob
          clear ho hob
          by_cases hz : gk = 0
          · subst hz
            have hkw : ¬ ((k : Int) < (wd : Int)) := by omega
            go_wp2_with fail
            go_ret2
            have hke : k = wd := by omega
            subst hke
            refine ⟨?_, ?_, HM.out⟩
            · unfold getN
              rw [if_pos HE.out, HE.out, Int.toNat_natCast, ← HO.out]
              rfl
            · unfold getR
              rw [if_pos HE.out, Int.toNat_natCast, HREM.out, List.drop_drop]
              exact ⟨_, _, _, _, HR.out, rfl⟩
          · have hkw : (k : Int) < (wd : Int) := by omega
            obtain ⟨c, hc⟩ : ∃ c, c = a + k := ⟨_, rfl⟩
            have hr2 := HR.out
            rw [← hc] at hr2
            have hcn : c < n := by omega
            have hc8 : c / 8 < xs.length := by have := hr2.le8; omega
            have hxb := hr2.byts
            have hsm2 := hr2.small
            obtain ⟨gr, cap, hv, _, hgr, _⟩ := Kd.R_form hr2.row (by omega)
            subst hv
            have hg := hr2.blk
            have g1 : wr.cell? ⟨g, 1, none⟩ = some (.int .i64 c) := (blk_cell hg 1).trans rfl
            have g3 : wr.cell? ⟨g, 3, none⟩ = some (.slice (some ⟨gr, 0, none⟩) xs.length cap) := (blk_cell hg 3).trans rfl
            have f1 := blk_frozen hg 1
            have r1 := (own_at_of (d := 0) (Kd.own_of_R hr2.row) (i := ((c / 8 : Nat) : Int)) (by omega) (by omega)).1
            rw [Int.toNat_natCast] at r1
            have hx0 : 0 ≤ rdOf 0 xs ((c / 8 : Nat) : Int) ∧ rdOf 0 xs ((c / 8 : Nat) : Int) < 256 := by
              unfold rdOf
              rw [Int.toNat_natCast, List.getD_eq_getElem?_getD, List.getElem?_eq_getElem hc8]
              exact hxb _ (List.getElem_mem hc8)
            obtain ⟨x, hx⟩ : ∃ x, x = rdOf 0 xs ((c / 8 : Nat) : Int) := ⟨_, rfl⟩
            rw [← hx] at r1 hx0
            obtain ⟨hx1, hx2⟩ := hx0
            have HX := Lib.hid hx
            have HC := Lib.hid hc
            have HR2 := Lib.hid hr2
            clear hx hc hr2 hxb
            have e1 : IntKind.i64.wrap ((c : Int) / 8) = (c : Int) / 8 := IntWalk.i64_in _ (by omega)
            have e2 : (0 : Int) ≤ (c : Int) / 8 := by omega
            have e3 : ((c : Int) / 8).toNat = c / 8 := by omega
            have e4 : (c : Int) / 8 < (xs.length : Int) := by omega
            have e5 : IntKind.i64.wrap (7 - (c : Int) % 8) = 7 - (c : Int) % 8 := IntWalk.i64_in _ (by omega)
            have e6 : (0 : Int) ≤ 7 - (c : Int) % 8 := by omega
            have e7 : (0 : Int) ≤ (c : Int) := by omega
            go_wp2_with fail
            go_quiet (fail)
            go_wp2_with fail
            go_roundg (gk - 1)
            case measure => omega
            case rel =>
              have hst := RdB.step (HR2.out.drewN nq) (HM.out.drewN nq) hcn
              refine ⟨k + 1, by omega, by go_num, ?_, by rw [← Nat.add_assoc, ← HC.out]; exact hst.1, hst.2⟩
              congr 1
              rw [next_bit xs o k c x (by omega) HOB.out hx1 (by omega) HX.out, HREM.out, take_next xs a n k (by rw [← HC.out]; exact hcn), bnum_snoc, ← HREM.out, ← HO.out, HC.out]
end Go.Proofs.YtmllgglcdlcdhaaDoor
end
section
namespace Go.Proofs.YtmllgglcdlcdhaaDoor
open Go.RowKit Go.Proofs.YtmllgglcdlcdhaaDoorW.PrintWords Go.Proofs.YtmllgglcdlcdhaaDoorW.PrintMore Bq
set_option linter.unusedVariables false
set_option maxRecDepth 100000
set_option linter.unusedSimpArgs false
attribute [local go_sem ↓] Go.wp_at_zero Go.wp_at_succ
theorem Rd.blk {w : World} {ok : Nat → Prop} {g : Nat} {rem : List Bool} (h : Rd w ok g rem) : ∃ cs, w.heap[g]? = some (.cells cs 98 (0, 0)) := by
  obtain ⟨a, n, v, xs, h1, h2⟩ := h
  exact ⟨_, h1.blk⟩
set_option maxHeartbeats 1000000 in
theorem newReader_ok (w : World) (A : Option Addr) (c : Nat) (xs : List Int) (n : Nat) (hC : (Kd.int .u8).C w A xs.length xs) (hs : xs.length ≤ 1000000000) (hn : n ≤ 8 * xs.length) (hb : Byts xs) :
    Calls Tryd.prog 31 #[.slice A xs.length c, .int .i64 n] w fun e w' => ∃ g : Nat, e = .returned (.tuple #[.pointer (some ⟨g, 0, none⟩), .int .i64 0]) ∧ Rd w' (fun k => w.heap.size ≤ k) g (bitsOf xs n) ∧ Below w.heap.size w w' := by
  have h0 : ¬ ((n : Int) < 0) := by omega
  have h1 : ¬ (8 * (xs.length : Int) < (n : Int)) := by omega
  have HB := Lib.hid hb
  clear hb
  go_enter Tryd.func31, Tryd.ntmps31
  go_wp2_with (at_builtin; refine (plain_int .u8).list_append (W := w.alloc (.cells #[] 5)) (base := w.heap.size) (ok := fun _ => True) (xs := []) (ys := xs) rfl (.tmp 16) (.tmp 17) 24 (.int .u8 0) 1 rfl Tryd.underlying24 info_u8 rfl (by decide) xs.length c rfl rfl (R_empty _ _ w _ _ (Nat.le_refl _) trivial) (Kd.C_below hC ((Below.refl _ w).alloc (Nat.le_refl _) _)) (fun _ _ => trivial) (by simp) (by simp; omega) ?_; intro v1 w1 hR1 hg1 _; obtain ⟨A1, k1, rfl⟩ := Kd.R_slice hR1; have hb1 : Below w.heap.size w w1 := below_row ((Below.refl _ w).alloc (Nat.le_refl _) _) hg1 (Nat.le_refl _) (by simp); have hsz := hb1.size; have HR1 := Lib.hid hR1; have HB1 := Lib.hid hb1; clear hR1 hg1 hb1)
  go_ret2
  exact ⟨w1.heap.size, rfl, ⟨0, n, _, xs, ⟨blk_new w1 _, Kd.R_lower (Kd.R_mono (Kd.R_bound (Kd.R_alloc HR1.out _)) (fun k hk => hk.2.1)) (Nat.zero_le _), hsz, Nat.zero_le _, hn, HB.out, by omega⟩, by rw [List.drop_zero]⟩, HB1.out.alloc hsz _⟩
end Go.Proofs.YtmllgglcdlcdhaaDoor
end
section
namespace Go.Proofs.YtmllgglcdlcdhaaDoor
open Go Go.RowKit Go.Proofs.YtmllgglcdlcdhaaDoorW.PrintWords Go.Proofs.YtmllgglcdlcdhaaDoorW.PrintMore Go.Proofs.YtmllgglcdlcdhaaDoorW.PrintLast Bq Xs
set_option linter.unusedVariables false
set_option maxRecDepth 100000
set_option linter.unusedSimpArgs false
attribute [local go_sem ↓] Go.wp_at_zero Go.wp_at_succ
abbrev rkCells (g : Nat) (s : St) (e : Int) : Array Value := #[.pointer (some ⟨g, 0, none⟩), .int .i64 (s.n : Nat), .int .i64 s.t, .int .u64 (s.v : Nat), .int .u64 (s.step : Nat), .int .i64 (s.w.lead : Nat), .int .i64 (s.w.trail : Nat), .bool s.w.set, .int .i64 e]
structure Rk (w : World) (ok : Nat → Prop) (q g : Nat) (σ : Sg) (s : St) : Prop where
  blk : w.heap[q]? = some (.cells (rkCells g s (errT σ)) 68 (0, 0))
  rd : ∀ r, σ = .ok r → Rd w ok g r
  okq : ¬ ok q
  good : goodE σ
  lt : g < q
abbrev TwoB (g q : Nat) : Nat → Prop := fun k => k = g ∨ k = q
section
variable {w w1 : World} {ok : Nat → Prop} {q g : Nat} {σ : Sg} {s : St} {r : List Bool}
theorem Rk.failed (h : Rk w ok q g (.ok r) s) (e : Int) (he : e ≠ 0) : Rk (w.setCell ⟨q, 8, none⟩ (.int .i64 e)) ok q g (.error e) s ∧ Mod (TwoB g q) w (w.setCell ⟨q, 8, none⟩ (.int .i64 e)) :=
  ⟨⟨blk_put h.blk 8 _ rfl, (fun r h => by cases h), h.okq, (fun e2 h2 => by injection h2 with h2; omega), h.lt⟩, (Mod.refl _ w).setCell (p := ⟨q, 8, none⟩) (.inl (.inr rfl)) _⟩
theorem Rk.drewN (h : Rk w ok q g σ s) (n : Nat) : Rk (w.drewN n) ok q g σ s := ⟨h.blk, fun r hr => by
  obtain ⟨a, m, v, xs, h1, h2⟩ := h.rd r hr
  exact ⟨a, m, v, xs, h1.drewN n, h2⟩, h.okq, h.good, h.lt⟩
theorem Rk.kept {S : Nat → Prop} (h : Rk w ok q g σ s) (hm : Mod S w w1) (hq : ¬ S q) (hs : ∀ k, ok k → k < w.heap.size → ¬ S k) : Rk w1 ok q g σ s := ⟨hm.blk h.blk hq, fun r hr => (h.rd r hr).kept hm hs, h.okq, h.good, h.lt⟩
theorem Rk.below (h : Rk w ok q g σ s) (hB : Below w.heap.size w w1) : Rk w1 ok q g σ s := h.kept (Mod.of_below hB (fun _ => False)) id (fun _ _ _ => id)
theorem Rk.bound (h : Rk w ok q g σ s) : Rk w (fun k => ok k ∧ k < w.heap.size) q g σ s := ⟨h.blk, fun r hr => (h.rd r hr).bound, fun hk => h.okq hk.1, h.good, h.lt⟩
theorem Rk.back {ok1 : Nat → Prop} (h : Rk w ok1 q g σ s) (hk : ∀ k, ok1 k → ok k) (hq : ¬ ok q) : Rk w ok q g σ s := ⟨h.blk, fun r hr => (h.rd r hr).mono hk, hq, h.good, h.lt⟩
theorem Rk.qlt (h : Rk w ok q g σ s) : q < w.heap.size := blk_lt h.blk
theorem Rk.e0 (h : Rk w ok q g (.ok r) s) : w.cell? ⟨q, 8, none⟩ = some (.int .i64 0) := (blk_cell h.blk 8).trans rfl
end
set_option maxHeartbeats 1000000 in
theorem rkget (w : World) (ok : Nat → Prop) (q g : Nat) (σ : Sg) (s : St) (h : Rk w ok q g σ s) (W : Int) (width : Nat) (hW : ∀ r, σ = .ok r → W = (width : Nat) ∧ width ≤ 64) :
    Calls Tryd.prog 32 #[.pointer (some ⟨q, 0, none⟩), .int .i64 W] w fun e w' => e = .returned (.int .u64 ((getT width σ).1 : Nat)) ∧ Rk w' ok q g (getT width σ).2 s ∧ Mod (TwoB g q) w w' := by
  cases σ with
  | error e =>
    have c8 : w.cell? ⟨q, 8, none⟩ = some (.int .i64 e) := (blk_cell h.blk 8).trans rfl
    have he : e ≠ 0 := h.good e rfl
    have hb : (e == 0) = false := beq_false_of_ne he
    have H := Lib.hid h
    clear h hW he
    go_enter Tryd.func32, Tryd.ntmps32
    go_wp2
    go_ret
    exact ⟨rfl, H.out, Mod.refl _ _⟩
  | ok r =>
    obtain ⟨hWw, hw⟩ := hW r rfl
    subst hWw
    clear hW
    have hrd := h.rd r rfl
    obtain ⟨cs, hgb⟩ := hrd.blk
    have hqg : q ≠ g := blk_ne h.blk hgb (by decide)
    have c0 : w.cell? ⟨q, 0, none⟩ = some (.pointer (some ⟨g, 0, none⟩)) := (blk_cell h.blk 0).trans rfl
    have c8 : w.cell? ⟨q, 8, none⟩ = some (.int .i64 0) := h.e0
    have HG := Lib.hid (get_calls w ok g r (width : Nat) hrd (by omega) (by omega))
    have H := Lib.hid h
    have HQG := Lib.hid hqg
    clear h hrd hgb
    have hx : (getX width r = .error 6 ∧ getE r (width : Nat) = 6 ∧ getN r (width : Nat) = 0) ∨ (∃ n : Nat, getX width r = .ok (n, getR r (width : Nat)) ∧ getE r (width : Nat) = 0 ∧ getN r (width : Nat) = (n : Nat)) := by
      by_cases hl : r.length < width
      · left
        have hE : getE r (width : Nat) = 6 := by unfold getE; rw [if_neg (by omega), if_pos (by omega)]
        refine ⟨by unfold getX; rw [if_pos hl], hE, ?_⟩
        unfold getN
        rw [hE, if_neg (by decide)]
      · right
        have hE : getE r (width : Nat) = 0 := by unfold getE; rw [if_neg (by omega), if_neg (by omega)]
        refine ⟨bnum (r.take width), ?_, hE, ?_⟩
        · unfold getX getR
          rw [if_neg hl, hE, if_pos rfl, Int.toNat_natCast]
        · unfold getN
          rw [hE, if_pos rfl, Int.toNat_natCast]
    rcases hx with ⟨hx1, hx2, hx3⟩ | ⟨n, hx1, hx2, hx3⟩
    · rw [hx2, hx3] at HG
      have HX := Lib.hid hx1
      clear hx1 hx2 hx3
      go_enter Tryd.func32, Tryd.ntmps32
      go_wp2_with (go_at_call 52; refine HG.out.mono ?_; rintro e w1 ⟨rfl, h1, m1⟩; have hb1 := m1.blk H.out.blk HQG.out; have d8 : w1.cell? ⟨q, 8, none⟩ = some (.int .i64 0) := (blk_cell hb1 8).trans rfl; have f8 := blk_frozen hb1 8; have H1 := Lib.hid h1; have M1 := Lib.hid m1; clear h1 m1 hb1)
      go_ret
      rw [getT_no HX.out]
      refine ⟨rfl, ⟨blk_put (M1.out.blk H.out.blk HQG.out) 8 _ rfl, (fun r h => by cases h), H.out.okq, (fun e h => by injection h with h; omega), H.out.lt⟩, ?_⟩
      exact (M1.out.weaken (S' := TwoB g q) (fun _ _ h => .inl h)).setCell (p := ⟨q, 8, none⟩) (.inl (.inr rfl)) _
    · rw [hx2, hx3] at HG
      have HX := Lib.hid hx1
      clear hx1 hx2 hx3
      go_enter Tryd.func32, Tryd.ntmps32
      go_wp2_with (go_at_call 52; refine HG.out.mono ?_; rintro e w1 ⟨rfl, h1, m1⟩; have hb1 := m1.blk H.out.blk HQG.out; have d8 : w1.cell? ⟨q, 8, none⟩ = some (.int .i64 0) := (blk_cell hb1 8).trans rfl; have f8 := blk_frozen hb1 8; have H1 := Lib.hid h1; have M1 := Lib.hid m1; clear h1 m1 hb1)
      go_ret
      rw [getT_ok HX.out]
      have hm : Mod (fun k => k = q) w1 (w1.setCell ⟨q, 8, none⟩ (.int .i64 0)) := (Mod.refl (fun k => k = q) w1).setCell (p := ⟨q, 8, none⟩) (.inl rfl) _
      refine ⟨rfl, ⟨blk_put (M1.out.blk H.out.blk HQG.out) 8 _ rfl, fun r2 h2 => ?_, H.out.okq, (fun e h => by cases h), H.out.lt⟩, ?_⟩
      · injection h2 with h2
        subst h2
        exact H1.out.kept hm (fun k ho _ e => H.out.okq (e ▸ ho))
      · exact (M1.out.weaken (S' := TwoB g q) (fun _ _ h => .inl h)).setCell (p := ⟨q, 8, none⟩) (.inl (.inr rfl)) _
end Go.Proofs.YtmllgglcdlcdhaaDoor
end
