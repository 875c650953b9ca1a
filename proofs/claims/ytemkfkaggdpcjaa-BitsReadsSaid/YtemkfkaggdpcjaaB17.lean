/- The document's Join. -/
import Derived.Test.YtemkfkaggdpcjaaB12
namespace Go.Proofs.Ytemkfkaggdpcjaa
open Go.RowKit Go.Proofs.YtemkfkaggdpcjaaW.PrintWords Go.Proofs.YtemkfkaggdpcjaaW.PrintMore Go.Proofs.YtemkfkaggdpcjaaW.PrintLast Bq
set_option linter.unusedVariables false
set_option linter.unusedSimpArgs false
attribute [local go_sem ↓] Go.wp_at_zero Go.wp_at_succ

theorem rows_get {w : World} {A : Option Addr} {n : Nat} {xss : List (List Int)} (h : (Kd.slice 5 (Kd.int .u8)).C w A n xss) (i : Nat) (hi : i < n) :
    ∃ ad B c, A = some ad ∧ w.cell? (ad.add i) = some (.slice B (xss.getD i []).length c) ∧ (Kd.int .u8).C w B (xss.getD i []).length (xss.getD i []) := by
  obtain ⟨ad, c, e, _, hK, hc⟩ := Kd.C_get h [] (i : Int) (by omega) (by omega)
  rw [Int.toNat_natCast] at hK hc
  obtain ⟨B, cb, rfl, _, hB⟩ := hK
  have h2 := hc 0 _ rfl
  have e1 : i * (Kd.slice 5 (Kd.int .u8)).sz + 0 = i := by show i * 1 + 0 = i; omega
  rw [e1] at h2
  exact ⟨ad, B, cb, e, h2, hB⟩
theorem flat_next (xss : List (List Int)) (k : Nat) (h : k < xss.length) : (xss.take k).flatten ++ xss.getD k [] = (xss.take (k + 1)).flatten := by
  rw [List.take_succ_eq_append_getElem h, List.flatten_append, List.getD_eq_getElem?_getD, List.getElem?_eq_getElem h]
  simp
theorem flat_le (xss : List (List Int)) (k : Nat) (h : k < xss.length) : (xss.take k).flatten.length + (xss.getD k []).length ≤ xss.flatten.length := by
  rw [← List.length_append, flat_next xss k h]
  conv => rhs; rw [← List.take_append_drop (k + 1) xss, List.flatten_append, List.length_append]
  exact Nat.le_add_right _ _
theorem flat_all (xss : List (List Int)) (k : Nat) (h : k = xss.length) : (xss.take k).flatten = xss.flatten := by
  subst h
  rw [List.take_of_length_le (Nat.le_refl _)]

set_option maxHeartbeats 2000000 in
theorem join_calls (w : World) (A : Option Addr) (c : Nat) (xss : List (List Int)) (hC : (Kd.slice 5 (Kd.int .u8)).C w A xss.length xss) (hs : xss.flatten.length ≤ 1000000000000) :
    Calls Try.prog 28 #[.slice A xss.length c] w fun e w' => ∃ v, e = .returned v ∧ (Kd.int .u8).R 5 w' w.heap.size (fun k => w.heap.size ≤ k) v xss.flatten ∧ Below w.heap.size w w' := by
  have HC := Lib.hid hC
  have hlen : xss.length ≤ 9223372036854775807 := hC.2.1
  clear hC
  go_enter Try.func28, Try.ntmps28
  go_wp2
  have HR := Lib.hid (R_empty (Kd.int .u8) 5 w w.heap.size (fun k => w.heap.size ≤ k) (Nat.le_refl _) (Nat.le_refl _))
  have HB := Lib.hid (below_alloc (Below.refl w.heap.size w) (.cells #[] 5))
  generalize w.alloc (.cells #[] 5) = w1 at HR HB ⊢
  go_loopg [9, 3] xss.length (fun kq s9 s3 wr => ∃ k, k + kq = xss.length ∧ s9 = .int .i64 k ∧ Hid ((Kd.int .u8).R 5 wr w.heap.size (fun k => w.heap.size ≤ k) s3 (xss.take k).flatten) ∧ Hid (Below w.heap.size w wr))
  case atStart => exact ⟨0, by omega, rfl, HR.out, HB.out⟩
  case round =>
    obtain ⟨k, hk, rfl, hR, hB⟩ := hrel
    by_cases hlt : k < xss.length
    · have hfl := flat_le xss k hlt
      have HFL := Lib.hid hfl
      clear hfl
      obtain ⟨ad, B, cb, hA, hcell, hCB⟩ := rows_get HC.out k hlt
      subst hA
      have hcell2 : wr.cell? (ad.add k) = some (.slice B (xss.getD k []).length cb) := by
        rw [hB.out.cell (World.block_lt_of_cell? w _ hcell)]
        exact hcell
      have HCB := Lib.hid (Kd.C_below hCB hB.out)
      clear hcell hCB
      obtain ⟨xs, hxs⟩ : ∃ xs, xs = xss.getD k [] := ⟨_, rfl⟩
      have HXS := Lib.hid hxs
      rw [← hxs] at hcell2 HCB
      have hBs := hB.out.size
      have hn : (xss.take k).flatten.length + xs.length ≤ 1000000000000 := by have := HFL.out; rw [← hxs] at this; omega
      have HN := Lib.hid hn
      clear hxs hn
      obtain ⟨Av, cv, hs3⟩ := Kd.R_slice hR.out
      subst hs3
      go_wp2_with (at_builtin; refine (plain_int .u8).list_append rfl (.tmp 13) (.tmp 14) 37 (.int .u8 0) 1 rfl Try.underlying37 info_u8 rfl (by decide) xs.length cb rfl rfl hR.out HCB.out (fun _ hk => Nat.le_trans hBs hk) hBs (by have := HN.out; omega) ?_; intro v1 w2 hR2 hg2 _; have HR2 := Lib.hid hR2; have HG2 := Lib.hid hg2; clear hR2 hg2)
      go_roundg (gk - 1)
      case measure => omega
      case rel =>
        refine ⟨k + 1, by omega, by go_num, ?_, hB.out.trans (Mod.below (S := fun k => w.heap.size ≤ k) ((Mod.refl _ _).grown HG2.out (fun k hk => .inl (Kd.R_base hR.out k hk))) hBs (fun k hk => hk))⟩
        have h2 := HR2.out
        rw [HXS.out, flat_next xss k hlt] at h2
        exact h2
    · have hge : (xss.length : Int) ≤ (k : Int) := by omega
      go_wp2
      go_ret
      have h2 := hR.out
      rw [flat_all xss k (by omega)] at h2
      exact ⟨_, rfl, h2, hB.out⟩

theorem lit2_C (w : World) (T : Nat) (A B : Option Addr) (ca cb : Nat) (xs ys : List Int) (hA : (Kd.int .u8).C w A xs.length xs) (hB : (Kd.int .u8).C w B ys.length ys) (ha : xs.length ≤ ca) (hb : ys.length ≤ cb) :
    (Kd.slice 5 (Kd.int .u8)).C (w.alloc (.cells #[.slice A xs.length ca, .slice B ys.length cb] T)) (some ⟨w.heap.size, 0, none⟩) 2 [xs, ys] := by
  have hb0 := below_alloc (Below.refl w.heap.size w) (.cells #[.slice A xs.length ca, .slice B ys.length cb] T)
  have hn := blk_new w (.cells #[.slice A xs.length ca, .slice B ys.length cb] T)
  refine ⟨rfl, by decide, fun _ => ⟨_, rfl, fun j p hj => ?_⟩⟩
  match j, hj with
  | 0, hj =>
    have hp : xs = p := by simpa using hj
    subst hp
    refine ⟨[.slice A xs.length ca], rfl, ⟨A, ca, rfl, ha, Kd.C_below hA hb0⟩, fun i u hu => ?_⟩
    match i, hu with
    | 0, hu =>
      have h2 : (Value.slice A xs.length ca) = u := by simpa using hu
      subst h2
      exact (blk_cell hn 0).trans rfl
    | i + 1, hu => simp at hu
  | 1, hj =>
    have hp : ys = p := by simpa using hj
    subst hp
    refine ⟨[.slice B ys.length cb], rfl, ⟨B, cb, rfl, hb, Kd.C_below hB hb0⟩, fun i u hu => ?_⟩
    match i, hu with
    | 0, hu =>
      have h2 : (Value.slice B ys.length cb) = u := by simpa using hu
      subst h2
      exact (blk_cell hn 1).trans rfl
    | i + 1, hu => simp at hu
  | j + 2, hj => simp at hj
theorem lit1_C (w : World) (T : Nat) (A : Option Addr) (ca : Nat) (xs : List Int) (hA : (Kd.int .u8).C w A xs.length xs) (ha : xs.length ≤ ca) :
    (Kd.slice 5 (Kd.int .u8)).C (w.alloc (.cells #[.slice A xs.length ca] T)) (some ⟨w.heap.size, 0, none⟩) 1 [xs] := by
  have hb0 := below_alloc (Below.refl w.heap.size w) (.cells #[.slice A xs.length ca] T)
  have hn := blk_new w (.cells #[.slice A xs.length ca] T)
  refine ⟨rfl, by decide, fun _ => ⟨_, rfl, fun j p hj => ?_⟩⟩
  match j, hj with
  | 0, hj =>
    have hp : xs = p := by simpa using hj
    subst hp
    refine ⟨[.slice A xs.length ca], rfl, ⟨A, ca, rfl, ha, Kd.C_below hA hb0⟩, fun i u hu => ?_⟩
    match i, hu with
    | 0, hu =>
      have h2 : (Value.slice A xs.length ca) = u := by simpa using hu
      subst h2
      exact (blk_cell hn 0).trans rfl
    | i + 1, hu => simp at hu
  | j + 1, hj => simp at hj
end Go.Proofs.Ytemkfkaggdpcjaa
