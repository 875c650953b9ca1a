import Derived.Test.YtmllgglcdlcdhaaDoorCXorAddsY7
namespace Go.Proofs.YtmllgglcdlcdhaaDoor.Bq
end Go.Proofs.YtmllgglcdlcdhaaDoor.Bq
namespace Go.Proofs.YtmllgglcdlcdhaaDoor
open Go Go.RowKit Go.Proofs.YtmllgglcdlcdhaaDoorW.PrintWords Go.Proofs.YtmllgglcdlcdhaaDoorW.PrintMore Go.Proofs.YtmllgglcdlcdhaaDoorW.PrintLast Bq Xs
set_option linter.unusedVariables false
set_option maxRecDepth 100000
set_option linter.unusedSimpArgs false
attribute [local go_sem ↓] Go.wp_at_zero Go.wp_at_succ
def SmpRow (w : World) (A : Option Addr) (L : List (Int × Nat)) : Prop := ∀ i, i < L.length → ∃ ad, A = some ad ∧ w.cell? (ad.add (i * 2)) = some (.int .i64 (L.getD i (0, 0)).1) ∧ w.cell? (ad.add (i * 2 + 1)) = some (.int .u64 ((L.getD i (0, 0)).2 : Nat))
theorem SmpRow.below {w w1 : World} {A : Option Addr} {L : List (Int × Nat)} (h : SmpRow w A L) (hB : Below w.heap.size w w1) : SmpRow w1 A L := fun i hi => by
  obtain ⟨ad, e, h1, h2⟩ := h i hi
  exact ⟨ad, e, (hB.cell (World.block_lt_of_cell? w _ h1)).trans h1, (hB.cell (World.block_lt_of_cell? w _ h2)).trans h2⟩
theorem add_next_cell (ad : Addr) (n : Nat) : (⟨(ad.add n).block, (ad.add n).off + 1, none⟩ : Addr) = ad.add (n + 1) := by
  unfold Addr.add
  rw [if_neg (show ¬ n + 1 = 0 by omega)]
  split
  · subst_vars
    rfl
  · rfl
theorem Pk.alloc {w0 w : World} {ok : Nat → Prop} {p g : Nat} {bs : List Bool} {s : St} (h : Pk w0 w ok p g bs s) (o : Obj) : Pk w0 (w.alloc o) ok p g bs s :=
  ((h.boxed o).back h (fun k hk => hk.1) (by rw [World.size_alloc]; omega))
theorem allB_split (L : List (Int × Nat)) (s : St) (i : Nat) (hi : i < L.length) : allB s (L.drop i) = (addB s (L.getD i (0, 0)).1 (L.getD i (0, 0)).2).1 ++ allB (addB s (L.getD i (0, 0)).1 (L.getD i (0, 0)).2).2 (L.drop (i + 1)) := by
  rw [List.drop_eq_getElem_cons hi, List.getD_eq_getElem?_getD, List.getElem?_eq_getElem hi]
  rfl
theorem addB_n (s : St) (t : Int) (v : Nat) : (addB s t v).2.n = s.n + 1 := by
  unfold addB
  split
  · rename_i h; rw [h]
  · split
    · rename_i h; rw [h]
    · rfl
set_option maxHeartbeats 4000000 in
theorem pack_calls (w : World) (A : Option Addr) (c : Nat) (L : List (Int × Nat)) (hC : SmpRow w A L) (hL : ∀ x ∈ L, SmpOk x) (hlen : L.length ≤ 50000) (hT : TabAt 0 Lib.deBruijn64tab w) :
    Calls Tryd.prog 28 #[.slice A L.length c] w fun e w' => ∃ v, e = .returned v ∧ (Kd.int .u8).R 5 w' w.heap.size (fun _ => True) v (packL L) ∧ Below w.heap.size w w' := by
  have HC := Lib.hid hC
  have HL := Lib.hid hL
  have HT := Lib.hid hT
  clear hC hL hT
  have hlu : IntKind.u64.wrap (L.length : Int) = (L.length : Int) := by rw [IntKind.wrap_u64]; omega
  go_enter Tryd.func28, Tryd.ntmps28
  go_upto_region 2 with (go_at_call 44; refine (newWriter_calls w).mono ?_; rintro e w1 ⟨rfl, hW, hB⟩; have HW := Lib.hid hW; have HB := Lib.hid hB; clear hW hB)
  obtain ⟨g, hg⟩ : ∃ g, g = w.heap.size := ⟨_, rfl⟩
  obtain ⟨p, hp⟩ : ∃ p, p = w1.heap.size := ⟨_, rfl⟩
  obtain ⟨W2, hW2⟩ : ∃ W2, W2 = w1.alloc (.cells #[.pointer (some ⟨w.heap.size, 0, none⟩), .int .i64 0, .int .i64 0, .int .u64 0, .int .u64 0, .int .i64 0, .int .i64 0, .bool false] 88) := ⟨_, rfl⟩
  have hPk : Pk w W2 (fun k => w.heap.size ≤ k ∧ k ≠ p) p g [] st0 := by
    have hB2 := below_alloc (Below.refl w1.heap.size w1) (.cells #[.pointer (some ⟨w.heap.size, 0, none⟩), .int .i64 0, .int .i64 0, .int .u64 0, .int .u64 0, .int .i64 0, .int .i64 0, .bool false] 88)
    rw [← hW2] at hB2
    have hs := HB.out.size
    refine ⟨?_, ?_, fun h => h.2 rfl, fun k hk => ?_, fun k hk => hk.1, by rw [hp]; exact hs, HB.out.trans (below_lower hB2 hs)⟩
    · rw [hW2, hp, hg]
      exact blk_new w1 _
    · rw [hg]
      exact (HW.out.bound.kept (Mod.of_below hB2 (fun _ => False)) (fun _ _ _ => id)).mono (fun k hk => ⟨hk.1, by rw [hp]; exact Nat.ne_of_lt hk.2⟩)
    · rw [hW2, World.size_alloc] at hk
      exact ⟨by omega, by omega⟩
  rw [← hW2, ← hp]
  have HP := Lib.hid hPk
  have c0 := hPk.ptr
  clear hPk hW2 hp hg HW HB
  go_wp2_with fail
  refine (HP.out.putI L.length 16 L.length 16 rfl rfl (by omega) (by decide) (.inr (by omega)) (by simp)).mono ?_
  rintro e w3 ⟨rfl, h3, m3⟩
  rw [List.nil_append] at h3
  have H3 := Lib.hid h3
  clear h3 m3 c0
  go_wp2_with fail
  go_loopg [19] L.length (fun kq s19 wr => ∃ (i : Nat) (bs : List Bool) (s : St), i + kq = L.length ∧ s19 = .int .i64 i ∧ bs.length ≤ 16 + 157 * i ∧ s.n = i ∧ Hid (Pk w wr (fun k => w.heap.size ≤ k ∧ k ≠ p) p g bs s) ∧ Hid (OkS s) ∧ Hid (bs ++ allB s (L.drop i) = packB L))
  case atStart => exact ⟨0, nb L.length 16, st0, by omega, rfl, by rw [nb_length]; omega, rfl, H3.out, st0_ok, rfl⟩
  case round =>
    obtain ⟨i, bs, s, hi, rfl, hbl, hsn, HPr, HO, HA⟩ := hrel
    by_cases hlt : i < L.length
    · obtain ⟨ad, hA, hx1, hx2⟩ := HC.out.below HPr.out.bel i hlt
      subst hA
      have hsp := allB_split L s i hlt
      have hxm : SmpOk (L.getD i (0, 0)) := HL.out _ (by rw [List.getD_eq_getElem?_getD, List.getElem?_eq_getElem hlt]; exact List.getElem_mem hlt)
      obtain ⟨x, hx⟩ : ∃ x, x = L.getD i (0, 0) := ⟨_, rfl⟩
      rw [← hx] at hx1 hx2 hsp hxm
      clear hx
      obtain ⟨t, v⟩ := x
      simp only at hx1 hx2
      have hx3 : wr.cell? ⟨(ad.add (i * 2)).block, (ad.add (i * 2)).off + 1, none⟩ = some (.int .u64 (v : Nat)) := by rw [add_next_cell]; exact hx2
      have HSP := Lib.hid hsp
      have HXM := Lib.hid hxm
      clear hsp hxm hx2
      go_upto_region 6 with fail
      obtain ⟨W5, hW5⟩ : ∃ W5, W5 = wr.alloc (.cells #[.int .i64 t, .int .u64 (v : Nat)] 39) := ⟨_, rfl⟩
      obtain ⟨bx, hbx⟩ : ∃ bx, bx = wr.heap.size := ⟨_, rfl⟩
      have hP5 : Pk w W5 (fun k => w.heap.size ≤ k ∧ k ≠ p) p g bs s := by rw [hW5]; exact HPr.out.alloc _
      have hb5 : W5.heap[bx]? = some (.cells #[.int .i64 t, .int .u64 (v : Nat)] 39 (0, 0)) := by rw [hW5, hbx]; exact heap_alloc_new wr _
      rw [← hW5, ← hbx]
      have z0 : W5.cell? ⟨bx, 0, none⟩ = some (.int .i64 t) := (blk_cell hb5 0).trans rfl
      have z1 : W5.cell? ⟨bx, 1, none⟩ = some (.int .u64 (v : Nat)) := (blk_cell hb5 1).trans rfl
      have HP5 := Lib.hid hP5
      clear hP5 hb5 hW5 hbx hx1 hx3
      go_wp2_with (go_at_call 46; go_loud (refine (add_calls w W5 _ p g bs s t v HXM.out.1 HXM.out.2 HO.out (by omega) HT.out HP5.out (by omega)).mono ?_); rintro e w6 ⟨rfl, h6⟩; have H6 := Lib.hid h6; clear h6)
      go_roundg (gk - 1)
      case measure => omega
      case rel =>
        have hal := add_len HO.out t v HXM.out.1 HXM.out.2
        refine ⟨i + 1, bs ++ (addB s t v).1, (addB s t v).2, by omega, by go_num, by rw [List.length_append]; omega, by rw [addB_n, hsn], H6.out, addB_ok HO.out t v HXM.out.1 HXM.out.2, ?_⟩
        show bs ++ (addB s t v).1 ++ allB (addB s t v).2 (L.drop (i + 1)) = packB L
        rw [List.append_assoc, ← HSP.out]
        exact HA.out
    · have hbs : bs = packB L := by
        have := HA.out
        rwa [List.drop_of_length_le (by omega), show allB s [] = [] from rfl, List.append_nil] at this
      have c0 := HPr.out.ptr
      have HBS := Lib.hid hbs
      clear hbs
      go_wp2_with (go_at_call 47; refine (wbytes_calls wr _ g bs HPr.out.wr (by omega)).mono ?_; rintro e w7 ⟨v7, rfl, hR7, hB7⟩; have HR7 := Lib.hid hR7; have HB7 := Lib.hid hB7; clear hR7 hB7)
      go_ret
      have hs := HPr.out.bel.size
      have h7 := HR7.out
      rw [HBS.out] at h7
      exact ⟨v7, rfl, Kd.R_lower h7 hs, HPr.out.bel.trans (below_lower HB7.out hs)⟩
set_option maxHeartbeats 1000000 in
theorem xput_calls (w : World) (A : Option Addr) (c : Nat) (L : List (Int × Nat)) (hC : SmpRow w A L) (hL : ∀ x ∈ L, SmpOk x) (hlen : L.length ≤ 50000) (hT : TabAt 0 Lib.deBruijn64tab w) :
    Calls Tryd.prog 12 #[.slice A L.length c] w fun e w' => ∃ v, e = .returned (.tuple #[v, .int .i64 0]) ∧ (Kd.int .u8).R 5 w' w.heap.size (fun _ => True) v (packL L) ∧ Below w.heap.size w w' := by
  have hl : ¬ (L.length : Int) > 65535 := by omega
  go_enter Tryd.func12, Tryd.ntmps12
  go_wp2_with (go_at_call 28; refine (pack_calls w A c L hC hL hlen hT).mono ?_; rintro e w7 ⟨v7, rfl, hR7, hB7⟩; have HR7 := Lib.hid hR7; have HB7 := Lib.hid hB7; clear hR7 hB7)
  go_ret2
  exact ⟨v7, rfl, HR7.out, HB7.out⟩
theorem xput_long (w : World) (A : Option Addr) (c n : Nat) (hn : 65535 < n) :
    Calls Tryd.prog 12 #[.slice A n c] w fun e w' => e = .returned (.tuple #[.slice none 0 0, .int .i64 3]) ∧ w = w' := by
  have hl : (n : Int) > 65535 := by omega
  go_enter Tryd.func12, Tryd.ntmps12
  go_wp2
  go_ret2
  exact ⟨rfl, rfl⟩
end Go.Proofs.YtmllgglcdlcdhaaDoor
