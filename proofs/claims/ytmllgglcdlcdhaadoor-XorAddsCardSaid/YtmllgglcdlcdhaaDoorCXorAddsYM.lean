import Derived.Test.YtmllgglcdlcdhaaDoorCXorAddsYA
import Derived.Test.YtmllgglcdlcdhaaDoorCXorAddsB8p
namespace Go.Proofs.YtmllgglcdlcdhaaDoor.Bq
end Go.Proofs.YtmllgglcdlcdhaaDoor.Bq
section
namespace Go.Proofs.YtmllgglcdlcdhaaDoor
open Go Go.RowKit Go.Proofs.YtmllgglcdlcdhaaDoorW.PrintWords Go.Proofs.YtmllgglcdlcdhaaDoorW.PrintMore Go.Proofs.YtmllgglcdlcdhaaDoorW.PrintLast Bq Xs
set_option linter.unusedVariables false
set_option maxRecDepth 100000
set_option linter.unusedSimpArgs false
attribute [local go_sem ↓] Go.wp_at_zero Go.wp_at_succ
def fewF (f : Nat) (b : List Int) (r : List Bool) : Int × Sg := match fewR f b r with
  | .error e => (0, .error e)
  | .ok (u, r) => (u, .ok r)
def fewS (b : List Int) : Sg → Int × Sg
  | .error e => (0, .error e)
  | .ok r => fewF (11 - b.length) b r
theorem fewS_start (σ : Sg) : fewS [] σ = fewT σ := by cases σ <;> rfl
theorem fewS_no {b : List Int} {r : List Bool} {e : Int} (h : getX 8 r = .error e) (hb : b.length ≤ 9) : fewS b (.ok r) = (0, .error e) := by
  unfold fewS fewF
  simp only
  rw [show 11 - b.length = (10 - b.length) + 1 by omega]
  unfold fewR
  rw [h]
theorem fewS_ok {b : List Int} {r r' : List Bool} {x : Nat} (h : getX 8 r = .ok (x, r')) (hb : b.length ≤ 9) :
    fewS b (.ok r) = if (uget (b ++ [(x : Int)])).2.2 = 0 then ((uget (b ++ [(x : Int)])).1, .ok r') else if (uget (b ++ [(x : Int)])).2.2 = 6 then fewS (b ++ [(x : Int)]) (.ok r') else (0, .error 8) := by
  unfold fewS fewF
  simp only
  rw [show 11 - b.length = (10 - b.length) + 1 by omega, show 11 - (b ++ [(x : Int)]).length = 10 - b.length by rw [List.length_append, List.length_singleton]; omega]
  conv => lhs; unfold fewR
  rw [h]
  simp only
  by_cases c0 : (uget (b ++ [(x : Int)])).2.2 = 0
  · rw [if_pos c0, if_pos c0]
  · rw [if_neg c0, if_neg c0]
    by_cases c6 : (uget (b ++ [(x : Int)])).2.2 = 6
    · rw [if_pos c6, if_pos c6]
    · rw [if_neg c6, if_neg c6]
set_option maxHeartbeats 2000000 in
theorem rkfew (w : World) (ok : Nat → Prop) (q g : Nat) (σ : Sg) (s : St) (h : Rk w ok q g σ s) :
    Calls Tryd.prog 54 #[.pointer (some ⟨q, 0, none⟩)] w fun e w' => e = .returned (.int .u64 (fewT σ).1) ∧ Rk w' ok q g (fewT σ).2 s ∧ Mod (TwoB g q) w w' := by
  have hqw := h.qlt
  have hgq := h.lt
  have HB := Lib.hid h.bound
  have HQ := Lib.hid h.okq
  have HF0 := Lib.hid (fewS_start σ)
  clear h
  go_enter Tryd.func54, Tryd.ntmps54
  go_wp2
  go_loopg [3] 10 (fun kq s3 wr => ∃ (b : List Int) (σ' : Sg), ((∃ r, σ' = .ok r) → b.length + kq = 10 ∧ b.length ≤ 9) ∧ b.length ≤ 10 ∧ Hid (Byts b) ∧ Hid ((Kd.int .u8).R 5 wr w.heap.size (fun k => w.heap.size ≤ k) s3 b) ∧ Hid (Rk wr (fun k => ok k ∧ k < w.heap.size) q g σ' s) ∧ Hid (Mod (TwoB g q) w wr) ∧ Hid (fewS b σ' = fewT σ))
  case atStart => exact ⟨[], σ, fun _ => ⟨rfl, by decide⟩, by decide, (fun _ h => by cases h), Kd.R_nil _ _ _ _ _, HB.out, Mod.refl _ _, HF0.out⟩
  case round =>
    obtain ⟨b, σ', hbr, hbl, HY, HR, HK, HM, HF⟩ := hrel
    obtain ⟨Ab, cb, hs3⟩ := Kd.R_slice HR.out
    subst hs3
    cases σ' with
    | error e =>
      have c8 : wr.cell? ⟨q, 8, none⟩ = some (.int .i64 e) := (blk_cell HK.out.blk 8).trans rfl
      have hb : (e == 0) = false := beq_false_of_ne (HK.out.good e rfl)
      clear hbr
      go_wp2
      go_ret
      rw [← HF.out]
      exact ⟨rfl, HK.out.back (fun k hk => hk.1) HQ.out, HM.out⟩
    | ok r =>
      obtain ⟨hbk, hb9⟩ := hbr ⟨r, rfl⟩
      clear hbr
      have c8 : wr.cell? ⟨q, 8, none⟩ = some (.int .i64 0) := HK.out.e0
      have HG := Lib.hid (rkget wr _ q g (.ok r) s HK.out 8 8 (fun _ _ => ⟨rfl, by decide⟩))
      have hsw := HM.out.size
      cases hx : getX 8 r with
      | error e1 =>
        rw [getT_no hx] at HG
        have HE := Lib.hid (fewS_no hx hb9)
        have he1 : (e1 == 0) = false := beq_false_of_ne (by
          unfold getX at hx
          split at hx
          · injection hx with hx; omega
          · cases hx)
        clear hx
        go_upto_region 4 with (first
          | (go_at_call 32; refine HG.out.mono ?_; rintro e w1 ⟨rfl, h1, m1⟩; have hR1 := Kd.R_step HR.out (fun k ho hk => m1.block k hk (fun h => by rcases h with h | h <;> omega)); have hs1 := m1.size; have HR1 := Lib.hid hR1; have H1 := Lib.hid h1; have M1 := Lib.hid m1; clear h1 m1 hR1)
          | (at_builtin; refine Kd.R_append (Kd.int .u8) (w0 := w1) (W := w1) w.heap.size rfl (.tmp 12) (.tmp 16) 24 5 (.int .u8 0) 1 rfl Tryd.underlying24 info_u8 rfl (by decide) (by decide) _ b 0 [.int .u8 0] (fun k => w.heap.size ≤ k) (fun _ => False) rfl rfl rfl (fun _ h => h.elim) (fun k hk => Nat.le_trans hsw (Nat.le_trans hs1 hk)) HR1.out (Below.refl _ _) (Nat.le_trans hsw hs1) (by omega) ?_; intro v2 w2 hR2 _ hg2 _; have HR2 := Lib.hid hR2; have HG2 := Lib.hid hg2; clear hR2 hg2))
        have hm2 : Mod (fun k => w.heap.size ≤ k) w1 w2 := (Mod.refl _ w1).grown HG2.out (fun k hk => .inl (HR1.out.1 k hk))
        have h2 := H1.out.kept hm2 (by omega) (fun k ho _ => by have := ho.2; omega)
        have d8 : w2.cell? ⟨q, 8, none⟩ = some (.int .i64 e1) := (blk_cell h2.blk 8).trans rfl
        have H2 := Lib.hid h2
        have M2 : Hid (Mod (TwoB g q) w w2) := Lib.hid ((HM.out.trans M1.out (fun _ _ h => h)).grown HG2.out (fun k hk => .inr (HR1.out.1 k hk)))
        clear h2 hm2
        go_wp2
        go_ret
        rw [← HF.out, HE.out]
        exact ⟨rfl, H2.out.back (fun k hk => hk.1) HQ.out, M2.out⟩
      | ok v =>
        obtain ⟨x, r1⟩ := v
        rw [getT_ok hx] at HG
        have hxl := (getX_ok hx).1
        have HE := Lib.hid (fewS_ok hx hb9)
        clear hx
        have hx8 : (x : Int) % 256 = (x : Int) := by omega
        have hby : Byts (b ++ [(x : Int)]) := by
          intro y hy
          rcases List.mem_append.1 hy with hy | hy
          · exact HY.out y hy
          · rw [List.mem_singleton.1 hy]; omega
        obtain ⟨B, hB⟩ : ∃ B, B = b ++ [(x : Int)] := ⟨_, rfl⟩
        have hBl : B.length = b.length + 1 := by rw [hB, List.length_append, List.length_singleton]
        have HBL := Lib.hid hBl
        have HBB := Lib.hid hB
        rw [← hB] at hby HE
        have HBY := Lib.hid hby
        clear hB hby hBl
        go_upto_region 4 with (first
          | (go_at_call 32; refine HG.out.mono ?_; rintro e w1 ⟨rfl, h1, m1⟩; have hR1 := Kd.R_step HR.out (fun k ho hk => m1.block k hk (fun h => by rcases h with h | h <;> omega)); have hs1 := m1.size; have HR1 := Lib.hid hR1; have H1 := Lib.hid h1; have M1 := Lib.hid m1; clear h1 m1 hR1)
          | (at_builtin; refine Kd.R_append (Kd.int .u8) (w0 := w1) (W := w1) w.heap.size rfl (.tmp 12) (.tmp 16) 24 5 (.int .u8 0) 1 rfl Tryd.underlying24 info_u8 rfl (by decide) (by decide) _ b (x : Int) [.int .u8 (x : Int)] (fun k => w.heap.size ≤ k) (fun _ => False) rfl rfl rfl (fun _ h => h.elim) (fun k hk => Nat.le_trans hsw (Nat.le_trans hs1 hk)) HR1.out (Below.refl _ _) (Nat.le_trans hsw hs1) (by omega) ?_; intro v2 w2 hR2 _ hg2 _; rw [← HBB.out] at hR2; obtain ⟨A2, c2, hv2⟩ := Kd.R_slice hR2; subst hv2; have HR2 := Lib.hid hR2; have HG2 := Lib.hid hg2; clear hR2 hg2))
        have hm2 : Mod (fun k => w.heap.size ≤ k) w1 w2 := (Mod.refl _ w1).grown HG2.out (fun k hk => .inl (HR1.out.1 k hk))
        have h2 := H1.out.kept hm2 (by omega) (fun k ho _ => by have := ho.2; omega)
        have d8 : w2.cell? ⟨q, 8, none⟩ = some (.int .i64 0) := h2.e0
        have f8 := blk_frozen h2.blk 8
        have H2 := Lib.hid h2
        have M2 : Hid (Mod (TwoB g q) w w2) := Lib.hid ((HM.out.trans M1.out (fun _ _ h => h)).grown HG2.out (fun k hk => .inr (HR1.out.1 k hk)))
        have HU := Lib.hid (uvarint_calls w2 A2 c2 B (Kd.R_reads' HR2.out).2.2 HBY.out (by have := HBL.out; omega))
        clear h2 hm2
        have hsh := ug_short B 0 0
        change (uget B).2.2 = 6 → _ at hsh
        obtain ⟨U, hU⟩ : ∃ U, U = uget B := ⟨_, rfl⟩
        rw [← hU] at HU HE hsh
        clear hU
        obtain ⟨U1, U2, E⟩ := U
        simp only at HU HE hsh
        have hE := HE.out
        by_cases hE0 : E = 0
        · subst hE0
          rw [if_pos rfl] at hE
          have HE2 := Lib.hid hE
          clear hE HE hsh
          go_wp2_with (go_at_call 70; refine HU.out.mono ?_; rintro e w' ⟨rfl, rfl⟩)
          go_ret
          rw [← HF.out, HE2.out]
          exact ⟨rfl, H2.out.back (fun k hk => hk.1) HQ.out, M2.out⟩
        · have hq0 : (E == 0) = false := beq_false_of_ne hE0
          rw [if_neg hE0] at hE
          by_cases hE6 : E = 6
          · subst hE6
            rw [if_pos rfl] at hE
            have hB9 := hsh rfl
            have HB9 := Lib.hid hB9
            clear hB9
            have HE2 := Lib.hid hE
            clear hE HE hsh hq0 hE0
            go_wp2_with (go_at_call 70; refine HU.out.mono ?_; rintro e w' ⟨rfl, rfl⟩)
            go_roundg (gk - 1)
            case measure => omega
            case rel => exact ⟨B, .ok r1, fun _ => ⟨by have := HBL.out; omega, by have := HBL.out; have := HB9.out; omega⟩, by have := HBL.out; omega, HBY.out, HR2.out, H2.out, M2.out, HE2.out.symm.trans HF.out⟩
          · have hq6 : (E == 6) = false := beq_false_of_ne hE6
            rw [if_neg hE6] at hE
            have HE2 := Lib.hid hE
            clear hE HE hsh hE0 hE6
            go_wp2_with (go_at_call 70; refine HU.out.mono ?_; rintro e w' ⟨rfl, rfl⟩)
            obtain ⟨h3, m3⟩ := H2.out.failed 8 (by decide)
            have H3 := Lib.hid h3
            have M3 := Lib.hid (M2.out.trans m3 (fun _ _ h => h))
            have HR3 := Lib.hid (Kd.R_step HR2.out (fun k ho hk => m3.block k hk (fun h => by rcases h with h | h <;> omega)))
            clear h3 m3
            go_roundg (gk - 1)
            case measure => omega
            case rel => exact ⟨B, .error 8, fun h => (by obtain ⟨_, h⟩ := h; cases h), by have := HBL.out; omega, HBY.out, HR3.out, H3.out, M3.out, HE2.out.symm.trans HF.out⟩
end Go.Proofs.YtmllgglcdlcdhaaDoor
end
section
namespace Go.Proofs.YtmllgglcdlcdhaaDoor
open Go Go.RowKit Go.Proofs.YtmllgglcdlcdhaaDoorW.PrintWords Go.Proofs.YtmllgglcdlcdhaaDoorW.PrintMore Go.Proofs.YtmllgglcdlcdhaaDoorW.PrintLast Bq Xs
set_option linter.unusedVariables false
set_option maxRecDepth 100000
set_option linter.unusedSimpArgs false
attribute [local go_sem ↓] Go.wp_at_zero Go.wp_at_succ
theorem sign_lt (n w : Nat) (hw : w < 64) (hn : n < 2 ^ w) : signX n w = if 2 ^ (w - 1) < n then (n : Int) - 2 ^ w else (n : Int) := sign_form n w hw hn
set_option maxHeartbeats 2000000 in
theorem rksigned (w : World) (ok : Nat → Prop) (q g : Nat) (σ : Sg) (s : St) (h : Rk w ok q g σ s) (width : Nat) (hw : width = 14 ∨ width = 17 ∨ width = 20 ∨ width = 64) :
    Calls Tryd.prog 71 #[.pointer (some ⟨q, 0, none⟩), .int .i64 (width : Nat)] w fun e w' => e = .returned (.int .i64 (signT width σ).1) ∧ Rk w' ok q g (signT width σ).2 s ∧ Mod (TwoB g q) w w' := by
  have HG := Lib.hid (rkget w ok q g σ s h (width : Nat) width (fun _ _ => ⟨rfl, by omega⟩))
  have hnl := getT_lt width σ
  unfold signT
  generalize getT width σ = G at HG hnl ⊢
  obtain ⟨n, σ'⟩ := G
  simp only at HG hnl ⊢
  clear h
  rcases hw with rfl | rfl | rfl | rfl
  · have hsn := sign_lt n 14 (by decide) hnl
    have HS := Lib.hid hsn
    have hw1 : IntKind.i64.wrap (n : Int) = (n : Int) := IntWalk.i64_in _ (by omega)
    have hw2 : IntKind.i64.wrap ((n : Int) - 16384) = (n : Int) - 16384 := IntWalk.i64_in _ (by omega)
    clear hsn
    by_cases hb : 8192 < n
    · have hb1 : (n : Int) > 8192 := by omega
      go_enter Tryd.func71, Tryd.ntmps71
      go_wp2_with (go_at_call 32; refine HG.out.mono ?_; rintro e w1 ⟨rfl, h1, m1⟩; have H1 := Lib.hid h1; have M1 := Lib.hid m1; clear h1 m1)
      go_ret
      refine ⟨?_, H1.out, M1.out⟩
      rw [HS.out, if_pos hb]
      rfl
    · have hb1 : ¬ (n : Int) > 8192 := by omega
      go_enter Tryd.func71, Tryd.ntmps71
      go_wp2_with (go_at_call 32; refine HG.out.mono ?_; rintro e w1 ⟨rfl, h1, m1⟩; have H1 := Lib.hid h1; have M1 := Lib.hid m1; clear h1 m1)
      go_ret
      refine ⟨?_, H1.out, M1.out⟩
      rw [HS.out, if_neg hb]
      rfl
  · have hsn := sign_lt n 17 (by decide) hnl
    have HS := Lib.hid hsn
    have hw1 : IntKind.i64.wrap (n : Int) = (n : Int) := IntWalk.i64_in _ (by omega)
    have hw2 : IntKind.i64.wrap ((n : Int) - 131072) = (n : Int) - 131072 := IntWalk.i64_in _ (by omega)
    clear hsn
    by_cases hb : 65536 < n
    · have hb1 : (n : Int) > 65536 := by omega
      go_enter Tryd.func71, Tryd.ntmps71
      go_wp2_with (go_at_call 32; refine HG.out.mono ?_; rintro e w1 ⟨rfl, h1, m1⟩; have H1 := Lib.hid h1; have M1 := Lib.hid m1; clear h1 m1)
      go_ret
      refine ⟨?_, H1.out, M1.out⟩
      rw [HS.out, if_pos hb]
      rfl
    · have hb1 : ¬ (n : Int) > 65536 := by omega
      go_enter Tryd.func71, Tryd.ntmps71
      go_wp2_with (go_at_call 32; refine HG.out.mono ?_; rintro e w1 ⟨rfl, h1, m1⟩; have H1 := Lib.hid h1; have M1 := Lib.hid m1; clear h1 m1)
      go_ret
      refine ⟨?_, H1.out, M1.out⟩
      rw [HS.out, if_neg hb]
      rfl
  · have hsn := sign_lt n 20 (by decide) hnl
    have HS := Lib.hid hsn
    have hw1 : IntKind.i64.wrap (n : Int) = (n : Int) := IntWalk.i64_in _ (by omega)
    have hw2 : IntKind.i64.wrap ((n : Int) - 1048576) = (n : Int) - 1048576 := IntWalk.i64_in _ (by omega)
    clear hsn
    by_cases hb : 524288 < n
    · have hb1 : (n : Int) > 524288 := by omega
      go_enter Tryd.func71, Tryd.ntmps71
      go_wp2_with (go_at_call 32; refine HG.out.mono ?_; rintro e w1 ⟨rfl, h1, m1⟩; have H1 := Lib.hid h1; have M1 := Lib.hid m1; clear h1 m1)
      go_ret
      refine ⟨?_, H1.out, M1.out⟩
      rw [HS.out, if_pos hb]
      rfl
    · have hb1 : ¬ (n : Int) > 524288 := by omega
      go_enter Tryd.func71, Tryd.ntmps71
      go_wp2_with (go_at_call 32; refine HG.out.mono ?_; rintro e w1 ⟨rfl, h1, m1⟩; have H1 := Lib.hid h1; have M1 := Lib.hid m1; clear h1 m1)
      go_ret
      refine ⟨?_, H1.out, M1.out⟩
      rw [HS.out, if_neg hb]
      rfl
  · have hsn : signX n 64 = wrap64 (n : Int) := by unfold signX; rw [if_neg (by omega)]
    obtain ⟨d, hd⟩ : ∃ d, d = wrap64 (n : Int) := ⟨_, rfl⟩
    have hw1 : wrap64 (n : Int) = d := hd.symm
    have hw2 : IntKind.i64.wrap (n : Int) = d := by rw [hd, IntKind.wrap_i64]; unfold wrap64; omega
    rw [← hd] at hsn
    have HS := Lib.hid hsn
    clear hsn hd
    go_enter Tryd.func71, Tryd.ntmps71
    go_wp2_with (go_at_call 32; refine HG.out.mono ?_; rintro e w1 ⟨rfl, h1, m1⟩; have H1 := Lib.hid h1; have M1 := Lib.hid m1; clear h1 m1)
    go_ret
    refine ⟨?_, H1.out, M1.out⟩
    rw [HS.out]
    rfl
theorem changeT_cons (w : Nat) (ws : List Nat) (σ : Sg) : changeT (w :: ws) σ = if (getT 1 σ).1 = 0 then (if w = 0 then (0, (getT 1 σ).2) else signT w (getT 1 σ).2) else changeT ws (getT 1 σ).2 := rfl
set_option maxHeartbeats 8000000 in
theorem rkchange (w : World) (ok : Nat → Prop) (q g : Nat) (σ : Sg) (s : St) (h : Rk w ok q g σ s) :
    Calls Tryd.prog 56 #[.pointer (some ⟨q, 0, none⟩)] w fun e w' => e = .returned (.int .i64 (changeT [0, 14, 17, 20] σ).1) ∧ Rk w' ok q g (changeT [0, 14, 17, 20] σ).2 s ∧ Mod (TwoB g q) w w' := by
  have hqw := h.qlt
  have hgq := h.lt
  obtain ⟨bx, hbx⟩ : ∃ bx, bx = w.heap.size := ⟨_, rfl⟩
  obtain ⟨W1, hW1⟩ : ∃ W1, W1 = w.alloc (.cells #[.int .i64 0, .int .i64 14, .int .i64 17, .int .i64 20] 3) := ⟨_, rfl⟩
  have hB1 : Below w.heap.size w W1 := by rw [hW1]; exact below_alloc (Below.refl _ _) _
  have hx1 : W1.heap[bx]? = some (.cells #[.int .i64 0, .int .i64 14, .int .i64 17, .int .i64 20] 3 (0, 0)) := by rw [hW1, hbx]; exact heap_alloc_new w _
  have hnq : bx ≠ q := by omega
  have hng : bx ≠ g := by omega
  have HW := Lib.hid (And.intro hW1 hbx)
  have H1 := Lib.hid (h.below hB1)
  have HX1 := Lib.hid hx1
  have M1 := Lib.hid (Mod.of_below hB1 (TwoB g q))
  clear h hW1 hbx hB1 hx1 hqw hgq
  go_enter Tryd.func56, Tryd.ntmps56
  go_upto_region 2 with fail
  rw [← HW.out.1, ← HW.out.2]
  go_wp2
  go_loopg [7] 4 (fun kq s7 wr => ∃ (i : Nat) (σ' : Sg), i + kq = 4 ∧ s7 = .int .i64 i ∧ Hid (Rk wr ok q g σ' s) ∧ Hid (Mod (TwoB g q) w wr) ∧ Hid (wr.heap[bx]? = some (.cells #[.int .i64 0, .int .i64 14, .int .i64 17, .int .i64 20] 3 (0, 0))) ∧ Hid (changeT (([0, 14, 17, 20] : List Nat).drop i) σ' = changeT [0, 14, 17, 20] σ))
  case atStart => exact ⟨0, σ, rfl, rfl, H1.out, M1.out, HX1.out, rfl⟩
  case round =>
    obtain ⟨i, σ', hi, rfl, HK, HM, HX, HC⟩ := hrel
    have hii : i = 0 ∨ i = 1 ∨ i = 2 ∨ i = 3 ∨ i = 4 := by omega
    have hx := HX.out
    have y0 : wr.cell? ⟨bx, 0, none⟩ = some (.int .i64 0) := (blk_cell hx 0).trans rfl
    have y1 : wr.cell? ⟨bx, 1, none⟩ = some (.int .i64 14) := (blk_cell hx 1).trans rfl
    have y2 : wr.cell? ⟨bx, 2, none⟩ = some (.int .i64 17) := (blk_cell hx 2).trans rfl
    have y3 : wr.cell? ⟨bx, 3, none⟩ = some (.int .i64 20) := (blk_cell hx 3).trans rfl
    clear hx
    have HG := Lib.hid (rkget wr ok q g σ' s HK.out 1 1 (fun _ _ => ⟨rfl, by decide⟩))
    have hn := getT_lt 1 σ'
    have hC := HC.out
    rcases hii with rfl | rfl | rfl | rfl | rfl
    · rw [show ([0, 14, 17, 20] : List Nat).drop 0 = 0 :: ([0, 14, 17, 20] : List Nat).drop 1 from rfl, changeT_cons] at hC
      generalize getT 1 σ' = G at HG hn hC
      obtain ⟨n, σ1⟩ := G
      simp only at HG hn hC
      by_cases hn0 : n = 0
      · subst hn0
        rw [if_pos rfl, if_pos trivial] at hC
        have HE := Lib.hid hC
        clear hC
        go_wp2_with (go_at_call 32; refine HG.out.mono ?_; rintro e w2 ⟨rfl, h2, m2⟩; have H2 := Lib.hid h2; have M2 := Lib.hid m2; clear h2 m2)
        go_ret
        rw [← HE.out]
        exact ⟨rfl, H2.out, HM.out.trans M2.out (fun _ _ h => h)⟩
      · rw [if_neg hn0] at hC
        have hb : ((n : Int) == 0) = false := beq_false_of_ne (by omega)
        have HE := Lib.hid hC
        clear hC
        go_wp2_with (go_at_call 32; refine HG.out.mono ?_; rintro e w2 ⟨rfl, h2, m2⟩; have H2 := Lib.hid h2; have M2 := Lib.hid m2; clear h2 m2)
        go_roundg (gk - 1)
        case measure => omega
        case rel => exact ⟨1, σ1, by omega, by go_num, H2.out, HM.out.trans M2.out (fun _ _ h => h), M2.out.blk HX.out (by rintro (h | h) <;> omega), HE.out⟩
    · rw [show ([0, 14, 17, 20] : List Nat).drop 1 = 14 :: ([0, 14, 17, 20] : List Nat).drop 2 from rfl, changeT_cons] at hC
      generalize getT 1 σ' = G at HG hn hC
      obtain ⟨n, σ1⟩ := G
      simp only at HG hn hC
      by_cases hn0 : n = 0
      · subst hn0
        rw [if_pos rfl, if_neg (by decide)] at hC
        have HE := Lib.hid hC
        clear hC
        go_wp2_with (first | (go_at_call 32; refine HG.out.mono ?_; rintro e w2 ⟨rfl, h2, m2⟩; have H2 := Lib.hid h2; have M2 := Lib.hid m2; clear h2 m2) | (go_at_call 71; refine (rksigned w2 ok q g σ1 s H2.out 14 (by decide)).mono ?_; rintro e w3 ⟨rfl, h3, m3⟩; have H3 := Lib.hid h3; have M3 := Lib.hid m3; clear h3 m3))
        go_ret
        rw [← HE.out]
        exact ⟨rfl, H3.out, (HM.out.trans M2.out (fun _ _ h => h)).trans M3.out (fun _ _ h => h)⟩
      · rw [if_neg hn0] at hC
        have hb : ((n : Int) == 0) = false := beq_false_of_ne (by omega)
        have HE := Lib.hid hC
        clear hC
        go_wp2_with (go_at_call 32; refine HG.out.mono ?_; rintro e w2 ⟨rfl, h2, m2⟩; have H2 := Lib.hid h2; have M2 := Lib.hid m2; clear h2 m2)
        go_roundg (gk - 1)
        case measure => omega
        case rel => exact ⟨2, σ1, by omega, by go_num, H2.out, HM.out.trans M2.out (fun _ _ h => h), M2.out.blk HX.out (by rintro (h | h) <;> omega), HE.out⟩
    · rw [show ([0, 14, 17, 20] : List Nat).drop 2 = 17 :: ([0, 14, 17, 20] : List Nat).drop 3 from rfl, changeT_cons] at hC
      generalize getT 1 σ' = G at HG hn hC
      obtain ⟨n, σ1⟩ := G
      simp only at HG hn hC
      by_cases hn0 : n = 0
      · subst hn0
        rw [if_pos rfl, if_neg (by decide)] at hC
        have HE := Lib.hid hC
        clear hC
        go_wp2_with (first | (go_at_call 32; refine HG.out.mono ?_; rintro e w2 ⟨rfl, h2, m2⟩; have H2 := Lib.hid h2; have M2 := Lib.hid m2; clear h2 m2) | (go_at_call 71; refine (rksigned w2 ok q g σ1 s H2.out 17 (by decide)).mono ?_; rintro e w3 ⟨rfl, h3, m3⟩; have H3 := Lib.hid h3; have M3 := Lib.hid m3; clear h3 m3))
        go_ret
        rw [← HE.out]
        exact ⟨rfl, H3.out, (HM.out.trans M2.out (fun _ _ h => h)).trans M3.out (fun _ _ h => h)⟩
      · rw [if_neg hn0] at hC
        have hb : ((n : Int) == 0) = false := beq_false_of_ne (by omega)
        have HE := Lib.hid hC
        clear hC
        go_wp2_with (go_at_call 32; refine HG.out.mono ?_; rintro e w2 ⟨rfl, h2, m2⟩; have H2 := Lib.hid h2; have M2 := Lib.hid m2; clear h2 m2)
        go_roundg (gk - 1)
        case measure => omega
        case rel => exact ⟨3, σ1, by omega, by go_num, H2.out, HM.out.trans M2.out (fun _ _ h => h), M2.out.blk HX.out (by rintro (h | h) <;> omega), HE.out⟩
    · rw [show ([0, 14, 17, 20] : List Nat).drop 3 = 20 :: ([0, 14, 17, 20] : List Nat).drop 4 from rfl, changeT_cons] at hC
      generalize getT 1 σ' = G at HG hn hC
      obtain ⟨n, σ1⟩ := G
      simp only at HG hn hC
      by_cases hn0 : n = 0
      · subst hn0
        rw [if_pos rfl, if_neg (by decide)] at hC
        have HE := Lib.hid hC
        clear hC
        go_wp2_with (first | (go_at_call 32; refine HG.out.mono ?_; rintro e w2 ⟨rfl, h2, m2⟩; have H2 := Lib.hid h2; have M2 := Lib.hid m2; clear h2 m2) | (go_at_call 71; refine (rksigned w2 ok q g σ1 s H2.out 20 (by decide)).mono ?_; rintro e w3 ⟨rfl, h3, m3⟩; have H3 := Lib.hid h3; have M3 := Lib.hid m3; clear h3 m3))
        go_ret
        rw [← HE.out]
        exact ⟨rfl, H3.out, (HM.out.trans M2.out (fun _ _ h => h)).trans M3.out (fun _ _ h => h)⟩
      · rw [if_neg hn0] at hC
        have hb : ((n : Int) == 0) = false := beq_false_of_ne (by omega)
        have HE := Lib.hid hC
        clear hC
        go_wp2_with (go_at_call 32; refine HG.out.mono ?_; rintro e w2 ⟨rfl, h2, m2⟩; have H2 := Lib.hid h2; have M2 := Lib.hid m2; clear h2 m2)
        go_roundg (gk - 1)
        case measure => omega
        case rel => exact ⟨4, σ1, by omega, by go_num, H2.out, HM.out.trans M2.out (fun _ _ h => h), M2.out.blk HX.out (by rintro (h | h) <;> omega), HE.out⟩
    · have HS := Lib.hid (rksigned wr ok q g σ' s HK.out 64 (by decide))
      have HE : Hid (signT 64 σ' = changeT [0, 14, 17, 20] σ) := Lib.hid hC
      clear hC HG hn
      go_wp2_with (go_at_call 71; refine HS.out.mono ?_; rintro e w3 ⟨rfl, h3, m3⟩; have H3 := Lib.hid h3; have M3 := Lib.hid m3; clear h3 m3)
      go_ret
      rw [← HE.out]
      exact ⟨rfl, H3.out, HM.out.trans M3.out (fun _ _ h => h)⟩
end Go.Proofs.YtmllgglcdlcdhaaDoor
end
section
namespace Go.Proofs.YtmllgglcdlcdhaaDoor
open Go Go.RowKit Go.Proofs.YtmllgglcdlcdhaaDoorW.PrintWords Go.Proofs.YtmllgglcdlcdhaaDoorW.PrintMore Go.Proofs.YtmllgglcdlcdhaaDoorW.PrintLast Bq Xs
set_option linter.unusedVariables false
set_option maxRecDepth 100000
set_option linter.unusedSimpArgs false
attribute [local go_sem ↓] Go.wp_at_zero Go.wp_at_succ
theorem Rr.bound {w : World} {ok : Nat → Prop} {q : Nat} {σ : Sg} (h : Rr w ok q σ) : Rr w (fun k => ok k ∧ k < w.heap.size) q σ := by
  obtain ⟨v, bits, a, h⟩ := h
  exact ⟨v, bits, a, h.blk, Kd.R_mono (Kd.R_bound h.R) (fun k hk => ⟨hk.1, hk.2.2.1⟩), h.rem, h.small, fun hk => h.okq hk.1, h.good⟩
theorem Rr.back {w : World} {ok ok1 : Nat → Prop} {q : Nat} {σ : Sg} (h : Rr w ok1 q σ) (hk : ∀ k, ok1 k → ok k) (hq : ¬ ok q) : Rr w ok q σ := by
  obtain ⟨v, bits, a, h⟩ := h
  exact ⟨v, bits, a, h.blk, Kd.R_mono h.R hk, h.rem, h.small, hq, h.good⟩
end Go.Proofs.YtmllgglcdlcdhaaDoor
end
