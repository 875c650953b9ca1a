/- The document's Mac; HashMacs: the walk. -/
import Derived.Test.YtclndenmmhdokaaDoorH26
import Derived.Test.YtclndenmmhdokaaDoorH27
namespace Go.Proofs.YtclndenmmhdokaaDoor
open Go Go.RowKit Go.Proofs.YtclndenmmhdokaaDoorW.PrintWords Go.Proofs.YtclndenmmhdokaaDoorW.PrintMore Go.Proofs.YtclndenmmhdokaaDoorW.PrintLast Bq
set_option linter.unusedVariables false
set_option linter.unusedSimpArgs false
attribute [local go_sem ↓] Go.wp_at_zero Go.wp_at_succ
set_option maxHeartbeats 4000000 in
theorem rmac_calls (w : World) (A : Option Addr) (c : Nat) (key : List Int) (B : Option Addr) (cb : Nat) (t : List Int) (hC : (Kd.int .u8).C w A key.length key) (hcap : key.length ≤ c) (hb : Byts key) (hl : key.length ≤ 900000000)
    (hCt : (Kd.int .u8).C w B t.length t) (hct : t.length ≤ cb) (hbt : Byts t) (hlt : t.length ≤ 900000000) :
    Calls Tryd.prog 26 #[.slice A key.length c, .slice B t.length cb] w fun e w' => ∃ A' c', e = .returned (.slice A' 32 c') ∧ (Kd.int .u8).C w' A' 32 (Sha.mac key t) ∧ Below w.heap.size w w' := by
  obtain ⟨X92, hX92⟩ : ∃ X, X = Sha.xor8 92 (Sha.key64 key) := ⟨_, rfl⟩
  obtain ⟨X54, hX54⟩ : ∃ X, X = Sha.xor8 54 (Sha.key64 key) := ⟨_, rfl⟩
  obtain ⟨U, hU⟩ : ∃ U, U = X54 ++ t := ⟨_, rfl⟩
  obtain ⟨E, hE⟩ : ∃ E, E = Sha.sum U := ⟨_, rfl⟩
  obtain ⟨V, hV⟩ : ∃ V, V = X92 ++ E := ⟨_, rfl⟩
  obtain ⟨M, hM⟩ : ∃ M, M = Sha.sum V := ⟨_, rfl⟩
  have l92 : X92.length = 64 := by rw [hX92, Sha.xor8_length, Sha.key64_length]
  have l54 : X54.length = 64 := by rw [hX54, Sha.xor8_length, Sha.key64_length]
  have lE : E.length = 32 := by rw [hE, Sha.sum_length]
  have lM : M.length = 32 := by rw [hM, Sha.sum_length]
  have lU : U.length ≤ 900000064 := by rw [hU, List.length_append]; omega
  have lV : V.length = 96 := by rw [hV, List.length_append]; omega
  have bU : Byts U := by rw [hU, hX54]; exact Sha.byts_app (Sha.byts_xor8 _ _) hbt
  have bV : Byts V := by rw [hV, hX92, hE]; exact Sha.byts_app (Sha.byts_xor8 _ _) (Sha.byts_sum _)
  have hmac : Sha.mac key t = M := by rw [hM, hV, hE, hU, hX92, hX54]; rfl
  rw [hmac]
  have CX92 : Hid (∀ W : World, (Kd.int .u8).C W A key.length key → Calls Tryd.prog 50 #[.slice A key.length c, .int .u8 92] W fun e w' => ∃ A' c', e = .returned (.slice A' 64 c') ∧ 64 ≤ c' ∧ (Kd.int .u8).C w' A' 64 X92 ∧ Below W.heap.size W w') := Lib.hid (fun W h => by
    have h := rxored_calls W A c key 92 h hcap hb (by omega) (by decide) (by decide)
    rw [← hX92] at h
    exact h)
  have CX54 : Hid (∀ W : World, (Kd.int .u8).C W A key.length key → Calls Tryd.prog 50 #[.slice A key.length c, .int .u8 54] W fun e w' => ∃ A' c', e = .returned (.slice A' 64 c') ∧ 64 ≤ c' ∧ (Kd.int .u8).C w' A' 64 X54 ∧ Below W.heap.size W w') := Lib.hid (fun W h => by
    have h := rxored_calls W A c key 54 h hcap hb (by omega) (by decide) (by decide)
    rw [← hX54] at h
    exact h)
  have CJ1 : Hid (∀ (W : World) (A2 : Option Addr) (c2 : Nat), (Kd.int .u8).C W A2 64 X54 → 64 ≤ c2 → (Kd.int .u8).C W B t.length t → Calls Tryd.prog 17 #[.slice (some ⟨W.heap.size, 0, none⟩) 2 2] (W.alloc (.cells #[.slice A2 64 c2, .slice B t.length cb] 28)) fun e w' => ∃ A' c', e = .returned (.slice A' U.length c') ∧ U.length ≤ c' ∧ (Kd.int .u8).C w' A' U.length U ∧ Below W.heap.size W w') := Lib.hid (fun W A2 c2 h hc h2 => by
    have h := join2_as W A2 B c2 cb X54 t U (by rw [l54]; exact h) h2 (by omega) hct hU (by omega)
    rw [l54] at h
    exact h)
  have CJ2 : Hid (∀ (W : World) (A2 : Option Addr) (c2 : Nat) (A3 : Option Addr) (c3 : Nat), (Kd.int .u8).C W A2 64 X92 → 64 ≤ c2 → (Kd.int .u8).C W A3 E.length E → E.length ≤ c3 → Calls Tryd.prog 17 #[.slice (some ⟨W.heap.size, 0, none⟩) 2 2] (W.alloc (.cells #[.slice A2 64 c2, .slice A3 E.length c3] 28)) fun e w' => ∃ A' c', e = .returned (.slice A' V.length c') ∧ V.length ≤ c' ∧ (Kd.int .u8).C w' A' V.length V ∧ Below W.heap.size W w') := Lib.hid (fun W A2 c2 A3 c3 h hc h2 hc2 => by
    have h := join2_as W A2 A3 c2 c3 X92 E V (by rw [l92]; exact h) h2 (by omega) hc2 hV (by omega)
    rw [l92] at h
    exact h)
  have CS1 : Hid (∀ (W : World) (A2 : Option Addr) (c2 : Nat), (Kd.int .u8).C W A2 U.length U → U.length ≤ c2 → Calls Tryd.prog 16 #[.slice A2 U.length c2] W fun e w' => ∃ A' c', e = .returned (.slice A' E.length c') ∧ E.length ≤ c' ∧ (Kd.int .u8).C w' A' E.length E ∧ Below W.heap.size W w') := Lib.hid (fun W A2 c2 h hc => by
    have h := rsum_C W A2 c2 U h hc bU (by omega)
    rw [← hE] at h
    exact h)
  have CS2 : Hid (∀ (W : World) (A2 : Option Addr) (c2 : Nat), (Kd.int .u8).C W A2 V.length V → V.length ≤ c2 → Calls Tryd.prog 16 #[.slice A2 V.length c2] W fun e w' => ∃ A' c', e = .returned (.slice A' M.length c') ∧ M.length ≤ c' ∧ (Kd.int .u8).C w' A' M.length M ∧ Below W.heap.size W w') := Lib.hid (fun W A2 c2 h hc => by
    have h := rsum_C W A2 c2 V h hc bV (by omega)
    rw [← hM] at h
    exact h)
  have HC := Lib.hid hC
  have HCT := Lib.hid hCt
  have LM := Lib.hid lM
  clear hX92 hX54 hU hE hV hM l92 l54 lE lM lU lV bU bV hmac hC hCt hb hbt
  go_enter Tryd.func26, Tryd.ntmps26
  go_wp2_with (first
    | (go_at_call 50; refine (CX54.out _ (Kd.C_below HC.out HB1.out)).mono ?_; rintro e w2 ⟨A2, c2, rfl, hc2, hC2, hB2⟩; have HC2 := Lib.hid hC2; have HB2 := Lib.hid (HB1.out.trans (below_lower hB2 HB1.out.size)); have HC1 := Lib.hid (Kd.C_below HC1.out hB2); have CJ := Lib.hid (CJ1.out w2 A2 c2 hC2 hc2 (Kd.C_below HCT.out HB2.out)); clear hC2 hB2)
    | (go_at_call 50; refine (CX92.out w HC.out).mono ?_; rintro e w1 ⟨A1, c1, rfl, hc1, hC1, hB1⟩; have HC1 := Lib.hid hC1; have HB1 := Lib.hid hB1; clear hC1 hB1)
    | (go_at_call 16; refine (CS2.out _ _ _ HC5.out hc5).mono ?_; rintro e w6 ⟨A6, c6, rfl, hc6, hC6, hB6⟩; have HC6 := Lib.hid hC6; have HB6 := Lib.hid (HB5.out.trans (below_lower hB6 HB5.out.size)); clear hC6 hB6)
    | (go_at_call 16; refine (CS1.out _ _ _ HC3.out hc3).mono ?_; rintro e w4 ⟨A4, c4, rfl, hc4, hC4, hB4⟩; have HC4 := Lib.hid hC4; have HB4 := Lib.hid (HB3.out.trans (below_lower hB4 HB3.out.size)); have HC1 := Lib.hid (Kd.C_below HC1.out hB4); have CJ := Lib.hid (CJ2.out w4 A1 c1 A4 c4 HC1.out hc1 hC4 hc4); clear hC4 hB4)
    | (go_at_call 17; refine (show Hid (Calls _ _ _ (w4.alloc _) _) from CJ).out.mono ?_; rintro e w5 ⟨A5, c5, rfl, hc5, hC5, hB5⟩; have HC5 := Lib.hid hC5; have HB5 := Lib.hid (HB4.out.trans (below_lower hB5 HB4.out.size)); clear hC5 hB5)
    | (go_at_call 17; refine CJ.out.mono ?_; rintro e w3 ⟨A3, c3, rfl, hc3, hC3, hB3⟩; have HC3 := Lib.hid hC3; have HB3 := Lib.hid (HB2.out.trans (below_lower hB3 HB2.out.size)); have HC1 := Lib.hid (Kd.C_below HC1.out hB3); clear hC3 hB3))
  go_ret
  have h6 := HC6.out
  rw [LM.out] at h6 ⊢
  exact ⟨_, _, rfl, h6, HB6.out⟩
theorem short1 (xs : List Int) : shortB [xs] = decide (xs.length ≤ 2000) := by
  unfold shortB
  simp
set_option maxHeartbeats 4000000 in
theorem hashMacs_calls (w : World) (K : Option Addr) (ck : Nat) (key : List Int) (A : Option Addr) (c : Nat) (xss : List (List Int)) (hK : (Kd.int .u8).C w K key.length key) (hkc : key.length ≤ ck) (hbk : Byts key) (hC : (Kd.slice 5 (Kd.int .u8)).C w A xss.length xss) (hb : ∀ xs ∈ xss, Byts xs) (hT : ∀ i, i < 64 → w.cell? ⟨0, i, none⟩ = some (.int .u32 (Sha.K.getD i 0))) :
    Calls Tryd.prog 7 #[.slice K key.length ck, .slice A xss.length c] w fun e w' => e = .returned (.bool true) ∧ Below w.heap.size w w' := by
  have HK := Lib.hid hK
  have HBK := Lib.hid hbk
  have HC := Lib.hid hC
  have HB := Lib.hid hb
  have HKC := Lib.hid hkc
  have HT := Lib.hid (fun (W : World) (hW : Below w.heap.size w W) (i : Nat) (hi : i < 64) => (hW.cell (World.block_lt_of_cell? w _ (hT i hi))).trans (hT i hi))
  have HLIVE := Lib.hid (fun (W : World) (hW : Below w.heap.size w W) => live_calls W (HT.out W hW))
  have HSK := Lib.hid (fun (W : World) (hW : Below w.heap.size w W) => short_calls _ _ 1 [key] (lit1_C W 28 K ck key (Kd.C_below hK hW) hkc))
  have HSX := Lib.hid (fun (W : World) (hW : Below w.heap.size w W) => short_calls W A c xss (Kd.C_below hC hW))
  clear hC hb hT hK hbk hkc
  by_cases hsk : shortB [key] = true
  · have HSKT := Lib.hid hsk
    by_cases hs : shortB xss = true
    · have HS := Lib.hid hs
      clear hs hsk
      go_enter Tryd.func7, Tryd.ntmps7
      go_upto_region 3 with (first | (go_at_call 12; refine (HLIVE.out w (Below.refl _ w)).mono ?_; rintro e w1 ⟨rfl, hB1⟩; have HB1 := Lib.hid hB1; have hsh := HSK.out w1 hB1; rw [HSKT.out] at hsh; have HSH := Lib.hid hsh; clear hB1 hsh) | (go_at_call 13; refine HSH2.out.mono ?_; rintro e w3 ⟨rfl, rfl⟩) | (go_at_call 13; refine HSH.out.mono ?_; rintro e w2 ⟨rfl, hw2⟩; have hB2 : Below w.heap.size w w2 := (by rw [← hw2]; exact HB1.out.alloc HB1.out.size _); have HB2 := Lib.hid hB2; have hsh := HSX.out w2 hB2; rw [HS.out] at hsh; have HSH2 := Lib.hid hsh; clear hB2 hsh hw2))
      obtain ⟨T, hT⟩ : ∃ T, T = xss.flatten := ⟨_, rfl⟩
      obtain ⟨D, hD⟩ : ∃ D, D = Sha.mac key T := ⟨_, rfl⟩
      have hDl : D.length = 32 := by rw [hD]; exact Sha.sum_length _
      have hkl : key.length ≤ 2000 := by have := HSKT.out; rw [short1] at this; exact of_decide_eq_true this
      have hTl : T.length ≤ 60000 := by rw [hT]; exact short_flat HS.out
      have hTb : Byts T := by rw [hT]; exact byts_flat HB.out
      have hcall := mac_calls w2 K ck key A c xss (Kd.C_below HK.out HB2.out) HBK.out (by omega) (Parts.of (t := 0) (Kd.C_below HC.out HB2.out)) HB.out (by rw [← hT]; omega) (by have := (shortB_true HS.out).2; omega) (HT.out _ HB2.out)
      rw [← hT, ← hD] at hcall
      have HCALL := Lib.hid hcall
      have HTH := Lib.hid (sum32 D hDl).1
      have HSZ := Lib.hid (sum32 D hDl).2
      have hs1 := HB2.out.size
      clear hcall
      have HT1 := Lib.hid hT
      have HD1 := Lib.hid hD
      have HDL := Lib.hid hDl
      have HTL := Lib.hid hTl
      have HTB := Lib.hid hTb
      have HKL := Lib.hid hkl
      clear hT hD hDl hTl hTb hkl
      go_upto_region 4 with (go_at_call 25; refine HCALL.out.mono ?_; rintro e w4 ⟨rfl, hB4⟩; have HB4 := Lib.hid (HB2.out.trans (below_lower hB4 hs1)); clear hB4; apply_assumption; refine wl_alloc32 rfl rfl ?_; refine wpList_store_mid rfl _ _ _ rfl w4.heap.size 0 (nums .u8 D).toArray rfl rfl (HTH.out w4) HSZ.out (all_oneCell_toArray (nums_one .u8 D)) ?_; rw [List.toList_toArray]; change wpList _ _ _ _ _ (putA (w4.alloc (.cells (nums .u8 (List.replicate 32 0)).toArray 25)) w4.heap.size .u8 D))
      have h5 := sum32_new w4 w D HDL.out HB4.out
      obtain ⟨sb, hsb⟩ : ∃ sb, sb = w4.heap.size := ⟨_, rfl⟩
      obtain ⟨w5, hw5⟩ : ∃ w5, w5 = putA (w4.alloc (.cells (nums .u8 (List.replicate 32 0)).toArray 25)) w4.heap.size .u8 D := ⟨_, rfl⟩
      rw [← hw5, ← hsb] at h5
      rw [← hw5, ← hsb]
      clear hw5 hsb
      have A5 := Lib.hid h5.1
      have B5 := Lib.hid h5.2
      clear h5
      have CJ : Hid (∀ W, Below w5.heap.size w5 W → Calls Tryd.prog 17 #[.slice A xss.length c] W fun e w' => ∃ A' c', e = .returned (.slice A' T.length c') ∧ T.length ≤ c' ∧ (Kd.int .u8).C w' A' T.length T ∧ Below W.heap.size W w') := Lib.hid (fun W hW => by
        refine (join_calls W A c xss (Kd.C_below HC.out (B5.out.trans (below_lower hW B5.out.size))) (by have := HTL.out; rw [HT1.out] at this; omega)).mono ?_
        rintro e w' ⟨v, rfl, hR, hB⟩
        obtain ⟨A', c', rfl, hc, hC⟩ := Kd.R_reads hR
        rw [← HT1.out] at hc hC
        rw [← HT1.out]
        exact ⟨A', c', rfl, hc, hC, hB⟩)
      have CS : Hid (∀ (W : World) (A' : Option Addr) (c' : Nat), Below w5.heap.size w5 W → (Kd.int .u8).C W A' T.length T → T.length ≤ c' → Calls Tryd.prog 26 #[.slice K key.length ck, .slice A' T.length c'] W fun e w' => ∃ A' c', e = .returned (.slice A' 32 c') ∧ (Kd.int .u8).C w' A' 32 D ∧ Below W.heap.size W w') := Lib.hid (fun W A' c' hW hC hc => by
        have h := rmac_calls W K ck key A' c' T (Kd.C_below HK.out (B5.out.trans (below_lower hW B5.out.size))) HKC.out HBK.out (by have := HKL.out; omega) hC hc HTB.out (by have := HTL.out; omega)
        rw [← HD1.out] at h
        exact h)
      have CE : Hid (∀ (W : World) (A' : Option Addr) (c' : Nat), Below w5.heap.size w5 W → (Kd.int .u8).C W A' 32 D → Calls Tryd.prog 15 #[.slice (some ⟨sb, 0, none⟩) 32 32, .slice A' 32 c'] W fun e w' => e = .returned (.bool true) ∧ Below W.heap.size W w') := Lib.hid (fun W A' c' hW hC => by
        have hB : Blk W sb .u8 25 D := (hW.block sb A5.out.lt).trans A5.out
        have hDl := HDL.out
        have h := requal_true W (some ⟨sb, 0, none⟩) A' 32 c' D (hB.C (by omega)) (by rw [hDl]; exact hC) (by omega)
        rw [hDl] at h
        refine h.mono ?_
        rintro e w' ⟨he, n, rfl⟩
        exact ⟨he, pw_below_drewN (Below.refl _ _) n⟩)
      go_region_with (first | (go_at_call 17; refine (CJ.out _ (Below.refl _ w5).drew).mono ?_; rintro e w6 ⟨A6, c6, rfl, hc6, hC6, hB6⟩; have b6 : Below w5.heap.size w5 w6 := ((Below.refl _ w5).drew).trans hB6; have HB6 := Lib.hid b6; have HC6 := Lib.hid (CS.out w6 A6 c6 b6 hC6 hc6); clear hc6 hC6 hB6 b6) | (go_at_call 26; refine HC6.out.mono ?_; rintro e w7 ⟨A7, c7, rfl, hC7, hB7⟩; have b7 : Below w5.heap.size w5 w7 := HB6.out.trans (below_lower hB7 HB6.out.size); have HB7 := Lib.hid b7; have HC7 := Lib.hid (CE.out w7 A7 c7 b7 hC7); clear hC7 hB7 b7) | (go_at_call 15; refine HC7.out.mono ?_; rintro e w8 ⟨rfl, hB8⟩; have HB8 := Lib.hid (HB7.out.trans (below_lower hB8 HB7.out.size)); clear hB8))
      go_wp2_with fail
      go_ret
      exact ⟨rfl, B5.out.trans (below_lower HB8.out B5.out.size)⟩
    · have hs : shortB xss = false := by simpa using hs
      have HS := Lib.hid hs
      clear hs hsk
      go_enter Tryd.func7, Tryd.ntmps7
      go_upto_region 2 with (first | (go_at_call 12; refine (HLIVE.out w (Below.refl _ w)).mono ?_; rintro e w1 ⟨rfl, hB1⟩; have HB1 := Lib.hid hB1; have hsh := HSK.out w1 hB1; rw [HSKT.out] at hsh; have HSH := Lib.hid hsh; clear hB1 hsh) | (go_at_call 13; refine HSH2.out.mono ?_; rintro e w3 ⟨rfl, rfl⟩) | (go_at_call 13; refine HSH.out.mono ?_; rintro e w2 ⟨rfl, hw2⟩; have hB2 : Below w.heap.size w w2 := (by rw [← hw2]; exact HB1.out.alloc HB1.out.size _); have HB2 := Lib.hid hB2; have hsh := HSX.out w2 hB2; rw [HS.out] at hsh; have HSH2 := Lib.hid hsh; clear hB2 hsh hw2))
      go_wp2_with (go_at_call 12; refine (HLIVE.out w2 HB2.out).mono ?_; rintro e w5 ⟨rfl, hB5⟩; have HB5 := Lib.hid (HB2.out.trans (below_lower hB5 HB2.out.size)); clear hB5)
      go_ret
      exact ⟨rfl, HB5.out⟩
  · have hsk : shortB [key] = false := by simpa using hsk
    have HSKT := Lib.hid hsk
    clear hsk
    go_enter Tryd.func7, Tryd.ntmps7
    go_upto_region 2 with (first | (go_at_call 12; refine (HLIVE.out w (Below.refl _ w)).mono ?_; rintro e w1 ⟨rfl, hB1⟩; have HB1 := Lib.hid hB1; have hsh := HSK.out w1 hB1; rw [HSKT.out] at hsh; have HSH := Lib.hid hsh; clear hB1 hsh) | (go_at_call 13; refine HSH.out.mono ?_; rintro e w2 ⟨rfl, hw2⟩; have hB2 : Below w.heap.size w w2 := (by rw [← hw2]; exact HB1.out.alloc HB1.out.size _); have HB2 := Lib.hid hB2; clear hB2 hw2))
    go_wp2_with (go_at_call 12; refine (HLIVE.out w2 HB2.out).mono ?_; rintro e w5 ⟨rfl, hB5⟩; have HB5 := Lib.hid (HB2.out.trans (below_lower hB5 HB2.out.size)); clear hB5)
    go_ret
    exact ⟨rfl, HB5.out⟩
end Go.Proofs.YtclndenmmhdokaaDoor
