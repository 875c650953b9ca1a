/- HashWrites: the walk. -/
import Derived.Test.YtclndenmmhdokaaDoorH26
namespace Go.Proofs.YtclndenmmhdokaaDoor
open Go Go.RowKit Go.Proofs.YtclndenmmhdokaaDoorW.PrintWords Go.Proofs.YtclndenmmhdokaaDoorW.PrintMore Go.Proofs.YtclndenmmhdokaaDoorW.PrintLast Bq
set_option linter.unusedVariables false
set_option linter.unusedSimpArgs false
attribute [local go_sem ↓] Go.wp_at_zero Go.wp_at_succ
theorem join1R (w : World) (A : Option Addr) (ca : Nat) (xs : List Int) (hA : (Kd.int .u8).C w A xs.length xs) (ha : xs.length ≤ ca) (hs : xs.length ≤ 1000000000000) :
    Calls Tryd.prog 17 #[.slice (some ⟨w.heap.size, 0, none⟩) 1 1] (w.alloc (.cells #[.slice A xs.length ca] 28)) fun e w' => ∃ A' c', e = .returned (.slice A' xs.length c') ∧ (Kd.int .u8).R 5 w' 0 (fun k => w.heap.size ≤ k) (.slice A' xs.length c') xs ∧ Below w.heap.size w w' := by
  have hC := lit1_C w 28 A ca xs hA ha
  have hf : [xs].flatten = xs := by simp
  have h := join_calls _ _ 1 [xs] hC (by rw [hf]; exact hs)
  rw [hf] at h
  refine h.mono ?_
  rintro e w' ⟨v, rfl, hR, hb'⟩
  have e1 : w.heap.size ≤ (w.alloc (.cells #[.slice A xs.length ca] 28)).heap.size := by rw [World.size_alloc]; omega
  obtain ⟨A', c', rfl⟩ := Kd.R_slice hR
  exact ⟨A', c', rfl, Kd.R_lower (Kd.R_mono hR (fun k hk => Nat.le_trans e1 hk)) (Nat.zero_le _), (below_alloc (Below.refl _ w) _).trans (below_lower hb' e1)⟩
theorem join2S (w : World) (A B : Option Addr) (ca cb : Nat) (xs ys zs : List Int) (hA : (Kd.int .u8).C w A xs.length xs) (hB : (Kd.int .u8).C w B ys.length ys) (ha : xs.length ≤ ca) (hb : ys.length ≤ cb) (hz : zs = xs ++ ys) (hs : zs.length ≤ 1000000000000) :
    Calls Tryd.prog 17 #[.slice (some ⟨w.heap.size, 0, none⟩) 2 2] (w.alloc (.cells #[.slice A xs.length ca, .slice B ys.length cb] 28)) fun e w' => ∃ A' c', e = .returned (.slice A' zs.length c') ∧ (Kd.int .u8).R 5 w' 0 (fun k => w.heap.size ≤ k) (.slice A' zs.length c') zs ∧ Below w.heap.size w w' := by
  subst hz
  refine (join2R w A B ca cb xs ys hA hB ha hb (by rw [List.length_append] at hs; exact hs)).mono ?_
  rintro e w' ⟨v, rfl, hR, hB⟩
  obtain ⟨A', c', rfl⟩ := Kd.R_slice hR
  exact ⟨A', c', rfl, hR, hB⟩
/-- What a Hash under way is, in a world above w. -/
structure Hw (w wr : World) (okh : Nat → Prop) (g : Nat) (T : List Int) : Prop where
  s : Hs wr okh g T
  ok : ∀ j, okh j → w.heap.size ≤ j ∧ j < wr.heap.size
structure Fw (wr : World) (okh okA : Nat → Prop) (A : Option Addr) (c : Nat) (T : List Int) : Prop where
  f : Kd.F (Kd.int .u8) wr okA A T.length T
  c : T.length ≤ c
  ok : ∀ j, okA j → ¬ okh j ∧ j < wr.heap.size
theorem Hw.step {w wr w1 : World} {okh : Nat → Prop} {g : Nat} {T : List Int} (h : Hw w wr okh g T) (hb : Below wr.heap.size wr w1) : Hw w w1 okh g T :=
  ⟨h.s.step (fun k _ hlt => hb.block k hlt), fun j hj => ⟨(h.ok j hj).1, Nat.lt_of_lt_of_le (h.ok j hj).2 hb.size⟩⟩
theorem Fw.step {wr w1 : World} {okh okA : Nat → Prop} {A : Option Addr} {c : Nat} {T : List Int} (h : Fw wr okh okA A c T) (hb : Below wr.heap.size wr w1) : Fw w1 okh okA A c T :=
  ⟨Kd.F_below h.f hb, h.c, fun j hj => ⟨(h.ok j hj).1, Nat.lt_of_lt_of_le (h.ok j hj).2 hb.size⟩⟩
/-- A clone takes the Hash's place: the other one is written to. -/
theorem clone_step {w wr w1 w3 : World} {okh okA : Nat → Prop} {g g1 : Nat} {A : Option Addr} {c : Nat} {T : List Int} (hH : Hw w wr okh g T) (hF : Fw wr okh okA A c T) (hwr : w.heap.size ≤ wr.heap.size) (h1 : Hs w1 (fun k => wr.heap.size ≤ k) g1 T) (hb1 : Below wr.heap.size wr w1) (hm : Mod okh w1 w3) :
    ∃ okh', Hw w w3 okh' g1 T ∧ Fw w3 okh' okA A c T := by
  refine ⟨fun k => wr.heap.size ≤ k ∧ k < w1.heap.size, ⟨?_, fun j hj => ⟨Nat.le_trans hwr hj.1, Nat.lt_of_lt_of_le hj.2 hm.size⟩⟩, ⟨?_, hF.c, fun j hj => ⟨fun h => ?_, Nat.lt_of_lt_of_le (hF.step hb1 |>.ok j hj).2 hm.size⟩⟩⟩
  · exact (Hs.bound h1).step (fun k hk hlt => hm.block k hlt (fun ho => by have := (hH.ok k ho).2; omega))
  · exact Kd.F_step (Kd.F_below hF.f hb1) (fun k hk hlt => hm.block k hlt (hF.ok k hk).1)
  · have := (hF.ok j hj).2
    omega
theorem rows_get2 {w : World} {A : Option Addr} {n : Nat} {xss : List (List Int)} (h : (Kd.slice 5 (Kd.int .u8)).C w A n xss) (i : Nat) (hi : i < n) :
    ∃ ad B c, A = some ad ∧ w.cell? (ad.add i) = some (.slice B (xss.getD i []).length c) ∧ (xss.getD i []).length ≤ c ∧ (Kd.int .u8).C w B (xss.getD i []).length (xss.getD i []) := by
  obtain ⟨ad, c, e, _, hK, hc⟩ := Kd.C_get h [] (i : Int) (by omega) (by omega)
  rw [Int.toNat_natCast] at hK hc
  obtain ⟨B, cb, rfl, hl, hB⟩ := hK
  have h2 := hc 0 _ rfl
  have e1 : i * (Kd.slice 5 (Kd.int .u8)).sz + 0 = i := by show i * 1 + 0 = i; omega
  rw [e1] at h2
  exact ⟨ad, B, cb, e, h2, hl, hB⟩
set_option maxRecDepth 20000 in
set_option maxHeartbeats 8000000 in
theorem hashWrites_calls (w : World) (A : Option Addr) (c : Nat) (xss : List (List Int)) (B : Option Addr) (cb : Nat) (bs : List Bool) (hC : (Kd.slice 5 (Kd.int .u8)).C w A xss.length xss) (hb : ∀ xs ∈ xss, Byts xs) (hCB : Kd.bool.C w B bs.length bs) (hT : ∀ i, i < 64 → w.cell? ⟨0, i, none⟩ = some (.int .u32 (Sha.K.getD i 0))) :
    Calls Tryd.prog 5 #[.slice A xss.length c, .slice B bs.length cb] w fun e w' => e = .returned (.bool true) ∧ Below w.heap.size w w' := by
  have HC := Lib.hid hC
  have HCB := Lib.hid hCB
  have HB := Lib.hid hb
  have hz : 0 < w.heap.size := World.block_lt_of_cell? w _ (hT 0 (by decide))
  have HT := Lib.hid (fun (W : World) (hW : Below w.heap.size w W) (i : Nat) (hi : i < 64) => (hW.cell (World.block_lt_of_cell? w _ (hT i hi))).trans (hT i hi))
  have HLIVE := Lib.hid (fun (W : World) (hW : Below w.heap.size w W) => live_calls W (HT.out W hW))
  have HSX := Lib.hid (fun (W : World) (hW : Below w.heap.size w W) => short_calls W A c xss (Kd.C_below hC hW))
  have hmax : xss.length ≤ 9223372036854775807 := hC.2.1
  clear hC hb hT hCB
  by_cases hs : shortB xss = true
  · have HS := Lib.hid hs
    clear hs
    go_enter Tryd.func5, Tryd.ntmps5
    go_upto_region 4 with (first | (go_at_call 20; refine (hnew_calls w).mono ?_; rintro e w0 ⟨g, rfl, hH, hB⟩; have HH0 := Lib.hid hH.bound; have HB0 := Lib.hid hB; clear hH hB) | (go_at_call 12; refine (HLIVE.out w0 HB0.out).mono ?_; rintro e w1 ⟨rfl, hB1⟩; have HB01 := Lib.hid hB1; have HB1 := Lib.hid (HB0.out.trans (below_lower hB1 HB0.out.size)); have hsh := HSX.out w1 HB1.out; rw [HS.out] at hsh; have HSH := Lib.hid hsh; clear hB1 hsh) | (go_at_call 13; refine HSH.out.mono ?_; rintro e w2 ⟨rfl, rfl⟩))
    go_upto_region 5 with fail
    have HW0 := Lib.hid hz
    obtain ⟨Ae, hAe⟩ : ∃ Ae, Ae = (some ⟨w1.heap.size, 0, none⟩ : Option Addr) := ⟨_, rfl⟩
    obtain ⟨w3, hw3⟩ : ∃ w3, w3 = w1.alloc (.cells #[] 5) := ⟨_, rfl⟩
    have hb3 : Below w0.heap.size w0 w3 := by rw [hw3]; exact HB01.out.alloc HB01.out.size _
    have hH3 : Hw w w3 (fun k => w.heap.size ≤ k ∧ k < w0.heap.size) g [] := ⟨HH0.out.step (fun k hk _ => hb3.block k hk.2), fun j hj => ⟨hj.1, Nat.lt_of_lt_of_le hj.2 hb3.size⟩⟩
    have hF3 : Fw w3 (fun k => w.heap.size ≤ k ∧ k < w0.heap.size) (fun k => k = w1.heap.size) Ae 0 [] := by
      refine ⟨?_, Nat.le_refl _, fun j hj => ⟨fun h => by have := HB01.out.size; omega, by rw [hw3, World.size_alloc]; omega⟩⟩
      rw [hw3, hAe]
      exact Kd.R_F (R_empty (Kd.int .u8) 5 w1 0 (fun k => k = w1.heap.size) (Nat.zero_le _) rfl)
    have hB3 : Below w.heap.size w w3 := HB0.out.trans (below_lower hb3 HB0.out.size)
    rw [← hw3, ← hAe]
    have HH3 := Lib.hid hH3
    have HF3 := Lib.hid hF3
    have HB3 := Lib.hid hB3
    clear hAe hw3 hb3 hH3 hF3 hB3 hz
    go_wp2_with fail
    go_loopg [5, 6, 29] xss.length (fun kq s5 s6 s29 wr => ∃ (k g : Nat) (okh okA : Nat → Prop) (Al : Option Addr) (cl : Nat) (T : List Int), k + kq = xss.length ∧ s5 = .pointer (some ⟨g, 0, none⟩) ∧ s6 = .slice Al T.length cl ∧ s29 = .int .i64 k ∧ Hid (T = (xss.take k).flatten) ∧ Hid (Hw w wr okh g T) ∧ Hid (Fw wr okh okA Al cl T) ∧ Hid (Below w.heap.size w wr))
    case atStart => exact ⟨0, g, _, _, Ae, 0, [], by omega, rfl, rfl, rfl, rfl, HH3.out, HF3.out, HB3.out⟩
    case round =>
      obtain ⟨k, g, okh, okA, Al, cl, T, hk, rfl, rfl, rfl, hTk, HH, HF, HBr⟩ := hrel
      by_cases hlt : k < xss.length
      · obtain ⟨ad, Bx, cx, hA, hcell, hcx, hBC⟩ := rows_get2 HC.out k hlt
        subst hA
        have HAB := Lib.hid (World.block_lt_of_cell? w _ hcell)
        have hcell2 : wr.cell? (ad.add k) = some (.slice Bx (xss.getD k []).length cx) := (HBr.out.cell HAB.out).trans hcell
        obtain ⟨xs, hxs⟩ : ∃ xs, xs = xss.getD k [] := ⟨_, rfl⟩
        rw [← hxs] at hcell2 hBC hcx
        have hmem : xs ∈ xss := by
          rw [hxs, List.getD_eq_getElem?_getD, List.getElem?_eq_getElem hlt]
          exact List.getElem_mem hlt
        have hxl : xs.length ≤ 2000 := (shortB_true HS.out).1 xs hmem
        have HXB := Lib.hid (HB.out xs hmem)
        have HXX := Lib.hid hxs
        have HBC := Lib.hid hBC
        have HCX := Lib.hid hcx
        have HXL := Lib.hid hxl
        have li : (k : Int) < (xss.length : Int) := by omega
        obtain ⟨T', hT'⟩ : ∃ T', T' = T ++ xs := ⟨_, rfl⟩
        have hTT : T' = (xss.take (k + 1)).flatten := by rw [hT', hTk.out, hxs, flat_next xss k hlt]
        have hTl : T'.length ≤ 60000 := by
          have h1 := short_flat HS.out
          have h2 := flat_le xss k hlt
          rw [hT', hTk.out, List.length_append, hxs]
          omega
        have hTb : Byts T' := by
          rw [hTT]
          exact fun x hx => by
            obtain ⟨ys, h1, h2⟩ := List.mem_flatten.1 hx
            exact HB.out ys (List.mem_of_mem_take h1) x h2
        have HT1 := Lib.hid hT'
        have HTT := Lib.hid hTT
        have HTL := Lib.hid hTl
        have HTB := Lib.hid hTb
        have HLT := Lib.hid hlt
        clear hxs hmem hxl hBC hcx hT' hTT hTl hTb hcell hlt
        have hcl3 : (k < bs.length ∧ bs.getD k false = true) ∨ (k < bs.length ∧ bs.getD k false = false) ∨ ¬ k < bs.length := by
          by_cases h1 : k < bs.length
          · cases hbk : bs.getD k false with
            | true => exact .inl ⟨h1, rfl⟩
            | false => exact .inr (.inl ⟨h1, rfl⟩)
          · exact .inr (.inr h1)
        rcases hcl3 with ⟨hkb, hbv⟩ | ⟨hkb, hbv⟩ | hkb
        case' inl =>
          obtain ⟨bd, hbd, hbc⟩ := C_at_bool HCB.out k hkb
          subst hbd
          have hbc2 : wr.cell? (bd.add k) = some (.bool true) := ((HBr.out.cell (World.block_lt_of_cell? w _ hbc)).trans hbc).trans (by rw [hbv])
          have hkbi : (k : Int) < (bs.length : Int) := by omega
          have hclone := hclone_calls wr okh g T HH.out.s (by have := HTL.out; rw [HT1.out, List.length_append] at this; omega)
          have HCLONE := Lib.hid hclone
          clear hclone hbc hbv hkb
          go_upto_region 12 with (go_at_call 21; refine HCLONE.out.mono ?_; rintro e w5 ⟨g1, rfl, hH5, hB5⟩; have HH5 := Lib.hid hH5; have HB5 := Lib.hid hB5; clear hH5 hB5)
          have hxw : Calls Tryd.prog 22 #[.pointer (some ⟨g, 0, none⟩), .slice (some ⟨w5.heap.size + 1, 0, none⟩) 1 1] ((w5.alloc (.cells (nums .u8 [120]).toArray 5 (1, 2))).alloc (.cells #[.slice (some ⟨w5.heap.size, 0, none⟩) 1 1] 28)) fun e w' => e = .returned (.int .i64 0) ∧ Mod okh ((w5.alloc (.cells (nums .u8 [120]).toArray 5 (1, 2))).alloc (.cells #[.slice (some ⟨w5.heap.size, 0, none⟩) 1 1] 28)) w' := by
            have hp1 : Parts ((w5.alloc (.cells (nums .u8 [120]).toArray 5 (1, 2))).alloc (.cells #[.slice (some ⟨w5.heap.size, 0, none⟩) 1 1] 28)) (fun k => w5.heap.size ≤ k ∧ k < w5.heap.size + 2) (some ⟨w5.heap.size + 1, 0, none⟩) [[120]] := by
              have hb := marked_F (heap_alloc_new w5 (.cells (nums .u8 [120]).toArray 5 (1, 2))) (by decide)
              have h := Parts.one (c := 1) (t := 28) (okP := fun k => w5.heap.size ≤ k ∧ k < w5.heap.size + 2) (Kd.F_mono hb (fun k hk => by omega)) (by rw [World.size_alloc]; omega)
              rw [World.size_alloc] at h
              exact h
            have b1 : Below w5.heap.size w5 ((w5.alloc (.cells (nums .u8 [120]).toArray 5 (1, 2))).alloc (.cells #[.slice (some ⟨w5.heap.size, 0, none⟩) 1 1] 28)) := ((Below.refl _ w5).alloc (Nat.le_refl _) _).alloc (by rw [World.size_alloc]; omega) _
            have s1 : ((w5.alloc (.cells (nums .u8 [120]).toArray 5 (1, 2))).alloc (.cells #[.slice (some ⟨w5.heap.size, 0, none⟩) 1 1] 28)).heap.size = w5.heap.size + 2 := by rw [World.size_alloc, World.size_alloc]
            have hs5 := HB5.out.size
            have h := hwrite_calls _ okh (fun k => w5.heap.size ≤ k ∧ k < w5.heap.size + 2) g T _ 1 [[120]] (((HH.out.step HB5.out).step b1).s) hp1 (fun k hk => ⟨fun ho => by have := (HH.out.ok k ho).2; omega, by rw [s1]; exact hk.2⟩) (fun xs hx => by rw [List.mem_singleton.1 hx]; unfold Byts; decide) (by have := HTL.out; rw [HT1.out, List.length_append] at this; simp; omega) (by decide) (HT.out _ (((HBr.out.trans (below_lower HB5.out HBr.out.size))).trans (below_lower b1 (by have := HBr.out.size; omega)))) (fun ho => by have := (HH.out.ok 0 ho).1; have := HW0.out; omega)
            refine h.mono ?_
            rintro e w' ⟨he, _, hm⟩
            exact ⟨he, hm⟩
          have hconv := conv_const w5 #[.int .u8 120] 1 1
          have HXW := Lib.hid hxw
          clear hxw
          go_upto_region 14 with (go_at_call 22; refine HXW.out.mono ?_; rintro e w6 ⟨rfl, hM6⟩; have HM6 := Lib.hid hM6; clear hM6)
          have hbl6 : Below w.heap.size w w6 := Mod.below (Mod.trans (Mod.of_below (((Below.refl _ w5).alloc (Nat.le_refl _) _).alloc (by rw [World.size_alloc]; omega) _) okh) HM6.out (fun i _ h => h)) (Nat.le_trans HBr.out.size HB5.out.size) (fun j hj => (HH.out.ok j hj).1) |> (HBr.out.trans (below_lower HB5.out HBr.out.size)).trans
          obtain ⟨okh6, hH6, hF6⟩ := clone_step HH.out HF.out HBr.out.size HH5.out HB5.out (Mod.trans (Mod.of_below (((Below.refl _ w5).alloc (Nat.le_refl _) _).alloc (by rw [World.size_alloc]; omega) _) okh) HM6.out (fun i _ h => h))
          clear HH HF HBr hcell2 HCLONE HXW hconv HM6 HH5 HB5
          generalize w6 = wr at hH6 hF6 hbl6 ⊢
          generalize g1 = g at hH6 ⊢
          generalize okh6 = okh at hH6 hF6
          have HH := Lib.hid hH6
          have HF := Lib.hid hF6
          have HBr := Lib.hid hbl6
          clear hH6 hF6 hbl6
        case' inr.inl =>
          obtain ⟨bd, hbd, hbc⟩ := C_at_bool HCB.out k hkb
          subst hbd
          have hbc2 : wr.cell? (bd.add k) = some (.bool false) := ((HBr.out.cell (World.block_lt_of_cell? w _ hbc)).trans hbc).trans (by rw [hbv])
          have hkbi : (k : Int) < (bs.length : Int) := by omega
          clear hbc hbv hkb
          go_upto_region 14 with fail
          clear hcell2
        case' inr.inr =>
          have hkbi : ¬ (k : Int) < (bs.length : Int) := by omega
          clear hkb
          go_upto_region 14 with fail
          clear hcell2
        all_goals
          have hCB := Kd.C_below HBC.out HBr.out
          have hj := join1R wr Bx cx xs hCB HCX.out (by have := HXL.out; omega)
          have HJ := Lib.hid hj
          clear hj hCB
          go_upto_region 15 with (go_at_call 17; refine HJ.out.mono ?_; rintro e w5 ⟨Ao, co, rfl, hRo, hB5⟩; have HRo := Lib.hid hRo; have HB5 := Lib.hid hB5; clear hRo hB5)
          have hsz5 := HB5.out.size
          have hRF : Kd.F (Kd.int .u8) w5 (fun j => wr.heap.size ≤ j ∧ j < w5.heap.size) Ao xs.length xs := Kd.F_bound (Kd.R_F HRo.out)
          have hform : 0 < xs.length → ∃ gr, Ao = some ⟨gr, 0, none⟩ ∧ wr.heap.size ≤ gr ∧ gr < w5.heap.size := fun hp => by
            obtain ⟨gr, cap, he, _, hlt, _⟩ := Kd.R_form HRo.out hp
            injection he with h1 h2 h3
            exact ⟨gr, h1, HRo.out.1 gr (by rw [h1]; rfl), hlt⟩
          have hp1 : Parts (w5.alloc (.cells #[.slice Ao xs.length co] 28)) (fun k => wr.heap.size ≤ k ∧ k < w5.heap.size + 1) (some ⟨w5.heap.size, 0, none⟩) [xs] := Parts.one (Kd.F_mono hRF (fun k hk => ⟨hk.1, by have := hk.2; omega⟩)) ⟨hsz5, by omega⟩
          have hB5w : Below w.heap.size w (w5.alloc (.cells #[.slice Ao xs.length co] 28)) := (HBr.out.trans (below_lower HB5.out HBr.out.size)).alloc (Nat.le_trans HBr.out.size hsz5) _
          have hB5r : Below wr.heap.size wr (w5.alloc (.cells #[.slice Ao xs.length co] 28)) := HB5.out.alloc hsz5 _
          have hwr := hwrite_calls _ okh (fun k => wr.heap.size ≤ k ∧ k < w5.heap.size + 1) g T _ 1 [xs] (HH.out.step hB5r).s hp1 (fun k hk => ⟨fun ho => by have := (HH.out.ok k ho).2; omega, by rw [World.size_alloc]; exact hk.2⟩) (fun ys hy => by rw [List.mem_singleton.1 hy]; exact HXB.out) (by have := HTL.out; rw [HT1.out, List.length_append] at this; simp; omega) (by simp) (HT.out _ hB5w) (fun ho => by have := (HH.out.ok 0 ho).1; have := HW0.out; omega)
          have hfl1 : [xs].flatten = xs := by simp
          rw [hfl1, ← HT1.out] at hwr
          have HWR := Lib.hid hwr
          have HB5w := Lib.hid hB5w
          have HB5r := Lib.hid hB5r
          have HFORM := Lib.hid hform
          have CE : Hid (∀ w6 : World, Mod okh (w5.alloc (.cells #[.slice Ao xs.length co] 28)) w6 → Below w.heap.size w w6 → Calls Tryd.prog 15 #[.slice Ao xs.length co, .slice Bx xs.length cx] w6 fun e w' => e = .returned (.bool true) ∧ Below w6.heap.size w6 w') := Lib.hid (fun w6 hm hb6 => by
            have hFo := Kd.F_step (Kd.F_alloc hRF (.cells #[.slice Ao xs.length co] 28)) (fun k hk hlt => hm.block k hlt (fun ho => by have := (HH.out.ok k ho).2; omega))
            have h := requal_true w6 Ao Bx co cx xs (Kd.F_now hFo) (Kd.C_below HBC.out hb6) (by have := HXL.out; omega)
            refine h.mono ?_
            rintro e w' ⟨he, n, rfl⟩
            exact ⟨he, pw_below_drewN (Below.refl _ _) n⟩)
          clear hwr hfl1 hp1 hB5w hB5r hRF hform
          go_upto_region 17 with (first | (go_at_call 22; refine HWR.out.mono ?_; rintro e w6 ⟨rfl, hH6, hM6⟩; have hb6 : Below w.heap.size w w6 := HB5w.out.trans (Mod.below hM6 HB5w.out.size (fun j hj => (HH.out.ok j hj).1)); have HH6 := Lib.hid hH6; have HM6 := Lib.hid hM6; have HB6 := Lib.hid hb6; have HCE := Lib.hid (CE.out w6 hM6 hb6); clear hH6 hM6 hb6) | (go_at_call 15; refine HCE.out.mono ?_; rintro e w7 ⟨rfl, hB7⟩; have HB7 := Lib.hid hB7; clear hB7))
          have hsz6 := HM6.out.size
          have hsz7 := HB7.out.size
          have hs5a : (w5.alloc (.cells #[.slice Ao xs.length co] 28)).heap.size = w5.heap.size + 1 := by rw [World.size_alloc]
          have hR7 : (Kd.int .u8).R 5 w7 0 (fun j => wr.heap.size ≤ j ∧ j < w5.heap.size) (.slice Ao xs.length co) xs := by
            refine Kd.R_step (Kd.R_mono (Kd.R_bound HRo.out) (fun k hk => ⟨hk.1, hk.2.2.1⟩)) (fun k hk hlt => ?_)
            have h1 : wr.heap.size ≤ k := hk.1
            have h2 : k < w5.heap.size := hk.2
            exact (HB7.out.block k (by omega)).trans ((HM6.out.block k (by omega) (fun ho => by have := (HH.out.ok k ho).2; omega)).trans (Below.heap_alloc w5 _ k h2))
          -- the Hash and all that was written, behind Write
          have hH7 : Hw w w7 (fun k => (okh k ∨ (w5.alloc (.cells #[.slice Ao xs.length co] 28)).heap.size ≤ k) ∧ k < w6.heap.size) g T' := by
            refine ⟨(Hs.bound HH6.out).step (fun k hk hlt => HB7.out.block k hlt), fun j hj => ⟨?_, Nat.lt_of_lt_of_le hj.2 hsz7⟩⟩
            have hw := HBr.out.size
            rcases hj.1 with h | h
            · exact (HH.out.ok j h).1
            · omega
          have hF7 : Kd.F (Kd.int .u8) w7 okA Al T.length T := by
            refine Kd.F_step HF.out.f (fun k hk hlt => ?_)
            exact (HB7.out.block k (by omega)).trans ((HM6.out.block k (by omega) (HF.out.ok k hk).1).trans ((Below.heap_alloc w5 _ k (by omega)).trans (HB5.out.block k hlt)))
          have hb7 : Below w.heap.size w w7 := HB6.out.trans (below_lower HB7.out HB6.out.size)
          have HSZ7 := Lib.hid (And.intro hsz6 (And.intro hsz7 (And.intro hs5a hsz5)))
          have HR7 := Lib.hid hR7
          have HH7 := Lib.hid hH7
          have HF7 := Lib.hid hF7
          have HB77 := Lib.hid hb7
          have HOKA := Lib.hid (fun j hj => (HF.out.ok j hj).2)
          have HOKH := Lib.hid (fun j hj => (HH.out.ok j hj).2)
          have HCL := Lib.hid HF.out.c
          have HGR := Lib.hid HBr.out.size
          clear hR7 hH7 hF7 hb7 HWR HCE HH6 HM6 HB6 HB5w HB5r CE HJ HRo HB5 HB7 HH HF HBr hsz5 hsz6 hsz7 hs5a
          generalize wr = wR at *
          generalize gk = GK at *
          go_wp2_with fail
          go_loopg [70] xs.length (fun kq s70 wq => ∃ (i : Nat) (ys : List Int), i + kq = xs.length ∧ s70 = .int .i64 i ∧ Hid (ys.length = xs.length) ∧ Hid ((Kd.int .u8).R 5 wq 0 (fun j => wR.heap.size ≤ j ∧ j < w5.heap.size) (.slice Ao xs.length co) ys) ∧ Hid (Mod (fun j => wR.heap.size ≤ j ∧ j < w5.heap.size) w7 wq))
          case atStart => exact ⟨0, xs, by omega, rfl, rfl, HR7.out, Mod.refl _ _⟩
          case round =>
            obtain ⟨i, ys, hi, rfl, hyl, hRy, hMq⟩ := hrel
            by_cases hlt : i < xs.length
            · obtain ⟨gr, hAo, hg1, hg2⟩ := HFORM.out (by omega)
              subst hAo
              have hR64 : (Kd.int .u8).R 5 wr 0 (fun j => wR.heap.size ≤ j ∧ j < w5.heap.size) (.slice (some ⟨gr, 0, none⟩) ys.length co) ys := by rw [hyl.out]; exact hRy.out
              obtain ⟨hcl, hfz⟩ := own_at_of (d := 0) (Kd.own_of_R hR64) (i := ((i : Nat) : Int)) (by omega) (by rw [hyl.out]; omega)
              rw [Int.toNat_natCast] at hcl hfz
              obtain ⟨z, hz⟩ : ∃ z : Int, z = rdOf 0 ys ((i : Nat) : Int) := ⟨_, rfl⟩
              rw [← hz] at hcl
              clear hz hR64
              have ii : (i : Int) < (xs.length : Int) := by omega
              have hxl := HXL.out
              go_wp2_with fail
              go_roundg (gk - 1)
              case measure => omega
              case rel =>
                have h2 := Kd.R_putn hRy.out ((i : Nat) : Int) (bits .xor .u8 z 255)
                rw [Int.toNat_natCast] at h2
                exact ⟨i + 1, _, by omega, by go_num, by show (List.set _ _ _).length = _; rw [List.length_set]; exact hyl.out, h2, hMq.out.setCell (p := ⟨gr, i, none⟩) (.inl ⟨hg1, hg2⟩) _⟩
            · have ii : ¬ (i : Int) < (xs.length : Int) := by omega
              clear hlt
              have hMqo := hMq.out
              have hs := HSZ7.out
              have hgr := HGR.out
              have hqs := hMqo.size
              have hbq : Below w.heap.size w wr := HB77.out.trans (Mod.below hMqo HB77.out.size (fun j hj => Nat.le_trans hgr hj.1))
              have hHq : Hw w wr (fun k => (okh k ∨ (w5.alloc (.cells #[.slice Ao xs.length co] 28)).heap.size ≤ k) ∧ k < w6.heap.size) g T' := by
                refine ⟨HH7.out.s.step (fun k hk hlt => hMqo.block k hlt (fun hS => ?_)), fun j hj => ⟨(HH7.out.ok j hj).1, Nat.lt_of_lt_of_le (HH7.out.ok j hj).2 hqs⟩⟩
                have h1 : wR.heap.size ≤ k := hS.1
                have h2 : k < w5.heap.size := hS.2
                rcases hk.1 with h | h
                · have := HOKH.out k h
                  omega
                · omega
              have hTq : (Kd.int .u8).C wr Al T.length T := Kd.F_now (Kd.F_step HF7.out (fun k hk hlt => hMqo.block k hlt (fun hS => by
                have h1 : wR.heap.size ≤ k := hS.1
                have := HOKA.out k hk
                omega)))
              have hj2 := join2S wr Al Bx cl cx T xs T' hTq (Kd.C_below HBC.out hbq) HCL.out HCX.out HT1.out (by have := HTL.out; omega)
              have HJ2 := Lib.hid hj2
              have HHQ := Lib.hid hHq
              have HBQ := Lib.hid hbq
              have hz6 : w6.heap.size ≤ wr.heap.size := by omega
              clear hj2 hMqo hs hgr hqs hbq hHq hTq hMq hRy hyl
              go_upto_region 23 with (go_at_call 17; refine HJ2.out.mono ?_; rintro e w9 ⟨A9, c9, rfl, hR9, hB9⟩; have HR9 := Lib.hid hR9; have HB9 := Lib.hid hB9; clear hR9 hB9)
              have hs9 := HB9.out.size
              obtain ⟨okN, hokN⟩ : ∃ okN : Nat → Prop, okN = (fun k => (okh k ∨ (w5.alloc (.cells #[.slice Ao xs.length co] 28)).heap.size ≤ k) ∧ k < w6.heap.size) := ⟨_, rfl⟩
              have hH9 : Hw w w9 okN g T' := by rw [hokN]; exact HHQ.out.step HB9.out
              have hF9 : Fw w9 okN (fun j => wr.heap.size ≤ j ∧ j < w9.heap.size) A9 c9 T' := by
                refine ⟨Kd.F_bound (Kd.R_F HR9.out), (Kd.R_reads' HR9.out).2.1, fun j hj => ⟨fun ho => ?_, hj.2⟩⟩
                rw [hokN] at ho
                have h1 : wr.heap.size ≤ j := hj.1
                have h2 : j < w6.heap.size := ho.2
                omega
              have hB9 : Below w.heap.size w w9 := HBQ.out.trans (below_lower HB9.out HBQ.out.size)
              have HH9 := Lib.hid hH9
              have HF9 := Lib.hid hF9
              have HB9w := Lib.hid hB9
              obtain ⟨D, hD⟩ : ∃ D, D = Sha.sum T' := ⟨_, rfl⟩
              have hDl : D.length = 32 := by rw [hD, Sha.sum_length]
              have hcall := hsumm_calls w9 okN g T' hH9.s (by have := HTL.out; omega) (HT.out _ hB9)
              rw [← hD] at hcall
              have HCALL := Lib.hid hcall
              have HTH := Lib.hid (sum32 D hDl).1
              have HSZ := Lib.hid (sum32 D hDl).2
              have HD := Lib.hid hD
              have HDL := Lib.hid hDl
              clear hokN hH9 hF9 hB9 hcall hD hDl HR9 HHQ HJ2 hz6 hs9
              go_upto_region 24 with (go_at_call 23; refine HCALL.out.mono ?_; rintro e w10 ⟨rfl, hB10⟩; have HB10 := Lib.hid hB10; clear hB10; apply_assumption; refine wl_alloc32 rfl rfl ?_; refine wpList_store_mid rfl _ _ _ rfl w10.heap.size 0 (nums .u8 D).toArray rfl rfl (HTH.out w10) HSZ.out (all_oneCell_toArray (nums_one .u8 D)) ?_; rw [List.toList_toArray]; change wpList _ _ _ _ _ (putA (w10.alloc (.cells (nums .u8 (List.replicate 32 0)).toArray 25)) w10.heap.size .u8 D))
              have h11 := sum32_new w10 w9 D HDL.out HB10.out
              obtain ⟨sb, hsb⟩ : ∃ sb, sb = w10.heap.size := ⟨_, rfl⟩
              obtain ⟨w11, hw11⟩ : ∃ w11, w11 = putA (w10.alloc (.cells (nums .u8 (List.replicate 32 0)).toArray 25)) w10.heap.size .u8 D := ⟨_, rfl⟩
              rw [← hw11, ← hsb] at h11
              rw [← hw11, ← hsb]
              clear hw11 hsb
              have A11 := Lib.hid h11.1
              have B11 := Lib.hid h11.2
              clear h11
              have CS : Hid (∀ (W : World), Below w11.heap.size w11 W → Calls Tryd.prog 16 #[.slice A9 T'.length c9] W fun e w' => ∃ A' c', e = .returned (.slice A' 32 c') ∧ (Kd.int .u8).C w' A' 32 D ∧ Below W.heap.size W w') := Lib.hid (fun W hW => by
                have hb : Below w9.heap.size w9 W := B11.out.trans (below_lower hW B11.out.size)
                refine (rsum_calls W A9 c9 T' (Kd.F_now (Kd.F_below HF9.out.f hb)) HF9.out.c HTB.out (by have := HTL.out; omega)).mono ?_
                rintro e w' ⟨v, rfl, hR, hB⟩
                obtain ⟨A', c', rfl, hc, hC⟩ := Kd.R_reads hR
                rw [← HD.out, HDL.out] at hC
                rw [Sha.sum_length]
                exact ⟨A', c', rfl, hC, hB⟩)
              have CE : Hid (∀ (W : World) (A' : Option Addr) (c' : Nat), Below w11.heap.size w11 W → (Kd.int .u8).C W A' 32 D → Calls Tryd.prog 15 #[.slice (some ⟨sb, 0, none⟩) 32 32, .slice A' 32 c'] W fun e w' => e = .returned (.bool true) ∧ Below W.heap.size W w') := Lib.hid (fun W A' c' hW hC => by
                have hB : Blk W sb .u8 25 D := (hW.block sb A11.out.lt).trans A11.out
                have hDl := HDL.out
                have h := requal_true W (some ⟨sb, 0, none⟩) A' 32 c' D (hB.C (by omega)) (by rw [hDl]; exact hC) (by omega)
                rw [hDl] at h
                refine h.mono ?_
                rintro e w' ⟨he, n, rfl⟩
                exact ⟨he, pw_below_drewN (Below.refl _ _) n⟩)
              have CL : Hid (∀ (W : World), Below w11.heap.size w11 W → Calls Tryd.prog 24 #[.pointer (some ⟨g, 0, none⟩)] W fun e w' => e = .returned (.int .i64 T'.length) ∧ W = w') := Lib.hid (fun W hW => hlen_calls W okN g T' ((HH9.out.step B11.out).step hW).s)
              go_region_with (first | (go_at_call 16; refine (CS.out _ (Below.refl _ w11).drew).mono ?_; rintro e w12 ⟨A12, c12, rfl, hC12, hB12⟩; have b12 : Below w11.heap.size w11 w12 := ((Below.refl _ w11).drew).trans hB12; have HB12 := Lib.hid b12; have HC12 := Lib.hid (CE.out w12 A12 c12 b12 hC12); clear hC12 hB12 b12) | (go_at_call 15; refine HC12.out.mono ?_; rintro e w13 ⟨rfl, hB13⟩; have HB13 := Lib.hid (HB12.out.trans (below_lower hB13 HB12.out.size)); clear hB13) | (go_at_call 24; refine (CL.out _ HB13.out).mono ?_; rintro e w14 ⟨rfl, rfl⟩))
              go_wp2_with fail
              go_roundg (GK - 1)
              case measure => omega
              case rel =>
                have hb : Below w9.heap.size w9 w13 := B11.out.trans (below_lower HB13.out B11.out.size)
                exact ⟨k + 1, g, okN, _, A9, c9, T', by omega, rfl, rfl, by go_num, HTT.out, HH9.out.step hb, HF9.out.step hb, HB9w.out.trans (below_lower hb HB9w.out.size)⟩
      · go_wp2_with fail
        go_ret
        exact ⟨rfl, HBr.out⟩
  · have hs : shortB xss = false := by simpa using hs
    have HS := Lib.hid hs
    clear hs
    go_enter Tryd.func5, Tryd.ntmps5
    go_upto_region 3 with (first | (go_at_call 20; refine (hnew_calls w).mono ?_; rintro e w0 ⟨g, rfl, hH, hB⟩; have HH0 := Lib.hid hH.bound; have HB0 := Lib.hid hB; clear hH hB) | (go_at_call 12; refine (HLIVE.out w0 HB0.out).mono ?_; rintro e w1 ⟨rfl, hB1⟩; have HB01 := Lib.hid hB1; have HB1 := Lib.hid (HB0.out.trans (below_lower hB1 HB0.out.size)); have hsh := HSX.out w1 HB1.out; rw [HS.out] at hsh; have HSH := Lib.hid hsh; clear hB1 hsh) | (go_at_call 13; refine HSH.out.mono ?_; rintro e w2 ⟨rfl, rfl⟩))
    go_wp2_with (go_at_call 12; refine (HLIVE.out w1 HB1.out).mono ?_; rintro e w3 ⟨rfl, hB3⟩; have HB3 := Lib.hid (HB1.out.trans (below_lower hB3 HB1.out.size)); clear hB3)
    go_ret
    exact ⟨rfl, HB3.out⟩
end Go.Proofs.YtclndenmmhdokaaDoor
