/- Literal lists of texts; HashKeys: the walk. -/
import Derived.Test.YtclndenmmhdokaaDoorH26
namespace Go.Proofs.YtclndenmmhdokaaDoor
open Go Go.RowKit Go.Proofs.YtclndenmmhdokaaDoorW.PrintWords Go.Proofs.YtclndenmmhdokaaDoorW.PrintMore Go.Proofs.YtclndenmmhdokaaDoorW.PrintLast Bq
set_option linter.unusedVariables false
set_option linter.unusedSimpArgs false
attribute [local go_sem ↓] Go.wp_at_zero Go.wp_at_succ
/-- A slice of bytes: where, its capacity, its bytes. -/
abbrev Sl := Option Addr × Nat × List Int
def Sl.v (r : Sl) : Value := .slice r.1 r.2.2.length r.2.1
def Sl.In (w : World) (r : Sl) : Prop := (Kd.int .u8).C w r.1 r.2.2.length r.2.2 ∧ r.2.2.length ≤ r.2.1
theorem litN_C (w : World) (T : Nat) (rows : List Sl) (h : ∀ r ∈ rows, r.In w) (hn : rows.length ≤ 1000) :
    (Kd.slice 5 (Kd.int .u8)).C (w.alloc (.cells (rows.map Sl.v).toArray T)) (some ⟨w.heap.size, 0, none⟩) (rows.map (·.2.2)).length (rows.map (·.2.2)) := by
  have hb0 := below_alloc (Below.refl w.heap.size w) (.cells (rows.map Sl.v).toArray T)
  have hnw := blk_new w (.cells (rows.map Sl.v).toArray T)
  refine ⟨rfl, by rw [List.length_map]; omega, fun _ => ⟨_, rfl, fun j p hj => ?_⟩⟩
  rw [List.getElem?_map] at hj
  obtain ⟨r, hr, rfl⟩ := Option.map_eq_some_iff.1 hj
  have hm := h r (List.mem_of_getElem? hr)
  refine ⟨[r.v], rfl, ⟨r.1, r.2.1, rfl, hm.2, Kd.C_below hm.1 hb0⟩, fun i u hu => ?_⟩
  rcases i with _ | i
  · injection hu with hu
    subst hu
    have e : (⟨w.heap.size, 0, none⟩ : Addr).add (j * (Kd.slice 5 (Kd.int .u8)).sz + 0) = ⟨w.heap.size, j, none⟩ := by
      show (⟨w.heap.size, 0, none⟩ : Addr).add (j * 1 + 0) = _
      rw [Addr.add_mid]; simp
    rw [e]
    refine (blk_cell hnw j).trans ?_
    simp [hr]
  · cases hu
theorem made_zeros (n : Nat) : madeCells #[.int .u8 0] n = (nums .u8 (List.replicate n 0)).toArray := by
  apply Array.ext
  · simp [madeCells, nums]
  · intro i h1 h2
    simp [madeCells, nums, Nat.mod_one]
theorem run_maken (W : World) (n : Int) (h0 : 0 ≤ n) (h1 : n ≤ 1000) :
    (Instr.makeSlice 28 (.int .i64 n) (.int .i64 n)).run Tryd.prog W = .ok (.slice (some ⟨W.heap.size, 0, none⟩) n.toNat n.toNat) (W.alloc (.cells (nums .u8 (List.replicate n.toNat 0)).toArray 5)) := by
  obtain ⟨i0, hi, hzz⟩ := Option.map_eq_some_iff.1 info_u8
  simp only [Prod.mk.injEq] at hzz
  obtain ⟨hz0, hz1, hz2⟩ := hzz
  have hr := run_make (P := Tryd.prog) W 28 5 i0 (.int .u8 0) Tryd.underlying28 hi hz0 .i64 .i64 n n (by omega) (by omega) (by rw [hz2]; omega) (by omega)
  simp only [hz1, Nat.mul_one] at hr
  rw [← made_zeros]
  exact hr
theorem run_makeZ (W : World) (n : Nat) (Zs : List Int) (hz : Zs = List.replicate n 0) (hn : n ≤ 1000) :
    Sem.run Tryd.prog (Instr.makeSlice 28 (.int .i64 (n : Int)) (.int .i64 (n : Int))) W = .ok (.slice (some ⟨W.heap.size, 0, none⟩) Zs.length Zs.length) (W.alloc (.cells (nums .u8 Zs).toArray 5)) := by
  have h := run_maken W (n : Int) (by omega) (by omega)
  rw [Int.toNat_natCast] at h
  subst hz
  rw [List.length_replicate]
  exact h
theorem key64_zeros (key : List Int) (n : Nat) (hk : key.length + n ≤ 64) : Sha.key64 (key ++ List.replicate n 0) = Sha.key64 key := by
  unfold Sha.key64
  rw [if_neg (by rw [List.length_append, List.length_replicate]; omega), if_neg (by omega), List.append_assoc, List.length_append, List.length_replicate, List.replicate_append_replicate]
  congr 2
  omega
theorem key64_sum (key : List Int) (hk : 64 < key.length) : Sha.key64 (Sha.sum key) = Sha.key64 key := by
  unfold Sha.key64
  rw [if_pos hk, if_neg (by rw [Sha.sum_length]; omega), Sha.sum_length]
set_option maxRecDepth 20000 in
set_option maxHeartbeats 8000000 in
theorem hashKeys_calls (w : World) (K : Option Addr) (ck : Nat) (key : List Int) (B : Option Addr) (cb : Nat) (text : List Int) (z : Int) (hK : (Kd.int .u8).C w K key.length key) (hkc : key.length ≤ ck) (hbk : Byts key) (hX : (Kd.int .u8).C w B text.length text) (hxc : text.length ≤ cb) (hbx : Byts text)
    (hz0 : -9223372036854775808 ≤ z) (hz1 : z ≤ 9223372036854775807) (hT : ∀ i, i < 64 → w.cell? ⟨0, i, none⟩ = some (.int .u32 (Sha.K.getD i 0))) :
    Calls Tryd.prog 8 #[.slice K key.length ck, .slice B text.length cb, .int .i64 z] w fun e w' => e = .returned (.bool true) ∧ Below w.heap.size w w' := by
  have HK := Lib.hid hK
  have HBK := Lib.hid hbk
  have HX := Lib.hid hX
  have HBX := Lib.hid hbx
  have HKC := Lib.hid hkc
  have HXC := Lib.hid hxc
  have HT := Lib.hid (fun (W : World) (hW : Below w.heap.size w W) (i : Nat) (hi : i < 64) => (hW.cell (World.block_lt_of_cell? w _ (hT i hi))).trans (hT i hi))
  have HLIVE := Lib.hid (fun (W : World) (hW : Below w.heap.size w W) => live_calls W (HT.out W hW))
  have HSK := Lib.hid (fun (W : World) (hW : Below w.heap.size w W) => short_calls _ _ 2 [key, text] (lit2_C W 28 K B ck cb key text (Kd.C_below hK hW) (Kd.C_below hX hW) hkc hxc))
  clear hT hK hbk hkc hX hbx hxc
  by_cases hsk : shortB [key, text] = true
  · have HSKT := Lib.hid hsk
    clear hsk
    have hkl : key.length ≤ 2000 := (shortB_true HSKT.out).1 key (by simp)
    have hxl : text.length ≤ 2000 := (shortB_true HSKT.out).1 text (by simp)
    have HKL := Lib.hid hkl
    have HXL := Lib.hid hxl
    clear hkl hxl
    go_enter Tryd.func8, Tryd.ntmps8
    go_upto_region 3 with (first | (go_at_call 12; refine (HLIVE.out w (Below.refl _ w)).mono ?_; rintro e w1 ⟨rfl, hB1⟩; have HB1 := Lib.hid hB1; have hsh := HSK.out w1 hB1; rw [HSKT.out] at hsh; have HSH := Lib.hid hsh; clear hB1 hsh) | (go_at_call 13; refine HSH.out.mono ?_; rintro e w2 ⟨rfl, hw2⟩; have hB2 : Below w.heap.size w w2 := (by rw [← hw2]; exact HB1.out.alloc HB1.out.size _); have HB2 := Lib.hid hB2; clear hB2 hw2))
    obtain ⟨D, hD⟩ : ∃ D, D = Sha.mac key text := ⟨_, rfl⟩
    have hDl : D.length = 32 := by rw [hD]; exact Sha.sum_length _
    have HD := Lib.hid hD
    have HDL := Lib.hid hDl
    have CM : Hid (∀ (W : World) (Ak : Option Addr) (ck' : Nat) (k' : List Int) (A : Option Addr), Below w.heap.size w W → (Kd.int .u8).C W Ak k'.length k' → Byts k' → k'.length ≤ 2000 → (Kd.slice 5 (Kd.int .u8)).C W A 1 [text] → Sha.mac k' text = D → Calls Tryd.prog 25 #[.slice Ak k'.length ck', .slice A 1 1] W fun e w' => e = .returned (.agg (nums .u8 D).toArray) ∧ Below W.heap.size W w') := Lib.hid (fun W Ak ck' k' A hW hC hb hl hA hm => by
      have h := mac_calls W Ak ck' k' A 1 [text] hC hb (by omega) (Parts.of (t := 0) hA) (fun xs hx => by rw [List.mem_singleton.1 hx]; exact HBX.out) (by simp; have := HXL.out; omega) (by simp) (HT.out W hW)
      have e : [text].flatten = text := by simp
      rw [e, hm] at h
      exact h)
    have hcall := CM.out (w2.alloc (.cells #[.slice B text.length cb] 28)) K ck key (some ⟨w2.heap.size, 0, none⟩) (HB2.out.alloc HB2.out.size _) (Kd.C_below HK.out (HB2.out.alloc HB2.out.size _)) HBK.out HKL.out (lit1_C w2 28 B cb text (Kd.C_below HX.out HB2.out) HXC.out) HD.out.symm
    have HCALL := Lib.hid hcall
    have HTH := Lib.hid (sum32 D hDl).1
    have HSZ := Lib.hid (sum32 D hDl).2
    clear hcall hD hDl
    go_upto_region 4 with (go_at_call 25; refine HCALL.out.mono ?_; rintro e w4 ⟨rfl, hB4⟩; have HB4 := Lib.hid ((HB2.out.alloc HB2.out.size (.cells #[.slice B text.length cb] 28)).trans (below_lower hB4 (HB2.out.alloc HB2.out.size (.cells #[.slice B text.length cb] 28)).size)); clear hB4; apply_assumption; refine wl_alloc32 rfl rfl ?_; refine wpList_store_mid rfl _ _ _ rfl w4.heap.size 0 (nums .u8 D).toArray rfl rfl (HTH.out w4) HSZ.out (all_oneCell_toArray (nums_one .u8 D)) ?_; rw [List.toList_toArray]; change wpList _ _ _ _ _ (putA (w4.alloc (.cells (nums .u8 (List.replicate 32 0)).toArray 25)) w4.heap.size .u8 D))
    have h5 := sum32_new w4 w D HDL.out HB4.out
    obtain ⟨mb, hmb⟩ : ∃ mb, mb = w4.heap.size := ⟨_, rfl⟩
    obtain ⟨w5, hw5⟩ : ∃ w5, w5 = putA (w4.alloc (.cells (nums .u8 (List.replicate 32 0)).toArray 25)) w4.heap.size .u8 D := ⟨_, rfl⟩
    rw [← hw5, ← hmb] at h5
    rw [← hw5, ← hmb]
    clear hw5 hmb
    have A5 := Lib.hid h5.1
    have B5 := Lib.hid h5.2
    clear h5
    have hu32 : Tryd.prog.underlying 25 = some (.array 32 5) := Tryd.underlying25
    have hi32 : (Tryd.prog.info? 25).map (·.size) = some (nums .u8 D).length := by
      have e2 : (Tryd.prog.info? 25).map (·.size) = some 32 := by kernel_rfl
      rw [nums_length, HDL.out]
      exact e2
    have RB : Hid (∀ W, Below w5.heap.size w5 W → W.rangeAt mb 0 (nums .u8 D)) := Lib.hid (fun W hW => by
      have hB : Blk W mb .u8 25 D := (hW.block mb A5.out.lt).trans A5.out
      exact hB.range)
    have hbyD : Byts D := by rw [HD.out]; exact Sha.byts_sum _
    have hae : ∀ W : World, Sem.run Tryd.prog (Op.equalIn 10000 25 (.agg (nums .u8 D).toArray) (.agg (nums .u8 D).toArray)) W = .ok true W := fun W => (arr_eq W D D HDL.out HDL.out hbyD hbyD).trans (by simp)
    clear hbyD
    by_cases hk64 : 64 < key.length
    · have hki : (64 : Int) < (key.length : Int) := by omega
      have HK64 := Lib.hid hk64
      clear hk64
      obtain ⟨E, hE⟩ : ∃ E, E = Sha.sum key := ⟨_, rfl⟩
      have hEl : E.length = 32 := by rw [hE, Sha.sum_length]
      have hb5a : Below w.heap.size w (w5.alloc (.cells #[.slice K key.length ck] 28)) := B5.out.alloc B5.out.size _
      have hcall := hsum_calls (w5.alloc (.cells #[.slice K key.length ck] 28)) (some ⟨w5.heap.size, 0, none⟩) 1 [key] (Parts.of (t := 0) (lit1_C w5 28 K ck key (Kd.C_below HK.out B5.out) HKC.out)) (fun xs hx => by rw [List.mem_singleton.1 hx]; exact HBK.out) (by simp; have := HKL.out; omega) (by simp) (HT.out _ hb5a)
      have e1 : [key].flatten = key := by simp
      rw [e1, ← hE] at hcall
      have HCALL2 := Lib.hid hcall
      have HTH2 := Lib.hid (sum32 E hEl).1
      have HSZ2 := Lib.hid (sum32 E hEl).2
      have HEL := Lib.hid hEl
      have HE := Lib.hid hE
      have b5a : Below w5.heap.size w5 (w5.alloc (.cells #[.slice K key.length ck] 28)) := below_alloc (Below.refl _ w5) _
      have HB5a := Lib.hid b5a
      clear hcall e1 hE hEl hb5a b5a
      go_upto_region 6 with (go_at_call 14; refine HCALL2.out.mono ?_; rintro e w6 ⟨rfl, hB6⟩; have HB6 := Lib.hid (HB5a.out.trans (below_lower hB6 HB5a.out.size)); clear hB6; apply_assumption; refine wl_alloc32 rfl rfl ?_; refine wpList_store_mid rfl _ _ _ rfl w6.heap.size 0 (nums .u8 E).toArray rfl rfl (HTH2.out w6) HSZ2.out (all_oneCell_toArray (nums_one .u8 E)) ?_; rw [List.toList_toArray]; change wpList _ _ _ _ _ (putA (w6.alloc (.cells (nums .u8 (List.replicate 32 0)).toArray 25)) w6.heap.size .u8 E))
      have h8 := sum32_new w6 w5 E HEL.out HB6.out
      obtain ⟨sb, hsb⟩ : ∃ sb, sb = w6.heap.size := ⟨_, rfl⟩
      obtain ⟨w8, hw8⟩ : ∃ w8, w8 = putA (w6.alloc (.cells (nums .u8 (List.replicate 32 0)).toArray 25)) w6.heap.size .u8 E := ⟨_, rfl⟩
      rw [← hw8, ← hsb] at h8
      rw [← hw8, ← hsb]
      clear hw8 hsb
      have b8d : Below w5.heap.size w5 w8.drew := h8.2.drew
      have b8a : Below w5.heap.size w5 (w8.alloc (.cells #[.slice B text.length cb] 28)).drew := (h8.2.alloc h8.2.size _).drew
      have r5 := Lib.hid (RB.out _ b8d)
      have r6 := Lib.hid (RB.out _ b8a)
      have hcm : Calls Tryd.prog 25 #[.slice (some ⟨sb, 0, none⟩) 32 32, .slice (some ⟨w8.heap.size, 0, none⟩) 1 1] (w8.alloc (.cells #[.slice B text.length cb] 28)).drew fun e w' => e = .returned (.agg (nums .u8 D).toArray) ∧ Below w5.heap.size w5 w' := by
        have hBk : Blk (w8.alloc (.cells #[.slice B text.length cb] 28)) sb .u8 25 E := blk_alloc (o := .cells (nums .u8 E).toArray 25 (0, 0)) (w := w8) h8.1 _
        have hEl := HEL.out
        have h := CM.out (w8.alloc (.cells #[.slice B text.length cb] 28)).drew (some ⟨sb, 0, none⟩) 32 E (some ⟨w8.heap.size, 0, none⟩) (B5.out.trans (below_lower b8a B5.out.size)) (Kd.C_drew (hBk.C (by omega))) (by rw [HE.out]; exact Sha.byts_sum _) (by omega) (Kd.C_drew (lit1_C w8 28 B cb text (Kd.C_below HX.out (B5.out.trans (below_lower h8.2 B5.out.size))) HXC.out)) (by rw [HD.out, HE.out]; unfold Sha.mac; rw [key64_sum key HK64.out])
        rw [hEl] at h
        refine h.mono ?_
        rintro e w' ⟨he, hB⟩
        exact ⟨he, b8a.trans (below_lower hB b8a.size)⟩
      have HCM := Lib.hid hcm
      clear b8d b8a hcm h8
      go_region_held3 (fun W => W.rangeAt mb 0 (nums .u8 D)) (first | with_reducible exact r5.out | with_reducible exact r6.out | with_reducible exact r7.out | exact r5.out) (first | (go_at_call 25; refine HCM.out.mono ?_; rintro e w9 ⟨rfl, hB9⟩; have r7 := Lib.hid (RB.out w9 hB9); have HB9 := Lib.hid hB9; clear hB9))
      go_wp2_with fail
      go_ret
      exact ⟨rfl, B5.out.trans (below_lower HB9.out B5.out.size)⟩
    · have hki : ¬ (64 : Int) < (key.length : Int) := by omega
      have HK64 := Lib.hid hk64
      clear hk64
      go_upto_region 7 with fail
      obtain ⟨q, hq⟩ : ∃ q : Nat, q = 64 - key.length := ⟨_, rfl⟩
      have hqi : (64 : Int) - (key.length : Int) = (q : Int) := by omega
      have hk6 : key.length ≤ 64 := by omega
      have hqw : IntKind.i64.wrap (q : Int) = (q : Int) := IntWalk.i64_in _ (by omega)
      have HQ := Lib.hid hq
      clear hq
      by_cases hc1 : z < 0
      · obtain ⟨Zs, hZs⟩ : ∃ Zs, Zs = List.replicate 0 (0 : Int) := ⟨_, rfl⟩
        obtain ⟨U, hU⟩ : ∃ U, U = key ++ Zs := ⟨_, rfl⟩
        have HU := Lib.hid hU
        clear hU
        have hqq := HQ.out
        have hc2 : ¬ (q : Int) < 0 := by omega
        have hmk : ∀ W : World, Sem.run Tryd.prog (Instr.makeSlice 28 (.int .i64 0) (.int .i64 0)) W = .ok (.slice (some ⟨W.heap.size, 0, none⟩) Zs.length Zs.length) (W.alloc (.cells (nums .u8 Zs).toArray 5)) := fun W => run_makeZ W 0 Zs hZs (by omega)
        have hZl : Zs.length ≤ 64 := by rw [hZs, List.length_replicate]; omega
        have hUM : Sha.mac U text = D := by
          rw [HU.out, hZs, HD.out]
          unfold Sha.mac
          rw [key64_zeros key 0 (by omega)]
        have hUb : Byts U := by rw [HU.out, hZs]; exact Sha.byts_app HBK.out (Sha.byts_zeros _)
        have hUl : U.length ≤ 2000 := by rw [HU.out, List.length_append]; omega
        have HZL := Lib.hid hZl
        have HUM := Lib.hid hUM
        have HUB := Lib.hid hUb
        have HUL := Lib.hid hUl
        clear hZs hZl hUM hUb hUl
        clear hqq hk6
        have hbm : Below w5.heap.size w5 w5.drew := (Below.refl _ w5).drew
        have al : ∀ (W : World) (o : Obj), Below w5.heap.size w5 W → Below w5.heap.size w5 (W.alloc o) := fun W o h => h.alloc h.size o
        have r0 := Lib.hid (RB.out _ hbm)
        have r1 := Lib.hid (fun o1 => RB.out _ (al w5 o1 (Below.refl _ w5)).drew)
        have r2 := Lib.hid (fun o1 o2 => RB.out _ (al _ o2 (al w5 o1 (Below.refl _ w5))).drew)
        have r3 := Lib.hid (fun o1 o2 o3 => RB.out _ (al _ o3 (al _ o2 (al w5 o1 (Below.refl _ w5)))).drew)
        have CJ : ∀ (W : World) (A : Option Addr), Below w5.heap.size w5 W → (Kd.slice 5 (Kd.int .u8)).C W A 2 [key, Zs] → Calls Tryd.prog 17 #[.slice A 2 2] W fun e w' => ∃ A' c', e = .returned (.slice A' U.length c') ∧ (Kd.int .u8).C w' A' U.length U ∧ Below W.heap.size W w' := fun W A hW hC => by
          have hf : [key, Zs].flatten = U := by rw [flat2, HU.out]
          refine (join_calls W A 2 [key, Zs] hC (by rw [hf]; have := HUL.out; omega)).mono ?_
          rintro e w' ⟨v, rfl, hR, hB⟩
          rw [hf] at hR
          obtain ⟨A', c', rfl, hc, hC⟩ := Kd.R_reads hR
          exact ⟨A', c', rfl, hC, hB⟩
        have lb : ∀ W : World, Below w5.heap.size w5 W → Below w.heap.size w W := fun W h => B5.out.trans (below_lower h B5.out.size)
        have hTc : ∀ W : World, Below w5.heap.size w5 W → (Kd.slice 5 (Kd.int .u8)).C (W.alloc (.cells #[.slice B text.length cb] 28)) (some ⟨W.heap.size, 0, none⟩) 1 [text] := fun W h => lit1_C W 28 B cb text (Kd.C_below HX.out (lb W h)) HXC.out
        have hZc : ∀ W : World, (Kd.int .u8).C (W.alloc (.cells (nums .u8 Zs).toArray 5)) (some ⟨W.heap.size, 0, none⟩) Zs.length Zs := fun W => Blk.C (t := 5) (blk_new W (.cells (nums .u8 Zs).toArray 5)) (by have := HZL.out; omega)
        have hKMc : ∀ (W : World) (a : Nat), Below w5.heap.size w5 W → (Kd.int .u8).C W (some ⟨a, 0, none⟩) Zs.length Zs → (Kd.slice 5 (Kd.int .u8)).C (W.alloc (.cells #[.slice K key.length ck, .slice (some ⟨a, 0, none⟩) Zs.length Zs.length] 28)) (some ⟨W.heap.size, 0, none⟩) 2 [key, Zs] := fun W a h hz => lit2_C W 28 K (some ⟨a, 0, none⟩) ck Zs.length key Zs (Kd.C_below HK.out (lb W h)) hz HKC.out (Nat.le_refl _)
        have up : ∀ (W : World) (A : Option Addr) (n : Nat) (xss : List (List Int)) (o : Obj), (Kd.slice 5 (Kd.int .u8)).C W A n xss → (Kd.slice 5 (Kd.int .u8)).C (W.alloc o) A n xss := fun W A n xss o h => Kd.C_alloc h o
        have upi : ∀ (W : World) (A : Option Addr) (n : Nat) (xs : List Int) (o : Obj), (Kd.int .u8).C W A n xs → (Kd.int .u8).C (W.alloc o) A n xs := fun W A n xs o h => Kd.C_alloc h o
        have hja : Calls Tryd.prog 17 #[.slice (some ⟨w5.heap.size + 2, 0, none⟩) 2 2] (((w5.alloc (.cells #[.slice B text.length cb] 28)).alloc (.cells (nums .u8 Zs).toArray 5)).alloc (.cells #[.slice K key.length ck, .slice (some ⟨w5.heap.size + 1, 0, none⟩) Zs.length Zs.length] 28)).drew fun e w' => ∃ A' c', e = .returned (.slice A' U.length c') ∧ (Kd.int .u8).C w' A' U.length U ∧ Below w5.heap.size w5 w' ∧ (Kd.slice 5 (Kd.int .u8)).C w' (some ⟨w5.heap.size, 0, none⟩) 1 [text] := by
          have hb : Below w5.heap.size w5 (((w5.alloc (.cells #[.slice B text.length cb] 28)).alloc (.cells (nums .u8 Zs).toArray 5)).alloc (.cells #[.slice K key.length ck, .slice (some ⟨w5.heap.size + 1, 0, none⟩) Zs.length Zs.length] 28)) := al _ _ (al _ _ (al _ _ (Below.refl _ w5)))
          have h0 := hKMc ((w5.alloc (.cells #[.slice B text.length cb] 28)).alloc (.cells (nums .u8 Zs).toArray 5)) (w5.heap.size + 1) (al _ _ (al _ _ (Below.refl _ w5))) (by have h := hZc (w5.alloc (.cells #[.slice B text.length cb] 28)); rw [World.size_alloc] at h; exact h)
          rw [World.size_alloc, World.size_alloc] at h0
          have ht := up _ _ _ _ (.cells #[.slice K key.length ck, .slice (some ⟨w5.heap.size + 1, 0, none⟩) Zs.length Zs.length] 28) (up _ _ _ _ (.cells (nums .u8 Zs).toArray 5) (hTc w5 (Below.refl _ w5)))
          refine (CJ _ _ hb.drew (Kd.C_drew h0)).mono ?_
          rintro e w' ⟨A', c', he, hC, hB⟩
          exact ⟨A', c', he, hC, hb.drew.trans (below_lower hB hb.drew.size), Kd.C_below (Kd.C_drew ht) hB⟩
        have HJa := Lib.hid hja
        have hjb : Calls Tryd.prog 17 #[.slice (some ⟨w5.heap.size + 2, 0, none⟩) 2 2] (((w5.alloc (.cells (nums .u8 Zs).toArray 5)).alloc (.cells #[.slice B text.length cb] 28)).alloc (.cells #[.slice K key.length ck, .slice (some ⟨w5.heap.size, 0, none⟩) Zs.length Zs.length] 28)).drew fun e w' => ∃ A' c', e = .returned (.slice A' U.length c') ∧ (Kd.int .u8).C w' A' U.length U ∧ Below w5.heap.size w5 w' ∧ (Kd.slice 5 (Kd.int .u8)).C w' (some ⟨w5.heap.size + 1, 0, none⟩) 1 [text] := by
          have hb : Below w5.heap.size w5 (((w5.alloc (.cells (nums .u8 Zs).toArray 5)).alloc (.cells #[.slice B text.length cb] 28)).alloc (.cells #[.slice K key.length ck, .slice (some ⟨w5.heap.size, 0, none⟩) Zs.length Zs.length] 28)) := al _ _ (al _ _ (al _ _ (Below.refl _ w5)))
          have h0 := hKMc ((w5.alloc (.cells (nums .u8 Zs).toArray 5)).alloc (.cells #[.slice B text.length cb] 28)) w5.heap.size (al _ _ (al _ _ (Below.refl _ w5))) (upi _ _ _ _ _ (hZc w5))
          rw [World.size_alloc, World.size_alloc] at h0
          have ht := up _ _ _ _ (.cells #[.slice K key.length ck, .slice (some ⟨w5.heap.size, 0, none⟩) Zs.length Zs.length] 28) (hTc (w5.alloc (.cells (nums .u8 Zs).toArray 5)) (al _ _ (Below.refl _ w5)))
          rw [World.size_alloc] at ht
          refine (CJ _ _ hb.drew (Kd.C_drew h0)).mono ?_
          rintro e w' ⟨A', c', he, hC, hB⟩
          exact ⟨A', c', he, hC, hb.drew.trans (below_lower hB hb.drew.size), Kd.C_below (Kd.C_drew ht) hB⟩
        have HJb := Lib.hid hjb
        have hjc : Calls Tryd.prog 17 #[.slice (some ⟨w5.heap.size + 1, 0, none⟩) 2 2] (((w5.alloc (.cells (nums .u8 Zs).toArray 5)).alloc (.cells #[.slice K key.length ck, .slice (some ⟨w5.heap.size, 0, none⟩) Zs.length Zs.length] 28)).alloc (.cells #[.slice B text.length cb] 28)).drew fun e w' => ∃ A' c', e = .returned (.slice A' U.length c') ∧ (Kd.int .u8).C w' A' U.length U ∧ Below w5.heap.size w5 w' ∧ (Kd.slice 5 (Kd.int .u8)).C w' (some ⟨w5.heap.size + 2, 0, none⟩) 1 [text] := by
          have hb : Below w5.heap.size w5 (((w5.alloc (.cells (nums .u8 Zs).toArray 5)).alloc (.cells #[.slice K key.length ck, .slice (some ⟨w5.heap.size, 0, none⟩) Zs.length Zs.length] 28)).alloc (.cells #[.slice B text.length cb] 28)) := al _ _ (al _ _ (al _ _ (Below.refl _ w5)))
          have h0 := up _ _ _ _ (.cells #[.slice B text.length cb] 28) (hKMc (w5.alloc (.cells (nums .u8 Zs).toArray 5)) w5.heap.size (al _ _ (Below.refl _ w5)) (hZc w5))
          rw [World.size_alloc] at h0
          have ht := hTc ((w5.alloc (.cells (nums .u8 Zs).toArray 5)).alloc (.cells #[.slice K key.length ck, .slice (some ⟨w5.heap.size, 0, none⟩) Zs.length Zs.length] 28)) (al _ _ (al _ _ (Below.refl _ w5)))
          rw [World.size_alloc, World.size_alloc] at ht
          refine (CJ _ _ hb.drew (Kd.C_drew h0)).mono ?_
          rintro e w' ⟨A', c', he, hC, hB⟩
          exact ⟨A', c', he, hC, hb.drew.trans (below_lower hB hb.drew.size), Kd.C_below (Kd.C_drew ht) hB⟩
        have HJc := Lib.hid hjc
        have hjd : Calls Tryd.prog 17 #[.slice (some ⟨w5.heap.size + 1, 0, none⟩) 2 2] ((w5.alloc (.cells (nums .u8 Zs).toArray 5)).alloc (.cells #[.slice K key.length ck, .slice (some ⟨w5.heap.size, 0, none⟩) Zs.length Zs.length] 28)).drew fun e w' => ∃ A' c', e = .returned (.slice A' U.length c') ∧ (Kd.int .u8).C w' A' U.length U ∧ Below w5.heap.size w5 w' := by
          have hb : Below w5.heap.size w5 ((w5.alloc (.cells (nums .u8 Zs).toArray 5)).alloc (.cells #[.slice K key.length ck, .slice (some ⟨w5.heap.size, 0, none⟩) Zs.length Zs.length] 28)) := al _ _ (al _ _ (Below.refl _ w5))
          have h0 := hKMc (w5.alloc (.cells (nums .u8 Zs).toArray 5)) w5.heap.size (al _ _ (Below.refl _ w5)) (hZc w5)
          rw [World.size_alloc] at h0
          refine (CJ _ _ hb.drew (Kd.C_drew h0)).mono ?_
          rintro e w' ⟨A', c', he, hC, hB⟩
          exact ⟨A', c', he, hC, hb.drew.trans (below_lower hB hb.drew.size)⟩
        have HJd := Lib.hid hjd
        have HTc := Lib.hid hTc
        have CM2 : Hid (∀ (W : World) (A9 : Option Addr) (c9 : Nat) (A : Option Addr), Below w5.heap.size w5 W → (Kd.int .u8).C W A9 U.length U → (Kd.slice 5 (Kd.int .u8)).C W A 1 [text] → Calls Tryd.prog 25 #[.slice A9 U.length c9, .slice A 1 1] W fun e w' => e = .returned (.agg (nums .u8 D).toArray) ∧ Below W.heap.size W w') := Lib.hid (fun W A9 c9 A hW hC hA => CM.out W A9 c9 U A (lb W hW) hC HUB.out (by have := HUL.out; omega) hA HUM.out)
        clear hja hjb hjc hjd CJ hTc hZc hKMc up upi lb hbm
        have AL := Lib.hid al
        clear al
        go_region_held3 (fun W => W.rangeAt mb 0 (nums .u8 D)) (first | with_reducible exact r0.out | with_reducible exact r1.out _ | with_reducible exact r2.out _ _ | with_reducible exact r3.out _ _ _ | with_reducible exact r9.out | with_reducible exact r9a.out _ | with_reducible exact r10.out | exact r0.out) (first | (go_at_call 17; with_reducible (refine HJa.out.mono ?_); rintro e w9 ⟨A9, c9, rfl, hC9, hB9, hT9⟩; have r9 := Lib.hid (RB.out w9 hB9); have r9a := Lib.hid (fun o => RB.out (w9.alloc o) (AL.out w9 o hB9)); have HM := Lib.hid (CM2.out w9 A9 c9 _ hB9 hC9 hT9); have HB9 := Lib.hid hB9; clear hC9 hB9 hT9) | (go_at_call 17; with_reducible (refine HJb.out.mono ?_); rintro e w9 ⟨A9, c9, rfl, hC9, hB9, hT9⟩; have r9 := Lib.hid (RB.out w9 hB9); have r9a := Lib.hid (fun o => RB.out (w9.alloc o) (AL.out w9 o hB9)); have HM := Lib.hid (CM2.out w9 A9 c9 _ hB9 hC9 hT9); have HB9 := Lib.hid hB9; clear hC9 hB9 hT9) | (go_at_call 17; with_reducible (refine HJc.out.mono ?_); rintro e w9 ⟨A9, c9, rfl, hC9, hB9, hT9⟩; have r9 := Lib.hid (RB.out w9 hB9); have r9a := Lib.hid (fun o => RB.out (w9.alloc o) (AL.out w9 o hB9)); have HM := Lib.hid (CM2.out w9 A9 c9 _ hB9 hC9 hT9); have HB9 := Lib.hid hB9; clear hC9 hB9 hT9) | (go_at_call 17; with_reducible (refine HJd.out.mono ?_); rintro e w9 ⟨A9, c9, rfl, hC9, hB9⟩; have r9 := Lib.hid (RB.out w9 hB9); have r9a := Lib.hid (fun o => RB.out (w9.alloc o) (AL.out w9 o hB9)); have HM := Lib.hid (CM2.out (w9.alloc (.cells #[.slice B text.length cb] 28)) A9 c9 (some ⟨w9.heap.size, 0, none⟩) (AL.out _ _ hB9) (Kd.C_alloc hC9 _) (HTc.out w9 hB9)); have HB9 := Lib.hid (AL.out _ (.cells #[.slice B text.length cb] 28) hB9); clear hC9 hB9) | (go_at_call 25; refine HM.out.mono ?_; rintro e w10 ⟨rfl, hB10⟩; have hb10 := HB9.out.trans (below_lower hB10 HB9.out.size); have r10 := Lib.hid (RB.out w10 hb10); have HB10 := Lib.hid hb10; clear hB10 hb10))
        all_goals
          go_wp2_with fail
          go_ret
          exact ⟨rfl, B5.out.trans (below_lower HB10.out B5.out.size)⟩
      · by_cases hc2 : (q : Int) < z
        · obtain ⟨Zs, hZs⟩ : ∃ Zs, Zs = List.replicate q (0 : Int) := ⟨_, rfl⟩
          obtain ⟨U, hU⟩ : ∃ U, U = key ++ Zs := ⟨_, rfl⟩
          have HU := Lib.hid hU
          clear hU
          have hqq := HQ.out
          have hmk : ∀ W : World, Sem.run Tryd.prog (Instr.makeSlice 28 (.int .i64 (q : Int)) (.int .i64 (q : Int))) W = .ok (.slice (some ⟨W.heap.size, 0, none⟩) Zs.length Zs.length) (W.alloc (.cells (nums .u8 Zs).toArray 5)) := fun W => run_makeZ W q Zs hZs (by omega)
          have hZl : Zs.length ≤ 64 := by rw [hZs, List.length_replicate]; omega
          have hUM : Sha.mac U text = D := by
            rw [HU.out, hZs, HD.out]
            unfold Sha.mac
            rw [key64_zeros key q (by omega)]
          have hUb : Byts U := by rw [HU.out, hZs]; exact Sha.byts_app HBK.out (Sha.byts_zeros _)
          have hUl : U.length ≤ 2000 := by rw [HU.out, List.length_append]; omega
          have HZL := Lib.hid hZl
          have HUM := Lib.hid hUM
          have HUB := Lib.hid hUb
          have HUL := Lib.hid hUl
          clear hZs hZl hUM hUb hUl
          clear hqq hk6
          have hbm : Below w5.heap.size w5 w5.drew := (Below.refl _ w5).drew
          have al : ∀ (W : World) (o : Obj), Below w5.heap.size w5 W → Below w5.heap.size w5 (W.alloc o) := fun W o h => h.alloc h.size o
          have r0 := Lib.hid (RB.out _ hbm)
          have r1 := Lib.hid (fun o1 => RB.out _ (al w5 o1 (Below.refl _ w5)).drew)
          have r2 := Lib.hid (fun o1 o2 => RB.out _ (al _ o2 (al w5 o1 (Below.refl _ w5))).drew)
          have r3 := Lib.hid (fun o1 o2 o3 => RB.out _ (al _ o3 (al _ o2 (al w5 o1 (Below.refl _ w5)))).drew)
          have CJ : ∀ (W : World) (A : Option Addr), Below w5.heap.size w5 W → (Kd.slice 5 (Kd.int .u8)).C W A 2 [key, Zs] → Calls Tryd.prog 17 #[.slice A 2 2] W fun e w' => ∃ A' c', e = .returned (.slice A' U.length c') ∧ (Kd.int .u8).C w' A' U.length U ∧ Below W.heap.size W w' := fun W A hW hC => by
            have hf : [key, Zs].flatten = U := by rw [flat2, HU.out]
            refine (join_calls W A 2 [key, Zs] hC (by rw [hf]; have := HUL.out; omega)).mono ?_
            rintro e w' ⟨v, rfl, hR, hB⟩
            rw [hf] at hR
            obtain ⟨A', c', rfl, hc, hC⟩ := Kd.R_reads hR
            exact ⟨A', c', rfl, hC, hB⟩
          have lb : ∀ W : World, Below w5.heap.size w5 W → Below w.heap.size w W := fun W h => B5.out.trans (below_lower h B5.out.size)
          have hTc : ∀ W : World, Below w5.heap.size w5 W → (Kd.slice 5 (Kd.int .u8)).C (W.alloc (.cells #[.slice B text.length cb] 28)) (some ⟨W.heap.size, 0, none⟩) 1 [text] := fun W h => lit1_C W 28 B cb text (Kd.C_below HX.out (lb W h)) HXC.out
          have hZc : ∀ W : World, (Kd.int .u8).C (W.alloc (.cells (nums .u8 Zs).toArray 5)) (some ⟨W.heap.size, 0, none⟩) Zs.length Zs := fun W => Blk.C (t := 5) (blk_new W (.cells (nums .u8 Zs).toArray 5)) (by have := HZL.out; omega)
          have hKMc : ∀ (W : World) (a : Nat), Below w5.heap.size w5 W → (Kd.int .u8).C W (some ⟨a, 0, none⟩) Zs.length Zs → (Kd.slice 5 (Kd.int .u8)).C (W.alloc (.cells #[.slice K key.length ck, .slice (some ⟨a, 0, none⟩) Zs.length Zs.length] 28)) (some ⟨W.heap.size, 0, none⟩) 2 [key, Zs] := fun W a h hz => lit2_C W 28 K (some ⟨a, 0, none⟩) ck Zs.length key Zs (Kd.C_below HK.out (lb W h)) hz HKC.out (Nat.le_refl _)
          have up : ∀ (W : World) (A : Option Addr) (n : Nat) (xss : List (List Int)) (o : Obj), (Kd.slice 5 (Kd.int .u8)).C W A n xss → (Kd.slice 5 (Kd.int .u8)).C (W.alloc o) A n xss := fun W A n xss o h => Kd.C_alloc h o
          have upi : ∀ (W : World) (A : Option Addr) (n : Nat) (xs : List Int) (o : Obj), (Kd.int .u8).C W A n xs → (Kd.int .u8).C (W.alloc o) A n xs := fun W A n xs o h => Kd.C_alloc h o
          have hja : Calls Tryd.prog 17 #[.slice (some ⟨w5.heap.size + 2, 0, none⟩) 2 2] (((w5.alloc (.cells #[.slice B text.length cb] 28)).alloc (.cells (nums .u8 Zs).toArray 5)).alloc (.cells #[.slice K key.length ck, .slice (some ⟨w5.heap.size + 1, 0, none⟩) Zs.length Zs.length] 28)).drew fun e w' => ∃ A' c', e = .returned (.slice A' U.length c') ∧ (Kd.int .u8).C w' A' U.length U ∧ Below w5.heap.size w5 w' ∧ (Kd.slice 5 (Kd.int .u8)).C w' (some ⟨w5.heap.size, 0, none⟩) 1 [text] := by
            have hb : Below w5.heap.size w5 (((w5.alloc (.cells #[.slice B text.length cb] 28)).alloc (.cells (nums .u8 Zs).toArray 5)).alloc (.cells #[.slice K key.length ck, .slice (some ⟨w5.heap.size + 1, 0, none⟩) Zs.length Zs.length] 28)) := al _ _ (al _ _ (al _ _ (Below.refl _ w5)))
            have h0 := hKMc ((w5.alloc (.cells #[.slice B text.length cb] 28)).alloc (.cells (nums .u8 Zs).toArray 5)) (w5.heap.size + 1) (al _ _ (al _ _ (Below.refl _ w5))) (by have h := hZc (w5.alloc (.cells #[.slice B text.length cb] 28)); rw [World.size_alloc] at h; exact h)
            rw [World.size_alloc, World.size_alloc] at h0
            have ht := up _ _ _ _ (.cells #[.slice K key.length ck, .slice (some ⟨w5.heap.size + 1, 0, none⟩) Zs.length Zs.length] 28) (up _ _ _ _ (.cells (nums .u8 Zs).toArray 5) (hTc w5 (Below.refl _ w5)))
            refine (CJ _ _ hb.drew (Kd.C_drew h0)).mono ?_
            rintro e w' ⟨A', c', he, hC, hB⟩
            exact ⟨A', c', he, hC, hb.drew.trans (below_lower hB hb.drew.size), Kd.C_below (Kd.C_drew ht) hB⟩
          have HJa := Lib.hid hja
          have hjb : Calls Tryd.prog 17 #[.slice (some ⟨w5.heap.size + 2, 0, none⟩) 2 2] (((w5.alloc (.cells (nums .u8 Zs).toArray 5)).alloc (.cells #[.slice B text.length cb] 28)).alloc (.cells #[.slice K key.length ck, .slice (some ⟨w5.heap.size, 0, none⟩) Zs.length Zs.length] 28)).drew fun e w' => ∃ A' c', e = .returned (.slice A' U.length c') ∧ (Kd.int .u8).C w' A' U.length U ∧ Below w5.heap.size w5 w' ∧ (Kd.slice 5 (Kd.int .u8)).C w' (some ⟨w5.heap.size + 1, 0, none⟩) 1 [text] := by
            have hb : Below w5.heap.size w5 (((w5.alloc (.cells (nums .u8 Zs).toArray 5)).alloc (.cells #[.slice B text.length cb] 28)).alloc (.cells #[.slice K key.length ck, .slice (some ⟨w5.heap.size, 0, none⟩) Zs.length Zs.length] 28)) := al _ _ (al _ _ (al _ _ (Below.refl _ w5)))
            have h0 := hKMc ((w5.alloc (.cells (nums .u8 Zs).toArray 5)).alloc (.cells #[.slice B text.length cb] 28)) w5.heap.size (al _ _ (al _ _ (Below.refl _ w5))) (upi _ _ _ _ _ (hZc w5))
            rw [World.size_alloc, World.size_alloc] at h0
            have ht := up _ _ _ _ (.cells #[.slice K key.length ck, .slice (some ⟨w5.heap.size, 0, none⟩) Zs.length Zs.length] 28) (hTc (w5.alloc (.cells (nums .u8 Zs).toArray 5)) (al _ _ (Below.refl _ w5)))
            rw [World.size_alloc] at ht
            refine (CJ _ _ hb.drew (Kd.C_drew h0)).mono ?_
            rintro e w' ⟨A', c', he, hC, hB⟩
            exact ⟨A', c', he, hC, hb.drew.trans (below_lower hB hb.drew.size), Kd.C_below (Kd.C_drew ht) hB⟩
          have HJb := Lib.hid hjb
          have hjc : Calls Tryd.prog 17 #[.slice (some ⟨w5.heap.size + 1, 0, none⟩) 2 2] (((w5.alloc (.cells (nums .u8 Zs).toArray 5)).alloc (.cells #[.slice K key.length ck, .slice (some ⟨w5.heap.size, 0, none⟩) Zs.length Zs.length] 28)).alloc (.cells #[.slice B text.length cb] 28)).drew fun e w' => ∃ A' c', e = .returned (.slice A' U.length c') ∧ (Kd.int .u8).C w' A' U.length U ∧ Below w5.heap.size w5 w' ∧ (Kd.slice 5 (Kd.int .u8)).C w' (some ⟨w5.heap.size + 2, 0, none⟩) 1 [text] := by
            have hb : Below w5.heap.size w5 (((w5.alloc (.cells (nums .u8 Zs).toArray 5)).alloc (.cells #[.slice K key.length ck, .slice (some ⟨w5.heap.size, 0, none⟩) Zs.length Zs.length] 28)).alloc (.cells #[.slice B text.length cb] 28)) := al _ _ (al _ _ (al _ _ (Below.refl _ w5)))
            have h0 := up _ _ _ _ (.cells #[.slice B text.length cb] 28) (hKMc (w5.alloc (.cells (nums .u8 Zs).toArray 5)) w5.heap.size (al _ _ (Below.refl _ w5)) (hZc w5))
            rw [World.size_alloc] at h0
            have ht := hTc ((w5.alloc (.cells (nums .u8 Zs).toArray 5)).alloc (.cells #[.slice K key.length ck, .slice (some ⟨w5.heap.size, 0, none⟩) Zs.length Zs.length] 28)) (al _ _ (al _ _ (Below.refl _ w5)))
            rw [World.size_alloc, World.size_alloc] at ht
            refine (CJ _ _ hb.drew (Kd.C_drew h0)).mono ?_
            rintro e w' ⟨A', c', he, hC, hB⟩
            exact ⟨A', c', he, hC, hb.drew.trans (below_lower hB hb.drew.size), Kd.C_below (Kd.C_drew ht) hB⟩
          have HJc := Lib.hid hjc
          have hjd : Calls Tryd.prog 17 #[.slice (some ⟨w5.heap.size + 1, 0, none⟩) 2 2] ((w5.alloc (.cells (nums .u8 Zs).toArray 5)).alloc (.cells #[.slice K key.length ck, .slice (some ⟨w5.heap.size, 0, none⟩) Zs.length Zs.length] 28)).drew fun e w' => ∃ A' c', e = .returned (.slice A' U.length c') ∧ (Kd.int .u8).C w' A' U.length U ∧ Below w5.heap.size w5 w' := by
            have hb : Below w5.heap.size w5 ((w5.alloc (.cells (nums .u8 Zs).toArray 5)).alloc (.cells #[.slice K key.length ck, .slice (some ⟨w5.heap.size, 0, none⟩) Zs.length Zs.length] 28)) := al _ _ (al _ _ (Below.refl _ w5))
            have h0 := hKMc (w5.alloc (.cells (nums .u8 Zs).toArray 5)) w5.heap.size (al _ _ (Below.refl _ w5)) (hZc w5)
            rw [World.size_alloc] at h0
            refine (CJ _ _ hb.drew (Kd.C_drew h0)).mono ?_
            rintro e w' ⟨A', c', he, hC, hB⟩
            exact ⟨A', c', he, hC, hb.drew.trans (below_lower hB hb.drew.size)⟩
          have HJd := Lib.hid hjd
          have HTc := Lib.hid hTc
          have CM2 : Hid (∀ (W : World) (A9 : Option Addr) (c9 : Nat) (A : Option Addr), Below w5.heap.size w5 W → (Kd.int .u8).C W A9 U.length U → (Kd.slice 5 (Kd.int .u8)).C W A 1 [text] → Calls Tryd.prog 25 #[.slice A9 U.length c9, .slice A 1 1] W fun e w' => e = .returned (.agg (nums .u8 D).toArray) ∧ Below W.heap.size W w') := Lib.hid (fun W A9 c9 A hW hC hA => CM.out W A9 c9 U A (lb W hW) hC HUB.out (by have := HUL.out; omega) hA HUM.out)
          clear hja hjb hjc hjd CJ hTc hZc hKMc up upi lb hbm
          have AL := Lib.hid al
          clear al
          go_region_held3 (fun W => W.rangeAt mb 0 (nums .u8 D)) (first | with_reducible exact r0.out | with_reducible exact r1.out _ | with_reducible exact r2.out _ _ | with_reducible exact r3.out _ _ _ | with_reducible exact r9.out | with_reducible exact r9a.out _ | with_reducible exact r10.out | exact r0.out) (first | (go_at_call 17; with_reducible (refine HJa.out.mono ?_); rintro e w9 ⟨A9, c9, rfl, hC9, hB9, hT9⟩; have r9 := Lib.hid (RB.out w9 hB9); have r9a := Lib.hid (fun o => RB.out (w9.alloc o) (AL.out w9 o hB9)); have HM := Lib.hid (CM2.out w9 A9 c9 _ hB9 hC9 hT9); have HB9 := Lib.hid hB9; clear hC9 hB9 hT9) | (go_at_call 17; with_reducible (refine HJb.out.mono ?_); rintro e w9 ⟨A9, c9, rfl, hC9, hB9, hT9⟩; have r9 := Lib.hid (RB.out w9 hB9); have r9a := Lib.hid (fun o => RB.out (w9.alloc o) (AL.out w9 o hB9)); have HM := Lib.hid (CM2.out w9 A9 c9 _ hB9 hC9 hT9); have HB9 := Lib.hid hB9; clear hC9 hB9 hT9) | (go_at_call 17; with_reducible (refine HJc.out.mono ?_); rintro e w9 ⟨A9, c9, rfl, hC9, hB9, hT9⟩; have r9 := Lib.hid (RB.out w9 hB9); have r9a := Lib.hid (fun o => RB.out (w9.alloc o) (AL.out w9 o hB9)); have HM := Lib.hid (CM2.out w9 A9 c9 _ hB9 hC9 hT9); have HB9 := Lib.hid hB9; clear hC9 hB9 hT9) | (go_at_call 17; with_reducible (refine HJd.out.mono ?_); rintro e w9 ⟨A9, c9, rfl, hC9, hB9⟩; have r9 := Lib.hid (RB.out w9 hB9); have r9a := Lib.hid (fun o => RB.out (w9.alloc o) (AL.out w9 o hB9)); have HM := Lib.hid (CM2.out (w9.alloc (.cells #[.slice B text.length cb] 28)) A9 c9 (some ⟨w9.heap.size, 0, none⟩) (AL.out _ _ hB9) (Kd.C_alloc hC9 _) (HTc.out w9 hB9)); have HB9 := Lib.hid (AL.out _ (.cells #[.slice B text.length cb] 28) hB9); clear hC9 hB9) | (go_at_call 25; refine HM.out.mono ?_; rintro e w10 ⟨rfl, hB10⟩; have hb10 := HB9.out.trans (below_lower hB10 HB9.out.size); have r10 := Lib.hid (RB.out w10 hb10); have HB10 := Lib.hid hb10; clear hB10 hb10))
          all_goals
            go_wp2_with fail
            go_ret
            exact ⟨rfl, B5.out.trans (below_lower HB10.out B5.out.size)⟩
        · obtain ⟨n, rfl⟩ : ∃ n : Nat, z = (n : Int) := ⟨z.toNat, by omega⟩
          have hnq : n ≤ q := by omega
          clear hc1 hc2
          obtain ⟨Zs, hZs⟩ : ∃ Zs, Zs = List.replicate n (0 : Int) := ⟨_, rfl⟩
          obtain ⟨U, hU⟩ : ∃ U, U = key ++ Zs := ⟨_, rfl⟩
          have HU := Lib.hid hU
          clear hU
          have hqq := HQ.out
          have hc1 : ¬ (n : Int) < 0 := by omega
          have hc2 : ¬ (q : Int) < (n : Int) := by omega
          have hmk : ∀ W : World, Sem.run Tryd.prog (Instr.makeSlice 28 (.int .i64 (n : Int)) (.int .i64 (n : Int))) W = .ok (.slice (some ⟨W.heap.size, 0, none⟩) Zs.length Zs.length) (W.alloc (.cells (nums .u8 Zs).toArray 5)) := fun W => run_makeZ W n Zs hZs (by omega)
          have hZl : Zs.length ≤ 64 := by rw [hZs, List.length_replicate]; omega
          have hUM : Sha.mac U text = D := by
            rw [HU.out, hZs, HD.out]
            unfold Sha.mac
            rw [key64_zeros key n (by omega)]
          have hUb : Byts U := by rw [HU.out, hZs]; exact Sha.byts_app HBK.out (Sha.byts_zeros _)
          have hUl : U.length ≤ 2000 := by rw [HU.out, List.length_append]; omega
          have HZL := Lib.hid hZl
          have HUM := Lib.hid hUM
          have HUB := Lib.hid hUb
          have HUL := Lib.hid hUl
          clear hZs hZl hUM hUb hUl
          clear hqq hk6
          have hbm : Below w5.heap.size w5 w5.drew := (Below.refl _ w5).drew
          have al : ∀ (W : World) (o : Obj), Below w5.heap.size w5 W → Below w5.heap.size w5 (W.alloc o) := fun W o h => h.alloc h.size o
          have r0 := Lib.hid (RB.out _ hbm)
          have r1 := Lib.hid (fun o1 => RB.out _ (al w5 o1 (Below.refl _ w5)).drew)
          have r2 := Lib.hid (fun o1 o2 => RB.out _ (al _ o2 (al w5 o1 (Below.refl _ w5))).drew)
          have r3 := Lib.hid (fun o1 o2 o3 => RB.out _ (al _ o3 (al _ o2 (al w5 o1 (Below.refl _ w5)))).drew)
          have CJ : ∀ (W : World) (A : Option Addr), Below w5.heap.size w5 W → (Kd.slice 5 (Kd.int .u8)).C W A 2 [key, Zs] → Calls Tryd.prog 17 #[.slice A 2 2] W fun e w' => ∃ A' c', e = .returned (.slice A' U.length c') ∧ (Kd.int .u8).C w' A' U.length U ∧ Below W.heap.size W w' := fun W A hW hC => by
            have hf : [key, Zs].flatten = U := by rw [flat2, HU.out]
            refine (join_calls W A 2 [key, Zs] hC (by rw [hf]; have := HUL.out; omega)).mono ?_
            rintro e w' ⟨v, rfl, hR, hB⟩
            rw [hf] at hR
            obtain ⟨A', c', rfl, hc, hC⟩ := Kd.R_reads hR
            exact ⟨A', c', rfl, hC, hB⟩
          have lb : ∀ W : World, Below w5.heap.size w5 W → Below w.heap.size w W := fun W h => B5.out.trans (below_lower h B5.out.size)
          have hTc : ∀ W : World, Below w5.heap.size w5 W → (Kd.slice 5 (Kd.int .u8)).C (W.alloc (.cells #[.slice B text.length cb] 28)) (some ⟨W.heap.size, 0, none⟩) 1 [text] := fun W h => lit1_C W 28 B cb text (Kd.C_below HX.out (lb W h)) HXC.out
          have hZc : ∀ W : World, (Kd.int .u8).C (W.alloc (.cells (nums .u8 Zs).toArray 5)) (some ⟨W.heap.size, 0, none⟩) Zs.length Zs := fun W => Blk.C (t := 5) (blk_new W (.cells (nums .u8 Zs).toArray 5)) (by have := HZL.out; omega)
          have hKMc : ∀ (W : World) (a : Nat), Below w5.heap.size w5 W → (Kd.int .u8).C W (some ⟨a, 0, none⟩) Zs.length Zs → (Kd.slice 5 (Kd.int .u8)).C (W.alloc (.cells #[.slice K key.length ck, .slice (some ⟨a, 0, none⟩) Zs.length Zs.length] 28)) (some ⟨W.heap.size, 0, none⟩) 2 [key, Zs] := fun W a h hz => lit2_C W 28 K (some ⟨a, 0, none⟩) ck Zs.length key Zs (Kd.C_below HK.out (lb W h)) hz HKC.out (Nat.le_refl _)
          have up : ∀ (W : World) (A : Option Addr) (n : Nat) (xss : List (List Int)) (o : Obj), (Kd.slice 5 (Kd.int .u8)).C W A n xss → (Kd.slice 5 (Kd.int .u8)).C (W.alloc o) A n xss := fun W A n xss o h => Kd.C_alloc h o
          have upi : ∀ (W : World) (A : Option Addr) (n : Nat) (xs : List Int) (o : Obj), (Kd.int .u8).C W A n xs → (Kd.int .u8).C (W.alloc o) A n xs := fun W A n xs o h => Kd.C_alloc h o
          have hja : Calls Tryd.prog 17 #[.slice (some ⟨w5.heap.size + 2, 0, none⟩) 2 2] (((w5.alloc (.cells #[.slice B text.length cb] 28)).alloc (.cells (nums .u8 Zs).toArray 5)).alloc (.cells #[.slice K key.length ck, .slice (some ⟨w5.heap.size + 1, 0, none⟩) Zs.length Zs.length] 28)).drew fun e w' => ∃ A' c', e = .returned (.slice A' U.length c') ∧ (Kd.int .u8).C w' A' U.length U ∧ Below w5.heap.size w5 w' ∧ (Kd.slice 5 (Kd.int .u8)).C w' (some ⟨w5.heap.size, 0, none⟩) 1 [text] := by
            have hb : Below w5.heap.size w5 (((w5.alloc (.cells #[.slice B text.length cb] 28)).alloc (.cells (nums .u8 Zs).toArray 5)).alloc (.cells #[.slice K key.length ck, .slice (some ⟨w5.heap.size + 1, 0, none⟩) Zs.length Zs.length] 28)) := al _ _ (al _ _ (al _ _ (Below.refl _ w5)))
            have h0 := hKMc ((w5.alloc (.cells #[.slice B text.length cb] 28)).alloc (.cells (nums .u8 Zs).toArray 5)) (w5.heap.size + 1) (al _ _ (al _ _ (Below.refl _ w5))) (by have h := hZc (w5.alloc (.cells #[.slice B text.length cb] 28)); rw [World.size_alloc] at h; exact h)
            rw [World.size_alloc, World.size_alloc] at h0
            have ht := up _ _ _ _ (.cells #[.slice K key.length ck, .slice (some ⟨w5.heap.size + 1, 0, none⟩) Zs.length Zs.length] 28) (up _ _ _ _ (.cells (nums .u8 Zs).toArray 5) (hTc w5 (Below.refl _ w5)))
            refine (CJ _ _ hb.drew (Kd.C_drew h0)).mono ?_
            rintro e w' ⟨A', c', he, hC, hB⟩
            exact ⟨A', c', he, hC, hb.drew.trans (below_lower hB hb.drew.size), Kd.C_below (Kd.C_drew ht) hB⟩
          have HJa := Lib.hid hja
          have hjb : Calls Tryd.prog 17 #[.slice (some ⟨w5.heap.size + 2, 0, none⟩) 2 2] (((w5.alloc (.cells (nums .u8 Zs).toArray 5)).alloc (.cells #[.slice B text.length cb] 28)).alloc (.cells #[.slice K key.length ck, .slice (some ⟨w5.heap.size, 0, none⟩) Zs.length Zs.length] 28)).drew fun e w' => ∃ A' c', e = .returned (.slice A' U.length c') ∧ (Kd.int .u8).C w' A' U.length U ∧ Below w5.heap.size w5 w' ∧ (Kd.slice 5 (Kd.int .u8)).C w' (some ⟨w5.heap.size + 1, 0, none⟩) 1 [text] := by
            have hb : Below w5.heap.size w5 (((w5.alloc (.cells (nums .u8 Zs).toArray 5)).alloc (.cells #[.slice B text.length cb] 28)).alloc (.cells #[.slice K key.length ck, .slice (some ⟨w5.heap.size, 0, none⟩) Zs.length Zs.length] 28)) := al _ _ (al _ _ (al _ _ (Below.refl _ w5)))
            have h0 := hKMc ((w5.alloc (.cells (nums .u8 Zs).toArray 5)).alloc (.cells #[.slice B text.length cb] 28)) w5.heap.size (al _ _ (al _ _ (Below.refl _ w5))) (upi _ _ _ _ _ (hZc w5))
            rw [World.size_alloc, World.size_alloc] at h0
            have ht := up _ _ _ _ (.cells #[.slice K key.length ck, .slice (some ⟨w5.heap.size, 0, none⟩) Zs.length Zs.length] 28) (hTc (w5.alloc (.cells (nums .u8 Zs).toArray 5)) (al _ _ (Below.refl _ w5)))
            rw [World.size_alloc] at ht
            refine (CJ _ _ hb.drew (Kd.C_drew h0)).mono ?_
            rintro e w' ⟨A', c', he, hC, hB⟩
            exact ⟨A', c', he, hC, hb.drew.trans (below_lower hB hb.drew.size), Kd.C_below (Kd.C_drew ht) hB⟩
          have HJb := Lib.hid hjb
          have hjc : Calls Tryd.prog 17 #[.slice (some ⟨w5.heap.size + 1, 0, none⟩) 2 2] (((w5.alloc (.cells (nums .u8 Zs).toArray 5)).alloc (.cells #[.slice K key.length ck, .slice (some ⟨w5.heap.size, 0, none⟩) Zs.length Zs.length] 28)).alloc (.cells #[.slice B text.length cb] 28)).drew fun e w' => ∃ A' c', e = .returned (.slice A' U.length c') ∧ (Kd.int .u8).C w' A' U.length U ∧ Below w5.heap.size w5 w' ∧ (Kd.slice 5 (Kd.int .u8)).C w' (some ⟨w5.heap.size + 2, 0, none⟩) 1 [text] := by
            have hb : Below w5.heap.size w5 (((w5.alloc (.cells (nums .u8 Zs).toArray 5)).alloc (.cells #[.slice K key.length ck, .slice (some ⟨w5.heap.size, 0, none⟩) Zs.length Zs.length] 28)).alloc (.cells #[.slice B text.length cb] 28)) := al _ _ (al _ _ (al _ _ (Below.refl _ w5)))
            have h0 := up _ _ _ _ (.cells #[.slice B text.length cb] 28) (hKMc (w5.alloc (.cells (nums .u8 Zs).toArray 5)) w5.heap.size (al _ _ (Below.refl _ w5)) (hZc w5))
            rw [World.size_alloc] at h0
            have ht := hTc ((w5.alloc (.cells (nums .u8 Zs).toArray 5)).alloc (.cells #[.slice K key.length ck, .slice (some ⟨w5.heap.size, 0, none⟩) Zs.length Zs.length] 28)) (al _ _ (al _ _ (Below.refl _ w5)))
            rw [World.size_alloc, World.size_alloc] at ht
            refine (CJ _ _ hb.drew (Kd.C_drew h0)).mono ?_
            rintro e w' ⟨A', c', he, hC, hB⟩
            exact ⟨A', c', he, hC, hb.drew.trans (below_lower hB hb.drew.size), Kd.C_below (Kd.C_drew ht) hB⟩
          have HJc := Lib.hid hjc
          have hjd : Calls Tryd.prog 17 #[.slice (some ⟨w5.heap.size + 1, 0, none⟩) 2 2] ((w5.alloc (.cells (nums .u8 Zs).toArray 5)).alloc (.cells #[.slice K key.length ck, .slice (some ⟨w5.heap.size, 0, none⟩) Zs.length Zs.length] 28)).drew fun e w' => ∃ A' c', e = .returned (.slice A' U.length c') ∧ (Kd.int .u8).C w' A' U.length U ∧ Below w5.heap.size w5 w' := by
            have hb : Below w5.heap.size w5 ((w5.alloc (.cells (nums .u8 Zs).toArray 5)).alloc (.cells #[.slice K key.length ck, .slice (some ⟨w5.heap.size, 0, none⟩) Zs.length Zs.length] 28)) := al _ _ (al _ _ (Below.refl _ w5))
            have h0 := hKMc (w5.alloc (.cells (nums .u8 Zs).toArray 5)) w5.heap.size (al _ _ (Below.refl _ w5)) (hZc w5)
            rw [World.size_alloc] at h0
            refine (CJ _ _ hb.drew (Kd.C_drew h0)).mono ?_
            rintro e w' ⟨A', c', he, hC, hB⟩
            exact ⟨A', c', he, hC, hb.drew.trans (below_lower hB hb.drew.size)⟩
          have HJd := Lib.hid hjd
          have HTc := Lib.hid hTc
          have CM2 : Hid (∀ (W : World) (A9 : Option Addr) (c9 : Nat) (A : Option Addr), Below w5.heap.size w5 W → (Kd.int .u8).C W A9 U.length U → (Kd.slice 5 (Kd.int .u8)).C W A 1 [text] → Calls Tryd.prog 25 #[.slice A9 U.length c9, .slice A 1 1] W fun e w' => e = .returned (.agg (nums .u8 D).toArray) ∧ Below W.heap.size W w') := Lib.hid (fun W A9 c9 A hW hC hA => CM.out W A9 c9 U A (lb W hW) hC HUB.out (by have := HUL.out; omega) hA HUM.out)
          clear hja hjb hjc hjd CJ hTc hZc hKMc up upi lb hbm
          have AL := Lib.hid al
          clear al
          go_region_held3 (fun W => W.rangeAt mb 0 (nums .u8 D)) (first | with_reducible exact r0.out | with_reducible exact r1.out _ | with_reducible exact r2.out _ _ | with_reducible exact r3.out _ _ _ | with_reducible exact r9.out | with_reducible exact r9a.out _ | with_reducible exact r10.out | exact r0.out) (first | (go_at_call 17; with_reducible (refine HJa.out.mono ?_); rintro e w9 ⟨A9, c9, rfl, hC9, hB9, hT9⟩; have r9 := Lib.hid (RB.out w9 hB9); have r9a := Lib.hid (fun o => RB.out (w9.alloc o) (AL.out w9 o hB9)); have HM := Lib.hid (CM2.out w9 A9 c9 _ hB9 hC9 hT9); have HB9 := Lib.hid hB9; clear hC9 hB9 hT9) | (go_at_call 17; with_reducible (refine HJb.out.mono ?_); rintro e w9 ⟨A9, c9, rfl, hC9, hB9, hT9⟩; have r9 := Lib.hid (RB.out w9 hB9); have r9a := Lib.hid (fun o => RB.out (w9.alloc o) (AL.out w9 o hB9)); have HM := Lib.hid (CM2.out w9 A9 c9 _ hB9 hC9 hT9); have HB9 := Lib.hid hB9; clear hC9 hB9 hT9) | (go_at_call 17; with_reducible (refine HJc.out.mono ?_); rintro e w9 ⟨A9, c9, rfl, hC9, hB9, hT9⟩; have r9 := Lib.hid (RB.out w9 hB9); have r9a := Lib.hid (fun o => RB.out (w9.alloc o) (AL.out w9 o hB9)); have HM := Lib.hid (CM2.out w9 A9 c9 _ hB9 hC9 hT9); have HB9 := Lib.hid hB9; clear hC9 hB9 hT9) | (go_at_call 17; with_reducible (refine HJd.out.mono ?_); rintro e w9 ⟨A9, c9, rfl, hC9, hB9⟩; have r9 := Lib.hid (RB.out w9 hB9); have r9a := Lib.hid (fun o => RB.out (w9.alloc o) (AL.out w9 o hB9)); have HM := Lib.hid (CM2.out (w9.alloc (.cells #[.slice B text.length cb] 28)) A9 c9 (some ⟨w9.heap.size, 0, none⟩) (AL.out _ _ hB9) (Kd.C_alloc hC9 _) (HTc.out w9 hB9)); have HB9 := Lib.hid (AL.out _ (.cells #[.slice B text.length cb] 28) hB9); clear hC9 hB9) | (go_at_call 25; refine HM.out.mono ?_; rintro e w10 ⟨rfl, hB10⟩; have hb10 := HB9.out.trans (below_lower hB10 HB9.out.size); have r10 := Lib.hid (RB.out w10 hb10); have HB10 := Lib.hid hb10; clear hB10 hb10))
          all_goals
            go_wp2_with fail
            go_ret
            exact ⟨rfl, B5.out.trans (below_lower HB10.out B5.out.size)⟩
  · have hsk : shortB [key, text] = false := by simpa using hsk
    have HSKT := Lib.hid hsk
    clear hsk
    go_enter Tryd.func8, Tryd.ntmps8
    go_upto_region 2 with (first | (go_at_call 12; refine (HLIVE.out w (Below.refl _ w)).mono ?_; rintro e w1 ⟨rfl, hB1⟩; have HB1 := Lib.hid hB1; have hsh := HSK.out w1 hB1; rw [HSKT.out] at hsh; have HSH := Lib.hid hsh; clear hB1 hsh) | (go_at_call 13; refine HSH.out.mono ?_; rintro e w2 ⟨rfl, hw2⟩; have hB2 : Below w.heap.size w w2 := (by rw [← hw2]; exact HB1.out.alloc HB1.out.size _); have HB2 := Lib.hid hB2; clear hB2 hw2))
    go_wp2_with (go_at_call 12; refine (HLIVE.out w2 HB2.out).mono ?_; rintro e w5 ⟨rfl, hB5⟩; have HB5 := Lib.hid (HB2.out.trans (below_lower hB5 HB2.out.size)); clear hB5)
    go_ret
    exact ⟨rfl, HB5.out⟩
end Go.Proofs.YtclndenmmhdokaaDoor
