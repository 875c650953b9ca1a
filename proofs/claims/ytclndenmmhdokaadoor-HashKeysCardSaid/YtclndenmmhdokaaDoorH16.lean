/- The document's Sum. -/
import Derived.Test.YtclndenmmhdokaaDoorH15
namespace Go.Proofs.YtclndenmmhdokaaDoor
open Go Go.RowKit Go.Proofs.YtclndenmmhdokaaDoorW.PrintWords Go.Proofs.YtclndenmmhdokaaDoorW.PrintMore Go.Proofs.YtclndenmmhdokaaDoorW.PrintLast Bq
set_option linter.unusedVariables false
set_option linter.unusedSimpArgs false
attribute [local go_sem ↓] Go.wp_at_zero Go.wp_at_succ
theorem join2R (w : World) (A B : Option Addr) (ca cb : Nat) (xs ys : List Int) (hA : (Kd.int .u8).C w A xs.length xs) (hB : (Kd.int .u8).C w B ys.length ys) (ha : xs.length ≤ ca) (hb : ys.length ≤ cb) (hs : xs.length + ys.length ≤ 1000000000000) :
    Calls Tryd.prog 17 #[.slice (some ⟨w.heap.size, 0, none⟩) 2 2] (w.alloc (.cells #[.slice A xs.length ca, .slice B ys.length cb] 28)) fun e w' => ∃ v, e = .returned v ∧ (Kd.int .u8).R 5 w' 0 (fun k => w.heap.size ≤ k) v (xs ++ ys) ∧ Below w.heap.size w w' := by
  have hC := lit2_C w 28 A B ca cb xs ys hA hB ha hb
  have h := join_calls _ _ 2 [xs, ys] hC (by rw [flat2, List.length_append]; exact hs)
  rw [flat2] at h
  refine h.mono ?_
  rintro e w' ⟨v, rfl, hR, hb'⟩
  have e1 : w.heap.size ≤ (w.alloc (.cells #[.slice A xs.length ca, .slice B ys.length cb] 28)).heap.size := by rw [World.size_alloc]; omega
  exact ⟨v, rfl, Kd.R_lower (Kd.R_mono hR (fun k hk => Nat.le_trans e1 hk)) (Nat.zero_le _), (below_alloc (Below.refl _ w) _).trans (below_lower hb' e1)⟩
/-- A state's words are words. -/
def Rng (v : Sha.V8) : Prop := ∀ i, i < 8 → 0 ≤ v.list.getD i 0 ∧ v.list.getD i 0 < 4294967296
theorem rng_H0 : Rng Sha.H0 := by unfold Rng; decide
theorem rng_block (v : Sha.V8) (xs : List Int) : Rng (Sha.block v xs) := fun i hi => by
  unfold Sha.block
  rw [sum8_get _ _ _ hi]
  omega
theorem rng_vAt (us : List Int) : ∀ j, Rng (Sha.vAt Sha.H0 us j)
  | 0 => rng_H0
  | j + 1 => rng_block _ _
theorem big8_quad (x : Int) (h0 : 0 ≤ x) (h1 : x < 4294967296) : (Sha.big8 x.toNat).drop 4 = Sha.quad x := by
  obtain ⟨n, rfl⟩ := Int.eq_ofNat_of_zero_le h0
  have e : (Sha.big8 n).drop 4 = [((n / 2 ^ 24 % 256 : Nat) : Int), ((n / 2 ^ 16 % 256 : Nat) : Int), ((n / 2 ^ 8 % 256 : Nat) : Int), ((n / 2 ^ 0 % 256 : Nat) : Int)] := rfl
  rw [Int.toNat_natCast, e]
  unfold Sha.quad
  simp
theorem digest_next (S : Sha.V8) (i : Nat) (h : i < 8) : (Sha.digest S).take (4 * i) ++ Sha.quad (S.list.getD i 0) = (Sha.digest S).take (4 * (i + 1)) := by
  rcases (by omega : i = 0 ∨ i = 1 ∨ i = 2 ∨ i = 3 ∨ i = 4 ∨ i = 5 ∨ i = 6 ∨ i = 7) with rfl | rfl | rfl | rfl | rfl | rfl | rfl | rfl <;> rfl

set_option maxRecDepth 20000 in
set_option maxHeartbeats 4000000 in
theorem rsum_calls (w : World) (A : Option Addr) (c : Nat) (t : List Int) (hC : (Kd.int .u8).C w A t.length t) (hc : t.length ≤ c) (hb : Byts t) (hl : t.length ≤ 1000000000) :
    Calls Tryd.prog 16 #[.slice A t.length c] w fun e w' => ∃ v, e = .returned v ∧ (Kd.int .u8).R 5 w' 0 (fun k => w.heap.size ≤ k) v (Sha.sum t) ∧ Below w.heap.size w w' := by
  have HC := Lib.hid hC
  have HB := Lib.hid hb
  obtain ⟨n, hn⟩ : ∃ n, n = t.length := ⟨_, rfl⟩
  obtain ⟨D, hD⟩ : ∃ D, D = Sha.sum t := ⟨_, rfl⟩
  rw [← hD]
  have HD := Lib.hid hD
  have HN := Lib.hid hn
  rw [← hn] at hc hl
  rw [← hn]
  have h128 : (Kd.int .u8).C (w.alloc (.cells #[.int .u8 128] 5)) (some ⟨w.heap.size, 0, none⟩) [(128 : Int)].length [128] := lit_C w 5 .u8 [128] (by decide)
  have hj1 := join2R (w.alloc (.cells #[.int .u8 128] 5)) A (some ⟨w.heap.size, 0, none⟩) c 1 t [128] (Kd.C_alloc hC _) h128 (by rw [← hn]; exact hc) (by decide) (by rw [← hn, List.length_singleton]; omega)
  rw [← hn, World.size_alloc, List.length_singleton] at hj1
  have HJ1 := Lib.hid hj1
  clear hC hb hD hn hj1 h128
  go_enter Tryd.func16, Tryd.ntmps16
  go_upto_region 2 with (go_at_call 17; refine HJ1.out.mono ?_; rintro e w3 ⟨v3, rfl, hR3, hB3⟩; have HR3 := Lib.hid hR3; have HB3 := Lib.hid hB3; clear hR3 hB3)
  obtain ⟨OK, hOK⟩ : ∃ OK : Nat → Prop, OK = fun k => w.heap.size ≤ k := ⟨_, rfl⟩
  have hok : ∀ k, OK k ↔ w.heap.size ≤ k := fun k => by rw [hOK]
  clear hOK
  have HOK := Lib.hid hok
  clear hok
  have r3 : (Kd.int .u8).R 5 w3 0 OK v3 (t ++ [128]) := Kd.R_mono HR3.out (fun k hk => (HOK.out k).2 (by omega))
  have b3 : Below w.heap.size w w3 := (below_alloc (Below.refl _ w) _).trans (below_lower HB3.out (Nat.le_succ _))
  have R3 := Lib.hid r3
  have B3 := Lib.hid b3
  clear r3 b3 HR3 HB3
  go_loopg [3] (Sha.zeros n) (fun kq s3 wr => ∃ (j : Nat) (ts : List Int), j + kq = Sha.zeros n ∧ Hid (ts.length = n + 1 + j) ∧ ts.length ≤ 1000000100 ∧ Hid (ts = t ++ 128 :: List.replicate j 0) ∧ Hid ((Kd.int .u8).R 5 wr 0 OK s3 ts) ∧ Hid (Below w.heap.size w wr))
  case atStart => exact ⟨0, t ++ [128], by omega, by rw [HN.out]; exact List.length_append, by rw [List.length_append, ← HN.out]; simp; omega, rfl, R3.out, B3.out⟩
  case round =>
    obtain ⟨j, ts, hj, hts, htl, hT1, hR1, hB1⟩ := hrel
    obtain ⟨A1, c1, hs3⟩ := Kd.R_slice hR1.out
    subst hs3
    have hz : Sha.zeros n < 64 := by unfold Sha.zeros; omega
    have hza := Sha.zeros_at n n j rfl (by omega)
    rw [← hts.out] at hza
    have hsz := hB1.out.size
    by_cases hlt : j < Sha.zeros n
    · have h1 : ¬ ts.length % 64 = 56 := by omega
      obtain ⟨r, hr⟩ : ∃ r : Int, (ts.length : Int) % 64 = r := ⟨_, rfl⟩
      have hr1 : ¬ r = 56 := by omega
      have HJ := Lib.hid hj
      have HLT := Lib.hid hlt
      clear h1 hza hz hlt hj
      go_wp2_with (at_builtin; refine Kd.R_append (Kd.int .u8) (w0 := wr) (W := wr) 0 rfl (.tmp 15) (.tmp 16) 28 5 (.int .u8 0) 1 rfl Tryd.underlying28 info_u8' rfl (by decide) (by decide) _ ts 0 [.int .u8 0] OK (fun _ => False) rfl rfl rfl (fun _ h => h.elim) (fun k hk => (HOK.out k).2 (by omega)) hR1.out (Below.refl _ _) (Nat.zero_le _) (by omega) ?_; intro v2 w2 hR2 _ hg2 _; have HR2 := Lib.hid hR2; have HG2 := Lib.hid hg2; clear hR2 hg2)
      go_roundg (gk - 1)
      case measure => have := HJ.out; have := HLT.out; omega
      case rel =>
        have hlt := HLT.out
        have hj := HJ.out
        have hz : Sha.zeros n < 64 := by unfold Sha.zeros; omega
        have hl2 : (ts ++ [(0 : Int)]).length = ts.length + 1 := List.length_append
        have ht2 := hts.out
        refine ⟨j + 1, ts ++ [0], by omega, by show (ts ++ [(0 : Int)]).length = _; omega, by omega, ?_, HR2.out, hB1.out.grown HG2.out hsz (fun k hk => (HOK.out k).1 (hR1.out.1 k hk))⟩
        show ts ++ [0] = t ++ 128 :: List.replicate (j + 1) 0
        rw [hT1.out, List.replicate_succ', List.append_assoc, List.cons_append]
    · have hjz : j = Sha.zeros n := by omega
      have h1 : ts.length % 64 = 56 := by omega
      have hr1 : (ts.length : Int) % 64 = 56 := by omega
      have HJ := Lib.hid hjz
      have hR1v := Kd.R_reads' hR1.out
      have HC1 := Lib.hid hR1v.2.2
      have hcap1 := hR1v.2.1
      clear h1 hza hz hlt hj hjz hR1v
      go_upto_region 4 with fail
      clear hr1
      have e1 : IntKind.u64.wrap (n : Int) = (n : Int) := IntWalk.u64_in _ (by omega)
      have e2 : IntKind.u64.wrap (8 * (n : Int)) = ((8 * n : Nat) : Int) := by rw [IntWalk.u64_in _ (by omega)]; omega
      obtain ⟨B, hB8⟩ : ∃ B, B = Sha.big8 (8 * n) := ⟨_, rfl⟩
      have hBl : B.length = 8 := by rw [hB8, Sha.big8_length]
      have hbig := big_calls wr (8 * n) (by omega)
      rw [← hB8] at hbig
      have HBIG := Lib.hid hbig
      have HB8 := Lib.hid hB8
      clear hbig hB8
      go_upto_region 5 with (first | (go_at_call 36; refine HBIG.out.mono ?_; rintro e w5 ⟨v5, rfl, hR5, hB5⟩; obtain ⟨A5, c5, hv5⟩ := Kd.R_slice hR5; subst hv5; rw [hBl]; have hr5 := Kd.R_reads' hR5; rw [hBl] at hr5; have hC5 := hr5.2.2; have HC5 := Lib.hid hr5.2.2; have hcap5 := hr5.2.1; have HB5 := Lib.hid hB5; have hs5 := hB5.size; have hj2 := join2R w5 A1 A5 c1 c5 ts B (Kd.C_below HC1.out hB5) (by rw [hBl]; exact hC5) hcap1 (by rw [hBl]; exact hcap5) (by rw [hBl]; omega); rw [hBl] at hj2; have HJ2 := Lib.hid hj2; clear hR5 hB5 hr5 hC5 hj2) | (go_at_call 17; refine HJ2.out.mono ?_; rintro e w6 ⟨v6, rfl, hR6, hB6⟩; have HR6 := Lib.hid hR6; have HB6 := Lib.hid hB6; clear hR6 hB6))
      have b6 : Below w.heap.size w w6 := (hB1.out.trans (below_lower HB5.out hsz)).trans (below_lower HB6.out (Nat.le_trans hsz hs5))
      obtain ⟨us, hus⟩ : ∃ us, us = ts ++ B := ⟨_, rfl⟩
      have hr6 := HR6.out
      rw [← hus] at hr6
      obtain ⟨A6, c6, hv6⟩ := Kd.R_slice hr6
      subst hv6
      have hUS : us = t ++ Sha.tail n := by
        rw [hus, hT1.out, HJ.out, HB8.out]
        simp [Sha.tail]
      have hUSl : us.length = n + Sha.zeros n + 9 := by rw [hUS, List.length_append, Sha.tail_length, ← HN.out]; omega
      have hz : Sha.zeros n < 64 := by unfold Sha.zeros; omega
      obtain ⟨J, hJ⟩ : ∃ J, us.length = 64 * J := by
        refine ⟨us.length / 64, ?_⟩
        unfold Sha.zeros at hUSl
        omega
      have hJ1 : us.length ≤ 64 * J := Nat.le_of_eq hJ
      have hJ2 : 64 * J ≤ us.length := Nat.le_of_eq hJ.symm
      clear hJ
      have hbu : Byts us := by
        rw [hUS]
        intro x hx
        rcases List.mem_append.1 hx with h | h
        · exact HB.out x h
        · exact Sha.byts_tail n x h
      have HBU := Lib.hid hbu
      have HUS := Lib.hid hUS
      have hus2 : us.length ≤ 1000000200 := by omega
      have b6s := b6.size
      obtain ⟨sb, hsb⟩ : ∃ sb, sb = w6.heap.size := ⟨_, rfl⟩
      have hsb2 : w.heap.size ≤ sb := by rw [hsb]; exact b6s
      have hV6 : Kd.V (Kd.int .u8) 5 w6 0 (fun k => k ≠ sb) (.slice A6 us.length c6) us := Kd.V_mono (Kd.V_bound (Kd.R_V (base' := 0) hr6)) (fun k hk => by have := hk.2; omega)
      have V6 := Lib.hid (Kd.V_alloc hV6 (.cells (nums .u32 Sha.H0.list).toArray 44))
      have B6 := Lib.hid (b6.alloc b6s (.cells (nums .u32 Sha.H0.list).toArray 44))
      have S6 : Hid (Blk (w6.alloc (.cells (nums .u32 Sha.H0.list).toArray 44)) sb .u32 44 Sha.H0.list) := Lib.hid (by rw [hsb]; exact blk_new w6 _)
      clear hUS hbu hus hr6 hV6 b6 hUSl hz hBl HR6 hR1 hT1 hcap1 hB1 hts htl
      go_wp2_with fail
      change Code.wp _ _ _ _ (w6.alloc (.cells (nums .u32 Sha.H0.list).toArray 44))
      rw [← hsb]
      clear hsb b6s
      generalize w6.alloc (.cells (nums .u32 Sha.H0.list).toArray 44) = w9 at V6 B6 S6 ⊢
      go_loopg [3] J (fun kq s3 wr => ∃ (j : Nat) (xs : List Int), j + kq = J ∧ xs.length = 64 * kq ∧ Hid (xs = us.drop (64 * j)) ∧ Hid (Kd.V (Kd.int .u8) 5 wr 0 (fun k => k ≠ sb) s3 xs) ∧ Hid (Blk wr sb .u32 44 (Sha.vAt Sha.H0 us j).list) ∧ Hid (Below w.heap.size w wr))
      case atStart => exact ⟨0, us, by omega, by omega, rfl, V6.out, S6.out, B6.out⟩
      case round =>
        obtain ⟨j, xs, hj, hxs, hX, hVx, hBk, hB3⟩ := hrel
        obtain ⟨A3, c3, hs4⟩ := Kd.V_slice hVx.out
        subst hs4
        by_cases hlt : 0 < gk
        · have hx0 : 0 < xs.length := by omega
          have hx64 : 64 ≤ xs.length := by omega
          obtain ⟨st, hst⟩ : ∃ st, st = Sha.vAt Sha.H0 us j := ⟨_, rfl⟩
          have hbk := hBk.out
          rw [← hst] at hbk
          have HST := Lib.hid hst
          clear hst
          have b1 := hbk.get 0 (by show 0 < 8; decide)
          have b2 := hbk.get 1 (by show 1 < 8; decide)
          have b3 := hbk.get 2 (by show 2 < 8; decide)
          have b4 := hbk.get 3 (by show 3 < 8; decide)
          have b5 := hbk.get 4 (by show 4 < 8; decide)
          have b6 := hbk.get 5 (by show 5 < 8; decide)
          have b7 := hbk.get 6 (by show 6 < 8; decide)
          have b8 := hbk.get 7 (by show 7 < 8; decide)
          simp only [Sha.V8.list, List.getD_cons_zero, List.getD_cons_succ] at b1 b2 b3 b4 b5 b6 b7 b8
          have HBK := Lib.hid hbk
          clear hbk
          have hc3 := (Kd.V_at hVx.out).2.1
          have hCX := Kd.C_take (m := 64) (Kd.F_now (Kd.V_at hVx.out).2.2) hx64
          have hl64 : (xs.take 64).length = 64 := by rw [List.length_take]; omega
          rw [hl64] at hCX
          have hBX : Byts (xs.take 64) := fun x hx => by
            have h := List.mem_of_mem_take hx
            rw [hX.out] at h
            exact HBU.out x (List.mem_of_mem_drop h)
          have hcall := rblock_calls wr.drew st A3 64 c3 (xs.take 64) (Kd.C_drew hCX) (Nat.le_refl _) (by omega) hBX
          obtain ⟨V, hV⟩ : ∃ V, V = Sha.block st (xs.take 64) := ⟨_, rfl⟩
          rw [← hV] at hcall
          unfold aggV at hcall
          have HCALL := Lib.hid hcall
          have HVV := Lib.hid hV
          clear hCX hBX hcall hV hl64
          have i1 : (64 : Int) ≤ (xs.length : Int) := by omega
          have i2 : (xs.length : Int) ≤ (c3 : Int) := by omega
          have i3 : (64 : Int) ≤ (c3 : Int) := by omega
          have HX := Lib.hid hxs
          clear hxs
          have HCUT : Hid (Kd.F (Kd.int .u8) wr (fun k => k ≠ sb) (if c3 = 64 then A3 else A3.map (fun x => ⟨x.block, x.off + 64, none⟩)) (xs.length - 64) (xs.drop 64)) := by
            have h := Kd.F_cut (Kd.V_at hVx.out).2.2 hx64 hc3
            have e : (fun x : Addr => x.add (64 * (Kd.int .u8).sz)) = fun x => ⟨x.block, x.off + 64, none⟩ := by
              funext x
              exact add_pos x 64 (by decide)
            rw [e, List.length_drop] at h
            exact h
          go_upto_region 7 with fail
          go_region_with (first | (go_at_call 37; refine HCALL.out.mono ?_; rintro e w7 ⟨rfl, hB7⟩; have hbk : Blk w7 sb .u32 44 st.list := (hB7.block sb (blk_lt HBK.out)).trans HBK.out; have y0 : w7.frozen? ⟨sb, 0, none⟩ = false := blk_frozen hbk 0; have x0 : w7.cell? ⟨sb, 0, none⟩ = some (.int .u32 st.a) := hbk.get 0 (by show 0 < 8; decide); have y1 : w7.frozen? ⟨sb, 1, none⟩ = false := blk_frozen hbk 1; have x1 : w7.cell? ⟨sb, 1, none⟩ = some (.int .u32 st.b) := hbk.get 1 (by show 1 < 8; decide); have y2 : w7.frozen? ⟨sb, 2, none⟩ = false := blk_frozen hbk 2; have x2 : w7.cell? ⟨sb, 2, none⟩ = some (.int .u32 st.c) := hbk.get 2 (by show 2 < 8; decide); have y3 : w7.frozen? ⟨sb, 3, none⟩ = false := blk_frozen hbk 3; have x3 : w7.cell? ⟨sb, 3, none⟩ = some (.int .u32 st.d) := hbk.get 3 (by show 3 < 8; decide); have y4 : w7.frozen? ⟨sb, 4, none⟩ = false := blk_frozen hbk 4; have x4 : w7.cell? ⟨sb, 4, none⟩ = some (.int .u32 st.e) := hbk.get 4 (by show 4 < 8; decide); have y5 : w7.frozen? ⟨sb, 5, none⟩ = false := blk_frozen hbk 5; have x5 : w7.cell? ⟨sb, 5, none⟩ = some (.int .u32 st.f) := hbk.get 5 (by show 5 < 8; decide); have y6 : w7.frozen? ⟨sb, 6, none⟩ = false := blk_frozen hbk 6; have x6 : w7.cell? ⟨sb, 6, none⟩ = some (.int .u32 st.g) := hbk.get 6 (by show 6 < 8; decide); have y7 : w7.frozen? ⟨sb, 7, none⟩ = false := blk_frozen hbk 7; have x7 : w7.cell? ⟨sb, 7, none⟩ = some (.int .u32 st.h) := hbk.get 7 (by show 7 < 8; decide); have HB7 := Lib.hid hB7; have HB5 := Lib.hid hbk; clear hB7 hbk))
          go_wp2_with fail
          all_goals
            go_roundg (gk - 1)
            case measure => omega
            case rel =>
              have hcut := HCUT.out
              first | rw [if_pos h] at hcut | rw [if_neg h] at hcut
              have hxs := HX.out
              have hld : (xs.drop 64).length = xs.length - 64 := List.length_drop
              refine ⟨j + 1, xs.drop 64, by omega, by rw [hld]; omega, ?_, ⟨_, c3 - 64, by first | (rw [hld]; done) | rw [hld, show c3 - 64 = 0 by omega], by rw [hld]; omega, ?_⟩, ?_, ?_⟩
              · show xs.drop 64 = us.drop (64 * (j + 1))
                rw [hX.out, List.drop_drop]
                rfl
              · rw [hld]
                exact Kd.F_step hcut (fun k hk hlt => (put8A_far (W := w7) (g := sb) (V := V) hk).trans (HB7.out.block k hlt))
              · have hv : V = Sha.vAt Sha.H0 us (j + 1) := by
                  rw [HVV.out, Sha.vAt, ← HST.out, ← hX.out]
                show Blk _ sb .u32 _ (Sha.vAt Sha.H0 us (j + 1)).list
                rw [← hv]
                exact put8A_blk HB5.out
              · have b7 : Below w.heap.size w w7 := (hB3.out.drew).trans (below_lower HB7.out hB3.out.size)
                exact ((((((((b7.setCell (p := ⟨sb, 0, none⟩) hsb2 _).setCell (p := ⟨sb, 1, none⟩) hsb2 _).setCell (p := ⟨sb, 2, none⟩) hsb2 _).setCell (p := ⟨sb, 3, none⟩) hsb2 _).setCell (p := ⟨sb, 4, none⟩) hsb2 _).setCell (p := ⟨sb, 5, none⟩) hsb2 _).setCell (p := ⟨sb, 6, none⟩) hsb2 _).setCell (p := ⟨sb, 7, none⟩) hsb2 _)
        · have hg0 : gk = 0 := by omega
          have hjJ : j = J := by omega
          have hx0 : xs.length = 0 := by omega
          obtain ⟨S, hS⟩ : ∃ S, S = Sha.vAt Sha.H0 us J := ⟨_, rfl⟩
          have hbk := hBk.out
          rw [hjJ, ← hS] at hbk
          have hrg : Rng S := by rw [hS]; exact rng_vAt us J
          have hSum : D = Sha.digest S := by
            have hUt : t ++ Sha.tail t.length = us := by rw [HUS.out, ← HN.out]
            rw [HD.out, Sha.sum, hUt, Sha.eatAll_vAt J Sha.H0 us (by omega) (by omega), hS]
          have HSUM := Lib.hid hSum
          have HBK := Lib.hid hbk
          have HRG := Lib.hid hrg
          have hBs := hB3.out.size
          have HE := Lib.hid (Kd.R_mono (R_empty (Kd.int .u8) 5 wr 0 (fun k => w.heap.size ≤ k ∧ k ≠ sb) (Nat.zero_le _) ⟨hBs, by have := hbk.lt; omega⟩) (fun k hk => hk))
          have BE := Lib.hid (hB3.out.alloc hBs (.cells #[] 5))
          have KE := Lib.hid (blk_alloc hbk (.cells #[] 5))
          clear hSum hbk hS hX hVx hBk hj hxs hlt hrg hB3
          go_upto_region 10 with fail
          generalize wr.alloc (.cells #[] 5) = w10 at HE BE KE ⊢
          go_wp2_with fail
          clear hx0
          have hDl : D.length = 32 := by rw [HSUM.out, Sha.digest_length]
          go_loopg [5, 37] 8 (fun kq s5 s37 wr => ∃ (i : Nat) (out : List Int), i + kq = 8 ∧ s37 = .int .i64 i ∧ out.length ≤ 4 * i ∧ Hid (out = D.take (4 * i)) ∧ Hid ((Kd.int .u8).R 5 wr 0 (fun k => w.heap.size ≤ k ∧ k ≠ sb) s5 out) ∧ Hid (Blk wr sb .u32 44 S.list) ∧ Hid (Below w.heap.size w wr))
          case atStart => exact ⟨0, [], by omega, rfl, by simp, by rw [Nat.mul_zero, List.take_zero]; rfl, HE.out, KE.out, BE.out⟩
          case round =>
            obtain ⟨i, out, hi, rfl, hol, hO, hRo, hSo, hBo⟩ := hrel
            obtain ⟨A4, c4, hs5⟩ := Kd.R_slice hRo.out
            subst hs5
            by_cases hlt : i < 8
            · obtain ⟨x, hx⟩ : ∃ x, x = S.list.getD i 0 := ⟨_, rfl⟩
              have hxr := HRG.out i hlt
              have cs := hSo.out.get i (by show i < 8; exact hlt)
              rw [← hx] at cs hxr
              obtain ⟨m, hm⟩ : ∃ m, m = x.toNat := ⟨_, rfl⟩
              have hxm : x = (m : Int) := by omega
              have HX := Lib.hid hx
              obtain ⟨Q8, hQ8⟩ : ∃ Q8, Q8 = Sha.big8 m := ⟨_, rfl⟩
              have hq8l : Q8.length = 8 := by rw [hQ8, Sha.big8_length]
              have hqd : Q8.drop 4 = Sha.quad x := by rw [hQ8, hm]; exact big8_quad x hxr.1 hxr.2
              have hbig := big_calls wr m (by omega)
              rw [← hQ8] at hbig
              have HBIG := Lib.hid hbig
              have HQD := Lib.hid hqd
              have HC4 := Lib.hid (Kd.R_reads' hRo.out).2.2
              have hcap4 := (Kd.R_reads' hRo.out).2.1
              have e0 : IntKind.u64.wrap x = x := IntWalk.u64_in _ (by omega)
              have li : (i : Int) < 8 := by omega
              rw [hxm] at cs e0
              have HM := Lib.hid hxm
              clear hx hm hxm hQ8 hqd hbig hxr
              have hdl : (Q8.drop 4).length = 4 := by rw [List.length_drop, hq8l]
              have HDL := Lib.hid hdl
              clear hdl
              have hbs := hBo.out.size
              have HFUN : Hid ((fun x : Addr => x.add (4 * (Kd.int .u8).sz)) = fun x => ⟨x.block, x.off + 4, none⟩) := Lib.hid (by
                funext x
                exact add_pos x 4 (by decide))
              go_wp2_with (first | (go_at_call 36; refine HBIG.out.mono ?_; rintro e w5 ⟨v5, rfl, hR5, hB5⟩; obtain ⟨A5, c5, hv5⟩ := Kd.R_slice hR5; subst hv5; rw [hq8l]; have hr5 := Kd.R_reads' hR5; rw [hq8l] at hr5; have hcap5 := hr5.2.1; have hC5 : (Kd.int .u8).C w5 A5 Q8.length Q8 := (by rw [hq8l]; exact hr5.2.2); have i4 : ¬ c5 = 4 := (by omega); have i5 : (4 : Int) ≤ (c5 : Int) := (by omega); have hD5 := Kd.C_drop (m := 4) (c := c5) hC5 (by omega) (by omega); rw [if_neg i4, HFUN.out] at hD5; have hj3 := join2R w5 A4 (A5.map (fun x => ⟨x.block, x.off + 4, none⟩)) c4 (c5 - 4) out (Q8.drop 4) (Kd.C_below HC4.out hB5) hD5 hcap4 (by rw [HDL.out]; omega) (by rw [HDL.out]; omega); rw [HDL.out] at hj3; have HJ3 := Lib.hid hj3; have HB5 := Lib.hid hB5; clear hR5 hB5 hr5 hC5 hD5 hj3) | (go_at_call 17; refine HJ3.out.mono ?_; rintro e w6 ⟨v6, rfl, hR6, hB6⟩; have HR6 := Lib.hid hR6; have HB6 := Lib.hid hB6; clear hR6 hB6))
              go_roundg (gk - 1)
              case measure => omega
              case rel =>
                have hs5 := HB5.out.size
                have hsl := hSo.out.lt
                refine ⟨i + 1, out ++ Q8.drop 4, by omega, by go_num, by rw [List.length_append, HDL.out]; omega, ?_, Kd.R_mono HR6.out (fun k hk => ⟨by omega, by omega⟩), (HB6.out.block _ (by omega)).trans ((HB5.out.block _ hsl).trans hSo.out), (hBo.out.trans (below_lower HB5.out hbs)).trans (below_lower HB6.out (Nat.le_trans hbs hs5))⟩
                show out ++ Q8.drop 4 = D.take (4 * (i + 1))
                rw [hO.out, HQD.out, HX.out, HSUM.out]
                exact digest_next S i hlt
            · have hi8 : i = 8 := by omega
              subst hi8
              have hout : out = D := by rw [hO.out, List.take_of_length_le (by omega)]
              have HOUT := Lib.hid hout
              have hrr := Kd.R_mono hRo.out (ok' := fun k => w.heap.size ≤ k) (fun k hk => hk.1)
              have HRR := Lib.hid hrr
              clear hout hrr hlt hi
              go_wp2_with fail
              go_ret
              have h := HRR.out
              rw [HOUT.out] at h
              rw [HOUT.out]
              exact ⟨_, rfl, h, hBo.out⟩
end Go.Proofs.YtclndenmmhdokaaDoor
