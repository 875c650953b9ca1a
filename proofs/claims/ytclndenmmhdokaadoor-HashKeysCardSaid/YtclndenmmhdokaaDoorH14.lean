/- The document's words: the walk. -/
import Derived.Test.YtclndenmmhdokaaDoorH13
namespace Go.Proofs.YtclndenmmhdokaaDoor
open Go Go.RowKit Go.Proofs.YtclndenmmhdokaaDoorW.PrintWords Go.Proofs.YtclndenmmhdokaaDoorW.PrintMore Go.Proofs.YtclndenmmhdokaaDoorW.PrintLast Bq
set_option linter.unusedVariables false
set_option linter.unusedSimpArgs false
attribute [local go_sem ↓] Go.wp_at_zero Go.wp_at_succ

theorem rrightZ_calls (x N : Int) (w : World) (hN : N ∈ ([7, 18, 17, 19, 6, 11, 25, 2, 13, 22] : List Int)) :
    Calls Tryd.prog 61 #[.int .u32 x, .int .u64 N] w fun e w' => e = .returned (.int .u32 (Sha.rot (-N) x)) ∧ w = w' := by
  have h : ∀ M ∈ ([7, 18, 17, 19, 6, 11, 25, 2, 13, 22] : List Int), 0 < M ∧ M < 32 := by decide
  obtain ⟨h0, h1⟩ := h N hN
  obtain ⟨n, rfl⟩ := Int.eq_ofNat_of_zero_le (show 0 ≤ N by omega)
  exact rright_calls x n w (by omega) (by omega)
/-- Two blocks of 64 words. -/
structure Wst (w wr : World) (L : List Int) : Prop where
  r : Blk wr w.heap.size .u32 77 (List.replicate 64 0)
  o : Blk wr (w.heap.size + 1) .u32 77 L
  b : Below w.heap.size w wr
theorem Wst.size {w wr : World} {L : List Int} (h : Wst w wr L) : w.heap.size + 2 ≤ wr.heap.size := blk_lt h.o
theorem Wst.drew {w wr : World} {L : List Int} (h : Wst w wr L) : Wst w wr.drew L := ⟨h.r, h.o, h.b.drew⟩
theorem Wst.below {w wr w1 : World} {L : List Int} (h : Wst w wr L) (hb : Below wr.heap.size wr w1) : Wst w w1 L :=
  ⟨(hb.block _ (blk_lt h.r)).trans h.r, (hb.block _ (blk_lt h.o)).trans h.o, h.b.trans (below_lower hb (by have := h.size; omega))⟩
theorem Wst.set {w wr : World} {L L' : List Int} (h : Wst w wr L) (i : Nat) (x : Int) (e : L.set i x = L') : Wst w (wr.setCell ⟨w.heap.size + 1, i, none⟩ (.int .u32 x)) L' :=
  ⟨Blk.other h.r (by omega), Blk.cast (Blk.put h.o i x) e, h.b.setCell (p := ⟨w.heap.size + 1, i, none⟩) (Nat.le_succ _) _⟩

set_option maxRecDepth 20000 in
set_option maxHeartbeats 4000000 in
theorem words_calls (w : World) (A : Option Addr) (m c : Nat) (xs : List Int) (hC : (Kd.int .u8).C w A m xs) (hm : 64 ≤ m) (hmc : m ≤ c) (hb : Byts xs) :
    Calls Tryd.prog 60 #[.slice A m c] w fun e w' => e = .returned (.agg (nums .u32 (Sha.sched (Sha.wordsOf xs) 48)).toArray) ∧ Below w.heap.size w w' := by
  have HC := Lib.hid hC
  have HB := Lib.hid hb
  have hmx : xs.length = m := hC.1
  obtain ⟨M, hM⟩ : ∃ M, M = Sha.wordsOf xs := ⟨_, rfl⟩
  have hMl : M.length = 16 := by rw [hM, Sha.wordsOf_length]
  rw [← hM]
  have HM := Lib.hid hM
  have HML := Lib.hid hMl
  clear hC hb hM hMl
  go_enter Tryd.func60, Tryd.ntmps60
  go_upto_region 2 with fail
  obtain ⟨w2, hw2⟩ : ∃ w2, w2 = ((w.alloc (.cells (nums .u32 (List.replicate 64 0)).toArray 77)).alloc (.cells (nums .u32 (List.replicate 64 0)).toArray 77)) := ⟨_, rfl⟩
  have k2 : Wst w w2 (wst M 0) := by
    rw [hw2]
    refine ⟨blk_alloc (blk_new w _) _, ?_, ((Below.refl _ w).alloc (Nat.le_refl _) _).alloc (by simp) _⟩
    have h := blk_new (w.alloc (.cells (nums .u32 (List.replicate 64 0)).toArray 77)) (.cells (nums .u32 (List.replicate 64 0)).toArray 77)
    rw [World.size_alloc] at h
    exact h
  change Code.wp _ _ _ _ ((w.alloc (.cells (nums .u32 (List.replicate 64 0)).toArray 77)).alloc (.cells (nums .u32 (List.replicate 64 0)).toArray 77))
  rw [← hw2]
  have K2 := Lib.hid k2
  clear hw2 k2
  go_wp2_with fail
  go_loopg [7] 64 (fun kq s7 wr => ∃ t : Nat, t + kq = 64 ∧ s7 = .int .i64 t ∧ Hid (Wst w wr (wst M t)))
  case atStart => exact ⟨0, by omega, rfl, K2.out⟩
  case round =>
    obtain ⟨t, ht, rfl, hK⟩ := hrel
    by_cases hlt : t < 64
    · by_cases h16 : t < 16
      · obtain ⟨ys, hys⟩ : ∃ ys, ys = (xs.take (4 * t + 4)).drop (4 * t) := ⟨_, rfl⟩
        have hysl : ys.length = 4 := by rw [hys, List.length_drop, List.length_take]; omega
        have hby : Byts ys := fun x hx => by
          rw [hys] at hx
          exact HB.out x (List.mem_of_mem_take (List.mem_of_mem_drop hx))
        have hCy : (Kd.int .u8).C wr (A.map (·.add (4 * t))) ys.length ys := by
          have hcx : (Kd.int .u8).C wr A xs.length xs := by rw [hmx]; exact Kd.C_below HC.out hK.out.b
          have h := Kd.C_mid (lo := 4 * t) (hi := 4 * t + 4) hcx (by omega) (by omega) (by rw [hmx]; exact hmc)
          have e1 : 4 * t * (Kd.int .u8).sz = 4 * t := Nat.mul_one _
          rw [if_neg (by omega), e1, ← hys] at h
          exact h
        have hOF := of_calls wr (A.map (·.add (4 * t))) (c - 4 * t) ys hCy hby (by omega)
        rw [hysl] at hOF
        obtain ⟨y, hy⟩ : ∃ y, y = Sha.word xs t := ⟨_, rfl⟩
        have hyb : y = (be ys : Nat) := by rw [hy, hys]; exact word_be xs HB.out t (by omega)
        have hyr : ((be ys : Nat) : Int) < 4294967296 := by
          have h4 : be ys < 2 ^ (8 * 4) := by
            rw [← bnum_bytes ys hby, hysl]
            have := bnum_lt (bitsOf ys (8 * 4))
            rw [bitsOf_length] at this
            exact this
          omega
        have e0 : IntKind.u32.wrap ((be ys : Nat) : Int) = y := by rw [IntKind.wrap_u32, hyb]; omega
        rw [← hyb] at hOF e0
        have HOF := Lib.hid hOF
        have HY := Lib.hid hy
        clear hOF hy hyb hyr hby hCy hys hysl
        have f0 : IntKind.i64.wrap (4 * (t : Int)) = 4 * (t : Int) := IntWalk.i64_in _ (by omega)
        have f1 : IntKind.i64.wrap (4 * (t : Int) + 4) = 4 * (t : Int) + 4 := IntWalk.i64_in _ (by omega)
        have g0 : (4 * (t : Int)).toNat = 4 * t := by omega
        have g1 : (4 * (t : Int) + 4).toNat = 4 * t + 4 := by omega
        have i0 : (0 : Int) ≤ 4 * (t : Int) := by omega
        have i1 : (0 : Int) ≤ 4 * (t : Int) + 4 := by omega
        have i2 : 4 * (t : Int) ≤ 4 * (t : Int) + 4 := by omega
        have i3 : 4 * (t : Int) + 4 ≤ (c : Int) := by omega
        have i4 : ¬ c = 4 * t := by omega
        have l0 : (t : Int) < 64 := by omega
        have l1 : (t : Int) < 16 := by omega
        go_upto_region 6 with fail
        have i5 : 4 * t + 4 - 4 * t = 4 := by omega
        go_wp2_with (go_at_call 63; refine HOF.out.mono ?_; rintro e w5 ⟨rfl, hB5⟩; have K5 := Lib.hid (hK.out.below hB5); clear hB5; have t0 := K5.out.o.get t (by rw [wst_length M HML.out]; exact hlt); have t1 := K5.out.o.free t)
        go_roundg (gk - 1)
        case measure => omega
        case rel =>
          refine ⟨t + 1, by omega, by go_num, K5.out.set t y ?_⟩
          have hyM : y = M.getD t 0 := by
            rw [HY.out, HM.out, List.getD_eq_getElem?_getD]
            unfold Sha.wordsOf
            rw [List.getElem?_map, List.getElem?_range h16]
            rfl
          rw [hyM, wst_low M HML.out t h16]
      · obtain ⟨L, hL⟩ : ∃ L, L = wst M t := ⟨_, rfl⟩
        have hLl : L.length = 64 := by rw [hL]; exact wst_length M HML.out t
        rw [← hL] at hK
        have HL := Lib.hid hL
        have HLL := Lib.hid hLl
        obtain ⟨q15, hq15⟩ : ∃ q, q = t - 15 := ⟨_, rfl⟩
        obtain ⟨q2, hq2⟩ : ∃ q, q = t - 2 := ⟨_, rfl⟩
        obtain ⟨q16, hq16⟩ : ∃ q, q = t - 16 := ⟨_, rfl⟩
        obtain ⟨q7, hq7⟩ : ∃ q, q = t - 7 := ⟨_, rfl⟩
        obtain ⟨y15, hy15⟩ : ∃ y, y = L.getD q15 0 := ⟨_, rfl⟩
        obtain ⟨y2, hy2⟩ : ∃ y, y = L.getD q2 0 := ⟨_, rfl⟩
        obtain ⟨y16, hy16⟩ : ∃ y, y = L.getD q16 0 := ⟨_, rfl⟩
        obtain ⟨y7, hy7⟩ : ∃ y, y = L.getD q7 0 := ⟨_, rfl⟩
        have HN : Hid (Sha.nxt L t = Sha.add (Sha.add (Sha.add y16 (Sha.x2 (Sha.x2 (Sha.rot (-7) y15) (Sha.rot (-18) y15)) (y15 / 8))) y7) (Sha.x2 (Sha.x2 (Sha.rot (-17) y2) (Sha.rot (-19) y2)) (y2 / 1024))) := by rw [hy15, hy2, hy16, hy7, hq16, hq7, hq15, hq2]; exact rfl
        have CC : Hid (∀ W L', L'.length = 64 → (∀ q, q < t → L'.getD q 0 = L.getD q 0) → Wst w W L' → W.cell? ⟨w.heap.size + 1, q15, none⟩ = some (.int .u32 y15) ∧ W.cell? ⟨w.heap.size + 1, q2, none⟩ = some (.int .u32 y2) ∧ W.cell? ⟨w.heap.size + 1, q16, none⟩ = some (.int .u32 y16) ∧ W.cell? ⟨w.heap.size + 1, q7, none⟩ = some (.int .u32 y7)) := Lib.hid (fun W L' hl he hW => by
          refine ⟨?_, ?_, ?_, ?_⟩
          · rw [hW.o.get q15 (by omega), he q15 (by omega), ← hy15]
          · rw [hW.o.get q2 (by omega), he q2 (by omega), ← hy2]
          · rw [hW.o.get q16 (by omega), he q16 (by omega), ← hy16]
          · rw [hW.o.get q7 (by omega), he q7 (by omega), ← hy7])
        have s15 : IntKind.i64.wrap ((t : Int) - 15) = (q15 : Int) := by rw [IntWalk.i64_in _ (by omega)]; omega
        have s2 : IntKind.i64.wrap ((t : Int) - 2) = (q2 : Int) := by rw [IntWalk.i64_in _ (by omega)]; omega
        have s16 : IntKind.i64.wrap ((t : Int) - 16) = (q16 : Int) := by rw [IntWalk.i64_in _ (by omega)]; omega
        have s7 : IntKind.i64.wrap ((t : Int) - 7) = (q7 : Int) := by rw [IntWalk.i64_in _ (by omega)]; omega
        have m15 : (q15 : Int) < 64 := by omega
        have m2 : (q2 : Int) < 64 := by omega
        have m16 : (q16 : Int) < 64 := by omega
        have m7 : (q7 : Int) < 64 := by omega
        have HQ : Hid (q16 ≠ t ∧ q7 ≠ t ∧ q15 ≠ t ∧ q2 ≠ t) := Lib.hid (by omega)
        have l0 : (t : Int) < 64 := by omega
        have l1 : ¬ (t : Int) < 16 := by omega
        have hw32 : ∀ x, IntKind.u32.wrap x = x % 4294967296 := IntKind.wrap_u32
        clear hy15 hy2 hy16 hy7 hq15 hq2 hq16 hq7 hL
        go_upto_region 7 with fail
        have KD := Lib.hid hK.out.drew
        have c15 := (CC.out _ L hLl (fun _ _ => rfl) KD.out).1
        go_region_held3 (fun W => W.cell? ⟨w.heap.size + 1, q15, none⟩ = some (.int .u32 y15)) (first | assumption) (first | (go_at_call 61; refine (rrightZ_calls _ _ _ (by decide)).mono ?_; rintro e w' ⟨rfl, rfl⟩))
        clear c15
        generalize wr.drew = w7 at KD ⊢
        go_upto_region 8 with fail
        have KE := Lib.hid KD.out.drew
        have c2 := (CC.out _ L hLl (fun _ _ => rfl) KE.out).2.1
        go_region_held3 (fun W => W.cell? ⟨w.heap.size + 1, q2, none⟩ = some (.int .u32 y2)) (first | assumption) (first | (go_at_call 61; refine (rrightZ_calls _ _ _ (by decide)).mono ?_; rintro e w' ⟨rfl, rfl⟩))
        clear c2
        generalize w7.drew = w8 at KE ⊢
        go_upto_region 9 with fail
        have KG := Lib.hid KE.out.drew
        have c16 := (CC.out _ L hLl (fun _ _ => rfl) KG.out).2.2
        have ct := KG.out.o.get t (by omega)
        have zt := KG.out.o.free t
        have HS9 : Hid (∀ v, ((w8.drew).setCell ⟨w.heap.size + 1, t, none⟩ v).cell? ⟨w.heap.size + 1, q16, none⟩ = some (.int .u32 y16) ∧ ((w8.drew).setCell ⟨w.heap.size + 1, t, none⟩ v).cell? ⟨w.heap.size + 1, q7, none⟩ = some (.int .u32 y7)) := Lib.hid (fun v =>
          ⟨(World.cell?_setCell_other _ _ _ _ (fun e => HQ.out.1 (by have h := congrArg Addr.off e; have h2 : t = q16 ∨ q16 = t := (by first | exact .inl h | exact .inr h); omega))).trans c16.1, (World.cell?_setCell_other _ _ _ _ (fun e => HQ.out.2.1 (by have h := congrArg Addr.off e; have h2 : t = q7 ∨ q7 = t := (by first | exact .inl h | exact .inr h); omega))).trans c16.2⟩)
        go_region_held3 (fun W => W.cell? ⟨w.heap.size + 1, q16, none⟩ = some (.int .u32 y16) ∧ W.cell? ⟨w.heap.size + 1, q7, none⟩ = some (.int .u32 y7)) (first | with_reducible assumption | exact HS9.out _) (fail)
        go_wp2_with fail
        go_roundg (gk - 1)
        case measure => omega
        case rel =>
          refine ⟨t + 1, by omega, by go_num, ?_⟩
          have hset : L.set t (Sha.nxt L t) = wst M (t + 1) := by rw [HL.out]; exact wst_high M t h16
          rw [HN.out] at hset
          refine KG.out.set t _ (Eq.trans ?_ hset)
          congr 1
          simp only [Sha.add, Sha.x2]
          omega
    · have ht64 : t = 64 := by omega
      subst ht64
      have hW : wst M 64 = Sha.sched M 48 := rfl
      have hK6 := hK.out
      rw [hW] at hK6
      obtain ⟨S, hS⟩ : ∃ S, S = Sha.sched M 48 := ⟨_, rfl⟩
      have hSl : S.length = 64 := by rw [hS]; exact Sha.sched_length M HML.out 48
      rw [← hS] at hK6
      have HK6 := Lib.hid hK6
      have HS := Lib.hid hS
      clear hK6 hS hW hlt ht
      go_upto_region 11 with fail
      have hl9 : (nums .u32 S).length = 64 := by rw [nums_length, hSl]
      have hfin : Hid (Blk (putA wr w.heap.size .u32 S) w.heap.size .u32 77 S) := Lib.hid (HK6.out.r.putA (by rw [hSl]; rfl))
      have hbel : Hid (Below w.heap.size w (putA wr w.heap.size .u32 S)) := Lib.hid (putA_below HK6.out.b (Nat.le_refl _))
      have hth : wr.there w.heap.size 0 (nums .u32 S).toArray.size := by
        have e : (nums .u32 S).toArray.size = 64 := by rw [List.size_toArray, hl9]
        rw [e]
        exact HK6.out.r.there
      have hsz9 : (Tryd.prog.info? 77).map (·.size) = some (nums .u32 S).toArray.size := by
        have e : (nums .u32 S).toArray.size = 64 := by rw [List.size_toArray, hl9]
        have e2 : (Tryd.prog.info? 77).map (·.size) = some 64 := by kernel_rfl
        rw [e]
        exact e2
      refine wp_region_lit ?_
      refine wpList_load_mid rfl _ _ rfl (w.heap.size + 1) 0 rfl (nums .u32 S) _ HK6.out.o.range Tryd.underlying77 rfl (by rw [hl9]; kernel_rfl) ?_
      refine wpList_store_mid rfl _ _ _ rfl w.heap.size 0 (nums .u32 S).toArray rfl rfl hth hsz9 (all_oneCell_toArray (nums_one .u32 S)) ?_
      rw [List.toList_toArray]
      change wpList _ _ _ _ _ (putA wr w.heap.size .u32 S)
      go_wp2_with fail
      refine bodyPost_ret (results_cell_row rfl _ _ w.heap.size 77 (nums .u32 S).toArray (0, 0) _ rfl hfin.out Tryd.underlying77 rfl hsz9) rfl ⟨?_, hbel.out⟩
      rw [HS.out]
end Go.Proofs.YtclndenmmhdokaaDoor
