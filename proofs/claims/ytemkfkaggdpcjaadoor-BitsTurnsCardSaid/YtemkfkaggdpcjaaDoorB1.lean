/- The Writer's closure: what one step of Put does to a Writer. -/
import Derived.Test.YtemkfkaggdpcjaaDoorK
import Derived.StillTailTactics
namespace Go.Proofs.YtemkfkaggdpcjaaDoor
open Go.RowKit Go.Proofs.YtemkfkaggdpcjaaDoorW.PrintWords Go.Proofs.YtemkfkaggdpcjaaDoorW.PrintMore Go.Proofs.YtemkfkaggdpcjaaDoorW.PrintLast
set_option linter.unusedVariables false
set_option linter.unusedSimpArgs false
attribute [local go_sem] max2_int min2_int max_two min_two
attribute [local go_sem ↓] Go.wp_at_zero Go.wp_at_succ
theorem info_u8 : (Tryd.prog.info? 5).map (fun i => (i.zero, i.size, i.bytes)) = some (some (.int .u8 0), 1, 1) := by kernel_rfl

/-- A Writer at block g: made, n bits, the bytes xs; its row lies in a block of ok. -/
structure WrB (w : World) (ok : Nat → Prop) (g : Nat) (n : Int) (v : Value) (xs : List Int) : Prop where
  blk : w.heap[g]? = some (.cells #[.bool true, .int .i64 n, v] 40 (0, 0))
  row : (Kd.int .u8).R 5 w 0 ok v xs
  okg : ok g

/-- The closure's variables. -/
structure PutSt (w0 w : World) (ok : Nat → Prop) (pw pd pn g : Nat) (N width n : Int) (xs : List Int) : Prop where
  bw : w.heap[pw]? = some (.cells #[.pointer (some ⟨g, 0, none⟩)] 29 (0, 0))
  bd : w.heap[pd]? = some (.cells #[.int .i64 width] 3 (0, 0))
  bn : w.heap[pn]? = some (.cells #[.int .u64 n] 22 (0, 0))
  wr : ∃ v, WrB w ok g N v xs
  mod : Mod (fun k => ok k ∨ k = pd) w0 w

/-- How many bits one step takes. -/
def kk (N width : Int) : Int := if width < 8 - N % 8 then width else 8 - N % 8
theorem kk_bd (N width : Int) (hN : 0 ≤ N) (hw : 0 < width) : 0 < kk N width ∧ kk N width ≤ 8 - N % 8 ∧ kk N width ≤ width := by
  unfold kk
  split <;> omega
def growB (N : Int) (xs : List Int) : List Int := if N % 8 = 0 then xs ++ [0] else xs

/-- The last byte behind a step. -/
def lastB (N width n k : Int) (ys : List Int) : Int :=
  bits .or .u8 (rdOf 0 ys ((ys.length : Int) - 1)) (IntKind.u64.wrap (bits .and .u64 (n / 2 ^ (width - k).toNat) (IntKind.u64.wrap (IntKind.u64.wrap (2 ^ k.toNat) - 1)) * 2 ^ min (8 - N % 8 - k).toNat 64) % 256)
theorem PutSt.drew {w0 w : World} {ok : Nat → Prop} {pw pd pn g : Nat} {N width n : Int} {xs : List Int} (h : PutSt w0 w ok pw pd pn g N width n xs) : PutSt w0 w.drew ok pw pd pn g N width n xs :=
  ⟨h.bw, h.bd, h.bn, let ⟨v, a, b, c⟩ := h.wr; ⟨v, a, Kd.R_drew b, c⟩, h.mod.drew⟩

theorem PutSt.appended {w0 w w1 : World} {ok : Nat → Prop} {pw pd pn g : Nat} {N width n : Int} {xs : List Int} {v v1 : Value}
    (bw : w.heap[pw]? = some (.cells #[.pointer (some ⟨g, 0, none⟩)] 29 (0, 0))) (bd : w.heap[pd]? = some (.cells #[.int .i64 width] 3 (0, 0))) (bn : w.heap[pn]? = some (.cells #[.int .u64 n] 22 (0, 0)))
    (hg : w.heap[g]? = some (.cells #[.bool true, .int .i64 N, v] 40 (0, 0))) (hR : (Kd.int .u8).R 5 w 0 ok v xs) (okg : ok g) (hm : Mod (fun k => ok k ∨ k = pd) w0 w)
    (hR1 : (Kd.int .u8).R 5 w1 0 ok v1 (xs ++ [0])) (hg1 : w.drew.grownBy w1 v.ownBlock) (h8 : N % 8 = 0) :
    PutSt w0 (w1.setCell ⟨g, 2, none⟩ v1) ok pw pd pn g N width n (growB N xs) := by
  have n1 : some g ≠ v.ownBlock := Kd.R_ne hR hg (by decide)
  have n2 : some pw ≠ v.ownBlock := Kd.R_ne hR bw (by decide)
  have n3 : some pd ≠ v.ownBlock := Kd.R_ne hR bd (by decide)
  have n4 : some pn ≠ v.ownBlock := Kd.R_ne hR bn (by decide)
  have b1 := blk_grown (blk_drew hg) hg1 n1
  have b2 := blk_grown (blk_drew bw) hg1 n2
  have b3 := blk_grown (blk_drew bd) hg1 n3
  have b4 := blk_grown (blk_drew bn) hg1 n4
  have e1 : pw ≠ g := blk_ne bw hg (by decide)
  have e2 : pd ≠ g := blk_ne bd hg (by decide)
  have e3 : pn ≠ g := blk_ne bn hg (by decide)
  refine ⟨blk_far b2 (p := ⟨g, 2, none⟩) e1 _, blk_far b3 (p := ⟨g, 2, none⟩) e2 _, blk_far b4 (p := ⟨g, 2, none⟩) e3 _, ⟨v1, blk_set b1 2 v1, ?_, okg⟩, ?_⟩
  · unfold growB
    rw [if_pos h8]
    exact Kd.R_set hR1 b1 (by decide) 2 v1
  · exact ((hm.drew).grown hg1 (fun k hk => .inl (.inl (hR.1 k hk)))).setCell (.inl (.inl okg)) _

theorem PutSt.stored {w0 w : World} {ok : Nat → Prop} {pw pd pn g : Nat} {N width n : Int} {xs : List Int} {gr cap : Nat}
    (bw : w.heap[pw]? = some (.cells #[.pointer (some ⟨g, 0, none⟩)] 29 (0, 0))) (bd : w.heap[pd]? = some (.cells #[.int .i64 width] 3 (0, 0))) (bn : w.heap[pn]? = some (.cells #[.int .u64 n] 22 (0, 0)))
    (hW : WrB w ok g N (.slice (some ⟨gr, 0, none⟩) xs.length cap) xs) (hm : Mod (fun k => ok k ∨ k = pd) w0 w) (i : Nat) (x M W2 : Int) :
    PutSt w0 (((w.setCell ⟨gr, i, none⟩ (.int .u8 x)).setCell ⟨g, 1, none⟩ (.int .i64 M)).setCell ⟨pd, 0, none⟩ (.int .i64 W2)) ok pw pd pn g M W2 n (xs.set i x) := by
  obtain ⟨hg, hR, okg⟩ := hW
  have okr : ok gr := hR.1 gr rfl
  have n1 : g ≠ gr := fun e => Kd.R_ne hR hg (by decide) (by rw [e]; rfl)
  have n2 : pw ≠ gr := fun e => Kd.R_ne hR bw (by decide) (by rw [e]; rfl)
  have n3 : pd ≠ gr := fun e => Kd.R_ne hR bd (by decide) (by rw [e]; rfl)
  have n4 : pn ≠ gr := fun e => Kd.R_ne hR bn (by decide) (by rw [e]; rfl)
  have e1 : pw ≠ g := blk_ne bw hg (by decide)
  have e2 : pd ≠ g := blk_ne bd hg (by decide)
  have e3 : pn ≠ g := blk_ne bn hg (by decide)
  have d1 : pw ≠ pd := blk_ne bw bd (by decide)
  have d3 : pn ≠ pd := blk_ne bn bd (by decide)
  have hp := (Kd.R_put hR (i : Int) x).1
  rw [Int.toNat_natCast] at hp
  have g0 := blk_far hg (p := ⟨gr, i, none⟩) n1 (.int .u8 x)
  have g1 := blk_set g0 1 (.int .i64 M)
  have g2 := blk_far (p := ⟨pd, 0, none⟩) g1 (Ne.symm e2) (.int .i64 W2)
  have p1 := blk_far (p := ⟨g, 1, none⟩) (blk_far bd (p := ⟨gr, i, none⟩) n3 (.int .u8 x)) e2 (.int .i64 M)
  refine ⟨?_, ?_, ?_, ⟨_, g2, ?_, okg⟩, ?_⟩
  · exact blk_far (p := ⟨pd, 0, none⟩) (blk_far (p := ⟨g, 1, none⟩) (blk_far bw (p := ⟨gr, i, none⟩) n2 _) e1 _) d1 _
  · exact blk_set p1 0 (.int .i64 W2)
  · exact blk_far (p := ⟨pd, 0, none⟩) (blk_far (p := ⟨g, 1, none⟩) (blk_far bn (p := ⟨gr, i, none⟩) n4 _) e3 _) d3 _
  · exact Kd.R_set (Kd.R_set hp g0 (by decide) 1 _) p1 (by decide) 0 _
  · exact ((hm.setCell (p := ⟨gr, i, none⟩) (.inl (.inl okr)) _).setCell (p := ⟨g, 1, none⟩) (.inl (.inl okg)) _).setCell (p := ⟨pd, 0, none⟩) (.inl (.inr rfl)) _

set_option maxHeartbeats 2000000 in
theorem put1_raw (w0 w : World) (ok : Nat → Prop) (pw pd pn g : Nat) (N width n : Int) (xs : List Int)
    (hst : PutSt w0 w ok pw pd pn g N width n xs) (hfr : ∀ k, w.heap.size ≤ k → ok k)
    (hN : 0 ≤ N) (hN2 : N ≤ 8388608) (hw1 : 0 < width) (hw2 : width ≤ 64) (hx : xs.length ≤ 1048577) (hx1 : 0 < (growB N xs).length) (hn0 : 0 ≤ n) (hn1 : n < 18446744073709551616) :
    Calls Tryd.prog 23 #[.pointer (some ⟨pw, 0, none⟩), .pointer (some ⟨pd, 0, none⟩), .pointer (some ⟨pn, 0, none⟩)] w fun e w' => e = .returned (.tuple #[]) ∧ PutSt w0 w' ok pw pd pn g (N + kk N width) (width - kk N width) n ((growB N xs).set ((growB N xs).length - 1) (lastB N width n (kk N width) (growB N xs))) := by
  have hx2 : (growB N xs).length ≤ 1048578 := by unfold growB; split; (· simp; omega); (· omega)
  obtain ⟨hk1, hk2, hk3⟩ := kk_bd N width hN hw1
  obtain ⟨k, hk⟩ : ∃ k, k = kk N width := ⟨_, rfl⟩
  rw [← hk] at hk1 hk2 hk3
  have HK := Lib.hid hk
  clear hk
  obtain ⟨ys, hys⟩ : ∃ ys, ys = growB N xs := ⟨_, rfl⟩
  rw [← hys] at hx1 hx2
  have HY := Lib.hid hys
  clear hys
  go_enter Tryd.func23, Tryd.ntmps23
  obtain ⟨hbw, hbd, hbn, ⟨v, hg, hR, okg⟩, hm⟩ := hst
  have c0 : w.cell? ⟨pw, 0, none⟩ = some (.pointer (some ⟨g, 0, none⟩)) := (blk_cell hbw 0).trans rfl
  have g1 : w.cell? ⟨g, 1, none⟩ = some (.int .i64 N) := (blk_cell hg 1).trans rfl
  have g2 : w.cell? ⟨g, 2, none⟩ = some v := (blk_cell hg 2).trans rfl
  have fg2 := blk_frozen hg 2
  have HR := Lib.hid hR
  have HM := Lib.hid hm
  clear hR hm
  have e3 : some g ≠ v.ownBlock := Kd.R_ne HR.out hg (by decide)
  have e4 : some pw ≠ v.ownBlock := Kd.R_ne HR.out hbw (by decide)
  go_upto_if 11 with fail
  go_cut [] (fun wx => PutSt w0 wx ok pw pd pn g N width n ys)
  case first =>
    go_wp2_with fail
    · have h8 : N % 8 = 0 := eq_of_beq ‹(N % 8 == 0) = true›
      have H8 := Lib.hid h8
      clear h8
      refine start_ (n := 10) (S := fun w' => w'.cell? ⟨pw, 0, none⟩ = some (.pointer (some ⟨g, 0, none⟩)) ∧ w'.cell? ⟨g, 2, none⟩ = some v) (ds := [9]) #[false, false, false, false, false, false, false, false, false, false] (by kernel_rfl) rfl rfl ⟨c0, g2⟩ (fun hHeld => ?_)
      refine take_ (i := 0) (N := some 12) (v := ?_) (a' := ?_) #[true, false, false, false, false, false, false, false, false, false] rfl rfl (by kernel_rfl) (fun _ _ _ h => h) (Or.inl ⟨by rfl, ?_⟩) hHeld ?_ ?_
      rotate_left
      · rintro w' ⟨s0, s1⟩
        go_simp
        with_reducible rfl
      rotate_left
      · simp only [Act.put, List.setIfInBounds_toArray, List.set_cons_zero, List.set_cons_succ, i64_w, i32_w]
        rfl
      refine take_ (i := 1) (N := some 13) (v := ?_) (a' := ?_) #[true, true, false, false, false, false, false, false, false, false] rfl rfl (by kernel_rfl) (fun _ _ _ h => h) (Or.inl ⟨by rfl, ?_⟩) hHeld ?_ ?_
      rotate_left
      · rintro w' ⟨s0, s1⟩
        go_simp
        with_reducible rfl
      rotate_left
      · simp only [Act.put, List.setIfInBounds_toArray, List.set_cons_zero, List.set_cons_succ, i64_w, i32_w]
        rfl
      refine pure_ (i := 2) (N := some 14) (v := ?_) (a' := ?_) #[true, true, true, false, false, false, false, false, false, false] rfl rfl (by kernel_rfl) (fun _ _ _ h => h) (Or.inl ⟨by rfl, ?_⟩) ?_ ?_
      rotate_left
      · intro w'
        go_simp
        with_reducible rfl
      rotate_left
      · simp only [Act.put, List.setIfInBounds_toArray, List.set_cons_zero, List.set_cons_succ, i64_w, i32_w]
        rfl
      refine pure_ (i := 3) (N := some 15) (v := ?_) (a' := ?_) #[true, true, true, true, false, false, false, false, false, false] rfl rfl (by kernel_rfl) (fun _ _ _ h => h) (Or.inl ⟨by rfl, ?_⟩) ?_ ?_
      rotate_left
      · intro w'
        go_simp
        with_reducible rfl
      rotate_left
      · simp only [Act.put, List.setIfInBounds_toArray, List.set_cons_zero, List.set_cons_succ, i64_w, i32_w]
        rfl
      refine take_ (i := 4) (N := some 16) (v := ?_) (a' := ?_) #[true, true, true, true, true, false, false, false, false, false] rfl rfl (by kernel_rfl) (fun _ _ _ h => h) (Or.inl ⟨by rfl, ?_⟩) hHeld ?_ ?_
      rotate_left
      · rintro w' ⟨s0, s1⟩
        go_simp
        with_reducible rfl
      rotate_left
      · simp only [Act.put, List.setIfInBounds_toArray, List.set_cons_zero, List.set_cons_succ, i64_w, i32_w]
        rfl
      refine one_ (i := 5) (N := some 17) #[true, true, true, true, true, true, false, false, false, false] rfl rfl (by kernel_rfl) (by decide) (fun K hK => ?_)
      refine value_ (w1 := ?_) (v := ?_) (by rfl) rfl ?_ ?_
      rotate_left 2
      · go_simp
        constructor
        · rfl
        · rfl
      refine hK.out _ _ ⟨(World.cell?_alloc_lt _ _ _ (blk_lt hbw)).trans c0, (World.cell?_alloc_lt _ _ _ (blk_lt hg)).trans g2⟩ (fun hHeld => ?_)
      clear hK K
      refine norm_ (a' := ?_) ?_ ?_
      rotate_left
      · show Act.put _ (some 17) _ = _
        simp only [Act.put, List.setIfInBounds_toArray, List.set_cons_zero, List.set_cons_succ, i64_w, i32_w]
        rfl
      refine one_ (i := 6) (N := some 18) #[true, true, true, true, true, true, true, false, false, false] rfl rfl (by kernel_rfl) (by decide) (fun K hK => ?_)
      refine Kd.R_append_step (Kd.int .u8) (w0 := w.drew) (W := w.drew) 0 (by rfl) (.tmp 16) (.tmp 17) 35 5 (.int .u8 0) 1 (by rfl) Tryd.underlying35 info_u8 rfl (by decide) (by decide) v xs 0 [.int .u8 0] ok (fun _ => False) (by rfl) (by rfl) rfl (fun _ h => h.elim) hfr (Kd.R_drew HR.out) (Below.refl _ _) (Nat.zero_le _) (by omega) ?_
      intro v1 w1 hR1 _ hg1 hat1
      obtain ⟨A1, k1, rfl⟩ := Kd.R_slice hR1
      have hgb := blk_grown (blk_drew hg) hg1 e3
      have hpb := blk_grown (blk_drew hbw) hg1 e4
      have k2 : w1.cell? ⟨g, 2, none⟩ = some v := (blk_cell hgb 2).trans rfl
      have kp : w1.cell? ⟨pw, 0, none⟩ = some (.pointer (some ⟨g, 0, none⟩)) := (blk_cell hpb 0).trans rfl
      have kf := blk_frozen hgb 2
      refine hK.out _ _ ⟨kp, k2⟩ (fun hHeld => ?_)
      clear hK K
      refine norm_ (a' := ?_) ?_ ?_
      rotate_left
      · show Act.put _ (some 18) _ = _
        simp only [Act.put, List.setIfInBounds_toArray, List.set_cons_zero, List.set_cons_succ, i64_w, i32_w]
        rfl
      refine pure_ (i := 7) (N := some 19) (v := ?_) (a' := ?_) #[true, true, true, true, true, true, true, true, false, false] rfl rfl (by kernel_rfl) (fun _ _ _ h => h) (Or.inl ⟨by rfl, ?_⟩) ?_ ?_
      rotate_left
      · intro w'
        go_simp
        with_reducible rfl
      rotate_left
      · simp only [Act.put, List.setIfInBounds_toArray, List.set_cons_zero, List.set_cons_succ, i64_w, i32_w]
        rfl
      refine pure_ (i := 8) (N := some 20) (v := ?_) (a' := ?_) #[true, true, true, true, true, true, true, true, true, false] rfl rfl (by kernel_rfl) (fun _ _ _ h => h) (Or.inl ⟨by rfl, ?_⟩) ?_ ?_
      rotate_left
      · intro w'
        go_simp
        with_reducible rfl
      rotate_left
      · simp only [Act.put, List.setIfInBounds_toArray, List.set_cons_zero, List.set_cons_succ, i64_w, i32_w]
        rfl
      refine last_ (i := 9) (N := none) #[true, true, true, true, true, true, true, true, true, true] rfl rfl (by kernel_rfl) (by decide) (fun K hK => ?_)
      refine skip_ (w1 := ?_) (by rfl) rfl ?_ ?_
      rotate_left
      · go_simp
        rfl
      refine hK.out _ _ ?_
      clear hK K
      refine done_ (by kernel_rfl) ?_
      go_wp2_with fail
      go_meet
      rw [List.length_append] at hR1
      rw [HY.out]
      exact PutSt.appended hbw hbd hbn hg HR.out okg HM.out hR1 hg1 H8.out
    · have h8 : ¬ N % 8 = 0 := ne_of_beq_false ‹(N % 8 == 0) = false›
      have H8 := Lib.hid h8
      clear h8
      go_meet
      refine ⟨hbw, hbd, hbn, ⟨v, hg, ?_, okg⟩, HM.out⟩
      rw [HY.out]
      unfold growB
      rw [if_neg H8.out]
      exact HR.out
  case rest =>
    clear c0 g1 g2 fg2 HR HM e3 e4 hbw hbd hbn hg
    obtain ⟨hbw, hbd, hbn, ⟨v, hW⟩, hm⟩ := hcut
    obtain ⟨gr, cap, rfl, _, _, _⟩ := Kd.R_form hW.row hx1
    have hg := hW.blk
    have c0 : wc.cell? ⟨pw, 0, none⟩ = some (.pointer (some ⟨g, 0, none⟩)) := (blk_cell hbw 0).trans rfl
    have c1 : wc.cell? ⟨pd, 0, none⟩ = some (.int .i64 width) := (blk_cell hbd 0).trans rfl
    have c2 : wc.cell? ⟨pn, 0, none⟩ = some (.int .u64 n) := (blk_cell hbn 0).trans rfl
    have g1 : wc.cell? ⟨g, 1, none⟩ = some (.int .i64 N) := (blk_cell hg 1).trans rfl
    have g2 : wc.cell? ⟨g, 2, none⟩ = some (.slice (some ⟨gr, 0, none⟩) ys.length cap) := (blk_cell hg 2).trans rfl
    have r1 := own_at_of (d := 0) (Kd.own_of_R hW.row) (i := (ys.length : Int) - 1) (by omega) (by omega)
    have f1 := blk_frozen hbd 0
    have fg1 := blk_frozen hg 1
    have q1 : g ≠ gr := fun e => Kd.R_ne hW.row hg (by decide) (by rw [e]; rfl)
    have q2 : pw ≠ gr := fun e => Kd.R_ne hW.row hbw (by decide) (by rw [e]; rfl)
    have q3 : pd ≠ gr := fun e => Kd.R_ne hW.row hbd (by decide) (by rw [e]; rfl)
    have q4 : pw ≠ g := blk_ne hbw hg (by decide)
    have q5 : pd ≠ g := blk_ne hbd hg (by decide)
    have q6 : pw ≠ pd := blk_ne hbw hbd (by decide)
    have q1' := Ne.symm q1
    have q2' := Ne.symm q2
    have q3' := Ne.symm q3
    have q4' := Ne.symm q4
    have q5' := Ne.symm q5
    have q6' := Ne.symm q6
    go_upto_region 3 with fail
    go_cut [4] (fun s4 wx => s4 = .int .i64 k ∧ wx = wc)
    case first =>
      go_wp2_with fail
      all_goals go_meet
      · exact ⟨by rw [HK.out]; unfold kk; rw [if_pos (by assumption)], rfl⟩
      · exact ⟨by rw [HK.out]; unfold kk; rw [if_neg (by omega)], rfl⟩
    case rest =>
      obtain ⟨rfl, rfl⟩ := hcut
      go_wp2_with fail
      have hl1 : (0 : Int) ≤ (ys.length : Int) - 1 := by omega
      have hl0 : (1 : Int) ≤ (ys.length : Int) := by omega
      have hl2 : (ys.length : Int) - 1 < (ys.length : Int) := by omega
      have hl3 : ((ys.length : Int) - 1).toNat = ys.length - 1 := by omega
      have hl4 : IntKind.i64.wrap ((ys.length : Int) - 1) = (ys.length : Int) - 1 := IntWalk.i64_in _ (by omega)
      have hl5 : IntKind.i64.wrap (8 - N % 8 - k) = 8 - N % 8 - k := IntWalk.i64_in _ (by omega)
      rw [hl3] at r1
      obtain ⟨r1, r2⟩ := r1
      go_still_tail 20, (by kernel_rfl)
      change wpList _ _ _ _ _ wc.drew
      go_wp2_with fail
      go_end0
      refine ⟨rfl, ?_⟩
      have h := (PutSt.stored hbw hbd hbn hW hm (ys.length - 1) (lastB N width n k ys) (N + k) (width - k)).drew
      rw [← HK.out, ← HY.out]
      exact h
end Go.Proofs.YtemkfkaggdpcjaaDoor
