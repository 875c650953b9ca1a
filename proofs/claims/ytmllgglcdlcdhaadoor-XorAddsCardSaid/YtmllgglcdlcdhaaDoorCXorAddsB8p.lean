import Derived.Test.YtmllgglcdlcdhaaDoorCXorAddsQ
import Derived.StillTailTactics
import Derived.Deep.LoopGhost
import Derived.Deep.DeepCutAuto
import Derived.Test.YtmllgglcdlcdhaaDoorCXorAddsHC
namespace Go.Proofs.YtmllgglcdlcdhaaDoor.Bq
end Go.Proofs.YtmllgglcdlcdhaaDoor.Bq
section
namespace Go.Proofs.YtmllgglcdlcdhaaDoor
open Go.RowKit Go.Proofs.YtmllgglcdlcdhaaDoorW.PrintWords Go.Proofs.YtmllgglcdlcdhaaDoorW.PrintMore Go.Proofs.YtmllgglcdlcdhaaDoorW.PrintLast
set_option linter.unusedVariables false
set_option maxRecDepth 100000
set_option linter.unusedSimpArgs false
attribute [local go_sem] max2_int min2_int max_two min_two
attribute [local go_sem ↓] Go.wp_at_zero Go.wp_at_succ
theorem info_u8 : (Tryd.prog.info? 5).map (fun i => (i.zero, i.size, i.bytes)) = some (some (.int .u8 0), 1, 1) := by kernel_rfl
structure WrB (w : World) (ok : Nat → Prop) (g : Nat) (n : Int) (v : Value) (xs : List Int) : Prop where
  blk : w.heap[g]? = some (.cells #[.bool true, .int .i64 n, v] 107 (0, 0))
  row : (Kd.int .u8).R 5 w 0 ok v xs
  okg : ok g
structure PutSt (w0 w : World) (ok : Nat → Prop) (pw pd pn g : Nat) (N width n : Int) (xs : List Int) : Prop where
  bw : w.heap[pw]? = some (.cells #[.pointer (some ⟨g, 0, none⟩)] 85 (0, 0))
  bd : w.heap[pd]? = some (.cells #[.int .i64 width] 3 (0, 0))
  bn : w.heap[pn]? = some (.cells #[.int .u64 n] 37 (0, 0))
  wr : ∃ v, WrB w ok g N v xs
  mod : Mod (fun k => ok k ∨ k = pd) w0 w
def kk (N width : Int) : Int := if width < 8 - N % 8 then width else 8 - N % 8
theorem kk_bd (N width : Int) (hN : 0 ≤ N) (hw : 0 < width) : 0 < kk N width ∧ kk N width ≤ 8 - N % 8 ∧ kk N width ≤ width := by
  unfold kk
  split <;> omega
def growB (N : Int) (xs : List Int) : List Int := if N % 8 = 0 then xs ++ [0] else xs
def lastB (N width n k : Int) (ys : List Int) : Int :=
  bits .or .u8 (rdOf 0 ys ((ys.length : Int) - 1)) (IntKind.u64.wrap (bits .and .u64 (n / 2 ^ (width - k).toNat) (IntKind.u64.wrap (IntKind.u64.wrap (2 ^ k.toNat) - 1)) * 2 ^ min (8 - N % 8 - k).toNat 64) % 256)
theorem PutSt.drew {w0 w : World} {ok : Nat → Prop} {pw pd pn g : Nat} {N width n : Int} {xs : List Int} (h : PutSt w0 w ok pw pd pn g N width n xs) : PutSt w0 w.drew ok pw pd pn g N width n xs :=
  ⟨h.bw, h.bd, h.bn, let ⟨v, a, b, c⟩ := h.wr; ⟨v, a, Kd.R_drew b, c⟩, h.mod.drew⟩
theorem PutSt.appended {w0 w w1 : World} {ok : Nat → Prop} {pw pd pn g : Nat} {N width n : Int} {xs : List Int} {v v1 : Value}
    (bw : w.heap[pw]? = some (.cells #[.pointer (some ⟨g, 0, none⟩)] 85 (0, 0))) (bd : w.heap[pd]? = some (.cells #[.int .i64 width] 3 (0, 0))) (bn : w.heap[pn]? = some (.cells #[.int .u64 n] 37 (0, 0)))
    (hg : w.heap[g]? = some (.cells #[.bool true, .int .i64 N, v] 107 (0, 0))) (hR : (Kd.int .u8).R 5 w 0 ok v xs) (okg : ok g) (hm : Mod (fun k => ok k ∨ k = pd) w0 w)
    (hR1 : (Kd.int .u8).R 5 w1 0 ok v1 (xs ++ [0])) (hg1 : w.drew.grownBy w1 v.ownBlock) (h8 : N % 8 = 0) :
    PutSt w0 (w1.setCell ⟨g, 2, none⟩ v1) ok pw pd pn g N width n (growB N xs) := by
  have n1 : some g ≠ v.ownBlock := Kd.R_ne hR hg (by decide)
  have n2 : some pw ≠ v.ownBlock := Kd.R_ne hR bw (by decide)
  have n3 : some pd ≠ v.ownBlock := Kd.R_ne hR bd (by decide)
  have n4 : some pn ≠ v.ownBlock := Kd.R_ne hR bn (by decide)
  have b1 := blk_grown (blk_drew hg) hg1 n1
  have b2 := blk_grown (blk_drew bw) hg1 n2
  have b3 := blk_grown (blk_drew bd) hg1 n3
  have b4 := blk_grown (blk_drew bn) hg1 n4
  have e1 : pw ≠ g := blk_ne bw hg (by decide)
  have e2 : pd ≠ g := blk_ne bd hg (by decide)
  have e3 : pn ≠ g := blk_ne bn hg (by decide)
  refine ⟨blk_far b2 (p := ⟨g, 2, none⟩) e1 _, blk_far b3 (p := ⟨g, 2, none⟩) e2 _, blk_far b4 (p := ⟨g, 2, none⟩) e3 _, ⟨v1, blk_set b1 2 v1, ?_, okg⟩, ?_⟩
  · unfold growB
    rw [if_pos h8]
    exact Kd.R_set hR1 b1 (by decide) 2 v1
  · exact ((hm.drew).grown hg1 (fun k hk => .inl (.inl (hR.1 k hk)))).setCell (.inl (.inl okg)) _
theorem PutSt.stored {w0 w : World} {ok : Nat → Prop} {pw pd pn g : Nat} {N width n : Int} {xs : List Int} {gr cap : Nat}
    (bw : w.heap[pw]? = some (.cells #[.pointer (some ⟨g, 0, none⟩)] 85 (0, 0))) (bd : w.heap[pd]? = some (.cells #[.int .i64 width] 3 (0, 0))) (bn : w.heap[pn]? = some (.cells #[.int .u64 n] 37 (0, 0)))
    (hW : WrB w ok g N (.slice (some ⟨gr, 0, none⟩) xs.length cap) xs) (hm : Mod (fun k => ok k ∨ k = pd) w0 w) (i : Nat) (x M W2 : Int) :
    PutSt w0 (((w.setCell ⟨gr, i, none⟩ (.int .u8 x)).setCell ⟨g, 1, none⟩ (.int .i64 M)).setCell ⟨pd, 0, none⟩ (.int .i64 W2)) ok pw pd pn g M W2 n (xs.set i x) := by
  obtain ⟨hg, hR, okg⟩ := hW
  have okr : ok gr := hR.1 gr rfl
  have n1 : g ≠ gr := fun e => Kd.R_ne hR hg (by decide) (by rw [e]; rfl)
  have n2 : pw ≠ gr := fun e => Kd.R_ne hR bw (by decide) (by rw [e]; rfl)
  have n3 : pd ≠ gr := fun e => Kd.R_ne hR bd (by decide) (by rw [e]; rfl)
  have n4 : pn ≠ gr := fun e => Kd.R_ne hR bn (by decide) (by rw [e]; rfl)
  have e1 : pw ≠ g := blk_ne bw hg (by decide)
  have e2 : pd ≠ g := blk_ne bd hg (by decide)
  have e3 : pn ≠ g := blk_ne bn hg (by decide)
  have d1 : pw ≠ pd := blk_ne bw bd (by decide)
  have d3 : pn ≠ pd := blk_ne bn bd (by decide)
  have hp := (Kd.R_put hR (i : Int) x).1
  rw [Int.toNat_natCast] at hp
  have g0 := blk_far hg (p := ⟨gr, i, none⟩) n1 (.int .u8 x)
  have g1 := blk_set g0 1 (.int .i64 M)
  have g2 := blk_far (p := ⟨pd, 0, none⟩) g1 (Ne.symm e2) (.int .i64 W2)
  have p1 := blk_far (p := ⟨g, 1, none⟩) (blk_far bd (p := ⟨gr, i, none⟩) n3 (.int .u8 x)) e2 (.int .i64 M)
  refine ⟨?_, ?_, ?_, ⟨_, g2, ?_, okg⟩, ?_⟩
  · exact blk_far (p := ⟨pd, 0, none⟩) (blk_far (p := ⟨g, 1, none⟩) (blk_far bw (p := ⟨gr, i, none⟩) n2 _) e1 _) d1 _
  · exact blk_set p1 0 (.int .i64 W2)
  · exact blk_far (p := ⟨pd, 0, none⟩) (blk_far (p := ⟨g, 1, none⟩) (blk_far bn (p := ⟨gr, i, none⟩) n4 _) e3 _) d3 _
  · exact Kd.R_set (Kd.R_set hp g0 (by decide) 1 _) p1 (by decide) 0 _
  · exact ((hm.setCell (p := ⟨gr, i, none⟩) (.inl (.inl okr)) _).setCell (p := ⟨g, 1, none⟩) (.inl (.inl okg)) _).setCell (p := ⟨pd, 0, none⟩) (.inl (.inr rfl)) _
set_option maxHeartbeats 2000000 in
theorem put1_raw (w0 w : World) (ok : Nat → Prop) (pw pd pn g : Nat) (N width n : Int) (xs : List Int)
    (hst : PutSt w0 w ok pw pd pn g N width n xs) (hfr : ∀ k, w.heap.size ≤ k → ok k)
    (hN : 0 ≤ N) (hN2 : N ≤ 8388608) (hw1 : 0 < width) (hw2 : width ≤ 64) (hx : xs.length ≤ 1048577) (hx1 : 0 < (growB N xs).length) (hn0 : 0 ≤ n) (hn1 : n < 18446744073709551616) :
    Calls Tryd.prog 61 #[.pointer (some ⟨pw, 0, none⟩), .pointer (some ⟨pd, 0, none⟩), .pointer (some ⟨pn, 0, none⟩)] w fun e w' => e = .returned (.tuple #[]) ∧ PutSt w0 w' ok pw pd pn g (N + kk N width) (width - kk N width) n ((growB N xs).set ((growB N xs).length - 1) (lastB N width n (kk N width) (growB N xs))) := by
  have hx2 : (growB N xs).length ≤ 1048578 := by unfold growB; split; (· simp; omega); (· omega)
  obtain ⟨hk1, hk2, hk3⟩ := kk_bd N width hN hw1
  obtain ⟨k, hk⟩ : ∃ k, k = kk N width := ⟨_, rfl⟩
  rw [← hk] at hk1 hk2 hk3
  have HK := Lib.hid hk
  clear hk
  obtain ⟨ys, hys⟩ : ∃ ys, ys = growB N xs := ⟨_, rfl⟩
  rw [← hys] at hx1 hx2
  have HY := Lib.hid hys
  clear hys
  go_enter Tryd.func61, Tryd.ntmps61
  obtain ⟨hbw, hbd, hbn, ⟨v, hg, hR, okg⟩, hm⟩ := hst
  have c0 : w.cell? ⟨pw, 0, none⟩ = some (.pointer (some ⟨g, 0, none⟩)) := (blk_cell hbw 0).trans rfl
  have g1 : w.cell? ⟨g, 1, none⟩ = some (.int .i64 N) := (blk_cell hg 1).trans rfl
  have g2 : w.cell? ⟨g, 2, none⟩ = some v := (blk_cell hg 2).trans rfl
  have fg2 := blk_frozen hg 2
  have HR := Lib.hid hR
  have HM := Lib.hid hm
  clear hR hm
  have e3 : some g ≠ v.ownBlock := Kd.R_ne HR.out hg (by decide)
  have e4 : some pw ≠ v.ownBlock := Kd.R_ne HR.out hbw (by decide)
  go_upto_if 11 with fail
  go_cut [] (fun wx => PutSt w0 wx ok pw pd pn g N width n ys)
  case first =>
    go_wp2_with fail
    · have h8 : N % 8 = 0 := eq_of_beq ‹(N % 8 == 0) = true›
      have H8 := Lib.hid h8
      clear h8
      refine start_ (n := 10) (S := fun w' => w'.cell? ⟨pw, 0, none⟩ = some (.pointer (some ⟨g, 0, none⟩)) ∧ w'.cell? ⟨g, 2, none⟩ = some v) (ds := [9]) #[false, false, false, false, false, false, false, false, false, false] (by kernel_rfl) rfl rfl ⟨c0, g2⟩ (fun hHeld => ?_)
      refine take_ (i := 0) (N := some 12) (v := ?_) (a' := ?_) #[true, false, false, false, false, false, false, false, false, false] rfl rfl (by kernel_rfl) (fun _ _ _ h => h) (Or.inl ⟨by rfl, ?_⟩) hHeld ?_ ?_
      rotate_left
      · rintro w' ⟨s0, s1⟩
        go_simp
        with_reducible rfl
      rotate_left
      · simp only [Act.put, List.setIfInBounds_toArray, List.set_cons_zero, List.set_cons_succ, i64_w, i32_w]
        rfl
      refine take_ (i := 1) (N := some 13) (v := ?_) (a' := ?_) #[true, true, false, false, false, false, false, false, false, false] rfl rfl (by kernel_rfl) (fun _ _ _ h => h) (Or.inl ⟨by rfl, ?_⟩) hHeld ?_ ?_
      rotate_left
      · rintro w' ⟨s0, s1⟩
        go_simp
        with_reducible rfl
      rotate_left
      · simp only [Act.put, List.setIfInBounds_toArray, List.set_cons_zero, List.set_cons_succ, i64_w, i32_w]
        rfl
      refine pure_ (i := 2) (N := some 14) (v := ?_) (a' := ?_) #[true, true, true, false, false, false, false, false, false, false] rfl rfl (by kernel_rfl) (fun _ _ _ h => h) (Or.inl ⟨by rfl, ?_⟩) ?_ ?_
      rotate_left
      · intro w'
        go_simp
        with_reducible rfl
      rotate_left
      · simp only [Act.put, List.setIfInBounds_toArray, List.set_cons_zero, List.set_cons_succ, i64_w, i32_w]
        rfl
      refine pure_ (i := 3) (N := some 15) (v := ?_) (a' := ?_) #[true, true, true, true, false, false, false, false, false, false] rfl rfl (by kernel_rfl) (fun _ _ _ h => h) (Or.inl ⟨by rfl, ?_⟩) ?_ ?_
      rotate_left
      · intro w'
        go_simp
        with_reducible rfl
      rotate_left
      · simp only [Act.put, List.setIfInBounds_toArray, List.set_cons_zero, List.set_cons_succ, i64_w, i32_w]
        rfl
      refine take_ (i := 4) (N := some 16) (v := ?_) (a' := ?_) #[true, true, true, true, true, false, false, false, false, false] rfl rfl (by kernel_rfl) (fun _ _ _ h => h) (Or.inl ⟨by rfl, ?_⟩) hHeld ?_ ?_
      rotate_left
      · rintro w' ⟨s0, s1⟩
        go_simp
        with_reducible rfl
      rotate_left
      · simp only [Act.put, List.setIfInBounds_toArray, List.set_cons_zero, List.set_cons_succ, i64_w, i32_w]
        rfl
      refine one_ (i := 5) (N := some 17) #[true, true, true, true, true, true, false, false, false, false] rfl rfl (by kernel_rfl) (by decide) (fun K hK => ?_)
      refine value_ (w1 := ?_) (v := ?_) (by rfl) rfl ?_ ?_
      rotate_left 2
      · go_simp
        constructor
        · rfl
        · rfl
      refine hK.out _ _ ⟨(World.cell?_alloc_lt _ _ _ (blk_lt hbw)).trans c0, (World.cell?_alloc_lt _ _ _ (blk_lt hg)).trans g2⟩ (fun hHeld => ?_)
      clear hK K
      refine norm_ (a' := ?_) ?_ ?_
      rotate_left
      · show Act.put _ (some 17) _ = _
        simp only [Act.put, List.setIfInBounds_toArray, List.set_cons_zero, List.set_cons_succ, i64_w, i32_w]
        rfl
      refine one_ (i := 6) (N := some 18) #[true, true, true, true, true, true, true, false, false, false] rfl rfl (by kernel_rfl) (by decide) (fun K hK => ?_)
      refine Kd.R_append_step (Kd.int .u8) (w0 := w.drew) (W := w.drew) 0 (by rfl) (.tmp 16) (.tmp 17) 24 5 (.int .u8 0) 1 (by rfl) Tryd.underlying24 info_u8 rfl (by decide) (by decide) v xs 0 [.int .u8 0] ok (fun _ => False) (by rfl) (by rfl) rfl (fun _ h => h.elim) hfr (Kd.R_drew HR.out) (Below.refl _ _) (Nat.zero_le _) (by omega) ?_
      intro v1 w1 hR1 _ hg1 hat1
      obtain ⟨A1, k1, rfl⟩ := Kd.R_slice hR1
      have hgb := blk_grown (blk_drew hg) hg1 e3
      have hpb := blk_grown (blk_drew hbw) hg1 e4
      have k2 : w1.cell? ⟨g, 2, none⟩ = some v := (blk_cell hgb 2).trans rfl
      have kp : w1.cell? ⟨pw, 0, none⟩ = some (.pointer (some ⟨g, 0, none⟩)) := (blk_cell hpb 0).trans rfl
      have kf := blk_frozen hgb 2
      refine hK.out _ _ ⟨kp, k2⟩ (fun hHeld => ?_)
      clear hK K
      refine norm_ (a' := ?_) ?_ ?_
      rotate_left
      · show Act.put _ (some 18) _ = _
        simp only [Act.put, List.setIfInBounds_toArray, List.set_cons_zero, List.set_cons_succ, i64_w, i32_w]
        rfl
      refine pure_ (i := 7) (N := some 19) (v := ?_) (a' := ?_) #[true, true, true, true, true, true, true, true, false, false] rfl rfl (by kernel_rfl) (fun _ _ _ h => h) (Or.inl ⟨by rfl, ?_⟩) ?_ ?_
      rotate_left
      · intro w'
        go_simp
        with_reducible rfl
      rotate_left
      · simp only [Act.put, List.setIfInBounds_toArray, List.set_cons_zero, List.set_cons_succ, i64_w, i32_w]
        rfl
      refine pure_ (i := 8) (N := some 20) (v := ?_) (a' := ?_) #[true, true, true, true, true, true, true, true, true, false] rfl rfl (by kernel_rfl) (fun _ _ _ h => h) (Or.inl ⟨by rfl, ?_⟩) ?_ ?_
      rotate_left
      · intro w'
        go_simp
        with_reducible rfl
      rotate_left
      · simp only [Act.put, List.setIfInBounds_toArray, List.set_cons_zero, List.set_cons_succ, i64_w, i32_w]
        rfl
      refine last_ (i := 9) (N := none) #[true, true, true, true, true, true, true, true, true, true] rfl rfl (by kernel_rfl) (by decide) (fun K hK => ?_)
      refine skip_ (w1 := ?_) (by rfl) rfl ?_ ?_
      rotate_left
      · go_simp
        rfl
      refine hK.out _ _ ?_
      clear hK K
      refine done_ (by kernel_rfl) ?_
      go_wp2_with fail
      go_meet
      rw [List.length_append] at hR1
      rw [HY.out]
      exact PutSt.appended hbw hbd hbn hg HR.out okg HM.out hR1 hg1 H8.out
    · have h8 : ¬ N % 8 = 0 := ne_of_beq_false ‹(N % 8 == 0) = false›
      have H8 := Lib.hid h8
      clear h8
      go_meet
      refine ⟨hbw, hbd, hbn, ⟨v, hg, ?_, okg⟩, HM.out⟩
      rw [HY.out]
      unfold growB
      rw [if_neg H8.out]
      exact HR.out
  case rest =>
    clear c0 g1 g2 fg2 HR HM e3 e4 hbw hbd hbn hg
    obtain ⟨hbw, hbd, hbn, ⟨v, hW⟩, hm⟩ := hcut
    obtain ⟨gr, cap, rfl, _, _, _⟩ := Kd.R_form hW.row hx1
    have hg := hW.blk
    have c0 : wc.cell? ⟨pw, 0, none⟩ = some (.pointer (some ⟨g, 0, none⟩)) := (blk_cell hbw 0).trans rfl
    have c1 : wc.cell? ⟨pd, 0, none⟩ = some (.int .i64 width) := (blk_cell hbd 0).trans rfl
    have c2 : wc.cell? ⟨pn, 0, none⟩ = some (.int .u64 n) := (blk_cell hbn 0).trans rfl
    have g1 : wc.cell? ⟨g, 1, none⟩ = some (.int .i64 N) := (blk_cell hg 1).trans rfl
    have g2 : wc.cell? ⟨g, 2, none⟩ = some (.slice (some ⟨gr, 0, none⟩) ys.length cap) := (blk_cell hg 2).trans rfl
    have r1 := own_at_of (d := 0) (Kd.own_of_R hW.row) (i := (ys.length : Int) - 1) (by omega) (by omega)
    have f1 := blk_frozen hbd 0
    have fg1 := blk_frozen hg 1
    have q1 : g ≠ gr := fun e => Kd.R_ne hW.row hg (by decide) (by rw [e]; rfl)
    have q2 : pw ≠ gr := fun e => Kd.R_ne hW.row hbw (by decide) (by rw [e]; rfl)
    have q3 : pd ≠ gr := fun e => Kd.R_ne hW.row hbd (by decide) (by rw [e]; rfl)
    have q4 : pw ≠ g := blk_ne hbw hg (by decide)
    have q5 : pd ≠ g := blk_ne hbd hg (by decide)
    have q6 : pw ≠ pd := blk_ne hbw hbd (by decide)
    have q1' := Ne.symm q1
    have q2' := Ne.symm q2
    have q3' := Ne.symm q3
    have q4' := Ne.symm q4
    have q5' := Ne.symm q5
    have q6' := Ne.symm q6
    go_upto_region 3 with fail
    go_cut [4] (fun s4 wx => s4 = .int .i64 k ∧ wx = wc)
    case first =>
      go_wp2_with fail
      all_goals go_meet
      · exact ⟨by rw [HK.out]; unfold kk; rw [if_pos (by assumption)], rfl⟩
      · exact ⟨by rw [HK.out]; unfold kk; rw [if_neg (by omega)], rfl⟩
    case rest =>
      obtain ⟨rfl, rfl⟩ := hcut
      go_wp2_with fail
      have hl1 : (0 : Int) ≤ (ys.length : Int) - 1 := by omega
      have hl0 : (1 : Int) ≤ (ys.length : Int) := by omega
      have hl2 : (ys.length : Int) - 1 < (ys.length : Int) := by omega
      have hl3 : ((ys.length : Int) - 1).toNat = ys.length - 1 := by omega
      have hl4 : IntKind.i64.wrap ((ys.length : Int) - 1) = (ys.length : Int) - 1 := IntWalk.i64_in _ (by omega)
      have hl5 : IntKind.i64.wrap (8 - N % 8 - k) = 8 - N % 8 - k := IntWalk.i64_in _ (by omega)
      rw [hl3] at r1
      obtain ⟨r1, r2⟩ := r1
      go_still_tail 20, (by kernel_rfl)
      change wpList _ _ _ _ _ wc.drew
      go_wp2_with fail
      go_end0
      refine ⟨rfl, ?_⟩
      have h := (PutSt.stored hbw hbd hbn hW hm (ys.length - 1) (lastB N width n k ys) (N + k) (width - k)).drew
      rw [← HK.out, ← HY.out]
      exact h
end Go.Proofs.YtmllgglcdlcdhaaDoor
end
section
namespace Go.Proofs.YtmllgglcdlcdhaaDoor
open Go.RowKit Go.Proofs.YtmllgglcdlcdhaaDoorW.PrintWords Bq
set_option linter.unusedVariables false
set_option maxRecDepth 100000
set_option linter.unusedSimpArgs false
theorem wraps_u64 (n : Int) (h0 : 0 ≤ n) (h1 : n < 2 ^ 64) : IntKind.u64.wrap n = n := by
  have : IntKind.u64.wrap n = n % 18446744073709551616 := by simp [IntKind.wrap, IntKind.bits, IntKind.signed]
  rw [this]
  omega
theorem last_set (p : List Int) (x y : Int) : (p ++ [x]).set ((p ++ [x]).length - 1) y = p ++ [y] := by
  rw [List.length_append, List.length_singleton, Nat.add_sub_cancel, List.set_append_right _ _ (Nat.le_refl _)]
  simp
theorem last_rd (p : List Int) (x : Int) : rdOf 0 (p ++ [x]) (((p ++ [x]).length : Int) - 1) = x := by
  unfold rdOf
  rw [List.length_append, List.length_singleton, show (((p.length + 1 : Nat) : Int) - 1).toNat = p.length from by omega, List.getD_eq_getElem?_getD, List.getElem?_append_right (Nat.le_refl _)]
  simp
theorem piece_eq (r wd kn n : Nat) (hk1 : 0 < kn) (hk2 : kn + r ≤ 8) (hr : r < 8) (hwd : kn ≤ wd) (hn : n < 2 ^ 64) :
    IntKind.u64.wrap (bits .and .u64 ((n : Int) / 2 ^ ((wd : Int) - (kn : Int)).toNat) (IntKind.u64.wrap (IntKind.u64.wrap (2 ^ ((kn : Int)).toNat) - 1)) * 2 ^ min (8 - (r : Int) - (kn : Int)).toNat 64) % 256 =
      ((n / 2 ^ (wd - kn) % 2 ^ kn * 2 ^ (8 - r - kn) : Nat) : Int) := by
  have hp8 : (2 : Nat) ^ kn ≤ 2 ^ 8 := Nat.pow_le_pow_right (by omega) (by omega)
  have hp0 : 0 < (2 : Nat) ^ kn := Nat.two_pow_pos kn
  have e1 : (((kn : Int)).toNat) = kn := by omega
  have e2 : ((wd : Int) - (kn : Int)).toNat = wd - kn := by omega
  have e3 : min (8 - (r : Int) - (kn : Int)).toNat 64 = 8 - r - kn := by omega
  rw [e1, e2, e3]
  have c1 : ((2 : Int) ^ kn) = ((2 ^ kn : Nat) : Int) := by simp
  have w1 : IntKind.u64.wrap ((2 : Int) ^ kn) = (2 : Int) ^ kn := wraps_u64 _ (by rw [c1]; omega) (by rw [c1]; omega)
  have w2 : IntKind.u64.wrap ((2 : Int) ^ kn - 1) = (2 : Int) ^ kn - 1 := wraps_u64 _ (by rw [c1]; omega) (by rw [c1]; omega)
  rw [w1, w2]
  have c2 : ((n : Int) / 2 ^ (wd - kn)) = ((n / 2 ^ (wd - kn) : Nat) : Int) := by simp
  have hq : n / 2 ^ (wd - kn) < 2 ^ 64 := Nat.lt_of_le_of_lt (Nat.div_le_self _ _) hn
  rw [c2, bits_mask .u64 64 (by decide) wraps_u64 kn (by omega) _ (Int.natCast_nonneg _) (by exact_mod_cast hq)]
  have c3 : (((n / 2 ^ (wd - kn) : Nat) : Int) % 2 ^ kn) = ((n / 2 ^ (wd - kn) % 2 ^ kn : Nat) : Int) := by simp
  rw [c3]
  have hlt : n / 2 ^ (wd - kn) % 2 ^ kn < 2 ^ kn := Nat.mod_lt _ hp0
  generalize n / 2 ^ (wd - kn) % 2 ^ kn = m at *
  have c4 : ((m : Nat) : Int) * 2 ^ (8 - r - kn) = ((m * 2 ^ (8 - r - kn) : Nat) : Int) := by simp
  rw [c4]
  have hb : m * 2 ^ (8 - r - kn) < 256 := by
    calc m * 2 ^ (8 - r - kn) < 2 ^ kn * 2 ^ (8 - r - kn) := Nat.mul_lt_mul_of_pos_right hlt (Nat.two_pow_pos _)
      _ = 2 ^ (8 - r) := by rw [← Nat.pow_add, show kn + (8 - r - kn) = 8 - r from by omega]
      _ ≤ 2 ^ 8 := Nat.pow_le_pow_right (by omega) (by omega)
  rw [wraps_u64 _ (by omega) (by omega)]
  omega
theorem step_bytes (bs : List Bool) (wd n : Nat) (hw : 0 < wd) (hn : n < 2 ^ 64) :
    (growB bs.length (packI bs)).set ((growB bs.length (packI bs)).length - 1) (lastB bs.length wd n (kk bs.length wd) (growB bs.length (packI bs))) =
      packI (bs ++ nb (n / 2 ^ (wd - (kk bs.length wd).toNat)) (kk bs.length wd).toNat) := by
  obtain ⟨hk1, hk2, hk3⟩ := kk_bd bs.length wd (by omega) (by omega)
  obtain ⟨kn, hkn⟩ := Int.eq_ofNat_of_zero_le (Int.le_of_lt hk1)
  rw [hkn] at hk1 hk2 hk3 ⊢
  rw [Int.toNat_natCast]
  have hr : ((bs.length : Int) % 8) = ((bs.length % 8 : Nat) : Int) := by omega
  have ht : (nb (n / 2 ^ (wd - kn)) kn).length = kn := nb_length _ _
  have hne : nb (n / 2 ^ (wd - kn)) kn ≠ [] := by
    intro h
    rw [h] at ht
    simp at ht
    omega
  have hpc := piece_eq (bs.length % 8) wd kn n (by omega) (by omega) (by omega) (by omega) hn
  rw [← hr] at hpc
  unfold lastB
  rw [hpc]
  by_cases h0 : bs.length % 8 = 0
  · have hg : growB bs.length (packI bs) = packI bs ++ [0] := by unfold growB; rw [if_pos (by omega)]
    rw [hg, last_rd, last_set]
    unfold packI
    rw [pack_step0 bs _ h0 hne (by omega), ints_append]
    congr 1
    rw [h0]
    unfold byte8 ints
    rw [bnum_nb, ht]
    simp only [List.map_cons, List.map_nil]
    congr 1
    have hb : n / 2 ^ (wd - kn) % 2 ^ kn * 2 ^ (8 - 0 - kn) < 256 := by
      calc n / 2 ^ (wd - kn) % 2 ^ kn * 2 ^ (8 - 0 - kn) < 2 ^ kn * 2 ^ (8 - 0 - kn) := Nat.mul_lt_mul_of_pos_right (Nat.mod_lt _ (Nat.two_pow_pos _)) (Nat.two_pow_pos _)
        _ = 256 := by rw [← Nat.pow_add, show kn + (8 - 0 - kn) = 8 from by omega]
    rw [bits_join .u8 8 (by decide) wraps_u8 8 0 _ (by omega) (by omega) (by omega) (Int.natCast_nonneg _) (by omega) (by omega)]
    simp
  · obtain ⟨p, x, hp, hx0, hx1, hnew⟩ := pack_step1 bs (nb (n / 2 ^ (wd - kn)) kn) h0 (by omega)
    have hg : growB bs.length (packI bs) = ints p ++ [(x : Int)] := by unfold growB; rw [if_neg (by omega)]; unfold packI; rw [hp, ints_append]; rfl
    rw [hg, last_rd, last_set]
    unfold packI
    rw [hnew, ints_append]
    congr 1
    rw [bnum_nb, ht]
    unfold ints
    simp only [List.map_cons, List.map_nil]
    congr 1
    have hb : n / 2 ^ (wd - kn) % 2 ^ kn * 2 ^ (8 - bs.length % 8 - kn) < 2 ^ (8 - bs.length % 8) := by
      calc n / 2 ^ (wd - kn) % 2 ^ kn * 2 ^ (8 - bs.length % 8 - kn) < 2 ^ kn * 2 ^ (8 - bs.length % 8 - kn) := Nat.mul_lt_mul_of_pos_right (Nat.mod_lt _ (Nat.two_pow_pos _)) (Nat.two_pow_pos _)
        _ = 2 ^ (8 - bs.length % 8) := by rw [← Nat.pow_add, show kn + (8 - bs.length % 8 - kn) = 8 - bs.length % 8 from by omega]
    have hb8 : (2 : Nat) ^ (8 - bs.length % 8) ≤ 2 ^ 8 := Nat.pow_le_pow_right (by omega) (by omega)
    generalize n / 2 ^ (wd - kn) % 2 ^ kn * 2 ^ (8 - bs.length % 8 - kn) = y at *
    rw [bits_join .u8 8 (by decide) wraps_u8 (8 - bs.length % 8) x y (Int.natCast_nonneg _) (by exact_mod_cast hx0) (by omega) (Int.natCast_nonneg _) (by exact_mod_cast hb) (by omega)]
    simp
end Go.Proofs.YtmllgglcdlcdhaaDoor
end
section
namespace Go.Proofs.YtmllgglcdlcdhaaDoor
open Go.RowKit Go.Proofs.YtmllgglcdlcdhaaDoorW.PrintWords Go.Proofs.YtmllgglcdlcdhaaDoorW.PrintMore Bq
set_option linter.unusedVariables false
set_option maxRecDepth 100000
set_option linter.unusedSimpArgs false
attribute [local go_sem] max2_int min2_int max_two min_two
attribute [local go_sem ↓] Go.wp_at_zero Go.wp_at_succ
theorem wok_made (w : World) (g : Nat) (b : Bool) (n : Int) (v : Value) (hg : w.heap[g]? = some (.cells #[.bool b, .int .i64 n, v] 107 (0, 0))) :
    Calls Tryd.prog 60 #[.pointer (some ⟨g, 0, none⟩)] w fun e w' => e = .returned (.bool b) ∧ w = w' := by
  have h0 : w.cell? ⟨g, 0, none⟩ = some (.bool b) := (blk_cell hg 0).trans rfl
  go_enter Tryd.func60, Tryd.ntmps60
  go_wp2
  go_ret
  exact ⟨rfl, rfl⟩
theorem PutSt.drewN {w0 w : World} {ok : Nat → Prop} {pw pd pn g : Nat} {N width n : Int} {xs : List Int} (h : PutSt w0 w ok pw pd pn g N width n xs) (m : Nat) : PutSt w0 (w.drewN m) ok pw pd pn g N width n xs :=
  ⟨h.bw, h.bd, h.bn, let ⟨v, a, b, c⟩ := h.wr; ⟨v, a, Kd.R_drewN b m, c⟩, h.mod.drewN m⟩
theorem put1 (w0 w : World) (ok : Nat → Prop) (pw pd pn g : Nat) (bs : List Bool) (wd n : Nat) (W : Int) (hW : W = wd)
    (hst : PutSt w0 w ok pw pd pn g bs.length W n (packI bs)) (hfr : ∀ k, w.heap.size ≤ k → ok k) (hN : bs.length ≤ 8388608) (hw1 : 0 < wd) (hw2 : wd ≤ 64) (hn : n < 18446744073709551616) :
    Calls Tryd.prog 61 #[.pointer (some ⟨pw, 0, none⟩), .pointer (some ⟨pd, 0, none⟩), .pointer (some ⟨pn, 0, none⟩)] w fun e w' => e = .returned (.tuple #[]) ∧
      ∃ k : Nat, 0 < k ∧ k ≤ wd ∧ PutSt w0 w' ok pw pd pn g (bs ++ nb (n / 2 ^ (wd - k)) k).length ((wd - k : Nat) : Int) n (packI (bs ++ nb (n / 2 ^ (wd - k)) k)) := by
  subst hW
  have hl : (packI bs).length = (bs.length + 7) / 8 := by unfold packI; rw [ints_length, pack_length]
  have hg : 0 < (growB bs.length (packI bs)).length := by
    unfold growB
    split
    · simp
    · omega
  refine (put1_raw w0 w ok pw pd pn g bs.length wd n (packI bs) hst hfr (by omega) (by omega) (by omega) (by omega) (by omega) hg (by omega) (by omega)).mono ?_
  rintro e w' ⟨rfl, h⟩
  obtain ⟨hk1, hk2, hk3⟩ := kk_bd bs.length wd (by omega) (by omega)
  refine ⟨rfl, (kk bs.length wd).toNat, by omega, by omega, ?_⟩
  rw [step_bytes bs wd n hw1 (by simpa using hn)] at h
  have e1 : (((wd - (kk bs.length wd).toNat : Nat)) : Int) = wd - kk bs.length wd := by omega
  have e2 : ((bs ++ nb (n / 2 ^ (wd - (kk bs.length wd).toNat)) (kk bs.length wd).toNat).length : Int) = bs.length + kk bs.length wd := by
    rw [List.length_append, nb_length]
    omega
  rw [e1, e2]
  exact h
def Wr (w : World) (ok : Nat → Prop) (g : Nat) (bs : List Bool) : Prop := ∃ v, WrB w ok g bs.length v (packI bs)
theorem Wr.kept {w w1 : World} {ok S : Nat → Prop} {g : Nat} {bs : List Bool} (h : Wr w ok g bs) (hm : Mod S w w1) (hs : ∀ k, ok k → k < w.heap.size → ¬ S k) : Wr w1 ok g bs := by
  obtain ⟨v, a, b, c⟩ := h
  exact ⟨v, hm.blk a (hs g c (blk_lt a)), Kd.R_step b (fun k ho hk => hm.block k hk (hs k ho hk)), c⟩
theorem Wr.bound {w : World} {ok : Nat → Prop} {g : Nat} {bs : List Bool} (h : Wr w ok g bs) : Wr w (fun k => ok k ∧ k < w.heap.size) g bs := by
  obtain ⟨v, a, b, c⟩ := h
  exact ⟨v, a, Kd.R_mono (Kd.R_bound b) (fun k hk => ⟨hk.1, hk.2.2.1⟩), c, blk_lt a⟩
theorem Wr.mono {w : World} {ok ok' : Nat → Prop} {g : Nat} {bs : List Bool} (h : Wr w ok g bs) (hs : ∀ k, ok k → ok' k) : Wr w ok' g bs := by
  obtain ⟨v, a, b, c⟩ := h
  exact ⟨v, a, Kd.R_mono b hs, hs g c⟩
theorem Wr.drewN {w : World} {ok : Nat → Prop} {g : Nat} {bs : List Bool} (h : Wr w ok g bs) (n : Nat) : Wr (w.drewN n) ok g bs := by
  obtain ⟨v, a, b, c⟩ := h
  exact ⟨v, a, Kd.R_drewN b n, c⟩
def badW (width : Int) (n : Nat) : Bool := decide (width < 0) || decide (64 < width) || (decide (width < 64) && decide (0 < n / 2 ^ width.toNat))
theorem badW_mid (n : Nat) (width : Int) (h1 : 0 ≤ width) (h3 : width < 64) : badW width n = decide (0 < (n : Int) / 2 ^ width.toNat) := by
  unfold badW
  rw [decide_eq_false (by omega), decide_eq_false (show ¬ 64 < width by omega), decide_eq_true h3]
  have h : (n : Int) / 2 ^ width.toNat = ((n / 2 ^ width.toNat : Nat) : Int) := by simp
  rw [h]
  simp only [Bool.false_or, Bool.true_and]
  congr 1
  rw [eq_iff_iff]
  omega
theorem badW_false {width : Int} {n : Nat} (h : badW width n = false) : 0 ≤ width ∧ width ≤ 64 ∧ (width < 64 → n < 2 ^ width.toNat) := by
  unfold badW at h
  simp only [Bool.or_eq_false_iff, decide_eq_false_iff_not, Bool.and_eq_false_iff] at h
  obtain ⟨⟨h1, h2⟩, h3⟩ := h
  refine ⟨by omega, by omega, fun h4 => ?_⟩
  rcases h3 with h3 | h3
  · omega
  · have := Nat.two_pow_pos width.toNat
    rw [Nat.not_lt, Nat.le_zero, Nat.div_eq_zero_iff] at h3
    omega
def putE (N : Nat) (width : Int) (n : Nat) : Int := if badW width n then 1 else if 8388608 - (N : Int) < width then 5 else 0
def putBits (bs : List Bool) (width : Int) (n : Nat) : List Bool := if putE bs.length width n = 0 then bs ++ nb n width.toNat else bs
set_option maxHeartbeats 4000000 in
theorem put_calls (w : World) (ok : Nat → Prop) (g : Nat) (bs : List Bool) (n : Nat) (width : Int) (hW : Wr w ok g bs) (hN : bs.length ≤ 8388608) (hn : n < 18446744073709551616)
    (hw1 : -9223372036854775808 ≤ width) (hw2 : width ≤ 9223372036854775807) :
    Calls Tryd.prog 45 #[.pointer (some ⟨g, 0, none⟩), .int .u64 n, .int .i64 width] w fun e w' =>
      e = .returned (.int .i64 (putE bs.length width n)) ∧ Wr w' (fun k => ok k ∨ w.heap.size ≤ k) g (putBits bs width n) ∧ Mod ok w w' := by
  obtain ⟨v, hg0, hR0, okg⟩ := hW
  obtain ⟨b, hb⟩ : ∃ b, b = badW width n := ⟨_, rfl⟩
  have HB := Lib.hid hb
  clear hb
  have hgl := blk_lt hg0
  go_enter Tryd.func45, Tryd.ntmps45
  go_upto_region 1 with fail
  have bw := blk_alloc (blk_alloc (blk_new w (.cells #[.pointer (some ⟨g, 0, none⟩)] 85)) (.cells #[.int .u64 n] 37)) (.cells #[.int .i64 width] 3)
  have bn := blk_alloc (blk_new (w.alloc (.cells #[.pointer (some ⟨g, 0, none⟩)] 85)) (.cells #[.int .u64 n] 37)) (.cells #[.int .i64 width] 3)
  have bd := blk_new ((w.alloc (.cells #[.pointer (some ⟨g, 0, none⟩)] 85)).alloc (.cells #[.int .u64 n] 37)) (.cells #[.int .i64 width] 3)
  have hg := blk_alloc (blk_alloc (blk_alloc hg0 (.cells #[.pointer (some ⟨g, 0, none⟩)] 85)) (.cells #[.int .u64 n] 37)) (.cells #[.int .i64 width] 3)
  have hR := Kd.R_alloc (Kd.R_alloc (Kd.R_alloc hR0 (.cells #[.pointer (some ⟨g, 0, none⟩)] 85)) (.cells #[.int .u64 n] 37)) (.cells #[.int .i64 width] 3)
  have hm : Below w.heap.size w (((w.alloc (.cells #[.pointer (some ⟨g, 0, none⟩)] 85)).alloc (.cells #[.int .u64 n] 37)).alloc (.cells #[.int .i64 width] 3)) := (((Below.refl _ w).alloc (Nat.le_refl _) _).alloc (by simp) _).alloc (by simp; omega) _
  have hs3 : w.heap.size + 3 = (((w.alloc (.cells #[.pointer (some ⟨g, 0, none⟩)] 85)).alloc (.cells #[.int .u64 n] 37)).alloc (.cells #[.int .i64 width] 3)).heap.size := by simp
  simp only [World.size_alloc] at bn bd
  generalize (((w.alloc (.cells #[.pointer (some ⟨g, 0, none⟩)] 85)).alloc (.cells #[.int .u64 n] 37)).alloc (.cells #[.int .i64 width] 3)) = w3 at *
  have hs3' : w.heap.size + 3 ≤ w3.heap.size := by omega
  have HS := Lib.hid hs3
  clear hs3
  have c0 : w3.cell? ⟨w.heap.size, 0, none⟩ = some (.pointer (some ⟨g, 0, none⟩)) := (blk_cell bw 0).trans rfl
  have c1 : w3.cell? ⟨w.heap.size + 1, 0, none⟩ = some (.int .u64 n) := (blk_cell bn 0).trans rfl
  have c2 : w3.cell? ⟨w.heap.size + 1 + 1, 0, none⟩ = some (.int .i64 width) := (blk_cell bd 0).trans rfl
  have g1 : w3.cell? ⟨g, 1, none⟩ = some (.int .i64 bs.length) := (blk_cell hg 1).trans rfl
  have HR := Lib.hid hR
  have HR0 := Lib.hid hR0
  clear hR hR0
  go_upto_region 3 with (go_at_call 60; refine (wok_made _ _ _ _ _ hg).mono ?_; rintro e w' ⟨rfl, rfl⟩)
  go_cut [27] (fun s27 wx => s27 = .bool b ∧ wx = w3)
  case first =>
    by_cases h1 : width < 0
    · go_wp2_with fail
      go_meet
      exact ⟨by rw [HB.out]; simp [badW, h1], rfl⟩
    · by_cases h2 : 64 < width
      · go_wp2_with fail
        go_meet
        exact ⟨by rw [HB.out]; simp [badW, h1, h2], rfl⟩
      · by_cases h3 : width < 64
        · go_wp2_with fail
          go_meet
          exact ⟨by rw [HB.out, badW_mid n width (by omega) h3], rfl⟩
        · go_wp2_with fail
          go_meet
          exact ⟨by rw [HB.out]; unfold badW; rw [decide_eq_false (show ¬ width < 0 by omega), decide_eq_false (show ¬ 64 < width by omega), decide_eq_false (show ¬ width < 64 by omega)]; rfl, rfl⟩
  case rest =>
    obtain ⟨rfl, rfl⟩ := hcut
    have hfin : ∀ x : Int, x = putE bs.length width n → x ≠ 0 → Wr wc (fun k => ok k ∨ w.heap.size ≤ k) g (putBits bs width n) ∧ Mod ok w wc := by
      intro x hx h0
      unfold putBits
      rw [if_neg (by rw [← hx]; exact h0)]
      exact ⟨⟨v, hg, Kd.R_mono HR.out (fun _ h => .inl h), .inl okg⟩, Mod.of_below hm _⟩
    have HF := Lib.hid hfin
    clear hfin
    cases b with
    | true =>
      go_wp2_with fail
      go_ret
      have hE : putE bs.length width n = 1 := by unfold putE; rw [← HB.out]; rfl
      exact ⟨by rw [hE]; rfl, HF.out 1 hE.symm (by decide)⟩
    | false =>
      have HE : Hid (putE bs.length width n = if 8388608 - (bs.length : Int) < width then 5 else 0) := by unfold Hid putE; rw [← HB.out]; rfl
      have hwd := badW_false HB.out.symm
      obtain ⟨hwd1, hwd2, hwd3⟩ := hwd
      have HW3 := Lib.hid hwd3
      clear hwd3
      have hsub : IntKind.i64.wrap (8388608 - (bs.length : Int)) = 8388608 - (bs.length : Int) := IntWalk.i64_in _ (by omega)
      by_cases hcap : 8388608 - (bs.length : Int) < width
      · have hc1 : decide (8388608 - (bs.length : Int) < width) = true := decide_eq_true hcap
        go_wp2_with fail
        go_quiet (fail)
        go_wp2_with fail
        go_ret
        have hE : putE bs.length width n = 5 := by rw [HE.out, if_pos hcap]
        obtain ⟨a, c⟩ := HF.out 5 hE.symm (by decide)
        exact ⟨by rw [hE]; rfl, Wr.drewN a _, c.drewN _⟩
      · have hc1 : decide (8388608 - (bs.length : Int) < width) = false := decide_eq_false hcap
        have HCAP := Lib.hid hcap
        clear hcap
        go_wp2_with fail
        go_quiet (fail)
        go_wp2_with fail
        obtain ⟨wd, hwd⟩ := Int.eq_ofNat_of_zero_le hwd1
        have HWD := Lib.hid hwd
        clear hwd
        have hwd4 : (wd : Int) ≤ 64 := by rw [← HWD.out]; exact hwd2
        have hwd5 : (bs.length : Int) + wd ≤ 8388608 := by have := HCAP.out; rw [← HWD.out]; omega
        have hst : PutSt w wc (fun k => ok k ∨ w.heap.size ≤ k) w.heap.size (w.heap.size + 1 + 1) (w.heap.size + 1) g bs.length width n (packI bs) :=
          ⟨bw, bd, bn, ⟨v, hg, Kd.R_mono HR.out (fun _ h => .inl h), .inl okg⟩, Mod.of_below hm _⟩
        have HST := Lib.hid hst
        clear hst
        clear c0 c1 c2 g1 bw bd bn hg HR HF hc1 hsub
        go_loopg [] wd (fun kq wr => kq ≤ wd ∧ ∃ bs2 : List Bool, PutSt w wr (fun k => ok k ∨ w.heap.size ≤ k) w.heap.size (w.heap.size + 1 + 1) (w.heap.size + 1) g bs2.length kq n (packI bs2) ∧ Hid (bs2 ++ nb n kq = bs ++ nb n wd))
        case atStart =>
          refine ⟨Nat.le_refl _, bs, ?_, rfl⟩
          rw [← HWD.out]
          exact HST.out.drewN _
        case round =>
          obtain ⟨hk, bs2, hst2, hb2⟩ := hrel
          have c2 : wr.cell? ⟨w.heap.size + 1 + 1, 0, none⟩ = some (.int .i64 gk) := (blk_cell hst2.bd 0).trans rfl
          have hlen : bs2.length + gk = bs.length + wd := by
            have := congrArg List.length hb2.out
            simpa [nb_length] using this
          have HST2 := Lib.hid hst2
          clear hst2
          have HLEN := Lib.hid hlen
          clear hlen
          by_cases hz : gk = 0
          · subst hz
            go_wp2_with fail
            go_ret
            have hE : putE bs.length width n = 0 := by rw [HE.out, if_neg (by have := HCAP.out; omega)]
            have hb3 : bs2 = bs ++ nb n wd := by have := hb2.out; rwa [nb_zero, List.append_nil] at this
            obtain ⟨v2, a, c, d⟩ := HST2.out.wr
            refine ⟨by rw [hE]; rfl, ?_, HST2.out.mod.weaken (fun k hk h => ?_)⟩
            · unfold putBits
              rw [if_pos hE, show width.toNat = wd from by rw [HWD.out]; omega, ← hb3]
              exact ⟨v2, a, c, d⟩
            · rcases h with (h | h) | h
              · exact h
              · omega
              · omega
          · have hgk : (0 : Int) < gk := by omega
            have hfr : ∀ k, wr.heap.size ≤ k → ok k ∨ w.heap.size ≤ k := fun k hk => .inr (Nat.le_trans HST2.out.mod.size hk)
            go_wp2_with fail
            refine (put1 w wr _ _ _ _ g bs2 gk n _ rfl HST2.out hfr (by have := HLEN.out; omega) (by omega) (by omega) hn).mono ?_
            rintro e w' ⟨rfl, k, hk1, hk2, hst3⟩
            have HST3 := Lib.hid hst3
            clear hst3
            go_wp2_with fail
            go_roundg (gk - k)
            case measure => omega
            case rel =>
              refine ⟨by omega, _, HST3.out, ?_⟩
              show bs2 ++ nb (n / 2 ^ (gk - k)) k ++ nb n (gk - k) = bs ++ nb n wd
              rw [List.append_assoc, ← nb_split n gk k hk2]
              exact hb2.out
end Go.Proofs.YtmllgglcdlcdhaaDoor
end
section
namespace Go.Proofs.YtmllgglcdlcdhaaDoor
open Go.RowKit Go.Proofs.YtmllgglcdlcdhaaDoorW.PrintWords Go.Proofs.YtmllgglcdlcdhaaDoorW.PrintMore Bq
set_option linter.unusedVariables false
set_option maxRecDepth 100000
set_option linter.unusedSimpArgs false
attribute [local go_sem ↓] Go.wp_at_zero Go.wp_at_succ
theorem newWriter_calls (w : World) :
    Calls Tryd.prog 44 #[] w fun e w' => e = .returned (.pointer (some ⟨w.heap.size, 0, none⟩)) ∧ Wr w' (fun k => w.heap.size ≤ k) w.heap.size [] ∧ Below w.heap.size w w' := by
  go_enter Tryd.func44, Tryd.ntmps44
  go_wp2
  go_ret
  exact ⟨rfl, ⟨.slice none 0 0, blk_new w _, by unfold packI; rw [pack_nil]; exact Kd.R_nil _ _ _ _ _, Nat.le_refl _⟩, (Below.refl _ w).alloc (Nat.le_refl _) _⟩
theorem packI_length (bs : List Bool) : (packI bs).length = (bs.length + 7) / 8 := by unfold packI; rw [ints_length, pack_length]
set_option maxHeartbeats 1000000 in
theorem wbytes_calls (w : World) (ok : Nat → Prop) (g : Nat) (bs : List Bool) (hW : Wr w ok g bs) (hN : bs.length ≤ 8388608) :
    Calls Tryd.prog 47 #[.pointer (some ⟨g, 0, none⟩)] w fun e w' => ∃ v, e = .returned v ∧ (Kd.int .u8).R 5 w' w.heap.size (fun _ => True) v (packI bs) ∧ Below w.heap.size w w' := by
  obtain ⟨v, hg, hR, okg⟩ := hW
  obtain ⟨A, c, rfl, hc, hC⟩ := Kd.R_reads hR
  have hlen := packI_length bs
  have g2 : w.cell? ⟨g, 2, none⟩ = some (.slice A (packI bs).length c) := (blk_cell hg 2).trans rfl
  have n1 : w.heap.size ≠ g := by have := blk_lt hg; omega
  have n2 : g ≠ w.heap.size := Ne.symm n1
  have n3 := blk_lt hg
  have hl2 : (packI bs).length ≤ 1048577 := by omega
  have HL := Lib.hid hlen
  clear hlen hR
  go_enter Tryd.func47, Tryd.ntmps47
  go_wp2_with (first | (go_at_call 60; refine (wok_made _ _ _ _ _ hg).mono ?_; rintro e w' ⟨rfl, rfl⟩) | (at_builtin; refine (plain_int .u8).list_append (W := w.alloc (.cells #[] 5)) (base := w.heap.size) (ok := fun _ => True) (xs := []) (ys := packI bs) rfl (.tmp 6) (.tmp 10) 24 (.int .u8 0) 1 rfl Tryd.underlying24 info_u8 rfl (by decide) (packI bs).length c rfl rfl (R_empty _ _ w _ _ (Nat.le_refl _) trivial) (Kd.C_below hC ((Below.refl _ w).alloc (Nat.le_refl _) _)) (fun _ _ => trivial) (by simp) (by simp; omega) ?_; intro v1 w1 hR1 hg1 _; obtain ⟨A1, k1, rfl⟩ := Kd.R_slice hR1; have HR1 := Lib.hid hR1; have HG1 := Lib.hid hg1; clear hR1 hg1))
  go_ret
  exact ⟨_, rfl, by assumption, below_row ((Below.refl _ w).alloc (Nat.le_refl _) _) (by assumption) (Nat.le_refl _) (by simp)⟩
end Go.Proofs.YtmllgglcdlcdhaaDoor
end
section
namespace Go.Proofs.YtmllgglcdlcdhaaDoor
open Go.RowKit Go.Proofs.YtmllgglcdlcdhaaDoorW.PrintWords Go.Proofs.YtmllgglcdlcdhaaDoorW.PrintMore Go.Proofs.YtmllgglcdlcdhaaDoorW.PrintLast Bq
set_option linter.unusedVariables false
set_option maxRecDepth 100000
set_option linter.unusedSimpArgs false
attribute [local go_sem ↓] Go.wp_at_zero Go.wp_at_succ
theorem zig_calls (n : Int) (w : World) (h0 : -9223372036854775808 ≤ n) (h1 : n ≤ 9223372036854775807) :
    Calls Tryd.prog 72 #[.int .i64 n] w fun e w' => e = .returned (.int .u64 (zigI n)) ∧ w = w' := by
  have hz := zig_bits n h0 h1
  have HZ := Lib.hid hz
  clear hz
  go_enter Tryd.func72, Tryd.ntmps72
  go_wp2
  go_ret
  exact ⟨by rw [← HZ.out, i64_w]; rfl, rfl⟩
theorem zag_calls (n : Int) (w : World) (h0 : 0 ≤ n) (h1 : n < 18446744073709551616) :
    Calls Tryd.prog 53 #[.int .u64 n] w fun e w' => e = .returned (.int .i64 (zagI n)) ∧ w = w' := by
  have hz := zag_bits n h0 h1
  have HZ := Lib.hid hz
  have ha := and_one n h0 h1
  clear hz
  go_enter Tryd.func53, Tryd.ntmps53
  go_wp2
  go_ret
  exact ⟨by rw [← HZ.out]; rfl, rfl⟩
end Go.Proofs.YtmllgglcdlcdhaaDoor
end
section
namespace Go.Proofs.YtmllgglcdlcdhaaDoor
open Go.RowKit Go.Proofs.YtmllgglcdlcdhaaDoorW.PrintWords Go.Proofs.YtmllgglcdlcdhaaDoorW.PrintMore Go.Proofs.YtmllgglcdlcdhaaDoorW.PrintLast Bq
set_option linter.unusedVariables false
set_option maxRecDepth 100000
set_option linter.unusedSimpArgs false
attribute [local go_sem ↓] Go.wp_at_zero Go.wp_at_succ
theorem bits_comm_or (k : IntKind) (x y : Int) : bits .or k x y = bits .or k y x := by simp only [bits, BitVec.or_comm]
theorem and127 (x : Int) (h0 : 0 ≤ x) (h1 : x < 256) : bits .and .u8 x 127 = x % 128 := by
  have := bits_mask .u8 8 (by decide) wraps_u8 7 (by omega) x h0 (by omega)
  simpa using this
theorem pow128 (k : Nat) : (2 : Int) ^ (7 * k) = 128 ^ k := by rw [Int.pow_mul]; rfl
theorem ug_val (k acc : Nat) (x : Int) (hk : k < 10) (hx0 : 0 ≤ x) (hx1 : x < 256) (h9 : k = 9 → x ≤ 1) (ha : acc < 128 ^ k) :
    (acc + (x % 128).toNat * 128 ^ k < 128 ^ (k + 1)) ∧ (acc + (x % 128).toNat * 128 ^ k < 18446744073709551616) := by
  have h1 : (x % 128).toNat < 128 := by omega
  constructor
  · rw [Nat.pow_succ]
    have : (x % 128).toNat * 128 ^ k ≤ 127 * 128 ^ k := Nat.mul_le_mul_right _ (by omega)
    omega
  · have hp : (128 : Nat) ^ k ≤ 128 ^ 9 := Nat.pow_le_pow_right (by decide) (by omega)
    rcases Nat.lt_or_ge k 9 with h | h
    · have hp2 : (128 : Nat) ^ k ≤ 128 ^ 8 := Nat.pow_le_pow_right (by decide) (by omega)
      have : (x % 128).toNat * 128 ^ k ≤ 127 * 128 ^ 8 := Nat.mul_le_mul (by omega) hp2
      omega
    · have hk9 : k = 9 := by omega
      subst hk9
      have := h9 rfl
      have : (x % 128).toNat ≤ 1 := by omega
      have : (x % 128).toNat * 128 ^ 9 ≤ 1 * 128 ^ 9 := Nat.mul_le_mul_right _ this
      omega
theorem or_next (k acc : Nat) (x : Int) (hk : k < 10) (hx0 : 0 ≤ x) (hx1 : x < 256) (h9 : k = 9 → x ≤ 1) (ha : acc < 128 ^ k) :
    bits .or .u64 (acc : Int) (IntKind.u64.wrap (x % 128 * 2 ^ (7 * k))) = ((acc + (x % 128).toNat * 128 ^ k : Nat) : Int) := by
  obtain ⟨h1, h2⟩ := ug_val k acc x hk hx0 hx1 h9 ha
  obtain ⟨y, hy⟩ := Int.eq_ofNat_of_zero_le (show 0 ≤ x % 128 by omega)
  rw [hy, Int.toNat_natCast] at h1 h2 ⊢
  have e1 : ((y : Int) * 2 ^ (7 * k)) = ((y * 128 ^ k : Nat) : Int) := by rw [pow128]; simp
  rw [e1, wraps_u64 _ (by omega) (by omega), bits_comm_or]
  have e3 : (2 : Nat) ^ (7 * k) = 128 ^ k := by rw [Nat.pow_mul]
  have e2 := bits_join .u64 64 (by decide) wraps_u64 (7 * k) ((y * 128 ^ k : Nat) : Int) (acc : Int) (by omega) (by
    have : y * 128 ^ k % 2 ^ (7 * k) = 0 := by rw [e3]; exact Nat.mul_mod_left _ _
    exact_mod_cast this) (by omega) (by omega) (by
    have : acc < 2 ^ (7 * k) := by rw [e3]; exact ha
    exact_mod_cast this) (by omega)
  rw [e2]
  omega
theorem ug_sum (k acc : Nat) (x : Int) (hx0 : 0 ≤ x) (hx1 : x < 128) : ((acc + (x % 128).toNat * 128 ^ k : Nat) : Int) = (acc : Int) + x * 128 ^ k := by
  obtain ⟨y, rfl⟩ := Int.eq_ofNat_of_zero_le hx0
  rw [show ((y : Int) % 128).toNat = y by omega]
  simp
theorem ug_stop9 (acc : Nat) (x : Int) (xs : List Int) (h : 1 < x) : ug 9 acc (x :: xs) = (0, 0, 9) := by rw [ug, if_neg (by decide), if_pos ⟨rfl, h⟩]
theorem ug_form (k acc : Nat) (xs : List Int) (hk : k < 10) (h0 : 0 < k) : ug k acc (0 :: xs) = (0, 0, 8) := by rw [ug, if_neg (by omega), if_neg (by omega), if_pos (by decide), if_pos ⟨h0, rfl⟩]
theorem ug_end (k acc : Nat) (x : Int) (xs : List Int) (hk : k < 10) (h9 : ¬ (k = 9 ∧ 1 < x)) (h128 : x < 128) (h0 : ¬ (0 < k ∧ x = 0)) : ug k acc (x :: xs) = ((acc : Int) + x * 128 ^ k, (k : Int) + 1, 0) := by
  rw [ug, if_neg (by omega), if_neg h9, if_pos h128, if_neg h0]
theorem ug_more (k acc : Nat) (x : Int) (xs : List Int) (hk : k < 10) (h9 : ¬ (k = 9 ∧ 1 < x)) (h128 : ¬ x < 128) : ug k acc (x :: xs) = ug (k + 1) (acc + (x.toNat - 128) * 128 ^ k) xs := by
  rw [ug, if_neg (by omega), if_neg h9, if_neg h128]
set_option maxHeartbeats 4000000 in
theorem uvarint_calls (w : World) (A : Option Addr) (c : Nat) (xs : List Int) (hC : (Kd.int .u8).C w A xs.length xs) (hb : Byts xs) (hs : xs.length ≤ 1000000000000) :
    Calls Tryd.prog 70 #[.slice A xs.length c] w fun e w' => e = .returned (.tuple #[.int .u64 (uget xs).1, .int .i64 (uget xs).2.1, .int .i64 (uget xs).2.2]) ∧ w = w' := by
  have HC := Lib.hid hC
  have HB := Lib.hid hb
  clear hC hb
  go_enter Tryd.func70, Tryd.ntmps70
  go_wp2
  go_step3
  go_wp2
  go_step3
  go_wp2
  go_loopg [5, 6] 10 (fun kq s5 s6 wr => w = wr ∧ ∃ k acc : Nat, k + kq = 10 ∧ s6 = .int .i64 k ∧ s5 = .int .u64 acc ∧ Hid (acc < 128 ^ k) ∧ Hid (ug k acc (xs.drop k) = uget xs))
  case atStart => exact ⟨rfl, 0, 0, rfl, rfl, rfl, by unfold Hid; decide, rfl⟩
  case round =>
    obtain ⟨rfl, k, acc, hk, rfl, rfl, ha, hu⟩ := hrel
    by_cases hk10 : k < 10
    · by_cases hlt : k < xs.length
      · obtain ⟨ad, hA, hcell⟩ := C_at_int HC.out k hlt
        subst hA
        obtain ⟨hx0, hx1⟩ := HB.out.get k hlt
        have hdrop := drop_get xs k hlt
        have HD := Lib.hid hdrop
        clear hdrop
        obtain ⟨x, hx⟩ : ∃ x, x = xs.getD k 0 := ⟨_, rfl⟩
        rw [← hx] at hx0 hx1 hcell
        have HX := Lib.hid hx
        clear hx
        have hb0 : decide ((xs.length : Int) ≤ (k : Int)) = false := decide_eq_false (by omega)
        have hand := and127 x hx0 hx1
        by_cases h9 : k = 9 ∧ 1 < x
        · obtain ⟨h9a, h9b⟩ := h9
          have hb1 : ((k : Int) == 9) = true := by simp [h9a]
          have hb2 : decide (1 < x) = true := decide_eq_true h9b
          have H9 := Lib.hid h9a
          clear h9a
          go_wp2
          rw [Exit.noGoto_ret]
          go_ret3
          have h := hu.out
          rw [HD.out, ← HX.out, H9.out, ug_stop9 _ _ _ h9b] at h
          rw [← h]
          exact ⟨rfl, rfl⟩
        · by_cases h128 : x < 128
          · have h9c : (((k : Int) == 9) && decide (1 < x)) = false := by
              rw [Bool.and_eq_false_iff]
              rcases Decidable.not_and_iff_or_not.1 h9 with h | h
              · left; simp; omega
              · right; exact decide_eq_false h
            have hb2 : decide (x < 128) = true := decide_eq_true h128
            have H9 := Lib.hid h9
            clear h9
            have HV := Lib.hid (or_next k acc x hk10 hx0 hx1 (fun h => by have := H9.out; omega) ha.out)
            by_cases hk9 : k = 9
            · have hkb : ((k : Int) == 9) = true := by simp [hk9]
              have hxb : decide (1 < x) = false := decide_eq_false (by have := H9.out; omega)
              have hk0 : decide (0 < (k : Int)) = true := decide_eq_true (by omega)
              have hkp : 0 < k := by omega
              clear hk9 h9c
              by_cases hx00 : x = 0
              · have hxz : (x == 0) = true := by simp [hx00]
                have HXZ := Lib.hid hx00
                clear hx00
                go_wp2
                rw [Exit.noGoto_ret]
                go_ret3
                have h := hu.out
                rw [HD.out, ← HX.out, HXZ.out, ug_form k acc _ hk10 (by omega)] at h
                rw [← h]
                exact ⟨rfl, rfl⟩
              · have hxz : (x == 0) = false := by simp [hx00]
                have H0 := Lib.hid (show ¬ (0 < k ∧ x = 0) from fun h => hx00 h.2)
                clear hx00
                go_wp2
                rw [Exit.noGoto_ret]
                go_ret3
                have h := hu.out
                rw [HD.out, ← HX.out, ug_end k acc x _ hk10 H9.out h128 H0.out] at h
                rw [← h, ← ug_sum k acc x hx0 h128, ← HV.out]
                exact ⟨rfl, rfl⟩
            · have hkb : ((k : Int) == 9) = false := by simp; omega
              clear hk9 h9c
              by_cases hkz : k = 0
              · have hk0 : decide (0 < (k : Int)) = false := decide_eq_false (by omega)
                have hk0n : decide (0 < k) = false := decide_eq_false (by omega)
                have hk0m : ¬ 0 < k := by omega
                have H0 := Lib.hid (show ¬ (0 < k ∧ x = 0) from fun h => by omega)
                clear hkz
                go_wp2
                rw [Exit.noGoto_ret]
                go_ret3
                have h := hu.out
                rw [HD.out, ← HX.out, ug_end k acc x _ hk10 H9.out h128 H0.out] at h
                rw [← h, ← ug_sum k acc x hx0 h128, ← HV.out]
                exact ⟨rfl, rfl⟩
              · have hk0 : decide (0 < (k : Int)) = true := decide_eq_true (by omega)
                have hkp : 0 < k := by omega
                clear hkz
                by_cases hx00 : x = 0
                · have hxz : (x == 0) = true := by simp [hx00]
                  have HXZ := Lib.hid hx00
                  clear hx00
                  go_wp2
                  rw [Exit.noGoto_ret]
                  go_ret3
                  have h := hu.out
                  rw [HD.out, ← HX.out, HXZ.out, ug_form k acc _ hk10 (by omega)] at h
                  rw [← h]
                  exact ⟨rfl, rfl⟩
                · have hxz : (x == 0) = false := by simp [hx00]
                  have H0 := Lib.hid (show ¬ (0 < k ∧ x = 0) from fun h => hx00 h.2)
                  clear hx00
                  go_wp2
                  rw [Exit.noGoto_ret]
                  go_ret3
                  have h := hu.out
                  rw [HD.out, ← HX.out, ug_end k acc x _ hk10 H9.out h128 H0.out] at h
                  rw [← h, ← ug_sum k acc x hx0 h128, ← HV.out]
                  exact ⟨rfl, rfl⟩
          · have h9c : ((k : Int) == 9) = false := by
              have : k ≠ 9 := fun h => h9 ⟨h, by omega⟩
              simp; omega
            have hb2 : decide (x < 128) = false := decide_eq_false h128
            have H9 := Lib.hid h9
            clear h9
            go_wp2
            go_roundg (gk - 1)
            case measure => omega
            case rel =>
              have hv := or_next k acc x hk10 hx0 hx1 (fun h => by have := H9.out; omega) ha.out
              have hx3 : (x % 128).toNat = x.toNat - 128 := by omega
              have hb3 := (ug_val k acc x hk10 hx0 hx1 (fun h => by have := H9.out; omega) ha.out).1
              rw [hv, hx3]
              rw [hx3] at hb3
              refine ⟨rfl, k + 1, _, by omega, by go_num, rfl, hb3, ?_⟩
              have h := hu.out
              rw [HD.out, ← HX.out, ug_more k acc x _ hk10 H9.out (by omega)] at h
              exact h
      · have hge : (xs.length : Int) ≤ (k : Int) := by omega
        have hb1 : decide ((xs.length : Int) ≤ (k : Int)) = true := decide_eq_true hge
        go_wp2
        rw [Exit.noGoto_ret]
        go_ret3
        have h := hu.out
        rw [List.drop_of_length_le (by omega), ug, if_pos hk10] at h
        rw [← h]
        exact ⟨rfl, rfl⟩
    · go_wp2
      rw [Exit.noGoto_ret]
      go_ret3
      have h := hu.out
      have h2 : ug k acc (xs.drop k) = (0, 0, 9) := by
        cases xs.drop k with
        | nil => rw [ug, if_neg hk10]
        | cons y ys => rw [ug, if_pos (by omega)]
      rw [h2] at h
      rw [← h]
      exact ⟨rfl, rfl⟩
end Go.Proofs.YtmllgglcdlcdhaaDoor
end
section
namespace Go.Proofs.YtmllgglcdlcdhaaDoor
open Go.RowKit Go.Proofs.YtmllgglcdlcdhaaDoorW.PrintWords Go.Proofs.YtmllgglcdlcdhaaDoorW.PrintMore Go.Proofs.YtmllgglcdlcdhaaDoorW.PrintLast Bq
set_option linter.unusedVariables false
set_option maxRecDepth 100000
set_option linter.unusedSimpArgs false
attribute [local go_sem ↓] Go.wp_at_zero Go.wp_at_succ
end Go.Proofs.YtmllgglcdlcdhaaDoor
end
section
namespace Go.Proofs.YtmllgglcdlcdhaaDoor
open Go.RowKit Go.Proofs.YtmllgglcdlcdhaaDoorW.PrintWords Go.Proofs.YtmllgglcdlcdhaaDoorW.PrintMore Go.Proofs.YtmllgglcdlcdhaaDoorW.PrintLast Bq
set_option linter.unusedVariables false
set_option maxRecDepth 100000
set_option linter.unusedSimpArgs false
attribute [local go_sem ↓] Go.wp_at_zero Go.wp_at_succ
theorem or128 (n : Nat) : bits .or .u8 (((n : Int)) % 256) 128 = ((n % 128 + 128 : Nat) : Int) := by
  have e : ((n : Int)) % 256 = ((n % 256 : Nat) : Int) := by omega
  rw [e, show (128 : Int) = ((128 : Nat) : Int) from rfl, (bits_nat .u8 8 (by decide) wraps_u8 (n % 256) 128 (by omega) (by omega)).2]
  congr 1
  have h : n % 256 = n / 128 % 2 * 128 + n % 128 := by omega
  rcases (show n / 128 % 2 = 0 ∨ n / 128 % 2 = 1 by omega) with h2 | h2
  · rw [h, h2, Nat.zero_mul, Nat.zero_add]
    have := Nat.two_pow_add_eq_or_of_lt (b := n % 128) (i := 7) (by omega) 1
    simp only [Nat.reducePow, Nat.mul_one] at this
    rw [Nat.or_comm]
    omega
  · rw [h, h2, Nat.one_mul]
    have := Nat.two_pow_add_eq_or_of_lt (b := n % 128) (i := 7) (by omega) 1
    simp only [Nat.reducePow, Nat.mul_one] at this
    rw [this, Nat.or_assoc, Nat.or_comm (n % 128) 128, ← Nat.or_assoc, Nat.or_self, ← this]
    omega
set_option maxHeartbeats 1000000 in
theorem putUvarint_calls (w : World) (n : Nat) (hn : n < 18446744073709551616) :
    Calls Tryd.prog 64 #[.int .u64 n] w fun e w' => ∃ v, e = .returned v ∧ (Kd.int .u8).R 5 w' w.heap.size (fun _ => True) v (ints (uv n)) ∧ Below w.heap.size w w' := by
  obtain ⟨i0, hi, hz0, hz1, hz2⟩ := info_parts info_u8
  have hlen := uv_len10 n hn
  have HLEN := Lib.hid hlen
  clear hlen
  go_enter Tryd.func64, Tryd.ntmps64
  go_wp2_with (at_make; refine wpList_make_own _ rfl _ _ 24 rfl w.heap.size 5 i0 (.int .u8 0) 1 Tryd.underlying24 hi hz0 hz1 .i64 .i64 10 10 rfl rfl rfl (by rw [hz2]; decide) (by unfold maxLen; decide) (Nat.le_refl _) ?_; intro w1 hown hgrow)
  have hR : (Kd.int .u8).R 5 w1 w.heap.size (fun _ => True) (.slice (some ⟨w.heap.size, 0, none⟩) 0 10) [] := (plain_int .u8).R_of (fun _ _ => trivial) hown
  have hB : Below w.heap.size w w1 := (Below.refl _ w).grown hgrow (Nat.le_refl _) (fun k h => by cases h)
  have HR := Lib.hid hR
  have HB := Lib.hid hB
  clear hR hB hown hgrow
  go_loopg [0, 3] n (fun m s0 s3 wr => s0 = .int .u64 m ∧ m < 18446744073709551616 ∧ ∃ pre, Hid (pre ++ uv m = uv n) ∧ Hid ((Kd.int .u8).R 5 wr w.heap.size (fun _ => True) s3 (ints pre)) ∧ Hid (Below w.heap.size w wr))
  case atStart => exact ⟨rfl, hn, [], rfl, HR.out, HB.out⟩
  case round =>
    obtain ⟨rfl, hgk, pre, hpre, hRr, hBr⟩ := hrel
    obtain ⟨A, c, hs3⟩ := Kd.R_slice hRr.out
    subst hs3
    have hpl : pre.length ≤ 9 := by
      have h1 := congrArg List.length hpre.out
      have h2 := uv_pos gk
      have h3 := HLEN.out
      rw [List.length_append] at h1
      omega
    have hBs := hBr.out.size
    by_cases hlt : 127 < gk
    · go_wp2_with (at_builtin; refine Kd.R_append (Kd.int .u8) (w0 := wr) (W := wr) w.heap.size rfl (.tmp 7) (.tmp 11) 24 5 (.int .u8 0) 1 rfl Tryd.underlying24 info_u8 rfl (by decide) (by decide) _ (ints pre) (bits .or .u8 ((gk : Int) % 256) 128) [.int .u8 (bits .or .u8 ((gk : Int) % 256) 128)] (fun _ => True) (fun _ => False) rfl rfl rfl (fun _ h => h.elim) (fun _ _ => trivial) hRr.out (Below.refl _ _) hBs (by rw [ints_length]; omega) ?_; intro v1 w2 hR2 _ hg2 _; have HR2 := Lib.hid hR2; have HG2 := Lib.hid hg2; clear hR2 hg2)
      go_roundg (gk / 128)
      case measure => omega
      case rel =>
        refine ⟨by go_num, by omega, pre ++ [gk % 128 + 128], ?_, ?_, hBr.out.trans (Mod.below (S := fun k => w.heap.size ≤ k) ((Mod.refl _ _).grown HG2.out (fun k hk => .inl (Kd.R_base hRr.out k hk))) hBs (fun k hk => hk))⟩
        · show pre ++ [gk % 128 + 128] ++ uv (gk / 128) = uv n
          rw [← hpre.out, uv_big gk (by omega), List.append_assoc]
          rfl
        · rw [or128] at HR2
          rw [ints_append]
          exact HR2.out
    · go_wp2_with (at_builtin; refine Kd.R_append (Kd.int .u8) (w0 := wr) (W := wr) w.heap.size rfl (.tmp 15) (.tmp 18) 24 5 (.int .u8 0) 1 rfl Tryd.underlying24 info_u8 rfl (by decide) (by decide) _ (ints pre) (gk : Int) [.int .u8 (gk : Int)] (fun _ => True) (fun _ => False) rfl rfl rfl (fun _ h => h.elim) (fun _ _ => trivial) hRr.out (Below.refl _ _) hBs (by rw [ints_length]; omega) ?_; intro v1 w2 hR2 _ hg2 _; have HR2 := Lib.hid hR2; have HG2 := Lib.hid hg2; clear hR2 hg2)
      go_ret
      have hp : ints pre ++ [(gk : Int)] = ints (uv n) := by
        rw [← hpre.out, uv_small gk (by omega), ints_append]
        rfl
      have h2 := HR2.out
      rw [hp] at h2
      exact ⟨v1, rfl, h2, hBr.out.trans (Mod.below (S := fun k => w.heap.size ≤ k) ((Mod.refl _ _).grown HG2.out (fun k hk => .inl (Kd.R_base hRr.out k hk))) hBs (fun k hk => hk))⟩
theorem putVarint_calls (w : World) (n : Int) (h0 : -9223372036854775808 ≤ n) (h1 : n ≤ 9223372036854775807) :
    Calls Tryd.prog 63 #[.int .i64 n] w fun e w' => ∃ v, e = .returned v ∧ (Kd.int .u8).R 5 w' w.heap.size (fun _ => True) v (ints (uv (zigI n).toNat)) ∧ Below w.heap.size w w' := by
  have hz : 0 ≤ zigI n ∧ zigI n < 18446744073709551616 := by unfold zigI; split <;> omega
  obtain ⟨z, hz2⟩ := Int.eq_ofNat_of_zero_le hz.1
  have hz3 : z < 18446744073709551616 := by omega
  have HZ := Lib.hid hz2
  clear hz hz2
  go_enter Tryd.func63, Tryd.ntmps63
  go_wp2_with fail
  refine (zig_calls _ _ h0 h1).mono ?_
  rintro e w' ⟨rfl, rfl⟩
  rw [HZ.out]
  go_wp2_with fail
  refine (putUvarint_calls _ z hz3).mono ?_
  rintro e w' ⟨v, rfl, hR, hB⟩
  have HR := Lib.hid hR
  have HB := Lib.hid hB
  clear hR hB
  go_wp2_with fail
  go_ret
  exact ⟨v, rfl, by rw [HZ.out, Int.toNat_natCast]; exact HR.out, HB.out⟩
end Go.Proofs.YtmllgglcdlcdhaaDoor
end
